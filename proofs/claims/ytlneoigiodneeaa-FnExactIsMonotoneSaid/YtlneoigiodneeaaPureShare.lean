/- Shares: one test in the program and in the reference; one order; copies of lists of shares. No conditions. -/
import Derived.Test.YtlneoigiodneeaaPureIn
import Derived.Test.YtlneoigiodneeaaPureGcd
import Derived.Test.YtlneoigiodneeaaPf51
import Derived.Test.YtlneoigiodneeaaPf49
import Derived.Test.YtlneoigiodneeaaPf52
import Derived.Test.YtlneoigiodneeaaPf53
import Derived.Test.YtlneoigiodneeaaPf50
namespace Go.Proofs.Ytlneoigiodneeaa.Pure
set_option linter.unusedVariables false
set_option linter.unusedSimpArgs false
open Go.RowKit Go.Proofs.Ytlneoigiodneeaa.P Go.Proofs.YtlneoigiodneeaaW.PrintWords Go.Proofs.YtlneoigiodneeaaW.PrintLast
abbrev SH := S56
abbrev LS := S129
theorem rdsh (xs : List SH) (i : Nat) : rd_T56 xs (i : Int) = xs.getD i z56 := by simp [rd_T56]
theorem rdls (xs : List LS) (i : Nat) : rd_T129 xs (i : Int) = xs.getD i z129 := by simp [rd_T129]
def shareOk (x y : Int) : Bool := inb y 1 1000000 && (inb x 0 y && ((Nat.gcd x.toNat y.toNat : Nat) : Int) == 1)
theorem shareOk_bd {x y : Int} (h : shareOk x y = true) : 1 ≤ y ∧ y ≤ 1000000 ∧ 0 ≤ x ∧ x ≤ y := by
  unfold shareOk at h
  rw [Bool.and_eq_true, Bool.and_eq_true, inb_iff, inb_iff] at h
  omega
theorem l10Fraction_ev (x y : Int) : Ev (fun k => spec_l10Fraction.f k x y) (shareOk x y) := by
  unfold spec_l10Fraction.f shareOk
  simp only [l1In_is, Option.bind_some]
  cases h1 : inb y 1 1000000 with
  | false => exact ev_ifn (by simp) (ev_some _)
  | true =>
    cases h2 : inb x 0 y with
    | false => exact ev_ifp rfl (ev_ifn (by simp) (ev_some _))
    | true =>
      obtain ⟨p, rfl⟩ := Int.eq_ofNat_of_zero_le (inb_iff.1 h2).1
      obtain ⟨q, rfl⟩ := Int.eq_ofNat_of_zero_le (show 0 ≤ y by have := (inb_iff.1 h1).1; omega)
      exact ev_ifp rfl (ev_ifp rfl (ev_bind (l10Common_ev p q) (ev_some _)))
theorem isShare_ev (x y : Int) : Ev (fun k => impl_isShare.f k x y) (shareOk x y) := by
  unfold impl_isShare.f shareOk
  simp only [within_is, Option.bind_some]
  cases h1 : inb y 1 1000000 with
  | false => exact ev_ifn (by simp) (ev_some _)
  | true =>
    cases h2 : inb x 0 y with
    | false => exact ev_ifp rfl (ev_ifn (by simp) (ev_some _))
    | true =>
      obtain ⟨p, rfl⟩ := Int.eq_ofNat_of_zero_le (inb_iff.1 h2).1
      obtain ⟨q, rfl⟩ := Int.eq_ofNat_of_zero_le (show 0 ≤ y by have := (inb_iff.1 h1).1; omega)
      have h := divisorOf_ev q p
      rw [Nat.gcd_comm] at h
      exact ev_ifp rfl (ev_ifp rfl (ev_bind h (ev_some _)))
/-- Is a less than b (of shares)? -/
def lessSh (a b : SH) : Bool := decide (wrap64 (a.f0 * b.f1) < wrap64 (b.f0 * a.f1))
theorem compare_is (a b : SH) : impl_compareShares.f a.f0 a.f1 b.f0 b.f1 = some (if lessSh a b = true then -1 else if wrap64 (a.f0 * b.f1) > wrap64 (b.f0 * a.f1) then 1 else 0) := by
  unfold impl_compareShares.f cmp_Compare_int.f cmp_isNaN_int.f lessSh
  generalize wrap64 (a.f0 * b.f1) = x
  generalize wrap64 (b.f0 * a.f1) = y
  simp
  by_cases h : x < y
  · simp [h]
  · by_cases h2 : y < x
    · simp [h, h2]
    · simp [h, h2]
def sharesOk (l : List SH) : Bool := l.all (fun s => shareOk s.f0 s.f1)
/-- Does no share from index 1 on fall below the one ahead of it? -/
def rising (l : List SH) : Bool := rall (fun i => !lessSh (l.getD (i + 1) z56) (l.getD i z56)) 0 (l.length - 1)
def monoR (l : List SH) : Bool × Bool := if decide (l.length ≤ 20) && sharesOk l then (rising l, true) else (false, false)
theorem mono_l1 (l : List SH) (hl : l.length ≤ 20) : Ev (fun k => spec_IsMonotone.l1 k l 1) (rising l, true) := by
  have h := all_ev (fun k i => spec_IsMonotone.l1 k l ((i + 1 : Nat) : Int)) (l.length - 1) (fun i => !lessSh (l.getD (i + 1) z56) (l.getD i z56)) (false, true) (true, true)
    (fun i r hi hp h => ev_step (fun k => by
      have e : wrap64 (((i + 1 : Nat) : Int) - 1) = (i : Int) := by rw [w64 (by omega) (by omega)]; omega
      simp only [spec_IsMonotone.l1, spec_l10Less.f, e, Option.bind_some, rdsh]
      rw [if_pos (by omega), if_pos (by omega), if_pos (by omega), if_pos (by omega), if_neg (by simpa [lessSh] using hp), w64 (by omega) (by omega)]
      rfl) h)
    (fun i hi hp => ev_step (f := fun _ => some (false, true)) (fun k => by
      have e : wrap64 (((i + 1 : Nat) : Int) - 1) = (i : Int) := by rw [w64 (by omega) (by omega)]; omega
      simp only [spec_IsMonotone.l1, spec_l10Less.f, e, Option.bind_some, rdsh]
      rw [if_pos (by omega), if_pos (by omega), if_pos (by omega), if_pos (by omega), if_pos (by simpa [lessSh] using hp)]) (ev_some _))
    (ev_step (f := fun _ => some (true, true)) (fun k => by
      simp only [spec_IsMonotone.l1]
      rw [if_neg (by omega)]) (ev_some _)) 0 (Nat.zero_le _)
  unfold rising
  rw [Nat.sub_zero] at h
  cases e : rall (fun i => !lessSh (l.getD (i + 1) z56) (l.getD i z56)) 0 (l.length - 1) with
  | true => rw [e] at h; exact h
  | false => rw [e] at h; exact h
theorem isMonotoneS_ev (l : List SH) : Ev (fun k => spec_IsMonotone.f k l) (monoR l) := by
  unfold spec_IsMonotone.f monoR sharesOk
  by_cases hl : l.length ≤ 20
  · rw [decide_eq_true hl, Bool.true_and, ← rall_list l z56 (fun s => shareOk s.f0 s.f1)]
    refine ev_ifn (by omega) ?_
    have h := all_ev (fun k i => spec_IsMonotone.l0 k l (i : Int)) l.length (fun i => shareOk (l.getD i z56).f0 (l.getD i z56).f1) (false, false) (rising l, true)
      (fun i r hi hp h => ev_step (f := fun k => (spec_l10Fraction.f k (l.getD i z56).f0 (l.getD i z56).f1).bind fun t => if t = true then spec_IsMonotone.l0 k l ((i + 1 : Nat) : Int) else some (false, false)) (fun k => by
        simp only [spec_IsMonotone.l0, rdsh]
        rw [if_pos (by omega), if_pos (by omega), w64 (by omega) (by omega)]
        rfl) (ev_bind (l10Fraction_ev _ _) (by rw [hp]; exact ev_ifp rfl h)))
      (fun i hi hp => ev_step (f := fun k => (spec_l10Fraction.f k (l.getD i z56).f0 (l.getD i z56).f1).bind fun t => if t = true then spec_IsMonotone.l0 k l ((i + 1 : Nat) : Int) else some (false, false)) (fun k => by
        simp only [spec_IsMonotone.l0, rdsh]
        rw [if_pos (by omega), if_pos (by omega), w64 (by omega) (by omega)]
        rfl) (ev_bind (l10Fraction_ev _ _) (by rw [hp]; exact ev_ifn (by simp) (ev_some _))))
      (ev_step (f := fun k => spec_IsMonotone.l1 k l 1) (fun k => by
        simp only [spec_IsMonotone.l0]
        rw [if_neg (by omega)]) (mono_l1 l hl)) 0 (Nat.zero_le _)
    rw [Nat.sub_zero] at h
    exact h
  · rw [decide_eq_false hl, Bool.false_and]
    exact ev_ifp (by omega) (ev_some _)
theorem contains_ev (l : List SH) (hl : l.length ≤ 20) : Ev (fun k => slices_ContainsFunc_Share_at_impl_IsMonotone_1.f k l) (!sharesOk l) := by
  have h := find_ev (fun k i => slices_IndexFunc_Share_at_impl_IsMonotone_1.l0 k l (l.length : Int) (i : Int)) l.length (fun i => !shareOk (l.getD i z56).f0 (l.getD i z56).f1)
    (fun i r hi hp h => ev_step (f := fun k => (impl_IsMonotone_1.f k (l.getD i z56).f0 (l.getD i z56).f1).bind fun t => if t = true then some (i : Int) else slices_IndexFunc_Share_at_impl_IsMonotone_1.l0 k l (l.length : Int) ((i + 1 : Nat) : Int)) (fun k => by
      simp only [slices_IndexFunc_Share_at_impl_IsMonotone_1.l0, rdsh]
      rw [if_pos (by omega), if_pos (by omega), if_pos (by omega), w64 (by omega) (by omega)]
      rfl) (ev_bind (r := false) (ev_bind (isShare_ev _ _) (by rw [hp]; exact ev_some _)) (ev_ifn (by simp) h)))
    (fun i hi hp => ev_step (f := fun k => (impl_IsMonotone_1.f k (l.getD i z56).f0 (l.getD i z56).f1).bind fun t => if t = true then some (i : Int) else slices_IndexFunc_Share_at_impl_IsMonotone_1.l0 k l (l.length : Int) ((i + 1 : Nat) : Int)) (fun k => by
      simp only [slices_IndexFunc_Share_at_impl_IsMonotone_1.l0, rdsh]
      rw [if_pos (by omega), if_pos (by omega), if_pos (by omega), w64 (by omega) (by omega)]
      rfl) (ev_bind (r := true) (ev_bind (isShare_ev _ _) (by rw [hp]; exact ev_some _)) (ev_ifp rfl (ev_some _))))
    (ev_step (f := fun _ => some (-1)) (fun k => by
      simp only [slices_IndexFunc_Share_at_impl_IsMonotone_1.l0]
      rw [if_neg (by omega)]) (ev_some _))
  have e : (!sharesOk l) = decide (fidx (fun i => !shareOk (l.getD i z56).f0 (l.getD i z56).f1) 0 l.length ≥ 0) := by
    rw [fidx_nonneg]
    unfold sharesOk
    rw [← rall_list l z56 (fun s => shareOk s.f0 s.f1)]
    simp only [Bool.not_not]
  rw [e]
  exact ev_bind h (ev_some _)
theorem sorted_ev (l : List SH) (hl : l.length ≤ 20) : Ev (fun k => slices_IsSortedFunc_Share_at_impl_compareShares.f k l) (rising l) := by
  have key : ∀ d, d ≤ l.length - 1 → Ev (fun k => slices_IsSortedFunc_Share_at_impl_compareShares.l0 k l (d : Int)) (rall (fun i => !lessSh (l.getD (i + 1) z56) (l.getD i z56)) 0 d) := by
    intro d
    induction d with
    | zero =>
      intro _
      exact ev_step (f := fun _ => some true) (fun k => by
        simp only [slices_IsSortedFunc_Share_at_impl_compareShares.l0]
        rw [if_neg (by omega)]) (ev_some _)
    | succ d ih =>
      intro hd
      have e : wrap64 (((d + 1 : Nat) : Int) - 1) = (d : Int) := by rw [w64 (by omega) (by omega)]; omega
      have e2 : rall (fun i => !lessSh (l.getD (i + 1) z56) (l.getD i z56)) 0 (d + 1) = (rall (fun i => !lessSh (l.getD (i + 1) z56) (l.getD i z56)) 0 d && !lessSh (l.getD (d + 1) z56) (l.getD d z56)) := by
        rw [Bool.eq_iff_iff, Bool.and_eq_true, rall_iff, rall_iff]
        constructor
        · intro h
          exact ⟨fun j h1 h2 => h j h1 (by omega), h d (Nat.zero_le _) (by omega)⟩
        · rintro ⟨h, h'⟩ j h1 h2
          by_cases ej : j = d
          · rw [ej]; exact h'
          · exact h j h1 (by omega)
      rw [e2]
      cases hp : lessSh (l.getD (d + 1) z56) (l.getD d z56) with
      | true =>
        rw [Bool.not_true, Bool.and_false]
        exact ev_step (f := fun _ => some false) (fun k => by
          simp only [slices_IsSortedFunc_Share_at_impl_compareShares.l0, e, rdsh, compare_is, Option.bind_some]
          rw [if_pos (by omega), if_pos (by omega), if_pos (by omega), if_pos (by omega), if_pos (by omega), hp, if_pos rfl, if_pos (by omega)]) (ev_some _)
      | false =>
        rw [Bool.not_false, Bool.and_true]
        refine ev_step (fun k => ?_) (ih (by omega))
        simp only [slices_IsSortedFunc_Share_at_impl_compareShares.l0, e, rdsh, compare_is, Option.bind_some]
        rw [if_pos (by omega), if_pos (by omega), if_pos (by omega), if_pos (by omega), if_pos (by omega), hp, if_neg (by rw [if_neg (by decide)]; split <;> omega)]
  unfold slices_IsSortedFunc_Share_at_impl_compareShares.f rising
  by_cases h0 : l.length = 0
  · rw [h0]
    refine ev_step (f := fun _ => some true) (fun k => ?_) (ev_some _)
    rw [w64 (by omega) (by omega)]
    simp only [slices_IsSortedFunc_Share_at_impl_compareShares.l0]
    rw [if_neg (by omega)]
  · rw [show wrap64 ((l.length : Int) - 1) = ((l.length - 1 : Nat) : Int) by rw [w64 (by omega) (by omega)]; omega]
    exact key (l.length - 1) (Nat.le_refl _)
theorem isMonotoneI_ev (l : List SH) : Ev (fun k => impl_IsMonotone.f k l) (monoR l) := by
  unfold impl_IsMonotone.f monoR
  by_cases hl : l.length ≤ 20
  · rw [decide_eq_true hl, Bool.true_and]
    refine ev_ifn (by omega) (ev_bind (contains_ev l hl) ?_)
    cases sharesOk l with
    | false => exact ev_ifp rfl (ev_some _)
    | true => exact ev_ifn (by simp) (ev_bind (sorted_ev l hl) (ev_some _))
  · rw [decide_eq_false hl, Bool.false_and]
    exact ev_ifp (by omega) (ev_some _)
def ofS (p : LS) : SH := ⟨p.f0, p.f1⟩
theorem toShareS_ev (xs : List LS) (hm : xs.length ≤ 17592186044416) : Ev (fun k => laws_toShareS.f k xs) (xs.map ofS) := by
  have h := copy_ev (fun k ys i => laws_toShareS.l0 k xs ys (i : Int)) xs ofS z129 z56
    (fun i ys r hl hi h => ev_step (fun k => by
      show laws_toShareS.l0 (k + 1) xs ys (i : Int) = laws_toShareS.l0 k xs (ys.set i (ofS (xs.getD i _))) ((i + 1 : Nat) : Int)
      simp only [laws_toShareS.l0, laws_toShare.f, Option.bind_some]
      rw [if_pos (by omega), if_pos (by omega), if_pos (by omega), w64 (by omega) (by omega), rdls]
      rfl) h)
    (fun ys hl => ev_step (f := fun _ => some ys) (fun k => by
      simp only [laws_toShareS.l0]
      rw [if_neg (by omega)]) (ev_some _)) (List.replicate xs.length z56) (by simp)
  refine Ev.congr (fun k => ?_) h
  unfold laws_toShareS.f
  rw [if_pos (by omega), if_pos (by omega)]
  rfl
theorem eqShareS_self (xs : List SH) (hm : xs.length ≤ 9223372036854775806) : Ev (fun k => laws_eqShareS.f k xs xs) true := by
  have h := allb_ev (fun k i => laws_eqShareS.l0 k xs xs (i : Int)) xs.length (fun _ => true)
    (fun i r hi _ h => ev_step (fun k => by
      simp only [laws_eqShareS.l0, laws_eqShare.f]
      rw [if_pos (by omega), if_pos (by omega), if_pos (by omega), if_pos trivial, if_pos trivial, Option.bind_some, if_pos rfl, w64 (by omega) (by omega)]
      rfl) h)
    (fun i hi hp => by cases hp)
    (ev_step (f := fun _ => some true) (fun k => by
      simp only [laws_eqShareS.l0]
      rw [if_neg (by omega)]) (ev_some _))
  rw [(rall_iff (fun _ => true) xs.length 0).2 (fun _ _ _ => rfl)] at h
  refine Ev.congr (fun k => ?_) h
  unfold laws_eqShareS.f
  rw [if_pos rfl]
  rfl
theorem szShareS_go (l : List LS) (s : Int) (hs : 0 ≤ s) (hs2 : s ≤ 1048576) (hl : l.length ≤ 9223372036854775807) :
    (∃ r, laws_szShareS.f l s = some r ∧ r < 0) ∨ ∃ r, laws_szShareS.f l s = some r ∧ ¬ r < 0 ∧ 0 ≤ r ∧ r ≤ 1048576 ∧ l.length ≤ 1048576 := by
  unfold laws_szShareS.f
  rw [w64 (by omega) (by omega)]
  by_cases h : s - (l.length : Int) < 0
  · rw [if_pos h]
    exact .inl ⟨_, rfl, by omega⟩
  · rw [if_neg h]
    exact .inr ⟨_, rfl, h, by omega, by omega, by omega⟩
end Go.Proofs.Ytlneoigiodneeaa.Pure
