/- Texts of the claim FnExactGrowthOf, merged: part 6 of 6: the program's and the reference's functions as Lean functions, the walks that show it, and plain lemmas; no conditions. -/
import Derived.Test.YthekngnkajjhnaaKFnExactGrowthOf5
import Derived.Test.YthekngnkajjhnaaKFnExactGrowthOf2
import Derived.Test.YthekngnkajjhnaaKFnExactGrowthOf3
import Derived.Test.YthekngnkajjhnaaKFnExactGrowthOf4
import Derived.Test.YthekngnkajjhnaaRows
import Derived.WalkKit
import Derived.ProofKit
import Derived.OpenShut
import Derived.ShutString
import Derived.ChangeOld
import Derived.Below
import Derived.SizedLaws
namespace Go.Proofs.Ythekngnkajjhnaa.Pure
set_option linter.unusedVariables false
set_option linter.unusedSimpArgs false
open Go.RowKit Go.Proofs.Ythekngnkajjhnaa.P Go.Proofs.YthekngnkajjhnaaW.PrintWords Go.Proofs.YthekngnkajjhnaaW.PrintLast
abbrev LT := S162
theorem l12List_ev (l : List SS) (hl : l.length ≤ 9223372036854775806) : Ev (fun k => spec_l12List.f k l) (stormsOk l) := by
  have fin : ∀ i : Int, Ev (fun k => spec_l12List.j1 k l i false) (decide ((l.length : Int) ≤ 5)) := fun i => ev_step (f := fun _ => some (decide ((l.length : Int) ≤ 5))) (fun k => by simp [spec_l12List.j1]) (ev_some _)
  have step : ∀ (i : Nat) (r : Bool), i < l.length → i ≤ 5 → stormOk (l.getD i z160) = true → Ev (fun k => spec_l12List.l0 k l ((i + 1 : Nat) : Int)) r → Ev (fun k => spec_l12List.l0 k l (i : Int)) r := by
    intro i r hi h5 hp h
    refine ev_step (f := fun k => spec_l12List.j1 k l (i : Int) true) (fun k => by
      simp only [spec_l12List.l0]
      rw [if_pos (by omega), decide_eq_true (by omega)]) (ev_step (fun k => ?_) h)
    simp only [spec_l12List.j1, rdst, l12Good_is, Option.bind_some]
    rw [if_pos trivial, if_pos (by omega), if_pos (by omega), if_pos hp, w64 (by omega) (by omega)]
    rfl
  have stop : ∀ i : Nat, i < l.length → i ≤ 5 → stormOk (l.getD i z160) = false → Ev (fun k => spec_l12List.l0 k l (i : Int)) false := by
    intro i hi h5 hp
    refine ev_step (f := fun k => spec_l12List.j1 k l (i : Int) true) (fun k => by
      simp only [spec_l12List.l0]
      rw [if_pos (by omega), decide_eq_true (by omega)]) (ev_step (f := fun _ => some false) (fun k => ?_) (ev_some _))
    simp only [spec_l12List.j1, rdst, l12Good_is, Option.bind_some]
    rw [if_pos trivial, if_pos (by omega), if_pos (by omega), if_neg (by rw [hp]; decide)]
  unfold stormsOk
  by_cases h5 : l.length ≤ 5
  · rw [decide_eq_true h5, Bool.true_and, ← rall_list l z160 stormOk]
    refine allb_ev (fun k i => spec_l12List.l0 k l (i : Int)) l.length (fun i => stormOk (l.getD i z160)) (fun i r hi hp h => step i r hi (by omega) hp h) (fun i hi hp => stop i hi (by omega) hp) ?_
    refine ev_step (f := fun k => spec_l12List.j1 k l (l.length : Int) false) (fun k => by
      simp only [spec_l12List.l0]
      rw [if_neg (by omega)]) ?_
    have := fin (l.length : Int)
    rw [decide_eq_true (by omega)] at this
    exact this
  · rw [decide_eq_false h5, Bool.false_and]
    have h := all_ev (fun k i => spec_l12List.l0 k l (i : Int)) 6 (fun i => stormOk (l.getD i z160)) false false (fun i r hi hp h => step i r (by omega) (by omega) hp h) (fun i hi hp => stop i (by omega) (by omega) hp)
      (ev_step (f := fun k => spec_l12List.j1 k l ((6 : Nat) : Int) false) (fun k => by
        simp only [spec_l12List.l0]
        rw [decide_eq_false (p := ((6 : Nat) : Int) ≤ 5) (by decide)]
        split <;> rfl) (by
        have := fin ((6 : Nat) : Int)
        rw [decide_eq_false (p := (l.length : Int) ≤ 5) (by omega)] at this
        exact this)) 0 (Nat.zero_le _)
    have e : (if rall (fun i => stormOk (l.getD i z160)) 0 (6 - 0) = true then false else false) = false := by split <;> rfl
    rw [e] at h
    exact h
def apartAt (t : List Int) (i : Nat) : Bool := !(decide (t.getD i 0 ≥ 0) && decide (t.getD i 0 ∈ t.take i))
def trackOk (a b : List SS) (t : List Int) : Bool := stormsOk a && (stormsOk b && (decide (t.length = a.length) && rall (fun i => inb (t.getD i 0) (-1) ((b.length : Int) - 1) && apartAt t i) 0 t.length))
theorem stormsOk_len {l : List SS} (h : stormsOk l = true) : l.length ≤ 5 := by
  unfold stormsOk at h
  rw [Bool.and_eq_true, decide_eq_true_eq] at h
  exact h.1
theorem l12Tracking_ev (a b : List SS) (t : List Int) (ha : a.length ≤ 9223372036854775806) (hb : b.length ≤ 9223372036854775806) : Ev (fun k => spec_l12Tracking.f k a b t) (trackOk a b t) := by
  have no : Ev (fun k => spec_l12Tracking.j0 k b t true) false := ev_step (f := fun _ => some false) (fun k => by simp [spec_l12Tracking.j0]) (ev_some _)
  unfold spec_l12Tracking.f trackOk
  refine ev_bind (l12List_ev a ha) ?_
  cases h1 : stormsOk a with
  | false => exact ev_ifn (by simp) no
  | true =>
    refine ev_ifp rfl (ev_bind (l12List_ev b hb) ?_)
    cases h2 : stormsOk b with
    | false => exact ev_ifn (by simp) no
    | true =>
      refine ev_ifp rfl ?_
      have la := stormsOk_len h1
      have lb := stormsOk_len h2
      by_cases hl : t.length = a.length
      · rw [decide_eq_true hl, show ((t.length : Int) != (a.length : Int)) = false by rw [bne_eq_false_iff_eq]; omega]
        refine ev_step (f := fun k => spec_l12Tracking.l0 k b t 0) (fun k => by simp [spec_l12Tracking.j0]) ?_
        simp only [Bool.true_and]
        refine allb_ev (fun k i => spec_l12Tracking.l0 k b t (i : Int)) t.length (fun i => inb (t.getD i 0) (-1) ((b.length : Int) - 1) && apartAt t i) ?_ ?_ ?_
        · intro i r hi hp h
          rw [Bool.and_eq_true] at hp
          have hs : (t.take i).length ≤ 9223372036854775806 := by simp; omega
          have hp2 := hp.2
          unfold apartAt at hp2
          by_cases h0 : t.getD i 0 ≥ 0
          · rw [decide_eq_true h0, Bool.true_and] at hp2
            refine ev_step (f := fun k => (spec_l1Has.f k (t.take i) (t.getD i 0)).bind fun q => if q = true then some false else spec_l12Tracking.l0 k b t ((i + 1 : Nat) : Int)) (fun k => by
              simp only [spec_l12Tracking.l0, l1In_is, Option.bind_some, rd_nat]
              rw [w64 (show -9223372036854775808 ≤ (b.length : Int) - 1 by omega) (by omega), if_pos (by omega), if_pos (by omega), if_pos hp.1, if_pos h0, if_pos (by omega), w64 (by omega) (by omega)]
              rfl) (ev_bind (l1Has_ev _ _ hs) (ev_ifn (by simpa using hp2) h))
          · exact ev_step (fun k => by
              simp only [spec_l12Tracking.l0, l1In_is, Option.bind_some, rd_nat]
              rw [w64 (show -9223372036854775808 ≤ (b.length : Int) - 1 by omega) (by omega), if_pos (by omega), if_pos (by omega), if_pos hp.1, if_neg h0, w64 (by omega) (by omega)]
              rfl) h
        · intro i hi hp
          have hs : (t.take i).length ≤ 9223372036854775806 := by simp; omega
          cases h3 : inb (t.getD i 0) (-1) ((b.length : Int) - 1) with
          | false =>
            exact ev_step (f := fun _ => some false) (fun k => by
              simp only [spec_l12Tracking.l0, l1In_is, Option.bind_some, rd_nat]
              rw [w64 (show -9223372036854775808 ≤ (b.length : Int) - 1 by omega) (by omega), if_pos (by omega), if_pos (by omega), h3]
              rfl) (ev_some _)
          | true =>
            rw [h3, Bool.true_and] at hp
            unfold apartAt at hp
            rw [Bool.not_eq_false', Bool.and_eq_true] at hp
            have h0 := of_decide_eq_true hp.1
            refine ev_step (f := fun k => (spec_l1Has.f k (t.take i) (t.getD i 0)).bind fun q => if q = true then some false else spec_l12Tracking.l0 k b t ((i + 1 : Nat) : Int)) (fun k => by
              simp only [spec_l12Tracking.l0, l1In_is, Option.bind_some, rd_nat]
              rw [w64 (show -9223372036854775808 ≤ (b.length : Int) - 1 by omega) (by omega), if_pos (by omega), if_pos (by omega), if_pos h3, if_pos h0, if_pos (by omega), w64 (by omega) (by omega)]
              rfl) (ev_bind (l1Has_ev _ _ hs) (ev_ifp hp.2 (ev_some _)))
        · exact ev_step (f := fun _ => some true) (fun k => by
            simp only [spec_l12Tracking.l0]
            rw [if_neg (by omega)]) (ev_some _)
      · rw [decide_eq_false hl, show ((t.length : Int) != (a.length : Int)) = true by rw [bne_iff_ne]; omega]
        exact no
theorem isTracking_ev (a b : List SS) (t : List Int) : Ev (fun k => impl_isTracking.f k a b t) (trackOk a b t) := by
  have no : Ev (fun k => impl_isTracking.j0 k t true) false := ev_step (f := fun _ => some false) (fun k => by simp [impl_isTracking.j0]) (ev_some _)
  unfold impl_isTracking.f trackOk
  refine ev_bind (areStorms_ev a) ?_
  cases h1 : stormsOk a with
  | false => exact ev_ifn (by simp) no
  | true =>
    refine ev_ifp rfl (ev_bind (areStorms_ev b) ?_)
    cases h2 : stormsOk b with
    | false => exact ev_ifn (by simp) no
    | true =>
      refine ev_ifp rfl ?_
      have la := stormsOk_len h1
      have lb := stormsOk_len h2
      by_cases hl : t.length = a.length
      · rw [decide_eq_true hl, w64 (by omega) (by omega), rall_and]
        simp only [Bool.true_and]
        refine ev_ifp (by omega) (ev_bind (allWithin_ev t _ _ (by omega)) ?_)
        cases h3 : rall (fun i => inb (t.getD i 0) (-1) ((b.length : Int) - 1)) 0 t.length with
        | false => exact no
        | true =>
          simp only [Bool.true_and, Bool.not_true]
          refine ev_step (f := fun k => impl_isTracking.l0 k t t (t.length : Int) 0) (fun k => by simp [impl_isTracking.j0]) ?_
          refine allb_ev (fun k i => impl_isTracking.l0 k t t (t.length : Int) (i : Int)) t.length (apartAt t) ?_ ?_ ?_
          · intro i r hi hp h
            have hs : (t.take i).length ≤ 9223372036854775806 := by simp; omega
            unfold apartAt at hp
            by_cases h0 : t.getD i 0 ≥ 0
            · rw [decide_eq_true h0, Bool.true_and] at hp
              refine ev_step (f := fun k => (slices_Contains_int_int.f k (t.take i) (t.getD i 0)).bind fun q => if q = true then some false else impl_isTracking.l0 k t t (t.length : Int) ((i + 1 : Nat) : Int)) (fun k => by
                simp only [impl_isTracking.l0, rd_nat]
                rw [if_pos (by omega), if_pos (by omega), if_pos (by omega), if_pos h0, if_pos (by omega), w64 (by omega) (by omega)]
                rfl) (ev_bind (contains_is _ _ hs) (ev_ifn (by simpa using hp) h))
            · exact ev_step (fun k => by
                simp only [impl_isTracking.l0, rd_nat]
                rw [if_pos (by omega), if_pos (by omega), if_pos (by omega), if_neg h0, w64 (by omega) (by omega)]
                rfl) h
          · intro i hi hp
            have hs : (t.take i).length ≤ 9223372036854775806 := by simp; omega
            unfold apartAt at hp
            rw [Bool.not_eq_false', Bool.and_eq_true] at hp
            have h0 := of_decide_eq_true hp.1
            refine ev_step (f := fun k => (slices_Contains_int_int.f k (t.take i) (t.getD i 0)).bind fun q => if q = true then some false else impl_isTracking.l0 k t t (t.length : Int) ((i + 1 : Nat) : Int)) (fun k => by
              simp only [impl_isTracking.l0, rd_nat]
              rw [if_pos (by omega), if_pos (by omega), if_pos (by omega), if_pos h0, if_pos (by omega), w64 (by omega) (by omega)]
              rfl) (ev_bind (contains_is _ _ hs) (ev_ifp hp.2 (ev_some _)))
          · exact ev_step (f := fun _ => some true) (fun k => by
              simp only [impl_isTracking.l0]
              rw [if_neg (by omega)]) (ev_some _)
      · rw [decide_eq_false hl]
        exact ev_ifn (by omega) no
theorem rdlt (xs : List LT) (i : Nat) : rd_T162 xs (i : Int) = xs.getD i z162 := by simp [rd_T162]
def ofT (p : LT) : SS := ⟨p.f0, p.f1, p.f2, p.f3⟩
theorem toStormS_ev (xs : List LT) (hm : xs.length ≤ 8796093022208) : Ev (fun k => laws_toStormS.f k xs) (xs.map ofT) := by
  have h := copy_ev (fun k ys i => laws_toStormS.l0 k xs ys (i : Int)) xs ofT z162 z160
    (fun i ys r hl hi h => ev_step (fun k => by
      show laws_toStormS.l0 (k + 1) xs ys (i : Int) = laws_toStormS.l0 k xs (ys.set i (ofT (xs.getD i _))) ((i + 1 : Nat) : Int)
      simp only [laws_toStormS.l0, laws_toStorm.f, Option.bind_some]
      rw [if_pos (by omega), if_pos (by omega), if_pos (by omega), w64 (by omega) (by omega), rdlt]
      rfl) h)
    (fun ys hl => ev_step (f := fun _ => some ys) (fun k => by
      simp only [laws_toStormS.l0]
      rw [if_neg (by omega)]) (ev_some _)) (List.replicate xs.length z160) (by simp)
  refine Ev.congr (fun k => ?_) h
  unfold laws_toStormS.f
  rw [if_pos (by omega), if_pos (by omega)]
  rfl
theorem eqStormS_self (xs : List SS) (hm : xs.length ≤ 9223372036854775806) : Ev (fun k => laws_eqStormS.f k xs xs) true := by
  have h := allb_ev (fun k i => laws_eqStormS.l0 k xs xs (i : Int)) xs.length (fun _ => true)
    (fun i r hi _ h => ev_step (fun k => by
      simp only [laws_eqStormS.l0, laws_eqStorm.f]
      rw [if_pos (by omega), if_pos (by omega), if_pos (by omega), if_pos trivial, if_pos trivial, if_pos trivial, if_pos trivial, Option.bind_some, if_pos rfl, w64 (by omega) (by omega)]
      rfl) h)
    (fun i hi hp => by cases hp)
    (ev_step (f := fun _ => some true) (fun k => by
      simp only [laws_eqStormS.l0]
      rw [if_neg (by omega)]) (ev_some _))
  rw [(rall_iff (fun _ => true) xs.length 0).2 (fun _ _ _ => rfl)] at h
  refine Ev.congr (fun k => ?_) h
  unfold laws_eqStormS.f
  rw [if_pos rfl]
  rfl
theorem szStormS_go (l : List LT) (s : Int) (hs : 0 ≤ s) (hs2 : s ≤ 1048576) (hl : l.length ≤ 9223372036854775807) :
    (∃ r, laws_szStormS.f l s = some r ∧ r < 0) ∨ ∃ r, laws_szStormS.f l s = some r ∧ ¬ r < 0 ∧ 0 ≤ r ∧ r ≤ 1048576 ∧ l.length ≤ 1048576 := by
  unfold laws_szStormS.f
  rw [w64 (by omega) (by omega)]
  by_cases h : s - (l.length : Int) < 0
  · rw [if_pos h]
    exact .inl ⟨_, rfl, by omega⟩
  · rw [if_neg h]
    exact .inr ⟨_, rfl, h, by omega, by omega, by omega⟩
end Go.Proofs.Ythekngnkajjhnaa.Pure
namespace Go.Proofs.Ythekngnkajjhnaa.Pure
set_option linter.unusedVariables false
set_option linter.unusedSimpArgs false
open Go.RowKit Go.Proofs.YthekngnkajjhnaaW.PrintWords Go.Proofs.YthekngnkajjhnaaW.PrintLast Go.Proofs.YthekngnkajjhnaaW.PrintMore
def tab {α : Type} (n : Nat) (q : Nat → α) : List α := (List.range n).map q
theorem tab_length {α : Type} (n : Nat) (q : Nat → α) : (tab n q).length = n := by simp [tab]
theorem tab_getD {α : Type} (n : Nat) (q : Nat → α) (z : α) {i : Nat} (h : i < n) : (tab n q).getD i z = q i := by simp [tab, List.getD, h]
theorem iter_set_tab {α : Type} (z : α) (q : Nat → α) (n : Nat) (s : List α) (hs : s.length = n) : iter (fun i (s : List α) => s.set i (q i)) 0 n s = tab n q := by
  have hi := iter_inv (fun i (s : List α) => s.set i (q i)) (fun i s => s.length = n ∧ ∀ j, j < i → s.getD j z = q j) n
    (fun i s hI hi => ⟨by simp [hI.1], fun j hj => by
      by_cases e : j = i
      · subst e
        have := hI.1
        simp [List.getD, List.getElem?_set_self (show j < s.length by omega)]
      · rw [← hI.2 j (by omega)]
        simp [List.getD, List.getElem?_set_ne (Ne.symm e)]⟩) n 0 s (by omega) ⟨hs, fun j hj => by omega⟩
  exact eq_index z (by rw [hi.1, tab_length]) (fun j hj => by rw [hi.2 j (by have := hi.1; omega), tab_getD _ _ z (by have := hi.1; omega)])
theorem iter_app_tab {α : Type} (q : Nat → α) : ∀ d i (s : List α), iter (fun i (s : List α) => s ++ [q i]) i d s = s ++ (List.range d).map (fun j => q (i + j)) := by
  intro d
  induction d with
  | zero => intro i s; simp [iter]
  | succ d ih =>
    intro i s
    show iter _ (i + 1) d (s ++ [q i]) = _
    rw [ih (i + 1) (s ++ [q i]), List.append_assoc, List.range_succ_eq_map, List.map_cons, List.map_map]
    congr 1
    show [q i] ++ _ = q (i + 0) :: _
    rw [List.singleton_append, Nat.add_zero]
    congr 1
    refine List.map_congr_left (fun j _ => ?_)
    show q (i + 1 + j) = q (i + (j + 1))
    congr 1
    omega
theorem iter_app0 {α : Type} (q : Nat → α) (n : Nat) : iter (fun i (s : List α) => s ++ [q i]) 0 n [] = tab n q := by
  rw [iter_app_tab, List.nil_append]
  unfold tab
  exact List.map_congr_left (fun j _ => by rw [Nat.zero_add])
end Go.Proofs.Ythekngnkajjhnaa.Pure
namespace Go.Proofs.Ythekngnkajjhnaa.Pure
set_option linter.unusedVariables false
set_option linter.unusedSimpArgs false
open Go.RowKit Go.Proofs.Ythekngnkajjhnaa.P Go.Proofs.YthekngnkajjhnaaW.PrintWords Go.Proofs.YthekngnkajjhnaaW.PrintLast
abbrev A2 := S158
theorem rda2 (xs : List A2) (i : Nat) : rd_T158 xs (i : Int) = xs.getD i z158 := by simp [rd_T158]
theorem eqIntA2S_self (l : List A2) (hl : l.length ≤ 9223372036854775806) : Ev (fun k => laws_eqIntA2S.f k l l) true := by
  refine Ev.congr (fun k => by unfold laws_eqIntA2S.f; rw [if_pos rfl]) ?_
  exact loop_ev (σ := Unit) (fun k _ i => laws_eqIntA2S.l0 k l l (i : Int)) l.length (fun _ _ => ()) (fun _ => true) (fun _ _ => True)
    (fun i s r _ hi h => by
      have e1 := Aside0.mk (show wrap64 ((i : Int) + 1) = ((i + 1 : Nat) : Int) by rw [w64 (by omega) (by omega)]; rfl)
      refine ev_step (fun k => laws_eqIntA2S.l0.eq_2 _ _ _ k) (ev_ifp (by omega) (ev_ifp (by omega) (ev_ifp (by omega) (ev_bind (ev_const (show _ = some true by unfold laws_eqIntA2.f; rw [if_pos rfl, if_pos rfl])) (ev_ifp rfl ?_)))))
      rw [e1.out]
      exact h)
    (fun _ _ _ _ => trivial)
    (fun _ _ => ev_step (fun k => laws_eqIntA2S.l0.eq_2 _ _ _ k) (ev_ifn (by omega) (ev_some _))) 0 () (Nat.zero_le _) trivial
def acnt (a : Int) (n : Nat) : List A2 := tab n (fun i => (⟨a + 2 * (i : Int), a + 2 * (i : Int) + 1⟩ : A2))
theorem acnt_length (a : Int) (n : Nat) : (acnt a n).length = n := tab_length _ _
theorem acnt_get (a : Int) (n i : Nat) (h : i < n) : (acnt a n).getD i z158 = ⟨a + 2 * (i : Int), a + 2 * (i : Int) + 1⟩ := tab_getD _ _ _ h
theorem markIntA2S_ev (l : List A2) (a : Int) (h0 : 0 ≤ a) (h1 : a + 2 * l.length ≤ 9223372036854775800) : Ev (fun k => laws_markIntA2S.f k l a) (a + 2 * l.length, acnt a l.length) := by
  have h := loop_ev (fun k s i => laws_markIntA2S.l0 k s (a + 2 * (i : Int)) (i : Int)) l.length (fun i s => s.set i (⟨a + 2 * (i : Int), a + 2 * (i : Int) + 1⟩ : A2)) (fun s => (a + 2 * (l.length : Int), s)) (fun _ s => s.length = l.length)
    (fun i s r hI hi h => by
      have e1 := Aside0.mk (show wrap64 ((i : Int) + 1) = ((i + 1 : Nat) : Int) by rw [w64 (by omega) (by omega)]; rfl)
      have e2 := Aside0.mk (show wrap64 (a + 2 * (i : Int) + 1) = a + 2 * (i : Int) + 1 from w64 (by omega) (by omega))
      have e3 := Aside0.mk (show wrap64 (a + 2 * (i : Int) + 1 + 1) = a + 2 * ((i + 1 : Nat) : Int) by rw [w64 (by omega) (by omega)]; omega)
      refine ev_step (fun k => laws_markIntA2S.l0.eq_2 _ _ _ k) (ev_ifp (by omega) (ev_ifp (by omega) ?_))
      rw [Int.toNat_natCast, e2.out, e3.out, e1.out]
      exact h)
    (fun i s hI _ => by simpa using hI)
    (fun s hI => ev_step (fun k => laws_markIntA2S.l0.eq_2 _ _ _ k) (ev_ifn (by omega) (ev_some _))) 0 l (Nat.zero_le _) rfl
  rw [Nat.sub_zero, iter_set_tab z158 (fun i : Nat => (⟨a + 2 * (i : Int), a + 2 * (i : Int) + 1⟩ : A2)) l.length l rfl] at h
  refine Ev.congr (fun k => ?_) h
  unfold laws_markIntA2S.f
  simp
theorem heldIntA2S_ev (a : Int) (n : Nat) (h0 : 0 ≤ a) (h1 : a + 2 * n ≤ 9223372036854775800) : Ev (fun k => laws_heldIntA2S.f k (acnt a n) a) (a + 2 * n) := by
  have hl := acnt_length a n
  have h := loop_ev (σ := Unit) (fun k _ i => laws_heldIntA2S.l0 k (acnt a n) (a + 2 * (i : Int)) (i : Int)) n (fun _ _ => ()) (fun _ => a + 2 * (n : Int)) (fun _ _ => True)
    (fun i s r _ hi h => by
      have e1 := Aside0.mk (show wrap64 ((i : Int) + 1) = ((i + 1 : Nat) : Int) by rw [w64 (by omega) (by omega)]; rfl)
      have e2 := Aside0.mk (show wrap64 (a + 2 * (i : Int) + 1) = a + 2 * (i : Int) + 1 from w64 (by omega) (by omega))
      have e3 := Aside0.mk (show wrap64 (a + 2 * (i : Int) + 1 + 1) = a + 2 * ((i + 1 : Nat) : Int) by rw [w64 (by omega) (by omega)]; omega)
      refine ev_step (fun k => laws_heldIntA2S.l0.eq_2 _ _ _ k) (ev_ifp (by omega) (ev_ifp (by omega) ?_))
      rw [rda2, acnt_get a n i hi, e2.out, e3.out, e1.out]
      exact ev_ifp rfl (ev_ifp rfl h))
    (fun _ _ _ _ => trivial)
    (fun _ _ => ev_step (fun k => laws_heldIntA2S.l0.eq_2 _ _ _ k) (ev_ifn (by omega) (ev_some _))) 0 () (Nat.zero_le _) trivial
  refine Ev.congr (fun k => ?_) h
  unfold laws_heldIntA2S.f
  simp
def growOf (a b : List SS) (t : List Int) (i : Nat) : A2 :=
  if t.getD i 0 < 0 then ⟨0, 0⟩ else ⟨wrap64 ((b.getD (t.getD i 0).toNat z160).f2 - (a.getD i z160).f2), wrap64 ((b.getD (t.getD i 0).toNat z160).f3 - (a.getD i z160).f3)⟩
theorem trackOk_at {a b : List SS} {t : List Int} (h : trackOk a b t = true) {i : Nat} (hi : i < t.length) : -1 ≤ t.getD i 0 ∧ t.getD i 0 < (b.length : Int) := by
  unfold trackOk at h
  rw [Bool.and_eq_true, Bool.and_eq_true, Bool.and_eq_true] at h
  have h1 := (rall_iff _ _ _).1 h.2.2.2 i (Nat.zero_le _) (by omega)
  rw [Bool.and_eq_true] at h1
  have h2 := inb_iff.1 h1.1
  omega
theorem growthOf_both (a b : List SS) (t : List Int) (ha : a.length ≤ 9223372036854775806) (hb : b.length ≤ 9223372036854775806) :
    ∃ r, Ev (fun k => spec_GrowthOf.f k a b t) r ∧ Ev (fun k => impl_GrowthOf.f k a b t) r ∧ r.1.length ≤ 5 := by
  have g1 := l12Tracking_ev a b t ha hb
  have g2 := isTracking_ev a b t
  unfold spec_GrowthOf.f impl_GrowthOf.f
  cases h : trackOk a b t with
  | false =>
    rw [h] at g1 g2
    exact ⟨([], false), ev_bind (ev_some _) (ev_bind g1 (ev_ifn (by simp) (ev_some _))), ev_bind g2 (ev_ifn (by simp) (ev_some _)), by simp⟩
  | true =>
    rw [h] at g1 g2
    have h5 := h
    unfold trackOk at h5
    rw [Bool.and_eq_true, Bool.and_eq_true, Bool.and_eq_true] at h5
    have la := stormsOk_len h5.1
    have lb := stormsOk_len h5.2.1
    have lt : t.length = a.length := of_decide_eq_true h5.2.2.1
    refine ⟨(tab a.length (growOf a b t), true), ev_bind (ev_some _) (ev_bind g1 (ev_ifp rfl ?_)), ev_bind g2 (ev_ifp rfl (ev_ifp (by omega) (ev_ifp (by omega) ?_))), by simp only [tab_length]; omega⟩
    · have hh := loop_ev (fun k s i => spec_GrowthOf.l0 k a b t s (i : Int)) a.length (fun i s => s ++ [growOf a b t i]) (fun s => (s, true)) (fun i s => s.length = i)
        (fun i s r hI hi hh => by
          have hk := trackOk_at h (show i < t.length by omega)
          have e1 := Aside0.mk (show wrap64 ((i : Int) + 1) = ((i + 1 : Nat) : Int) by rw [w64 (by omega) (by omega)]; rfl)
          refine ev_step (fun k => spec_GrowthOf.l0.eq_2 _ _ _ _ _ k) (ev_ifp (by omega) (ev_ifp (by omega) (ev_ifp (by omega) ?_)))
          rw [rd_nat, e1.out]
          unfold growOf at hh
          by_cases h0 : t.getD i 0 < 0
          · rw [if_pos h0] at hh
            exact ev_ifp h0 (ev_ifp (by omega) hh)
          · rw [if_neg h0] at hh
            refine ev_ifn h0 (ev_ifp (by omega) (ev_ifp (by omega) (ev_ifp (by omega) ?_)))
            have e2 : rd_T160 b (t.getD i 0) = b.getD (t.getD i 0).toNat z160 := rfl
            rw [e2, rdst]
            exact hh)
        (fun i s hI _ => by simp [hI])
        (fun s hI => ev_step (fun k => spec_GrowthOf.l0.eq_2 _ _ _ _ _ k) (ev_ifn (by omega) (ev_some _))) 0 [] (Nat.zero_le _) rfl
      rw [Nat.sub_zero, iter_app0] at hh
      exact hh
    · have hh := loop_ev (fun k s i => impl_GrowthOf.l0 k a b s t (t.length : Int) (i : Int)) a.length (fun i s => s.set i (growOf a b t i)) (fun s => (s, true)) (fun i s => s.length = a.length ∧ ∀ j, i ≤ j → j < a.length → s.getD j z158 = ⟨0, 0⟩)
        (fun i s r hI hi hh => by
          have hk := trackOk_at h (show i < t.length by omega)
          have hl := hI.1
          have e1 := Aside0.mk (show wrap64 ((i : Int) + 1) = ((i + 1 : Nat) : Int) by rw [w64 (by omega) (by omega)]; rfl)
          refine ev_step (fun k => impl_GrowthOf.l0.eq_2 _ _ _ _ _ _ k) (ev_ifp (by omega) (ev_ifp (by omega) (ev_ifp (by omega) ?_)))
          rw [rd_nat, e1.out]
          unfold growOf at hh
          by_cases h0 : t.getD i 0 < 0
          · rw [if_pos h0] at hh
            have e3 : s.set i (⟨0, 0⟩ : A2) = s := by
              refine eq_index z158 (by simp) (fun j hj => ?_)
              rw [List.length_set] at hj
              by_cases ej : i = j
              · subst ej
                rw [hI.2 i (Nat.le_refl _) hi]
                simp [List.getD, List.getElem?_set_self hj]
              · simp [List.getD, List.getElem?_set_ne ej]
            rw [e3] at hh
            exact ev_ifn (by omega) hh
          · rw [if_neg h0] at hh
            refine ev_ifp (by omega) (ev_ifp (by omega) (ev_ifp (by omega) (ev_ifp (by omega) (ev_ifp (by omega) ?_))))
            have e2 : rd_T160 b (t.getD i 0) = b.getD (t.getD i 0).toNat z160 := rfl
            rw [e2, rdst, Int.toNat_natCast]
            exact hh)
        (fun i s hI _ => by
          refine ⟨by simpa using hI.1, fun j h1 h2 => ?_⟩
          rw [← hI.2 j (by omega) h2]
          simp [List.getD, List.getElem?_set_ne (show i ≠ j by omega)])
        (fun s hI => ev_step (fun k => impl_GrowthOf.l0.eq_2 _ _ _ _ _ _ k) (ev_ifn (by omega) (ev_some _))) 0 (List.replicate a.length z158) (Nat.zero_le _) ⟨by simp, fun j _ h2 => by simp [List.getD, List.getElem?_replicate, h2]; rfl⟩
      rw [Nat.sub_zero, iter_set_tab z158 (growOf a b t) a.length _ (by simp)] at hh
      exact hh
def ms (v x5 : Int) (x0 : List SS) : List SS :=
  let y101 := x0.set (x5 : Int).toNat (⟨v, (rd_T160 x0 x5).f1, (rd_T160 x0 x5).f2, (rd_T160 x0 x5).f3⟩ : SS)
  let y102 := y101.set (x5 : Int).toNat (⟨(rd_T160 y101 x5).f0, wrap64 (v + 1), (rd_T160 y101 x5).f2, (rd_T160 y101 x5).f3⟩ : SS)
  let y103 := y102.set (x5 : Int).toNat (⟨(rd_T160 y102 x5).f0, (rd_T160 y102 x5).f1, wrap64 ((wrap64 (v + 1)) + 1), (rd_T160 y102 x5).f3⟩ : SS)
  y103.set (x5 : Int).toNat (⟨(rd_T160 y103 x5).f0, (rd_T160 y103 x5).f1, (rd_T160 y103 x5).f2, wrap64 ((wrap64 ((wrap64 (v + 1)) + 1)) + 1)⟩ : SS)
theorem ms_len (v x5 : Int) (s : List SS) : (ms v x5 s).length = s.length := by simp [ms]
theorem markStormS_ev (l : List SS) (a : Int) (h0 : 0 ≤ a) (h1 : a + 4 * l.length ≤ 9223372036854775800) : ∃ l', Ev (fun k => laws_markStormS.f k l a) (a + 4 * l.length, l') := by
  have step : ∀ (i : Nat) (s : List SS) (r : Int × List SS), s.length = l.length → i < l.length → Ev (fun k => laws_markStormS.l0 k (ms (a + 4 * (i : Int)) (i : Int) s) (a + 4 * ((i + 1 : Nat) : Int)) ((i + 1 : Nat) : Int)) r → Ev (fun k => laws_markStormS.l0 k s (a + 4 * (i : Int)) (i : Int)) r := by
    intro i s r hI hi h
    have e1 : wrap64 ((i : Int) + 1) = ((i + 1 : Nat) : Int) := by rw [w64 (by omega) (by omega)]; rfl
    have e2 : wrap64 (wrap64 (wrap64 (wrap64 (a + 4 * (i : Int) + 1) + 1) + 1) + 1) = a + 4 * ((i + 1 : Nat) : Int) := by
      rw [w64 (x := a + 4 * (i : Int) + 1) (by omega) (by omega), w64 (x := a + 4 * (i : Int) + 1 + 1) (by omega) (by omega), w64 (x := a + 4 * (i : Int) + 1 + 1 + 1) (by omega) (by omega), w64 (by omega) (by omega)]
      omega
    refine ev_step (fun k => laws_markStormS.l0.eq_2 _ _ _ k) (ev_ifp (by omega) (ev_ifp (by omega) (ev_bind (ev_some _) (ev_bind (ev_some _) (ev_bind (ev_some _) ?_)))))
    rw [e1, e2]
    exact h
  have h := loop_ev (fun k s i => laws_markStormS.l0 k s (a + 4 * (i : Int)) (i : Int)) l.length (fun i s => ms (a + 4 * (i : Int)) (i : Int) s) (fun s => (a + 4 * (l.length : Int), s)) (fun _ s => s.length = l.length)
    step (fun i s hI _ => by rw [ms_len]; exact hI) (fun s hI => ev_step (fun k => laws_markStormS.l0.eq_2 _ _ _ k) (ev_ifn (by omega) (ev_some _))) 0 l (Nat.zero_le _) rfl
  refine ⟨_, Ev.congr (fun k => ?_) h⟩
  unfold laws_markStormS.f
  simp
theorem toIntS_ev (xs : List Int) (hm : xs.length ≤ 35184372088832) : Ev (fun k => laws_toIntS.f k xs) xs := by
  have h := loop_ev (fun k ys i => laws_toIntS.l0 k xs ys (i : Int)) xs.length (fun i ys => ys.set i (xs.getD i 0)) (fun ys => ys)
    (fun i ys => ys.length = xs.length ∧ ∀ j, j < i → ys.getD j 0 = xs.getD j 0)
    (fun i ys r hI hi h => ev_step (fun k => by
      show laws_toIntS.l0 (k + 1) xs ys (i : Int) = laws_toIntS.l0 k xs (ys.set i (xs.getD i 0)) ((i + 1 : Nat) : Int)
      have hl := hI.1
      simp only [laws_toIntS.l0]
      rw [if_pos (by omega), if_pos (by omega), if_pos (by omega), w64 (by omega) (by omega), rd_nat]
      simp) h)
    (fun i ys hI hi => ⟨by simp [hI.1], fun j hj => by
      by_cases e : j = i
      · subst e
        have := hI.1
        simp [List.getD, List.getElem?_set_self (show j < ys.length by omega)]
      · have := hI.2 j (by omega)
        rw [← this]
        simp [List.getD, List.getElem?_set_ne (Ne.symm e)]⟩)
    (fun ys hI => ev_step (f := fun _ => some ys) (fun k => by
      simp only [laws_toIntS.l0]
      rw [if_neg (by omega)]) (ev_some _)) 0 (List.replicate xs.length 0) (Nat.zero_le _) ⟨by simp, fun j hj => by omega⟩
  have e : iter (fun i (ys : List Int) => ys.set i (xs.getD i 0)) 0 (xs.length - 0) (List.replicate xs.length 0) = xs := by
    have hi := iter_inv (fun i (ys : List Int) => ys.set i (xs.getD i 0)) (fun i ys => ys.length = xs.length ∧ ∀ j, j < i → ys.getD j 0 = xs.getD j 0) xs.length
      (fun i ys hI hi => ⟨by simp [hI.1], fun j hj => by
        by_cases e : j = i
        · subst e
          have := hI.1
          simp [List.getD, List.getElem?_set_self (show j < ys.length by omega)]
        · have := hI.2 j (by omega)
          rw [← this]
          simp [List.getD, List.getElem?_set_ne (Ne.symm e)]⟩) (xs.length - 0) 0 (List.replicate xs.length 0) (by omega) ⟨by simp, fun j hj => by omega⟩
    exact eq_index 0 hi.1 (fun j hj => hi.2 j (by have := hi.1; omega))
  rw [e] at h
  refine Ev.congr (fun k => ?_) h
  unfold laws_toIntS.f
  rw [if_pos (by omega), if_pos (by omega)]
  simp
theorem eqIntS_ev (xs ys : List Int) (hm : xs.length ≤ 9223372036854775806) : Ev (fun k => laws_eqIntS.f k xs ys) (decide (xs = ys)) := by
  by_cases hl : xs.length = ys.length
  · have h := allb_ev (fun k i => laws_eqIntS.l0 k xs ys (i : Int)) xs.length (fun i => decide (xs.getD i 0 = ys.getD i 0))
      (fun i r hi hp h => ev_step (fun k => by
        simp only [laws_eqIntS.l0]
        rw [if_pos (by omega), if_pos (by omega), if_pos (by omega), rd_nat, rd_nat, if_pos (by simpa using hp), w64 (by omega) (by omega)]
        rfl) h)
      (fun i hi hp => ev_step (f := fun _ => some false) (fun k => by
        simp only [laws_eqIntS.l0]
        rw [if_pos (by omega), if_pos (by omega), if_pos (by omega), rd_nat, rd_nat, if_neg (by simpa using hp)]) (ev_some _))
      (ev_step (f := fun _ => some true) (fun k => by
        simp only [laws_eqIntS.l0]
        rw [if_neg (by omega)]) (ev_some _))
    rw [rall_eq 0 hl] at h
    refine Ev.congr (fun k => ?_) h
    unfold laws_eqIntS.f
    rw [if_pos (by omega)]
    rfl
  · refine Ev.congr (f := fun _ => some false) (fun k => ?_) (by rw [decide_eq_false (fun e => hl (by rw [e]))]; exact ev_some _)
    unfold laws_eqIntS.f
    rw [if_neg (by omega)]
theorem eqIntS_self (xs : List Int) (hm : xs.length ≤ 9223372036854775806) : Ev (fun k => laws_eqIntS.f k xs xs) true := by
  have := eqIntS_ev xs xs hm
  simpa using this
end Go.Proofs.Ythekngnkajjhnaa.Pure
namespace Go.Proofs.Ythekngnkajjhnaa.P
open Go.RowKit Go.Proofs.YthekngnkajjhnaaW.PrintWords Go.Proofs.YthekngnkajjhnaaW.PrintLast Go.Proofs.YthekngnkajjhnaaW.PrintMore
attribute [local go_sem] max2_int min2_int max_two min_two max_three min_three max_four min_four
set_option linter.unusedVariables false
set_option linter.unusedSimpArgs false
end Go.Proofs.Ythekngnkajjhnaa.P
namespace Go.Proofs.Ythekngnkajjhnaa.Pure
set_option linter.unusedVariables false
set_option linter.unusedSimpArgs false
open Go.RowKit Go.Proofs.Ythekngnkajjhnaa.P Go.Proofs.YthekngnkajjhnaaW.PrintWords Go.Proofs.YthekngnkajjhnaaW.PrintLast
def cnt (a : Int) (n : Nat) : List Int := (List.range n).map (fun i : Nat => a + (i : Int))
theorem cnt_length (a : Int) (n : Nat) : (cnt a n).length = n := by simp [cnt]
theorem cnt_getD (a : Int) (n i : Nat) (h : i < n) : (cnt a n).getD i 0 = a + i := by simp [cnt, List.getD, h]
theorem markIntS_ev (l : List Int) (a : Int) (h0 : 0 ≤ a) (h1 : a + l.length ≤ 9223372036854775806) : Ev (fun k => laws_markIntS.f k l a) (a + l.length, cnt a l.length) := by
  have h := loop_ev (fun k s i => laws_markIntS.l0 k s (a + (i : Int)) (i : Int)) l.length (fun i s => s.set i (a + i)) (fun s => (a + (l.length : Int), s))
    (fun i s => s.length = l.length ∧ ∀ j, j < i → s.getD j 0 = a + j)
    (fun i s r hI hi h => ev_step (fun k => by
      show laws_markIntS.l0 (k + 1) s (a + (i : Int)) (i : Int) = laws_markIntS.l0 k (s.set i (a + i)) (a + ((i + 1 : Nat) : Int)) ((i + 1 : Nat) : Int)
      have := hI.1
      simp only [laws_markIntS.l0]
      rw [if_pos (by omega), if_pos (by omega), w64 (by omega) (by omega), w64 (by omega) (by omega)]
      simp [Int.add_assoc]) h)
    (fun i s hI hi => ⟨by simp [hI.1], fun j hj => by
      by_cases e : j = i
      · subst e
        have := hI.1
        simp [List.getD, List.getElem?_set_self (show j < s.length by omega)]
      · have := hI.2 j (by omega)
        rw [← this]
        simp [List.getD, List.getElem?_set_ne (Ne.symm e)]⟩)
    (fun s hI => ev_step (f := fun _ => some (a + (l.length : Int), s)) (fun k => by
      have := hI.1
      simp only [laws_markIntS.l0]
      rw [if_neg (by omega)]) (ev_some _)) 0 l (Nat.zero_le _) ⟨rfl, fun j hj => by omega⟩
  have e : iter (fun i (s : List Int) => s.set i (a + i)) 0 (l.length - 0) l = cnt a l.length := by
    have hi := iter_inv (fun i (s : List Int) => s.set i (a + i)) (fun i s => s.length = l.length ∧ ∀ j, j < i → s.getD j 0 = a + j) l.length
      (fun i s hI hi => ⟨by simp [hI.1], fun j hj => by
        by_cases e : j = i
        · subst e
          have := hI.1
          simp [List.getD, List.getElem?_set_self (show j < s.length by omega)]
        · have := hI.2 j (by omega)
          rw [← this]
          simp [List.getD, List.getElem?_set_ne (Ne.symm e)]⟩) (l.length - 0) 0 l (by omega) ⟨rfl, fun j hj => by omega⟩
    exact eq_index 0 (by rw [hi.1, cnt_length]) (fun j hj => by rw [hi.2 j (by have := hi.1; omega), cnt_getD a _ j (by have := hi.1; omega)])
  rw [e] at h
  refine Ev.congr (fun k => ?_) h
  unfold laws_markIntS.f
  simp
theorem FnExactGrowthOf : laws_FnExactGrowthOf.Pure := by
  intro a b t h0 g0 h1 g1 h2 g2
  refine Ev.rounds ?_
  unfold laws_FnExactGrowthOf.f
  by_cases hlen0 : (t.length : Int) > 1048576
  · exact ev_ifp hlen0 (ev_some _)
  refine ev_ifn hlen0 ?_
  rcases szStormS_go a 1048576 (by first | omega | (dsimp only; omega) | (simp; omega)) (by first | omega | (dsimp only; omega) | (simp; omega)) (h0.1) with ⟨rz1, ez1, hz1⟩ | ⟨rz1, ez1, hz1, hza1, hzb1, hlz1⟩
  · exact ev_bind (ev_const ez1) (ev_ifp hz1 (ev_some _))
  refine ev_bind (ev_const ez1) ?_
  refine ev_ifn hz1 ?_
  rcases szStormS_go b rz1 (by first | omega | (dsimp only; omega) | (simp; omega)) (by first | omega | (dsimp only; omega) | (simp; omega)) (h1.1) with ⟨rz2, ez2, hz2⟩ | ⟨rz2, ez2, hz2, hza2, hzb2, hlz2⟩
  · exact ev_bind (ev_const ez2) (ev_ifp hz2 (ev_some _))
  refine ev_bind (ev_const ez2) ?_
  refine ev_ifn hz2 ?_
  obtain ⟨⟨x, y⟩, hs, hi, hr⟩ := growthOf_both (a.map ofT) (b.map ofT) t (by simp; omega) (by simp; omega)
  refine ev_bind (toStormS_ev _ (by first | omega | (dsimp only; omega) | (simp; omega))) ?_
  refine ev_bind (toStormS_ev _ (by first | omega | (dsimp only; omega) | (simp; omega))) ?_
  refine ev_bind (toIntS_ev _ (by first | omega | (dsimp only; omega) | (simp; omega))) ?_
  refine ev_bind hs ?_
  refine ev_bind (toStormS_ev _ (by first | omega | (dsimp only; omega) | (simp; omega))) ?_
  refine ev_bind (toStormS_ev _ (by first | omega | (dsimp only; omega) | (simp; omega))) ?_
  refine ev_bind (toIntS_ev _ (by first | omega | (dsimp only; omega) | (simp; omega))) ?_
  refine ev_bind hi ?_
  refine ev_bind (eqIntA2S_self _ (by first | omega | (dsimp only; omega) | (simp; omega))) ?_
  refine ev_ifp rfl ?_
  refine ev_step (fun k => laws_FnExactGrowthOf.j0.eq_2 _ _ _ _ _ _ _ _ _ _ _ k) ?_
  refine ev_ifn (by simp) ?_
  refine ev_bind (toStormS_ev _ (by first | omega | (dsimp only; omega) | (simp; omega))) ?_
  refine ev_bind (eqStormS_self _ (by simp; omega)) ?_
  refine ev_ifp rfl ?_
  refine ev_bind (toStormS_ev _ (by first | omega | (dsimp only; omega) | (simp; omega))) ?_
  refine ev_bind (eqStormS_self _ (by simp; omega)) ?_
  refine ev_ifp rfl ?_
  refine ev_bind (toIntS_ev _ (by first | omega | (dsimp only; omega) | (simp; omega))) ?_
  refine ev_bind (eqIntS_self _ (by first | omega | (dsimp only; omega) | (simp; omega))) ?_
  refine ev_ifp rfl ?_
  refine ev_bind (Classical.choose_spec (markStormS_ev _ _ (by first | omega | (dsimp only; omega) | (simp; omega)) (by first | omega | (dsimp only; omega) | (simp; omega)))) ?_
  refine ev_bind (Classical.choose_spec (markStormS_ev _ _ (by first | omega | (dsimp only; omega) | (simp; omega)) (by first | omega | (dsimp only; omega) | (simp; omega)))) ?_
  refine ev_bind (markIntS_ev _ _ (by first | omega | (dsimp only; omega) | (simp; omega)) (by first | omega | (dsimp only; omega) | (simp; omega))) ?_
  refine ev_ifn (by first | (simp; done) | (simp; omega) | omega) ?_
  refine ev_bind (eqIntA2S_self _ (by first | omega | (dsimp only; omega) | (simp; omega))) ?_
  refine ev_ifp rfl ?_
  refine ev_step (fun k => laws_FnExactGrowthOf.j1.eq_2 _ _ _ _ _ _ _ k) ?_
  refine ev_ifn (by simp) ?_
  refine ev_bind (markIntA2S_ev _ _ (by first | omega | (dsimp only; omega) | (simp; omega)) (by first | omega | (dsimp only; omega) | (simp; omega))) ?_
  refine ev_bind (heldIntA2S_ev _ _ (by first | omega | (dsimp only; omega) | (simp; omega)) (by first | omega | (dsimp only; omega) | (simp; omega))) ?_
  refine ev_ifn (by first | (simp; done) | (simp; omega) | omega) ?_
  refine ev_ifp (by first | rfl | (simp; done)) ?_
  refine ev_bind (toStormS_ev _ (by first | omega | (dsimp only; omega) | (simp; omega))) ?_
  refine ev_bind (toStormS_ev _ (by first | omega | (dsimp only; omega) | (simp; omega))) ?_
  refine ev_bind (toIntS_ev _ (by first | omega | (dsimp only; omega) | (simp; omega))) ?_
  refine ev_bind hi ?_
  refine ev_bind (eqIntA2S_self _ (by first | omega | (dsimp only; omega) | (simp; omega))) ?_
  refine ev_ifp rfl ?_
  refine ev_step (fun k => laws_FnExactGrowthOf.j2.eq_2 _ _ _ k) ?_
  refine ev_ifn (by simp) ?_
  refine ev_bind (heldIntA2S_ev _ _ (by first | omega | (dsimp only; omega) | (simp; omega)) (by first | omega | (dsimp only; omega) | (simp; omega))) ?_
  refine ev_ifn (by first | (simp; done) | (simp; omega) | omega) ?_
  refine ev_ifp (by first | rfl | (simp; done)) ?_
  exact ev_some _
end Go.Proofs.Ythekngnkajjhnaa.Pure
namespace Go.Proofs.Ythekngnkajjhnaa.fnExactGrowthOf
open Go.ChangeShapes Go.WideShapes Go.ChangeAt Go.RowKit Go.Proofs.Ythekngnkajjhnaa.Open Go.Proofs.Ythekngnkajjhnaa.P Go.Proofs.YthekngnkajjhnaaW.PrintWords
open Go.ChangeMaps (open_string shut_string)
set_option linter.unusedVariables false
theorem own : ownKnob Try.prog.godebug = none := by kernel_rfl
theorem laidOut : laidOutB Try.prog = true := by kernel_rfl
set_option maxRecDepth 100000 in
theorem lifted (os : Os) (started : os.Started) (H : Type) (enc : TypeId × Value → H) :
    ReturnsInHanded {} Try.checked os 14 .any (Rows.fnExactGrowthOfSpec.pre6 enc Try.prog Try.f14 Rows.fnExactGrowthOfRow.domain false) (Rows.fnExactGrowthOfSpec.post enc Try.prog Try.f14 false true false false) := by
  refine returnsInHanded_of_change_sized (C := Try.checked) own started (by kernel_rfl) Try.func14
    (ChangeSpec.witness6 (enc := enc) (C := Try.checked) false ⟨#[], #[.slice none 0 0, .slice none 0 0, .slice none 0 0], []⟩ 8 (by kernel_rfl) (by kernel_rfl) (by kernel_rfl) (by kernel_rfl)) ?_
  intro W base args ds gs before hval0 hW hcnd hsz0 _
  have hsz : (DataW.weightsEach Try.prog (Try.f14.params.toList ++ Rows.fnExactGrowthOfSpec.plain.varTypes Try.prog) (ds ++ gs)).all (· ≤ reachBytes) = true := hsz0
  have hval : ∀ (j : Nat) t v, Try.f14.params[j]? = some t → args[j]? = some v → Value.okWide Try.prog W .any base t v := hval0
  have hW' := hW
  obtain ⟨p, q, hA0, hV, rfl, hfz, hnd⟩ := hW
  have hA : DataW.TrodAll enc Try.prog W 0 (fun _ => true) true Try.f14.params.toList args.toList ds p := hA0
  rw [Try.params14] at hA hval hsz
  obtain ⟨v0, vs0, d0, ds0, p0, q0, hargs, rfl, rfl, h0, r0⟩ := trodAll_cons hA
  obtain ⟨v1, vs1, d1, ds1, p1, q1, rfl, rfl, rfl, h1, r1⟩ := trodAll_cons r0
  obtain ⟨v2, vs2, d2, ds2, p2, q2, rfl, rfl, rfl, h2, r2⟩ := trodAll_cons r1
  obtain ⟨rfl, rfl, rfl⟩ := trodAll_nil r2
  obtain rfl : args = #[v0, v1, v2] := by cases args; simp_all
  obtain ⟨rfl, rfl⟩ := trodVars_none hV
  obtain ⟨A0, len0, c0, rfl⟩ := okWide_slice Try.underlying96 (hval 0 96 v0 rfl rfl)
  have k0 := h0
  have lt0 : ∀ x ∈ p0, x.block < W.heap.size := by obtain ⟨m, hm⟩ := k0; exact DataW.trod_lt m _ _ _ hm
  have y0 : len0 * 32 ≤ 140737488351232 := sized_any hsz (j := 0) (t := 96) rfl rfl Try.underlying96 (by kernel_rfl) h0
  obtain ⟨l0, rfl, hc0, hr0, w0⟩ := slice_at (opens_slice Try.underlying96 (by kernel_rfl) opens162) h0
  obtain ⟨A1, len1, c1, rfl⟩ := okWide_slice Try.underlying96 (hval 1 96 v1 rfl rfl)
  have k1 := h1
  have lt1 : ∀ x ∈ p1, x.block < W.heap.size := by obtain ⟨m, hm⟩ := k1; exact DataW.trod_lt m _ _ _ hm
  have y1 : len1 * 32 ≤ 140737488351232 := sized_any hsz (j := 1) (t := 96) rfl rfl Try.underlying96 (by kernel_rfl) h1
  obtain ⟨l1, rfl, hc1, hr1, w1⟩ := slice_at (opens_slice Try.underlying96 (by kernel_rfl) opens162) h1
  obtain ⟨A2, len2, c2, rfl⟩ := okWide_slice Try.underlying24 (hval 2 24 v2 rfl rfl)
  have k2 := h2
  have lt2 : ∀ x ∈ p2, x.block < W.heap.size := by obtain ⟨m, hm⟩ := k2; exact DataW.trod_lt m _ _ _ hm
  have y2 : len2 * 8 ≤ 140737488351232 := sized_any hsz (j := 2) (t := 24) rfl rfl Try.underlying24 (by kernel_rfl) h2
  obtain ⟨l2, rfl, hc2, hr2, w2⟩ := slice_at (opens_slice Try.underlying24 (by kernel_rfl) (opens_int Try.underlying3)) h2
  clear hA0 hval0 hsz0 hsz
  obtain ⟨k, hp⟩ := Pure.FnExactGrowthOf l0 l1 l2 w0 y0 w1 y1 w2 y2
  refine (laws_FnExactGrowthOf.calls k A0 c0 l0 A1 c1 l1 A2 c2 l2 true W hr0 hc0 hr1 hc1 hr2 hc2 hp).mono fun e W' ⟨he, bel0⟩ => ?_
  have bel : Below W.heap.size W W' := bel0
  subst he
  exact ⟨_, rfl, _, _, _, [], _, [], hW', trodAll_mk1 (shut_bool Try.underlying4 _), (trodAll_cons_mk (Below.trod laidOut (by kernel_rfl) (of_decide_eq_true (by kernel_rfl)) k0 bel lt0) (trodAll_cons_mk (Below.trod laidOut (by kernel_rfl) (of_decide_eq_true (by kernel_rfl)) k1 bel lt1) (trodAll_cons_mk (Below.trod laidOut (by kernel_rfl) (of_decide_eq_true (by kernel_rfl)) k2 bel lt2) trodAll_mk0))), rfl, bel.frame _, fun h => by cases h⟩
set_option maxHeartbeats 4000000 in
set_option maxRecDepth 100000 in
theorem closed : joinedFacts Try.prog 14 Try.f14 Rows.fnExactGrowthOfSpec Rows.fnExactGrowthOfRow = true := by
  unfold joinedFacts
  repeat' (with_reducible refine Bool.and_eq_true_iff.2 ⟨?_, ?_⟩)
  all_goals (as_aux_lemma => kernel_rfl)
theorem over : Rows.fnExactGrowthOfRow.holds Try.pinned (OpenSpec.ofChange Rows.fnExactGrowthOfSpec) :=
  OpenClaim.holds_of_wide 14 Try.f14 rfl rfl rfl rfl rfl rfl rfl ⟨rfl, rfl, rfl, rfl, rfl⟩ rfl rfl rfl rfl rfl (by kernel_rfl) Try.func14 closed
    (of_decide_eq_true (by kernel_rfl)) (by unfold Func.isWrapper; first | (rw [if_pos (by decide +kernel)]; kernel_rfl) | (rw [if_neg (by decide +kernel)]; exact ⟨rfl, rfl⟩))
    (fun os started H enc _ => lifted os started H enc)
theorem proved : Rows.FnExactGrowthOfSaid := over
#print axioms proved
end Go.Proofs.Ythekngnkajjhnaa.fnExactGrowthOf
namespace Go.Proofs.Ythekngnkajjhnaa
theorem fnExactGrowthOf_holds : Rows.FnExactGrowthOfSaid := fnExactGrowthOf.proved
end Go.Proofs.Ythekngnkajjhnaa
