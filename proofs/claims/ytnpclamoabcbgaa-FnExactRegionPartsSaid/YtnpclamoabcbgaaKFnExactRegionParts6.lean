/- Texts of the claim FnExactRegionParts, merged: part 6 of 6: the program's and the reference's functions as Lean functions, the walks that show it, and plain lemmas; no conditions. -/
import Derived.Test.YtnpclamoabcbgaaKFnExactRegionParts5
import Derived.Test.YtnpclamoabcbgaaKFnExactRegionParts4
import Derived.Test.YtnpclamoabcbgaaKFnExactRegionParts2
import Derived.Test.YtnpclamoabcbgaaRows
import Derived.WalkKit
import Derived.ProofKit
import Derived.OpenShut
import Derived.ShutString
import Derived.ChangeOld
import Derived.Below
import Derived.SizedLaws
namespace Go.Proofs.Ytnpclamoabcbgaa.Pure
set_option linter.unusedVariables false
set_option linter.unusedSimpArgs false
open Go.RowKit Go.Proofs.Ytnpclamoabcbgaa.P Go.Proofs.YtnpclamoabcbgaaW.PrintWords Go.Proofs.YtnpclamoabcbgaaW.PrintLast
def rising (l : List Int) : Bool := rall (fun i => decide (l.getD i 0 < l.getD (i + 1) 0)) 0 (l.length - 1)
def regionOk (a b : Int) (l : List Int) : Bool := (inb a 1 8 && inb b 1 8) && (rising l && rall (fun i => inb (l.getD i 0) 0 (a * b - 1)) 0 l.length)
theorem increasing_ev (l : List Int) (hl : l.length ≤ 9223372036854775806) : Ev (fun k => impl_increasing.f k l) (rising l) := by
  have h := allb_ev (fun k i => impl_increasing.l0 k l ((i : Int) + 1)) (l.length - 1) (fun i => decide (l.getD i 0 < l.getD (i + 1) 0))
    (fun i r hi hp h => ev_step (fun k => by
      simp only [impl_increasing.l0]
      rw [if_pos (by omega), show wrap64 ((i : Int) + 1 - 1) = (i : Int) by rw [w64 (by omega) (by omega)]; omega, if_pos (by omega), if_pos (by omega), if_pos (by omega), show ((i : Int) + 1) = ((i + 1 : Nat) : Int) by omega, rd_nat, rd_nat,
        if_neg (by have := of_decide_eq_true hp; omega), w64 (by omega) (by omega)]) h)
    (fun i hi hp => ev_step (f := fun _ => some false) (fun k => by
      simp only [impl_increasing.l0]
      rw [if_pos (by omega), show wrap64 ((i : Int) + 1 - 1) = (i : Int) by rw [w64 (by omega) (by omega)]; omega, if_pos (by omega), if_pos (by omega), if_pos (by omega), show ((i : Int) + 1) = ((i + 1 : Nat) : Int) by omega, rd_nat, rd_nat,
        if_pos (by have := of_decide_eq_false hp; omega)]) (ev_some _))
    (ev_step (f := fun _ => some true) (fun k => by
      simp only [impl_increasing.l0]
      rw [if_neg (by omega)]) (ev_some _))
  exact h
theorem isShape_is (a b : Int) : impl_isShape.f a b = some (inb a 1 8 && inb b 1 8) := by
  unfold impl_isShape.f
  rw [within_is, Option.bind_some, within_is]
  cases inb a 1 8 <;> simp
theorem isRegion_ev (a b : Int) (l : List Int) (hl : l.length ≤ 9223372036854775806) : Ev (fun k => impl_isRegion.f k a b l) (regionOk a b l) := by
  unfold impl_isRegion.f regionOk
  refine ev_bind (ev_const (isShape_is a b)) ?_
  cases e : (inb a 1 8 && inb b 1 8) with
  | false => exact ev_ifn (by simp) (ev_some _)
  | true =>
    obtain ⟨⟨a1, a8⟩, b1, b8⟩ := shape_iff.1 e
    have hm := mul_bd a1 a8 b1 b8
    rw [Bool.true_and]
    refine ev_ifp rfl (ev_bind (increasing_ev l hl) ?_)
    cases rising l with
    | false => exact ev_ifn (by simp) (ev_some _)
    | true =>
      rw [Bool.true_and, show wrap64 (wrap64 (a * b) - 1) = a * b - 1 by rw [w64 (x := a * b) (by omega) (by omega), w64 (by omega) (by omega)]]
      exact ev_ifp rfl (ev_bind (allWithin_ev l 0 (a * b - 1) hl) (ev_some _))
theorem l1Rising_ev (l : List Int) (x y : Int) (hl : l.length ≤ 9223372036854775806) : Ev (fun k => spec_l1Rising.f k l x y) (rising l && rall (fun i => inb (l.getD i 0) x y) 0 l.length) := by
  have h := allb_ev (fun k i => spec_l1Rising.l0 k l x y (i : Int)) l.length (fun i => inb (l.getD i 0) x y && (decide (i = 0) || decide (l.getD (i - 1) 0 < l.getD i 0)))
    (fun i r hi hp h => ev_step (fun k => by
      rw [Bool.and_eq_true, Bool.or_eq_true] at hp
      simp only [spec_l1Rising.l0, l1In_is, Option.bind_some, rd_nat]
      rw [if_pos (by omega), if_pos (by omega), if_pos hp.1, w64 (x := (i : Int) + 1) (by omega) (by omega)]
      by_cases e : i = 0
      · rw [if_neg (by omega)]; rfl
      · have h2 := of_decide_eq_true (hp.2.resolve_left (by simpa using e))
        rw [if_pos (by omega), show wrap64 ((i : Int) - 1) = ((i - 1 : Nat) : Int) by rw [w64 (by omega) (by omega)]; omega, if_pos (by omega), if_pos (by omega), rd_nat, if_neg (by omega)]
        rfl) h)
    (fun i hi hp => ev_step (f := fun _ => some false) (fun k => by
      simp only [spec_l1Rising.l0, l1In_is, Option.bind_some, rd_nat]
      rw [if_pos (by omega), if_pos (by omega)]
      cases e : inb (l.getD i 0) x y with
      | false => simp
      | true =>
        rw [e, Bool.true_and, Bool.or_eq_false_iff] at hp
        have h1 := of_decide_eq_false hp.1
        have h2 := of_decide_eq_false hp.2
        rw [if_pos rfl, if_pos (by omega), show wrap64 ((i : Int) - 1) = ((i - 1 : Nat) : Int) by rw [w64 (by omega) (by omega)]; omega, if_pos (by omega), if_pos (by omega), rd_nat, if_pos (by omega)]) (ev_some _))
    (ev_step (f := fun _ => some true) (fun k => by
      simp only [spec_l1Rising.l0]
      rw [if_neg (by omega)]) (ev_some _))
  have e : rall (fun i => inb (l.getD i 0) x y && (decide (i = 0) || decide (l.getD (i - 1) 0 < l.getD i 0))) 0 l.length = (rising l && rall (fun i => inb (l.getD i 0) x y) 0 l.length) := by
    rw [Bool.eq_iff_iff, Bool.and_eq_true]
    unfold rising
    rw [rall_iff, rall_iff, rall_iff]
    constructor
    · intro hh
      refine ⟨fun j _ hj => ?_, fun j _ hj => ?_⟩
      · have := hh (j + 1) (Nat.zero_le _) (by omega)
        rw [Bool.and_eq_true, Bool.or_eq_true] at this
        have h2 := this.2.resolve_left (by simp)
        simpa using h2
      · have := hh j (Nat.zero_le _) (by omega)
        rw [Bool.and_eq_true] at this
        exact this.1
    · rintro ⟨h1, h2⟩ j _ hj
      rw [Bool.and_eq_true, Bool.or_eq_true]
      refine ⟨h2 j (Nat.zero_le _) hj, ?_⟩
      by_cases e : j = 0
      · exact .inl (by simpa using e)
      · have := h1 (j - 1) (Nat.zero_le _) (by omega)
        rw [show j - 1 + 1 = j by omega] at this
        exact .inr this
  rw [e] at h
  exact h
theorem l8Region_ev (a b : Int) (l : List Int) (hl : l.length ≤ 9223372036854775806) : Ev (fun k => spec_l8Region.f k a b l) (regionOk a b l) := by
  unfold spec_l8Region.f regionOk
  refine ev_bind (ev_const (l2Shape_is a b)) ?_
  cases e : (inb a 1 8 && inb b 1 8) with
  | false => exact ev_ifn (by simp) (ev_some _)
  | true =>
    obtain ⟨⟨a1, a8⟩, b1, b8⟩ := shape_iff.1 e
    have hm := mul_bd a1 a8 b1 b8
    rw [Bool.true_and, show wrap64 (wrap64 (a * b) - 1) = a * b - 1 by rw [w64 (x := a * b) (by omega) (by omega), w64 (by omega) (by omega)]]
    exact ev_ifp rfl (ev_bind (l1Rising_ev l 0 (a * b - 1) hl) (ev_some _))
end Go.Proofs.Ytnpclamoabcbgaa.Pure
namespace Go.Proofs.Ytnpclamoabcbgaa.Pure
set_option linter.unusedVariables false
set_option linter.unusedSimpArgs false
set_option linter.unusedSectionVars false
open Go.RowKit Go.Proofs.Ytnpclamoabcbgaa.P Go.Proofs.YtnpclamoabcbgaaW.PrintWords Go.Proofs.YtnpclamoabcbgaaW.PrintLast Go.Proofs.YtnpclamoabcbgaaW.PrintMore
theorem absOf_at {d : Int} (h0 : -100000 ≤ d) (h1 : d ≤ 100000) : impl_absOf.f d = some (max d (-d)) := by
  unfold impl_absOf.f
  by_cases h : d < 0
  · rw [if_pos h, w64 (by omega) (by omega), Int.max_eq_right (by omega)]
  · rw [if_neg h, Int.max_eq_left (by omega)]
theorem one_iff : ∀ i : Nat, i < 15 → ∀ j : Nat, j < 15 → (decide (max ((i : Int) - 7) (-((i : Int) - 7)) + max ((j : Int) - 7) (-((j : Int) - 7)) = 1)) = decide (((i : Int) - 7) * ((i : Int) - 7) + ((j : Int) - 7) * ((j : Int) - 7) = 1) := by decide
theorem one_is {x y : Int} (hx : -7 ≤ x ∧ x ≤ 7) (hy : -7 ≤ y ∧ y ≤ 7) : decide (max x (-x) + max y (-y) = 1) = decide (x * x + y * y = 1) := by
  obtain ⟨i, hi⟩ := Int.eq_ofNat_of_zero_le (show 0 ≤ x + 7 by omega)
  obtain ⟨j, hj⟩ := Int.eq_ofNat_of_zero_le (show 0 ≤ y + 7 by omega)
  have := one_iff i (by omega) j (by omega)
  rw [show (i : Int) - 7 = x by omega, show (j : Int) - 7 = y by omega] at this
  exact this
def adj (W a b : Nat) : Bool := decide ((((a % W : Nat) : Int) - ((b % W : Nat) : Int)) * (((a % W : Nat) : Int) - ((b % W : Nat) : Int)) + (((a / W : Nat) : Int) - ((b / W : Nat) : Int)) * (((a / W : Nat) : Int) - ((b / W : Nat) : Int)) = 1)
theorem cell_parts {W H a : Nat} (hW : 1 ≤ W ∧ W ≤ 8) (hH : 1 ≤ H ∧ H ≤ 8) (ha : a < H * W) : a % W < 8 ∧ a / W < 8 := by
  have h1 := Nat.mod_lt a (show 0 < W by omega)
  have h2 : a / W < H := by rw [Nat.div_lt_iff_lt_mul (by omega)]; exact ha
  omega
theorem tmodN (a W : Nat) : Int.tmod (a : Int) (W : Int) = ((a % W : Nat) : Int) := by rw [Int.tmod_eq_emod_of_nonneg (by omega)]; rfl
theorem tdivN (a W : Nat) : Int.tdiv (a : Int) (W : Int) = ((a / W : Nat) : Int) := by rw [Int.tdiv_eq_ediv_of_nonneg (by omega)]; rfl
section
variable {W H : Nat} (hW : 1 ≤ W ∧ W ≤ 8) (hH : 1 ≤ H ∧ H ≤ 8)
include hW hH
theorem connected_is {a b : Nat} (ha : a < H * W) (hb : b < H * W) : impl_areConnected.f (W : Int) (a : Int) (b : Int) = some (adj W a b) := by
  obtain ⟨a1, a2⟩ := cell_parts hW hH ha
  obtain ⟨b1, b2⟩ := cell_parts hW hH hb
  unfold impl_areConnected.f adj
  rw [if_neg (by omega), tmodN, tmodN, tdivN, tdivN, w64n (n := a / W) (by omega), w64n (n := b / W) (by omega)]
  generalize a % W = x at *
  generalize b % W = x' at *
  generalize a / W = y at *
  generalize b / W = y' at *
  rw [w64 (x := (x : Int) - (x' : Int)) (by omega) (by omega), w64 (x := (y : Int) - (y' : Int)) (by omega) (by omega), absOf_at (by omega) (by omega), Option.bind_some, absOf_at (by omega) (by omega), Option.bind_some, w64 (by omega) (by omega), ← one_is (x := (x : Int) - (x' : Int)) (y := (y : Int) - (y' : Int)) (by omega) (by omega)]
  rfl
theorem beside_is {a b : Nat} (ha : a < H * W) (hb : b < H * W) : spec_l8Beside.f (W : Int) (b : Int) (a : Int) = some (adj W a b) := by
  obtain ⟨a1, a2⟩ := cell_parts hW hH ha
  obtain ⟨b1, b2⟩ := cell_parts hW hH hb
  unfold spec_l8Beside.f adj
  rw [if_neg (by omega), tmodN, tmodN, tdivN, tdivN, w64n (n := a / W) (by omega), w64n (n := b / W) (by omega)]
  generalize a % W = x at *
  generalize b % W = x' at *
  generalize a / W = y at *
  generalize b / W = y' at *
  have ex : ((x' : Int) - (x : Int)) * ((x' : Int) - (x : Int)) = ((x : Int) - (x' : Int)) * ((x : Int) - (x' : Int)) := by rw [← Int.neg_mul_neg]; congr 1 <;> omega
  have ey : ((y' : Int) - (y : Int)) * ((y' : Int) - (y : Int)) = ((y : Int) - (y' : Int)) * ((y : Int) - (y' : Int)) := by rw [← Int.neg_mul_neg]; congr 1 <;> omega
  have sq : ∀ z : Int, -7 ≤ z → z ≤ 7 → 0 ≤ z * z ∧ z * z ≤ 49 := fun z h0 h1 => by
    obtain ⟨i, hi⟩ := Int.eq_ofNat_of_zero_le (show 0 ≤ z + 7 by omega)
    have key : ∀ i : Nat, i < 15 → 0 ≤ ((i : Int) - 7) * ((i : Int) - 7) ∧ ((i : Int) - 7) * ((i : Int) - 7) ≤ 49 := by decide
    have := key i (by omega)
    rw [show (i : Int) - 7 = z by omega] at this
    exact this
  have s1 := sq ((x : Int) - (x' : Int)) (by omega) (by omega)
  have s2 := sq ((y : Int) - (y' : Int)) (by omega) (by omega)
  rw [w64 (x := (x' : Int) - (x : Int)) (by omega) (by omega), w64 (x := (y' : Int) - (y : Int)) (by omega) (by omega), ex, ey, w64 (x := ((x : Int) - (x' : Int)) * ((x : Int) - (x' : Int))) (by omega) (by omega), w64 (x := ((y : Int) - (y' : Int)) * ((y : Int) - (y' : Int))) (by omega) (by omega), w64 (by omega) (by omega)]
  rfl
end
end Go.Proofs.Ytnpclamoabcbgaa.Pure
namespace Go.Proofs.Ytnpclamoabcbgaa.Pure
set_option linter.unusedVariables false
set_option linter.unusedSimpArgs false
open Go.RowKit Go.Proofs.Ytnpclamoabcbgaa.P Go.Proofs.YtnpclamoabcbgaaW.PrintWords Go.Proofs.YtnpclamoabcbgaaW.PrintLast
theorem mem_rall (l : List Int) (x : Int) : decide (x ∈ l) = !rall (fun i => decide (l.getD i 0 ≠ x)) 0 l.length := by
  rw [rall_list l 0 (fun y => decide (y ≠ x))]
  rw [Bool.eq_iff_iff, decide_eq_true_eq, Bool.not_eq_true', ← Bool.not_eq_true, List.all_eq_true]
  constructor
  · intro h hh
    have := hh x h
    simp at this
  · intro h
    rw [Classical.not_forall] at h
    obtain ⟨y, hy⟩ := h
    rw [Classical.not_imp] at hy
    obtain ⟨h1, h2⟩ := hy
    simp at h2
    rw [← h2]
    exact h1
theorem l1Has_ev (l : List Int) (x : Int) (hl : l.length ≤ 9223372036854775806) : Ev (fun k => spec_l1Has.f k l x) (decide (x ∈ l)) := by
  rw [mem_rall]
  have h := all_ev (fun k i => spec_l1Has.l0 k l x (i : Int)) l.length (fun i => decide (l.getD i 0 ≠ x)) true false
    (fun i r hi hp h => ev_step (fun k => by
      simp only [spec_l1Has.l0, rd_nat]
      rw [if_pos (by omega), if_pos (by omega), if_neg (by simpa using hp), w64 (by omega) (by omega)]
      rfl) h)
    (fun i hi hp => ev_step (f := fun _ => some true) (fun k => by
      simp only [spec_l1Has.l0, rd_nat]
      rw [if_pos (by omega), if_pos (by omega), if_pos (by simpa using hp)]) (ev_some _))
    (ev_step (f := fun _ => some false) (fun k => by
      simp only [spec_l1Has.l0]
      rw [if_neg (by omega)]) (ev_some _)) 0 (Nat.zero_le _)
  rw [Nat.sub_zero] at h
  cases e : rall (fun i => decide (l.getD i 0 ≠ x)) 0 l.length with
  | true => rw [e] at h; exact h
  | false => rw [e] at h; exact h
def putL : List Int → Int → List Int
  | [], x => [x]
  | y :: s, x => if y < x then y :: putL s x else if y = x then y :: s else x :: y :: s
theorem l1Put_at (s : List Int) (x : Int) (hs : s.length ≤ 1000000) : ∀ d i, s.length - i = d → i ≤ s.length → Ev (fun k => spec_l1Put.l0 k s x (i : Int)) (s.take i ++ putL (s.drop i) x) := by
  intro d
  induction d with
  | zero =>
    intro i h0 h1
    obtain rfl : i = s.length := by omega
    refine ev_step (f := fun _ => some (s.take s.length ++ putL (s.drop s.length) x)) (fun k => ?_) (ev_some _)
    rw [spec_l1Put.l0.eq_2, if_neg (by omega)]
    simp only [Option.bind_some, Int.toNat_natCast, List.nil_append]
    rw [if_pos (by omega), if_pos (by omega), if_pos (by simp; omega), if_pos (by simp; omega), if_pos (by simp; omega)]
    simp [putL]
  | succ d ih =>
    intro i h0 h1
    have hi : i < s.length := by omega
    have eg : s.getD i 0 = s[i] := getD_eq_get 0 hi
    by_cases h : s[i] < x
    · refine ev_step (fun k => ?_) (Ev.congr (fun _ => rfl) (show Ev (fun k => spec_l1Put.l0 k s x ((i + 1 : Nat) : Int)) (s.take i ++ putL (s.drop i) x) from ?_))
      · rw [spec_l1Put.l0.eq_2, if_pos (by omega), if_pos (by omega), rd_nat, eg, if_pos h, w64 (by omega) (by omega)]
        rfl
      · have := ih (i + 1) (by omega) (by omega)
        rw [List.drop_eq_getElem_cons hi]
        rw [List.take_add_one, List.getElem?_eq_getElem hi] at this
        simp only [Option.toList_some, List.append_assoc, List.singleton_append] at this
        unfold putL
        rw [if_pos h]
        exact this
    · by_cases h2 : s[i] = x
      · refine ev_step (f := fun _ => some (s.take i ++ putL (s.drop i) x)) (fun k => ?_) (ev_some _)
        rw [spec_l1Put.l0.eq_2, if_pos (by omega), if_pos (by omega), rd_nat, eg, if_neg h, if_pos h2, List.drop_eq_getElem_cons hi]
        unfold putL
        rw [if_neg h, if_pos h2, ← List.drop_eq_getElem_cons hi, List.take_append_drop]
      · refine ev_step (f := fun _ => some (s.take i ++ putL (s.drop i) x)) (fun k => ?_) (ev_some _)
        rw [spec_l1Put.l0.eq_2, if_pos (by omega), if_pos (by omega), rd_nat, eg, if_neg h, if_neg h2]
        simp only [Option.bind_some, Int.toNat_natCast, List.nil_append]
        rw [if_pos (by omega), if_pos (by simp; omega), if_pos (by simp; omega), if_pos (by simp; omega), List.drop_eq_getElem_cons hi]
        simp only [putL]
        rw [if_neg h, if_neg h2]
        simp
theorem l1Put_ev (s : List Int) (x : Int) (hs : s.length ≤ 1000000) : Ev (fun k => spec_l1Put.f k s x) (putL s x) := l1Put_at s x hs s.length 0 (by omega) (by omega)
theorem putL_len (s : List Int) (x : Int) : (putL s x).length ≤ s.length + 1 := by
  induction s with
  | nil => simp [putL]
  | cons y s ih =>
    unfold putL
    split
    · simp only [List.length_cons]; omega
    · split <;> simp
def inOrder (g : List Int) : List Int := g.foldl putL []
def nrI (W : Nat) (a b : Int) : Bool := adj W a.toNat b.toNat
theorem nrI_sym (W : Nat) (a b : Int) : nrI W a b = nrI W b a := by
  unfold nrI adj
  congr 1
  have sq : ∀ x y : Int, (x - y) * (x - y) = (y - x) * (y - x) := fun x y => by rw [← Int.neg_mul_neg]; congr 1 <;> omega
  rw [sq ((a.toNat % W : Nat) : Int), sq ((a.toNat / W : Nat) : Int)]
section
variable {W H : Nat} (hW : 1 ≤ W ∧ W ≤ 8) (hH : 1 ≤ H ∧ H ≤ 8) {l : List Int} (hl : ∀ c ∈ l, 0 ≤ c ∧ c < ((H * W : Nat) : Int)) (hn : l.Nodup) (h64 : l.length ≤ 64)
include hW hH hl in
theorem beside_ev {a b : Int} (ha : a ∈ l) (hb : b ∈ l) : spec_l8Beside.f (W : Int) a b = some (nrI W a b) := by
  obtain ⟨a0, a1⟩ := hl a ha
  obtain ⟨b0, b1⟩ := hl b hb
  obtain ⟨i, rfl⟩ := Int.eq_ofNat_of_zero_le a0
  obtain ⟨j, rfl⟩ := Int.eq_ofNat_of_zero_le b0
  rw [nrI_sym]
  exact beside_is hW hH (a := j) (b := i) (by omega) (by omega)
def stepS (W : Nat) (l : List Int) (x : Int) (i : Nat) (g : List Int) : List Int := if l.getD i 0 ∈ g then g else if nrI W x (l.getD i 0) = true then g ++ [l.getD i 0] else g
theorem stepS_iter (W : Nat) (l : List Int) (x : Int) (g : List Int) : iter (stepS W l x) 0 l.length g = passS (nrI W) x l g := by
  have := iter_foldl (fun (g : List Int) c => if c ∈ g then g else if nrI W x c = true then g ++ [c] else g) 0 l l.length 0 g (by omega)
  rw [List.drop_zero] at this
  exact this
include hW hH hl h64 in
theorem l2_ev (out : List (List Int)) (seen : List Int) (i0 : Int) (j : Nat) (fin : List Int → List (List Int))
    (he : ∀ s : List Int, s.Nodup → (∀ c ∈ s, c ∈ l) → Ev (fun k => spec_l8Parts.l1 k (W : Int) l out seen i0 s ((j + 1 : Nat) : Int)) (fin s)) (g : List Int) (hg : g.Nodup) (hs : ∀ c ∈ g, c ∈ l) (hj : j < g.length) :
    Ev (fun k => spec_l8Parts.l2 k (W : Int) l out seen i0 g (j : Int) 0) (fin (passS (nrI W) (g.getD j 0) l g)) := by
  have hx : g.getD j 0 ∈ l := hs _ (by rw [getD_eq_get 0 hj]; exact List.getElem_mem hj)
  have hj64 : j < 64 := by have := nodup_leq hg hs; omega
  rw [← stepS_iter]
  refine loop_ev (fun k s i => spec_l8Parts.l2 k (W : Int) l out seen i0 s (j : Int) (i : Int)) l.length (stepS W l (g.getD j 0)) fin (fun _ s => s.Nodup ∧ (∀ c ∈ s, c ∈ l) ∧ j < s.length ∧ s.getD j 0 = g.getD j 0) (fun i s r hI hi h => ?_) (fun i s hI hi => ?_) (fun s hI => ?_) 0 g (Nat.zero_le _) ⟨hg, hs, hj, rfl⟩
  · obtain ⟨s1, s2, s3, s4⟩ := hI
    have hlen := nodup_leq s1 s2
    have hc : l.getD i 0 ∈ l := by rw [getD_eq_get 0 hi]; exact List.getElem_mem hi
    refine ev_step (fun k => spec_l8Parts.l2.eq_2 _ _ _ _ _ _ _ _ k) (ev_ifp (by omega) (ev_ifp (by omega) ?_))
    rw [rd_nat, w64 (x := (i : Int) + 1) (by omega) (by omega)]
    refine ev_bind (l1Has_ev s _ (by omega)) ?_
    unfold stepS at h
    by_cases hm : l.getD i 0 ∈ s
    · rw [if_pos hm] at h
      exact ev_ifp (by simpa using hm) h
    · rw [if_neg hm] at h
      refine ev_ifn (by simpa using hm) (ev_ifp (by omega) (ev_ifp (by omega) ?_))
      rw [rd_nat, s4]
      refine ev_bind (ev_const (beside_ev hW hH hl hx hc)) ?_
      by_cases hq : nrI W (g.getD j 0) (l.getD i 0) = true
      · rw [if_pos hq] at h
        exact ev_ifp hq (ev_ifp (by omega) h)
      · rw [if_neg hq] at h
        exact ev_ifn hq h
  · obtain ⟨s1, s2, s3, s4⟩ := hI
    have hc : l.getD i 0 ∈ l := by rw [getD_eq_get 0 hi]; exact List.getElem_mem hi
    unfold stepS
    by_cases hm : l.getD i 0 ∈ s
    · rw [if_pos hm]
      exact ⟨s1, s2, s3, s4⟩
    · rw [if_neg hm]
      by_cases hq : nrI W (g.getD j 0) (l.getD i 0) = true
      · rw [if_pos hq]
        refine ⟨?_, ?_, by rw [List.length_append]; omega, ?_⟩
        · rw [List.nodup_append]
          exact ⟨s1, by simp, fun a ha b hb => by rw [List.mem_singleton] at hb; exact fun e => hm (hb ▸ e ▸ ha)⟩
        · intro c hc2
          rw [List.mem_append, List.mem_singleton] at hc2
          rcases hc2 with hc2 | hc2
          · exact s2 c hc2
          · exact hc2 ▸ hc
        · rw [List.getD_eq_getElem?_getD, List.getElem?_append_left s3, ← List.getD_eq_getElem?_getD]
          exact s4
      · rw [if_neg hq]
        exact ⟨s1, s2, s3, s4⟩
  · obtain ⟨s1, s2, s3, s4⟩ := hI
    refine ev_step (fun k => spec_l8Parts.l2.eq_2 _ _ _ _ _ _ _ _ k) (ev_ifn (by omega) ?_)
    rw [w64 (x := (j : Int) + 1) (by omega) (by omega)]
    exact he s s1 s2
include hW hH hl h64 in
theorem l1_ev (out : List (List Int)) (seen : List Int) (i0 : Int) (fin : List Int → List (List Int))
    (he : ∀ s : List Int, s.Nodup → (∀ c ∈ s, c ∈ l) → Ev (fun k => spec_l8Parts.l3 k (W : Int) l out seen i0 s ([] : List Int) 0) (fin s)) : ∀ (m j : Nat) (g : List Int), g.Nodup → (∀ c ∈ g, c ∈ l) → l.length < m + j →
    Ev (fun k => spec_l8Parts.l1 k (W : Int) l out seen i0 g (j : Int)) (fin (growS (nrI W) l m j g))
  | 0, j, g, hg, hs, hm => by
    have := nodup_leq hg hs
    exact ev_step (fun k => spec_l8Parts.l1.eq_2 _ _ _ _ _ _ _ k) (ev_ifn (by omega) (he g hg hs))
  | m + 1, j, g, hg, hs, hm => by
    have := nodup_leq hg hs
    unfold growS
    by_cases hj : j < g.length
    · rw [if_pos hj]
      exact ev_step (fun k => spec_l8Parts.l1.eq_2 _ _ _ _ _ _ _ k) (ev_ifp (by omega) (l2_ev hW hH hl h64 out seen i0 j (fun s => fin (growS (nrI W) l m (j + 1) s)) (fun s s1 s2 => l1_ev out seen i0 fin he m (j + 1) s s1 s2 (by omega)) g hg hs hj))
    · rw [if_neg hj]
      exact ev_step (fun k => spec_l8Parts.l1.eq_2 _ _ _ _ _ _ _ k) (ev_ifn (by omega) (he g hg hs))
theorem l3_ev (a : Int) (out : List (List Int)) (seen : List Int) (i0 : Nat) (hi0 : i0 ≤ 1000) (r : List (List Int)) (g : List Int) (hg : g.length ≤ 64) (hsn : seen.length ≤ 100000) (ho : out.length ≤ 100000)
    (he : Ev (fun k => spec_l8Parts.l0 k a l (out ++ [inOrder g]) (seen ++ g) ((i0 + 1 : Nat) : Int)) r) : Ev (fun k => spec_l8Parts.l3 k a l out seen (i0 : Int) g ([] : List Int) 0) r := by
  have key : ∀ d i (s : List Int), g.length - i = d → i ≤ g.length → s.length ≤ i → (g.drop i).foldl putL s = inOrder g → Ev (fun k => spec_l8Parts.l3 k a l out seen (i0 : Int) g s (i : Int)) r := by
    intro d
    induction d with
    | zero =>
      intro i s h0 h1 h2 h3
      obtain rfl : i = g.length := by omega
      rw [List.drop_length] at h3
      have h3 : s = inOrder g := h3
      subst h3
      refine ev_step (fun k => spec_l8Parts.l3.eq_2 _ _ _ _ _ _ _ _ k) (ev_ifn (by omega) (ev_ifp (by omega) (ev_ifp (by omega) ?_)))
      rw [w64 (x := (i0 : Int) + 1) (by omega) (by omega)]
      exact he
    | succ d ih =>
      intro i s h0 h1 h2 h3
      have hi : i < g.length := by omega
      refine ev_step (fun k => spec_l8Parts.l3.eq_2 _ _ _ _ _ _ _ _ k) (ev_ifp (by omega) (ev_ifp (by omega) ?_))
      rw [rd_nat, w64 (x := (i : Int) + 1) (by omega) (by omega)]
      refine ev_bind (l1Put_ev s _ (by omega)) (ih (i + 1) _ (by omega) (by omega) (by have := putL_len s (g.getD i 0); omega) ?_)
      rw [List.drop_eq_getElem_cons hi] at h3
      rw [getD_eq_get 0 hi]
      exact h3
  exact key g.length 0 [] (by omega) (by omega) (by simp) rfl
include hW hH hl h64 in
theorem l0_ev : ∀ (m i : Nat) (seen : List Int) (out : List (List Int)), l.length < m + i → i ≤ l.length → seen.length ≤ 64 * i → out.length ≤ i →
    Ev (fun k => spec_l8Parts.l0 k (W : Int) l out seen (i : Int)) (partsS (nrI W) inOrder l m i seen out)
  | 0, i, seen, out, hm, hi, h1, h2 => absurd hm (by omega)
  | m + 1, i, seen, out, hm, hi, h1, h2 => by
    unfold partsS
    by_cases h : i < l.length
    · rw [if_pos h]
      refine ev_step (fun k => spec_l8Parts.l0.eq_2 _ _ _ _ _ k) (ev_ifp (by omega) (ev_ifp (by omega) ?_))
      rw [rd_nat, w64 (x := (i : Int) + 1) (by omega) (by omega)]
      refine ev_bind (l1Has_ev seen _ (by omega)) ?_
      by_cases hx : l.getD i 0 ∈ seen
      · rw [if_pos hx]
        exact ev_ifp (by simpa using hx) (l0_ev m (i + 1) seen out (by omega) (by omega) (by omega) (by omega))
      · rw [if_neg hx]
        have hc : l.getD i 0 ∈ l := by rw [getD_eq_get 0 h]; exact List.getElem_mem h
        refine ev_ifn (by simpa using hx) ?_
        have h1v := l1_ev hW hH hl h64 out seen (i : Int) (fun g => partsS (nrI W) inOrder l m (i + 1) (seen ++ g) (out ++ [inOrder g])) (fun s s1 s2 => by
          have hlen := nodup_leq s1 s2
          exact l3_ev (W : Int) out seen i (by omega) _ s (by omega) (by omega) (by omega) (l0_ev m (i + 1) (seen ++ s) (out ++ [inOrder s]) (by omega) (by omega) (by rw [List.length_append]; omega) (by rw [List.length_append, List.length_singleton]; omega))) (l.length + 1) 0 [l.getD i 0] (by simp) (fun c hc2 => by rw [List.mem_singleton] at hc2; exact hc2 ▸ hc) (by omega)
        exact h1v
    · rw [if_neg h]
      exact ev_step (fun k => spec_l8Parts.l0.eq_2 _ _ _ _ _ k) (ev_ifn (by omega) (ev_some _))
include hW hH hl hn h64 in
theorem partsRef_ev : Ev (fun k => spec_l8Parts.f k (W : Int) l) (partsI (nrI W) inOrder (l.length + 1) (l.length + 1) l []) := by
  have e := parts_both (nrI W) inOrder l hn (nrI_sym W) (l.length + 1) 0 [] [] (l.length + 1) (by omega) (fun x _ _ c _ hc => absurd hc (by simp)) (fun j hj => absurd hj (by omega)) (by
    have : (leftOf l []).length ≤ l.length := List.length_filter_le _ _
    omega)
  have e2 : leftOf l [] = l := by unfold leftOf; rw [List.filter_eq_self]; intro c hc; simp
  rw [e2] at e
  rw [← e]
  exact l0_ev hW hH hl h64 (l.length + 1) 0 [] [] (by omega) (by omega) (by simp) (by simp)
end
end Go.Proofs.Ytnpclamoabcbgaa.Pure
namespace Go.Proofs.Ytnpclamoabcbgaa.Pure
set_option linter.unusedVariables false
set_option linter.unusedSimpArgs false
theorem putL_mem {s : List Int} {x c : Int} : c ∈ putL s x ↔ c = x ∨ c ∈ s := by
  induction s with
  | nil => simp [putL]
  | cons y s ih =>
    unfold putL
    by_cases h : y < x
    · rw [if_pos h, List.mem_cons, ih, List.mem_cons]
      constructor
      · rintro (h1 | h1 | h1) <;> simp [h1]
      · rintro (h1 | h1 | h1) <;> simp [h1]
    · rw [if_neg h]
      by_cases h2 : y = x
      · rw [if_pos h2, h2]
        simp
      · rw [if_neg h2]
        simp
theorem putL_perm {s : List Int} {x : Int} (h : x ∉ s) : (putL s x).Perm (x :: s) := by
  induction s with
  | nil => exact List.Perm.refl _
  | cons y s ih =>
    rw [List.mem_cons, not_or] at h
    unfold putL
    by_cases h1 : y < x
    · rw [if_pos h1]
      exact ((ih h.2).cons y).trans (List.Perm.swap x y s)
    · rw [if_neg h1, if_neg (fun e => h.1 e.symm)]
theorem putL_up {s : List Int} {x : Int} (hs : s.Pairwise (· < ·)) : (putL s x).Pairwise (· < ·) := by
  induction s with
  | nil => simp [putL]
  | cons y s ih =>
    rw [List.pairwise_cons] at hs
    unfold putL
    by_cases h1 : y < x
    · rw [if_pos h1, List.pairwise_cons]
      exact ⟨fun c hc => by
        rcases putL_mem.1 hc with e | e
        · exact e ▸ h1
        · exact hs.1 c e, ih hs.2⟩
    · rw [if_neg h1]
      by_cases h2 : y = x
      · rw [if_pos h2, List.pairwise_cons]
        exact hs
      · rw [if_neg h2, List.pairwise_cons, List.pairwise_cons]
        exact ⟨fun c hc => by
          rcases List.mem_cons.1 hc with e | e
          · omega
          · have := hs.1 c e
            omega, hs⟩
theorem fold_put : ∀ (g s : List Int), (s ++ g).Nodup → s.Pairwise (· < ·) → (g.foldl putL s).Perm (s ++ g) ∧ (g.foldl putL s).Pairwise (· < ·)
  | [], s, _, h => ⟨by rw [List.append_nil]; exact List.Perm.refl _, h⟩
  | x :: g, s, hn, h => by
    have hx : x ∉ s := fun hx => by
      rw [List.nodup_append] at hn
      exact hn.2.2 x hx x (List.mem_cons_self ..) rfl
    have hp := putL_perm hx
    have hp2 : (putL s x ++ g).Perm (s ++ x :: g) := (hp.append_right g).trans (List.perm_middle.symm)
    obtain ⟨r1, r2⟩ := fold_put g (putL s x) (hp2.nodup_iff.2 hn) (putL_up h)
    exact ⟨r1.trans hp2, r2⟩
theorem inOrder_perm {g : List Int} (hn : g.Nodup) : (inOrder g).Perm g := by
  have := (fold_put g [] (by simpa using hn) (by simp)).1
  rw [List.nil_append] at this
  exact this
theorem inOrder_le {g : List Int} (hn : g.Nodup) : (inOrder g).Pairwise (· ≤ ·) := (fold_put g [] (by simpa using hn) (by simp)).2.imp (fun h => Int.le_of_lt h)
end Go.Proofs.Ytnpclamoabcbgaa.Pure
namespace Go.Proofs.Ytnpclamoabcbgaa.Pure
set_option linter.unusedVariables false
set_option linter.unusedSimpArgs false
open Go.RowKit Go.Proofs.YtnpclamoabcbgaaW.PrintWords Go.Proofs.YtnpclamoabcbgaaW.PrintLast Go.Proofs.YtnpclamoabcbgaaW.PrintMore
def tab {α : Type} (n : Nat) (q : Nat → α) : List α := (List.range n).map q
theorem tab_length {α : Type} (n : Nat) (q : Nat → α) : (tab n q).length = n := by simp [tab]
theorem tab_getD {α : Type} (n : Nat) (q : Nat → α) (z : α) {i : Nat} (h : i < n) : (tab n q).getD i z = q i := by simp [tab, List.getD, h]
theorem iter_set_tab {α : Type} (z : α) (q : Nat → α) (n : Nat) (s : List α) (hs : s.length = n) : iter (fun i (s : List α) => s.set i (q i)) 0 n s = tab n q := by
  have hi := iter_inv (fun i (s : List α) => s.set i (q i)) (fun i s => s.length = n ∧ ∀ j, j < i → s.getD j z = q j) n
    (fun i s hI hi => ⟨by simp [hI.1], fun j hj => by
      by_cases e : j = i
      · subst e
        have := hI.1
        simp [List.getD, List.getElem?_set_self (show j < s.length by omega)]
      · rw [← hI.2 j (by omega)]
        simp [List.getD, List.getElem?_set_ne (Ne.symm e)]⟩) n 0 s (by omega) ⟨hs, fun j hj => by omega⟩
  exact eq_index z (by rw [hi.1, tab_length]) (fun j hj => by rw [hi.2 j (by have := hi.1; omega), tab_getD _ _ z (by have := hi.1; omega)])
end Go.Proofs.Ytnpclamoabcbgaa.Pure
namespace Go.Proofs.Ytnpclamoabcbgaa.Pure
set_option linter.unusedVariables false
set_option linter.unusedSimpArgs false
open Go.RowKit Go.Proofs.Ytnpclamoabcbgaa.P Go.Proofs.YtnpclamoabcbgaaW.PrintWords Go.Proofs.YtnpclamoabcbgaaW.PrintLast Go.Proofs.YtnpclamoabcbgaaW.PrintMore
theorem sorted_unique : ∀ {s t : List Int}, s.Pairwise (· ≤ ·) → t.Pairwise (· ≤ ·) → s.Perm t → s = t
  | [], t, _, _, hp => (List.nil_perm.1 hp).symm
  | a :: s, [], _, _, hp => absurd (List.perm_nil.1 hp) (by simp)
  | a :: s, b :: t, h1, h2, hp => by
    rw [List.pairwise_cons] at h1 h2
    have ha : a ∈ b :: t := hp.mem_iff.1 (List.mem_cons_self ..)
    have hb : b ∈ a :: s := hp.mem_iff.2 (List.mem_cons_self ..)
    have hab : a = b := by
      rcases List.mem_cons.1 ha with e | e
      · exact e
      · rcases List.mem_cons.1 hb with e2 | e2
        · exact e2.symm
        · exact Int.le_antisymm (h1.1 b e2) (h2.1 a e)
    subst hab
    rw [sorted_unique h1.2 h2.2 (List.perm_cons a |>.1 hp)]
theorem srt_eq {s l : List Int} (hp : s.Perm l) (hs : s.Pairwise (· ≤ ·)) : srt l = s := by
  refine sorted_unique ?_ hs ((List.mergeSort_perm l _).trans hp.symm)
  have := List.pairwise_mergeSort (le := fun x y : Int => decide (x ≤ y)) (fun a b c h1 h2 => by simp only [decide_eq_true_eq] at *; omega) (fun a b => by simp; omega) l
  exact this.imp (fun h => by simpa using h)
end Go.Proofs.Ytnpclamoabcbgaa.Pure
namespace Go.Proofs.Ytnpclamoabcbgaa.Pure
set_option linter.unusedVariables false
set_option linter.unusedSimpArgs false
set_option linter.unusedSectionVars false
open Go.RowKit Go.Proofs.Ytnpclamoabcbgaa.P Go.Proofs.YtnpclamoabcbgaaW.PrintWords Go.Proofs.YtnpclamoabcbgaaW.PrintLast Go.Proofs.YtnpclamoabcbgaaW.PrintMore
theorem grP_is (wide : Int) : ∀ (k j : Nat) (p r : List Int), grP wide k j p r = growI (nrP wide) k j p r
  | 0, _, _, _ => rfl
  | k + 1, j, p, r => by
    unfold grP growI
    rw [grP_is wide k]
theorem ptP_is (wide : Int) (n : Nat) : ∀ (k : Nat) (r : List Int) (out : List (List Int)), ptP wide n k r out = partsI (nrP wide) srt n k r out
  | 0, _, _ => rfl
  | k + 1, [], _ => rfl
  | k + 1, s :: r, out => by
    show ptP wide n k (grP wide n 0 [s] r).2 (out ++ [srt (grP wide n 0 [s] r).1]) = partsI (nrP wide) srt n k (growI (nrP wide) n 0 [s] r).2 (out ++ [srt (growI (nrP wide) n 0 [s] r).1])
    rw [grP_is, ptP_is wide n k]
theorem growI_perm (nr : Int → Int → Bool) : ∀ (k j : Nat) (p r : List Int), ((growI nr k j p r).1 ++ (growI nr k j p r).2).Perm (p ++ r)
  | 0, _, _, _ => List.Perm.refl _
  | k + 1, j, p, r => by
    unfold growI
    by_cases h : j < p.length
    · rw [if_pos h]
      refine (growI_perm nr k _ _ _).trans ?_
      rw [List.append_assoc]
      exact (List.filter_append_perm (nr (p.getD j 0)) r).append_left p
    · rw [if_neg h]
theorem growI_congr {nr nr' : Int → Int → Bool} {l : List Int} (h : ∀ a ∈ l, ∀ b ∈ l, nr a b = nr' a b) : ∀ (k j : Nat) (p r : List Int), (∀ c ∈ p, c ∈ l) → (∀ c ∈ r, c ∈ l) → growI nr k j p r = growI nr' k j p r
  | 0, _, _, _, _, _ => rfl
  | k + 1, j, p, r, hp, hr => by
    unfold growI
    by_cases hj : j < p.length
    · rw [if_pos hj, if_pos hj]
      have hx : p.getD j 0 ∈ l := hp _ (by rw [List.getD_eq_getElem?_getD, List.getElem?_eq_getElem hj]; exact List.getElem_mem hj)
      have e1 : r.filter (nr (p.getD j 0)) = r.filter (nr' (p.getD j 0)) := List.filter_congr (fun c hc => h _ hx _ (hr c hc))
      have e2 : r.filter (fun c => !nr (p.getD j 0) c) = r.filter (fun c => !nr' (p.getD j 0) c) := List.filter_congr (fun c hc => by rw [h _ hx _ (hr c hc)])
      rw [e1, e2]
      refine growI_congr h k _ _ _ (fun c hc => ?_) (fun c hc => hr c ((List.mem_filter.1 hc).1))
      rcases List.mem_append.1 hc with hc | hc
      · exact hp c hc
      · exact hr c ((List.mem_filter.1 hc).1)
    · rw [if_neg hj, if_neg hj]
theorem grown_facts {nr : Int → Int → Bool} {n : Nat} {s : Int} {r : List Int} (hn : (s :: r).Nodup) : ((growI nr n 0 [s] r).1).Nodup ∧ ((growI nr n 0 [s] r).2).Nodup ∧ (∀ c ∈ (growI nr n 0 [s] r).1, c ∈ s :: r) ∧ (∀ c ∈ (growI nr n 0 [s] r).2, c ∈ s :: r) ∧
    (growI nr n 0 [s] r).1.length + (growI nr n 0 [s] r).2.length = r.length + 1 := by
  have hp := growI_perm nr n 0 [s] r
  have hnd := hp.nodup_iff.2 hn
  rw [List.nodup_append] at hnd
  refine ⟨hnd.1, hnd.2.1, fun c hc => hp.mem_iff.1 (List.mem_append.2 (.inl hc)), fun c hc => hp.mem_iff.1 (List.mem_append.2 (.inr hc)), ?_⟩
  have := hp.length_eq
  rw [List.length_append, List.length_append, List.length_singleton] at this
  omega
theorem partsI_congr {nr nr' : Int → Int → Bool} {f f' : List Int → List Int} {l : List Int} (h : ∀ a ∈ l, ∀ b ∈ l, nr a b = nr' a b) (hf : ∀ g : List Int, g.Nodup → f g = f' g) (n : Nat) :
    ∀ (k : Nat) (r : List Int) (out : List (List Int)), (∀ c ∈ r, c ∈ l) → r.Nodup → partsI nr f n k r out = partsI nr' f' n k r out
  | 0, _, _, _, _ => rfl
  | k + 1, [], _, _, _ => rfl
  | k + 1, s :: r, out, hr, hn => by
    show partsI nr f n k (growI nr n 0 [s] r).2 (out ++ [f (growI nr n 0 [s] r).1]) = partsI nr' f' n k (growI nr' n 0 [s] r).2 (out ++ [f' (growI nr' n 0 [s] r).1])
    obtain ⟨f1, f2, f3, f4, f5⟩ := grown_facts (nr := nr) (n := n) hn
    have e := growI_congr h n 0 [s] r (fun c hc => hr c (by rw [List.mem_singleton] at hc; rw [hc]; exact List.mem_cons_self ..)) (fun c hc => hr c (List.mem_cons_of_mem _ hc))
    rw [hf _ f1, ← e]
    exact partsI_congr h hf n k _ _ (fun c hc => hr c (f4 c hc)) f2
theorem partsI_size (nr : Int → Int → Bool) (n m : Nat) : ∀ (k : Nat) (r : List Int) (out : List (List Int)), r.length ≤ m → r.Nodup → (∀ s ∈ out, s.length ≤ m) →
    (partsI nr srt n k r out).length ≤ out.length + r.length ∧ ∀ s ∈ partsI nr srt n k r out, s.length ≤ m
  | 0, r, out, _, _, ho => ⟨by show out.length ≤ _; omega, ho⟩
  | k + 1, [], out, _, _, ho => ⟨by show out.length ≤ _; omega, ho⟩
  | k + 1, s :: r, out, hr, hn, ho => by
    obtain ⟨f1, f2, f3, f4, f5⟩ := grown_facts (nr := nr) (n := n) hn
    have hp : 1 ≤ (growI nr n 0 [s] r).1.length := by
      have : ∀ (k j : Nat) (p r : List Int), p.length ≤ (growI nr k j p r).1.length := by
        intro k
        induction k with
        | zero => intro j p r; exact Nat.le_refl _
        | succ k ih =>
          intro j p r
          unfold growI
          split
          · refine Nat.le_trans ?_ (ih _ _ _)
            rw [List.length_append]
            omega
          · exact Nat.le_refl _
      exact this n 0 [s] r
    rw [List.length_cons] at hr
    obtain ⟨g1, g2⟩ := partsI_size nr n m k (growI nr n 0 [s] r).2 (out ++ [srt (growI nr n 0 [s] r).1]) (by omega) f2 (fun t ht => by
      rcases List.mem_append.1 ht with ht | ht
      · exact ho t ht
      · rw [List.mem_singleton] at ht
        rw [ht, srt_len]
        omega)
    rw [List.length_append, List.length_singleton] at g1
    refine ⟨?_, g2⟩
    show (partsI nr srt n k _ _).length ≤ _
    rw [List.length_cons]
    omega
theorem region_facts {a b : Int} {l : List Int} (h : regionOk a b l = true) : ∃ W H : Nat, a = W ∧ b = H ∧ (1 ≤ W ∧ W ≤ 8) ∧ (1 ≤ H ∧ H ≤ 8) ∧ (∀ c ∈ l, 0 ≤ c ∧ c < ((H * W : Nat) : Int)) ∧ l.Pairwise (· < ·) ∧ l.length ≤ 64 := by
  unfold regionOk at h
  rw [Bool.and_eq_true, Bool.and_eq_true, Bool.and_eq_true, inb_iff, inb_iff, rall_iff] at h
  obtain ⟨⟨h1, h2⟩, hr, h3⟩ := h
  obtain ⟨W, rfl⟩ := Int.eq_ofNat_of_zero_le (show 0 ≤ a by omega)
  obtain ⟨H, rfl⟩ := Int.eq_ofNat_of_zero_le (show 0 ≤ b by omega)
  have hc : ∀ c ∈ l, 0 ≤ c ∧ c < ((H * W : Nat) : Int) := fun c hc => by
    obtain ⟨i, hi, rfl⟩ := List.getElem_of_mem hc
    have := inb_iff.1 (h3 i (Nat.zero_le _) (by omega))
    rw [List.getD_eq_getElem?_getD, List.getElem?_eq_getElem hi, Option.getD_some, ← Int.natCast_mul, Nat.mul_comm] at this
    omega
  have hup : l.Pairwise (· < ·) := by
    unfold rising at hr
    rw [rall_iff] at hr
    have step : ∀ i, i + 1 < l.length → l.getD i 0 < l.getD (i + 1) 0 := fun i hi => by simpa using hr i (Nat.zero_le _) (by omega)
    have far : ∀ d i, i + (d + 1) < l.length → l.getD i 0 < l.getD (i + (d + 1)) 0 := by
      intro d
      induction d with
      | zero => intro i hi; exact step i hi
      | succ d ih =>
        intro i hi
        exact Int.lt_trans (ih i (by omega)) (step (i + (d + 1)) (by omega))
    rw [List.pairwise_iff_getElem]
    intro i j hi hj hij
    have := far (j - i - 1) i (by omega)
    rw [show i + (j - i - 1 + 1) = j by omega] at this
    simpa [List.getD_eq_getElem?_getD, hi, hj] using this
  refine ⟨W, H, rfl, rfl, by omega, by omega, hc, hup, ?_⟩
  have hn : l.Nodup := hup.imp (fun h => Int.ne_of_lt h)
  have := nodup_leq hn (l := (List.range 64).map Int.ofNat) (fun c hc2 => by
    obtain ⟨c0, c1⟩ := hc c hc2
    have hHW : H * W ≤ 64 := Nat.mul_le_mul (show H ≤ 8 by omega) (show W ≤ 8 by omega)
    exact List.mem_map.2 ⟨c.toNat, List.mem_range.2 (by omega), by show ((c.toNat : Nat) : Int) = c; omega⟩)
  simpa using this
theorem nrP_is {W H : Nat} (hW : 1 ≤ W ∧ W ≤ 8) (hH : 1 ≤ H ∧ H ≤ 8) {a b : Int} (ha : 0 ≤ a ∧ a < ((H * W : Nat) : Int)) (hb : 0 ≤ b ∧ b < ((H * W : Nat) : Int)) : nrP (W : Int) a b = nrI W a b := by
  obtain ⟨i, rfl⟩ := Int.eq_ofNat_of_zero_le ha.1
  obtain ⟨j, rfl⟩ := Int.eq_ofNat_of_zero_le hb.1
  unfold nrP nrI
  rw [connected_is hW hH (a := i) (b := j) (by omega) (by omega)]
  rfl
def partsOf (a : Int) (l : List Int) : List (List Int) := partsI (nrI a.toNat) srt (l.length + 1) (l.length + 1) l []
theorem parts_prog {a b : Int} {l : List Int} (h : regionOk a b l = true) : impl_regionParts.f a l = some (partsOf a l) := by
  obtain ⟨W, H, rfl, rfl, hW, hH, hc, hup, h64⟩ := region_facts h
  unfold impl_regionParts.f
  rw [if_pos ⟨by omega, h64⟩]
  unfold partsP partsOf
  rw [ptP_is]
  exact congrArg some (partsI_congr (l := l) (fun x hx y hy => nrP_is hW hH (hc x hx) (hc y hy)) (fun _ _ => rfl) _ _ _ _ (fun c hc => hc) (hup.imp (fun h => Int.ne_of_lt h)))
theorem parts_ref {a b : Int} {l : List Int} (h : regionOk a b l = true) : Ev (fun k => spec_l8Parts.f k a l) (partsOf a l) := by
  obtain ⟨W, H, rfl, rfl, hW, hH, hc, hup, h64⟩ := region_facts h
  have hn : l.Nodup := hup.imp (fun h => Int.ne_of_lt h)
  have e := partsRef_ev hW hH hc hn h64
  rw [partsI_congr (l := l) (nr' := nrI W) (f' := srt) (fun _ _ _ _ => rfl) (fun g hg => (srt_eq (inOrder_perm hg) (inOrder_le hg)).symm) _ _ _ _ (fun c hc => hc) hn] at e
  exact e
theorem partsOf_size {a b : Int} {l : List Int} (h : regionOk a b l = true) : (partsOf a l).length ≤ 64 ∧ ∀ s ∈ partsOf a l, s.length ≤ 64 := by
  obtain ⟨W, H, rfl, rfl, hW, hH, hc, hup, h64⟩ := region_facts h
  have := partsI_size (nrI (W : Int).toNat) (l.length + 1) 64 (l.length + 1) l [] h64 (hup.imp (fun h => Int.ne_of_lt h)) (by simp)
  exact ⟨by have := this.1; simp only [List.length_nil] at this; unfold partsOf; omega, this.2⟩
theorem parts_ev (a b : Int) (l : List Int) (hl : l.length ≤ 9223372036854775806) : Ev (fun k => impl_RegionParts.f k a b l) (if regionOk a b l = true then (partsOf a l, true) else ([], false)) := by
  unfold impl_RegionParts.f
  refine ev_bind (isRegion_ev a b l hl) ?_
  cases e : regionOk a b l with
  | false => exact ev_ifn (by simp) (ev_some _)
  | true => exact ev_ifp rfl (ev_bind (ev_const (parts_prog e)) (ev_some _))
theorem partsS_ev (a b : Int) (l : List Int) (hl : l.length ≤ 9223372036854775806) : Ev (fun k => spec_RegionParts.f k a b l) (if regionOk a b l = true then (partsOf a l, true) else ([], false)) := by
  unfold spec_RegionParts.f
  refine ev_bind (l8Region_ev a b l hl) ?_
  cases e : regionOk a b l with
  | false => exact ev_ifn (by simp) (ev_some _)
  | true => exact ev_ifp rfl (ev_bind (parts_ref e) (ev_some _))
theorem parts_bothP (a b : Int) (l : List Int) (hl : l.length ≤ 9223372036854775806) : ∃ r : List (List Int) × Bool, Ev (fun k => spec_RegionParts.f k a b l) r ∧ Ev (fun k => impl_RegionParts.f k a b l) r ∧ r.1.length ≤ 64 ∧ ∀ s ∈ r.1, s.length ≤ 64 := by
  refine ⟨_, partsS_ev a b l hl, parts_ev a b l hl, ?_⟩
  cases e : regionOk a b l with
  | false => simp
  | true => exact partsOf_size e
end Go.Proofs.Ytnpclamoabcbgaa.Pure
namespace Go.Proofs.Ytnpclamoabcbgaa.Pure
set_option linter.unusedVariables false
set_option linter.unusedSimpArgs false
open Go.RowKit Go.Proofs.Ytnpclamoabcbgaa.P Go.Proofs.YtnpclamoabcbgaaW.PrintWords Go.Proofs.YtnpclamoabcbgaaW.PrintLast
def cnt (a : Int) (n : Nat) : List Int := (List.range n).map (fun i : Nat => a + (i : Int))
theorem cnt_length (a : Int) (n : Nat) : (cnt a n).length = n := by simp [cnt]
theorem cnt_getD (a : Int) (n i : Nat) (h : i < n) : (cnt a n).getD i 0 = a + i := by simp [cnt, List.getD, h]
theorem markIntS_ev (l : List Int) (a : Int) (h0 : 0 ≤ a) (h1 : a + l.length ≤ 9223372036854775806) : Ev (fun k => laws_markIntS.f k l a) (a + l.length, cnt a l.length) := by
  have h := loop_ev (fun k s i => laws_markIntS.l0 k s (a + (i : Int)) (i : Int)) l.length (fun i s => s.set i (a + i)) (fun s => (a + (l.length : Int), s))
    (fun i s => s.length = l.length ∧ ∀ j, j < i → s.getD j 0 = a + j)
    (fun i s r hI hi h => ev_step (fun k => by
      show laws_markIntS.l0 (k + 1) s (a + (i : Int)) (i : Int) = laws_markIntS.l0 k (s.set i (a + i)) (a + ((i + 1 : Nat) : Int)) ((i + 1 : Nat) : Int)
      have := hI.1
      simp only [laws_markIntS.l0]
      rw [if_pos (by omega), if_pos (by omega), w64 (by omega) (by omega), w64 (by omega) (by omega)]
      simp [Int.add_assoc]) h)
    (fun i s hI hi => ⟨by simp [hI.1], fun j hj => by
      by_cases e : j = i
      · subst e
        have := hI.1
        simp [List.getD, List.getElem?_set_self (show j < s.length by omega)]
      · have := hI.2 j (by omega)
        rw [← this]
        simp [List.getD, List.getElem?_set_ne (Ne.symm e)]⟩)
    (fun s hI => ev_step (f := fun _ => some (a + (l.length : Int), s)) (fun k => by
      have := hI.1
      simp only [laws_markIntS.l0]
      rw [if_neg (by omega)]) (ev_some _)) 0 l (Nat.zero_le _) ⟨rfl, fun j hj => by omega⟩
  have e : iter (fun i (s : List Int) => s.set i (a + i)) 0 (l.length - 0) l = cnt a l.length := by
    have hi := iter_inv (fun i (s : List Int) => s.set i (a + i)) (fun i s => s.length = l.length ∧ ∀ j, j < i → s.getD j 0 = a + j) l.length
      (fun i s hI hi => ⟨by simp [hI.1], fun j hj => by
        by_cases e : j = i
        · subst e
          have := hI.1
          simp [List.getD, List.getElem?_set_self (show j < s.length by omega)]
        · have := hI.2 j (by omega)
          rw [← this]
          simp [List.getD, List.getElem?_set_ne (Ne.symm e)]⟩) (l.length - 0) 0 l (by omega) ⟨rfl, fun j hj => by omega⟩
    exact eq_index 0 (by rw [hi.1, cnt_length]) (fun j hj => by rw [hi.2 j (by have := hi.1; omega), cnt_getD a _ j (by have := hi.1; omega)])
  rw [e] at h
  refine Ev.congr (fun k => ?_) h
  unfold laws_markIntS.f
  simp
theorem heldIntS_ev (a : Int) (n : Nat) (h0 : 0 ≤ a) (h1 : a + n ≤ 9223372036854775806) : Ev (fun k => laws_heldIntS.f k (cnt a n) a) (a + n) := by
  have h := loop_ev (σ := Unit) (fun k _ i => laws_heldIntS.l0 k (cnt a n) (a + (i : Int)) (i : Int)) n (fun _ _ => ()) (fun _ => a + (n : Int)) (fun _ _ => True)
    (fun i s r _ hi h => ev_step (fun k => by
      show laws_heldIntS.l0 (k + 1) (cnt a n) (a + (i : Int)) (i : Int) = laws_heldIntS.l0 k (cnt a n) (a + ((i + 1 : Nat) : Int)) ((i + 1 : Nat) : Int)
      simp only [laws_heldIntS.l0, cnt_length, rd_nat, cnt_getD a n i hi]
      rw [if_pos (by omega), if_pos (by omega), if_pos trivial, w64 (by omega) (by omega), w64 (by omega) (by omega)]
      simp [Int.add_assoc]) h)
    (fun _ _ _ _ => trivial)
    (fun _ _ => ev_step (f := fun _ => some (a + (n : Int))) (fun k => by
      simp only [laws_heldIntS.l0, cnt_length]
      rw [if_neg (by omega)]) (ev_some _)) 0 () (Nat.zero_le _) trivial
  refine Ev.congr (fun k => ?_) h
  unfold laws_heldIntS.f
  simp
theorem toIntS_ev (xs : List Int) (hm : xs.length ≤ 35184372088832) : Ev (fun k => laws_toIntS.f k xs) xs := by
  have h := loop_ev (fun k ys i => laws_toIntS.l0 k xs ys (i : Int)) xs.length (fun i ys => ys.set i (xs.getD i 0)) (fun ys => ys)
    (fun i ys => ys.length = xs.length ∧ ∀ j, j < i → ys.getD j 0 = xs.getD j 0)
    (fun i ys r hI hi h => ev_step (fun k => by
      show laws_toIntS.l0 (k + 1) xs ys (i : Int) = laws_toIntS.l0 k xs (ys.set i (xs.getD i 0)) ((i + 1 : Nat) : Int)
      have hl := hI.1
      simp only [laws_toIntS.l0]
      rw [if_pos (by omega), if_pos (by omega), if_pos (by omega), w64 (by omega) (by omega), rd_nat]
      simp) h)
    (fun i ys hI hi => ⟨by simp [hI.1], fun j hj => by
      by_cases e : j = i
      · subst e
        have := hI.1
        simp [List.getD, List.getElem?_set_self (show j < ys.length by omega)]
      · have := hI.2 j (by omega)
        rw [← this]
        simp [List.getD, List.getElem?_set_ne (Ne.symm e)]⟩)
    (fun ys hI => ev_step (f := fun _ => some ys) (fun k => by
      simp only [laws_toIntS.l0]
      rw [if_neg (by omega)]) (ev_some _)) 0 (List.replicate xs.length 0) (Nat.zero_le _) ⟨by simp, fun j hj => by omega⟩
  have e : iter (fun i (ys : List Int) => ys.set i (xs.getD i 0)) 0 (xs.length - 0) (List.replicate xs.length 0) = xs := by
    have hi := iter_inv (fun i (ys : List Int) => ys.set i (xs.getD i 0)) (fun i ys => ys.length = xs.length ∧ ∀ j, j < i → ys.getD j 0 = xs.getD j 0) xs.length
      (fun i ys hI hi => ⟨by simp [hI.1], fun j hj => by
        by_cases e : j = i
        · subst e
          have := hI.1
          simp [List.getD, List.getElem?_set_self (show j < ys.length by omega)]
        · have := hI.2 j (by omega)
          rw [← this]
          simp [List.getD, List.getElem?_set_ne (Ne.symm e)]⟩) (xs.length - 0) 0 (List.replicate xs.length 0) (by omega) ⟨by simp, fun j hj => by omega⟩
    exact eq_index 0 hi.1 (fun j hj => hi.2 j (by have := hi.1; omega))
  rw [e] at h
  refine Ev.congr (fun k => ?_) h
  unfold laws_toIntS.f
  rw [if_pos (by omega), if_pos (by omega)]
  simp
theorem eqIntS_ev (xs ys : List Int) (hm : xs.length ≤ 9223372036854775806) : Ev (fun k => laws_eqIntS.f k xs ys) (decide (xs = ys)) := by
  by_cases hl : xs.length = ys.length
  · have h := allb_ev (fun k i => laws_eqIntS.l0 k xs ys (i : Int)) xs.length (fun i => decide (xs.getD i 0 = ys.getD i 0))
      (fun i r hi hp h => ev_step (fun k => by
        simp only [laws_eqIntS.l0]
        rw [if_pos (by omega), if_pos (by omega), if_pos (by omega), rd_nat, rd_nat, if_pos (by simpa using hp), w64 (by omega) (by omega)]
        rfl) h)
      (fun i hi hp => ev_step (f := fun _ => some false) (fun k => by
        simp only [laws_eqIntS.l0]
        rw [if_pos (by omega), if_pos (by omega), if_pos (by omega), rd_nat, rd_nat, if_neg (by simpa using hp)]) (ev_some _))
      (ev_step (f := fun _ => some true) (fun k => by
        simp only [laws_eqIntS.l0]
        rw [if_neg (by omega)]) (ev_some _))
    rw [rall_eq 0 hl] at h
    refine Ev.congr (fun k => ?_) h
    unfold laws_eqIntS.f
    rw [if_pos (by omega)]
    rfl
  · refine Ev.congr (f := fun _ => some false) (fun k => ?_) (by rw [decide_eq_false (fun e => hl (by rw [e]))]; exact ev_some _)
    unfold laws_eqIntS.f
    rw [if_neg (by omega)]
theorem eqIntS_self (xs : List Int) (hm : xs.length ≤ 9223372036854775806) : Ev (fun k => laws_eqIntS.f k xs xs) true := by
  have := eqIntS_ev xs xs hm
  simpa using this
theorem rdl3 (xs : List (List Int)) (i : Nat) : rd_L1 xs (i : Int) = xs.getD i [] := by simp [rd_L1]
theorem eqIntSS_self (l : List (List Int)) (hl : l.length ≤ 1048576) (hs : ∀ s ∈ l, s.length ≤ 1048576) : Ev (fun k => laws_eqIntSS.f k l l) true := by
  have h := loop_ev (σ := Unit) (fun k _ i => laws_eqIntSS.l0 k l l (i : Int)) l.length (fun _ _ => ()) (fun _ => true) (fun _ _ => True)
    (fun i s r _ hi hr => by
      have e3 := Aside0.mk (show wrap64 ((i : Int) + 1) = ((i + 1 : Nat) : Int) by rw [w64 (by omega) (by omega)]; rfl)
      have hb : (l.getD i []).length ≤ 1048576 := by rw [getD_eq_get _ hi]; exact hs _ (List.getElem_mem hi)
      refine ev_step (fun k => laws_eqIntSS.l0.eq_2 _ _ _ k) (ev_ifp (by omega) (ev_ifp (by omega) (ev_ifp (by omega) ?_)))
      rw [rdl3, e3.out]
      exact ev_bind (eqIntS_self _ (by omega)) (ev_ifp rfl hr))
    (fun _ _ _ _ => trivial)
    (fun s _ => ev_step (fun k => laws_eqIntSS.l0.eq_2 _ _ _ k) (ev_ifn (by omega) (ev_some _))) 0 () (Nat.zero_le _) trivial
  unfold laws_eqIntSS.f
  exact ev_ifp rfl h
def mrAt (l : List (List Int)) : Nat → Int
  | 0 => 1
  | i + 1 => mrAt l i + ((l.getD i []).length : Int)
theorem mrAt_bd {l : List (List Int)} (hs : ∀ i, (l.getD i []).length ≤ 1048576) : ∀ i : Nat, 1 ≤ mrAt l i ∧ mrAt l i ≤ 1 + 1048576 * (i : Int)
  | 0 => by unfold mrAt; omega
  | i + 1 => by
    have h := mrAt_bd hs i
    have := hs i
    unfold mrAt
    omega
theorem markHeldIntSS (l : List (List Int)) (hl : l.length ≤ 1048576) (hs : ∀ x ∈ l, x.length ≤ 1048576) : ∃ r : Int × List (List Int), Ev (fun k => laws_markIntSS.f k l 1) r ∧ Ev (fun k => laws_heldIntSS.f k r.2 1) r.1 ∧ 0 ≤ r.1 := by
  have hsz : ∀ i, (l.getD i []).length ≤ 1048576 := fun i => by
    by_cases hi : i < l.length
    · rw [getD_eq_get _ hi]
      exact hs _ (List.getElem_mem hi)
    · simp [List.getD, List.getElem?_eq_none (show l.length ≤ i by omega)]
  have hb := mrAt_bd hsz
  have h1 : Ev (fun k => laws_markIntSS.l0 k l 1 0) (mrAt l l.length, tab l.length (fun i => cnt (mrAt l i) (l.getD i []).length)) := by
    have h := loop_ev (fun k (s : List (List Int)) i => laws_markIntSS.l0 k s (mrAt l i) (i : Int)) l.length (fun i s => s.set i (cnt (mrAt l i) (l.getD i []).length)) (fun s => (mrAt l l.length, s)) (fun i s => s.length = l.length ∧ ∀ j, i ≤ j → s.getD j [] = l.getD j [])
      (fun i s r hI hi hr => by
        obtain ⟨i1, i2⟩ := hI
        have b := hb i
        have bl := hsz i
        have e0 : Go.Proofs.Ytnpclamoabcbgaa.P.rowAt s (i : Int) = l.getD i [] := by rw [← i2 i (Nat.le_refl _)]; simp [Go.Proofs.Ytnpclamoabcbgaa.P.rowAt]
        have e3 := Aside0.mk (show wrap64 ((i : Int) + 1) = ((i + 1 : Nat) : Int) by rw [w64 (by omega) (by omega)]; rfl)
        refine ev_step (fun k => laws_markIntSS.l0.eq_2 _ _ _ k) (ev_ifp (by omega) (ev_ifp (by omega) ?_))
        rw [e0, e3.out, Int.toNat_natCast]
        exact ev_bind (markIntS_ev (l.getD i []) (mrAt l i) (by omega) (by omega)) hr)
      (fun i s hI hi => ⟨by rw [List.length_set]; exact hI.1, fun j hj => by rw [List.getD, List.getElem?_set_ne (by omega)]; exact hI.2 j (by omega)⟩)
      (fun s hI => ev_step (fun k => laws_markIntSS.l0.eq_2 _ _ _ k) (ev_ifn (by have := hI.1; omega) (ev_some _))) 0 l (Nat.zero_le _) ⟨rfl, fun _ _ => rfl⟩
    rw [Nat.sub_zero, iter_set_tab [] (fun i => cnt (mrAt l i) (l.getD i []).length) l.length l rfl] at h
    exact h
  have h2 : Ev (fun k => laws_heldIntSS.l0 k (tab l.length (fun i => cnt (mrAt l i) (l.getD i []).length)) 1 0) (mrAt l l.length) := by
    have h := loop_ev (σ := Unit) (fun k _ i => laws_heldIntSS.l0 k (tab l.length (fun i => cnt (mrAt l i) (l.getD i []).length)) (mrAt l i) (i : Int)) l.length (fun _ _ => ()) (fun _ => mrAt l l.length) (fun _ _ => True)
      (fun i s r _ hi hr => by
        have b := hb i
        have bl := hsz i
        have e0 : rd_L1 (tab l.length (fun i => cnt (mrAt l i) (l.getD i []).length)) (i : Int) = cnt (mrAt l i) (l.getD i []).length := by rw [rdl3, tab_getD _ _ _ hi]
        have e3 := Aside0.mk (show wrap64 ((i : Int) + 1) = ((i + 1 : Nat) : Int) by rw [w64 (by omega) (by omega)]; rfl)
        refine ev_step (fun k => laws_heldIntSS.l0.eq_2 _ _ _ k) (ev_ifp (by rw [tab_length]; omega) (ev_ifp (by omega) ?_))
        rw [e0, e3.out]
        exact ev_bind (heldIntS_ev (mrAt l i) (l.getD i []).length (by omega) (by omega)) (ev_ifn (by omega) hr))
      (fun _ _ _ _ => trivial)
      (fun s _ => ev_step (fun k => laws_heldIntSS.l0.eq_2 _ _ _ k) (ev_ifn (by rw [tab_length]; omega) (ev_some _))) 0 () (Nat.zero_le _) trivial
    exact h
  exact ⟨(mrAt l l.length, tab l.length (fun i => cnt (mrAt l i) (l.getD i []).length)), h1, h2, by have := hb l.length; dsimp only; omega⟩
theorem FnExactRegionParts : laws_FnExactRegionParts.Pure := by
  intro a b l ha hb hm hl
  refine Ev.rounds ?_
  unfold laws_FnExactRegionParts.f
  by_cases hlen0 : (l.length : Int) > 1048576
  · exact ev_ifp hlen0 (ev_some _)
  refine ev_ifn hlen0 ?_
  obtain ⟨⟨r1, g⟩, hs, hi, hr1, hr2⟩ := parts_bothP a b l (by omega); have hb1 : r1.length ≤ 1048576 := by dsimp only at hr1; omega
  have hb2 : ∀ s ∈ r1, s.length ≤ 1048576 := fun s hs => by have := hr2 s hs; omega
  obtain ⟨⟨m, M⟩, hm1, hm2, hm0⟩ := markHeldIntSS r1 hb1 hb2; dsimp only at hm2 hm0
  refine ev_bind (toIntS_ev _ (by first | omega | (dsimp only; omega) | (simp; omega))) ?_
  refine ev_bind hs ?_
  refine ev_bind (toIntS_ev _ (by first | omega | (dsimp only; omega) | (simp; omega))) ?_
  refine ev_bind hi ?_
  refine ev_bind (eqIntSS_self _ hb1 hb2) ?_
  refine ev_ifp rfl ?_
  refine ev_step (fun k => laws_FnExactRegionParts.j0.eq_2 _ _ _ _ _ _ _ _ _ k) ?_
  refine ev_ifn (by simp) ?_
  refine ev_bind (toIntS_ev _ (by first | omega | (dsimp only; omega) | (simp; omega))) ?_
  refine ev_bind (eqIntS_self _ (by first | omega | (dsimp only; omega) | (simp; omega))) ?_
  refine ev_ifp rfl ?_
  refine ev_bind (markIntS_ev _ _ (by first | omega | (dsimp only; omega) | (simp; omega)) (by first | omega | (dsimp only; omega) | (simp; omega))) ?_
  refine ev_ifn (by first | (simp; done) | (simp; omega) | omega) ?_
  refine ev_bind (eqIntSS_self _ hb1 hb2) ?_
  refine ev_ifp rfl ?_
  refine ev_step (fun k => laws_FnExactRegionParts.j1.eq_2 _ _ _ _ _ _ _ k) ?_
  refine ev_ifn (by simp) ?_
  refine ev_bind hm1 ?_
  refine ev_bind hm2 ?_
  refine ev_ifn (by first | (simp; done) | (simp; omega) | omega) ?_
  refine ev_ifp (by first | rfl | (simp; done)) ?_
  refine ev_bind (toIntS_ev _ (by first | omega | (dsimp only; omega) | (simp; omega))) ?_
  refine ev_bind hi ?_
  refine ev_bind (eqIntSS_self _ hb1 hb2) ?_
  refine ev_ifp rfl ?_
  refine ev_step (fun k => laws_FnExactRegionParts.j2.eq_2 _ _ _ k) ?_
  refine ev_ifn (by simp) ?_
  refine ev_bind hm2 ?_
  refine ev_ifn (by first | (simp; done) | (simp; omega) | omega) ?_
  refine ev_ifp (by first | rfl | (simp; done)) ?_
  exact ev_some _
end Go.Proofs.Ytnpclamoabcbgaa.Pure
namespace Go.Proofs.Ytnpclamoabcbgaa.fnExactRegionParts
open Go.ChangeShapes Go.WideShapes Go.ChangeAt Go.RowKit Go.Proofs.Ytnpclamoabcbgaa.Open Go.Proofs.Ytnpclamoabcbgaa.P Go.Proofs.YtnpclamoabcbgaaW.PrintWords
open Go.ChangeMaps (open_string shut_string)
set_option linter.unusedVariables false
theorem own : ownKnob Try.prog.godebug = none := by kernel_rfl
theorem laidOut : laidOutB Try.prog = true := by kernel_rfl
set_option maxRecDepth 100000 in
theorem lifted (os : Os) (started : os.Started) (H : Type) (enc : TypeId × Value → H) :
    ReturnsInHanded {} Try.checked os 3 .any (Rows.fnExactRegionPartsSpec.pre6 enc Try.prog Try.f3 Rows.fnExactRegionPartsRow.domain false) (Rows.fnExactRegionPartsSpec.post enc Try.prog Try.f3 false true false false) := by
  refine returnsInHanded_of_change_sized (C := Try.checked) own started (by kernel_rfl) Try.func3
    (ChangeSpec.witness6 (enc := enc) (C := Try.checked) false ⟨#[], #[.int .i64 0, .int .i64 0, .slice none 0 0], []⟩ 8 (by kernel_rfl) (by kernel_rfl) (by kernel_rfl) (by kernel_rfl)) ?_
  intro W base args ds gs before hval0 hW hcnd hsz0 _
  have hsz : (DataW.weightsEach Try.prog (Try.f3.params.toList ++ Rows.fnExactRegionPartsSpec.plain.varTypes Try.prog) (ds ++ gs)).all (· ≤ reachBytes) = true := hsz0
  have hval : ∀ (j : Nat) t v, Try.f3.params[j]? = some t → args[j]? = some v → Value.okWide Try.prog W .any base t v := hval0
  have hW' := hW
  obtain ⟨p, q, hA0, hV, rfl, hfz, hnd⟩ := hW
  have hA : DataW.TrodAll enc Try.prog W 0 (fun _ => true) true Try.f3.params.toList args.toList ds p := hA0
  rw [Try.params3] at hA hval hsz
  obtain ⟨v0, vs0, d0, ds0, p0, q0, hargs, rfl, rfl, h0, r0⟩ := trodAll_cons hA
  obtain ⟨v1, vs1, d1, ds1, p1, q1, rfl, rfl, rfl, h1, r1⟩ := trodAll_cons r0
  obtain ⟨v2, vs2, d2, ds2, p2, q2, rfl, rfl, rfl, h2, r2⟩ := trodAll_cons r1
  obtain ⟨rfl, rfl, rfl⟩ := trodAll_nil r2
  obtain rfl : args = #[v0, v1, v2] := by cases args; simp_all
  obtain ⟨rfl, rfl⟩ := trodVars_none hV
  obtain ⟨a0, rfl, rfl, rfl, w0⟩ := open_int Try.underlying3 (hval 0 3 v0 rfl rfl) h0
  obtain ⟨a1, rfl, rfl, rfl, w1⟩ := open_int Try.underlying3 (hval 1 3 v1 rfl rfl) h1
  obtain ⟨A2, len2, c2, rfl⟩ := okWide_slice Try.underlying22 (hval 2 22 v2 rfl rfl)
  have k2 := h2
  have lt2 : ∀ x ∈ p2, x.block < W.heap.size := by obtain ⟨m, hm⟩ := k2; exact DataW.trod_lt m _ _ _ hm
  have y2 : len2 * 8 ≤ 140737488351232 := sized_any hsz (j := 2) (t := 22) rfl rfl Try.underlying22 (by kernel_rfl) h2
  obtain ⟨l2, rfl, hc2, hr2, w2⟩ := slice_at (opens_slice Try.underlying22 (by kernel_rfl) (opens_int Try.underlying3)) h2
  clear hA0 hval0 hsz0 hsz
  obtain ⟨k, hp⟩ := Pure.FnExactRegionParts a0 a1 l2 w0 w1 w2 y2
  refine (laws_FnExactRegionParts.calls k a0 a1 A2 c2 l2 true W hr2 hc2 hp).mono fun e W' ⟨he, bel0⟩ => ?_
  have bel : Below W.heap.size W W' := bel0
  subst he
  exact ⟨_, rfl, _, _, _, [], _, [], hW', trodAll_mk1 (shut_bool Try.underlying4 _), (trodAll_cons_mk (shut_int Try.underlying3 w0) (trodAll_cons_mk (shut_int Try.underlying3 w1) (trodAll_cons_mk (Below.trod laidOut (by kernel_rfl) (of_decide_eq_true (by kernel_rfl)) k2 bel lt2) trodAll_mk0))), rfl, bel.frame _, fun h => by cases h⟩
set_option maxHeartbeats 4000000 in
set_option maxRecDepth 100000 in
theorem closed : joinedFacts Try.prog 3 Try.f3 Rows.fnExactRegionPartsSpec Rows.fnExactRegionPartsRow = true := by
  unfold joinedFacts
  repeat' (with_reducible refine Bool.and_eq_true_iff.2 ⟨?_, ?_⟩)
  all_goals (as_aux_lemma => kernel_rfl)
theorem over : Rows.fnExactRegionPartsRow.holds Try.pinned (OpenSpec.ofChange Rows.fnExactRegionPartsSpec) :=
  OpenClaim.holds_of_wide 3 Try.f3 rfl rfl rfl rfl rfl rfl rfl ⟨rfl, rfl, rfl, rfl, rfl⟩ rfl rfl rfl rfl rfl (by kernel_rfl) Try.func3 closed
    (of_decide_eq_true (by kernel_rfl)) (by unfold Func.isWrapper; first | (rw [if_pos (by decide +kernel)]; kernel_rfl) | (rw [if_neg (by decide +kernel)]; exact ⟨rfl, rfl⟩))
    (fun os started H enc _ => lifted os started H enc)
theorem proved : Rows.FnExactRegionPartsSaid := over
#print axioms proved
end Go.Proofs.Ytnpclamoabcbgaa.fnExactRegionParts
namespace Go.Proofs.Ytnpclamoabcbgaa
theorem fnExactRegionParts_holds : Rows.FnExactRegionPartsSaid := fnExactRegionParts.proved
end Go.Proofs.Ytnpclamoabcbgaa
