/- Texts of the claim FnExactGrowRegion, merged: part 3 of 3: the program's and the reference's functions as Lean functions, the walks that show it, and plain lemmas; no conditions. -/
import Derived.Test.YtbjbanemmoalhaaKFnExactGrowRegion1
import Derived.Test.YtbjbanemmoalhaaKFnExactGrowRegion2
import Derived.Test.YtbjbanemmoalhaaRows
import Derived.WalkKit
import Derived.ProofKit
import Derived.OpenShut
import Derived.ShutString
import Derived.ChangeOld
import Derived.Below
import Derived.SizedLaws
namespace Go.Proofs.Ytbjbanemmoalhaa.P
open Go.RowKit Go.Proofs.YtbjbanemmoalhaaW.PrintWords Go.Proofs.YtbjbanemmoalhaaW.PrintLast Go.Proofs.YtbjbanemmoalhaaW.PrintMore
attribute [local go_sem] max2_int min2_int max_two min_two max_three min_three max_four min_four   -- for this text's walks alone
set_option linter.unusedVariables false
set_option linter.unusedSimpArgs false

/-! ### slices_IndexFunc_int_int: function 166 -/
/-- What is asked of a function value handed on: at every x, in every world in which all that lay in w lies unturned, it answers p x. -/
def PredOK {α : Type} (g : Nat) (lb : Array Value) (enc : α → Value) (p : α → Bool) (w : World) : Prop :=
  ∀ (x : α) (W : World), Below w.heap.size w W → Calls Try.prog g (#[enc x] ++ lb) W fun e W' => e = .returned (.bool (p x)) ∧ Below W.heap.size W W'
/-- The first index from i on at which p holds, or -1. -/
def idxFrom {α : Type} (p : α → Bool) : Nat → List α → Int
  | _, [] => -1
  | i, x :: xs => if p x = true then (i : Int) else idxFrom p (i + 1) xs
theorem idxFrom_hit {α : Type} (p : α → Bool) (z : α) : ∀ (xs : List α) (i k : Nat), k < xs.length → p (xs.getD k z) = true → (∀ j, j < k → p (xs.getD j z) = false) → idxFrom p i xs = ((i + k : Nat) : Int)
  | [], _, k, h, _, _ => by simp at h
  | x :: xs, i, 0, _, h, _ => by simp only [List.getD_cons_zero] at h; simp [idxFrom, h]
  | x :: xs, i, k + 1, hk, h, hb => by
    have h0 : p x = false := by simpa using hb 0 (by omega)
    simp only [idxFrom, h0, Bool.false_eq_true, if_false]
    rw [idxFrom_hit p z xs (i + 1) k (by simpa using hk) (by simpa using h) (fun j hj => by simpa using hb (j + 1) (by omega))]
    congr 1
    omega
theorem idxFrom_miss {α : Type} (p : α → Bool) (z : α) : ∀ (xs : List α) (i : Nat), (∀ j, j < xs.length → p (xs.getD j z) = false) → idxFrom p i xs = -1
  | [], _, _ => rfl
  | x :: xs, i, hb => by
    have h0 : p x = false := by simpa using hb 0 (by simp)
    simp only [idxFrom, h0, Bool.false_eq_true, if_false]
    exact idxFrom_miss p z xs (i + 1) (fun j hj => by simpa using hb (j + 1) (by simpa using hj))
theorem idxFrom_any {α : Type} (p : α → Bool) : ∀ (xs : List α) (i : Nat), decide (idxFrom p i xs ≥ 0) = xs.any p
  | [], _ => rfl
  | x :: xs, i => by
    simp only [idxFrom, List.any_cons]
    by_cases h : p x = true
    · simp [h]
    · rw [Bool.not_eq_true] at h
      simp only [h, Bool.false_eq_true, if_false, Bool.false_or]
      exact idxFrom_any p xs (i + 1)
set_option maxHeartbeats 2000000 in
set_option maxRecDepth 100000 in
theorem indexFunc_int (g : Nat) (lb : Array Value) (p : Int → Bool) (eg : ∀ args w, (callFunc g args).run Try.prog w = .ok (.enter g args) w) (A : Option Addr) (c : Nat) (xs : List Int) (w : World)
    (hr : Kd.C (Kd.int .i64) w A xs.length xs) (hp : PredOK g lb (Value.int .i64) p w) :
    Calls Try.prog 166 #[.slice A xs.length c, .func (.func g) #[] lb] w fun e w' => e = .returned (.int .i64 (idxFrom p 0 xs)) ∧ Below w.heap.size w w' := by
  have hn : xs.length ≤ 9223372036854775807 := hr.2.1
  have HR := Aside0.mk hr
  clear hr
  go_enter Try.func166, Try.ntmps166
  go_wp2
  go_loopg [5, 8] xs.length (fun gg _ s8 wr => ∃ x : Int, s8 = .int .i64 x ∧ Aside0 (0 ≤ x ∧ x ≤ (xs.length : Int) ∧ (xs.length : Int) - x ≤ (gg : Int) ∧ ∀ j : Nat, (j : Int) < x → p (xs.getD j 0) = false) ∧ Below w.heap.size w wr)
  case atStart => exact ⟨0, rfl, ⟨by omega, by omega, by omega, fun j hj => by omega⟩, Below.refl _ _⟩
  case round =>
    obtain ⟨x, rfl, AA, hb⟩ := hrel
    have HB := Aside0.mk hb
    clear hb
    by_cases hlt : x < (xs.length : Int)
    · have c4b0 : decide (x < (xs.length : Int)) = true := decide_eq_true hlt
      obtain ⟨ad, e0, hcell⟩ := Kd.at_int (Kd.C_below HR.out HB.out) x AA.out.1 hlt
      cases e0
      have hcall := hp (rd xs x) _ HB.out
      have BB : Aside0 (xs.getD x.toNat 0 = rd xs x) := ⟨rfl⟩
      have p101 := eq_true AA.out.1
      have q101 := eq_true hlt
      have LT := Aside0.mk hlt
      clear hlt
      cases hq : p (rd xs x) with
      | true =>
        rw [hq] at hcall
        have HC := Aside0.mk hcall
        have HQ := Aside0.mk hq
        clear hcall hq
        go_wp2_with fail
        refine HC.out.mono ?_
        rintro e w' ⟨rfl, hb'⟩
        have HB2 := Aside0.mk hb'
        clear hb'
        go_wp2_with fail
        go_ret
        have hA := AA.out
        have hl := LT.out
        refine ⟨?_, below_then HB.out HB.out.size HB2.out⟩
        rw [idxFrom_hit p 0 xs 0 x.toNat (by omega) (by rw [BB.out]; exact HQ.out) (fun j hj => hA.2.2.2 j (by omega))]
        rw [show ((0 + x.toNat : Nat) : Int) = x by omega]
        rfl
      | false =>
        rw [hq] at hcall
        have HC := Aside0.mk hcall
        have HQ := Aside0.mk hq
        clear hcall hq
        go_wp2_with fail
        refine HC.out.mono ?_
        rintro e w' ⟨rfl, hb'⟩
        have HB2 := Aside0.mk hb'
        clear hb'
        go_wp2_with fail
        go_roundg (xs.length - (x.toNat + 1))
        case measure => have hA := AA.out; have hl := LT.out; omega
        case rel =>
          have hA := AA.out
          have hl := LT.out
          refine ⟨x + 1, by (first | rfl | (congr 1; unfold wrap64; omega)), ⟨by omega, by omega, by omega, fun j hj => ?_⟩, below_then HB.out HB.out.size HB2.out⟩
          by_cases e : (j : Int) = x
          · have e2 : j = x.toNat := by omega
            rw [e2, BB.out]; exact HQ.out
          · exact hA.2.2.2 j (by omega)
    · have c4b0 : decide (x < (xs.length : Int)) = false := decide_eq_false hlt
      have LT := Aside0.mk hlt
      clear hlt
      go_wp2_with fail
      go_ret
      have hA := AA.out
      have hl := LT.out
      refine ⟨?_, HB.out⟩
      rw [idxFrom_miss p 0 xs 0 (fun j hj => hA.2.2.2 j (by omega))]
      rfl

end Go.Proofs.Ytbjbanemmoalhaa.P
namespace Go.Proofs.Ytbjbanemmoalhaa.P
open Go.RowKit Go.Proofs.YtbjbanemmoalhaaW.PrintWords Go.Proofs.YtbjbanemmoalhaaW.PrintLast Go.Proofs.YtbjbanemmoalhaaW.PrintMore
attribute [local go_sem] max2_int min2_int max_two min_two max_three min_three max_four min_four   -- for this text's walks alone
set_option linter.unusedVariables false
set_option linter.unusedSimpArgs false

/-! ### slices_ContainsFunc_int_int: function 94 -/
set_option maxHeartbeats 2000000 in
set_option maxRecDepth 100000 in
theorem containsFunc_int (g : Nat) (lb : Array Value) (p : Int → Bool) (eg : ∀ args w, (callFunc g args).run Try.prog w = .ok (.enter g args) w) (A : Option Addr) (c : Nat) (xs : List Int) (w : World)
    (hr : Kd.C (Kd.int .i64) w A xs.length xs) (hp : PredOK g lb (Value.int .i64) p w) :
    Calls Try.prog 94 #[.slice A xs.length c, .func (.func g) #[] lb] w fun e w' => e = .returned (.bool (xs.any p)) ∧ Below w.heap.size w w' := by
  rw [← idxFrom_any p xs 0]
  go_enter Try.func94, Try.ntmps94
  go_wp2_with (go_at_call 166; refine (indexFunc_int g lb p eg A c xs _ hr hp).mono ?_; rintro e w' ⟨rfl, hb'⟩)
  go_ret
  exact ⟨rfl, by assumption⟩

end Go.Proofs.Ytbjbanemmoalhaa.P
namespace Go.Proofs.Ytbjbanemmoalhaa.P
open Go.RowKit Go.Proofs.YtbjbanemmoalhaaW.PrintWords Go.Proofs.YtbjbanemmoalhaaW.PrintLast Go.Proofs.YtbjbanemmoalhaaW.PrintMore
attribute [local go_sem] max2_int min2_int max_two min_two max_three min_three max_four min_four   -- for this text's walks alone
set_option linter.unusedVariables false
set_option linter.unusedSimpArgs false

/-! ### slices_ContainsFunc_int_at_impl_IsValidField_1 -/
def slices_ContainsFunc_int_at_impl_IsValidField_1.p (x : Int) : Bool := !(decide (x = -9999) || (decide (-9000 ≤ x) && decide (x ≤ 9000)))
def slices_ContainsFunc_int_at_impl_IsValidField_1.f (l0 : List Int) : Option Bool := some (l0.any slices_ContainsFunc_int_at_impl_IsValidField_1.p)
theorem slices_ContainsFunc_int_at_impl_IsValidField_1.one (x : Int) : impl_IsValidField_1.f x = some (slices_ContainsFunc_int_at_impl_IsValidField_1.p x) := by
  unfold impl_IsValidField_1.f impl_isCell.f impl_within.f slices_ContainsFunc_int_at_impl_IsValidField_1.p
  by_cases h : x = -9999
  · simp [h]
  · by_cases h1 : -9000 ≤ x <;> simp [h, h1]
theorem slices_ContainsFunc_int_at_impl_IsValidField_1.calls (A0 : Option Addr) (c0 : Nat) (l0 : List Int) (r : Bool) (w : World) (hr0 : Kd.C (Kd.int .i64) w A0 l0.length l0) (_hc0 : l0.length ≤ c0) (h : slices_ContainsFunc_int_at_impl_IsValidField_1.f l0 = some r) :
    Calls Try.prog 94 #[.slice A0 l0.length c0, .func (.func 198) #[] #[]] w fun e w' => e = .returned (.bool r) ∧ Below w.heap.size w w' := by
  obtain rfl := Option.some.inj h
  refine containsFunc_int 198 #[] _ (fun args w => enters_ Try.func198 (by kernel_rfl) rfl args w) A0 c0 l0 w hr0 (fun x W _ => ?_)
  refine (impl_IsValidField_1.calls x _ W (slices_ContainsFunc_int_at_impl_IsValidField_1.one x)).mono ?_
  rintro e w' ⟨rfl, hd⟩
  exact ⟨rfl, hd.below⟩

end Go.Proofs.Ytbjbanemmoalhaa.P
namespace Go.Proofs.Ytbjbanemmoalhaa.P
open Go.RowKit Go.Proofs.YtbjbanemmoalhaaW.PrintWords Go.Proofs.YtbjbanemmoalhaaW.PrintLast Go.Proofs.YtbjbanemmoalhaaW.PrintMore
attribute [local go_sem] max2_int min2_int max_two min_two max_three min_three max_four min_four   -- for this text's walks alone
set_option linter.unusedVariables false
set_option linter.unusedSimpArgs false

/-! ### impl_IsValidField: function 140 -/
def impl_IsValidField.f (a0_0 : Int) (a0_1 : Int) (l0_2 : List Int) : Option (Bool) := (impl_within.f a0_0 1 8).bind fun t102 => (if t102 = true then ((impl_within.f a0_1 1 8).bind fun t103 => (if t103 = true then (if (l0_2.length : Int) = (wrap64 (a0_0 * a0_1)) then ((slices_ContainsFunc_int_at_impl_IsValidField_1.f l0_2).bind fun t104 => (some (!t104))) else (some false)) else (some false))) else (some false))
set_option maxHeartbeats 8000000 in
set_option maxRecDepth 100000 in
theorem impl_IsValidField.calls (a0_0 : Int) (a0_1 : Int) (A0_2 : Option Addr) (c0_2 : Nat) (l0_2 : List Int) (r : Bool) (w : World) (hr0_2 : Kd.C (Kd.int .i64) w A0_2 l0_2.length l0_2) (hc0_2 : l0_2.length ≤ c0_2) (h : impl_IsValidField.f a0_0 a0_1 l0_2 = some r) :
  Calls Try.prog 140 #[.agg #[.int .i64 a0_0, .int .i64 a0_1, .slice A0_2 l0_2.length c0_2]] w fun e w' => e = .returned (.bool r) ∧ Below w.heap.size w w' := by
 have hu42 := Try.underlying42
 have HR0_2 := Aside0.mk hr0_2
 have HC0_2 := Aside0.mk hc0_2
 clear hr0_2 hc0_2
 have HB := aK (Below.refl w.heap.size w)
 have H : ((impl_within.f a0_0 1 8).bind fun t102 => (if t102 = true then ((impl_within.f a0_1 1 8).bind fun t103 => (if t103 = true then (if (l0_2.length : Int) = (wrap64 (a0_0 * a0_1)) then ((slices_ContainsFunc_int_at_impl_IsValidField_1.f l0_2).bind fun t104 => (some (!t104))) else (some false)) else (some false))) else (some false))) = some r := h
 clear h
 replace H := Option.bind_eq_some_iff.mp H
 obtain ⟨t102, A20, H⟩ := H
 replace H : (if t102 = true then ((impl_within.f a0_1 1 8).bind fun t103 => (if t103 = true then (if (l0_2.length : Int) = (wrap64 (a0_0 * a0_1)) then ((slices_ContainsFunc_int_at_impl_IsValidField_1.f l0_2).bind fun t104 => (some (!t104))) else (some false)) else (some false))) else (some false)) = some r := H
 have A2 := Aside0.mk A20
 clear A20
 by_cases c3 : t102 = true
 ·
  subst c3
  have H1 : ((impl_within.f a0_1 1 8).bind fun t103 => (if t103 = true then (if (l0_2.length : Int) = (wrap64 (a0_0 * a0_1)) then ((slices_ContainsFunc_int_at_impl_IsValidField_1.f l0_2).bind fun t104 => (some (!t104))) else (some false)) else (some false))) = some r := by rw [if_pos rfl] at H; exact H
  clear H
  have H := H1
  clear H1
  replace H := Option.bind_eq_some_iff.mp H
  obtain ⟨t103, A40, H⟩ := H
  replace H : (if t103 = true then (if (l0_2.length : Int) = (wrap64 (a0_0 * a0_1)) then ((slices_ContainsFunc_int_at_impl_IsValidField_1.f l0_2).bind fun t104 => (some (!t104))) else (some false)) else (some false)) = some r := H
  have A4 := Aside0.mk A40
  clear A40
  by_cases c5 : t103 = true
  ·
   subst c5
   have H1 : (if (l0_2.length : Int) = (wrap64 (a0_0 * a0_1)) then ((slices_ContainsFunc_int_at_impl_IsValidField_1.f l0_2).bind fun t104 => (some (!t104))) else (some false)) = some r := by rw [if_pos rfl] at H; exact H
   clear H
   have H := H1
   clear H1
   by_cases c6 : (l0_2.length : Int) = (wrap64 (a0_0 * a0_1))
   ·
    rw [if_pos c6] at H
    have c6b0 : ((l0_2.length : Int) == (wrap64 (a0_0 * a0_1))) = true := beq_iff_eq.mpr c6
    have c6b1 : ((l0_2.length : Int) != (wrap64 (a0_0 * a0_1))) = false := bne_eq_false_iff_eq.mpr c6
    clear c6
    replace H := Option.bind_eq_some_iff.mp H
    obtain ⟨t104, A70, H⟩ := H
    replace H : (some (!t104)) = some r := H
    have A7 := Aside0.mk A70
    clear A70
    obtain rfl := Option.some.inj H
    go_enter Try.func140, Try.ntmps140
    go_wp2_with (first | ((with_reducible refine gate_dst (N := 1) rfl ?_); (try (refine gate_guard (by rfl) ?_; dsimp only)); refine box_event ?hg (N := 1) ?hd (cs := #[.int .i64 a0_0, .int .i64 a0_1, .slice A0_2 l0_2.length c0_2]) (t := 42) ?hr ?_; (case hd => rfl); (case hg => rfl); (case hr => first | (go_simp; done) | (go_simp; rfl)); intro gb101 hg w8 hbox hb; have BK101 := aK (hbox); have GW101 := aK (gE hg (pS HB.out)); have GE101 := aK (gE hg (pS HB.out)); replace HB := bS HB hb; clear hb hbox hg; have hcz9_0 : w8.cell? ⟨gb101, 0, none⟩ = some (.int .i64 a0_0) := (blk_cell BK101.out 0).trans rfl; have hcz9_1 : w8.cell? ⟨gb101, 1, none⟩ = some (.int .i64 a0_1) := (blk_cell BK101.out 1).trans rfl; have hcz9_2 : w8.cell? ⟨gb101, 2, none⟩ = some (.slice A0_2 l0_2.length c0_2) := (blk_cell BK101.out 2).trans rfl; have hfz9_0 := blk_frozen BK101.out 0; have hfz9_1 := blk_frozen BK101.out 1; have hfz9_2 := blk_frozen BK101.out 2) | ((with_reducible refine gate_callee (f := 115) rfl ?_); refine goesL_ (some 5) rfl rfl Try.func115 (by kernel_rfl) rfl #[.int .i64 a0_0, .int .i64 1, .int .i64 8] rfl (by (try simp only [List.map_toArray, List.map_cons, List.map_nil]); first | done | rfl | (simp only [List.length_drop, List.length_take]; rfl)) ?_; (with_reducible refine (impl_within.calls a0_0 1 8 true _ A2.out).mono ?_); rintro e w' ⟨rfl, ⟨nd, rfl⟩⟩; refine ⟨_, rfl, ?_⟩) | (go_at_call 115; (with_reducible refine (impl_within.calls a0_1 1 8 true _ A4.out).mono ?_); rintro e w' ⟨rfl, ⟨nd, rfl⟩⟩) | (go_at_call 94; (with_reducible refine (slices_ContainsFunc_int_at_impl_IsValidField_1.calls _ _ l0_2 t104 _ ?side1 ?side2 A7.out).mono ?_); (case side1 => repeat (first | exact (Kd.C_below HR0_2.out (pS HB.out)) | (with_reducible refine Kd.C_alloc ?_ _) | (with_reducible refine Kd.C_drewN ?_ _) | (with_reducible refine Kd.C_drew ?_))); (case side2 => exact HC0_2.out); rintro e w10 ⟨rfl, hb⟩; replace BK101 := bB BK101 hb; replace HB := bS HB hb; (try clear hb); (try clear hb2); (try clear hk); (try clear hi)))
    go_ret
    exact ⟨by first | rfl | (simp [errW_none, errW_some] <;> rfl) | (simp [*, errW_none, errW_some] <;> rfl), by repeat (first | (with_reducible first | exact HB.out | apply below_alloc | apply pw_below_drewN | apply below_drew1 | refine below_set ?_ GE101.out) | exact HB.out)⟩
   ·
    rw [if_neg c6] at H
    have c6b0 : ((l0_2.length : Int) == (wrap64 (a0_0 * a0_1))) = false := beq_eq_false_iff_ne.mpr c6
    have c6b1 : ((l0_2.length : Int) != (wrap64 (a0_0 * a0_1))) = true := bne_iff_ne.mpr c6
    obtain rfl := Option.some.inj H
    go_enter Try.func140, Try.ntmps140
    go_wp2_with (first | ((with_reducible refine gate_dst (N := 1) rfl ?_); (try (refine gate_guard (by rfl) ?_; dsimp only)); refine box_event ?hg (N := 1) ?hd (cs := #[.int .i64 a0_0, .int .i64 a0_1, .slice A0_2 l0_2.length c0_2]) (t := 42) ?hr ?_; (case hd => rfl); (case hg => rfl); (case hr => first | (go_simp; done) | (go_simp; rfl)); intro gb101 hg w11 hbox hb; have BK101 := aK (hbox); have GW101 := aK (gE hg (pS HB.out)); have GE101 := aK (gE hg (pS HB.out)); replace HB := bS HB hb; clear hb hbox hg; have hcz12_0 : w11.cell? ⟨gb101, 0, none⟩ = some (.int .i64 a0_0) := (blk_cell BK101.out 0).trans rfl; have hcz12_1 : w11.cell? ⟨gb101, 1, none⟩ = some (.int .i64 a0_1) := (blk_cell BK101.out 1).trans rfl; have hcz12_2 : w11.cell? ⟨gb101, 2, none⟩ = some (.slice A0_2 l0_2.length c0_2) := (blk_cell BK101.out 2).trans rfl; have hfz12_0 := blk_frozen BK101.out 0; have hfz12_1 := blk_frozen BK101.out 1; have hfz12_2 := blk_frozen BK101.out 2) | ((with_reducible refine gate_callee (f := 115) rfl ?_); refine goesL_ (some 5) rfl rfl Try.func115 (by kernel_rfl) rfl #[.int .i64 a0_0, .int .i64 1, .int .i64 8] rfl (by (try simp only [List.map_toArray, List.map_cons, List.map_nil]); first | done | rfl | (simp only [List.length_drop, List.length_take]; rfl)) ?_; (with_reducible refine (impl_within.calls a0_0 1 8 true _ A2.out).mono ?_); rintro e w' ⟨rfl, ⟨nd, rfl⟩⟩; refine ⟨_, rfl, ?_⟩) | (go_at_call 115; (with_reducible refine (impl_within.calls a0_1 1 8 true _ A4.out).mono ?_); rintro e w' ⟨rfl, ⟨nd, rfl⟩⟩))
    go_ret
    exact ⟨by first | rfl | (simp [errW_none, errW_some] <;> rfl) | (simp [*, errW_none, errW_some] <;> rfl), by repeat (first | (with_reducible first | exact HB.out | apply below_alloc | apply pw_below_drewN | apply below_drew1 | refine below_set ?_ GE101.out) | exact HB.out)⟩
  ·
   replace c5 := Bool.eq_false_iff.mpr c5
   subst c5
   have H1 : (some false) = some r := by rw [if_neg (show ¬ (false = true) by decide)] at H; exact H
   clear H
   have H := H1
   clear H1
   obtain rfl := Option.some.inj H
   go_enter Try.func140, Try.ntmps140
   go_wp2_with (first | ((with_reducible refine gate_dst (N := 1) rfl ?_); (try (refine gate_guard (by rfl) ?_; dsimp only)); refine box_event ?hg (N := 1) ?hd (cs := #[.int .i64 a0_0, .int .i64 a0_1, .slice A0_2 l0_2.length c0_2]) (t := 42) ?hr ?_; (case hd => rfl); (case hg => rfl); (case hr => first | (go_simp; done) | (go_simp; rfl)); intro gb101 hg w13 hbox hb; have BK101 := aK (hbox); have GW101 := aK (gE hg (pS HB.out)); have GE101 := aK (gE hg (pS HB.out)); replace HB := bS HB hb; clear hb hbox hg; have hcz14_0 : w13.cell? ⟨gb101, 0, none⟩ = some (.int .i64 a0_0) := (blk_cell BK101.out 0).trans rfl; have hcz14_1 : w13.cell? ⟨gb101, 1, none⟩ = some (.int .i64 a0_1) := (blk_cell BK101.out 1).trans rfl; have hcz14_2 : w13.cell? ⟨gb101, 2, none⟩ = some (.slice A0_2 l0_2.length c0_2) := (blk_cell BK101.out 2).trans rfl; have hfz14_0 := blk_frozen BK101.out 0; have hfz14_1 := blk_frozen BK101.out 1; have hfz14_2 := blk_frozen BK101.out 2) | ((with_reducible refine gate_callee (f := 115) rfl ?_); refine goesL_ (some 5) rfl rfl Try.func115 (by kernel_rfl) rfl #[.int .i64 a0_0, .int .i64 1, .int .i64 8] rfl (by (try simp only [List.map_toArray, List.map_cons, List.map_nil]); first | done | rfl | (simp only [List.length_drop, List.length_take]; rfl)) ?_; (with_reducible refine (impl_within.calls a0_0 1 8 true _ A2.out).mono ?_); rintro e w' ⟨rfl, ⟨nd, rfl⟩⟩; refine ⟨_, rfl, ?_⟩) | (go_at_call 115; (with_reducible refine (impl_within.calls a0_1 1 8 false _ A4.out).mono ?_); rintro e w' ⟨rfl, ⟨nd, rfl⟩⟩))
   go_ret
   exact ⟨by first | rfl | (simp [errW_none, errW_some] <;> rfl) | (simp [*, errW_none, errW_some] <;> rfl), by repeat (first | (with_reducible first | exact HB.out | apply below_alloc | apply pw_below_drewN | apply below_drew1 | refine below_set ?_ GE101.out) | exact HB.out)⟩
 ·
  replace c3 := Bool.eq_false_iff.mpr c3
  subst c3
  have H1 : (some false) = some r := by rw [if_neg (show ¬ (false = true) by decide)] at H; exact H
  clear H
  have H := H1
  clear H1
  obtain rfl := Option.some.inj H
  go_enter Try.func140, Try.ntmps140
  go_wp2_with (first | ((with_reducible refine gate_dst (N := 1) rfl ?_); (try (refine gate_guard (by rfl) ?_; dsimp only)); refine box_event ?hg (N := 1) ?hd (cs := #[.int .i64 a0_0, .int .i64 a0_1, .slice A0_2 l0_2.length c0_2]) (t := 42) ?hr ?_; (case hd => rfl); (case hg => rfl); (case hr => first | (go_simp; done) | (go_simp; rfl)); intro gb101 hg w15 hbox hb; have BK101 := aK (hbox); have GW101 := aK (gE hg (pS HB.out)); have GE101 := aK (gE hg (pS HB.out)); replace HB := bS HB hb; clear hb hbox hg; have hcz16_0 : w15.cell? ⟨gb101, 0, none⟩ = some (.int .i64 a0_0) := (blk_cell BK101.out 0).trans rfl; have hcz16_1 : w15.cell? ⟨gb101, 1, none⟩ = some (.int .i64 a0_1) := (blk_cell BK101.out 1).trans rfl; have hcz16_2 : w15.cell? ⟨gb101, 2, none⟩ = some (.slice A0_2 l0_2.length c0_2) := (blk_cell BK101.out 2).trans rfl; have hfz16_0 := blk_frozen BK101.out 0; have hfz16_1 := blk_frozen BK101.out 1; have hfz16_2 := blk_frozen BK101.out 2) | ((with_reducible refine gate_callee (f := 115) rfl ?_); refine goesL_ (some 5) rfl rfl Try.func115 (by kernel_rfl) rfl #[.int .i64 a0_0, .int .i64 1, .int .i64 8] rfl (by (try simp only [List.map_toArray, List.map_cons, List.map_nil]); first | done | rfl | (simp only [List.length_drop, List.length_take]; rfl)) ?_; (with_reducible refine (impl_within.calls a0_0 1 8 false _ A2.out).mono ?_); rintro e w' ⟨rfl, ⟨nd, rfl⟩⟩; refine ⟨_, rfl, ?_⟩))
  go_ret
  exact ⟨by first | rfl | (simp [errW_none, errW_some] <;> rfl) | (simp [*, errW_none, errW_some] <;> rfl), by repeat (first | (with_reducible first | exact HB.out | apply below_alloc | apply pw_below_drewN | apply below_drew1 | refine below_set ?_ GE101.out) | exact HB.out)⟩

end Go.Proofs.Ytbjbanemmoalhaa.P
/- A field is valid in the program just when it is valid in the reference. No conditions. -/
namespace Go.Proofs.Ytbjbanemmoalhaa.Pure
set_option linter.unusedVariables false
set_option linter.unusedSimpArgs false
open Go.RowKit Go.Proofs.Ytbjbanemmoalhaa.P Go.Proofs.YtbjbanemmoalhaaW.PrintWords Go.Proofs.YtbjbanemmoalhaaW.PrintLast
theorem mul_bd {a b : Int} (a1 : 1 ≤ a) (a8 : a ≤ 8) (b1 : 1 ≤ b) (b8 : b ≤ 8) : 1 ≤ a * b ∧ a * b ≤ 64 := by
  obtain h | h | h | h | h | h | h | h : a = 1 ∨ a = 2 ∨ a = 3 ∨ a = 4 ∨ a = 5 ∨ a = 6 ∨ a = 7 ∨ a = 8 := by omega
  all_goals subst h; omega
theorem l2Shape_is (a b : Int) : spec_l2Shape.f a b = some (inb a 1 8 && inb b 1 8) := by
  unfold spec_l2Shape.f
  rw [l1In_is, l1In_is]
  cases inb a 1 8 <;> simp
theorem shape_iff {a b : Int} : (inb a 1 8 && inb b 1 8) = true ↔ (1 ≤ a ∧ a ≤ 8) ∧ 1 ≤ b ∧ b ≤ 8 := by rw [Bool.and_eq_true, inb_iff, inb_iff]
end Go.Proofs.Ytbjbanemmoalhaa.Pure
/- Regions: a list that rises, of cells of a grid: one answer in the program and in the reference; a field in which every cell is one value. No conditions but that the list is no longer than a machine allows. -/
namespace Go.Proofs.Ytbjbanemmoalhaa.Pure
set_option linter.unusedVariables false
set_option linter.unusedSimpArgs false
open Go.RowKit Go.Proofs.Ytbjbanemmoalhaa.P Go.Proofs.YtbjbanemmoalhaaW.PrintWords Go.Proofs.YtbjbanemmoalhaaW.PrintLast
def rising (l : List Int) : Bool := rall (fun i => decide (l.getD i 0 < l.getD (i + 1) 0)) 0 (l.length - 1)
def regionOk (a b : Int) (l : List Int) : Bool := (inb a 1 8 && inb b 1 8) && (rising l && rall (fun i => inb (l.getD i 0) 0 (a * b - 1)) 0 l.length)
theorem increasing_ev (l : List Int) (hl : l.length ≤ 9223372036854775806) : Ev (fun k => impl_increasing.f k l) (rising l) := by
  have h := allb_ev (fun k i => impl_increasing.l0 k l ((i : Int) + 1)) (l.length - 1) (fun i => decide (l.getD i 0 < l.getD (i + 1) 0))
    (fun i r hi hp h => ev_step (fun k => by
      simp only [impl_increasing.l0]
      rw [if_pos (by omega), show wrap64 ((i : Int) + 1 - 1) = (i : Int) by rw [w64 (by omega) (by omega)]; omega, if_pos (by omega), if_pos (by omega), if_pos (by omega), show ((i : Int) + 1) = ((i + 1 : Nat) : Int) by omega, rd_nat, rd_nat,
        if_neg (by have := of_decide_eq_true hp; omega), w64 (by omega) (by omega)]) h)
    (fun i hi hp => ev_step (f := fun _ => some false) (fun k => by
      simp only [impl_increasing.l0]
      rw [if_pos (by omega), show wrap64 ((i : Int) + 1 - 1) = (i : Int) by rw [w64 (by omega) (by omega)]; omega, if_pos (by omega), if_pos (by omega), if_pos (by omega), show ((i : Int) + 1) = ((i + 1 : Nat) : Int) by omega, rd_nat, rd_nat,
        if_pos (by have := of_decide_eq_false hp; omega)]) (ev_some _))
    (ev_step (f := fun _ => some true) (fun k => by
      simp only [impl_increasing.l0]
      rw [if_neg (by omega)]) (ev_some _))
  exact h
theorem isShape_is (a b : Int) : impl_isShape.f a b = some (inb a 1 8 && inb b 1 8) := by
  unfold impl_isShape.f
  rw [within_is, Option.bind_some, within_is]
  cases inb a 1 8 <;> simp
theorem isRegion_ev (a b : Int) (l : List Int) (hl : l.length ≤ 9223372036854775806) : Ev (fun k => impl_isRegion.f k a b l) (regionOk a b l) := by
  unfold impl_isRegion.f regionOk
  refine ev_bind (ev_const (isShape_is a b)) ?_
  cases e : (inb a 1 8 && inb b 1 8) with
  | false => exact ev_ifn (by simp) (ev_some _)
  | true =>
    obtain ⟨⟨a1, a8⟩, b1, b8⟩ := shape_iff.1 e
    have hm := mul_bd a1 a8 b1 b8
    rw [Bool.true_and]
    refine ev_ifp rfl (ev_bind (increasing_ev l hl) ?_)
    cases rising l with
    | false => exact ev_ifn (by simp) (ev_some _)
    | true =>
      rw [Bool.true_and, show wrap64 (wrap64 (a * b) - 1) = a * b - 1 by rw [w64 (x := a * b) (by omega) (by omega), w64 (by omega) (by omega)]]
      exact ev_ifp rfl (ev_bind (allWithin_ev l 0 (a * b - 1) hl) (ev_some _))
theorem l1Rising_ev (l : List Int) (x y : Int) (hl : l.length ≤ 9223372036854775806) : Ev (fun k => spec_l1Rising.f k l x y) (rising l && rall (fun i => inb (l.getD i 0) x y) 0 l.length) := by
  have h := allb_ev (fun k i => spec_l1Rising.l0 k l x y (i : Int)) l.length (fun i => inb (l.getD i 0) x y && (decide (i = 0) || decide (l.getD (i - 1) 0 < l.getD i 0)))
    (fun i r hi hp h => ev_step (fun k => by
      rw [Bool.and_eq_true, Bool.or_eq_true] at hp
      simp only [spec_l1Rising.l0, l1In_is, Option.bind_some, rd_nat]
      rw [if_pos (by omega), if_pos (by omega), if_pos hp.1, w64 (x := (i : Int) + 1) (by omega) (by omega)]
      by_cases e : i = 0
      · rw [if_neg (by omega)]; rfl
      · have h2 := of_decide_eq_true (hp.2.resolve_left (by simpa using e))
        rw [if_pos (by omega), show wrap64 ((i : Int) - 1) = ((i - 1 : Nat) : Int) by rw [w64 (by omega) (by omega)]; omega, if_pos (by omega), if_pos (by omega), rd_nat, if_neg (by omega)]
        rfl) h)
    (fun i hi hp => ev_step (f := fun _ => some false) (fun k => by
      simp only [spec_l1Rising.l0, l1In_is, Option.bind_some, rd_nat]
      rw [if_pos (by omega), if_pos (by omega)]
      cases e : inb (l.getD i 0) x y with
      | false => simp
      | true =>
        rw [e, Bool.true_and, Bool.or_eq_false_iff] at hp
        have h1 := of_decide_eq_false hp.1
        have h2 := of_decide_eq_false hp.2
        rw [if_pos rfl, if_pos (by omega), show wrap64 ((i : Int) - 1) = ((i - 1 : Nat) : Int) by rw [w64 (by omega) (by omega)]; omega, if_pos (by omega), if_pos (by omega), rd_nat, if_pos (by omega)]) (ev_some _))
    (ev_step (f := fun _ => some true) (fun k => by
      simp only [spec_l1Rising.l0]
      rw [if_neg (by omega)]) (ev_some _))
  have e : rall (fun i => inb (l.getD i 0) x y && (decide (i = 0) || decide (l.getD (i - 1) 0 < l.getD i 0))) 0 l.length = (rising l && rall (fun i => inb (l.getD i 0) x y) 0 l.length) := by
    rw [Bool.eq_iff_iff, Bool.and_eq_true]
    unfold rising
    rw [rall_iff, rall_iff, rall_iff]
    constructor
    · intro hh
      refine ⟨fun j _ hj => ?_, fun j _ hj => ?_⟩
      · have := hh (j + 1) (Nat.zero_le _) (by omega)
        rw [Bool.and_eq_true, Bool.or_eq_true] at this
        have h2 := this.2.resolve_left (by simp)
        simpa using h2
      · have := hh j (Nat.zero_le _) (by omega)
        rw [Bool.and_eq_true] at this
        exact this.1
    · rintro ⟨h1, h2⟩ j _ hj
      rw [Bool.and_eq_true, Bool.or_eq_true]
      refine ⟨h2 j (Nat.zero_le _) hj, ?_⟩
      by_cases e : j = 0
      · exact .inl (by simpa using e)
      · have := h1 (j - 1) (Nat.zero_le _) (by omega)
        rw [show j - 1 + 1 = j by omega] at this
        exact .inr this
  rw [e] at h
  exact h
theorem l8Region_ev (a b : Int) (l : List Int) (hl : l.length ≤ 9223372036854775806) : Ev (fun k => spec_l8Region.f k a b l) (regionOk a b l) := by
  unfold spec_l8Region.f regionOk
  refine ev_bind (ev_const (l2Shape_is a b)) ?_
  cases e : (inb a 1 8 && inb b 1 8) with
  | false => exact ev_ifn (by simp) (ev_some _)
  | true =>
    obtain ⟨⟨a1, a8⟩, b1, b8⟩ := shape_iff.1 e
    have hm := mul_bd a1 a8 b1 b8
    rw [Bool.true_and, show wrap64 (wrap64 (a * b) - 1) = a * b - 1 by rw [w64 (x := a * b) (by omega) (by omega), w64 (by omega) (by omega)]]
    exact ev_ifp rfl (ev_bind (l1Rising_ev l 0 (a * b - 1) hl) (ev_some _))
end Go.Proofs.Ytbjbanemmoalhaa.Pure
/- Is a number in a list? The reference's answer. No conditions but that the list is no longer than a machine allows. -/
namespace Go.Proofs.Ytbjbanemmoalhaa.Pure
set_option linter.unusedVariables false
set_option linter.unusedSimpArgs false
open Go.RowKit Go.Proofs.Ytbjbanemmoalhaa.P Go.Proofs.YtbjbanemmoalhaaW.PrintWords Go.Proofs.YtbjbanemmoalhaaW.PrintLast
theorem mem_rall (l : List Int) (x : Int) : decide (x ∈ l) = !rall (fun i => decide (l.getD i 0 ≠ x)) 0 l.length := by
  rw [rall_list l 0 (fun y => decide (y ≠ x))]
  rw [Bool.eq_iff_iff, decide_eq_true_eq, Bool.not_eq_true', ← Bool.not_eq_true, List.all_eq_true]
  constructor
  · intro h hh
    have := hh x h
    simp at this
  · intro h
    rw [Classical.not_forall] at h
    obtain ⟨y, hy⟩ := h
    rw [Classical.not_imp] at hy
    obtain ⟨h1, h2⟩ := hy
    simp at h2
    rw [← h2]
    exact h1
theorem l1Has_ev (l : List Int) (x : Int) (hl : l.length ≤ 9223372036854775806) : Ev (fun k => spec_l1Has.f k l x) (decide (x ∈ l)) := by
  rw [mem_rall]
  have h := all_ev (fun k i => spec_l1Has.l0 k l x (i : Int)) l.length (fun i => decide (l.getD i 0 ≠ x)) true false
    (fun i r hi hp h => ev_step (fun k => by
      simp only [spec_l1Has.l0, rd_nat]
      rw [if_pos (by omega), if_pos (by omega), if_neg (by simpa using hp), w64 (by omega) (by omega)]
      rfl) h)
    (fun i hi hp => ev_step (f := fun _ => some true) (fun k => by
      simp only [spec_l1Has.l0, rd_nat]
      rw [if_pos (by omega), if_pos (by omega), if_pos (by simpa using hp)]) (ev_some _))
    (ev_step (f := fun _ => some false) (fun k => by
      simp only [spec_l1Has.l0]
      rw [if_neg (by omega)]) (ev_some _)) 0 (Nat.zero_le _)
  rw [Nat.sub_zero] at h
  cases e : rall (fun i => decide (l.getD i 0 ≠ x)) 0 l.length with
  | true => rw [e] at h; exact h
  | false => rw [e] at h; exact h
end Go.Proofs.Ytbjbanemmoalhaa.Pure
/- Lists told index by index, and loops with a number of rounds that is told. No conditions. -/
namespace Go.Proofs.Ytbjbanemmoalhaa.Pure
set_option linter.unusedVariables false
set_option linter.unusedSimpArgs false
open Go.RowKit Go.Proofs.YtbjbanemmoalhaaW.PrintWords Go.Proofs.YtbjbanemmoalhaaW.PrintLast Go.Proofs.YtbjbanemmoalhaaW.PrintMore
end Go.Proofs.Ytbjbanemmoalhaa.Pure
/- One of each run of a row in ascending order: the values, each once, in ascending order. No conditions. -/
namespace Go.Proofs.Ytbjbanemmoalhaa.Pure
set_option linter.unusedVariables false
set_option linter.unusedSimpArgs false
open Go.RowKit Go.Proofs.Ytbjbanemmoalhaa.P Go.Proofs.YtbjbanemmoalhaaW.PrintWords Go.Proofs.YtbjbanemmoalhaaW.PrintLast Go.Proofs.YtbjbanemmoalhaaW.PrintMore
/-- Two rows that rise and have the same values are one. -/
theorem inc_ext : ∀ {s t : List Int}, s.Pairwise (· < ·) → t.Pairwise (· < ·) → (∀ x, x ∈ s ↔ x ∈ t) → s = t
  | [], [], _, _, _ => rfl
  | [], b :: t, _, _, h => absurd ((h b).2 (List.mem_cons_self ..)) (by simp)
  | a :: s, [], _, _, h => absurd ((h a).1 (List.mem_cons_self ..)) (by simp)
  | a :: s, b :: t, h1, h2, h => by
    rw [List.pairwise_cons] at h1 h2
    have ha := (h a).1 (List.mem_cons_self ..)
    have hb := (h b).2 (List.mem_cons_self ..)
    have hab : a = b := by
      rcases List.mem_cons.1 ha with e | e
      · exact e
      · rcases List.mem_cons.1 hb with e2 | e2
        · exact e2.symm
        · have := h1.1 b e2; have := h2.1 a e; omega
    subst hab
    rw [inc_ext h1.2 h2.2 (fun x => ?_)]
    constructor
    · intro hx
      rcases List.mem_cons.1 ((h x).1 (List.mem_cons_of_mem _ hx)) with e | e
      · have := h1.1 x hx; omega
      · exact e
    · intro hx
      rcases List.mem_cons.1 ((h x).2 (List.mem_cons_of_mem _ hx)) with e | e
      · have := h2.1 x hx; omega
      · exact e
theorem bang_is (l : List Int) (j : Nat) : l.toArray[j]! = l.getD j 0 := by simp [List.getD]
theorem cpt_mem {l : List Int} {x : Int} : x ∈ cpt l ↔ ∃ j, j < l.length ∧ (j = 0 ∨ l.getD j 0 ≠ l.getD (j - 1) 0) ∧ l.getD j 0 = x := by
  unfold cpt Go.Lib.compact Go.Lib.compactUpTo Go.Lib.keeps
  simp only [List.mem_map, List.mem_filter, List.mem_range, decide_eq_true_eq, bang_is]
  constructor
  · rintro ⟨j, ⟨h1, h2⟩, h3⟩; exact ⟨j, h1, h2, h3⟩
  · rintro ⟨j, h1, h2, h3⟩; exact ⟨j, ⟨h1, h2⟩, h3⟩
theorem cpt_has {l : List Int} (x : Int) : x ∈ cpt l ↔ x ∈ l := by
  rw [cpt_mem]
  constructor
  · rintro ⟨j, h1, _, rfl⟩
    rw [getD_eq_get 0 h1]
    exact List.getElem_mem h1
  · intro hx
    obtain ⟨i, hi, rfl⟩ := List.getElem_of_mem hx
    have key : ∀ n, ∀ j, j ≤ n → j < l.length → ∃ k, k < l.length ∧ (k = 0 ∨ l.getD k 0 ≠ l.getD (k - 1) 0) ∧ l.getD k 0 = l.getD j 0 := by
      intro n
      induction n with
      | zero => intro j h1 h2; exact ⟨j, h2, .inl (by omega), rfl⟩
      | succ n ih =>
        intro j h1 h2
        by_cases e : j = 0
        · exact ⟨j, h2, .inl e, rfl⟩
        · by_cases e2 : l.getD j 0 = l.getD (j - 1) 0
          · obtain ⟨k, k1, k2, k3⟩ := ih (j - 1) (by omega) (by omega)
            exact ⟨k, k1, k2, k3.trans e2.symm⟩
          · exact ⟨j, h2, .inr e2, rfl⟩
    obtain ⟨k, k1, k2, k3⟩ := key i i (Nat.le_refl _) hi
    exact ⟨k, k1, k2, by rw [k3, getD_eq_get 0 hi]⟩
theorem cpt_len (l : List Int) : (cpt l).length ≤ l.length := by
  unfold cpt Go.Lib.compact Go.Lib.compactUpTo
  rw [List.length_map]
  exact Nat.le_trans (List.length_filter_le _ _) (by simp)
theorem cpt_inc {l : List Int} (h : l.Pairwise (· ≤ ·)) : (cpt l).Pairwise (· < ·) := by
  have hidx : ∀ i j, i ≤ j → j < l.length → l.getD i 0 ≤ l.getD j 0 := fun i j h1 h2 => by
    rw [getD_eq_get 0 (show i < l.length by omega), getD_eq_get 0 h2]
    by_cases e : i = j
    · subst e; exact Int.le_refl _
    · exact List.pairwise_iff_getElem.1 h i j (by omega) h2 (by omega)
  unfold cpt Go.Lib.compact Go.Lib.compactUpTo Go.Lib.keeps
  rw [List.pairwise_map, List.pairwise_filter]
  refine List.Pairwise.imp_of_mem (fun {a b} ha hb hab h1 h2 => ?_) (List.pairwise_lt_range (n := l.length))
  simp only [decide_eq_true_eq, bang_is] at h1 h2 ⊢
  have hb := List.mem_range.1 hb
  rcases h2 with e | e
  · omega
  · have := hidx a (b - 1) (by omega) (by omega)
    have := hidx (b - 1) b (by omega) hb
    omega
theorem srt_sorted (l : List Int) : (srt l).Pairwise (· ≤ ·) := by
  have := List.pairwise_mergeSort (le := fun x y : Int => decide (x ≤ y)) (fun a b c h1 h2 => by simp only [decide_eq_true_eq] at *; omega) (fun a b => by simp; omega) l
  exact this.imp (fun h => by simpa using h)
theorem srt_has {l : List Int} (x : Int) : x ∈ srt l ↔ x ∈ l := (List.mergeSort_perm l _).mem_iff
end Go.Proofs.Ytbjbanemmoalhaa.Pure
/- A region that grows by what lies beside it: one list in the program and in the reference. No conditions but that the list is no longer than a machine allows. -/
namespace Go.Proofs.Ytbjbanemmoalhaa.Pure
set_option linter.unusedVariables false
set_option linter.unusedSimpArgs false
set_option linter.unusedSectionVars false
open Go.RowKit Go.Proofs.Ytbjbanemmoalhaa.P Go.Proofs.YtbjbanemmoalhaaW.PrintWords Go.Proofs.YtbjbanemmoalhaaW.PrintLast Go.Proofs.YtbjbanemmoalhaaW.PrintMore
theorem absOf_at {d : Int} (h0 : -100000 ≤ d) (h1 : d ≤ 100000) : impl_absOf.f d = some (max d (-d)) := by
  unfold impl_absOf.f
  by_cases h : d < 0
  · rw [if_pos h, w64 (by omega) (by omega), Int.max_eq_right (by omega)]
  · rw [if_neg h, Int.max_eq_left (by omega)]
theorem one_iff : ∀ i : Nat, i < 15 → ∀ j : Nat, j < 15 → (decide (max ((i : Int) - 7) (-((i : Int) - 7)) + max ((j : Int) - 7) (-((j : Int) - 7)) = 1)) = decide (((i : Int) - 7) * ((i : Int) - 7) + ((j : Int) - 7) * ((j : Int) - 7) = 1) := by decide
theorem one_is {x y : Int} (hx : -7 ≤ x ∧ x ≤ 7) (hy : -7 ≤ y ∧ y ≤ 7) : decide (max x (-x) + max y (-y) = 1) = decide (x * x + y * y = 1) := by
  obtain ⟨i, hi⟩ := Int.eq_ofNat_of_zero_le (show 0 ≤ x + 7 by omega)
  obtain ⟨j, hj⟩ := Int.eq_ofNat_of_zero_le (show 0 ≤ y + 7 by omega)
  have := one_iff i (by omega) j (by omega)
  rw [show (i : Int) - 7 = x by omega, show (j : Int) - 7 = y by omega] at this
  exact this
/-- Do two cells have a side in common? -/
def adj (W a b : Nat) : Bool := decide ((((a % W : Nat) : Int) - ((b % W : Nat) : Int)) * (((a % W : Nat) : Int) - ((b % W : Nat) : Int)) + (((a / W : Nat) : Int) - ((b / W : Nat) : Int)) * (((a / W : Nat) : Int) - ((b / W : Nat) : Int)) = 1)
theorem cell_parts {W H a : Nat} (hW : 1 ≤ W ∧ W ≤ 8) (hH : 1 ≤ H ∧ H ≤ 8) (ha : a < H * W) : a % W < 8 ∧ a / W < 8 := by
  have h1 := Nat.mod_lt a (show 0 < W by omega)
  have h2 : a / W < H := by rw [Nat.div_lt_iff_lt_mul (by omega)]; exact ha
  omega
theorem tmodN (a W : Nat) : Int.tmod (a : Int) (W : Int) = ((a % W : Nat) : Int) := by rw [Int.tmod_eq_emod_of_nonneg (by omega)]; rfl
theorem tdivN (a W : Nat) : Int.tdiv (a : Int) (W : Int) = ((a / W : Nat) : Int) := by rw [Int.tdiv_eq_ediv_of_nonneg (by omega)]; rfl
section
variable {W H : Nat} (hW : 1 ≤ W ∧ W ≤ 8) (hH : 1 ≤ H ∧ H ≤ 8)
include hW hH
theorem connected_is {a b : Nat} (ha : a < H * W) (hb : b < H * W) : impl_areConnected.f (W : Int) (a : Int) (b : Int) = some (adj W a b) := by
  obtain ⟨a1, a2⟩ := cell_parts hW hH ha
  obtain ⟨b1, b2⟩ := cell_parts hW hH hb
  unfold impl_areConnected.f adj
  rw [if_neg (by omega), tmodN, tmodN, tdivN, tdivN, w64n (n := a / W) (by omega), w64n (n := b / W) (by omega)]
  generalize a % W = x at *
  generalize b % W = x' at *
  generalize a / W = y at *
  generalize b / W = y' at *
  rw [w64 (x := (x : Int) - (x' : Int)) (by omega) (by omega), w64 (x := (y : Int) - (y' : Int)) (by omega) (by omega), absOf_at (by omega) (by omega), Option.bind_some, absOf_at (by omega) (by omega), Option.bind_some, w64 (by omega) (by omega), ← one_is (x := (x : Int) - (x' : Int)) (y := (y : Int) - (y' : Int)) (by omega) (by omega)]
  rfl
theorem beside_is {a b : Nat} (ha : a < H * W) (hb : b < H * W) : spec_l8Beside.f (W : Int) (b : Int) (a : Int) = some (adj W a b) := by
  obtain ⟨a1, a2⟩ := cell_parts hW hH ha
  obtain ⟨b1, b2⟩ := cell_parts hW hH hb
  unfold spec_l8Beside.f adj
  rw [if_neg (by omega), tmodN, tmodN, tdivN, tdivN, w64n (n := a / W) (by omega), w64n (n := b / W) (by omega)]
  generalize a % W = x at *
  generalize b % W = x' at *
  generalize a / W = y at *
  generalize b / W = y' at *
  have ex : ((x' : Int) - (x : Int)) * ((x' : Int) - (x : Int)) = ((x : Int) - (x' : Int)) * ((x : Int) - (x' : Int)) := by rw [← Int.neg_mul_neg]; congr 1 <;> omega
  have ey : ((y' : Int) - (y : Int)) * ((y' : Int) - (y : Int)) = ((y : Int) - (y' : Int)) * ((y : Int) - (y' : Int)) := by rw [← Int.neg_mul_neg]; congr 1 <;> omega
  have sq : ∀ z : Int, -7 ≤ z → z ≤ 7 → 0 ≤ z * z ∧ z * z ≤ 49 := fun z h0 h1 => by
    obtain ⟨i, hi⟩ := Int.eq_ofNat_of_zero_le (show 0 ≤ z + 7 by omega)
    have key : ∀ i : Nat, i < 15 → 0 ≤ ((i : Int) - 7) * ((i : Int) - 7) ∧ ((i : Int) - 7) * ((i : Int) - 7) ≤ 49 := by decide
    have := key i (by omega)
    rw [show (i : Int) - 7 = z by omega] at this
    exact this
  have s1 := sq ((x : Int) - (x' : Int)) (by omega) (by omega)
  have s2 := sq ((y : Int) - (y' : Int)) (by omega) (by omega)
  rw [w64 (x := (x' : Int) - (x : Int)) (by omega) (by omega), w64 (x := (y' : Int) - (y : Int)) (by omega) (by omega), ex, ey, w64 (x := ((x : Int) - (x' : Int)) * ((x : Int) - (x' : Int))) (by omega) (by omega), w64 (x := ((y : Int) - (y' : Int)) * ((y : Int) - (y' : Int))) (by omega) (by omega), w64 (by omega) (by omega)]
  rfl
end
/-- The cells of a region, as natural numbers. -/
def natL (l : List Int) : List Nat := l.map Int.toNat
structure RegIs (W H : Nat) (l : List Int) : Prop where
  W8 : 1 ≤ W ∧ W ≤ 8
  H8 : 1 ≤ H ∧ H ≤ 8
  cell : ∀ i, i < l.length → 0 ≤ l.getD i 0 ∧ l.getD i 0 < ((H * W : Nat) : Int)
theorem reg_is {a b : Int} {l : List Int} (h : regionOk a b l = true) : ∃ W H : Nat, a = W ∧ b = H ∧ RegIs W H l := by
  unfold regionOk at h
  rw [Bool.and_eq_true, Bool.and_eq_true, Bool.and_eq_true, inb_iff, inb_iff, rall_iff] at h
  obtain ⟨⟨h1, h2⟩, _, h3⟩ := h
  obtain ⟨W, rfl⟩ := Int.eq_ofNat_of_zero_le (show 0 ≤ a by omega)
  obtain ⟨H, rfl⟩ := Int.eq_ofNat_of_zero_le (show 0 ≤ b by omega)
  refine ⟨W, H, rfl, rfl, by omega, by omega, fun i hi => ?_⟩
  have := inb_iff.1 (h3 i (Nat.zero_le _) (by omega))
  rw [← Int.natCast_mul, Nat.mul_comm] at this
  omega
/-- Does cell c lie beside one of the region's? -/
def nextTo (W : Nat) (l : List Int) (c : Nat) : Bool := (natL l).any (fun o => adj W o c)
def inOrNext (W : Nat) (l : List Int) (c : Nat) : Bool := decide ((c : Int) ∈ l) || nextTo W l c
section
variable {W H : Nat} {l : List Int} (R : RegIs W H l) (hl : l.length ≤ 9223372036854775806)
include R hl
theorem natL_get {i : Nat} (hi : i < l.length) : (natL l).getD i 0 < H * W ∧ (((natL l).getD i 0 : Nat) : Int) = l.getD i 0 := by
  have h := R.cell i hi
  have e : (natL l).getD i 0 = (l.getD i 0).toNat := by
    unfold natL
    rw [getD_eq_get 0 (show i < (l.map Int.toNat).length by simpa using hi), List.getElem_map, getD_eq_get 0 hi]
  rw [e]
  omega
theorem contains_next {c : Nat} (hc : c < H * W) : Ev (fun k => slices_ContainsFunc_int_at_mp_mpGi64_bool.f k (fun z0_ => impl_GrowRegion_1.f z0_ (W : Int) (c : Int)) l) (nextTo W l c) := by
  have hn : (natL l).length = l.length := by unfold natL; rw [List.length_map]
  have h := find_ev (fun k i => slices_IndexFunc_int_at_mp_mpGi64_bool.l0 (fun z0_ => impl_GrowRegion_1.f z0_ (W : Int) (c : Int)) k l (l.length : Int) (i : Int)) l.length (fun i => adj W ((natL l).getD i 0) c)
    (fun i r hi hp h => by
      obtain ⟨g1, g2⟩ := natL_get R hl hi
      have e1 := Aside0.mk (show wrap64 ((i : Int) + 1) = ((i + 1 : Nat) : Int) by rw [w64 (by omega) (by omega)]; rfl)
      have ec : impl_GrowRegion_1.f (l.getD i 0) (W : Int) (c : Int) = some false := by
        unfold impl_GrowRegion_1.f
        rw [← g2, connected_is R.W8 R.H8 g1 hc, hp]
        rfl
      refine ev_step (fun k => slices_IndexFunc_int_at_mp_mpGi64_bool.l0.eq_2 _ _ _ _ k) (ev_ifp (by omega) (ev_ifp (by omega) (ev_ifp (by omega) ?_)))
      rw [rd_nat, e1.out]
      exact ev_bind (ev_const ec) (ev_ifn (by simp) h))
    (fun i hi hp => by
      obtain ⟨g1, g2⟩ := natL_get R hl hi
      have ec : impl_GrowRegion_1.f (l.getD i 0) (W : Int) (c : Int) = some true := by
        unfold impl_GrowRegion_1.f
        rw [← g2, connected_is R.W8 R.H8 g1 hc, hp]
        rfl
      refine ev_step (fun k => slices_IndexFunc_int_at_mp_mpGi64_bool.l0.eq_2 _ _ _ _ k) (ev_ifp (by omega) (ev_ifp (by omega) (ev_ifp (by omega) ?_)))
      rw [rd_nat]
      exact ev_bind (ev_const ec) (ev_ifp rfl (ev_some _)))
    (ev_step (fun k => slices_IndexFunc_int_at_mp_mpGi64_bool.l0.eq_2 _ _ _ _ k) (ev_ifn (by omega) (ev_some _)))
  have e2 : decide (fidx (fun i => adj W ((natL l).getD i 0) c) 0 l.length ≥ 0) = nextTo W l c := by
    rw [fidx_nonneg]
    unfold nextTo
    rw [Bool.eq_iff_iff, Bool.not_eq_true', ← Bool.not_eq_true, rall_iff, List.any_eq_true]
    constructor
    · intro hh
      apply Classical.byContradiction
      intro hno
      refine hh (fun j _ hj => ?_)
      rw [Bool.not_eq_true']
      cases e : adj W ((natL l).getD j 0) c with
      | false => rfl
      | true => exact absurd ⟨_, by rw [getD_eq_get 0 (show j < (natL l).length by omega)]; exact List.getElem_mem _, e⟩ hno
    · rintro ⟨o, ho, ha⟩ hh
      obtain ⟨j, hj, rfl⟩ := List.getElem_of_mem ho
      have := hh j (Nat.zero_le _) (by omega)
      rw [getD_eq_get 0 hj, ha] at this
      cases this
  unfold slices_ContainsFunc_int_at_mp_mpGi64_bool.f slices_IndexFunc_int_at_mp_mpGi64_bool.f
  refine ev_bind h ?_
  rw [e2]
  exact ev_some _
theorem next_spec {out : List Int} {c : Nat} (hc : c < H * W) (b : Bool) (r : List Int × Bool)
    (h : Ev (fun k => spec_GrowRegion.l1 k (W : Int) (H : Int) l out (c : Int) (b || nextTo W l c) (l.length : Int)) r) : Ev (fun k => spec_GrowRegion.l1 k (W : Int) (H : Int) l out (c : Int) b 0) r := by
  have hn : (natL l).length = l.length := by unfold natL; rw [List.length_map]
  have key : ∀ d i (b : Bool), l.length - i = d → i ≤ l.length → Ev (fun k => spec_GrowRegion.l1 k (W : Int) (H : Int) l out (c : Int) (b || ((natL l).drop i).any (fun o => adj W o c)) (l.length : Int)) r → Ev (fun k => spec_GrowRegion.l1 k (W : Int) (H : Int) l out (c : Int) b (i : Int)) r := by
    intro d
    induction d with
    | zero =>
      intro i b h0 h1 h
      obtain rfl : i = l.length := by omega
      rw [List.drop_of_length_le (by omega)] at h
      simpa using h
    | succ d ih =>
      intro i b h0 h1 h
      have hi : i < l.length := by omega
      obtain ⟨g1, g2⟩ := natL_get R hl hi
      have e1 := Aside0.mk (show wrap64 ((i : Int) + 1) = ((i + 1 : Nat) : Int) by rw [w64 (by omega) (by omega)]; rfl)
      rw [List.drop_eq_getElem_cons (show i < (natL l).length by omega), List.any_cons, ← getD_eq_get 0 (show i < (natL l).length by omega)] at h
      refine ev_step (fun k => spec_GrowRegion.l1.eq_2 _ _ _ _ _ _ _ k) (ev_ifp (by omega) ?_)
      rw [e1.out]
      cases b with
      | true => exact ev_ifp rfl (ih (i + 1) true (by omega) (by omega) (by simpa using h))
      | false =>
        refine ev_ifn (by simp) (ev_ifp (by omega) ?_)
        rw [rd_nat, ← g2]
        exact ev_bind (ev_const (beside_is R.W8 R.H8 g1 hc)) (ih (i + 1) _ (by omega) (by omega) (by simpa using h))
  refine key l.length 0 b rfl (Nat.zero_le _) ?_
  rw [List.drop_zero]
  exact h
end
def growL (W H : Nat) (l : List Int) : List Int := ((List.range (H * W)).filter (inOrNext W l)).map (fun c : Nat => (c : Int))
theorem grow_inc (W H : Nat) (l : List Int) : (growL W H l).Pairwise (· < ·) := by
  unfold growL
  rw [List.pairwise_map]
  exact (List.pairwise_lt_range.filter _).imp (fun h => by omega)
theorem grow_len (W H : Nat) (l : List Int) (h : H * W ≤ 64) : (growL W H l).length ≤ 64 := by
  unfold growL
  rw [List.length_map]
  have := List.length_filter_le (inOrNext W l) (List.range (H * W))
  rw [List.length_range] at this
  omega
theorem grow_both (a b : Int) (l : List Int) (hl : l.length ≤ 1048576) :
    ∃ r, Ev (fun k => spec_GrowRegion.f k a b l) r ∧ Ev (fun k => impl_GrowRegion.f k a b l) r ∧ r.1.length ≤ 64 := by
  have g1 := l8Region_ev a b l (by omega)
  have g2 := isRegion_ev a b l (by omega)
  unfold spec_GrowRegion.f impl_GrowRegion.f
  cases ok : regionOk a b l with
  | false =>
    rw [ok] at g1 g2
    exact ⟨([], false), ev_bind (ev_some _) (ev_bind g1 (ev_ifn (by simp) (ev_some _))), ev_bind g2 (ev_ifn (by simp) (ev_some _)), by simp⟩
  | true =>
    rw [ok] at g1 g2
    obtain ⟨W, H, rfl, rfl, R⟩ := reg_is ok
    have h64 : H * W ≤ 64 := Nat.mul_le_mul R.H8.2 R.W8.2
    have eN := Aside0.mk (show wrap64 ((W : Int) * (H : Int)) = ((H * W : Nat) : Int) by rw [← Int.natCast_mul, w64n (by rw [Nat.mul_comm]; omega), Nat.mul_comm])
    refine ⟨(growL W H l, true), ev_bind (ev_some _) (ev_bind g1 (ev_ifp rfl ?_)), ev_bind g2 (ev_ifp rfl ?_), grow_len W H l h64⟩
    · have h := loop_ev (fun k s i => spec_GrowRegion.l0 k (W : Int) (H : Int) l s (i : Int)) (H * W) (fun i s => if inOrNext W l i = true then s ++ [(i : Int)] else s) (fun s => (s, true)) (fun i s => s = ((List.range i).filter (inOrNext W l)).map (fun c : Nat => (c : Int)))
        (fun i s r hI hi hh => by
          have hlen : s.length ≤ i := by
            rw [hI, List.length_map]
            have := List.length_filter_le (inOrNext W l) (List.range i)
            rw [List.length_range] at this
            exact this
          have e1 := Aside0.mk (show wrap64 ((i : Int) + 1) = ((i + 1 : Nat) : Int) by rw [w64 (by omega) (by omega)]; rfl)
          refine ev_step (fun k => spec_GrowRegion.l0.eq_2 _ _ _ _ _ k) ?_
          rw [eN.out]
          refine ev_ifp (by omega) (ev_bind (l1Has_ev l (i : Int) (by omega)) (next_spec R (by omega) hi _ _ ?_))
          refine ev_step (fun k => spec_GrowRegion.l1.eq_2 _ _ _ _ _ _ _ k) (ev_ifn (by omega) ?_)
          rw [e1.out]
          have er : (decide ((i : Int) ∈ l) || nextTo W l i) = inOrNext W l i := rfl
          rw [er]
          cases hb : inOrNext W l i with
          | true => simp only [hb, if_true] at hh; exact ev_ifp rfl (ev_ifp (by omega) hh)
          | false => simp only [hb, Bool.false_eq_true, if_false] at hh; exact ev_ifn (by simp) hh)
        (fun i s hI hi => by
          show (if inOrNext W l i = true then s ++ [(i : Int)] else s) = _
          rw [List.range_succ, List.filter_append, List.map_append, ← hI]
          cases hb : inOrNext W l i with
          | true => simp [hb]
          | false => simp [hb])
        (fun s hI => by
          refine ev_step (fun k => spec_GrowRegion.l0.eq_2 _ _ _ _ _ k) ?_
          rw [eN.out]
          exact ev_ifn (by omega) (ev_some _)) 0 [] (Nat.zero_le _) rfl
      have hI := iter_inv (fun i s => if inOrNext W l i = true then s ++ [(i : Int)] else s) (fun i s => s = ((List.range i).filter (inOrNext W l)).map (fun c : Nat => (c : Int))) (H * W) (fun i s hI hi => by
          show (if inOrNext W l i = true then s ++ [(i : Int)] else s) = _
          rw [List.range_succ, List.filter_append, List.map_append, ← hI]
          cases hb : inOrNext W l i with
          | true => simp [hb]
          | false => simp [hb]) (H * W) 0 [] (by omega) rfl
      rw [Nat.sub_zero, hI] at h
      exact h
    · have hcl : slices_Clone_int_int.f l = some l := by unfold slices_Clone_int_int.f; rw [if_pos (by omega)]
      have hm : ∀ n, ∀ x : Int, x ∈ l ++ ((List.range n).filter (nextTo W l)).map (fun c : Nat => (c : Int)) ↔ x ∈ l ∨ ∃ c, c < n ∧ nextTo W l c = true ∧ (c : Int) = x := fun n x => by
        rw [List.mem_append, List.mem_map]
        constructor
        · rintro (h | ⟨c, h1, h2⟩)
          · exact .inl h
          · obtain ⟨h3, h4⟩ := List.mem_filter.1 h1
            exact .inr ⟨c, List.mem_range.1 h3, h4, h2⟩
        · rintro (h | ⟨c, h1, h2, h3⟩)
          · exact .inl h
          · exact .inr ⟨c, List.mem_filter.2 ⟨List.mem_range.2 h1, h2⟩, h3⟩
      have efin : cpt (srt (l ++ ((List.range (H * W)).filter (nextTo W l)).map (fun c : Nat => (c : Int)))) = growL W H l := by
        refine inc_ext (cpt_inc (srt_sorted _)) (grow_inc W H l) (fun x => ?_)
        rw [cpt_has, srt_has, hm]
        unfold growL
        rw [List.mem_map]
        constructor
        · rintro (h | ⟨c, h1, h2, h3⟩)
          · obtain ⟨j, hj, rfl⟩ := List.getElem_of_mem h
            have hb := R.cell j hj
            rw [getD_eq_get 0 hj] at hb
            refine ⟨(l[j]).toNat, List.mem_filter.2 ⟨List.mem_range.2 (by omega), ?_⟩, by omega⟩
            unfold inOrNext
            rw [Bool.or_eq_true, decide_eq_true_eq]
            exact .inl (by rw [Int.toNat_of_nonneg hb.1]; exact List.getElem_mem hj)
          · refine ⟨c, List.mem_filter.2 ⟨List.mem_range.2 h1, ?_⟩, h3⟩
            unfold inOrNext
            rw [h2, Bool.or_true]
        · rintro ⟨c, h1, rfl⟩
          obtain ⟨h2, h3⟩ := List.mem_filter.1 h1
          unfold inOrNext at h3
          rw [Bool.or_eq_true, decide_eq_true_eq] at h3
          rcases h3 with h3 | h3
          · exact .inl h3
          · exact .inr ⟨c, List.mem_range.1 h2, h3, rfl⟩
      refine ev_bind (ev_const hcl) ?_
      rw [eN.out]
      have h := loop_ev (fun k s i => impl_GrowRegion.l0 k l s ((H * W : Nat) : Int) (i : Int) (W : Int)) (H * W) (fun i s => if nextTo W l i = true then s ++ [(i : Int)] else s) (fun _ => (growL W H l, true)) (fun i s => s = l ++ ((List.range i).filter (nextTo W l)).map (fun c : Nat => (c : Int)))
        (fun i s r hI hi hh => by
          have hlen : s.length ≤ 1048576 + i := by
            rw [hI, List.length_append, List.length_map]
            have := List.length_filter_le (nextTo W l) (List.range i)
            rw [List.length_range] at this
            omega
          have e1 := Aside0.mk (show wrap64 ((i : Int) + 1) = ((i + 1 : Nat) : Int) by rw [w64 (by omega) (by omega)]; rfl)
          refine ev_step (fun k => impl_GrowRegion.l0.eq_2 _ _ _ _ _ k) (ev_ifp (by omega) (ev_bind (contains_next R (by omega) hi) ?_))
          rw [e1.out]
          cases hb : nextTo W l i with
          | true => simp only [hb, if_true] at hh; exact ev_ifp rfl (ev_ifp (by omega) hh)
          | false => simp only [hb, Bool.false_eq_true, if_false] at hh; exact ev_ifn (by simp) hh)
        (fun i s hI hi => by
          show (if nextTo W l i = true then s ++ [(i : Int)] else s) = _
          rw [List.range_succ, List.filter_append, List.map_append, ← List.append_assoc, ← hI]
          cases hb : nextTo W l i with
          | true => simp [hb]
          | false => simp [hb])
        (fun s hI => by
          have hlen : s.length ≤ 1048640 := by
            rw [hI, List.length_append, List.length_map]
            have := List.length_filter_le (nextTo W l) (List.range (H * W))
            rw [List.length_range] at this
            omega
          have es : slices_Sort_int_int.f s = some (srt s) := by unfold slices_Sort_int_int.f; rw [if_pos (by omega)]
          have ec : slices_Compact_int_int.f (srt s) = some (growL W H l) := by
            unfold slices_Compact_int_int.f
            rw [if_pos ⟨by rw [srt_len]; omega, cpt_len _⟩, hI, efin]
          exact ev_step (fun k => impl_GrowRegion.l0.eq_2 _ _ _ _ _ k) (ev_ifn (by omega) (ev_bind (ev_const es) (ev_bind (ev_const ec) (ev_some _))))) 0 l (Nat.zero_le _) (by simp)
      exact h
end Go.Proofs.Ytbjbanemmoalhaa.Pure
/- What the laws' marks come to: a row that is written with numbers rising from a is held by the same count. No conditions. -/
namespace Go.Proofs.Ytbjbanemmoalhaa.Pure
set_option linter.unusedVariables false
set_option linter.unusedSimpArgs false
open Go.RowKit Go.Proofs.Ytbjbanemmoalhaa.P Go.Proofs.YtbjbanemmoalhaaW.PrintWords Go.Proofs.YtbjbanemmoalhaaW.PrintLast
/-- n numbers rising from a. -/
def cnt (a : Int) (n : Nat) : List Int := (List.range n).map (fun i : Nat => a + (i : Int))
theorem cnt_length (a : Int) (n : Nat) : (cnt a n).length = n := by simp [cnt]
theorem cnt_getD (a : Int) (n i : Nat) (h : i < n) : (cnt a n).getD i 0 = a + i := by simp [cnt, List.getD, h]
theorem markIntS_ev (l : List Int) (a : Int) (h0 : 0 ≤ a) (h1 : a + l.length ≤ 9223372036854775806) : Ev (fun k => laws_markIntS.f k l a) (a + l.length, cnt a l.length) := by
  have h := loop_ev (fun k s i => laws_markIntS.l0 k s (a + (i : Int)) (i : Int)) l.length (fun i s => s.set i (a + i)) (fun s => (a + (l.length : Int), s))
    (fun i s => s.length = l.length ∧ ∀ j, j < i → s.getD j 0 = a + j)
    (fun i s r hI hi h => ev_step (fun k => by
      show laws_markIntS.l0 (k + 1) s (a + (i : Int)) (i : Int) = laws_markIntS.l0 k (s.set i (a + i)) (a + ((i + 1 : Nat) : Int)) ((i + 1 : Nat) : Int)
      have := hI.1
      simp only [laws_markIntS.l0]
      rw [if_pos (by omega), if_pos (by omega), w64 (by omega) (by omega), w64 (by omega) (by omega)]
      simp [Int.add_assoc]) h)
    (fun i s hI hi => ⟨by simp [hI.1], fun j hj => by
      by_cases e : j = i
      · subst e
        have := hI.1
        simp [List.getD, List.getElem?_set_self (show j < s.length by omega)]
      · have := hI.2 j (by omega)
        rw [← this]
        simp [List.getD, List.getElem?_set_ne (Ne.symm e)]⟩)
    (fun s hI => ev_step (f := fun _ => some (a + (l.length : Int), s)) (fun k => by
      have := hI.1
      simp only [laws_markIntS.l0]
      rw [if_neg (by omega)]) (ev_some _)) 0 l (Nat.zero_le _) ⟨rfl, fun j hj => by omega⟩
  have e : iter (fun i (s : List Int) => s.set i (a + i)) 0 (l.length - 0) l = cnt a l.length := by
    have hi := iter_inv (fun i (s : List Int) => s.set i (a + i)) (fun i s => s.length = l.length ∧ ∀ j, j < i → s.getD j 0 = a + j) l.length
      (fun i s hI hi => ⟨by simp [hI.1], fun j hj => by
        by_cases e : j = i
        · subst e
          have := hI.1
          simp [List.getD, List.getElem?_set_self (show j < s.length by omega)]
        · have := hI.2 j (by omega)
          rw [← this]
          simp [List.getD, List.getElem?_set_ne (Ne.symm e)]⟩) (l.length - 0) 0 l (by omega) ⟨rfl, fun j hj => by omega⟩
    exact eq_index 0 (by rw [hi.1, cnt_length]) (fun j hj => by rw [hi.2 j (by have := hi.1; omega), cnt_getD a _ j (by have := hi.1; omega)])
  rw [e] at h
  refine Ev.congr (fun k => ?_) h
  unfold laws_markIntS.f
  simp
theorem heldIntS_ev (a : Int) (n : Nat) (h0 : 0 ≤ a) (h1 : a + n ≤ 9223372036854775806) : Ev (fun k => laws_heldIntS.f k (cnt a n) a) (a + n) := by
  have h := loop_ev (σ := Unit) (fun k _ i => laws_heldIntS.l0 k (cnt a n) (a + (i : Int)) (i : Int)) n (fun _ _ => ()) (fun _ => a + (n : Int)) (fun _ _ => True)
    (fun i s r _ hi h => ev_step (fun k => by
      show laws_heldIntS.l0 (k + 1) (cnt a n) (a + (i : Int)) (i : Int) = laws_heldIntS.l0 k (cnt a n) (a + ((i + 1 : Nat) : Int)) ((i + 1 : Nat) : Int)
      simp only [laws_heldIntS.l0, cnt_length, rd_nat, cnt_getD a n i hi]
      rw [if_pos (by omega), if_pos (by omega), if_pos trivial, w64 (by omega) (by omega), w64 (by omega) (by omega)]
      simp [Int.add_assoc]) h)
    (fun _ _ _ _ => trivial)
    (fun _ _ => ev_step (f := fun _ => some (a + (n : Int))) (fun k => by
      simp only [laws_heldIntS.l0, cnt_length]
      rw [if_neg (by omega)]) (ev_some _)) 0 () (Nat.zero_le _) trivial
  refine Ev.congr (fun k => ?_) h
  unfold laws_heldIntS.f
  simp
end Go.Proofs.Ytbjbanemmoalhaa.Pure
/- What the laws' helpers for lists of whole numbers come to: a copy is the list, equality is equality. No conditions. -/
namespace Go.Proofs.Ytbjbanemmoalhaa.Pure
set_option linter.unusedVariables false
set_option linter.unusedSimpArgs false
open Go.RowKit Go.Proofs.Ytbjbanemmoalhaa.P Go.Proofs.YtbjbanemmoalhaaW.PrintWords Go.Proofs.YtbjbanemmoalhaaW.PrintLast

theorem toIntS_ev (xs : List Int) (hm : xs.length ≤ 35184372088832) : Ev (fun k => laws_toIntS.f k xs) xs := by
  have h := loop_ev (fun k ys i => laws_toIntS.l0 k xs ys (i : Int)) xs.length (fun i ys => ys.set i (xs.getD i 0)) (fun ys => ys)
    (fun i ys => ys.length = xs.length ∧ ∀ j, j < i → ys.getD j 0 = xs.getD j 0)
    (fun i ys r hI hi h => ev_step (fun k => by
      show laws_toIntS.l0 (k + 1) xs ys (i : Int) = laws_toIntS.l0 k xs (ys.set i (xs.getD i 0)) ((i + 1 : Nat) : Int)
      have hl := hI.1
      simp only [laws_toIntS.l0]
      rw [if_pos (by omega), if_pos (by omega), if_pos (by omega), w64 (by omega) (by omega), rd_nat]
      simp) h)
    (fun i ys hI hi => ⟨by simp [hI.1], fun j hj => by
      by_cases e : j = i
      · subst e
        have := hI.1
        simp [List.getD, List.getElem?_set_self (show j < ys.length by omega)]
      · have := hI.2 j (by omega)
        rw [← this]
        simp [List.getD, List.getElem?_set_ne (Ne.symm e)]⟩)
    (fun ys hI => ev_step (f := fun _ => some ys) (fun k => by
      simp only [laws_toIntS.l0]
      rw [if_neg (by omega)]) (ev_some _)) 0 (List.replicate xs.length 0) (Nat.zero_le _) ⟨by simp, fun j hj => by omega⟩
  have e : iter (fun i (ys : List Int) => ys.set i (xs.getD i 0)) 0 (xs.length - 0) (List.replicate xs.length 0) = xs := by
    have hi := iter_inv (fun i (ys : List Int) => ys.set i (xs.getD i 0)) (fun i ys => ys.length = xs.length ∧ ∀ j, j < i → ys.getD j 0 = xs.getD j 0) xs.length
      (fun i ys hI hi => ⟨by simp [hI.1], fun j hj => by
        by_cases e : j = i
        · subst e
          have := hI.1
          simp [List.getD, List.getElem?_set_self (show j < ys.length by omega)]
        · have := hI.2 j (by omega)
          rw [← this]
          simp [List.getD, List.getElem?_set_ne (Ne.symm e)]⟩) (xs.length - 0) 0 (List.replicate xs.length 0) (by omega) ⟨by simp, fun j hj => by omega⟩
    exact eq_index 0 hi.1 (fun j hj => hi.2 j (by have := hi.1; omega))
  rw [e] at h
  refine Ev.congr (fun k => ?_) h
  unfold laws_toIntS.f
  rw [if_pos (by omega), if_pos (by omega)]
  simp

theorem eqIntS_ev (xs ys : List Int) (hm : xs.length ≤ 9223372036854775806) : Ev (fun k => laws_eqIntS.f k xs ys) (decide (xs = ys)) := by
  by_cases hl : xs.length = ys.length
  · have h := allb_ev (fun k i => laws_eqIntS.l0 k xs ys (i : Int)) xs.length (fun i => decide (xs.getD i 0 = ys.getD i 0))
      (fun i r hi hp h => ev_step (fun k => by
        simp only [laws_eqIntS.l0]
        rw [if_pos (by omega), if_pos (by omega), if_pos (by omega), rd_nat, rd_nat, if_pos (by simpa using hp), w64 (by omega) (by omega)]
        rfl) h)
      (fun i hi hp => ev_step (f := fun _ => some false) (fun k => by
        simp only [laws_eqIntS.l0]
        rw [if_pos (by omega), if_pos (by omega), if_pos (by omega), rd_nat, rd_nat, if_neg (by simpa using hp)]) (ev_some _))
      (ev_step (f := fun _ => some true) (fun k => by
        simp only [laws_eqIntS.l0]
        rw [if_neg (by omega)]) (ev_some _))
    rw [rall_eq 0 hl] at h
    refine Ev.congr (fun k => ?_) h
    unfold laws_eqIntS.f
    rw [if_pos (by omega)]
    rfl
  · refine Ev.congr (f := fun _ => some false) (fun k => ?_) (by rw [decide_eq_false (fun e => hl (by rw [e]))]; exact ev_some _)
    unfold laws_eqIntS.f
    rw [if_neg (by omega)]
theorem eqIntS_self (xs : List Int) (hm : xs.length ≤ 9223372036854775806) : Ev (fun k => laws_eqIntS.f k xs xs) true := by
  have := eqIntS_ev xs xs hm
  simpa using this

end Go.Proofs.Ytbjbanemmoalhaa.Pure
/- The program's GrowRegion returns what the reference's GrowRegion returns, for all arguments; no conditions. -/
namespace Go.Proofs.Ytbjbanemmoalhaa.Pure
set_option linter.unusedVariables false
set_option linter.unusedSimpArgs false
open Go.RowKit Go.Proofs.Ytbjbanemmoalhaa.P Go.Proofs.YtbjbanemmoalhaaW.PrintWords Go.Proofs.YtbjbanemmoalhaaW.PrintLast
theorem FnExactGrowRegion : laws_FnExactGrowRegion.Pure := by
  intro a b l ha hb hm hl
  refine Ev.rounds ?_
  unfold laws_FnExactGrowRegion.f
  by_cases hlen0 : (l.length : Int) > 1048576
  · exact ev_ifp hlen0 (ev_some _)
  refine ev_ifn hlen0 ?_
  obtain ⟨⟨r1, g⟩, hs, hi, hr⟩ := grow_both a b l (by omega); have hr2 : r1.length ≤ 64 := hr
  refine ev_bind (toIntS_ev _ (by first | omega | (dsimp only; omega) | (simp; omega))) ?_
  refine ev_bind hs ?_
  refine ev_bind (toIntS_ev _ (by first | omega | (dsimp only; omega) | (simp; omega))) ?_
  refine ev_bind hi ?_
  refine ev_bind (eqIntS_self _ (by first | omega | (dsimp only; omega) | (simp; omega))) ?_
  refine ev_ifp rfl ?_
  refine ev_step (fun k => laws_FnExactGrowRegion.j0.eq_2 _ _ _ _ _ _ _ _ _ k) ?_
  refine ev_ifn (by simp) ?_
  refine ev_bind (toIntS_ev _ (by first | omega | (dsimp only; omega) | (simp; omega))) ?_
  refine ev_bind (eqIntS_self _ (by first | omega | (dsimp only; omega) | (simp; omega))) ?_
  refine ev_ifp rfl ?_
  refine ev_bind (markIntS_ev _ _ (by first | omega | (dsimp only; omega) | (simp; omega)) (by first | omega | (dsimp only; omega) | (simp; omega))) ?_
  refine ev_ifn (by first | (simp; done) | (simp; omega) | omega) ?_
  refine ev_bind (eqIntS_self _ (by first | omega | (dsimp only; omega) | (simp; omega))) ?_
  refine ev_ifp rfl ?_
  refine ev_step (fun k => laws_FnExactGrowRegion.j1.eq_2 _ _ _ _ _ _ _ k) ?_
  refine ev_ifn (by simp) ?_
  refine ev_bind (markIntS_ev _ _ (by first | omega | (dsimp only; omega) | (simp; omega)) (by first | omega | (dsimp only; omega) | (simp; omega))) ?_
  refine ev_bind (heldIntS_ev _ _ (by first | omega | (dsimp only; omega) | (simp; omega)) (by first | omega | (dsimp only; omega) | (simp; omega))) ?_
  refine ev_ifn (by first | (simp; done) | (simp; omega) | omega) ?_
  refine ev_ifp (by first | rfl | (simp; done)) ?_
  refine ev_bind (toIntS_ev _ (by first | omega | (dsimp only; omega) | (simp; omega))) ?_
  refine ev_bind hi ?_
  refine ev_bind (eqIntS_self _ (by first | omega | (dsimp only; omega) | (simp; omega))) ?_
  refine ev_ifp rfl ?_
  refine ev_step (fun k => laws_FnExactGrowRegion.j2.eq_2 _ _ _ k) ?_
  refine ev_ifn (by simp) ?_
  refine ev_bind (heldIntS_ev _ _ (by first | omega | (dsimp only; omega) | (simp; omega)) (by first | omega | (dsimp only; omega) | (simp; omega))) ?_
  refine ev_ifn (by first | (simp; done) | (simp; omega) | omega) ?_
  refine ev_ifp (by first | rfl | (simp; done)) ?_
  exact ev_some _
end Go.Proofs.Ytbjbanemmoalhaa.Pure
/- The law FnExactGrowRegion answers true whatever its arguments are; no conditions. (Written by mp.py out of the plain law and the walk.) -/
namespace Go.Proofs.Ytbjbanemmoalhaa.fnExactGrowRegion
open Go.ChangeShapes Go.WideShapes Go.ChangeAt Go.RowKit Go.Proofs.Ytbjbanemmoalhaa.Open Go.Proofs.Ytbjbanemmoalhaa.P Go.Proofs.YtbjbanemmoalhaaW.PrintWords
open Go.ChangeMaps (open_string shut_string)
set_option linter.unusedVariables false
theorem own : ownKnob Try.prog.godebug = none := by kernel_rfl
theorem laidOut : laidOutB Try.prog = true := by kernel_rfl
set_option maxRecDepth 100000 in
theorem lifted (os : Os) (started : os.Started) (H : Type) (enc : TypeId × Value → H) :
    ReturnsInHanded {} Try.checked os 3 .any (Rows.fnExactGrowRegionSpec.pre6 enc Try.prog Try.f3 Rows.fnExactGrowRegionRow.domain false) (Rows.fnExactGrowRegionSpec.post enc Try.prog Try.f3 false true false false) := by
  refine returnsInHanded_of_change_sized (C := Try.checked) own started (by kernel_rfl) Try.func3
    (ChangeSpec.witness6 (enc := enc) (C := Try.checked) false ⟨#[], #[.int .i64 0, .int .i64 0, .slice none 0 0], []⟩ 8 (by kernel_rfl) (by kernel_rfl) (by kernel_rfl) (by kernel_rfl)) ?_
  intro W base args ds gs before hval0 hW hcnd hsz0 _
  have hsz : (DataW.weightsEach Try.prog (Try.f3.params.toList ++ Rows.fnExactGrowRegionSpec.plain.varTypes Try.prog) (ds ++ gs)).all (· ≤ reachBytes) = true := hsz0
  have hval : ∀ (j : Nat) t v, Try.f3.params[j]? = some t → args[j]? = some v → Value.okWide Try.prog W .any base t v := hval0
  have hW' := hW
  obtain ⟨p, q, hA0, hV, rfl, hfz, hnd⟩ := hW
  have hA : DataW.TrodAll enc Try.prog W 0 (fun _ => true) true Try.f3.params.toList args.toList ds p := hA0
  rw [Try.params3] at hA hval hsz
  obtain ⟨v0, vs0, d0, ds0, p0, q0, hargs, rfl, rfl, h0, r0⟩ := trodAll_cons hA
  obtain ⟨v1, vs1, d1, ds1, p1, q1, rfl, rfl, rfl, h1, r1⟩ := trodAll_cons r0
  obtain ⟨v2, vs2, d2, ds2, p2, q2, rfl, rfl, rfl, h2, r2⟩ := trodAll_cons r1
  obtain ⟨rfl, rfl, rfl⟩ := trodAll_nil r2
  obtain rfl : args = #[v0, v1, v2] := by cases args; simp_all
  obtain ⟨rfl, rfl⟩ := trodVars_none hV
  obtain ⟨a0, rfl, rfl, rfl, w0⟩ := open_int Try.underlying3 (hval 0 3 v0 rfl rfl) h0
  obtain ⟨a1, rfl, rfl, rfl, w1⟩ := open_int Try.underlying3 (hval 1 3 v1 rfl rfl) h1
  obtain ⟨A2, len2, c2, rfl⟩ := okWide_slice Try.underlying22 (hval 2 22 v2 rfl rfl)
  have k2 := h2
  have lt2 : ∀ x ∈ p2, x.block < W.heap.size := by obtain ⟨m, hm⟩ := k2; exact DataW.trod_lt m _ _ _ hm
  have y2 : len2 * 8 ≤ 140737488351232 := sized_any hsz (j := 2) (t := 22) rfl rfl Try.underlying22 (by kernel_rfl) h2
  obtain ⟨l2, rfl, hc2, hr2, w2⟩ := slice_at (opens_slice Try.underlying22 (by kernel_rfl) (opens_int Try.underlying3)) h2
  clear hA0 hval0 hsz0 hsz
  obtain ⟨k, hp⟩ := Pure.FnExactGrowRegion a0 a1 l2 w0 w1 w2 y2
  refine (laws_FnExactGrowRegion.calls k a0 a1 A2 c2 l2 true W hr2 hc2 hp).mono fun e W' ⟨he, bel0⟩ => ?_
  have bel : Below W.heap.size W W' := bel0
  subst he
  exact ⟨_, rfl, _, _, _, [], _, [], hW', trodAll_mk1 (shut_bool Try.underlying4 _), (trodAll_cons_mk (shut_int Try.underlying3 w0) (trodAll_cons_mk (shut_int Try.underlying3 w1) (trodAll_cons_mk (Below.trod laidOut (by kernel_rfl) (of_decide_eq_true (by kernel_rfl)) k2 bel lt2) trodAll_mk0))), rfl, bel.frame _, fun h => by cases h⟩
set_option maxHeartbeats 4000000 in
set_option maxRecDepth 100000 in
theorem closed : joinedFacts Try.prog 3 Try.f3 Rows.fnExactGrowRegionSpec Rows.fnExactGrowRegionRow = true := by
  unfold joinedFacts
  repeat' (with_reducible refine Bool.and_eq_true_iff.2 ⟨?_, ?_⟩)
  all_goals (as_aux_lemma => kernel_rfl)
theorem over : Rows.fnExactGrowRegionRow.holds Try.pinned (OpenSpec.ofChange Rows.fnExactGrowRegionSpec) :=
  OpenClaim.holds_of_wide 3 Try.f3 rfl rfl rfl rfl rfl rfl rfl ⟨rfl, rfl, rfl, rfl, rfl⟩ rfl rfl rfl rfl rfl (by kernel_rfl) Try.func3 closed
    (of_decide_eq_true (by kernel_rfl)) (by unfold Func.isWrapper; first | (rw [if_pos (by decide +kernel)]; kernel_rfl) | (rw [if_neg (by decide +kernel)]; exact ⟨rfl, rfl⟩))
    (fun os started H enc _ => lifted os started H enc)
theorem proved : Rows.FnExactGrowRegionSaid := over
#print axioms proved
end Go.Proofs.Ytbjbanemmoalhaa.fnExactGrowRegion
namespace Go.Proofs.Ytbjbanemmoalhaa
/-- The row, under a short name, for the claim. -/
theorem fnExactGrowRegion_holds : Rows.FnExactGrowRegionSaid := fnExactGrowRegion.proved
end Go.Proofs.Ytbjbanemmoalhaa
