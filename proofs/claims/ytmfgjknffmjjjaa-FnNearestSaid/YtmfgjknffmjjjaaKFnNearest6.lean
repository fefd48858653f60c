/- Texts of the claim FnNearest, merged: part 6 of 8: the program's and the reference's functions as Lean functions, the walks that show it, and plain lemmas; no conditions. -/
import Derived.Test.YtmfgjknffmjjjaaKFnNearest1
import Derived.Test.YtmfgjknffmjjjaaKFnNearest3
import Derived.Test.YtmfgjknffmjjjaaKFnNearest4
import Derived.Test.YtmfgjknffmjjjaaKFnNearest5
import Derived.Test.YtmfgjknffmjjjaaWMore
import Derived.Test.YtmfgjknffmjjjaaWSized
import Derived.ProofKit
import Derived.OpenShut
import Derived.Deep.Slices
import Derived.Deep.Strs
import Derived.Deep.Fields
import Derived.Lib.SmallJoins
namespace Go.Proofs.Ytmfgjknffmjjjaa.P
open Go.RowKit Go.Proofs.YtmfgjknffmjjjaaW.PrintWords Go.Proofs.YtmfgjknffmjjjaaW.PrintLast Go.Proofs.YtmfgjknffmjjjaaW.PrintMore
attribute [local go_sem] max2_int min2_int max_two min_two max_three min_three max_four min_four   -- for this text's walks alone
set_option linter.unusedVariables false
set_option linter.unusedSimpArgs false

/-! ### laws_FnNearest: function 12 -/
mutual
def laws_FnNearest.j0 : Nat → List Int → Int → Int → Int → Int → Int → Bool → Bool → Option (Bool)
 | 0, _, _, _, _, _, _, _, _ => none
 | k + 1, x0, x3, x4, x5, x6, x7, x8, x59 => if x59 = true then (some false) else (if x8 = true then (laws_FnNearest.l0 k x0 x3 x4 x5 x6 x7 0 0) else (laws_FnNearest.j2 k x0))
def laws_FnNearest.j2 : Nat → List Int → Option (Bool)
 | 0, _ => none
 | k + 1, x0 => (spec_DrawRegridNearest.f k x0).bind fun bt114 => ((impl_RegridNearest.f k bt114.1 bt114.2.1 bt114.2.2.1 bt114.2.2.2.1 bt114.2.2.2.2).bind fun bt122 => ((spec_RegridNearest.f k bt114.1 bt114.2.1 bt114.2.2.1 bt114.2.2.2.1 bt114.2.2.2.2).bind fun bt129 => (if (bt122.2.2.2 != bt129.2.2.2) = true then (laws_FnNearest.j3 k bt122.2.2.2 true bt114.1 bt114.2.1 bt114.2.2.1 bt122.1 bt122.2.1 bt122.2.2.1) else ((laws_vField.f k bt122.1 bt122.2.1 bt122.2.2.1 bt129.1 bt129.2.1 bt129.2.2.1).bind fun t136 => (laws_FnNearest.j3 k bt122.2.2.2 (!t136) bt114.1 bt114.2.1 bt114.2.2.1 bt122.1 bt122.2.1 bt122.2.2.1)))))
def laws_FnNearest.j3 : Nat → Bool → Bool → Int → Int → List Int → Int → Int → List Int → Option (Bool)
 | 0, _, _, _, _, _, _, _, _ => none
 | k + 1, x21, x127, x122000, x122001, x122002, x129000, x129001, x129002 => if x127 = true then (some false) else (if x21 = true then ((impl_RegridNearest.f k x122000 x122001 x122002 x122000 x122001).bind fun bt137 => (laws_FnNearest.l1 k bt137.2.2.2 0 x122000 x122001 x122002 x129000 x129001 x129002 bt137.1 bt137.2.1 bt137.2.2.1)) else (some true))
def laws_FnNearest.l1 : Nat → Bool → Int → Int → Int → List Int → Int → Int → List Int → Int → Int → List Int → Option (Bool)
 | 0, _, _, _, _, _, _, _, _, _, _, _ => none
 | k + 1, x25, x26, x122000, x122001, x122002, x129000, x129001, x129002, x144000, x144001, x144002 => if x26 < (x129002.length : Int) then (if 0 ≤ x26 then ((laws_vHas.f k x122002 (rd x129002 x26)).bind fun t145 => (if t145 = true then (laws_FnNearest.l1 k x25 (wrap64 (x26 + 1)) x122000 x122001 x122002 x129000 x129001 x129002 x144000 x144001 x144002) else (some false))) else (none)) else (if x25 = true then ((laws_vField.f k x144000 x144001 x144002 x122000 x122001 x122002).bind fun t146 => (some t146)) else (some false))
def laws_FnNearest.l0 : Nat → List Int → Int → Int → Int → Int → Int → Int → Int → Option (Bool)
 | 0, _, _, _, _, _, _, _, _ => none
 | k + 1, x0, x3, x4, x5, x6, x7, x11, x12 => if x12 < x4 then ((impl_OverlapUnits.f x3 x4 x5 x12).bind fun bt110 => (if bt110.2 = true then (laws_FnNearest.l0 k x0 x3 x4 x5 x6 x7 (wrap64 (x11 + bt110.1)) (wrap64 (x12 + 1))) else (some false))) else ((impl_OverlapUnits.f x4 x3 x6 x5).bind fun bt112 => (if x11 = x4 then (if bt112.2 = true then (if bt112.1 = x7 then (laws_FnNearest.j2 k x0) else (some false)) else (some false)) else (some false)))
end
def laws_FnNearest.f (k : Nat) (l0 : List Int) : Option (Bool) := (laws_vBig.f l0).bind fun t101 => (if t101 = true then (some true) else ((spec_DrawOverlapUnits.f l0).bind fun bt102 => ((impl_OverlapUnits.f bt102.1 bt102.2.1 bt102.2.2.1 bt102.2.2.2).bind fun bt106 => ((spec_OverlapUnits.f bt102.1 bt102.2.1 bt102.2.2.1 bt102.2.2.2).bind fun bt108 => (if bt106.1 = bt108.1 then (laws_FnNearest.j0 k l0 bt102.1 bt102.2.1 bt102.2.2.1 bt102.2.2.2 bt106.1 bt106.2 (bt106.2 != bt108.2)) else (laws_FnNearest.j0 k l0 bt102.1 bt102.2.1 bt102.2.2.1 bt102.2.2.2 bt106.1 bt106.2 true))))))

set_option maxHeartbeats 8000000 in
set_option maxRecDepth 100000 in
theorem laws_FnNearest.calls (k : Nat) (A0 : Option Addr) (c0 : Nat) (l0 : List Int) (r : Bool) (w : World) (hr0 : Kd.C (Kd.int .u8) w A0 l0.length l0) (hc0 : l0.length ≤ c0) (h : laws_FnNearest.f k l0 = some r) :
  Calls Try.prog 12 #[.slice A0 l0.length c0] w fun e w' => e = .returned (.bool r) ∧ Below w.heap.size w w' := by
 have hu42 := Try.underlying42
 have HR0 := Aside0.mk hr0
 have HC0 := Aside0.mk hc0
 clear hr0 hc0
 have HB := aK (Below.refl w.heap.size w)
 have H : ((laws_vBig.f l0).bind fun t101 => (if t101 = true then (some true) else ((spec_DrawOverlapUnits.f l0).bind fun bt102 => ((impl_OverlapUnits.f bt102.1 bt102.2.1 bt102.2.2.1 bt102.2.2.2).bind fun bt106 => ((spec_OverlapUnits.f bt102.1 bt102.2.1 bt102.2.2.1 bt102.2.2.2).bind fun bt108 => (if bt106.1 = bt108.1 then (laws_FnNearest.j0 k l0 bt102.1 bt102.2.1 bt102.2.2.1 bt102.2.2.2 bt106.1 bt106.2 (bt106.2 != bt108.2)) else (laws_FnNearest.j0 k l0 bt102.1 bt102.2.1 bt102.2.2.1 bt102.2.2.2 bt106.1 bt106.2 true))))))) = some r := h
 clear h
 replace H := Option.bind_eq_some_iff.mp H
 obtain ⟨t101, A20, H⟩ := H
 replace H : (if t101 = true then (some true) else ((spec_DrawOverlapUnits.f l0).bind fun bt102 => ((impl_OverlapUnits.f bt102.1 bt102.2.1 bt102.2.2.1 bt102.2.2.2).bind fun bt106 => ((spec_OverlapUnits.f bt102.1 bt102.2.1 bt102.2.2.1 bt102.2.2.2).bind fun bt108 => (if bt106.1 = bt108.1 then (laws_FnNearest.j0 k l0 bt102.1 bt102.2.1 bt102.2.2.1 bt102.2.2.2 bt106.1 bt106.2 (bt106.2 != bt108.2)) else (laws_FnNearest.j0 k l0 bt102.1 bt102.2.1 bt102.2.2.1 bt102.2.2.2 bt106.1 bt106.2 true)))))) = some r := H
 have A2 := Aside0.mk A20
 clear A20
 by_cases c3 : t101 = true
 ·
  subst c3
  have H1 : (some true) = some r := by rw [if_pos rfl] at H; exact H
  clear H
  have H := H1
  clear H1
  obtain rfl := Option.some.inj H
  go_enter Try.func12, Try.ntmps12
  go_wp2_with (first | (go_at_call 65; (with_reducible refine (laws_vBig.calls _ _ l0 true _ ?side1 ?side2 A2.out).mono ?_); (case side1 => repeat (first | exact HR0.out | (with_reducible refine Kd.C_alloc ?_ _) | (with_reducible refine Kd.C_drewN ?_ _) | (with_reducible refine Kd.C_drew ?_))); (case side2 => exact HC0.out); rintro e w' ⟨rfl, ⟨nd, rfl⟩⟩; (try first | exact ⟨rfl, _, World.drewN_drewN _ _ _⟩ | exact ⟨rfl, _, Eq.trans (World.drewN_drewN _ _ _) (congrArg (World.drewN _) (Nat.add_assoc _ _ _))⟩)))
  repeat (go_quiet (first | (go_at_call 65; (with_reducible refine (laws_vBig.calls _ _ l0 true _ ?side1 ?side2 A2.out).mono ?_); (case side1 => repeat (first | exact HR0.out | (with_reducible refine Kd.C_alloc ?_ _) | (with_reducible refine Kd.C_drewN ?_ _) | (with_reducible refine Kd.C_drew ?_))); (case side2 => exact HC0.out); rintro e w' ⟨rfl, ⟨nd, rfl⟩⟩; (try first | exact ⟨rfl, _, World.drewN_drewN _ _ _⟩ | exact ⟨rfl, _, Eq.trans (World.drewN_drewN _ _ _) (congrArg (World.drewN _) (Nat.add_assoc _ _ _))⟩))); try go_wp2_with (first | (go_at_call 65; (with_reducible refine (laws_vBig.calls _ _ l0 true _ ?side1 ?side2 A2.out).mono ?_); (case side1 => repeat (first | exact HR0.out | (with_reducible refine Kd.C_alloc ?_ _) | (with_reducible refine Kd.C_drewN ?_ _) | (with_reducible refine Kd.C_drew ?_))); (case side2 => exact HC0.out); rintro e w' ⟨rfl, ⟨nd, rfl⟩⟩; (try first | exact ⟨rfl, _, World.drewN_drewN _ _ _⟩ | exact ⟨rfl, _, Eq.trans (World.drewN_drewN _ _ _) (congrArg (World.drewN _) (Nat.add_assoc _ _ _))⟩))))
  go_ret
  exact ⟨by first | rfl | (simp [errW_none, errW_some] <;> rfl) | (simp [*, errW_none, errW_some] <;> rfl), by repeat (first | (with_reducible first | exact HB.out | apply below_alloc | apply pw_below_drewN | apply below_drew1) | exact HB.out)⟩
 ·
  replace c3 := Bool.eq_false_iff.mpr c3
  subst c3
  have H1 : ((spec_DrawOverlapUnits.f l0).bind fun bt102 => ((impl_OverlapUnits.f bt102.1 bt102.2.1 bt102.2.2.1 bt102.2.2.2).bind fun bt106 => ((spec_OverlapUnits.f bt102.1 bt102.2.1 bt102.2.2.1 bt102.2.2.2).bind fun bt108 => (if bt106.1 = bt108.1 then (laws_FnNearest.j0 k l0 bt102.1 bt102.2.1 bt102.2.2.1 bt102.2.2.2 bt106.1 bt106.2 (bt106.2 != bt108.2)) else (laws_FnNearest.j0 k l0 bt102.1 bt102.2.1 bt102.2.2.1 bt102.2.2.2 bt106.1 bt106.2 true))))) = some r := by rw [if_neg (show ¬ (false = true) by decide)] at H; exact H
  clear H
  have H := H1
  clear H1
  replace H := Option.bind_eq_some_iff.mp H
  obtain ⟨⟨t102, t103, t104, t105⟩, A40, H⟩ := H
  replace H : ((impl_OverlapUnits.f t102 t103 t104 t105).bind fun bt106 => ((spec_OverlapUnits.f t102 t103 t104 t105).bind fun bt108 => (if bt106.1 = bt108.1 then (laws_FnNearest.j0 k l0 t102 t103 t104 t105 bt106.1 bt106.2 (bt106.2 != bt108.2)) else (laws_FnNearest.j0 k l0 t102 t103 t104 t105 bt106.1 bt106.2 true)))) = some r := H
  have A4 := Aside0.mk A40
  clear A40
  replace H := Option.bind_eq_some_iff.mp H
  obtain ⟨⟨t106, t107⟩, A50, H⟩ := H
  replace H : ((spec_OverlapUnits.f t102 t103 t104 t105).bind fun bt108 => (if t106 = bt108.1 then (laws_FnNearest.j0 k l0 t102 t103 t104 t105 t106 t107 (t107 != bt108.2)) else (laws_FnNearest.j0 k l0 t102 t103 t104 t105 t106 t107 true))) = some r := H
  have A5 := Aside0.mk A50
  clear A50
  replace H := Option.bind_eq_some_iff.mp H
  obtain ⟨⟨t108, t109⟩, A60, H⟩ := H
  replace H : (if t106 = t108 then (laws_FnNearest.j0 k l0 t102 t103 t104 t105 t106 t107 (t107 != t109)) else (laws_FnNearest.j0 k l0 t102 t103 t104 t105 t106 t107 true)) = some r := H
  have A6 := Aside0.mk A60
  clear A60
  have HC7 := Aside0.mk H
  clear H
  go_enter Try.func12, Try.ntmps12
  go_upto_region 6 with (first | (go_at_call 65; (with_reducible refine (laws_vBig.calls _ _ l0 false _ ?side1 ?side2 A2.out).mono ?_); (case side1 => repeat (first | exact HR0.out | (with_reducible refine Kd.C_alloc ?_ _) | (with_reducible refine Kd.C_drewN ?_ _) | (with_reducible refine Kd.C_drew ?_))); (case side2 => exact HC0.out); rintro e w' ⟨rfl, ⟨nd, rfl⟩⟩; (try first | exact ⟨rfl, _, World.drewN_drewN _ _ _⟩ | exact ⟨rfl, _, Eq.trans (World.drewN_drewN _ _ _) (congrArg (World.drewN _) (Nat.add_assoc _ _ _))⟩)) | (go_at_call 66; (with_reducible refine (spec_DrawOverlapUnits.calls _ _ l0 t102 t103 t104 t105 _ ?side1 ?side2 A4.out).mono ?_); (case side1 => repeat (first | exact HR0.out | (with_reducible refine Kd.C_alloc ?_ _) | (with_reducible refine Kd.C_drewN ?_ _) | (with_reducible refine Kd.C_drew ?_))); (case side2 => exact HC0.out); rintro e w8 ⟨rfl, hb⟩; replace HB := bS HB hb; (try clear hb); (try clear hb2); (try clear hk); (try clear hi)) | (go_at_call 67; (with_reducible refine (impl_OverlapUnits.calls t102 t103 t104 t105 t106 t107 _ A5.out).mono ?_); rintro e w9 ⟨rfl, hb⟩; replace HB := bS HB hb; (try clear hb); (try clear hb2); (try clear hk); (try clear hi)) | (go_at_call 68; (with_reducible refine (spec_OverlapUnits.calls t102 t103 t104 t105 t108 t109 _ A6.out).mono ?_); rintro e w' ⟨rfl, ⟨nd, rfl⟩⟩; (try first | exact ⟨rfl, _, World.drewN_drewN _ _ _⟩ | exact ⟨rfl, _, Eq.trans (World.drewN_drewN _ _ _) (congrArg (World.drewN _) (Nat.add_assoc _ _ _))⟩)))
  repeat (go_quiet (first | (go_at_call 65; (with_reducible refine (laws_vBig.calls _ _ l0 false _ ?side1 ?side2 A2.out).mono ?_); (case side1 => repeat (first | exact HR0.out | (with_reducible refine Kd.C_alloc ?_ _) | (with_reducible refine Kd.C_drewN ?_ _) | (with_reducible refine Kd.C_drew ?_))); (case side2 => exact HC0.out); rintro e w' ⟨rfl, ⟨nd, rfl⟩⟩; (try first | exact ⟨rfl, _, World.drewN_drewN _ _ _⟩ | exact ⟨rfl, _, Eq.trans (World.drewN_drewN _ _ _) (congrArg (World.drewN _) (Nat.add_assoc _ _ _))⟩)) | (go_at_call 66; (with_reducible refine (spec_DrawOverlapUnits.calls _ _ l0 t102 t103 t104 t105 _ ?side1 ?side2 A4.out).mono ?_); (case side1 => repeat (first | exact HR0.out | (with_reducible refine Kd.C_alloc ?_ _) | (with_reducible refine Kd.C_drewN ?_ _) | (with_reducible refine Kd.C_drew ?_))); (case side2 => exact HC0.out); rintro e w8 ⟨rfl, hb⟩; replace HB := bS HB hb; (try clear hb); (try clear hb2); (try clear hk); (try clear hi)) | (go_at_call 67; (with_reducible refine (impl_OverlapUnits.calls t102 t103 t104 t105 t106 t107 _ A5.out).mono ?_); rintro e w9 ⟨rfl, hb⟩; replace HB := bS HB hb; (try clear hb); (try clear hb2); (try clear hk); (try clear hi)) | (go_at_call 68; (with_reducible refine (spec_OverlapUnits.calls t102 t103 t104 t105 t108 t109 _ A6.out).mono ?_); rintro e w' ⟨rfl, ⟨nd, rfl⟩⟩; (try first | exact ⟨rfl, _, World.drewN_drewN _ _ _⟩ | exact ⟨rfl, _, Eq.trans (World.drewN_drewN _ _ _) (congrArg (World.drewN _) (Nat.add_assoc _ _ _))⟩))); go_upto_region 6 with (first | (go_at_call 65; (with_reducible refine (laws_vBig.calls _ _ l0 false _ ?side1 ?side2 A2.out).mono ?_); (case side1 => repeat (first | exact HR0.out | (with_reducible refine Kd.C_alloc ?_ _) | (with_reducible refine Kd.C_drewN ?_ _) | (with_reducible refine Kd.C_drew ?_))); (case side2 => exact HC0.out); rintro e w' ⟨rfl, ⟨nd, rfl⟩⟩; (try first | exact ⟨rfl, _, World.drewN_drewN _ _ _⟩ | exact ⟨rfl, _, Eq.trans (World.drewN_drewN _ _ _) (congrArg (World.drewN _) (Nat.add_assoc _ _ _))⟩)) | (go_at_call 66; (with_reducible refine (spec_DrawOverlapUnits.calls _ _ l0 t102 t103 t104 t105 _ ?side1 ?side2 A4.out).mono ?_); (case side1 => repeat (first | exact HR0.out | (with_reducible refine Kd.C_alloc ?_ _) | (with_reducible refine Kd.C_drewN ?_ _) | (with_reducible refine Kd.C_drew ?_))); (case side2 => exact HC0.out); rintro e w8 ⟨rfl, hb⟩; replace HB := bS HB hb; (try clear hb); (try clear hb2); (try clear hk); (try clear hi)) | (go_at_call 67; (with_reducible refine (impl_OverlapUnits.calls t102 t103 t104 t105 t106 t107 _ A5.out).mono ?_); rintro e w9 ⟨rfl, hb⟩; replace HB := bS HB hb; (try clear hb); (try clear hb2); (try clear hk); (try clear hi)) | (go_at_call 68; (with_reducible refine (spec_OverlapUnits.calls t102 t103 t104 t105 t108 t109 _ A6.out).mono ?_); rintro e w' ⟨rfl, ⟨nd, rfl⟩⟩; (try first | exact ⟨rfl, _, World.drewN_drewN _ _ _⟩ | exact ⟨rfl, _, Eq.trans (World.drewN_drewN _ _ _) (congrArg (World.drewN _) (Nat.add_assoc _ _ _))⟩))))
  (try simp only [Act.put, List.setIfInBounds_toArray, List.set_cons_zero, List.set_cons_succ])
  go_cut [59] (fun v59 wc => ∃ (kq : Nat) (x59_6 : Bool), v59 = .bool x59_6 ∧ Aside0 (laws_FnNearest.j0 kq l0 t102 t103 t104 t105 t106 t107 x59_6 = some r) ∧ Aside0 (kq ≤ k) ∧ Aside0 (Below w.heap.size w wc))
  case first =>
   have H := HC7.out
   clear HC7
   by_cases c10 : t106 = t108
   ·
    rw [if_pos c10] at H
    have c10b0 : (t106 == t108) = true := beq_iff_eq.mpr c10
    have c10b1 : (t106 != t108) = false := bne_eq_false_iff_eq.mpr c10
    clear c10
    (first | rw [c10b0] | (simp only [i64_w, i32_w]; rw [c10b0]) | skip)
    have H' := Aside0.mk H
    clear H
    go_wp2
    repeat (go_quiet (fail); try go_wp2)
    go_meet
    case rel => exact ⟨_, ((t107 != t109)), (by first | rfl | (simp; done) | (simp [*]; done)), H', ⟨by first | omega | exact Nat.le_refl _⟩, ⟨by repeat (first | (with_reducible first | exact HB.out | apply below_alloc | apply pw_below_drewN | apply below_drew1) | exact HB.out)⟩⟩
   ·
    rw [if_neg c10] at H
    have c10b0 : (t106 == t108) = false := beq_eq_false_iff_ne.mpr c10
    have c10b1 : (t106 != t108) = true := bne_iff_ne.mpr c10
    (first | rw [c10b0] | (simp only [i64_w, i32_w]; rw [c10b0]) | skip)
    have H' := Aside0.mk H
    clear H
    go_wp2
    repeat (go_quiet (fail); try go_wp2)
    go_meet
    case rel => exact ⟨_, (true), (by first | rfl | (simp; done) | (simp [*]; done)), H', ⟨by first | omega | exact Nat.le_refl _⟩, ⟨by repeat (first | (with_reducible first | exact HB.out | apply below_alloc | apply pw_below_drewN | apply below_drew1) | exact HB.out)⟩⟩
  case rest =>
   clear HC7
   try clear c1
   try clear p2
   try clear c3
   try clear c10
   try clear c10b0
   try clear c10b1
   obtain ⟨kq, x59_6, rfl, HA, HJ6, HB⟩ := hcut
   cases kq with
   | zero => exact absurd HA.out (by simp [laws_FnNearest.j0])
   | succ kj6 =>
    have H := HA.out
    clear HA
    simp only [laws_FnNearest.j0] at H
    by_cases c11 : x59_6 = true
    ·
     subst c11
     have H1 : (some false) = some r := by rw [if_pos rfl] at H; exact H
     clear H
     have H := H1
     clear H1
     obtain rfl := Option.some.inj H
     go_wp2
     repeat (go_quiet (fail); try go_wp2)
     go_ret
     exact ⟨by first | rfl | (simp [errW_none, errW_some] <;> rfl) | (simp [*, errW_none, errW_some] <;> rfl), by repeat (first | (with_reducible first | exact HB.out | apply below_alloc | apply pw_below_drewN | apply below_drew1) | exact HB.out)⟩
    ·
     replace c11 := Bool.eq_false_iff.mpr c11
     subst c11
     have H1 : (if t107 = true then (laws_FnNearest.l0 kj6 l0 t102 t103 t104 t105 t106 0 0) else (laws_FnNearest.j2 kj6 l0)) = some r := by rw [if_neg (show ¬ (false = true) by decide)] at H; exact H
     clear H
     have H := H1
     clear H1
     have HC12 := Aside0.mk H
     clear H
     go_upto_if 60 with (fail)
     repeat (go_quiet (fail); go_upto_if 60 with (fail))
     go_cut [] (fun wc => ∃ (kq : Nat), Aside0 (laws_FnNearest.j2 kq l0 = some r) ∧ Aside0 (kq ≤ kj6) ∧ Aside0 (Below w.heap.size w wc))
     case first =>
      have H := HC12.out
      clear HC12
      by_cases c13 : t107 = true
      ·
       subst c13
       have H1 : (laws_FnNearest.l0 kj6 l0 t102 t103 t104 t105 t106 0 0) = some r := by rw [if_pos rfl] at H; exact H
       clear H
       have H := H1
       clear H1
       have H' := Aside0.mk H
       clear H
       go_wp2
       repeat (go_quiet (fail); try go_wp2)
       go_loopg [11, 12] kj6 (fun kq v11 v12 w' => ∃ (x11_2 : Int) (x12_2 : Int), v11 = .int .i64 x11_2 ∧ v12 = .int .i64 x12_2 ∧ Aside0 (laws_FnNearest.l0 kq l0 t102 t103 t104 t105 t106 x11_2 x12_2 = some r) ∧ Aside0 (kq ≤ kj6) ∧ Aside0 (Below w.heap.size w w'))
       case atStart => exact ⟨(0), (0), (by first | rfl | (simp; done) | (simp [*]; done)), (by first | rfl | (simp; done) | (simp [*]; done)), H', ⟨Nat.le_refl _⟩, ⟨by repeat (first | (with_reducible first | exact HB.out | apply below_alloc | apply pw_below_drewN | apply below_drew1) | exact HB.out)⟩⟩
       case round =>
        clear H'
        try clear c1
        try clear p2
        try clear c3
        try clear c10
        try clear c10b0
        try clear c10b1
        try clear c11
        try clear c12
        try clear c13
        try clear p2
        obtain ⟨x11_2, x12_2, rfl, rfl, HA, HK2, HB⟩ := hrel
        cases gk with
        | zero => exact absurd HA.out (by simp [laws_FnNearest.l0])
        | succ k2 =>
         have H := HA.out
         clear HA
         simp only [laws_FnNearest.l0] at H
         by_cases c14 : x12_2 < t103
         ·
          rw [if_pos c14] at H
          have c14b0 : decide (x12_2 < t103) = true := decide_eq_true c14
          clear c14
          (first | rw [c14b0] | (simp only [i64_w, i32_w]; rw [c14b0]) | skip)
          replace H := Option.bind_eq_some_iff.mp H
          obtain ⟨⟨t110, t111⟩, A150, H⟩ := H
          replace H : (if t111 = true then (laws_FnNearest.l0 k2 l0 t102 t103 t104 t105 t106 (wrap64 (x11_2 + t110)) (wrap64 (x12_2 + 1))) else (some false)) = some r := H
          have A15 := Aside0.mk A150
          clear A150
          by_cases c16 : t111 = true
          ·
           subst c16
           have H1 : (laws_FnNearest.l0 k2 l0 t102 t103 t104 t105 t106 (wrap64 (x11_2 + t110)) (wrap64 (x12_2 + 1))) = some r := by rw [if_pos rfl] at H; exact H
           clear H
           have H := H1
           clear H1
           have H' := Aside0.mk H
           clear H
           go_wp2_with (first | (go_at_call 67; (with_reducible refine (impl_OverlapUnits.calls t102 t103 t104 x12_2 t110 true _ A15.out).mono ?_); rintro e w17 ⟨rfl, hb⟩; replace HB := bS HB hb; (try clear hb); (try clear hb2); (try clear hk); (try clear hi)))
           repeat (go_quiet (first | (go_at_call 67; (with_reducible refine (impl_OverlapUnits.calls t102 t103 t104 x12_2 t110 true _ A15.out).mono ?_); rintro e w17 ⟨rfl, hb⟩; replace HB := bS HB hb; (try clear hb); (try clear hb2); (try clear hk); (try clear hi))); try go_wp2_with (first | (go_at_call 67; (with_reducible refine (impl_OverlapUnits.calls t102 t103 t104 x12_2 t110 true _ A15.out).mono ?_); rintro e w17 ⟨rfl, hb⟩; replace HB := bS HB hb; (try clear hb); (try clear hb2); (try clear hk); (try clear hi))))
           go_roundg k2
           case measure => have := HJ6.out; have := HK2.out; omega
           case rel => exact ⟨(wrap64 (x11_2 + t110)), (wrap64 (x12_2 + 1)), (by first | rfl | (simp; done) | (simp [*]; done)), (by first | rfl | (simp; done) | (simp [*]; done)), H', ⟨by have := HJ6.out; have := HK2.out; omega⟩, ⟨by repeat (first | (with_reducible first | exact HB.out | apply below_alloc | apply pw_below_drewN | apply below_drew1) | exact HB.out)⟩⟩
          ·
           replace c16 := Bool.eq_false_iff.mpr c16
           subst c16
           have H1 : (some false) = some r := by rw [if_neg (show ¬ (false = true) by decide)] at H; exact H
           clear H
           have H := H1
           clear H1
           obtain rfl := Option.some.inj H
           go_wp2_with (first | (go_at_call 67; (with_reducible refine (impl_OverlapUnits.calls t102 t103 t104 x12_2 t110 false _ A15.out).mono ?_); rintro e w18 ⟨rfl, hb⟩; replace HB := bS HB hb; (try clear hb); (try clear hb2); (try clear hk); (try clear hi)))
           repeat (go_quiet (first | (go_at_call 67; (with_reducible refine (impl_OverlapUnits.calls t102 t103 t104 x12_2 t110 false _ A15.out).mono ?_); rintro e w18 ⟨rfl, hb⟩; replace HB := bS HB hb; (try clear hb); (try clear hb2); (try clear hk); (try clear hi))); try go_wp2_with (first | (go_at_call 67; (with_reducible refine (impl_OverlapUnits.calls t102 t103 t104 x12_2 t110 false _ A15.out).mono ?_); rintro e w18 ⟨rfl, hb⟩; replace HB := bS HB hb; (try clear hb); (try clear hb2); (try clear hk); (try clear hi))))
           go_ret
           exact ⟨by first | rfl | (simp [errW_none, errW_some] <;> rfl) | (simp [*, errW_none, errW_some] <;> rfl), by repeat (first | (with_reducible first | exact HB.out | apply below_alloc | apply pw_below_drewN | apply below_drew1) | exact HB.out)⟩
         ·
          rw [if_neg c14] at H
          have c14b0 : decide (x12_2 < t103) = false := decide_eq_false c14
          clear c14
          (first | rw [c14b0] | (simp only [i64_w, i32_w]; rw [c14b0]) | skip)
          replace H := Option.bind_eq_some_iff.mp H
          obtain ⟨⟨t112, t113⟩, A190, H⟩ := H
          replace H : (if x11_2 = t103 then (if t113 = true then (if t112 = t106 then (laws_FnNearest.j2 k2 l0) else (some false)) else (some false)) else (some false)) = some r := H
          have A19 := Aside0.mk A190
          clear A190
          by_cases c20 : x11_2 = t103
          ·
           rw [if_pos c20] at H
           have c20b0 : (x11_2 == t103) = true := beq_iff_eq.mpr c20
           have c20b1 : (x11_2 != t103) = false := bne_eq_false_iff_eq.mpr c20
           clear c20
           by_cases c21 : t113 = true
           ·
            subst c21
            have H1 : (if t112 = t106 then (laws_FnNearest.j2 k2 l0) else (some false)) = some r := by rw [if_pos rfl] at H; exact H
            clear H
            have H := H1
            clear H1
            by_cases c22 : t112 = t106
            ·
             rw [if_pos c22] at H
             have c22b0 : (t112 == t106) = true := beq_iff_eq.mpr c22
             have c22b1 : (t112 != t106) = false := bne_eq_false_iff_eq.mpr c22
             clear c22
             have H' := Aside0.mk H
             clear H
             go_wp2_with (first | (go_at_call 67; (with_reducible refine (impl_OverlapUnits.calls t103 t102 t105 t104 t112 true _ A19.out).mono ?_); rintro e w23 ⟨rfl, hb⟩; replace HB := bS HB hb; (try clear hb); (try clear hb2); (try clear hk); (try clear hi)))
             repeat (go_quiet (first | (go_at_call 67; (with_reducible refine (impl_OverlapUnits.calls t103 t102 t105 t104 t112 true _ A19.out).mono ?_); rintro e w23 ⟨rfl, hb⟩; replace HB := bS HB hb; (try clear hb); (try clear hb2); (try clear hk); (try clear hi))); try go_wp2_with (first | (go_at_call 67; (with_reducible refine (impl_OverlapUnits.calls t103 t102 t105 t104 t112 true _ A19.out).mono ?_); rintro e w23 ⟨rfl, hb⟩; replace HB := bS HB hb; (try clear hb); (try clear hb2); (try clear hk); (try clear hi))))
             go_meet
             case rel => exact ⟨_, H', ⟨by have := HJ6.out; have := HK2.out; first | omega | exact Nat.le_refl _⟩, ⟨by repeat (first | (with_reducible first | exact HB.out | apply below_alloc | apply pw_below_drewN | apply below_drew1) | exact HB.out)⟩⟩
            ·
             rw [if_neg c22] at H
             have c22b0 : (t112 == t106) = false := beq_eq_false_iff_ne.mpr c22
             have c22b1 : (t112 != t106) = true := bne_iff_ne.mpr c22
             obtain rfl := Option.some.inj H
             go_wp2_with (first | (go_at_call 67; (with_reducible refine (impl_OverlapUnits.calls t103 t102 t105 t104 t112 true _ A19.out).mono ?_); rintro e w24 ⟨rfl, hb⟩; replace HB := bS HB hb; (try clear hb); (try clear hb2); (try clear hk); (try clear hi)))
             repeat (go_quiet (first | (go_at_call 67; (with_reducible refine (impl_OverlapUnits.calls t103 t102 t105 t104 t112 true _ A19.out).mono ?_); rintro e w24 ⟨rfl, hb⟩; replace HB := bS HB hb; (try clear hb); (try clear hb2); (try clear hk); (try clear hi))); try go_wp2_with (first | (go_at_call 67; (with_reducible refine (impl_OverlapUnits.calls t103 t102 t105 t104 t112 true _ A19.out).mono ?_); rintro e w24 ⟨rfl, hb⟩; replace HB := bS HB hb; (try clear hb); (try clear hb2); (try clear hk); (try clear hi))))
             go_ret
             exact ⟨by first | rfl | (simp [errW_none, errW_some] <;> rfl) | (simp [*, errW_none, errW_some] <;> rfl), by repeat (first | (with_reducible first | exact HB.out | apply below_alloc | apply pw_below_drewN | apply below_drew1) | exact HB.out)⟩
           ·
            replace c21 := Bool.eq_false_iff.mpr c21
            subst c21
            have H1 : (some false) = some r := by rw [if_neg (show ¬ (false = true) by decide)] at H; exact H
            clear H
            have H := H1
            clear H1
            obtain rfl := Option.some.inj H
            go_wp2_with (first | (go_at_call 67; (with_reducible refine (impl_OverlapUnits.calls t103 t102 t105 t104 t112 false _ A19.out).mono ?_); rintro e w25 ⟨rfl, hb⟩; replace HB := bS HB hb; (try clear hb); (try clear hb2); (try clear hk); (try clear hi)))
            repeat (go_quiet (first | (go_at_call 67; (with_reducible refine (impl_OverlapUnits.calls t103 t102 t105 t104 t112 false _ A19.out).mono ?_); rintro e w25 ⟨rfl, hb⟩; replace HB := bS HB hb; (try clear hb); (try clear hb2); (try clear hk); (try clear hi))); try go_wp2_with (first | (go_at_call 67; (with_reducible refine (impl_OverlapUnits.calls t103 t102 t105 t104 t112 false _ A19.out).mono ?_); rintro e w25 ⟨rfl, hb⟩; replace HB := bS HB hb; (try clear hb); (try clear hb2); (try clear hk); (try clear hi))))
            go_ret
            exact ⟨by first | rfl | (simp [errW_none, errW_some] <;> rfl) | (simp [*, errW_none, errW_some] <;> rfl), by repeat (first | (with_reducible first | exact HB.out | apply below_alloc | apply pw_below_drewN | apply below_drew1) | exact HB.out)⟩
          ·
           rw [if_neg c20] at H
           have c20b0 : (x11_2 == t103) = false := beq_eq_false_iff_ne.mpr c20
           have c20b1 : (x11_2 != t103) = true := bne_iff_ne.mpr c20
           obtain rfl := Option.some.inj H
           go_wp2_with (first | (go_at_call 67; (with_reducible refine (impl_OverlapUnits.calls t103 t102 t105 t104 t112 t113 _ A19.out).mono ?_); rintro e w26 ⟨rfl, hb⟩; replace HB := bS HB hb; (try clear hb); (try clear hb2); (try clear hk); (try clear hi)))
           repeat (go_quiet (first | (go_at_call 67; (with_reducible refine (impl_OverlapUnits.calls t103 t102 t105 t104 t112 t113 _ A19.out).mono ?_); rintro e w26 ⟨rfl, hb⟩; replace HB := bS HB hb; (try clear hb); (try clear hb2); (try clear hk); (try clear hi))); try go_wp2_with (first | (go_at_call 67; (with_reducible refine (impl_OverlapUnits.calls t103 t102 t105 t104 t112 t113 _ A19.out).mono ?_); rintro e w26 ⟨rfl, hb⟩; replace HB := bS HB hb; (try clear hb); (try clear hb2); (try clear hk); (try clear hi))))
           go_ret
           exact ⟨by first | rfl | (simp [errW_none, errW_some] <;> rfl) | (simp [*, errW_none, errW_some] <;> rfl), by repeat (first | (with_reducible first | exact HB.out | apply below_alloc | apply pw_below_drewN | apply below_drew1) | exact HB.out)⟩
      ·
       replace c13 := Bool.eq_false_iff.mpr c13
       subst c13
       have H1 : (laws_FnNearest.j2 kj6 l0) = some r := by rw [if_neg (show ¬ (false = true) by decide)] at H; exact H
       clear H
       have H := H1
       clear H1
       have H' := Aside0.mk H
       clear H
       go_wp2
       repeat (go_quiet (fail); try go_wp2)
       go_meet
       case rel => exact ⟨_, H', ⟨by have := HJ6.out; first | omega | exact Nat.le_refl _⟩, ⟨by repeat (first | (with_reducible first | exact HB.out | apply below_alloc | apply pw_below_drewN | apply below_drew1) | exact HB.out)⟩⟩
     case rest =>
      clear HC12
      try clear c1
      try clear c2
      try clear p2
      try clear c3
      try clear p6
      try clear c10
      try clear c10b0
      try clear c10b1
      try clear c11
      try clear c12
      try clear c13
      try clear c14
      try clear c14b0
      try clear c16
      try clear c20
      try clear c20b0
      try clear c20b1
      try clear c21
      try clear c22
      try clear c22b0
      try clear c22b1
      try clear p2
      obtain ⟨kq, HA, HJ11, HB⟩ := hcut
      cases kq with
      | zero => exact absurd HA.out (by simp [laws_FnNearest.j2])
      | succ kj11 =>
       have H := HA.out
       clear HA
       simp only [laws_FnNearest.j2] at H
       replace H := Option.bind_eq_some_iff.mp H
       obtain ⟨⟨t114, t115, t116, t119, t120⟩, A270, H⟩ := H
       replace H : ((impl_RegridNearest.f kj11 t114 t115 t116 t119 t120).bind fun bt122 => ((spec_RegridNearest.f kj11 t114 t115 t116 t119 t120).bind fun bt129 => (if (bt122.2.2.2 != bt129.2.2.2) = true then (laws_FnNearest.j3 kj11 bt122.2.2.2 true t114 t115 t116 bt122.1 bt122.2.1 bt122.2.2.1) else ((laws_vField.f kj11 bt122.1 bt122.2.1 bt122.2.2.1 bt129.1 bt129.2.1 bt129.2.2.1).bind fun t136 => (laws_FnNearest.j3 kj11 bt122.2.2.2 (!t136) t114 t115 t116 bt122.1 bt122.2.1 bt122.2.2.1))))) = some r := H
       have A27 := Aside0.mk A270
       clear A270
       replace H := Option.bind_eq_some_iff.mp H
       obtain ⟨⟨t122, t123, t124, t127⟩, A280, H⟩ := H
       replace H : ((spec_RegridNearest.f kj11 t114 t115 t116 t119 t120).bind fun bt129 => (if (t127 != bt129.2.2.2) = true then (laws_FnNearest.j3 kj11 t127 true t114 t115 t116 t122 t123 t124) else ((laws_vField.f kj11 t122 t123 t124 bt129.1 bt129.2.1 bt129.2.2.1).bind fun t136 => (laws_FnNearest.j3 kj11 t127 (!t136) t114 t115 t116 t122 t123 t124)))) = some r := H
       have A28 := Aside0.mk A280
       clear A280
       replace H := Option.bind_eq_some_iff.mp H
       obtain ⟨⟨t129, t130, t131, t134⟩, A290, H⟩ := H
       replace H : (if (t127 != t134) = true then (laws_FnNearest.j3 kj11 t127 true t114 t115 t116 t122 t123 t124) else ((laws_vField.f kj11 t122 t123 t124 t129 t130 t131).bind fun t136 => (laws_FnNearest.j3 kj11 t127 (!t136) t114 t115 t116 t122 t123 t124))) = some r := H
       have A29 := Aside0.mk A290
       clear A290
       have HC30 := Aside0.mk H
       clear H
       go_upto_region 23 with (first | (go_at_call 69; (with_reducible refine (spec_DrawRegridNearest.calls kj11 _ _ l0 t114 t115 t116 t119 t120 _ ?side1 ?side2 A27.out).mono ?_); (case side1 => repeat (first | exact (Kd.C_below HR0.out HB.out) | (with_reducible refine Kd.C_alloc ?_ _) | (with_reducible refine Kd.C_drewN ?_ _) | (with_reducible refine Kd.C_drew ?_))); (case side2 => exact HC0.out); rintro e w31 ⟨v117, rfl, ho0, hb⟩; have HO118 := aK (Kd.Q_lower ho0 (below_size (pS HB.out))); replace HB := bS HB hb; (try clear hb); (try clear hb2); (try clear hk); (try clear hi); (try clear ho0)) | ((with_reducible refine gate_dst (N := 17) rfl ?_); refine box_event ?hg (N := 17) ?hd (cs := #[.int .i64 0, .int .i64 0, .slice none 0 0]) (t := 42) ?hr ?_; (case hd => rfl); (case hg => rfl); (case hr => first | (go_simp; done) | (go_simp; rfl)); intro gb121 hg w32 hbox hb; have n0_ := aK (Kd.Q_below (by (with_reducible repeat (first | apply Kd.Q_alloc | apply Kd.Q_drewN | apply Kd.Q_drew)); exact HO118.out) hb); have BK121 := aK (hbox); have GW121 := aK (gE hg (pS HB.out)); have GE121 := aK (gE hg (pS HB.out)); replace HB := bS HB hb; clear HO118; have HO118 := n0_; clear n0_ hb hbox hg; have hcz33_0 : w32.cell? ⟨gb121, 0, none⟩ = some (.int .i64 0) := (blk_cell BK121.out 0).trans rfl; have hcz33_1 : w32.cell? ⟨gb121, 1, none⟩ = some (.int .i64 0) := (blk_cell BK121.out 1).trans rfl; have hcz33_2 : w32.cell? ⟨gb121, 2, none⟩ = some (.slice none 0 0) := (blk_cell BK121.out 2).trans rfl; have hfz33_0 := blk_frozen BK121.out 0; have hfz33_1 := blk_frozen BK121.out 1; have hfz33_2 := blk_frozen BK121.out 2; obtain ⟨Ao34, co34, eo34, _⟩ := Kd.Q_slice HO118.out; subst eo34) | (go_at_call 70; (with_reducible refine (impl_RegridNearest.calls kj11 t114 t115 _ _ t116 t119 t120 t122 t123 t124 t127 _ ?side1 ?side2 A28.out).mono ?_); (case side1 => refine (Kd.Q_reads' (e := 3) (base := w.heap.size) (ok := fun k_ => True) (n := t116.length) (c := co34) ?_).2.2; exact (by (with_reducible repeat (first | apply Kd.Q_alloc | apply Kd.Q_drewN | apply Kd.Q_drew)); exact (Kd.Q_mono (Kd.Q_far (p := ⟨gb121, 2, none⟩) (Kd.Q_far (p := ⟨gb121, 1, none⟩) (Kd.Q_far (p := ⟨gb121, 0, none⟩) (Kd.Q_types HO118.out BK121.out (by decide)) (fun _ hk => hk.2) (.int .i64 t114)) (fun _ hk => hk.2) (.int .i64 t115)) (fun _ hk => hk.2) (.slice Ao34 t116.length co34)) (fun _ h_ => h_.1)))); (case side2 => exact (Kd.Q_reads' HO118.out).2.1); rintro e w35 ⟨v125, rfl, ho0, hb⟩; have n0_ := aK (Kd.Q_elder' (by (with_reducible repeat (first | apply Kd.Q_alloc | apply Kd.Q_drewN | apply Kd.Q_drew)); exact (Kd.Q_mono (Kd.Q_far (p := ⟨gb121, 2, none⟩) (Kd.Q_far (p := ⟨gb121, 1, none⟩) (Kd.Q_far (p := ⟨gb121, 0, none⟩) (Kd.Q_types HO118.out BK121.out (by decide)) (fun _ hk => hk.2) (.int .i64 t114)) (fun _ hk => hk.2) (.int .i64 t115)) (fun _ hk => hk.2) (.slice Ao34 t116.length co34)) (fun _ h_ => h_.1))) (Kd.R_base ho0) hb); have HO126 := aK (Kd.R_lower (Kd.R_new' ho0 (Kd.Q_lt (by (with_reducible repeat (first | apply Kd.Q_alloc | apply Kd.Q_drewN | apply Kd.Q_drew)); exact (Kd.Q_mono (Kd.Q_far (p := ⟨gb121, 2, none⟩) (Kd.Q_far (p := ⟨gb121, 1, none⟩) (Kd.Q_far (p := ⟨gb121, 0, none⟩) (Kd.Q_types HO118.out BK121.out (by decide)) (fun _ hk => hk.2) (.int .i64 t114)) (fun _ hk => hk.2) (.int .i64 t115)) (fun _ hk => hk.2) (.slice Ao34 t116.length co34)) (fun _ h_ => h_.1))))) (below_size (pS HB.out))); have n2_ := aK (blk_below (g := gb121) (o := .cells #[.int .i64 t114, .int .i64 t115, .slice Ao34 t116.length co34] 42 (0, 0)) (by (with_reducible repeat (first | refine blk_drewN ?_ _ | refine blk_drew ?_ | refine blk_alloc ?_ _)); refine blk_put (cs := #[.int .i64 t114, .int .i64 t115, .slice none 0 0]) ?_ 2 _ rfl; (with_reducible repeat (first | refine blk_drewN ?_ _ | refine blk_drew ?_ | refine blk_alloc ?_ _)); refine blk_put (cs := #[.int .i64 t114, .int .i64 0, .slice none 0 0]) ?_ 1 _ rfl; (with_reducible repeat (first | refine blk_drewN ?_ _ | refine blk_drew ?_ | refine blk_alloc ?_ _)); refine blk_put (cs := #[.int .i64 0, .int .i64 0, .slice none 0 0]) ?_ 0 _ rfl; (with_reducible repeat (first | refine blk_drewN ?_ _ | refine blk_drew ?_ | refine blk_alloc ?_ _)); exact BK121.out) hb); replace HB := bS HB hb; clear HO118 BK121; have HO118 := n0_; have BK121 := n2_; clear n0_ n2_; (try clear hb); (try clear hb2); (try clear hk); (try clear hi); (try clear ho0)) | ((with_reducible refine gate_dst (N := 20) rfl ?_); refine box_event ?hg (N := 20) ?hd (cs := #[.int .i64 0, .int .i64 0, .slice none 0 0]) (t := 42) ?hr ?_; (case hd => rfl); (case hg => rfl); (case hr => first | (go_simp; done) | (go_simp; rfl)); intro gb128 hg w36 hbox hb; have n0_ := aK (Kd.Q_below (by (with_reducible repeat (first | apply Kd.Q_alloc | apply Kd.Q_drewN | apply Kd.Q_drew)); exact HO118.out) hb); have n1_ := aK (Kd.R_below (pR HO126.out) hb); have BK128 := aK (hbox); have GW128 := aK (gE hg (pS HB.out)); have GE128 := aK (gE hg (pS HB.out)); have NB121_128 := aK (nL hg (pB BK121.out)); have NB128_121 := aK (nG hg (pB BK121.out)); replace BK121 := bB BK121 hb; replace HB := bS HB hb; clear HO118 HO126; have HO118 := n0_; have HO126 := n1_; clear n0_ n1_ hb hbox hg; have hnb37 := NB128_121.out; have hnc37 := NB121_128.out; have hcz38_0 : w36.cell? ⟨gb128, 0, none⟩ = some (.int .i64 0) := (blk_cell BK128.out 0).trans rfl; have hcz38_1 : w36.cell? ⟨gb128, 1, none⟩ = some (.int .i64 0) := (blk_cell BK128.out 1).trans rfl; have hcz38_2 : w36.cell? ⟨gb128, 2, none⟩ = some (.slice none 0 0) := (blk_cell BK128.out 2).trans rfl; have hfz38_0 := blk_frozen BK128.out 0; have hfz38_1 := blk_frozen BK128.out 1; have hfz38_2 := blk_frozen BK128.out 2; obtain ⟨Ao39, co39, eo39⟩ := Kd.R_slice HO126.out; subst eo39; have hcz40_0 : w36.cell? ⟨gb121, 0, none⟩ = some (.int .i64 t114) := (blk_cell BK121.out 0).trans rfl; have hcz40_1 : w36.cell? ⟨gb121, 1, none⟩ = some (.int .i64 t115) := (blk_cell BK121.out 1).trans rfl; have hcz40_2 : w36.cell? ⟨gb121, 2, none⟩ = some (.slice Ao34 t116.length co34) := (blk_cell BK121.out 2).trans rfl; have hfz40_0 := blk_frozen BK121.out 0; have hfz40_1 := blk_frozen BK121.out 1; have hfz40_2 := blk_frozen BK121.out 2) | (go_at_call 71; (with_reducible refine (spec_RegridNearest.calls kj11 t114 t115 _ _ t116 t119 t120 t129 t130 t131 t134 _ ?side1 ?side2 A29.out).mono ?_); (case side1 => refine (Kd.Q_reads' (e := 3) (base := w.heap.size) (ok := fun k_ => (True ∧ some k_ ≠ (.slice Ao39 t124.length co39 : Value).ownBlock)) (n := t116.length) (c := co34) ?_).2.2; exact (by (with_reducible repeat (first | apply Kd.Q_alloc | apply Kd.Q_drewN | apply Kd.Q_drew)); exact (Kd.Q_mono (Kd.Q_far (p := ⟨gb128, 2, none⟩) (Kd.Q_far (p := ⟨gb128, 1, none⟩) (Kd.Q_far (p := ⟨gb128, 0, none⟩) (Kd.Q_types HO118.out BK128.out (by decide)) (fun _ hk => hk.2) (.int .i64 t122)) (fun _ hk => hk.2) (.int .i64 t123)) (fun _ hk => hk.2) (.slice Ao39 t124.length co39)) (fun _ h_ => h_.1)))); (case side2 => exact (Kd.Q_reads' HO118.out).2.1); rintro e w41 ⟨v132, rfl, ho0, hb⟩; have n0_ := aK (Kd.Q_elder' (by (with_reducible repeat (first | apply Kd.Q_alloc | apply Kd.Q_drewN | apply Kd.Q_drew)); exact (Kd.Q_mono (Kd.Q_far (p := ⟨gb128, 2, none⟩) (Kd.Q_far (p := ⟨gb128, 1, none⟩) (Kd.Q_far (p := ⟨gb128, 0, none⟩) (Kd.Q_types HO118.out BK128.out (by decide)) (fun _ hk => hk.2) (.int .i64 t122)) (fun _ hk => hk.2) (.int .i64 t123)) (fun _ hk => hk.2) (.slice Ao39 t124.length co39)) (fun _ h_ => h_.1))) (Kd.R_base ho0) hb); have n1_ := aK (Kd.R_elder' (pR ((Kd.R_mono (Kd.R_far (p := ⟨gb128, 2, none⟩) (Kd.R_far (p := ⟨gb128, 1, none⟩) (Kd.R_far (p := ⟨gb128, 0, none⟩) (Kd.R_types HO126.out BK128.out (by decide)) (fun _ hk => hk.2) (.int .i64 t122)) (fun _ hk => hk.2) (.int .i64 t123)) (fun _ hk => hk.2) (.slice Ao39 t124.length co39)) (fun _ h_ => h_.1)))) (Kd.R_base ho0) hb); have HO133 := aK (Kd.R_lower (Kd.R_new' (Kd.R_new' ho0 (Kd.Q_lt (by (with_reducible repeat (first | apply Kd.Q_alloc | apply Kd.Q_drewN | apply Kd.Q_drew)); exact (Kd.Q_mono (Kd.Q_far (p := ⟨gb128, 2, none⟩) (Kd.Q_far (p := ⟨gb128, 1, none⟩) (Kd.Q_far (p := ⟨gb128, 0, none⟩) (Kd.Q_types HO118.out BK128.out (by decide)) (fun _ hk => hk.2) (.int .i64 t122)) (fun _ hk => hk.2) (.int .i64 t123)) (fun _ hk => hk.2) (.slice Ao39 t124.length co39)) (fun _ h_ => h_.1))))) (Kd.R_lt (pR ((Kd.R_mono (Kd.R_far (p := ⟨gb128, 2, none⟩) (Kd.R_far (p := ⟨gb128, 1, none⟩) (Kd.R_far (p := ⟨gb128, 0, none⟩) (Kd.R_types HO126.out BK128.out (by decide)) (fun _ hk => hk.2) (.int .i64 t122)) (fun _ hk => hk.2) (.int .i64 t123)) (fun _ hk => hk.2) (.slice Ao39 t124.length co39)) (fun _ h_ => h_.1)))))) (below_size (pS HB.out))); have n3_ := aK (blk_below (g := gb121) (o := .cells #[.int .i64 t114, .int .i64 t115, .slice Ao34 t116.length co34] 42 (0, 0)) (by (with_reducible repeat (first | refine blk_drewN ?_ _ | refine blk_drew ?_ | refine blk_alloc ?_ _)); refine blk_far ?_ NB121_128.out _; (with_reducible repeat (first | refine blk_drewN ?_ _ | refine blk_drew ?_ | refine blk_alloc ?_ _)); refine blk_far ?_ NB121_128.out _; (with_reducible repeat (first | refine blk_drewN ?_ _ | refine blk_drew ?_ | refine blk_alloc ?_ _)); refine blk_far ?_ NB121_128.out _; (with_reducible repeat (first | refine blk_drewN ?_ _ | refine blk_drew ?_ | refine blk_alloc ?_ _)); exact BK121.out) hb); have n4_ := aK (blk_below (g := gb128) (o := .cells #[.int .i64 t122, .int .i64 t123, .slice Ao39 t124.length co39] 42 (0, 0)) (by (with_reducible repeat (first | refine blk_drewN ?_ _ | refine blk_drew ?_ | refine blk_alloc ?_ _)); refine blk_put (cs := #[.int .i64 t122, .int .i64 t123, .slice none 0 0]) ?_ 2 _ rfl; (with_reducible repeat (first | refine blk_drewN ?_ _ | refine blk_drew ?_ | refine blk_alloc ?_ _)); refine blk_put (cs := #[.int .i64 t122, .int .i64 0, .slice none 0 0]) ?_ 1 _ rfl; (with_reducible repeat (first | refine blk_drewN ?_ _ | refine blk_drew ?_ | refine blk_alloc ?_ _)); refine blk_put (cs := #[.int .i64 0, .int .i64 0, .slice none 0 0]) ?_ 0 _ rfl; (with_reducible repeat (first | refine blk_drewN ?_ _ | refine blk_drew ?_ | refine blk_alloc ?_ _)); exact BK128.out) hb); replace HB := bS HB hb; clear HO118 HO126 BK121 BK128; have HO118 := n0_; have HO126 := n1_; have BK121 := n3_; have BK128 := n4_; clear n0_ n1_ n3_ n4_; (try clear hb); (try clear hb2); (try clear hk); (try clear hi); (try clear ho0)) | ((with_reducible refine gate_dst (N := 22) rfl ?_); refine box_event ?hg (N := 22) ?hd (cs := #[.int .i64 0, .int .i64 0, .slice none 0 0]) (t := 42) ?hr ?_; (case hd => rfl); (case hg => rfl); (case hr => first | (go_simp; done) | (go_simp; rfl)); intro gb135 hg w42 hbox hb; have n0_ := aK (Kd.Q_below (by (with_reducible repeat (first | apply Kd.Q_alloc | apply Kd.Q_drewN | apply Kd.Q_drew)); exact HO118.out) hb); have n1_ := aK (Kd.R_below (pR HO126.out) hb); have n2_ := aK (Kd.R_below (pR HO133.out) hb); have BK135 := aK (hbox); have GW135 := aK (gE hg (pS HB.out)); have GE135 := aK (gE hg (pS HB.out)); have NB121_135 := aK (nL hg (pB BK121.out)); have NB135_121 := aK (nG hg (pB BK121.out)); have NB128_135 := aK (nL hg (pB BK128.out)); have NB135_128 := aK (nG hg (pB BK128.out)); replace BK121 := bB BK121 hb; replace BK128 := bB BK128 hb; replace HB := bS HB hb; clear HO118 HO126 HO133; have HO118 := n0_; have HO126 := n1_; have HO133 := n2_; clear n0_ n1_ n2_ hb hbox hg; have hnb43 := NB135_121.out; have hnc43 := NB121_135.out; have hnb44 := NB135_128.out; have hnc44 := NB128_135.out; have hcz45_0 : w42.cell? ⟨gb135, 0, none⟩ = some (.int .i64 0) := (blk_cell BK135.out 0).trans rfl; have hcz45_1 : w42.cell? ⟨gb135, 1, none⟩ = some (.int .i64 0) := (blk_cell BK135.out 1).trans rfl; have hcz45_2 : w42.cell? ⟨gb135, 2, none⟩ = some (.slice none 0 0) := (blk_cell BK135.out 2).trans rfl; have hfz45_0 := blk_frozen BK135.out 0; have hfz45_1 := blk_frozen BK135.out 1; have hfz45_2 := blk_frozen BK135.out 2; obtain ⟨Ao46, co46, eo46⟩ := Kd.R_slice HO133.out; subst eo46))
       repeat (go_quiet (first | (go_at_call 69; (with_reducible refine (spec_DrawRegridNearest.calls kj11 _ _ l0 t114 t115 t116 t119 t120 _ ?side1 ?side2 A27.out).mono ?_); (case side1 => repeat (first | exact (Kd.C_below HR0.out HB.out) | (with_reducible refine Kd.C_alloc ?_ _) | (with_reducible refine Kd.C_drewN ?_ _) | (with_reducible refine Kd.C_drew ?_))); (case side2 => exact HC0.out); rintro e w31 ⟨v117, rfl, ho0, hb⟩; have HO118 := aK (Kd.Q_lower ho0 (below_size (pS HB.out))); replace HB := bS HB hb; (try clear hb); (try clear hb2); (try clear hk); (try clear hi); (try clear ho0)) | ((with_reducible refine gate_dst (N := 17) rfl ?_); refine box_event ?hg (N := 17) ?hd (cs := #[.int .i64 0, .int .i64 0, .slice none 0 0]) (t := 42) ?hr ?_; (case hd => rfl); (case hg => rfl); (case hr => first | (go_simp; done) | (go_simp; rfl)); intro gb121 hg w32 hbox hb; have n0_ := aK (Kd.Q_below (by (with_reducible repeat (first | apply Kd.Q_alloc | apply Kd.Q_drewN | apply Kd.Q_drew)); exact HO118.out) hb); have BK121 := aK (hbox); have GW121 := aK (gE hg (pS HB.out)); have GE121 := aK (gE hg (pS HB.out)); replace HB := bS HB hb; clear HO118; have HO118 := n0_; clear n0_ hb hbox hg; have hcz33_0 : w32.cell? ⟨gb121, 0, none⟩ = some (.int .i64 0) := (blk_cell BK121.out 0).trans rfl; have hcz33_1 : w32.cell? ⟨gb121, 1, none⟩ = some (.int .i64 0) := (blk_cell BK121.out 1).trans rfl; have hcz33_2 : w32.cell? ⟨gb121, 2, none⟩ = some (.slice none 0 0) := (blk_cell BK121.out 2).trans rfl; have hfz33_0 := blk_frozen BK121.out 0; have hfz33_1 := blk_frozen BK121.out 1; have hfz33_2 := blk_frozen BK121.out 2; obtain ⟨Ao34, co34, eo34, _⟩ := Kd.Q_slice HO118.out; subst eo34) | (go_at_call 70; (with_reducible refine (impl_RegridNearest.calls kj11 t114 t115 _ _ t116 t119 t120 t122 t123 t124 t127 _ ?side1 ?side2 A28.out).mono ?_); (case side1 => refine (Kd.Q_reads' (e := 3) (base := w.heap.size) (ok := fun k_ => True) (n := t116.length) (c := co34) ?_).2.2; exact (by (with_reducible repeat (first | apply Kd.Q_alloc | apply Kd.Q_drewN | apply Kd.Q_drew)); exact (Kd.Q_mono (Kd.Q_far (p := ⟨gb121, 2, none⟩) (Kd.Q_far (p := ⟨gb121, 1, none⟩) (Kd.Q_far (p := ⟨gb121, 0, none⟩) (Kd.Q_types HO118.out BK121.out (by decide)) (fun _ hk => hk.2) (.int .i64 t114)) (fun _ hk => hk.2) (.int .i64 t115)) (fun _ hk => hk.2) (.slice Ao34 t116.length co34)) (fun _ h_ => h_.1)))); (case side2 => exact (Kd.Q_reads' HO118.out).2.1); rintro e w35 ⟨v125, rfl, ho0, hb⟩; have n0_ := aK (Kd.Q_elder' (by (with_reducible repeat (first | apply Kd.Q_alloc | apply Kd.Q_drewN | apply Kd.Q_drew)); exact (Kd.Q_mono (Kd.Q_far (p := ⟨gb121, 2, none⟩) (Kd.Q_far (p := ⟨gb121, 1, none⟩) (Kd.Q_far (p := ⟨gb121, 0, none⟩) (Kd.Q_types HO118.out BK121.out (by decide)) (fun _ hk => hk.2) (.int .i64 t114)) (fun _ hk => hk.2) (.int .i64 t115)) (fun _ hk => hk.2) (.slice Ao34 t116.length co34)) (fun _ h_ => h_.1))) (Kd.R_base ho0) hb); have HO126 := aK (Kd.R_lower (Kd.R_new' ho0 (Kd.Q_lt (by (with_reducible repeat (first | apply Kd.Q_alloc | apply Kd.Q_drewN | apply Kd.Q_drew)); exact (Kd.Q_mono (Kd.Q_far (p := ⟨gb121, 2, none⟩) (Kd.Q_far (p := ⟨gb121, 1, none⟩) (Kd.Q_far (p := ⟨gb121, 0, none⟩) (Kd.Q_types HO118.out BK121.out (by decide)) (fun _ hk => hk.2) (.int .i64 t114)) (fun _ hk => hk.2) (.int .i64 t115)) (fun _ hk => hk.2) (.slice Ao34 t116.length co34)) (fun _ h_ => h_.1))))) (below_size (pS HB.out))); have n2_ := aK (blk_below (g := gb121) (o := .cells #[.int .i64 t114, .int .i64 t115, .slice Ao34 t116.length co34] 42 (0, 0)) (by (with_reducible repeat (first | refine blk_drewN ?_ _ | refine blk_drew ?_ | refine blk_alloc ?_ _)); refine blk_put (cs := #[.int .i64 t114, .int .i64 t115, .slice none 0 0]) ?_ 2 _ rfl; (with_reducible repeat (first | refine blk_drewN ?_ _ | refine blk_drew ?_ | refine blk_alloc ?_ _)); refine blk_put (cs := #[.int .i64 t114, .int .i64 0, .slice none 0 0]) ?_ 1 _ rfl; (with_reducible repeat (first | refine blk_drewN ?_ _ | refine blk_drew ?_ | refine blk_alloc ?_ _)); refine blk_put (cs := #[.int .i64 0, .int .i64 0, .slice none 0 0]) ?_ 0 _ rfl; (with_reducible repeat (first | refine blk_drewN ?_ _ | refine blk_drew ?_ | refine blk_alloc ?_ _)); exact BK121.out) hb); replace HB := bS HB hb; clear HO118 BK121; have HO118 := n0_; have BK121 := n2_; clear n0_ n2_; (try clear hb); (try clear hb2); (try clear hk); (try clear hi); (try clear ho0)) | ((with_reducible refine gate_dst (N := 20) rfl ?_); refine box_event ?hg (N := 20) ?hd (cs := #[.int .i64 0, .int .i64 0, .slice none 0 0]) (t := 42) ?hr ?_; (case hd => rfl); (case hg => rfl); (case hr => first | (go_simp; done) | (go_simp; rfl)); intro gb128 hg w36 hbox hb; have n0_ := aK (Kd.Q_below (by (with_reducible repeat (first | apply Kd.Q_alloc | apply Kd.Q_drewN | apply Kd.Q_drew)); exact HO118.out) hb); have n1_ := aK (Kd.R_below (pR HO126.out) hb); have BK128 := aK (hbox); have GW128 := aK (gE hg (pS HB.out)); have GE128 := aK (gE hg (pS HB.out)); have NB121_128 := aK (nL hg (pB BK121.out)); have NB128_121 := aK (nG hg (pB BK121.out)); replace BK121 := bB BK121 hb; replace HB := bS HB hb; clear HO118 HO126; have HO118 := n0_; have HO126 := n1_; clear n0_ n1_ hb hbox hg; have hnb37 := NB128_121.out; have hnc37 := NB121_128.out; have hcz38_0 : w36.cell? ⟨gb128, 0, none⟩ = some (.int .i64 0) := (blk_cell BK128.out 0).trans rfl; have hcz38_1 : w36.cell? ⟨gb128, 1, none⟩ = some (.int .i64 0) := (blk_cell BK128.out 1).trans rfl; have hcz38_2 : w36.cell? ⟨gb128, 2, none⟩ = some (.slice none 0 0) := (blk_cell BK128.out 2).trans rfl; have hfz38_0 := blk_frozen BK128.out 0; have hfz38_1 := blk_frozen BK128.out 1; have hfz38_2 := blk_frozen BK128.out 2; obtain ⟨Ao39, co39, eo39⟩ := Kd.R_slice HO126.out; subst eo39; have hcz40_0 : w36.cell? ⟨gb121, 0, none⟩ = some (.int .i64 t114) := (blk_cell BK121.out 0).trans rfl; have hcz40_1 : w36.cell? ⟨gb121, 1, none⟩ = some (.int .i64 t115) := (blk_cell BK121.out 1).trans rfl; have hcz40_2 : w36.cell? ⟨gb121, 2, none⟩ = some (.slice Ao34 t116.length co34) := (blk_cell BK121.out 2).trans rfl; have hfz40_0 := blk_frozen BK121.out 0; have hfz40_1 := blk_frozen BK121.out 1; have hfz40_2 := blk_frozen BK121.out 2) | (go_at_call 71; (with_reducible refine (spec_RegridNearest.calls kj11 t114 t115 _ _ t116 t119 t120 t129 t130 t131 t134 _ ?side1 ?side2 A29.out).mono ?_); (case side1 => refine (Kd.Q_reads' (e := 3) (base := w.heap.size) (ok := fun k_ => (True ∧ some k_ ≠ (.slice Ao39 t124.length co39 : Value).ownBlock)) (n := t116.length) (c := co34) ?_).2.2; exact (by (with_reducible repeat (first | apply Kd.Q_alloc | apply Kd.Q_drewN | apply Kd.Q_drew)); exact (Kd.Q_mono (Kd.Q_far (p := ⟨gb128, 2, none⟩) (Kd.Q_far (p := ⟨gb128, 1, none⟩) (Kd.Q_far (p := ⟨gb128, 0, none⟩) (Kd.Q_types HO118.out BK128.out (by decide)) (fun _ hk => hk.2) (.int .i64 t122)) (fun _ hk => hk.2) (.int .i64 t123)) (fun _ hk => hk.2) (.slice Ao39 t124.length co39)) (fun _ h_ => h_.1)))); (case side2 => exact (Kd.Q_reads' HO118.out).2.1); rintro e w41 ⟨v132, rfl, ho0, hb⟩; have n0_ := aK (Kd.Q_elder' (by (with_reducible repeat (first | apply Kd.Q_alloc | apply Kd.Q_drewN | apply Kd.Q_drew)); exact (Kd.Q_mono (Kd.Q_far (p := ⟨gb128, 2, none⟩) (Kd.Q_far (p := ⟨gb128, 1, none⟩) (Kd.Q_far (p := ⟨gb128, 0, none⟩) (Kd.Q_types HO118.out BK128.out (by decide)) (fun _ hk => hk.2) (.int .i64 t122)) (fun _ hk => hk.2) (.int .i64 t123)) (fun _ hk => hk.2) (.slice Ao39 t124.length co39)) (fun _ h_ => h_.1))) (Kd.R_base ho0) hb); have n1_ := aK (Kd.R_elder' (pR ((Kd.R_mono (Kd.R_far (p := ⟨gb128, 2, none⟩) (Kd.R_far (p := ⟨gb128, 1, none⟩) (Kd.R_far (p := ⟨gb128, 0, none⟩) (Kd.R_types HO126.out BK128.out (by decide)) (fun _ hk => hk.2) (.int .i64 t122)) (fun _ hk => hk.2) (.int .i64 t123)) (fun _ hk => hk.2) (.slice Ao39 t124.length co39)) (fun _ h_ => h_.1)))) (Kd.R_base ho0) hb); have HO133 := aK (Kd.R_lower (Kd.R_new' (Kd.R_new' ho0 (Kd.Q_lt (by (with_reducible repeat (first | apply Kd.Q_alloc | apply Kd.Q_drewN | apply Kd.Q_drew)); exact (Kd.Q_mono (Kd.Q_far (p := ⟨gb128, 2, none⟩) (Kd.Q_far (p := ⟨gb128, 1, none⟩) (Kd.Q_far (p := ⟨gb128, 0, none⟩) (Kd.Q_types HO118.out BK128.out (by decide)) (fun _ hk => hk.2) (.int .i64 t122)) (fun _ hk => hk.2) (.int .i64 t123)) (fun _ hk => hk.2) (.slice Ao39 t124.length co39)) (fun _ h_ => h_.1))))) (Kd.R_lt (pR ((Kd.R_mono (Kd.R_far (p := ⟨gb128, 2, none⟩) (Kd.R_far (p := ⟨gb128, 1, none⟩) (Kd.R_far (p := ⟨gb128, 0, none⟩) (Kd.R_types HO126.out BK128.out (by decide)) (fun _ hk => hk.2) (.int .i64 t122)) (fun _ hk => hk.2) (.int .i64 t123)) (fun _ hk => hk.2) (.slice Ao39 t124.length co39)) (fun _ h_ => h_.1)))))) (below_size (pS HB.out))); have n3_ := aK (blk_below (g := gb121) (o := .cells #[.int .i64 t114, .int .i64 t115, .slice Ao34 t116.length co34] 42 (0, 0)) (by (with_reducible repeat (first | refine blk_drewN ?_ _ | refine blk_drew ?_ | refine blk_alloc ?_ _)); refine blk_far ?_ NB121_128.out _; (with_reducible repeat (first | refine blk_drewN ?_ _ | refine blk_drew ?_ | refine blk_alloc ?_ _)); refine blk_far ?_ NB121_128.out _; (with_reducible repeat (first | refine blk_drewN ?_ _ | refine blk_drew ?_ | refine blk_alloc ?_ _)); refine blk_far ?_ NB121_128.out _; (with_reducible repeat (first | refine blk_drewN ?_ _ | refine blk_drew ?_ | refine blk_alloc ?_ _)); exact BK121.out) hb); have n4_ := aK (blk_below (g := gb128) (o := .cells #[.int .i64 t122, .int .i64 t123, .slice Ao39 t124.length co39] 42 (0, 0)) (by (with_reducible repeat (first | refine blk_drewN ?_ _ | refine blk_drew ?_ | refine blk_alloc ?_ _)); refine blk_put (cs := #[.int .i64 t122, .int .i64 t123, .slice none 0 0]) ?_ 2 _ rfl; (with_reducible repeat (first | refine blk_drewN ?_ _ | refine blk_drew ?_ | refine blk_alloc ?_ _)); refine blk_put (cs := #[.int .i64 t122, .int .i64 0, .slice none 0 0]) ?_ 1 _ rfl; (with_reducible repeat (first | refine blk_drewN ?_ _ | refine blk_drew ?_ | refine blk_alloc ?_ _)); refine blk_put (cs := #[.int .i64 0, .int .i64 0, .slice none 0 0]) ?_ 0 _ rfl; (with_reducible repeat (first | refine blk_drewN ?_ _ | refine blk_drew ?_ | refine blk_alloc ?_ _)); exact BK128.out) hb); replace HB := bS HB hb; clear HO118 HO126 BK121 BK128; have HO118 := n0_; have HO126 := n1_; have BK121 := n3_; have BK128 := n4_; clear n0_ n1_ n3_ n4_; (try clear hb); (try clear hb2); (try clear hk); (try clear hi); (try clear ho0)) | ((with_reducible refine gate_dst (N := 22) rfl ?_); refine box_event ?hg (N := 22) ?hd (cs := #[.int .i64 0, .int .i64 0, .slice none 0 0]) (t := 42) ?hr ?_; (case hd => rfl); (case hg => rfl); (case hr => first | (go_simp; done) | (go_simp; rfl)); intro gb135 hg w42 hbox hb; have n0_ := aK (Kd.Q_below (by (with_reducible repeat (first | apply Kd.Q_alloc | apply Kd.Q_drewN | apply Kd.Q_drew)); exact HO118.out) hb); have n1_ := aK (Kd.R_below (pR HO126.out) hb); have n2_ := aK (Kd.R_below (pR HO133.out) hb); have BK135 := aK (hbox); have GW135 := aK (gE hg (pS HB.out)); have GE135 := aK (gE hg (pS HB.out)); have NB121_135 := aK (nL hg (pB BK121.out)); have NB135_121 := aK (nG hg (pB BK121.out)); have NB128_135 := aK (nL hg (pB BK128.out)); have NB135_128 := aK (nG hg (pB BK128.out)); replace BK121 := bB BK121 hb; replace BK128 := bB BK128 hb; replace HB := bS HB hb; clear HO118 HO126 HO133; have HO118 := n0_; have HO126 := n1_; have HO133 := n2_; clear n0_ n1_ n2_ hb hbox hg; have hnb43 := NB135_121.out; have hnc43 := NB121_135.out; have hnb44 := NB135_128.out; have hnc44 := NB128_135.out; have hcz45_0 : w42.cell? ⟨gb135, 0, none⟩ = some (.int .i64 0) := (blk_cell BK135.out 0).trans rfl; have hcz45_1 : w42.cell? ⟨gb135, 1, none⟩ = some (.int .i64 0) := (blk_cell BK135.out 1).trans rfl; have hcz45_2 : w42.cell? ⟨gb135, 2, none⟩ = some (.slice none 0 0) := (blk_cell BK135.out 2).trans rfl; have hfz45_0 := blk_frozen BK135.out 0; have hfz45_1 := blk_frozen BK135.out 1; have hfz45_2 := blk_frozen BK135.out 2; obtain ⟨Ao46, co46, eo46⟩ := Kd.R_slice HO133.out; subst eo46)); go_upto_region 23 with (first | (go_at_call 69; (with_reducible refine (spec_DrawRegridNearest.calls kj11 _ _ l0 t114 t115 t116 t119 t120 _ ?side1 ?side2 A27.out).mono ?_); (case side1 => repeat (first | exact (Kd.C_below HR0.out HB.out) | (with_reducible refine Kd.C_alloc ?_ _) | (with_reducible refine Kd.C_drewN ?_ _) | (with_reducible refine Kd.C_drew ?_))); (case side2 => exact HC0.out); rintro e w31 ⟨v117, rfl, ho0, hb⟩; have HO118 := aK (Kd.Q_lower ho0 (below_size (pS HB.out))); replace HB := bS HB hb; (try clear hb); (try clear hb2); (try clear hk); (try clear hi); (try clear ho0)) | ((with_reducible refine gate_dst (N := 17) rfl ?_); refine box_event ?hg (N := 17) ?hd (cs := #[.int .i64 0, .int .i64 0, .slice none 0 0]) (t := 42) ?hr ?_; (case hd => rfl); (case hg => rfl); (case hr => first | (go_simp; done) | (go_simp; rfl)); intro gb121 hg w32 hbox hb; have n0_ := aK (Kd.Q_below (by (with_reducible repeat (first | apply Kd.Q_alloc | apply Kd.Q_drewN | apply Kd.Q_drew)); exact HO118.out) hb); have BK121 := aK (hbox); have GW121 := aK (gE hg (pS HB.out)); have GE121 := aK (gE hg (pS HB.out)); replace HB := bS HB hb; clear HO118; have HO118 := n0_; clear n0_ hb hbox hg; have hcz33_0 : w32.cell? ⟨gb121, 0, none⟩ = some (.int .i64 0) := (blk_cell BK121.out 0).trans rfl; have hcz33_1 : w32.cell? ⟨gb121, 1, none⟩ = some (.int .i64 0) := (blk_cell BK121.out 1).trans rfl; have hcz33_2 : w32.cell? ⟨gb121, 2, none⟩ = some (.slice none 0 0) := (blk_cell BK121.out 2).trans rfl; have hfz33_0 := blk_frozen BK121.out 0; have hfz33_1 := blk_frozen BK121.out 1; have hfz33_2 := blk_frozen BK121.out 2; obtain ⟨Ao34, co34, eo34, _⟩ := Kd.Q_slice HO118.out; subst eo34) | (go_at_call 70; (with_reducible refine (impl_RegridNearest.calls kj11 t114 t115 _ _ t116 t119 t120 t122 t123 t124 t127 _ ?side1 ?side2 A28.out).mono ?_); (case side1 => refine (Kd.Q_reads' (e := 3) (base := w.heap.size) (ok := fun k_ => True) (n := t116.length) (c := co34) ?_).2.2; exact (by (with_reducible repeat (first | apply Kd.Q_alloc | apply Kd.Q_drewN | apply Kd.Q_drew)); exact (Kd.Q_mono (Kd.Q_far (p := ⟨gb121, 2, none⟩) (Kd.Q_far (p := ⟨gb121, 1, none⟩) (Kd.Q_far (p := ⟨gb121, 0, none⟩) (Kd.Q_types HO118.out BK121.out (by decide)) (fun _ hk => hk.2) (.int .i64 t114)) (fun _ hk => hk.2) (.int .i64 t115)) (fun _ hk => hk.2) (.slice Ao34 t116.length co34)) (fun _ h_ => h_.1)))); (case side2 => exact (Kd.Q_reads' HO118.out).2.1); rintro e w35 ⟨v125, rfl, ho0, hb⟩; have n0_ := aK (Kd.Q_elder' (by (with_reducible repeat (first | apply Kd.Q_alloc | apply Kd.Q_drewN | apply Kd.Q_drew)); exact (Kd.Q_mono (Kd.Q_far (p := ⟨gb121, 2, none⟩) (Kd.Q_far (p := ⟨gb121, 1, none⟩) (Kd.Q_far (p := ⟨gb121, 0, none⟩) (Kd.Q_types HO118.out BK121.out (by decide)) (fun _ hk => hk.2) (.int .i64 t114)) (fun _ hk => hk.2) (.int .i64 t115)) (fun _ hk => hk.2) (.slice Ao34 t116.length co34)) (fun _ h_ => h_.1))) (Kd.R_base ho0) hb); have HO126 := aK (Kd.R_lower (Kd.R_new' ho0 (Kd.Q_lt (by (with_reducible repeat (first | apply Kd.Q_alloc | apply Kd.Q_drewN | apply Kd.Q_drew)); exact (Kd.Q_mono (Kd.Q_far (p := ⟨gb121, 2, none⟩) (Kd.Q_far (p := ⟨gb121, 1, none⟩) (Kd.Q_far (p := ⟨gb121, 0, none⟩) (Kd.Q_types HO118.out BK121.out (by decide)) (fun _ hk => hk.2) (.int .i64 t114)) (fun _ hk => hk.2) (.int .i64 t115)) (fun _ hk => hk.2) (.slice Ao34 t116.length co34)) (fun _ h_ => h_.1))))) (below_size (pS HB.out))); have n2_ := aK (blk_below (g := gb121) (o := .cells #[.int .i64 t114, .int .i64 t115, .slice Ao34 t116.length co34] 42 (0, 0)) (by (with_reducible repeat (first | refine blk_drewN ?_ _ | refine blk_drew ?_ | refine blk_alloc ?_ _)); refine blk_put (cs := #[.int .i64 t114, .int .i64 t115, .slice none 0 0]) ?_ 2 _ rfl; (with_reducible repeat (first | refine blk_drewN ?_ _ | refine blk_drew ?_ | refine blk_alloc ?_ _)); refine blk_put (cs := #[.int .i64 t114, .int .i64 0, .slice none 0 0]) ?_ 1 _ rfl; (with_reducible repeat (first | refine blk_drewN ?_ _ | refine blk_drew ?_ | refine blk_alloc ?_ _)); refine blk_put (cs := #[.int .i64 0, .int .i64 0, .slice none 0 0]) ?_ 0 _ rfl; (with_reducible repeat (first | refine blk_drewN ?_ _ | refine blk_drew ?_ | refine blk_alloc ?_ _)); exact BK121.out) hb); replace HB := bS HB hb; clear HO118 BK121; have HO118 := n0_; have BK121 := n2_; clear n0_ n2_; (try clear hb); (try clear hb2); (try clear hk); (try clear hi); (try clear ho0)) | ((with_reducible refine gate_dst (N := 20) rfl ?_); refine box_event ?hg (N := 20) ?hd (cs := #[.int .i64 0, .int .i64 0, .slice none 0 0]) (t := 42) ?hr ?_; (case hd => rfl); (case hg => rfl); (case hr => first | (go_simp; done) | (go_simp; rfl)); intro gb128 hg w36 hbox hb; have n0_ := aK (Kd.Q_below (by (with_reducible repeat (first | apply Kd.Q_alloc | apply Kd.Q_drewN | apply Kd.Q_drew)); exact HO118.out) hb); have n1_ := aK (Kd.R_below (pR HO126.out) hb); have BK128 := aK (hbox); have GW128 := aK (gE hg (pS HB.out)); have GE128 := aK (gE hg (pS HB.out)); have NB121_128 := aK (nL hg (pB BK121.out)); have NB128_121 := aK (nG hg (pB BK121.out)); replace BK121 := bB BK121 hb; replace HB := bS HB hb; clear HO118 HO126; have HO118 := n0_; have HO126 := n1_; clear n0_ n1_ hb hbox hg; have hnb37 := NB128_121.out; have hnc37 := NB121_128.out; have hcz38_0 : w36.cell? ⟨gb128, 0, none⟩ = some (.int .i64 0) := (blk_cell BK128.out 0).trans rfl; have hcz38_1 : w36.cell? ⟨gb128, 1, none⟩ = some (.int .i64 0) := (blk_cell BK128.out 1).trans rfl; have hcz38_2 : w36.cell? ⟨gb128, 2, none⟩ = some (.slice none 0 0) := (blk_cell BK128.out 2).trans rfl; have hfz38_0 := blk_frozen BK128.out 0; have hfz38_1 := blk_frozen BK128.out 1; have hfz38_2 := blk_frozen BK128.out 2; obtain ⟨Ao39, co39, eo39⟩ := Kd.R_slice HO126.out; subst eo39; have hcz40_0 : w36.cell? ⟨gb121, 0, none⟩ = some (.int .i64 t114) := (blk_cell BK121.out 0).trans rfl; have hcz40_1 : w36.cell? ⟨gb121, 1, none⟩ = some (.int .i64 t115) := (blk_cell BK121.out 1).trans rfl; have hcz40_2 : w36.cell? ⟨gb121, 2, none⟩ = some (.slice Ao34 t116.length co34) := (blk_cell BK121.out 2).trans rfl; have hfz40_0 := blk_frozen BK121.out 0; have hfz40_1 := blk_frozen BK121.out 1; have hfz40_2 := blk_frozen BK121.out 2) | (go_at_call 71; (with_reducible refine (spec_RegridNearest.calls kj11 t114 t115 _ _ t116 t119 t120 t129 t130 t131 t134 _ ?side1 ?side2 A29.out).mono ?_); (case side1 => refine (Kd.Q_reads' (e := 3) (base := w.heap.size) (ok := fun k_ => (True ∧ some k_ ≠ (.slice Ao39 t124.length co39 : Value).ownBlock)) (n := t116.length) (c := co34) ?_).2.2; exact (by (with_reducible repeat (first | apply Kd.Q_alloc | apply Kd.Q_drewN | apply Kd.Q_drew)); exact (Kd.Q_mono (Kd.Q_far (p := ⟨gb128, 2, none⟩) (Kd.Q_far (p := ⟨gb128, 1, none⟩) (Kd.Q_far (p := ⟨gb128, 0, none⟩) (Kd.Q_types HO118.out BK128.out (by decide)) (fun _ hk => hk.2) (.int .i64 t122)) (fun _ hk => hk.2) (.int .i64 t123)) (fun _ hk => hk.2) (.slice Ao39 t124.length co39)) (fun _ h_ => h_.1)))); (case side2 => exact (Kd.Q_reads' HO118.out).2.1); rintro e w41 ⟨v132, rfl, ho0, hb⟩; have n0_ := aK (Kd.Q_elder' (by (with_reducible repeat (first | apply Kd.Q_alloc | apply Kd.Q_drewN | apply Kd.Q_drew)); exact (Kd.Q_mono (Kd.Q_far (p := ⟨gb128, 2, none⟩) (Kd.Q_far (p := ⟨gb128, 1, none⟩) (Kd.Q_far (p := ⟨gb128, 0, none⟩) (Kd.Q_types HO118.out BK128.out (by decide)) (fun _ hk => hk.2) (.int .i64 t122)) (fun _ hk => hk.2) (.int .i64 t123)) (fun _ hk => hk.2) (.slice Ao39 t124.length co39)) (fun _ h_ => h_.1))) (Kd.R_base ho0) hb); have n1_ := aK (Kd.R_elder' (pR ((Kd.R_mono (Kd.R_far (p := ⟨gb128, 2, none⟩) (Kd.R_far (p := ⟨gb128, 1, none⟩) (Kd.R_far (p := ⟨gb128, 0, none⟩) (Kd.R_types HO126.out BK128.out (by decide)) (fun _ hk => hk.2) (.int .i64 t122)) (fun _ hk => hk.2) (.int .i64 t123)) (fun _ hk => hk.2) (.slice Ao39 t124.length co39)) (fun _ h_ => h_.1)))) (Kd.R_base ho0) hb); have HO133 := aK (Kd.R_lower (Kd.R_new' (Kd.R_new' ho0 (Kd.Q_lt (by (with_reducible repeat (first | apply Kd.Q_alloc | apply Kd.Q_drewN | apply Kd.Q_drew)); exact (Kd.Q_mono (Kd.Q_far (p := ⟨gb128, 2, none⟩) (Kd.Q_far (p := ⟨gb128, 1, none⟩) (Kd.Q_far (p := ⟨gb128, 0, none⟩) (Kd.Q_types HO118.out BK128.out (by decide)) (fun _ hk => hk.2) (.int .i64 t122)) (fun _ hk => hk.2) (.int .i64 t123)) (fun _ hk => hk.2) (.slice Ao39 t124.length co39)) (fun _ h_ => h_.1))))) (Kd.R_lt (pR ((Kd.R_mono (Kd.R_far (p := ⟨gb128, 2, none⟩) (Kd.R_far (p := ⟨gb128, 1, none⟩) (Kd.R_far (p := ⟨gb128, 0, none⟩) (Kd.R_types HO126.out BK128.out (by decide)) (fun _ hk => hk.2) (.int .i64 t122)) (fun _ hk => hk.2) (.int .i64 t123)) (fun _ hk => hk.2) (.slice Ao39 t124.length co39)) (fun _ h_ => h_.1)))))) (below_size (pS HB.out))); have n3_ := aK (blk_below (g := gb121) (o := .cells #[.int .i64 t114, .int .i64 t115, .slice Ao34 t116.length co34] 42 (0, 0)) (by (with_reducible repeat (first | refine blk_drewN ?_ _ | refine blk_drew ?_ | refine blk_alloc ?_ _)); refine blk_far ?_ NB121_128.out _; (with_reducible repeat (first | refine blk_drewN ?_ _ | refine blk_drew ?_ | refine blk_alloc ?_ _)); refine blk_far ?_ NB121_128.out _; (with_reducible repeat (first | refine blk_drewN ?_ _ | refine blk_drew ?_ | refine blk_alloc ?_ _)); refine blk_far ?_ NB121_128.out _; (with_reducible repeat (first | refine blk_drewN ?_ _ | refine blk_drew ?_ | refine blk_alloc ?_ _)); exact BK121.out) hb); have n4_ := aK (blk_below (g := gb128) (o := .cells #[.int .i64 t122, .int .i64 t123, .slice Ao39 t124.length co39] 42 (0, 0)) (by (with_reducible repeat (first | refine blk_drewN ?_ _ | refine blk_drew ?_ | refine blk_alloc ?_ _)); refine blk_put (cs := #[.int .i64 t122, .int .i64 t123, .slice none 0 0]) ?_ 2 _ rfl; (with_reducible repeat (first | refine blk_drewN ?_ _ | refine blk_drew ?_ | refine blk_alloc ?_ _)); refine blk_put (cs := #[.int .i64 t122, .int .i64 0, .slice none 0 0]) ?_ 1 _ rfl; (with_reducible repeat (first | refine blk_drewN ?_ _ | refine blk_drew ?_ | refine blk_alloc ?_ _)); refine blk_put (cs := #[.int .i64 0, .int .i64 0, .slice none 0 0]) ?_ 0 _ rfl; (with_reducible repeat (first | refine blk_drewN ?_ _ | refine blk_drew ?_ | refine blk_alloc ?_ _)); exact BK128.out) hb); replace HB := bS HB hb; clear HO118 HO126 BK121 BK128; have HO118 := n0_; have HO126 := n1_; have BK121 := n3_; have BK128 := n4_; clear n0_ n1_ n3_ n4_; (try clear hb); (try clear hb2); (try clear hk); (try clear hi); (try clear ho0)) | ((with_reducible refine gate_dst (N := 22) rfl ?_); refine box_event ?hg (N := 22) ?hd (cs := #[.int .i64 0, .int .i64 0, .slice none 0 0]) (t := 42) ?hr ?_; (case hd => rfl); (case hg => rfl); (case hr => first | (go_simp; done) | (go_simp; rfl)); intro gb135 hg w42 hbox hb; have n0_ := aK (Kd.Q_below (by (with_reducible repeat (first | apply Kd.Q_alloc | apply Kd.Q_drewN | apply Kd.Q_drew)); exact HO118.out) hb); have n1_ := aK (Kd.R_below (pR HO126.out) hb); have n2_ := aK (Kd.R_below (pR HO133.out) hb); have BK135 := aK (hbox); have GW135 := aK (gE hg (pS HB.out)); have GE135 := aK (gE hg (pS HB.out)); have NB121_135 := aK (nL hg (pB BK121.out)); have NB135_121 := aK (nG hg (pB BK121.out)); have NB128_135 := aK (nL hg (pB BK128.out)); have NB135_128 := aK (nG hg (pB BK128.out)); replace BK121 := bB BK121 hb; replace BK128 := bB BK128 hb; replace HB := bS HB hb; clear HO118 HO126 HO133; have HO118 := n0_; have HO126 := n1_; have HO133 := n2_; clear n0_ n1_ n2_ hb hbox hg; have hnb43 := NB135_121.out; have hnc43 := NB121_135.out; have hnb44 := NB135_128.out; have hnc44 := NB128_135.out; have hcz45_0 : w42.cell? ⟨gb135, 0, none⟩ = some (.int .i64 0) := (blk_cell BK135.out 0).trans rfl; have hcz45_1 : w42.cell? ⟨gb135, 1, none⟩ = some (.int .i64 0) := (blk_cell BK135.out 1).trans rfl; have hcz45_2 : w42.cell? ⟨gb135, 2, none⟩ = some (.slice none 0 0) := (blk_cell BK135.out 2).trans rfl; have hfz45_0 := blk_frozen BK135.out 0; have hfz45_1 := blk_frozen BK135.out 1; have hfz45_2 := blk_frozen BK135.out 2; obtain ⟨Ao46, co46, eo46⟩ := Kd.R_slice HO133.out; subst eo46)))
       (try simp only [Act.put, List.setIfInBounds_toArray, List.set_cons_zero, List.set_cons_succ])
       go_cut [127] (fun v127 wc => ∃ (kq : Nat) (x127_29 : Bool), v127 = .bool x127_29 ∧ Aside0 (laws_FnNearest.j3 kq t127 x127_29 t114 t115 t116 t122 t123 t124 = some r) ∧ Aside0 (kq ≤ kj11) ∧ Aside0 (Kd.Q (Kd.int .i64) 3 wc w.heap.size (fun k_ => some k_ ≠ ((.slice Ao39 t124.length co39) : Value).ownBlock) (.slice Ao34 t116.length co34) t116) ∧ Aside0 (Kd.Q (Kd.int .i64) 3 wc w.heap.size (fun k_ => some k_ ≠ ((.slice Ao34 t116.length co34) : Value).ownBlock) (.slice Ao39 t124.length co39) t124) ∧ Aside0 (wc.heap[gb121]? = some (.cells #[.int .i64 t114, .int .i64 t115, (.slice Ao34 t116.length co34)] 42 (0, 0))) ∧ Aside0 (wc.heap[gb128]? = some (.cells #[.int .i64 t122, .int .i64 t123, (.slice Ao39 t124.length co39)] 42 (0, 0))) ∧ Aside0 (Below w.heap.size w wc))
       case first =>
        have H := HC30.out
        clear HC30
        by_cases c47 : (t127 != t134) = true
        ·
         rw [if_pos c47] at H
         have c47b0 : (t127 != t134) = true := c47
         (try (have c47b1 : decide (t127 = t134) = false := by simpa using c47))
         (try (have c47b2 : (t127 == t134) = false := by simpa using c47))
         (try (have c47b3 : ¬ (t127 = t134) := by simpa using c47))
         clear c47
         (first | rw [c47b0] | (simp only [i64_w, i32_w]; rw [c47b0]) | skip)
         have H' := Aside0.mk H
         clear H
         go_wp2
         repeat (go_quiet (fail); try go_wp2)
         go_meet
         case rel => exact ⟨_, (true), (by first | rfl | (simp; done) | (simp [*]; done)), H', ⟨by have := HJ6.out; have := HJ11.out; first | omega | exact Nat.le_refl _⟩, ⟨by (with_reducible repeat (first | apply Kd.Q_alloc | apply Kd.Q_drewN | apply Kd.Q_drew)); exact Kd.Q_mono (Kd.Q_far (p := ⟨gb135, 2, none⟩) (Kd.Q_far (p := ⟨gb135, 1, none⟩) (Kd.Q_far (p := ⟨gb135, 0, none⟩) (Kd.Q_types HO118.out BK135.out (by decide)) (fun _ hk => hk.2) (.int .i64 t129)) (fun _ hk => hk.2) (.int .i64 t130)) (fun _ hk => hk.2) (.slice Ao46 t131.length co46)) (fun _ hk => hk.1.1.2)⟩, ⟨Kd.Q_of_R (pR (Kd.R_mono (Kd.R_far (p := ⟨gb135, 2, none⟩) (Kd.R_far (p := ⟨gb135, 1, none⟩) (Kd.R_far (p := ⟨gb135, 0, none⟩) (Kd.R_types HO126.out BK135.out (by decide)) (fun _ hk => hk.2) (.int .i64 t129)) (fun _ hk => hk.2) (.int .i64 t130)) (fun _ hk => hk.2) (.slice Ao46 t131.length co46)) (fun _ hk => hk.1.1.2)))⟩, ⟨by (with_reducible repeat (first | refine blk_drewN ?_ _ | refine blk_drew ?_ | refine blk_alloc ?_ _)); refine blk_far ?_ NB121_135.out _; (with_reducible repeat (first | refine blk_drewN ?_ _ | refine blk_drew ?_ | refine blk_alloc ?_ _)); refine blk_far ?_ NB121_135.out _; (with_reducible repeat (first | refine blk_drewN ?_ _ | refine blk_drew ?_ | refine blk_alloc ?_ _)); refine blk_far ?_ NB121_135.out _; (with_reducible repeat (first | refine blk_drewN ?_ _ | refine blk_drew ?_ | refine blk_alloc ?_ _)); exact BK121.out⟩, ⟨by (with_reducible repeat (first | refine blk_drewN ?_ _ | refine blk_drew ?_ | refine blk_alloc ?_ _)); refine blk_far ?_ NB128_135.out _; (with_reducible repeat (first | refine blk_drewN ?_ _ | refine blk_drew ?_ | refine blk_alloc ?_ _)); refine blk_far ?_ NB128_135.out _; (with_reducible repeat (first | refine blk_drewN ?_ _ | refine blk_drew ?_ | refine blk_alloc ?_ _)); refine blk_far ?_ NB128_135.out _; (with_reducible repeat (first | refine blk_drewN ?_ _ | refine blk_drew ?_ | refine blk_alloc ?_ _)); exact BK128.out⟩, ⟨by repeat (first | (with_reducible first | exact HB.out | apply below_alloc | apply pw_below_drewN | apply below_drew1 | refine below_set ?_ GE121.out | refine below_set ?_ GE128.out | refine below_set ?_ GE135.out) | exact HB.out)⟩⟩
        ·
         rw [if_neg c47] at H
         have c47b0 : (t127 != t134) = false := by simpa using c47
         (try (have c47b1 : decide (t127 = t134) = true := by simpa using c47))
         (try (have c47b2 : (t127 == t134) = true := by simpa using c47))
         clear c47
         (first | rw [c47b0] | (simp only [i64_w, i32_w]; rw [c47b0]) | skip)
         replace H := Option.bind_eq_some_iff.mp H
         obtain ⟨t136, A480, H⟩ := H
         replace H : (laws_FnNearest.j3 kj11 t127 (!t136) t114 t115 t116 t122 t123 t124) = some r := H
         have A48 := Aside0.mk A480
         clear A480
         have H' := Aside0.mk H
         clear H
         have hnb49 := NB128_121.out
         have hnc49 := NB121_128.out
         have hnb50 := NB128_135.out
         have hnc50 := NB135_128.out
         have hcz51_0 : w42.cell? ⟨gb128, 0, none⟩ = some (.int .i64 t122) := (blk_cell BK128.out 0).trans rfl
         have hcz51_1 : w42.cell? ⟨gb128, 1, none⟩ = some (.int .i64 t123) := (blk_cell BK128.out 1).trans rfl
         have hcz51_2 : w42.cell? ⟨gb128, 2, none⟩ = some (.slice Ao39 t124.length co39) := (blk_cell BK128.out 2).trans rfl
         have hfz51_0 := blk_frozen BK128.out 0
         have hfz51_1 := blk_frozen BK128.out 1
         have hfz51_2 := blk_frozen BK128.out 2
         have hnb52 := NB135_121.out
         have hnc52 := NB121_135.out
         have hcz53_0 : w42.cell? ⟨gb135, 0, none⟩ = some (.int .i64 0) := (blk_cell BK135.out 0).trans rfl
         have hcz53_1 : w42.cell? ⟨gb135, 1, none⟩ = some (.int .i64 0) := (blk_cell BK135.out 1).trans rfl
         have hcz53_2 : w42.cell? ⟨gb135, 2, none⟩ = some (.slice none 0 0) := (blk_cell BK135.out 2).trans rfl
         have hfz53_0 := blk_frozen BK135.out 0
         have hfz53_1 := blk_frozen BK135.out 1
         have hfz53_2 := blk_frozen BK135.out 2
         go_wp2_with (first | (go_at_call 72; (with_reducible refine (laws_vField.calls kj11 t122 t123 _ _ t124 t129 t130 _ _ t131 t136 _ ?side1 ?side2 ?side3 ?side4 A48.out).mono ?_); (case side1 => refine (Kd.R_reads' (e := 3) (base := w.heap.size) (ok := fun k_ => ((True ∧ some k_ ≠ (.slice Ao34 t116.length co34 : Value).ownBlock) ∧ some k_ ≠ (.slice Ao46 t131.length co46 : Value).ownBlock)) (n := t124.length) (c := co39) ?_).2.2; exact (pR ((Kd.R_mono (Kd.R_far (p := ⟨gb135, 2, none⟩) (Kd.R_far (p := ⟨gb135, 1, none⟩) (Kd.R_far (p := ⟨gb135, 0, none⟩) (Kd.R_types HO126.out BK135.out (by decide)) (fun _ hk => hk.2) (.int .i64 t129)) (fun _ hk => hk.2) (.int .i64 t130)) (fun _ hk => hk.2) (.slice Ao46 t131.length co46)) (fun _ h_ => h_.1))))); (case side2 => exact (Kd.R_reads' HO126.out).2.1); (case side3 => refine (Kd.R_reads' (e := 3) (base := w.heap.size) (ok := fun k_ => ((True ∧ some k_ ≠ (.slice Ao34 t116.length co34 : Value).ownBlock) ∧ some k_ ≠ (.slice Ao39 t124.length co39 : Value).ownBlock)) (n := t131.length) (c := co46) ?_).2.2; exact (pR ((Kd.R_mono (Kd.R_far (p := ⟨gb135, 2, none⟩) (Kd.R_far (p := ⟨gb135, 1, none⟩) (Kd.R_far (p := ⟨gb135, 0, none⟩) (Kd.R_types HO133.out BK135.out (by decide)) (fun _ hk => hk.2) (.int .i64 t129)) (fun _ hk => hk.2) (.int .i64 t130)) (fun _ hk => hk.2) (.slice Ao46 t131.length co46)) (fun _ h_ => h_.1))))); (case side4 => exact (Kd.R_reads' HO133.out).2.1); rintro e w54 ⟨rfl, hb⟩; have n0_ := aK (Kd.Q_below (by (with_reducible repeat (first | apply Kd.Q_alloc | apply Kd.Q_drewN | apply Kd.Q_drew)); exact (Kd.Q_mono (Kd.Q_far (p := ⟨gb135, 2, none⟩) (Kd.Q_far (p := ⟨gb135, 1, none⟩) (Kd.Q_far (p := ⟨gb135, 0, none⟩) (Kd.Q_types HO118.out BK135.out (by decide)) (fun _ hk => hk.2) (.int .i64 t129)) (fun _ hk => hk.2) (.int .i64 t130)) (fun _ hk => hk.2) (.slice Ao46 t131.length co46)) (fun _ h_ => h_.1))) hb); have n1_ := aK (Kd.R_below (pR ((Kd.R_mono (Kd.R_far (p := ⟨gb135, 2, none⟩) (Kd.R_far (p := ⟨gb135, 1, none⟩) (Kd.R_far (p := ⟨gb135, 0, none⟩) (Kd.R_types HO126.out BK135.out (by decide)) (fun _ hk => hk.2) (.int .i64 t129)) (fun _ hk => hk.2) (.int .i64 t130)) (fun _ hk => hk.2) (.slice Ao46 t131.length co46)) (fun _ h_ => h_.1)))) hb); have n2_ := aK (Kd.R_below (pR ((Kd.R_mono (Kd.R_far (p := ⟨gb135, 2, none⟩) (Kd.R_far (p := ⟨gb135, 1, none⟩) (Kd.R_far (p := ⟨gb135, 0, none⟩) (Kd.R_types HO133.out BK135.out (by decide)) (fun _ hk => hk.2) (.int .i64 t129)) (fun _ hk => hk.2) (.int .i64 t130)) (fun _ hk => hk.2) (.slice Ao46 t131.length co46)) (fun _ h_ => h_.1)))) hb); have n3_ := aK (blk_below (g := gb121) (o := .cells #[.int .i64 t114, .int .i64 t115, .slice Ao34 t116.length co34] 42 (0, 0)) (by (with_reducible repeat (first | refine blk_drewN ?_ _ | refine blk_drew ?_ | refine blk_alloc ?_ _)); refine blk_far ?_ NB121_135.out _; (with_reducible repeat (first | refine blk_drewN ?_ _ | refine blk_drew ?_ | refine blk_alloc ?_ _)); refine blk_far ?_ NB121_135.out _; (with_reducible repeat (first | refine blk_drewN ?_ _ | refine blk_drew ?_ | refine blk_alloc ?_ _)); refine blk_far ?_ NB121_135.out _; (with_reducible repeat (first | refine blk_drewN ?_ _ | refine blk_drew ?_ | refine blk_alloc ?_ _)); exact BK121.out) hb); have n4_ := aK (blk_below (g := gb128) (o := .cells #[.int .i64 t122, .int .i64 t123, .slice Ao39 t124.length co39] 42 (0, 0)) (by (with_reducible repeat (first | refine blk_drewN ?_ _ | refine blk_drew ?_ | refine blk_alloc ?_ _)); refine blk_far ?_ NB128_135.out _; (with_reducible repeat (first | refine blk_drewN ?_ _ | refine blk_drew ?_ | refine blk_alloc ?_ _)); refine blk_far ?_ NB128_135.out _; (with_reducible repeat (first | refine blk_drewN ?_ _ | refine blk_drew ?_ | refine blk_alloc ?_ _)); refine blk_far ?_ NB128_135.out _; (with_reducible repeat (first | refine blk_drewN ?_ _ | refine blk_drew ?_ | refine blk_alloc ?_ _)); exact BK128.out) hb); have n5_ := aK (blk_below (g := gb135) (o := .cells #[.int .i64 t129, .int .i64 t130, .slice Ao46 t131.length co46] 42 (0, 0)) (by (with_reducible repeat (first | refine blk_drewN ?_ _ | refine blk_drew ?_ | refine blk_alloc ?_ _)); refine blk_put (cs := #[.int .i64 t129, .int .i64 t130, .slice none 0 0]) ?_ 2 _ rfl; (with_reducible repeat (first | refine blk_drewN ?_ _ | refine blk_drew ?_ | refine blk_alloc ?_ _)); refine blk_put (cs := #[.int .i64 t129, .int .i64 0, .slice none 0 0]) ?_ 1 _ rfl; (with_reducible repeat (first | refine blk_drewN ?_ _ | refine blk_drew ?_ | refine blk_alloc ?_ _)); refine blk_put (cs := #[.int .i64 0, .int .i64 0, .slice none 0 0]) ?_ 0 _ rfl; (with_reducible repeat (first | refine blk_drewN ?_ _ | refine blk_drew ?_ | refine blk_alloc ?_ _)); exact BK135.out) hb); replace HB := bS HB hb; clear HO118 HO126 HO133 BK121 BK128 BK135; have HO118 := n0_; have HO126 := n1_; have HO133 := n2_; have BK121 := n3_; have BK128 := n4_; have BK135 := n5_; clear n0_ n1_ n2_ n3_ n4_ n5_; (try clear hb); (try clear hb2); (try clear hk); (try clear hi)))
         repeat (go_quiet (first | (go_at_call 72; (with_reducible refine (laws_vField.calls kj11 t122 t123 _ _ t124 t129 t130 _ _ t131 t136 _ ?side1 ?side2 ?side3 ?side4 A48.out).mono ?_); (case side1 => refine (Kd.R_reads' (e := 3) (base := w.heap.size) (ok := fun k_ => ((True ∧ some k_ ≠ (.slice Ao34 t116.length co34 : Value).ownBlock) ∧ some k_ ≠ (.slice Ao46 t131.length co46 : Value).ownBlock)) (n := t124.length) (c := co39) ?_).2.2; exact (pR ((Kd.R_mono (Kd.R_far (p := ⟨gb135, 2, none⟩) (Kd.R_far (p := ⟨gb135, 1, none⟩) (Kd.R_far (p := ⟨gb135, 0, none⟩) (Kd.R_types HO126.out BK135.out (by decide)) (fun _ hk => hk.2) (.int .i64 t129)) (fun _ hk => hk.2) (.int .i64 t130)) (fun _ hk => hk.2) (.slice Ao46 t131.length co46)) (fun _ h_ => h_.1))))); (case side2 => exact (Kd.R_reads' HO126.out).2.1); (case side3 => refine (Kd.R_reads' (e := 3) (base := w.heap.size) (ok := fun k_ => ((True ∧ some k_ ≠ (.slice Ao34 t116.length co34 : Value).ownBlock) ∧ some k_ ≠ (.slice Ao39 t124.length co39 : Value).ownBlock)) (n := t131.length) (c := co46) ?_).2.2; exact (pR ((Kd.R_mono (Kd.R_far (p := ⟨gb135, 2, none⟩) (Kd.R_far (p := ⟨gb135, 1, none⟩) (Kd.R_far (p := ⟨gb135, 0, none⟩) (Kd.R_types HO133.out BK135.out (by decide)) (fun _ hk => hk.2) (.int .i64 t129)) (fun _ hk => hk.2) (.int .i64 t130)) (fun _ hk => hk.2) (.slice Ao46 t131.length co46)) (fun _ h_ => h_.1))))); (case side4 => exact (Kd.R_reads' HO133.out).2.1); rintro e w54 ⟨rfl, hb⟩; have n0_ := aK (Kd.Q_below (by (with_reducible repeat (first | apply Kd.Q_alloc | apply Kd.Q_drewN | apply Kd.Q_drew)); exact (Kd.Q_mono (Kd.Q_far (p := ⟨gb135, 2, none⟩) (Kd.Q_far (p := ⟨gb135, 1, none⟩) (Kd.Q_far (p := ⟨gb135, 0, none⟩) (Kd.Q_types HO118.out BK135.out (by decide)) (fun _ hk => hk.2) (.int .i64 t129)) (fun _ hk => hk.2) (.int .i64 t130)) (fun _ hk => hk.2) (.slice Ao46 t131.length co46)) (fun _ h_ => h_.1))) hb); have n1_ := aK (Kd.R_below (pR ((Kd.R_mono (Kd.R_far (p := ⟨gb135, 2, none⟩) (Kd.R_far (p := ⟨gb135, 1, none⟩) (Kd.R_far (p := ⟨gb135, 0, none⟩) (Kd.R_types HO126.out BK135.out (by decide)) (fun _ hk => hk.2) (.int .i64 t129)) (fun _ hk => hk.2) (.int .i64 t130)) (fun _ hk => hk.2) (.slice Ao46 t131.length co46)) (fun _ h_ => h_.1)))) hb); have n2_ := aK (Kd.R_below (pR ((Kd.R_mono (Kd.R_far (p := ⟨gb135, 2, none⟩) (Kd.R_far (p := ⟨gb135, 1, none⟩) (Kd.R_far (p := ⟨gb135, 0, none⟩) (Kd.R_types HO133.out BK135.out (by decide)) (fun _ hk => hk.2) (.int .i64 t129)) (fun _ hk => hk.2) (.int .i64 t130)) (fun _ hk => hk.2) (.slice Ao46 t131.length co46)) (fun _ h_ => h_.1)))) hb); have n3_ := aK (blk_below (g := gb121) (o := .cells #[.int .i64 t114, .int .i64 t115, .slice Ao34 t116.length co34] 42 (0, 0)) (by (with_reducible repeat (first | refine blk_drewN ?_ _ | refine blk_drew ?_ | refine blk_alloc ?_ _)); refine blk_far ?_ NB121_135.out _; (with_reducible repeat (first | refine blk_drewN ?_ _ | refine blk_drew ?_ | refine blk_alloc ?_ _)); refine blk_far ?_ NB121_135.out _; (with_reducible repeat (first | refine blk_drewN ?_ _ | refine blk_drew ?_ | refine blk_alloc ?_ _)); refine blk_far ?_ NB121_135.out _; (with_reducible repeat (first | refine blk_drewN ?_ _ | refine blk_drew ?_ | refine blk_alloc ?_ _)); exact BK121.out) hb); have n4_ := aK (blk_below (g := gb128) (o := .cells #[.int .i64 t122, .int .i64 t123, .slice Ao39 t124.length co39] 42 (0, 0)) (by (with_reducible repeat (first | refine blk_drewN ?_ _ | refine blk_drew ?_ | refine blk_alloc ?_ _)); refine blk_far ?_ NB128_135.out _; (with_reducible repeat (first | refine blk_drewN ?_ _ | refine blk_drew ?_ | refine blk_alloc ?_ _)); refine blk_far ?_ NB128_135.out _; (with_reducible repeat (first | refine blk_drewN ?_ _ | refine blk_drew ?_ | refine blk_alloc ?_ _)); refine blk_far ?_ NB128_135.out _; (with_reducible repeat (first | refine blk_drewN ?_ _ | refine blk_drew ?_ | refine blk_alloc ?_ _)); exact BK128.out) hb); have n5_ := aK (blk_below (g := gb135) (o := .cells #[.int .i64 t129, .int .i64 t130, .slice Ao46 t131.length co46] 42 (0, 0)) (by (with_reducible repeat (first | refine blk_drewN ?_ _ | refine blk_drew ?_ | refine blk_alloc ?_ _)); refine blk_put (cs := #[.int .i64 t129, .int .i64 t130, .slice none 0 0]) ?_ 2 _ rfl; (with_reducible repeat (first | refine blk_drewN ?_ _ | refine blk_drew ?_ | refine blk_alloc ?_ _)); refine blk_put (cs := #[.int .i64 t129, .int .i64 0, .slice none 0 0]) ?_ 1 _ rfl; (with_reducible repeat (first | refine blk_drewN ?_ _ | refine blk_drew ?_ | refine blk_alloc ?_ _)); refine blk_put (cs := #[.int .i64 0, .int .i64 0, .slice none 0 0]) ?_ 0 _ rfl; (with_reducible repeat (first | refine blk_drewN ?_ _ | refine blk_drew ?_ | refine blk_alloc ?_ _)); exact BK135.out) hb); replace HB := bS HB hb; clear HO118 HO126 HO133 BK121 BK128 BK135; have HO118 := n0_; have HO126 := n1_; have HO133 := n2_; have BK121 := n3_; have BK128 := n4_; have BK135 := n5_; clear n0_ n1_ n2_ n3_ n4_ n5_; (try clear hb); (try clear hb2); (try clear hk); (try clear hi))); try go_wp2_with (first | (go_at_call 72; (with_reducible refine (laws_vField.calls kj11 t122 t123 _ _ t124 t129 t130 _ _ t131 t136 _ ?side1 ?side2 ?side3 ?side4 A48.out).mono ?_); (case side1 => refine (Kd.R_reads' (e := 3) (base := w.heap.size) (ok := fun k_ => ((True ∧ some k_ ≠ (.slice Ao34 t116.length co34 : Value).ownBlock) ∧ some k_ ≠ (.slice Ao46 t131.length co46 : Value).ownBlock)) (n := t124.length) (c := co39) ?_).2.2; exact (pR ((Kd.R_mono (Kd.R_far (p := ⟨gb135, 2, none⟩) (Kd.R_far (p := ⟨gb135, 1, none⟩) (Kd.R_far (p := ⟨gb135, 0, none⟩) (Kd.R_types HO126.out BK135.out (by decide)) (fun _ hk => hk.2) (.int .i64 t129)) (fun _ hk => hk.2) (.int .i64 t130)) (fun _ hk => hk.2) (.slice Ao46 t131.length co46)) (fun _ h_ => h_.1))))); (case side2 => exact (Kd.R_reads' HO126.out).2.1); (case side3 => refine (Kd.R_reads' (e := 3) (base := w.heap.size) (ok := fun k_ => ((True ∧ some k_ ≠ (.slice Ao34 t116.length co34 : Value).ownBlock) ∧ some k_ ≠ (.slice Ao39 t124.length co39 : Value).ownBlock)) (n := t131.length) (c := co46) ?_).2.2; exact (pR ((Kd.R_mono (Kd.R_far (p := ⟨gb135, 2, none⟩) (Kd.R_far (p := ⟨gb135, 1, none⟩) (Kd.R_far (p := ⟨gb135, 0, none⟩) (Kd.R_types HO133.out BK135.out (by decide)) (fun _ hk => hk.2) (.int .i64 t129)) (fun _ hk => hk.2) (.int .i64 t130)) (fun _ hk => hk.2) (.slice Ao46 t131.length co46)) (fun _ h_ => h_.1))))); (case side4 => exact (Kd.R_reads' HO133.out).2.1); rintro e w54 ⟨rfl, hb⟩; have n0_ := aK (Kd.Q_below (by (with_reducible repeat (first | apply Kd.Q_alloc | apply Kd.Q_drewN | apply Kd.Q_drew)); exact (Kd.Q_mono (Kd.Q_far (p := ⟨gb135, 2, none⟩) (Kd.Q_far (p := ⟨gb135, 1, none⟩) (Kd.Q_far (p := ⟨gb135, 0, none⟩) (Kd.Q_types HO118.out BK135.out (by decide)) (fun _ hk => hk.2) (.int .i64 t129)) (fun _ hk => hk.2) (.int .i64 t130)) (fun _ hk => hk.2) (.slice Ao46 t131.length co46)) (fun _ h_ => h_.1))) hb); have n1_ := aK (Kd.R_below (pR ((Kd.R_mono (Kd.R_far (p := ⟨gb135, 2, none⟩) (Kd.R_far (p := ⟨gb135, 1, none⟩) (Kd.R_far (p := ⟨gb135, 0, none⟩) (Kd.R_types HO126.out BK135.out (by decide)) (fun _ hk => hk.2) (.int .i64 t129)) (fun _ hk => hk.2) (.int .i64 t130)) (fun _ hk => hk.2) (.slice Ao46 t131.length co46)) (fun _ h_ => h_.1)))) hb); have n2_ := aK (Kd.R_below (pR ((Kd.R_mono (Kd.R_far (p := ⟨gb135, 2, none⟩) (Kd.R_far (p := ⟨gb135, 1, none⟩) (Kd.R_far (p := ⟨gb135, 0, none⟩) (Kd.R_types HO133.out BK135.out (by decide)) (fun _ hk => hk.2) (.int .i64 t129)) (fun _ hk => hk.2) (.int .i64 t130)) (fun _ hk => hk.2) (.slice Ao46 t131.length co46)) (fun _ h_ => h_.1)))) hb); have n3_ := aK (blk_below (g := gb121) (o := .cells #[.int .i64 t114, .int .i64 t115, .slice Ao34 t116.length co34] 42 (0, 0)) (by (with_reducible repeat (first | refine blk_drewN ?_ _ | refine blk_drew ?_ | refine blk_alloc ?_ _)); refine blk_far ?_ NB121_135.out _; (with_reducible repeat (first | refine blk_drewN ?_ _ | refine blk_drew ?_ | refine blk_alloc ?_ _)); refine blk_far ?_ NB121_135.out _; (with_reducible repeat (first | refine blk_drewN ?_ _ | refine blk_drew ?_ | refine blk_alloc ?_ _)); refine blk_far ?_ NB121_135.out _; (with_reducible repeat (first | refine blk_drewN ?_ _ | refine blk_drew ?_ | refine blk_alloc ?_ _)); exact BK121.out) hb); have n4_ := aK (blk_below (g := gb128) (o := .cells #[.int .i64 t122, .int .i64 t123, .slice Ao39 t124.length co39] 42 (0, 0)) (by (with_reducible repeat (first | refine blk_drewN ?_ _ | refine blk_drew ?_ | refine blk_alloc ?_ _)); refine blk_far ?_ NB128_135.out _; (with_reducible repeat (first | refine blk_drewN ?_ _ | refine blk_drew ?_ | refine blk_alloc ?_ _)); refine blk_far ?_ NB128_135.out _; (with_reducible repeat (first | refine blk_drewN ?_ _ | refine blk_drew ?_ | refine blk_alloc ?_ _)); refine blk_far ?_ NB128_135.out _; (with_reducible repeat (first | refine blk_drewN ?_ _ | refine blk_drew ?_ | refine blk_alloc ?_ _)); exact BK128.out) hb); have n5_ := aK (blk_below (g := gb135) (o := .cells #[.int .i64 t129, .int .i64 t130, .slice Ao46 t131.length co46] 42 (0, 0)) (by (with_reducible repeat (first | refine blk_drewN ?_ _ | refine blk_drew ?_ | refine blk_alloc ?_ _)); refine blk_put (cs := #[.int .i64 t129, .int .i64 t130, .slice none 0 0]) ?_ 2 _ rfl; (with_reducible repeat (first | refine blk_drewN ?_ _ | refine blk_drew ?_ | refine blk_alloc ?_ _)); refine blk_put (cs := #[.int .i64 t129, .int .i64 0, .slice none 0 0]) ?_ 1 _ rfl; (with_reducible repeat (first | refine blk_drewN ?_ _ | refine blk_drew ?_ | refine blk_alloc ?_ _)); refine blk_put (cs := #[.int .i64 0, .int .i64 0, .slice none 0 0]) ?_ 0 _ rfl; (with_reducible repeat (first | refine blk_drewN ?_ _ | refine blk_drew ?_ | refine blk_alloc ?_ _)); exact BK135.out) hb); replace HB := bS HB hb; clear HO118 HO126 HO133 BK121 BK128 BK135; have HO118 := n0_; have HO126 := n1_; have HO133 := n2_; have BK121 := n3_; have BK128 := n4_; have BK135 := n5_; clear n0_ n1_ n2_ n3_ n4_ n5_; (try clear hb); (try clear hb2); (try clear hk); (try clear hi))))
         go_meet
         case rel => exact ⟨_, (!t136), (by first | rfl | (simp; done) | (simp [*]; done)), H', ⟨by have := HJ6.out; have := HJ11.out; first | omega | exact Nat.le_refl _⟩, ⟨by (with_reducible repeat (first | apply Kd.Q_alloc | apply Kd.Q_drewN | apply Kd.Q_drew)); exact Kd.Q_mono HO118.out (fun _ hk => hk.1.2)⟩, ⟨Kd.Q_of_R (pR (Kd.R_mono HO126.out (fun _ hk => hk.1.2)))⟩, ⟨by (with_reducible repeat (first | refine blk_drewN ?_ _ | refine blk_drew ?_ | refine blk_alloc ?_ _)); exact BK121.out⟩, ⟨by (with_reducible repeat (first | refine blk_drewN ?_ _ | refine blk_drew ?_ | refine blk_alloc ?_ _)); exact BK128.out⟩, ⟨by repeat (first | (with_reducible first | exact HB.out | apply below_alloc | apply pw_below_drewN | apply below_drew1 | refine below_set ?_ GE121.out | refine below_set ?_ GE128.out) | exact HB.out)⟩⟩
       case rest =>
        clear HC30
        try clear c1
        try clear c2
        try clear p2
        try clear c3
        try clear c4
        try clear c5
        try clear p6
        try clear c10
        try clear c10b0
        try clear c10b1
        try clear c11
        try clear c12
        try clear c13
        try clear c14
        try clear c14b0
        try clear c16
        try clear c20
        try clear c20b0
        try clear c20b1
        try clear c21
        try clear c22
        try clear c22b0
        try clear c22b1
        try clear c37
        try clear c43
        try clear c44
        try clear c47
        try clear c47b0
        try clear c47b1
        try clear c47b2
        try clear c49
        try clear c50
        try clear c52
        try clear hcz33_0
        try clear hcz33_1
        try clear hcz33_2
        try clear hcz38_0
        try clear hcz38_1
        try clear hcz38_2
        try clear hcz40_0
        try clear hcz40_1
        try clear hcz40_2
        try clear hcz45_0
        try clear hcz45_1
        try clear hcz45_2
        try clear hcz51_0
        try clear hcz51_1
        try clear hcz51_2
        try clear hcz53_0
        try clear hcz53_1
        try clear hcz53_2
        try clear hfz33_0
        try clear hfz33_1
        try clear hfz33_2
        try clear hfz38_0
        try clear hfz38_1
        try clear hfz38_2
        try clear hfz40_0
        try clear hfz40_1
        try clear hfz40_2
        try clear hfz45_0
        try clear hfz45_1
        try clear hfz45_2
        try clear hfz51_0
        try clear hfz51_1
        try clear hfz51_2
        try clear hfz53_0
        try clear hfz53_1
        try clear hfz53_2
        try clear p2
        try clear p6
        obtain ⟨kq, x127_29, rfl, HA, HJ29, HO_122002, HO_129002, BK121, BK128, HB⟩ := hcut
        cases kq with
        | zero => exact absurd HA.out (by simp [laws_FnNearest.j3])
        | succ kj29 =>
         have H := HA.out
         clear HA
         simp only [laws_FnNearest.j3] at H
         by_cases c55 : x127_29 = true
         ·
          subst c55
          have H1 : (some false) = some r := by rw [if_pos rfl] at H; exact H
          clear H
          have H := H1
          clear H1
          obtain rfl := Option.some.inj H
          go_wp2
          repeat (go_quiet (fail); try go_wp2)
          go_ret
          exact ⟨by first | rfl | (simp [errW_none, errW_some] <;> rfl) | (simp [*, errW_none, errW_some] <;> rfl), by repeat (first | (with_reducible first | exact HB.out | apply below_alloc | apply pw_below_drewN | apply below_drew1) | exact HB.out)⟩
         ·
          replace c55 := Bool.eq_false_iff.mpr c55
          subst c55
          have H1 : (if t127 = true then ((impl_RegridNearest.f kj29 t114 t115 t116 t114 t115).bind fun bt137 => (laws_FnNearest.l1 kj29 bt137.2.2.2 0 t114 t115 t116 t122 t123 t124 bt137.1 bt137.2.1 bt137.2.2.1)) else (some true)) = some r := by rw [if_neg (show ¬ (false = true) by decide)] at H; exact H
          clear H
          have H := H1
          clear H1
          by_cases c56 : t127 = true
          ·
           subst c56
           have H1 : ((impl_RegridNearest.f kj29 t114 t115 t116 t114 t115).bind fun bt137 => (laws_FnNearest.l1 kj29 bt137.2.2.2 0 t114 t115 t116 t122 t123 t124 bt137.1 bt137.2.1 bt137.2.2.1)) = some r := by rw [if_pos rfl] at H; exact H
           clear H
           have H := H1
           clear H1
           replace H := Option.bind_eq_some_iff.mp H
           obtain ⟨⟨t137, t138, t139, t142⟩, A570, H⟩ := H
           replace H : (laws_FnNearest.l1 kj29 t142 0 t114 t115 t116 t122 t123 t124 t137 t138 t139) = some r := H
           have A57 := Aside0.mk A570
           clear A570
           have H' := Aside0.mk H
           clear H
           have hnb58 := NB121_128.out
           have hnc58 := NB128_121.out
           have hcz59_0 : wc.cell? ⟨gb121, 0, none⟩ = some (.int .i64 t114) := (blk_cell BK121.out 0).trans rfl
           have hcz59_1 : wc.cell? ⟨gb121, 1, none⟩ = some (.int .i64 t115) := (blk_cell BK121.out 1).trans rfl
           have hcz59_2 : wc.cell? ⟨gb121, 2, none⟩ = some (.slice Ao34 t116.length co34) := (blk_cell BK121.out 2).trans rfl
           have hfz59_0 := blk_frozen BK121.out 0
           have hfz59_1 := blk_frozen BK121.out 1
           have hfz59_2 := blk_frozen BK121.out 2
           go_wp2_with (first | (go_at_call 70; (with_reducible refine (impl_RegridNearest.calls kj29 t114 t115 _ _ t116 t114 t115 t137 t138 t139 t142 _ ?side1 ?side2 A57.out).mono ?_); (case side1 => repeat (first | exact (Kd.Q_reads' HO_122002.out).2.2 | (with_reducible refine Kd.C_alloc ?_ _) | (with_reducible refine Kd.C_drewN ?_ _) | (with_reducible refine Kd.C_drew ?_))); (case side2 => exact (Kd.Q_reads' HO_122002.out).2.1); rintro e w60 ⟨v140, rfl, ho0, hb⟩; have n0_ := aK (Kd.Q_elder' (by (with_reducible repeat (first | apply Kd.Q_alloc | apply Kd.Q_drewN | apply Kd.Q_drew)); exact HO_122002.out) (Kd.R_base ho0) hb); have n1_ := aK (Kd.Q_elder' (by (with_reducible repeat (first | apply Kd.Q_alloc | apply Kd.Q_drewN | apply Kd.Q_drew)); exact HO_129002.out) (Kd.R_base ho0) hb); have HO141 := aK (Kd.R_lower (Kd.R_new' (Kd.R_new' ho0 (Kd.Q_lt (by (with_reducible repeat (first | apply Kd.Q_alloc | apply Kd.Q_drewN | apply Kd.Q_drew)); exact HO_122002.out))) (Kd.Q_lt (by (with_reducible repeat (first | apply Kd.Q_alloc | apply Kd.Q_drewN | apply Kd.Q_drew)); exact HO_129002.out))) (below_size (pS HB.out))); replace BK121 := bB BK121 hb; replace BK128 := bB BK128 hb; replace HB := bS HB hb; clear HO_122002 HO_129002; have HO_122002 := n0_; have HO_129002 := n1_; clear n0_ n1_; (try clear hb); (try clear hb2); (try clear hk); (try clear hi); (try clear ho0)) | ((with_reducible refine gate_dst (N := 24) rfl ?_); refine box_event ?hg (N := 24) ?hd (cs := #[.int .i64 0, .int .i64 0, .slice none 0 0]) (t := 42) ?hr ?_; (case hd => rfl); (case hg => rfl); (case hr => first | (go_simp; done) | (go_simp; rfl)); intro gb143 hg w61 hbox hb; have n0_ := aK (Kd.Q_below (by (with_reducible repeat (first | apply Kd.Q_alloc | apply Kd.Q_drewN | apply Kd.Q_drew)); exact HO_122002.out) hb); have n1_ := aK (Kd.Q_below (by (with_reducible repeat (first | apply Kd.Q_alloc | apply Kd.Q_drewN | apply Kd.Q_drew)); exact HO_129002.out) hb); have n2_ := aK (Kd.R_below (pR HO141.out) hb); have BK143 := aK (hbox); have GW143 := aK (gE hg (pS HB.out)); have GE143 := aK (gE hg (pS HB.out)); have NB121_143 := aK (nL hg (pB BK121.out)); have NB143_121 := aK (nG hg (pB BK121.out)); have NB128_143 := aK (nL hg (pB BK128.out)); have NB143_128 := aK (nG hg (pB BK128.out)); replace BK121 := bB BK121 hb; replace BK128 := bB BK128 hb; replace HB := bS HB hb; clear HO_122002 HO_129002 HO141; have HO_122002 := n0_; have HO_129002 := n1_; have HO141 := n2_; clear n0_ n1_ n2_ hb hbox hg; have hnb62 := NB143_121.out; have hnc62 := NB121_143.out; have hnb63 := NB143_128.out; have hnc63 := NB128_143.out; have hcz64_0 : w61.cell? ⟨gb143, 0, none⟩ = some (.int .i64 0) := (blk_cell BK143.out 0).trans rfl; have hcz64_1 : w61.cell? ⟨gb143, 1, none⟩ = some (.int .i64 0) := (blk_cell BK143.out 1).trans rfl; have hcz64_2 : w61.cell? ⟨gb143, 2, none⟩ = some (.slice none 0 0) := (blk_cell BK143.out 2).trans rfl; have hfz64_0 := blk_frozen BK143.out 0; have hfz64_1 := blk_frozen BK143.out 1; have hfz64_2 := blk_frozen BK143.out 2; obtain ⟨Ao65, co65, eo65⟩ := Kd.R_slice HO141.out; subst eo65))
           repeat (go_quiet (first | (go_at_call 70; (with_reducible refine (impl_RegridNearest.calls kj29 t114 t115 _ _ t116 t114 t115 t137 t138 t139 t142 _ ?side1 ?side2 A57.out).mono ?_); (case side1 => repeat (first | exact (Kd.Q_reads' HO_122002.out).2.2 | (with_reducible refine Kd.C_alloc ?_ _) | (with_reducible refine Kd.C_drewN ?_ _) | (with_reducible refine Kd.C_drew ?_))); (case side2 => exact (Kd.Q_reads' HO_122002.out).2.1); rintro e w60 ⟨v140, rfl, ho0, hb⟩; have n0_ := aK (Kd.Q_elder' (by (with_reducible repeat (first | apply Kd.Q_alloc | apply Kd.Q_drewN | apply Kd.Q_drew)); exact HO_122002.out) (Kd.R_base ho0) hb); have n1_ := aK (Kd.Q_elder' (by (with_reducible repeat (first | apply Kd.Q_alloc | apply Kd.Q_drewN | apply Kd.Q_drew)); exact HO_129002.out) (Kd.R_base ho0) hb); have HO141 := aK (Kd.R_lower (Kd.R_new' (Kd.R_new' ho0 (Kd.Q_lt (by (with_reducible repeat (first | apply Kd.Q_alloc | apply Kd.Q_drewN | apply Kd.Q_drew)); exact HO_122002.out))) (Kd.Q_lt (by (with_reducible repeat (first | apply Kd.Q_alloc | apply Kd.Q_drewN | apply Kd.Q_drew)); exact HO_129002.out))) (below_size (pS HB.out))); replace BK121 := bB BK121 hb; replace BK128 := bB BK128 hb; replace HB := bS HB hb; clear HO_122002 HO_129002; have HO_122002 := n0_; have HO_129002 := n1_; clear n0_ n1_; (try clear hb); (try clear hb2); (try clear hk); (try clear hi); (try clear ho0)) | ((with_reducible refine gate_dst (N := 24) rfl ?_); refine box_event ?hg (N := 24) ?hd (cs := #[.int .i64 0, .int .i64 0, .slice none 0 0]) (t := 42) ?hr ?_; (case hd => rfl); (case hg => rfl); (case hr => first | (go_simp; done) | (go_simp; rfl)); intro gb143 hg w61 hbox hb; have n0_ := aK (Kd.Q_below (by (with_reducible repeat (first | apply Kd.Q_alloc | apply Kd.Q_drewN | apply Kd.Q_drew)); exact HO_122002.out) hb); have n1_ := aK (Kd.Q_below (by (with_reducible repeat (first | apply Kd.Q_alloc | apply Kd.Q_drewN | apply Kd.Q_drew)); exact HO_129002.out) hb); have n2_ := aK (Kd.R_below (pR HO141.out) hb); have BK143 := aK (hbox); have GW143 := aK (gE hg (pS HB.out)); have GE143 := aK (gE hg (pS HB.out)); have NB121_143 := aK (nL hg (pB BK121.out)); have NB143_121 := aK (nG hg (pB BK121.out)); have NB128_143 := aK (nL hg (pB BK128.out)); have NB143_128 := aK (nG hg (pB BK128.out)); replace BK121 := bB BK121 hb; replace BK128 := bB BK128 hb; replace HB := bS HB hb; clear HO_122002 HO_129002 HO141; have HO_122002 := n0_; have HO_129002 := n1_; have HO141 := n2_; clear n0_ n1_ n2_ hb hbox hg; have hnb62 := NB143_121.out; have hnc62 := NB121_143.out; have hnb63 := NB143_128.out; have hnc63 := NB128_143.out; have hcz64_0 : w61.cell? ⟨gb143, 0, none⟩ = some (.int .i64 0) := (blk_cell BK143.out 0).trans rfl; have hcz64_1 : w61.cell? ⟨gb143, 1, none⟩ = some (.int .i64 0) := (blk_cell BK143.out 1).trans rfl; have hcz64_2 : w61.cell? ⟨gb143, 2, none⟩ = some (.slice none 0 0) := (blk_cell BK143.out 2).trans rfl; have hfz64_0 := blk_frozen BK143.out 0; have hfz64_1 := blk_frozen BK143.out 1; have hfz64_2 := blk_frozen BK143.out 2; obtain ⟨Ao65, co65, eo65⟩ := Kd.R_slice HO141.out; subst eo65)); try go_wp2_with (first | (go_at_call 70; (with_reducible refine (impl_RegridNearest.calls kj29 t114 t115 _ _ t116 t114 t115 t137 t138 t139 t142 _ ?side1 ?side2 A57.out).mono ?_); (case side1 => repeat (first | exact (Kd.Q_reads' HO_122002.out).2.2 | (with_reducible refine Kd.C_alloc ?_ _) | (with_reducible refine Kd.C_drewN ?_ _) | (with_reducible refine Kd.C_drew ?_))); (case side2 => exact (Kd.Q_reads' HO_122002.out).2.1); rintro e w60 ⟨v140, rfl, ho0, hb⟩; have n0_ := aK (Kd.Q_elder' (by (with_reducible repeat (first | apply Kd.Q_alloc | apply Kd.Q_drewN | apply Kd.Q_drew)); exact HO_122002.out) (Kd.R_base ho0) hb); have n1_ := aK (Kd.Q_elder' (by (with_reducible repeat (first | apply Kd.Q_alloc | apply Kd.Q_drewN | apply Kd.Q_drew)); exact HO_129002.out) (Kd.R_base ho0) hb); have HO141 := aK (Kd.R_lower (Kd.R_new' (Kd.R_new' ho0 (Kd.Q_lt (by (with_reducible repeat (first | apply Kd.Q_alloc | apply Kd.Q_drewN | apply Kd.Q_drew)); exact HO_122002.out))) (Kd.Q_lt (by (with_reducible repeat (first | apply Kd.Q_alloc | apply Kd.Q_drewN | apply Kd.Q_drew)); exact HO_129002.out))) (below_size (pS HB.out))); replace BK121 := bB BK121 hb; replace BK128 := bB BK128 hb; replace HB := bS HB hb; clear HO_122002 HO_129002; have HO_122002 := n0_; have HO_129002 := n1_; clear n0_ n1_; (try clear hb); (try clear hb2); (try clear hk); (try clear hi); (try clear ho0)) | ((with_reducible refine gate_dst (N := 24) rfl ?_); refine box_event ?hg (N := 24) ?hd (cs := #[.int .i64 0, .int .i64 0, .slice none 0 0]) (t := 42) ?hr ?_; (case hd => rfl); (case hg => rfl); (case hr => first | (go_simp; done) | (go_simp; rfl)); intro gb143 hg w61 hbox hb; have n0_ := aK (Kd.Q_below (by (with_reducible repeat (first | apply Kd.Q_alloc | apply Kd.Q_drewN | apply Kd.Q_drew)); exact HO_122002.out) hb); have n1_ := aK (Kd.Q_below (by (with_reducible repeat (first | apply Kd.Q_alloc | apply Kd.Q_drewN | apply Kd.Q_drew)); exact HO_129002.out) hb); have n2_ := aK (Kd.R_below (pR HO141.out) hb); have BK143 := aK (hbox); have GW143 := aK (gE hg (pS HB.out)); have GE143 := aK (gE hg (pS HB.out)); have NB121_143 := aK (nL hg (pB BK121.out)); have NB143_121 := aK (nG hg (pB BK121.out)); have NB128_143 := aK (nL hg (pB BK128.out)); have NB143_128 := aK (nG hg (pB BK128.out)); replace BK121 := bB BK121 hb; replace BK128 := bB BK128 hb; replace HB := bS HB hb; clear HO_122002 HO_129002 HO141; have HO_122002 := n0_; have HO_129002 := n1_; have HO141 := n2_; clear n0_ n1_ n2_ hb hbox hg; have hnb62 := NB143_121.out; have hnc62 := NB121_143.out; have hnb63 := NB143_128.out; have hnc63 := NB128_143.out; have hcz64_0 : w61.cell? ⟨gb143, 0, none⟩ = some (.int .i64 0) := (blk_cell BK143.out 0).trans rfl; have hcz64_1 : w61.cell? ⟨gb143, 1, none⟩ = some (.int .i64 0) := (blk_cell BK143.out 1).trans rfl; have hcz64_2 : w61.cell? ⟨gb143, 2, none⟩ = some (.slice none 0 0) := (blk_cell BK143.out 2).trans rfl; have hfz64_0 := blk_frozen BK143.out 0; have hfz64_1 := blk_frozen BK143.out 1; have hfz64_2 := blk_frozen BK143.out 2; obtain ⟨Ao65, co65, eo65⟩ := Kd.R_slice HO141.out; subst eo65)))
           go_loopg [26] kj29 (fun kq v26 w' => ∃ (x26_4 : Int), v26 = .int .i64 x26_4 ∧ Aside0 (laws_FnNearest.l1 kq t142 x26_4 t114 t115 t116 t122 t123 t124 t137 t138 t139 = some r) ∧ Aside0 (kq ≤ kj29) ∧ Aside0 (Kd.Q (Kd.int .i64) 3 w' w.heap.size (fun k_ => some k_ ≠ ((.slice Ao39 t124.length co39) : Value).ownBlock ∧ some k_ ≠ ((.slice Ao65 t139.length co65) : Value).ownBlock) (.slice Ao34 t116.length co34) t116) ∧ Aside0 (Kd.Q (Kd.int .i64) 3 w' w.heap.size (fun k_ => some k_ ≠ ((.slice Ao34 t116.length co34) : Value).ownBlock ∧ some k_ ≠ ((.slice Ao65 t139.length co65) : Value).ownBlock) (.slice Ao39 t124.length co39) t124) ∧ Aside0 (Kd.Q (Kd.int .i64) 3 w' w.heap.size (fun k_ => some k_ ≠ ((.slice Ao34 t116.length co34) : Value).ownBlock ∧ some k_ ≠ ((.slice Ao39 t124.length co39) : Value).ownBlock) (.slice Ao65 t139.length co65) t139) ∧ Aside0 (w'.heap[gb121]? = some (.cells #[.int .i64 t114, .int .i64 t115, (.slice Ao34 t116.length co34)] 42 (0, 0))) ∧ Aside0 (w'.heap[gb128]? = some (.cells #[.int .i64 t122, .int .i64 t123, (.slice Ao39 t124.length co39)] 42 (0, 0))) ∧ Aside0 (w'.heap[gb143]? = some (.cells #[.int .i64 t137, .int .i64 t138, (.slice Ao65 t139.length co65)] 42 (0, 0))) ∧ Aside0 (Below w.heap.size w w'))
           case atStart => exact ⟨(0), (by first | rfl | (simp; done) | (simp [*]; done)), H', ⟨Nat.le_refl _⟩, ⟨by (with_reducible repeat (first | apply Kd.Q_alloc | apply Kd.Q_drewN | apply Kd.Q_drew)); exact Kd.Q_mono (Kd.Q_far (p := ⟨gb143, 2, none⟩) (Kd.Q_far (p := ⟨gb143, 1, none⟩) (Kd.Q_far (p := ⟨gb143, 0, none⟩) (Kd.Q_types HO_122002.out BK143.out (by decide)) (fun _ hk => hk.2) (.int .i64 t137)) (fun _ hk => hk.2) (.int .i64 t138)) (fun _ hk => hk.2) (.slice Ao65 t139.length co65)) (fun _ hk => ⟨hk.1.1, hk.1.2⟩)⟩, ⟨by (with_reducible repeat (first | apply Kd.Q_alloc | apply Kd.Q_drewN | apply Kd.Q_drew)); exact Kd.Q_mono (Kd.Q_far (p := ⟨gb143, 2, none⟩) (Kd.Q_far (p := ⟨gb143, 1, none⟩) (Kd.Q_far (p := ⟨gb143, 0, none⟩) (Kd.Q_types HO_129002.out BK143.out (by decide)) (fun _ hk => hk.2) (.int .i64 t137)) (fun _ hk => hk.2) (.int .i64 t138)) (fun _ hk => hk.2) (.slice Ao65 t139.length co65)) (fun _ hk => ⟨hk.1.1, hk.1.2⟩)⟩, ⟨Kd.Q_of_R (pR (Kd.R_mono (Kd.R_far (p := ⟨gb143, 2, none⟩) (Kd.R_far (p := ⟨gb143, 1, none⟩) (Kd.R_far (p := ⟨gb143, 0, none⟩) (Kd.R_types HO141.out BK143.out (by decide)) (fun _ hk => hk.2) (.int .i64 t137)) (fun _ hk => hk.2) (.int .i64 t138)) (fun _ hk => hk.2) (.slice Ao65 t139.length co65)) (fun _ hk => ⟨hk.1.1.2, hk.1.2⟩)))⟩, ⟨by (with_reducible repeat (first | refine blk_drewN ?_ _ | refine blk_drew ?_ | refine blk_alloc ?_ _)); refine blk_far ?_ NB121_143.out _; (with_reducible repeat (first | refine blk_drewN ?_ _ | refine blk_drew ?_ | refine blk_alloc ?_ _)); refine blk_far ?_ NB121_143.out _; (with_reducible repeat (first | refine blk_drewN ?_ _ | refine blk_drew ?_ | refine blk_alloc ?_ _)); refine blk_far ?_ NB121_143.out _; (with_reducible repeat (first | refine blk_drewN ?_ _ | refine blk_drew ?_ | refine blk_alloc ?_ _)); exact BK121.out⟩, ⟨by (with_reducible repeat (first | refine blk_drewN ?_ _ | refine blk_drew ?_ | refine blk_alloc ?_ _)); refine blk_far ?_ NB128_143.out _; (with_reducible repeat (first | refine blk_drewN ?_ _ | refine blk_drew ?_ | refine blk_alloc ?_ _)); refine blk_far ?_ NB128_143.out _; (with_reducible repeat (first | refine blk_drewN ?_ _ | refine blk_drew ?_ | refine blk_alloc ?_ _)); refine blk_far ?_ NB128_143.out _; (with_reducible repeat (first | refine blk_drewN ?_ _ | refine blk_drew ?_ | refine blk_alloc ?_ _)); exact BK128.out⟩, ⟨by (with_reducible repeat (first | refine blk_drewN ?_ _ | refine blk_drew ?_ | refine blk_alloc ?_ _)); refine blk_put (cs := #[.int .i64 t137, .int .i64 t138, .slice none 0 0]) ?_ 2 _ rfl; (with_reducible repeat (first | refine blk_drewN ?_ _ | refine blk_drew ?_ | refine blk_alloc ?_ _)); refine blk_put (cs := #[.int .i64 t137, .int .i64 0, .slice none 0 0]) ?_ 1 _ rfl; (with_reducible repeat (first | refine blk_drewN ?_ _ | refine blk_drew ?_ | refine blk_alloc ?_ _)); refine blk_put (cs := #[.int .i64 0, .int .i64 0, .slice none 0 0]) ?_ 0 _ rfl; (with_reducible repeat (first | refine blk_drewN ?_ _ | refine blk_drew ?_ | refine blk_alloc ?_ _)); exact BK143.out⟩, ⟨by repeat (first | (with_reducible first | exact HB.out | apply below_alloc | apply pw_below_drewN | apply below_drew1 | refine below_set ?_ GE121.out | refine below_set ?_ GE128.out | refine below_set ?_ GE143.out) | exact HB.out)⟩⟩
           case round =>
            clear H'
            try clear c1
            try clear c2
            try clear p2
            try clear c3
            try clear c4
            try clear c5
            try clear c6
            try clear p6
            try clear c10
            try clear c10b0
            try clear c10b1
            try clear c11
            try clear c12
            try clear c13
            try clear c14
            try clear c14b0
            try clear c16
            try clear c20
            try clear c20b0
            try clear c20b1
            try clear c21
            try clear c22
            try clear c22b0
            try clear c22b1
            try clear c37
            try clear c43
            try clear c44
            try clear c47
            try clear c47b0
            try clear c47b1
            try clear c47b2
            try clear c49
            try clear c50
            try clear c52
            try clear c55
            try clear c56
            try clear c58
            try clear c62
            try clear c63
            try clear p64
            try clear hcz33_0
            try clear hcz33_1
            try clear hcz33_2
            try clear hcz38_0
            try clear hcz38_1
            try clear hcz38_2
            try clear hcz40_0
            try clear hcz40_1
            try clear hcz40_2
            try clear hcz45_0
            try clear hcz45_1
            try clear hcz45_2
            try clear hcz51_0
            try clear hcz51_1
            try clear hcz51_2
            try clear hcz53_0
            try clear hcz53_1
            try clear hcz53_2
            try clear hcz59_0
            try clear hcz59_1
            try clear hcz59_2
            try clear hcz64_0
            try clear hcz64_1
            try clear hcz64_2
            try clear hfz33_0
            try clear hfz33_1
            try clear hfz33_2
            try clear hfz38_0
            try clear hfz38_1
            try clear hfz38_2
            try clear hfz40_0
            try clear hfz40_1
            try clear hfz40_2
            try clear hfz45_0
            try clear hfz45_1
            try clear hfz45_2
            try clear hfz51_0
            try clear hfz51_1
            try clear hfz51_2
            try clear hfz53_0
            try clear hfz53_1
            try clear hfz53_2
            try clear hfz59_0
            try clear hfz59_1
            try clear hfz59_2
            try clear hfz64_0
            try clear hfz64_1
            try clear hfz64_2
            try clear p2
            try clear p6
            obtain ⟨x26_4, rfl, HA, HK4, HO_122002, HO_129002, HO_144002, BK121, BK128, BK143, HB⟩ := hrel
            cases gk with
            | zero => exact absurd HA.out (by simp [laws_FnNearest.l1])
            | succ k4 =>
             have H := HA.out
             clear HA
             simp only [laws_FnNearest.l1] at H
             by_cases c66 : x26_4 < (t124.length : Int)
             ·
              rw [if_pos c66] at H
              have c66b0 : decide (x26_4 < (t124.length : Int)) = true := decide_eq_true c66
              clear c66
              by_cases c67 : 0 ≤ x26_4
              ·
               rw [if_pos c67] at H
               have c67b0 : decide (0 ≤ x26_4) = true := decide_eq_true c67
               clear c67
               replace H := Option.bind_eq_some_iff.mp H
               obtain ⟨t145, A680, H⟩ := H
               replace H : (if t145 = true then (laws_FnNearest.l1 k4 t142 (wrap64 (x26_4 + 1)) t114 t115 t116 t122 t123 t124 t137 t138 t139) else (some false)) = some r := H
               have A68 := Aside0.mk A680
               clear A680
               by_cases c69 : t145 = true
               ·
                subst c69
                have H1 : (laws_FnNearest.l1 k4 t142 (wrap64 (x26_4 + 1)) t114 t115 t116 t122 t123 t124 t137 t138 t139) = some r := by rw [if_pos rfl] at H; exact H
                clear H
                have H := H1
                clear H1
                have H' := Aside0.mk H
                clear H
                have hnb70 := NB128_121.out
                have hnc70 := NB121_128.out
                have hnb71 := NB128_143.out
                have hnc71 := NB143_128.out
                have hcz72_0 : wr.cell? ⟨gb128, 0, none⟩ = some (.int .i64 t122) := (blk_cell BK128.out 0).trans rfl
                have hcz72_1 : wr.cell? ⟨gb128, 1, none⟩ = some (.int .i64 t123) := (blk_cell BK128.out 1).trans rfl
                have hcz72_2 : wr.cell? ⟨gb128, 2, none⟩ = some (.slice Ao39 t124.length co39) := (blk_cell BK128.out 2).trans rfl
                have hfz72_0 := blk_frozen BK128.out 0
                have hfz72_1 := blk_frozen BK128.out 1
                have hfz72_2 := blk_frozen BK128.out 2
                have hnb73 := NB121_143.out
                have hnc73 := NB143_121.out
                have hcz74_0 : wr.cell? ⟨gb121, 0, none⟩ = some (.int .i64 t114) := (blk_cell BK121.out 0).trans rfl
                have hcz74_1 : wr.cell? ⟨gb121, 1, none⟩ = some (.int .i64 t115) := (blk_cell BK121.out 1).trans rfl
                have hcz74_2 : wr.cell? ⟨gb121, 2, none⟩ = some (.slice Ao34 t116.length co34) := (blk_cell BK121.out 2).trans rfl
                have hfz74_0 := blk_frozen BK121.out 0
                have hfz74_1 := blk_frozen BK121.out 1
                have hfz74_2 := blk_frozen BK121.out 2
                have p144 : 0 ≤ (x26_4 : Int) := of_decide_eq_true (by first | (with_reducible assumption) | assumption)
                have q144 : x26_4 < (t124.length : Int) := of_decide_eq_true (by first | (with_reducible assumption) | assumption)
                obtain ⟨ad144, e144, hx144_0⟩ := Kd.at_int (Kd.Q_reads' HO_129002.out).2.2 x26_4 p144 q144
                cases e144
                replace p144 := eq_true p144
                replace q144 := eq_true q144
                go_wp2_with (first | (go_at_call 73; (with_reducible refine (laws_vHas.calls k4 _ _ t116 (rd t124 x26_4) true _ ?side1 ?side2 A68.out).mono ?_); (case side1 => repeat (first | exact (Kd.Q_reads' HO_122002.out).2.2 | (with_reducible refine Kd.C_alloc ?_ _) | (with_reducible refine Kd.C_drewN ?_ _) | (with_reducible refine Kd.C_drew ?_))); (case side2 => exact (Kd.Q_reads' HO_122002.out).2.1); rintro e w' ⟨rfl, ⟨nd, rfl⟩⟩; (try first | exact ⟨rfl, _, World.drewN_drewN _ _ _⟩ | exact ⟨rfl, _, Eq.trans (World.drewN_drewN _ _ _) (congrArg (World.drewN _) (Nat.add_assoc _ _ _))⟩)))
                repeat (go_quiet (first | (go_at_call 73; (with_reducible refine (laws_vHas.calls k4 _ _ t116 (rd t124 x26_4) true _ ?side1 ?side2 A68.out).mono ?_); (case side1 => repeat (first | exact (Kd.Q_reads' HO_122002.out).2.2 | (with_reducible refine Kd.C_alloc ?_ _) | (with_reducible refine Kd.C_drewN ?_ _) | (with_reducible refine Kd.C_drew ?_))); (case side2 => exact (Kd.Q_reads' HO_122002.out).2.1); rintro e w' ⟨rfl, ⟨nd, rfl⟩⟩; (try first | exact ⟨rfl, _, World.drewN_drewN _ _ _⟩ | exact ⟨rfl, _, Eq.trans (World.drewN_drewN _ _ _) (congrArg (World.drewN _) (Nat.add_assoc _ _ _))⟩))); try go_wp2_with (first | (go_at_call 73; (with_reducible refine (laws_vHas.calls k4 _ _ t116 (rd t124 x26_4) true _ ?side1 ?side2 A68.out).mono ?_); (case side1 => repeat (first | exact (Kd.Q_reads' HO_122002.out).2.2 | (with_reducible refine Kd.C_alloc ?_ _) | (with_reducible refine Kd.C_drewN ?_ _) | (with_reducible refine Kd.C_drew ?_))); (case side2 => exact (Kd.Q_reads' HO_122002.out).2.1); rintro e w' ⟨rfl, ⟨nd, rfl⟩⟩; (try first | exact ⟨rfl, _, World.drewN_drewN _ _ _⟩ | exact ⟨rfl, _, Eq.trans (World.drewN_drewN _ _ _) (congrArg (World.drewN _) (Nat.add_assoc _ _ _))⟩))))
                go_roundg k4
                case measure => have := HJ6.out; have := HJ11.out; have := HJ29.out; have := HK4.out; omega
                case rel => exact ⟨(wrap64 (x26_4 + 1)), (by first | rfl | (simp; done) | (simp [*]; done)), H', ⟨by have := HJ6.out; have := HJ11.out; have := HJ29.out; have := HK4.out; omega⟩, ⟨by (with_reducible repeat (first | apply Kd.Q_alloc | apply Kd.Q_drewN | apply Kd.Q_drew)); exact HO_122002.out⟩, ⟨by (with_reducible repeat (first | apply Kd.Q_alloc | apply Kd.Q_drewN | apply Kd.Q_drew)); exact HO_129002.out⟩, ⟨by (with_reducible repeat (first | apply Kd.Q_alloc | apply Kd.Q_drewN | apply Kd.Q_drew)); exact HO_144002.out⟩, ⟨by (with_reducible repeat (first | refine blk_drewN ?_ _ | refine blk_drew ?_ | refine blk_alloc ?_ _)); exact BK121.out⟩, ⟨by (with_reducible repeat (first | refine blk_drewN ?_ _ | refine blk_drew ?_ | refine blk_alloc ?_ _)); exact BK128.out⟩, ⟨by (with_reducible repeat (first | refine blk_drewN ?_ _ | refine blk_drew ?_ | refine blk_alloc ?_ _)); exact BK143.out⟩, ⟨by repeat (first | (with_reducible first | exact HB.out | apply below_alloc | apply pw_below_drewN | apply below_drew1 | refine below_set ?_ GE121.out | refine below_set ?_ GE128.out | refine below_set ?_ GE143.out) | exact HB.out)⟩⟩
               ·
                replace c69 := Bool.eq_false_iff.mpr c69
                subst c69
                have H1 : (some false) = some r := by rw [if_neg (show ¬ (false = true) by decide)] at H; exact H
                clear H
                have H := H1
                clear H1
                obtain rfl := Option.some.inj H
                have hnb75 := NB128_121.out
                have hnc75 := NB121_128.out
                have hcz76_0 : wr.cell? ⟨gb128, 0, none⟩ = some (.int .i64 t122) := (blk_cell BK128.out 0).trans rfl
                have hcz76_1 : wr.cell? ⟨gb128, 1, none⟩ = some (.int .i64 t123) := (blk_cell BK128.out 1).trans rfl
                have hcz76_2 : wr.cell? ⟨gb128, 2, none⟩ = some (.slice Ao39 t124.length co39) := (blk_cell BK128.out 2).trans rfl
                have hfz76_0 := blk_frozen BK128.out 0
                have hfz76_1 := blk_frozen BK128.out 1
                have hfz76_2 := blk_frozen BK128.out 2
                have hcz77_0 : wr.cell? ⟨gb121, 0, none⟩ = some (.int .i64 t114) := (blk_cell BK121.out 0).trans rfl
                have hcz77_1 : wr.cell? ⟨gb121, 1, none⟩ = some (.int .i64 t115) := (blk_cell BK121.out 1).trans rfl
                have hcz77_2 : wr.cell? ⟨gb121, 2, none⟩ = some (.slice Ao34 t116.length co34) := (blk_cell BK121.out 2).trans rfl
                have hfz77_0 := blk_frozen BK121.out 0
                have hfz77_1 := blk_frozen BK121.out 1
                have hfz77_2 := blk_frozen BK121.out 2
                have p144 : 0 ≤ (x26_4 : Int) := of_decide_eq_true (by first | (with_reducible assumption) | assumption)
                have q144 : x26_4 < (t124.length : Int) := of_decide_eq_true (by first | (with_reducible assumption) | assumption)
                obtain ⟨ad144, e144, hx144_0⟩ := Kd.at_int (Kd.Q_reads' HO_129002.out).2.2 x26_4 p144 q144
                cases e144
                replace p144 := eq_true p144
                replace q144 := eq_true q144
                go_wp2_with (first | (go_at_call 73; (with_reducible refine (laws_vHas.calls k4 _ _ t116 (rd t124 x26_4) false _ ?side1 ?side2 A68.out).mono ?_); (case side1 => repeat (first | exact (Kd.Q_reads' HO_122002.out).2.2 | (with_reducible refine Kd.C_alloc ?_ _) | (with_reducible refine Kd.C_drewN ?_ _) | (with_reducible refine Kd.C_drew ?_))); (case side2 => exact (Kd.Q_reads' HO_122002.out).2.1); rintro e w' ⟨rfl, ⟨nd, rfl⟩⟩; (try first | exact ⟨rfl, _, World.drewN_drewN _ _ _⟩ | exact ⟨rfl, _, Eq.trans (World.drewN_drewN _ _ _) (congrArg (World.drewN _) (Nat.add_assoc _ _ _))⟩)))
                repeat (go_quiet (first | (go_at_call 73; (with_reducible refine (laws_vHas.calls k4 _ _ t116 (rd t124 x26_4) false _ ?side1 ?side2 A68.out).mono ?_); (case side1 => repeat (first | exact (Kd.Q_reads' HO_122002.out).2.2 | (with_reducible refine Kd.C_alloc ?_ _) | (with_reducible refine Kd.C_drewN ?_ _) | (with_reducible refine Kd.C_drew ?_))); (case side2 => exact (Kd.Q_reads' HO_122002.out).2.1); rintro e w' ⟨rfl, ⟨nd, rfl⟩⟩; (try first | exact ⟨rfl, _, World.drewN_drewN _ _ _⟩ | exact ⟨rfl, _, Eq.trans (World.drewN_drewN _ _ _) (congrArg (World.drewN _) (Nat.add_assoc _ _ _))⟩))); try go_wp2_with (first | (go_at_call 73; (with_reducible refine (laws_vHas.calls k4 _ _ t116 (rd t124 x26_4) false _ ?side1 ?side2 A68.out).mono ?_); (case side1 => repeat (first | exact (Kd.Q_reads' HO_122002.out).2.2 | (with_reducible refine Kd.C_alloc ?_ _) | (with_reducible refine Kd.C_drewN ?_ _) | (with_reducible refine Kd.C_drew ?_))); (case side2 => exact (Kd.Q_reads' HO_122002.out).2.1); rintro e w' ⟨rfl, ⟨nd, rfl⟩⟩; (try first | exact ⟨rfl, _, World.drewN_drewN _ _ _⟩ | exact ⟨rfl, _, Eq.trans (World.drewN_drewN _ _ _) (congrArg (World.drewN _) (Nat.add_assoc _ _ _))⟩))))
                go_ret
                exact ⟨by first | rfl | (simp [errW_none, errW_some] <;> rfl) | (simp [*, errW_none, errW_some] <;> rfl), by repeat (first | (with_reducible first | exact HB.out | apply below_alloc | apply pw_below_drewN | apply below_drew1) | exact HB.out)⟩
              ·
               rw [if_neg c67] at H
               exact absurd H (by simp)
             ·
              rw [if_neg c66] at H
              have c66b0 : decide (x26_4 < (t124.length : Int)) = false := decide_eq_false c66
              clear c66
              by_cases c78 : t142 = true
              ·
               subst c78
               have H1 : ((laws_vField.f k4 t137 t138 t139 t114 t115 t116).bind fun t146 => (some t146)) = some r := by rw [if_pos rfl] at H; exact H
               clear H
               have H := H1
               clear H1
               replace H := Option.bind_eq_some_iff.mp H
               obtain ⟨t146, A790, H⟩ := H
               replace H : (some t146) = some r := H
               have A79 := Aside0.mk A790
               clear A790
               obtain rfl := Option.some.inj H
               have hnb80 := NB128_121.out
               have hnc80 := NB121_128.out
               have hnb81 := NB128_143.out
               have hnc81 := NB143_128.out
               have hcz82_0 : wr.cell? ⟨gb128, 0, none⟩ = some (.int .i64 t122) := (blk_cell BK128.out 0).trans rfl
               have hcz82_1 : wr.cell? ⟨gb128, 1, none⟩ = some (.int .i64 t123) := (blk_cell BK128.out 1).trans rfl
               have hcz82_2 : wr.cell? ⟨gb128, 2, none⟩ = some (.slice Ao39 t124.length co39) := (blk_cell BK128.out 2).trans rfl
               have hfz82_0 := blk_frozen BK128.out 0
               have hfz82_1 := blk_frozen BK128.out 1
               have hfz82_2 := blk_frozen BK128.out 2
               have hnb83 := NB143_121.out
               have hnc83 := NB121_143.out
               have hcz84_0 : wr.cell? ⟨gb143, 0, none⟩ = some (.int .i64 t137) := (blk_cell BK143.out 0).trans rfl
               have hcz84_1 : wr.cell? ⟨gb143, 1, none⟩ = some (.int .i64 t138) := (blk_cell BK143.out 1).trans rfl
               have hcz84_2 : wr.cell? ⟨gb143, 2, none⟩ = some (.slice Ao65 t139.length co65) := (blk_cell BK143.out 2).trans rfl
               have hfz84_0 := blk_frozen BK143.out 0
               have hfz84_1 := blk_frozen BK143.out 1
               have hfz84_2 := blk_frozen BK143.out 2
               have hcz85_0 : wr.cell? ⟨gb121, 0, none⟩ = some (.int .i64 t114) := (blk_cell BK121.out 0).trans rfl
               have hcz85_1 : wr.cell? ⟨gb121, 1, none⟩ = some (.int .i64 t115) := (blk_cell BK121.out 1).trans rfl
               have hcz85_2 : wr.cell? ⟨gb121, 2, none⟩ = some (.slice Ao34 t116.length co34) := (blk_cell BK121.out 2).trans rfl
               have hfz85_0 := blk_frozen BK121.out 0
               have hfz85_1 := blk_frozen BK121.out 1
               have hfz85_2 := blk_frozen BK121.out 2
               go_wp2_with (first | (go_at_call 72; (with_reducible refine (laws_vField.calls k4 t137 t138 _ _ t139 t114 t115 _ _ t116 t146 _ ?side1 ?side2 ?side3 ?side4 A79.out).mono ?_); (case side1 => repeat (first | exact (Kd.Q_reads' HO_144002.out).2.2 | (with_reducible refine Kd.C_alloc ?_ _) | (with_reducible refine Kd.C_drewN ?_ _) | (with_reducible refine Kd.C_drew ?_))); (case side2 => exact (Kd.Q_reads' HO_144002.out).2.1); (case side3 => repeat (first | exact (Kd.Q_reads' HO_122002.out).2.2 | (with_reducible refine Kd.C_alloc ?_ _) | (with_reducible refine Kd.C_drewN ?_ _) | (with_reducible refine Kd.C_drew ?_))); (case side4 => exact (Kd.Q_reads' HO_122002.out).2.1); rintro e w86 ⟨rfl, hb⟩; have n0_ := aK (Kd.Q_below (by (with_reducible repeat (first | apply Kd.Q_alloc | apply Kd.Q_drewN | apply Kd.Q_drew)); exact HO_122002.out) hb); have n1_ := aK (Kd.Q_below (by (with_reducible repeat (first | apply Kd.Q_alloc | apply Kd.Q_drewN | apply Kd.Q_drew)); exact HO_129002.out) hb); have n2_ := aK (Kd.Q_below (by (with_reducible repeat (first | apply Kd.Q_alloc | apply Kd.Q_drewN | apply Kd.Q_drew)); exact HO_144002.out) hb); replace HB := bS HB hb; clear HO_122002 HO_129002 HO_144002; have HO_122002 := n0_; have HO_129002 := n1_; have HO_144002 := n2_; clear n0_ n1_ n2_; (try clear hb); (try clear hb2); (try clear hk); (try clear hi)))
               repeat (go_quiet (first | (go_at_call 72; (with_reducible refine (laws_vField.calls k4 t137 t138 _ _ t139 t114 t115 _ _ t116 t146 _ ?side1 ?side2 ?side3 ?side4 A79.out).mono ?_); (case side1 => repeat (first | exact (Kd.Q_reads' HO_144002.out).2.2 | (with_reducible refine Kd.C_alloc ?_ _) | (with_reducible refine Kd.C_drewN ?_ _) | (with_reducible refine Kd.C_drew ?_))); (case side2 => exact (Kd.Q_reads' HO_144002.out).2.1); (case side3 => repeat (first | exact (Kd.Q_reads' HO_122002.out).2.2 | (with_reducible refine Kd.C_alloc ?_ _) | (with_reducible refine Kd.C_drewN ?_ _) | (with_reducible refine Kd.C_drew ?_))); (case side4 => exact (Kd.Q_reads' HO_122002.out).2.1); rintro e w86 ⟨rfl, hb⟩; have n0_ := aK (Kd.Q_below (by (with_reducible repeat (first | apply Kd.Q_alloc | apply Kd.Q_drewN | apply Kd.Q_drew)); exact HO_122002.out) hb); have n1_ := aK (Kd.Q_below (by (with_reducible repeat (first | apply Kd.Q_alloc | apply Kd.Q_drewN | apply Kd.Q_drew)); exact HO_129002.out) hb); have n2_ := aK (Kd.Q_below (by (with_reducible repeat (first | apply Kd.Q_alloc | apply Kd.Q_drewN | apply Kd.Q_drew)); exact HO_144002.out) hb); replace HB := bS HB hb; clear HO_122002 HO_129002 HO_144002; have HO_122002 := n0_; have HO_129002 := n1_; have HO_144002 := n2_; clear n0_ n1_ n2_; (try clear hb); (try clear hb2); (try clear hk); (try clear hi))); try go_wp2_with (first | (go_at_call 72; (with_reducible refine (laws_vField.calls k4 t137 t138 _ _ t139 t114 t115 _ _ t116 t146 _ ?side1 ?side2 ?side3 ?side4 A79.out).mono ?_); (case side1 => repeat (first | exact (Kd.Q_reads' HO_144002.out).2.2 | (with_reducible refine Kd.C_alloc ?_ _) | (with_reducible refine Kd.C_drewN ?_ _) | (with_reducible refine Kd.C_drew ?_))); (case side2 => exact (Kd.Q_reads' HO_144002.out).2.1); (case side3 => repeat (first | exact (Kd.Q_reads' HO_122002.out).2.2 | (with_reducible refine Kd.C_alloc ?_ _) | (with_reducible refine Kd.C_drewN ?_ _) | (with_reducible refine Kd.C_drew ?_))); (case side4 => exact (Kd.Q_reads' HO_122002.out).2.1); rintro e w86 ⟨rfl, hb⟩; have n0_ := aK (Kd.Q_below (by (with_reducible repeat (first | apply Kd.Q_alloc | apply Kd.Q_drewN | apply Kd.Q_drew)); exact HO_122002.out) hb); have n1_ := aK (Kd.Q_below (by (with_reducible repeat (first | apply Kd.Q_alloc | apply Kd.Q_drewN | apply Kd.Q_drew)); exact HO_129002.out) hb); have n2_ := aK (Kd.Q_below (by (with_reducible repeat (first | apply Kd.Q_alloc | apply Kd.Q_drewN | apply Kd.Q_drew)); exact HO_144002.out) hb); replace HB := bS HB hb; clear HO_122002 HO_129002 HO_144002; have HO_122002 := n0_; have HO_129002 := n1_; have HO_144002 := n2_; clear n0_ n1_ n2_; (try clear hb); (try clear hb2); (try clear hk); (try clear hi))))
               go_ret
               exact ⟨by first | rfl | (simp [errW_none, errW_some] <;> rfl) | (simp [*, errW_none, errW_some] <;> rfl), by repeat (first | (with_reducible first | exact HB.out | apply below_alloc | apply pw_below_drewN | apply below_drew1) | exact HB.out)⟩
              ·
               replace c78 := Bool.eq_false_iff.mpr c78
               subst c78
               have H1 : (some false) = some r := by rw [if_neg (show ¬ (false = true) by decide)] at H; exact H
               clear H
               have H := H1
               clear H1
               obtain rfl := Option.some.inj H
               have hcz87_0 : wr.cell? ⟨gb128, 0, none⟩ = some (.int .i64 t122) := (blk_cell BK128.out 0).trans rfl
               have hcz87_1 : wr.cell? ⟨gb128, 1, none⟩ = some (.int .i64 t123) := (blk_cell BK128.out 1).trans rfl
               have hcz87_2 : wr.cell? ⟨gb128, 2, none⟩ = some (.slice Ao39 t124.length co39) := (blk_cell BK128.out 2).trans rfl
               have hfz87_0 := blk_frozen BK128.out 0
               have hfz87_1 := blk_frozen BK128.out 1
               have hfz87_2 := blk_frozen BK128.out 2
               go_wp2
               repeat (go_quiet (fail); try go_wp2)
               go_ret
               exact ⟨by first | rfl | (simp [errW_none, errW_some] <;> rfl) | (simp [*, errW_none, errW_some] <;> rfl), by repeat (first | (with_reducible first | exact HB.out | apply below_alloc | apply pw_below_drewN | apply below_drew1) | exact HB.out)⟩
          ·
           replace c56 := Bool.eq_false_iff.mpr c56
           subst c56
           have H1 : (some true) = some r := by rw [if_neg (show ¬ (false = true) by decide)] at H; exact H
           clear H
           have H := H1
           clear H1
           obtain rfl := Option.some.inj H
           go_wp2
           repeat (go_quiet (fail); try go_wp2)
           go_ret
           exact ⟨by first | rfl | (simp [errW_none, errW_some] <;> rfl) | (simp [*, errW_none, errW_some] <;> rfl), by repeat (first | (with_reducible first | exact HB.out | apply below_alloc | apply pw_below_drewN | apply below_drew1) | exact HB.out)⟩

/-- The one plain statement of FnNearest. -/
def laws_FnNearest.Pure : Prop := ∀ (l0 : List Int), (l0.length ≤ 9223372036854775807 ∧ ∀ z0 ∈ l0, (Lit.int .u8 z0).wf = true) → l0.length * 1 ≤ 140737488351232 → ∃ k, laws_FnNearest.f k l0 = some true

end Go.Proofs.Ytmfgjknffmjjjaa.P
/- What a Go argument reads as, opened into a Lean value of the print's kinds: whole numbers, slices, structs of two, three and four one-cell fields. No conditions. -/
namespace Go.Proofs.Ytmfgjknffmjjjaa.Open
open Go.ChangeShapes Go.WideShapes Go.RowKit Go.Deep Go.Joins Go.Proofs.YtmfgjknffmjjjaaW.PrintWords

/-- Whatever is read as a datum of type t holds a value of kind d that meets wf. -/
def Opens {α : Type} (P : Program) (t : TypeId) (d : Kd α) (wf : α → Prop) : Prop :=
  ∀ {H : Type} {enc : TypeId × Value → H} {W : World} {fuel : Nat} {cs : List Value} {x : DataW H × List MemPlace},
    DataW.trod enc P W 0 (fun _ => true) true fuel t cs = some x → ∃ y, d.K W y cs ∧ wf y

theorem opens_int {P : Program} {t : TypeId} {k : IntKind} (h : P.underlying t = some (.int k)) : Opens P t (Kd.int k) (fun n => (Lit.int k n).wf = true) := by
  intro H enc W fuel cs x hx
  obtain ⟨n, rfl, _, hw⟩ := DataW.trod_int h hx
  exact ⟨n, rfl, hw⟩

theorem list_of {α : Type} {p : Nat → α → Prop} : ∀ (n : Nat), (∀ i, i < n → ∃ y, p i y) → ∃ ys : List α, ys.length = n ∧ ∀ (i : Nat) (y : α), ys[i]? = some y → p i y
  | 0, _ => ⟨[], rfl, fun i y h => by simp at h⟩
  | n + 1, h => by
    obtain ⟨ys, hl, hy⟩ := list_of n (fun i hi => h i (by omega))
    obtain ⟨y, hp⟩ := h n (by omega)
    refine ⟨ys ++ [y], by simp [hl], fun i z hz => ?_⟩
    by_cases hi : i < n
    · rw [List.getElem?_append_left (by omega)] at hz
      exact hy i z hz
    · have hi2 : i = n := by
        have := (List.getElem?_eq_some_iff.1 hz).1
        simp [hl] at this
        omega
      subst hi2
      rw [List.getElem?_append_right (by omega), hl] at hz
      simp at hz
      subst hz
      exact hp

theorem opens_slice {α : Type} {P : Program} {t e : TypeId} {d : Kd α} {wf : α → Prop} (h : P.underlying t = some (.slice e)) (hc : P.cellsOf e = d.sz) (he : Opens P e d wf) :
    Opens P t (Kd.slice e d) (fun l => l.length ≤ 9223372036854775807 ∧ ∀ x ∈ l, wf x) := by
  intro H enc W fuel cs x hx
  rcases open_slice h hx with ⟨rfl, _⟩ | ⟨a, len, cap, m, n, D, Pl, rfl, _, hl, hm, hmm, _, hx⟩
  · exact ⟨[], ⟨none, 0, rfl, by simp, Kd.C_nil d W⟩, by simp, by simp⟩
  · obtain ⟨ys, hlen, hy⟩ := list_of (p := fun i y => ∃ cs', W.cells? 0 (a.add (i * P.cellsOf e)) (P.cellsOf e) = some cs' ∧ d.K W y cs' ∧ wf y) len (fun i hi => by
      obtain ⟨cs', h1, h2⟩ := hx i (by rw [hmm]; split <;> omega)
      obtain ⟨y, hK, hw⟩ := he h2
      exact ⟨y, cs', h1, hK, hw⟩)
    have hm' : cap ≤ 9223372036854775807 := by simpa [maxLen] using hm
    refine ⟨ys, ⟨some a, cap, by rw [hlen], by omega, ⟨rfl, by omega, fun _ => ⟨a, rfl, fun j y hj => ?_⟩⟩⟩, by omega, fun y hmem => ?_⟩
    · obtain ⟨cs', h1, hK, _⟩ := hy j y hj
      obtain ⟨_, hl2, hcell⟩ := World.cells?_some h1
      refine ⟨cs', d.K_len hK, hK, fun i u hu => ?_⟩
      have hi : i < P.cellsOf e := by
        have := (List.getElem?_eq_some_iff.1 hu).1
        omega
      rw [← hc, ← Go.Deep.add_add, hcell i hi]
      exact hu
    · obtain ⟨j, hj⟩ := List.getElem?_of_mem hmem
      obtain ⟨_, _, _, hw⟩ := hy j y hj
      exact hw

/-- A slice of whatever elements is no longer than its weight allows. -/
theorem sized_any {H : Type} {enc : TypeId × Value → H} {P : Program} {W : World} {base : Nat} {spare : Nat → Bool} {held : Bool} {t e : TypeId} {a : Option Addr} {len cap : Nat} {d : DataW H} {ps : List MemPlace} {ts : List TypeId} {ds : List (DataW H)} {j : Nat}
    (hsz : (DataW.weightsEach P ts ds).all (· ≤ reachBytes) = true) (ht : ts[j]? = some t) (hd : ds[j]? = some d) (hu : P.underlying t = some (.slice e)) {B : Nat} (hB : P.bytesOf e = B)
    (h : DataW.Trod enc P W base spare held t (.slice a len cap) d ps) : len * B ≤ 140737488351232 := by
  obtain ⟨fuel, hf⟩ := h
  rcases open_slice hu hf with ⟨hcs, _⟩ | ⟨x, l, c, m, n, D, Pl, hcs, _, hl, _, _, hx, _⟩
  · simp [Value.cells] at hcs
    obtain ⟨rfl, rfl, rfl⟩ := hcs
    simp
  · simp [Value.cells] at hcs
    obtain ⟨rfl, rfl, rfl⟩ := hcs
    obtain ⟨hx, _⟩ := Prod.mk.inj hx
    subst hx
    have z := sized_slice hsz ht hd hu
    rw [hB] at z
    refine Nat.le_trans (Nat.mul_le_mul_right _ ?_) z
    simp

/-- A slice's value and its reading, as one. -/
theorem slice_at {α : Type} {P : Program} {W : World} {t e : TypeId} {d : Kd α} {wf : List α → Prop} {H : Type} {enc : TypeId × Value → H} {a : Option Addr} {len cap : Nat} {dd : DataW H} {ps : List MemPlace} (ho : Opens P t (Kd.slice e d) wf)
    (h : DataW.Trod enc P W 0 (fun _ => true) true t (.slice a len cap) dd ps) : ∃ l : List α, len = l.length ∧ l.length ≤ cap ∧ d.C W a l.length l ∧ wf l := by
  obtain ⟨fuel, hf⟩ := h
  obtain ⟨l, ⟨A, c, hcs, hl, hC⟩, hw⟩ := ho hf
  simp [Value.cells] at hcs
  obtain ⟨rfl, rfl, rfl⟩ := hcs
  exact ⟨l, rfl, hl, hC, hw⟩

section
variable {P : Program} {t : TypeId} {W : World} {H : Type} {enc : TypeId × Value → H} {r : Reach} {b0 : Nat} {v : Value} {d : DataW H} {p : List MemPlace}
end

end Go.Proofs.Ytmfgjknffmjjjaa.Open
namespace Go.Proofs.Ytmfgjknffmjjjaa.P
open Go.RowKit Go.Proofs.YtmfgjknffmjjjaaW.PrintWords Go.Proofs.YtmfgjknffmjjjaaW.PrintLast Go.Proofs.YtmfgjknffmjjjaaW.PrintMore
attribute [local go_sem] max2_int min2_int max_two min_two max_three min_three max_four min_four   -- for this text's walks alone
set_option linter.unusedVariables false
set_option linter.unusedSimpArgs false

open Go.Proofs.Ytmfgjknffmjjjaa.Open
end Go.Proofs.Ytmfgjknffmjjjaa.P
/- Plain words for the laws' plain proofs: rounds that end, loops over an index, lists read at an index. No conditions. -/
namespace Go.Proofs.Ytmfgjknffmjjjaa.Pure
set_option linter.unusedVariables false
set_option linter.unusedSimpArgs false
open Go.RowKit Go.Proofs.YtmfgjknffmjjjaaW.PrintWords Go.Proofs.YtmfgjknffmjjjaaW.PrintLast Go.Proofs.YtmfgjknffmjjjaaW.PrintMore

theorem w64 {x : Int} (h0 : -9223372036854775808 ≤ x) (h1 : x ≤ 9223372036854775807) : wrap64 x = x := by
  unfold wrap64
  omega
theorem w64n {n : Nat} (h : n ≤ 9223372036854775807) : wrap64 (n : Int) = (n : Int) := w64 (by omega) (by omega)
theorem rd_nat (xs : List Int) (i : Nat) : rd xs (i : Int) = xs.getD i 0 := by simp [rd]
section
variable {α β : Type} {f g : Nat → Option α} {r : α}
theorem ev_some (r : α) : Ev (fun _ => some r) r := ⟨0, fun _ _ => rfl⟩
theorem ev_ifp {c : Prop} [Decidable c] (h : c) (k : Ev f r) : Ev (fun n => if c then f n else g n) r := Ev.congr (fun _ => if_pos h) k
theorem ev_ifn {c : Prop} [Decidable c] (h : ¬ c) (k : Ev g r) : Ev (fun n => if c then f n else g n) r := Ev.congr (fun _ => if_neg h) k
theorem ev_bind {F : Nat → α → Option β} {q : β} (h : Ev g r) (k : Ev (fun n => F n r) q) : Ev (fun n => (g n).bind (fun x => F n x)) q := by
  obtain ⟨K1, h1⟩ := h
  obtain ⟨K2, h2⟩ := k
  exact ⟨K1 + K2, fun n hn => by show (g n).bind (fun x => F n x) = some q; rw [h1 n (by omega)]; exact h2 n (by omega)⟩
theorem ev_const {a : Option α} (h : a = some r) : Ev (fun _ => a) r := ⟨0, fun _ _ => h⟩
theorem ev_step (h : ∀ k, g (k + 1) = f k) (k : Ev f r) : Ev g r := by
  obtain ⟨K, h1⟩ := k
  refine ⟨K + 1, fun n hn => ?_⟩
  obtain ⟨m, rfl⟩ : ∃ m, n = m + 1 := ⟨n - 1, by omega⟩
  rw [h m]
  exact h1 m (by omega)
end

/-- A state that d rounds turn, from round i on. -/
def iter {σ : Type} (g : Nat → σ → σ) : Nat → Nat → σ → σ
  | _, 0, s => s
  | i, d + 1, s => iter g (i + 1) d (g i s)

theorem loop_ev {σ ρ : Type} (F : Nat → σ → Nat → Option ρ) (n : Nat) (g : Nat → σ → σ) (fin : σ → ρ) (I : Nat → σ → Prop)
    (hs : ∀ i s r, I i s → i < n → Ev (fun k => F k (g i s) (i + 1)) r → Ev (fun k => F k s i) r) (hI : ∀ i s, I i s → i < n → I (i + 1) (g i s))
    (he : ∀ s, I n s → Ev (fun k => F k s n) (fin s)) : ∀ i s, i ≤ n → I i s → Ev (fun k => F k s i) (fin (iter g i (n - i) s)) := by
  have key : ∀ d i s, n - i = d → i ≤ n → I i s → Ev (fun k => F k s i) (fin (iter g i d s)) := by
    intro d
    induction d with
    | zero =>
      intro i s h0 h1 h2
      obtain rfl : i = n := by omega
      exact he s h2
    | succ d ih =>
      intro i s h0 h1 h2
      exact hs i s _ h2 (by omega) (ih (i + 1) (g i s) (by omega) (by omega) (hI i s h2 (by omega)))
  exact fun i s h1 h2 => key (n - i) i s rfl h1 h2

theorem iter_inv {σ : Type} (g : Nat → σ → σ) (I : Nat → σ → Prop) (n : Nat) (hI : ∀ i s, I i s → i < n → I (i + 1) (g i s)) : ∀ d i s, i + d = n → I i s → I n (iter g i d s) := by
  intro d
  induction d with
  | zero => intro i s h0 h1; obtain rfl : i = n := by omega
            exact h1
  | succ d ih => intro i s h0 h1; exact ih (i + 1) _ (by omega) (hI i s h1 (by omega))

/-- Do all of d indices from i on say yes? -/
def rall (p : Nat → Bool) : Nat → Nat → Bool
  | _, 0 => true
  | i, d + 1 => p i && rall p (i + 1) d
theorem rall_iff (p : Nat → Bool) : ∀ d i, rall p i d = true ↔ ∀ j, i ≤ j → j < i + d → p j = true
  | 0, i => ⟨fun _ j h1 h2 => by omega, fun _ => rfl⟩
  | d + 1, i => by
    show (p i && rall p (i + 1) d) = true ↔ _
    rw [Bool.and_eq_true, rall_iff p d (i + 1)]
    constructor
    · rintro ⟨h0, h1⟩ j h2 h3
      by_cases e : j = i
      · rw [e]; exact h0
      · exact h1 j (by omega) (by omega)
    · intro h
      exact ⟨h i (Nat.le_refl _) (by omega), fun j h2 h3 => h j (by omega) (by omega)⟩
/-- A loop that ends with 'no' at the first index that fails, and with 'yes' (or what follows) behind all. -/
theorem all_ev {ρ : Type} (F : Nat → Nat → Option ρ) (n : Nat) (p : Nat → Bool) (no yes : ρ) (hs : ∀ i r, i < n → p i = true → Ev (fun k => F k (i + 1)) r → Ev (fun k => F k i) r)
    (hn : ∀ i, i < n → p i = false → Ev (fun k => F k i) no) (he : Ev (fun k => F k n) yes) :
    ∀ i, i ≤ n → Ev (fun k => F k i) (if rall p i (n - i) = true then yes else no) := by
  have key : ∀ d i, n - i = d → i ≤ n → Ev (fun k => F k i) (if rall p i d = true then yes else no) := by
    intro d
    induction d with
    | zero =>
      intro i h0 h1
      obtain rfl : i = n := by omega
      rw [show rall p i 0 = true from rfl, if_pos rfl]
      exact he
    | succ d ih =>
      intro i h0 h1
      have h := ih (i + 1) (by omega) (by omega)
      have e : rall p i (d + 1) = (p i && rall p (i + 1) d) := rfl
      cases hp : p i with
      | true =>
        rw [e, hp, Bool.true_and]
        exact hs i _ (by omega) hp h
      | false =>
        rw [e, hp, Bool.false_and, if_neg (by simp)]
        exact hn i (by omega) hp
  exact fun i h1 => key (n - i) i rfl h1
/-- The same, where the answer is a bool. -/
theorem allb_ev (F : Nat → Nat → Option Bool) (n : Nat) (p : Nat → Bool) (hs : ∀ i r, i < n → p i = true → Ev (fun k => F k (i + 1)) r → Ev (fun k => F k i) r)
    (hn : ∀ i, i < n → p i = false → Ev (fun k => F k i) false) (he : Ev (fun k => F k n) true) : Ev (fun k => F k 0) (rall p 0 n) := by
  have h := all_ev F n p false true hs hn he 0 (Nat.zero_le _)
  rw [Nat.sub_zero] at h
  cases e : rall p 0 n <;> simpa [e] using h

theorem getD_eq_get {α : Type} {xs : List α} {i : Nat} (z : α) (h : i < xs.length) : xs.getD i z = xs[i] := by simp [List.getD, List.getElem?_eq_getElem h]
theorem rall_list {α : Type} (xs : List α) (z : α) (p : α → Bool) : rall (fun j => p (xs.getD j z)) 0 xs.length = xs.all p := by
  rw [Bool.eq_iff_iff, rall_iff, List.all_eq_true]
  constructor
  · intro h x hx
    obtain ⟨i, hi, rfl⟩ := List.getElem_of_mem hx
    rw [← getD_eq_get z hi]
    exact h i (Nat.zero_le _) (by omega)
  · intro h j _ hj
    rw [getD_eq_get z (by omega)]
    exact h _ (List.getElem_mem (by omega))
theorem eq_index {α : Type} {xs ys : List α} (z : α) (h : xs.length = ys.length) (hh : ∀ j, j < xs.length → xs.getD j z = ys.getD j z) : xs = ys := by
  refine List.ext_getElem h (fun i h1 h2 => ?_)
  rw [← getD_eq_get z h1, ← getD_eq_get z h2]
  exact hh i h1
theorem iter_add {σ : Type} (g : Nat → σ → σ) : ∀ a i b s, iter g i (a + b) s = iter g (i + a) b (iter g i a s) := by
  intro a
  induction a with
  | zero => intro i b s; rw [Nat.zero_add]; rfl
  | succ a ih =>
    intro i b s
    rw [show a + 1 + b = (a + b) + 1 by omega]
    show iter g (i + 1) (a + b) (g i s) = _
    rw [ih (i + 1) b (g i s)]
    show _ = iter g (i + (a + 1)) b (iter g (i + 1) a (g i s))
    rw [show i + 1 + a = i + (a + 1) by omega]
/-- Rows of w cells, one behind the other: the rounds of two loops are the rounds of one. -/
theorem grid_ev {σ ρ : Type} (F0 : Nat → σ → Nat → Option ρ) (F1 : Nat → σ → Nat → Nat → Option ρ) (w h : Nat) (g : Nat → σ → σ) (fin : σ → ρ) (I : Nat → σ → Prop)
    (hout : ∀ y s r, I (y * w) s → y < h → Ev (fun k => F1 k s y 0) r → Ev (fun k => F0 k s y) r)
    (hin : ∀ y x s r, I (y * w + x) s → y < h → x < w → Ev (fun k => F1 k (g (y * w + x) s) y (x + 1)) r → Ev (fun k => F1 k s y x) r)
    (hI : ∀ y x s, I (y * w + x) s → y < h → x < w → I (y * w + (x + 1)) (g (y * w + x) s))
    (hrow : ∀ y s r, I (y * w + w) s → y < h → Ev (fun k => F0 k s (y + 1)) r → Ev (fun k => F1 k s y w) r)
    (hend : ∀ s, I (h * w) s → Ev (fun k => F0 k s h) (fin s)) : ∀ s, I 0 s → Ev (fun k => F0 k s 0) (fin (iter g 0 (h * w) s)) := by
  have row : ∀ d y x s r, w - x = d → x ≤ w → y < h → I (y * w + x) s → Ev (fun k => F0 k (iter g (y * w + x) d s) (y + 1)) r → Ev (fun k => F1 k s y x) r := by
    intro d
    induction d with
    | zero =>
      intro y x s r h0 h1 h2 h3 h4
      obtain rfl : x = w := by omega
      exact hrow y s r h3 h2 h4
    | succ d ih =>
      intro y x s r h0 h1 h2 h3 h4
      exact hin y x s r h3 h2 (by omega) (ih y (x + 1) _ r (by omega) (by omega) h2 (hI y x s h3 h2 (by omega)) h4)
  have rowI : ∀ d y x s, w - x = d → x ≤ w → y < h → I (y * w + x) s → I (y * w + w) (iter g (y * w + x) d s) := by
    intro d
    induction d with
    | zero =>
      intro y x s h0 h1 h2 h3
      obtain rfl : x = w := by omega
      exact h3
    | succ d ih =>
      intro y x s h0 h1 h2 h3
      exact ih y (x + 1) _ (by omega) (by omega) h2 (hI y x s h3 h2 (by omega))
  have key : ∀ d y s, h - y = d → y ≤ h → I (y * w) s → Ev (fun k => F0 k s y) (fin (iter g (y * w) (d * w) s)) := by
    intro d
    induction d with
    | zero =>
      intro y s h0 h1 h2
      obtain rfl : y = h := by omega
      rw [Nat.zero_mul]
      exact hend s h2
    | succ d ih =>
      intro y s h0 h1 h2
      have hb := rowI w y 0 s (by omega) (Nat.zero_le _) (by omega) h2
      have e1 : y * w + w = (y + 1) * w := by rw [Nat.add_mul, Nat.one_mul]
      rw [Nat.add_zero] at hb
      rw [e1] at hb
      have hk := ih (y + 1) _ (by omega) (by omega) hb
      rw [show (d + 1) * w = w + d * w by rw [Nat.add_mul, Nat.one_mul]; omega, iter_add, e1]
      exact hout y s _ h2 (by omega) (row w y 0 s _ (by omega) (Nat.zero_le _) (by omega) h2 hk)
  intro s h0
  have hk := key h 0 s (by omega) (Nat.zero_le _) (by rw [Nat.zero_mul]; exact h0)
  rw [Nat.zero_mul] at hk
  exact hk

end Go.Proofs.Ytmfgjknffmjjjaa.Pure
/- 'Within' of the program and of the reference: the same test. No conditions. -/
namespace Go.Proofs.Ytmfgjknffmjjjaa.Pure
set_option linter.unusedVariables false
set_option linter.unusedSimpArgs false
open Go.RowKit Go.Proofs.Ytmfgjknffmjjjaa.P Go.Proofs.YtmfgjknffmjjjaaW.PrintWords Go.Proofs.YtmfgjknffmjjjaaW.PrintLast
def inb (x a b : Int) : Bool := decide (a ≤ x) && decide (x ≤ b)
theorem inb_iff {x a b : Int} : inb x a b = true ↔ a ≤ x ∧ x ≤ b := by simp [inb]
theorem l1In_is (x a b : Int) : spec_l1In.f x a b = some (inb x a b) := by
  unfold spec_l1In.f inb
  split
  · rename_i h; simp [show a ≤ x from h]
  · rename_i h; simp [show ¬ a ≤ x from h]
theorem within_is (x a b : Int) : impl_within.f x a b = some (inb x a b) := l1In_is x a b
end Go.Proofs.Ytmfgjknffmjjjaa.Pure
