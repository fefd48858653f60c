/- Texts of the claim FnExactQuantileField, merged: part 7 of 8: the program's and the reference's functions as Lean functions, the walks that show it, and plain lemmas; no conditions. -/
import Derived.Test.YtbjbanemmoalhaaKFnExactQuantileField1
import Derived.Test.YtbjbanemmoalhaaKFnExactQuantileField4
import Derived.Test.YtbjbanemmoalhaaKFnExactQuantileField6
import Derived.Test.YtbjbanemmoalhaaWMore
import Derived.Test.YtbjbanemmoalhaaWSized
import Derived.ProofKit
import Derived.OpenShut
import Derived.Deep.Slices
import Derived.Deep.Strs
import Derived.Deep.Fields
import Derived.Lib.SmallJoins
import Derived.Test.YtbjbanemmoalhaaKFnExactQuantileField5
namespace Go.Proofs.Ytbjbanemmoalhaa.P
open Go.RowKit Go.Proofs.YtbjbanemmoalhaaW.PrintWords Go.Proofs.YtbjbanemmoalhaaW.PrintLast Go.Proofs.YtbjbanemmoalhaaW.PrintMore
attribute [local go_sem] max2_int min2_int max_two min_two max_three min_three max_four min_four   -- for this text's walks alone
set_option linter.unusedVariables false
set_option linter.unusedSimpArgs false

/-! ### laws_FnExactQuantileField: function 7 -/
mutual
def laws_FnExactQuantileField.j0 : Nat → List (S40) → Int → Int → Bool → List (S42) → Bool → Bool → Int → Int → List Int → Int → Int → List Int → Option (Bool)
 | 0, _, _, _, _, _, _, _, _, _, _, _, _, _ => none
 | k + 1, x0, x1, x2, x9, x10, x12, x48, x112000, x112001, x112002, x122000, x122001, x122002 => if x48 = true then (some false) else ((laws_toFieldS.f k x0).bind fun t123 => ((laws_eqFieldS.f k x10 t123).bind fun t126 => (if t126 = true then ((laws_markFieldS.f k x10 1).bind fun bt127 => (if bt127.1 < 0 then (laws_FnExactQuantileField.j1 k x0 x1 x2 x9 true x112000 x112001 x112002 x122000 x122001 x122002) else ((laws_eqField.f k x122000 x122001 x122002 x112000 x112001 x112002).bind fun t129 => (if t129 = true then (laws_FnExactQuantileField.j1 k x0 x1 x2 x9 (x12 != x9) x112000 x112001 x112002 x122000 x122001 x122002) else (laws_FnExactQuantileField.j1 k x0 x1 x2 x9 true x112000 x112001 x112002 x122000 x122001 x122002))))) else (some false))))
def laws_FnExactQuantileField.j1 : Nat → List (S40) → Int → Int → Bool → Bool → Int → Int → List Int → Int → Int → List Int → Option (Bool)
 | 0, _, _, _, _, _, _, _, _, _, _, _ => none
 | k + 1, x0, x1, x2, x9, x69, x112000, x112001, x112002, x122000, x122001, x122002 => if x69 = true then (some false) else ((laws_markField.f k x122000 x122001 x122002 1).bind fun bt130 => ((laws_heldField.f k x122000 x122001 bt130.2 1).bind fun t132 => (if t132 < 0 then (some false) else (if t132 = bt130.1 then ((laws_toFieldS.f k x0).bind fun t133 => ((impl_QuantileField.f k t133 x1 x2).bind fun bt136 => ((laws_eqField.f k bt136.1 bt136.2.1 bt136.2.2.1 x112000 x112001 x112002).bind fun t143 => (if t143 = true then (laws_FnExactQuantileField.j2 k bt130.1 (bt136.2.2.2 != x9) x122000 x122001 bt130.2) else (laws_FnExactQuantileField.j2 k bt130.1 true x122000 x122001 bt130.2))))) else (some false)))))
def laws_FnExactQuantileField.j2 : Nat → Int → Bool → Int → Int → List Int → Option (Bool)
 | 0, _, _, _, _, _ => none
 | k + 1, x14, x97, x122000, x122001, x122002 => if x97 = true then (some false) else ((laws_heldField.f k x122000 x122001 x122002 1).bind fun t144 => (if t144 < 0 then (some false) else (if t144 = x14 then (some true) else (some false))))
end
def laws_FnExactQuantileField.f (k : Nat) (l0 : List (S40)) (a1 : Int) (a2 : Int) : Option (Bool) := (laws_szFieldS.f k l0 1048576).bind fun t101 => (if t101 < 0 then (some true) else ((laws_toFieldS.f k l0).bind fun t102 => ((spec_QuantileField.f k t102 a1 a2).bind fun bt105 => ((laws_toFieldS.f k l0).bind fun t112 => ((impl_QuantileField.f k t112 a1 a2).bind fun bt115 => ((laws_eqField.f k bt115.1 bt115.2.1 bt115.2.2.1 bt105.1 bt105.2.1 bt105.2.2.1).bind fun t122 => (if t122 = true then (laws_FnExactQuantileField.j0 k l0 a1 a2 bt105.2.2.2 t112 bt115.2.2.2 (bt115.2.2.2 != bt105.2.2.2) bt105.1 bt105.2.1 bt105.2.2.1 bt115.1 bt115.2.1 bt115.2.2.1) else (laws_FnExactQuantileField.j0 k l0 a1 a2 bt105.2.2.2 t112 bt115.2.2.2 true bt105.1 bt105.2.1 bt105.2.2.1 bt115.1 bt115.2.1 bt115.2.2.1))))))))

set_option maxHeartbeats 8000000 in
set_option maxRecDepth 100000 in
theorem laws_FnExactQuantileField.calls (k : Nat) (A0 : Option Addr) (c0 : Nat) (l0 : List (S40)) (a1 : Int) (a2 : Int) (r : Bool) (w : World) (hr0 : Kd.C k40 w A0 l0.length l0) (hc0 : l0.length ≤ c0) (h : laws_FnExactQuantileField.f k l0 a1 a2 = some r) :
  Calls Try.prog 7 #[.slice A0 l0.length c0, .int .i64 a1, .int .i64 a2] w fun e w' => e = .returned (.bool r) ∧ Below w.heap.size w w' := by
 have hu42 := Try.underlying42
 have HR0 := Aside0.mk hr0
 have HC0 := Aside0.mk hc0
 clear hr0 hc0
 have HB := aK (Below.refl w.heap.size w)
 have H : ((laws_szFieldS.f k l0 1048576).bind fun t101 => (if t101 < 0 then (some true) else ((laws_toFieldS.f k l0).bind fun t102 => ((spec_QuantileField.f k t102 a1 a2).bind fun bt105 => ((laws_toFieldS.f k l0).bind fun t112 => ((impl_QuantileField.f k t112 a1 a2).bind fun bt115 => ((laws_eqField.f k bt115.1 bt115.2.1 bt115.2.2.1 bt105.1 bt105.2.1 bt105.2.2.1).bind fun t122 => (if t122 = true then (laws_FnExactQuantileField.j0 k l0 a1 a2 bt105.2.2.2 t112 bt115.2.2.2 (bt115.2.2.2 != bt105.2.2.2) bt105.1 bt105.2.1 bt105.2.2.1 bt115.1 bt115.2.1 bt115.2.2.1) else (laws_FnExactQuantileField.j0 k l0 a1 a2 bt105.2.2.2 t112 bt115.2.2.2 true bt105.1 bt105.2.1 bt105.2.2.1 bt115.1 bt115.2.1 bt115.2.2.1))))))))) = some r := h
 clear h
 replace H := Option.bind_eq_some_iff.mp H
 obtain ⟨t101, A40, H⟩ := H
 replace H : (if t101 < 0 then (some true) else ((laws_toFieldS.f k l0).bind fun t102 => ((spec_QuantileField.f k t102 a1 a2).bind fun bt105 => ((laws_toFieldS.f k l0).bind fun t112 => ((impl_QuantileField.f k t112 a1 a2).bind fun bt115 => ((laws_eqField.f k bt115.1 bt115.2.1 bt115.2.2.1 bt105.1 bt105.2.1 bt105.2.2.1).bind fun t122 => (if t122 = true then (laws_FnExactQuantileField.j0 k l0 a1 a2 bt105.2.2.2 t112 bt115.2.2.2 (bt115.2.2.2 != bt105.2.2.2) bt105.1 bt105.2.1 bt105.2.2.1 bt115.1 bt115.2.1 bt115.2.2.1) else (laws_FnExactQuantileField.j0 k l0 a1 a2 bt105.2.2.2 t112 bt115.2.2.2 true bt105.1 bt105.2.1 bt105.2.2.1 bt115.1 bt115.2.1 bt115.2.2.1)))))))) = some r := H
 have A4 := Aside0.mk A40
 clear A40
 by_cases c5 : t101 < 0
 ·
  rw [if_pos c5] at H
  have c5b0 : decide (t101 < 0) = true := decide_eq_true c5
  clear c5
  obtain rfl := Option.some.inj H
  go_enter Try.func7, Try.ntmps7
  go_wp2_with (first | ((with_reducible refine gate_callee (f := 38) rfl ?_); refine goesL_ (some 20) rfl rfl Try.func38 (by kernel_rfl) rfl #[.slice A0 l0.length c0, .int .i64 1048576] rfl (by (try simp only [List.map_toArray, List.map_cons, List.map_nil]); first | done | rfl | (simp only [List.length_drop, List.length_take]; rfl)) ?_; (with_reducible refine (laws_szFieldS.calls k _ _ l0 1048576 t101 _ ?side1 ?side2 A4.out).mono ?_); (case side1 => repeat (first | exact HR0.out | (with_reducible refine Kd.C_alloc ?_ _) | (with_reducible refine Kd.C_drewN ?_ _) | (with_reducible refine Kd.C_drew ?_))); (case side2 => exact HC0.out); rintro e w6 ⟨rfl, hb⟩; refine ⟨_, rfl, ?_⟩; replace HB := bS HB hb; (try clear hb); (try clear hb2); (try clear hk); (try clear hi)))
  go_ret
  exact ⟨by first | rfl | (simp [errW_none, errW_some] <;> rfl) | (simp [*, errW_none, errW_some] <;> rfl), by repeat (first | (with_reducible first | exact HB.out | apply below_alloc | apply pw_below_drewN | apply below_drew1) | exact HB.out)⟩
 ·
  rw [if_neg c5] at H
  have c5b0 : decide (t101 < 0) = false := decide_eq_false c5
  clear c5
  replace H := Option.bind_eq_some_iff.mp H
  obtain ⟨t102, A70, H⟩ := H
  replace H : ((spec_QuantileField.f k t102 a1 a2).bind fun bt105 => ((laws_toFieldS.f k l0).bind fun t112 => ((impl_QuantileField.f k t112 a1 a2).bind fun bt115 => ((laws_eqField.f k bt115.1 bt115.2.1 bt115.2.2.1 bt105.1 bt105.2.1 bt105.2.2.1).bind fun t122 => (if t122 = true then (laws_FnExactQuantileField.j0 k l0 a1 a2 bt105.2.2.2 t112 bt115.2.2.2 (bt115.2.2.2 != bt105.2.2.2) bt105.1 bt105.2.1 bt105.2.2.1 bt115.1 bt115.2.1 bt115.2.2.1) else (laws_FnExactQuantileField.j0 k l0 a1 a2 bt105.2.2.2 t112 bt115.2.2.2 true bt105.1 bt105.2.1 bt105.2.2.1 bt115.1 bt115.2.1 bt115.2.2.1)))))) = some r := H
  have A7 := Aside0.mk A70
  clear A70
  replace H := Option.bind_eq_some_iff.mp H
  obtain ⟨⟨t105, t106, t107, t110⟩, A80, H⟩ := H
  replace H : ((laws_toFieldS.f k l0).bind fun t112 => ((impl_QuantileField.f k t112 a1 a2).bind fun bt115 => ((laws_eqField.f k bt115.1 bt115.2.1 bt115.2.2.1 t105 t106 t107).bind fun t122 => (if t122 = true then (laws_FnExactQuantileField.j0 k l0 a1 a2 t110 t112 bt115.2.2.2 (bt115.2.2.2 != t110) t105 t106 t107 bt115.1 bt115.2.1 bt115.2.2.1) else (laws_FnExactQuantileField.j0 k l0 a1 a2 t110 t112 bt115.2.2.2 true t105 t106 t107 bt115.1 bt115.2.1 bt115.2.2.1))))) = some r := H
  have A8 := Aside0.mk A80
  clear A80
  replace H := Option.bind_eq_some_iff.mp H
  obtain ⟨t112, A90, H⟩ := H
  replace H : ((impl_QuantileField.f k t112 a1 a2).bind fun bt115 => ((laws_eqField.f k bt115.1 bt115.2.1 bt115.2.2.1 t105 t106 t107).bind fun t122 => (if t122 = true then (laws_FnExactQuantileField.j0 k l0 a1 a2 t110 t112 bt115.2.2.2 (bt115.2.2.2 != t110) t105 t106 t107 bt115.1 bt115.2.1 bt115.2.2.1) else (laws_FnExactQuantileField.j0 k l0 a1 a2 t110 t112 bt115.2.2.2 true t105 t106 t107 bt115.1 bt115.2.1 bt115.2.2.1)))) = some r := H
  have A9 := Aside0.mk A90
  clear A90
  replace H := Option.bind_eq_some_iff.mp H
  obtain ⟨⟨t115, t116, t117, t120⟩, A100, H⟩ := H
  replace H : ((laws_eqField.f k t115 t116 t117 t105 t106 t107).bind fun t122 => (if t122 = true then (laws_FnExactQuantileField.j0 k l0 a1 a2 t110 t112 t120 (t120 != t110) t105 t106 t107 t115 t116 t117) else (laws_FnExactQuantileField.j0 k l0 a1 a2 t110 t112 t120 true t105 t106 t107 t115 t116 t117))) = some r := H
  have A10 := Aside0.mk A100
  clear A100
  have HC11 := Aside0.mk H
  clear H
  go_enter Try.func7, Try.ntmps7
  go_upto_region 8 with (first | ((with_reducible refine gate_callee (f := 38) rfl ?_); refine goesL_ (some 20) rfl rfl Try.func38 (by kernel_rfl) rfl #[.slice A0 l0.length c0, .int .i64 1048576] rfl (by (try simp only [List.map_toArray, List.map_cons, List.map_nil]); first | done | rfl | (simp only [List.length_drop, List.length_take]; rfl)) ?_; (with_reducible refine (laws_szFieldS.calls k _ _ l0 1048576 t101 _ ?side1 ?side2 A4.out).mono ?_); (case side1 => repeat (first | exact HR0.out | (with_reducible refine Kd.C_alloc ?_ _) | (with_reducible refine Kd.C_drewN ?_ _) | (with_reducible refine Kd.C_drew ?_))); (case side2 => exact HC0.out); rintro e w12 ⟨rfl, hb⟩; refine ⟨_, rfl, ?_⟩; replace HB := bS HB hb; (try clear hb); (try clear hb2); (try clear hk); (try clear hi)) | ((with_reducible refine gate_callee (f := 40) rfl ?_); refine goesL_ (some 25) rfl rfl Try.func40 (by kernel_rfl) rfl #[.slice A0 l0.length c0] rfl (by (try simp only [List.map_toArray, List.map_cons, List.map_nil]); first | done | rfl | (simp only [List.length_drop, List.length_take]; rfl)) ?_; (with_reducible refine (laws_toFieldS.calls k _ _ l0 t102 _ ?side1 ?side2 A7.out).mono ?_); (case side1 => repeat (first | exact (Kd.C_below HR0.out HB.out) | (with_reducible refine Kd.C_alloc ?_ _) | (with_reducible refine Kd.C_drewN ?_ _) | (with_reducible refine Kd.C_drew ?_))); (case side2 => exact HC0.out); rintro e w13 ⟨v103, rfl, ho0, hb⟩; refine ⟨_, rfl, ?_⟩; have HO104 := aK (Kd.S_lower ho0 (below_size (pS HB.out))); replace HB := bS HB hb; (try clear hb); (try clear hb2); (try clear hk); (try clear hi); (try clear ho0); obtain ⟨Ao14, co14, eo14⟩ := Kd.S_slice HO104.out; subst eo14) | ((with_reducible refine gate_callee (f := 39) rfl ?_); refine goesL_ (some 28) rfl rfl Try.func39 (by kernel_rfl) rfl #[.slice Ao14 t102.length co14, .int .i64 a1, .int .i64 a2] rfl (by (try simp only [List.map_toArray, List.map_cons, List.map_nil]); first | done | rfl | (simp only [List.length_drop, List.length_take]; rfl)) ?_; (with_reducible refine (spec_QuantileField.calls k _ _ t102 a1 a2 t105 t106 t107 t110 _ ?side1 ?side2 A8.out).mono ?_); (case side1 => repeat (first | exact (Kd.S_reads' HO104.out).2.2 | (with_reducible refine Kd.C_alloc ?_ _) | (with_reducible refine Kd.C_drewN ?_ _) | (with_reducible refine Kd.C_drew ?_))); (case side2 => exact (Kd.S_reads' HO104.out).2.1); rintro e w15 ⟨v108, rfl, ho0, hb⟩; refine ⟨_, rfl, ?_⟩; have n0_ := aK (Kd.S_elder' (by (with_reducible repeat (first | apply Kd.S_alloc | apply Kd.S_drewN | apply Kd.S_drew)); exact HO104.out) (Kd.R_base ho0) hb); have HO109 := aK (Kd.R_lower ho0 (below_size (pS HB.out))); replace HB := bS HB hb; clear HO104; have HO104 := n0_; clear n0_; (try clear hb); (try clear hb2); (try clear hk); (try clear hi); (try clear ho0)) | ((with_reducible refine gate_dst (N := 8) rfl ?_); refine box_event ?hg (N := 8) ?hd (cs := #[.int .i64 0, .int .i64 0, .slice none 0 0]) (t := 42) ?hr ?_; (case hd => rfl); (case hg => rfl); (case hr => first | (go_simp; done) | (go_simp; rfl)); intro gb111 hg w16 hbox hb; have n0_ := aK (Kd.S_below (Kd.S_elderB (by (with_reducible repeat (first | apply Kd.S_alloc | apply Kd.S_drewN | apply Kd.S_drew)); exact HO104.out) gb111 (Nat.le_of_eq hg.symm)) hb); have n1_ := aK (Kd.R_below (pR HO109.out) hb); have BK111 := aK (hbox); have GW111 := aK (gE hg (pS HB.out)); have GE111 := aK (gE hg (pS HB.out)); replace HB := bS HB hb; clear HO104 HO109; have HO104 := n0_; have HO109 := n1_; clear n0_ n1_ hb hbox hg; have hcz17_0 : w16.cell? ⟨gb111, 0, none⟩ = some (.int .i64 0) := (blk_cell BK111.out 0).trans rfl; have hcz17_1 : w16.cell? ⟨gb111, 1, none⟩ = some (.int .i64 0) := (blk_cell BK111.out 1).trans rfl; have hcz17_2 : w16.cell? ⟨gb111, 2, none⟩ = some (.slice none 0 0) := (blk_cell BK111.out 2).trans rfl; have hfz17_0 := blk_frozen BK111.out 0; have hfz17_1 := blk_frozen BK111.out 1; have hfz17_2 := blk_frozen BK111.out 2; obtain ⟨Ao18, co18, eo18⟩ := Kd.R_slice HO109.out; subst eo18) | ((with_reducible refine gate_callee (f := 40) rfl ?_); refine goesL_ (some 32) rfl rfl Try.func40 (by kernel_rfl) rfl #[.slice A0 l0.length c0] rfl (by (try simp only [List.map_toArray, List.map_cons, List.map_nil]); first | done | rfl | (simp only [List.length_drop, List.length_take]; rfl)) ?_; (with_reducible refine (laws_toFieldS.calls k _ _ l0 t112 _ ?side1 ?side2 A9.out).mono ?_); (case side1 => exact Kd.C_below HR0.out (pS HB.out)); (case side2 => exact HC0.out); rintro e w19 ⟨v113, rfl, ho0, hb⟩; refine ⟨_, rfl, ?_⟩; have n0_ := aK (Kd.S_elder' (by (with_reducible repeat (first | apply Kd.S_alloc | apply Kd.S_drewN | apply Kd.S_drew)); exact (Kd.S_mono (Kd.S_far (p := ⟨gb111, 2, none⟩) (Kd.S_far (p := ⟨gb111, 1, none⟩) (Kd.S_far (p := ⟨gb111, 0, none⟩) (Kd.S_mono HO104.out (fun k_ hk => (⟨hk, hk.2⟩ : _ ∧ k_ ≠ gb111))) (fun _ hk => hk.2) (.int .i64 t105)) (fun _ hk => hk.2) (.int .i64 t106)) (fun _ hk => hk.2) (.slice Ao18 t107.length co18)) (fun _ h_ => h_.1))) (Kd.S_base ho0) hb); have n1_ := aK (Kd.R_below (pR ((Kd.R_mono (Kd.R_far (p := ⟨gb111, 2, none⟩) (Kd.R_far (p := ⟨gb111, 1, none⟩) (Kd.R_far (p := ⟨gb111, 0, none⟩) (Kd.R_types HO109.out BK111.out (by decide)) (fun _ hk => hk.2) (.int .i64 t105)) (fun _ hk => hk.2) (.int .i64 t106)) (fun _ hk => hk.2) (.slice Ao18 t107.length co18)) (fun _ h_ => h_.1)))) hb); have HO114 := aK (Kd.S_lower (Kd.S_newB (Kd.S_new' (Kd.S_new' ho0 (Kd.S_lt (by (with_reducible repeat (first | apply Kd.S_alloc | apply Kd.S_drewN | apply Kd.S_drew)); exact (Kd.S_mono (Kd.S_far (p := ⟨gb111, 2, none⟩) (Kd.S_far (p := ⟨gb111, 1, none⟩) (Kd.S_far (p := ⟨gb111, 0, none⟩) (Kd.S_mono HO104.out (fun k_ hk => (⟨hk, hk.2⟩ : _ ∧ k_ ≠ gb111))) (fun _ hk => hk.2) (.int .i64 t105)) (fun _ hk => hk.2) (.int .i64 t106)) (fun _ hk => hk.2) (.slice Ao18 t107.length co18)) (fun _ h_ => h_.1))))) (Kd.R_lt (pR ((Kd.R_mono (Kd.R_far (p := ⟨gb111, 2, none⟩) (Kd.R_far (p := ⟨gb111, 1, none⟩) (Kd.R_far (p := ⟨gb111, 0, none⟩) (Kd.R_types HO109.out BK111.out (by decide)) (fun _ hk => hk.2) (.int .i64 t105)) (fun _ hk => hk.2) (.int .i64 t106)) (fun _ hk => hk.2) (.slice Ao18 t107.length co18)) (fun _ h_ => h_.1)))))) (g := gb111) (o := .cells #[.int .i64 t105, .int .i64 t106, .slice Ao18 t107.length co18] 42 (0, 0)) (by (with_reducible repeat (first | refine blk_drewN ?_ _ | refine blk_drew ?_ | refine blk_alloc ?_ _)); refine blk_put (cs := #[.int .i64 t105, .int .i64 t106, .slice none 0 0]) ?_ 2 _ rfl; (with_reducible repeat (first | refine blk_drewN ?_ _ | refine blk_drew ?_ | refine blk_alloc ?_ _)); refine blk_put (cs := #[.int .i64 t105, .int .i64 0, .slice none 0 0]) ?_ 1 _ rfl; (with_reducible repeat (first | refine blk_drewN ?_ _ | refine blk_drew ?_ | refine blk_alloc ?_ _)); refine blk_put (cs := #[.int .i64 0, .int .i64 0, .slice none 0 0]) ?_ 0 _ rfl; (with_reducible repeat (first | refine blk_drewN ?_ _ | refine blk_drew ?_ | refine blk_alloc ?_ _)); exact BK111.out)) (below_size (pS HB.out))); have n3_ := aK (blk_below (g := gb111) (o := .cells #[.int .i64 t105, .int .i64 t106, .slice Ao18 t107.length co18] 42 (0, 0)) (by (with_reducible repeat (first | refine blk_drewN ?_ _ | refine blk_drew ?_ | refine blk_alloc ?_ _)); refine blk_put (cs := #[.int .i64 t105, .int .i64 t106, .slice none 0 0]) ?_ 2 _ rfl; (with_reducible repeat (first | refine blk_drewN ?_ _ | refine blk_drew ?_ | refine blk_alloc ?_ _)); refine blk_put (cs := #[.int .i64 t105, .int .i64 0, .slice none 0 0]) ?_ 1 _ rfl; (with_reducible repeat (first | refine blk_drewN ?_ _ | refine blk_drew ?_ | refine blk_alloc ?_ _)); refine blk_put (cs := #[.int .i64 0, .int .i64 0, .slice none 0 0]) ?_ 0 _ rfl; (with_reducible repeat (first | refine blk_drewN ?_ _ | refine blk_drew ?_ | refine blk_alloc ?_ _)); exact BK111.out) hb); replace HB := bS HB hb; clear HO104 HO109 BK111; have HO104 := n0_; have HO109 := n1_; have BK111 := n3_; clear n0_ n1_ n3_; (try clear hb); (try clear hb2); (try clear hk); (try clear hi); (try clear ho0); obtain ⟨Ao20, co20, eo20⟩ := Kd.S_slice HO114.out; subst eo20) | ((with_reducible refine gate_callee (f := 41) rfl ?_); refine goesL_ (some 37) rfl rfl Try.func41 (by kernel_rfl) rfl #[.slice Ao20 t112.length co20, .int .i64 a1, .int .i64 a2] rfl (by (try simp only [List.map_toArray, List.map_cons, List.map_nil]); first | done | rfl | (simp only [List.length_drop, List.length_take]; rfl)) ?_; (with_reducible refine (impl_QuantileField.calls k _ _ t112 a1 a2 t115 t116 t117 t120 _ ?side1 ?side2 A10.out).mono ?_); (case side1 => repeat (first | exact (Kd.S_reads' HO114.out).2.2 | (with_reducible refine Kd.C_alloc ?_ _) | (with_reducible refine Kd.C_drewN ?_ _) | (with_reducible refine Kd.C_drew ?_))); (case side2 => exact (Kd.S_reads' HO114.out).2.1); rintro e w21 ⟨v118, rfl, ho0, hb⟩; refine ⟨_, rfl, ?_⟩; have n0_ := aK (Kd.S_elder' (by (with_reducible repeat (first | apply Kd.S_alloc | apply Kd.S_drewN | apply Kd.S_drew)); exact HO104.out) (Kd.R_base ho0) hb); have n1_ := aK (Kd.R_elder' (pR HO109.out) (Kd.R_base ho0) hb); have n2_ := aK (Kd.S_elder' (by (with_reducible repeat (first | apply Kd.S_alloc | apply Kd.S_drewN | apply Kd.S_drew)); exact HO114.out) (Kd.R_base ho0) hb); have HO119 := aK (Kd.R_lower (Kd.R_new' ho0 (Kd.R_lt (pR HO109.out))) (below_size (pS HB.out))); replace BK111 := bB BK111 hb; replace HB := bS HB hb; clear HO104 HO109 HO114; have HO104 := n0_; have HO109 := n1_; have HO114 := n2_; clear n0_ n1_ n2_; (try clear hb); (try clear hb2); (try clear hk); (try clear hi); (try clear ho0)) | ((with_reducible refine gate_dst (N := 11) rfl ?_); refine box_event ?hg (N := 11) ?hd (cs := #[.int .i64 0, .int .i64 0, .slice none 0 0]) (t := 42) ?hr ?_; (case hd => rfl); (case hg => rfl); (case hr => first | (go_simp; done) | (go_simp; rfl)); intro gb121 hg w22 hbox hb; have n0_ := aK (Kd.S_below (Kd.S_elderB (by (with_reducible repeat (first | apply Kd.S_alloc | apply Kd.S_drewN | apply Kd.S_drew)); exact HO104.out) gb121 (Nat.le_of_eq hg.symm)) hb); have n1_ := aK (Kd.R_below (pR HO109.out) hb); have n2_ := aK (Kd.S_below (Kd.S_elderB (by (with_reducible repeat (first | apply Kd.S_alloc | apply Kd.S_drewN | apply Kd.S_drew)); exact HO114.out) gb121 (Nat.le_of_eq hg.symm)) hb); have n3_ := aK (Kd.R_below (pR HO119.out) hb); have BK121 := aK (hbox); have GW121 := aK (gE hg (pS HB.out)); have GE121 := aK (gE hg (pS HB.out)); have NB111_121 := aK (nL hg (pB BK111.out)); have NB121_111 := aK (nG hg (pB BK111.out)); replace BK111 := bB BK111 hb; replace HB := bS HB hb; clear HO104 HO109 HO114 HO119; have HO104 := n0_; have HO109 := n1_; have HO114 := n2_; have HO119 := n3_; clear n0_ n1_ n2_ n3_ hb hbox hg; have hnb23 := NB121_111.out; have hnc23 := NB111_121.out; have hcz24_0 : w22.cell? ⟨gb121, 0, none⟩ = some (.int .i64 0) := (blk_cell BK121.out 0).trans rfl; have hcz24_1 : w22.cell? ⟨gb121, 1, none⟩ = some (.int .i64 0) := (blk_cell BK121.out 1).trans rfl; have hcz24_2 : w22.cell? ⟨gb121, 2, none⟩ = some (.slice none 0 0) := (blk_cell BK121.out 2).trans rfl; have hfz24_0 := blk_frozen BK121.out 0; have hfz24_1 := blk_frozen BK121.out 1; have hfz24_2 := blk_frozen BK121.out 2; obtain ⟨Ao25, co25, eo25⟩ := Kd.R_slice HO119.out; subst eo25))
  (try simp only [Act.put, List.setIfInBounds_toArray, List.set_cons_zero, List.set_cons_succ])
  go_cut [48] (fun v48 wc => ∃ (kq : Nat) (x48_10 : Bool), v48 = .bool x48_10 ∧ Aside0 (laws_FnExactQuantileField.j0 kq l0 a1 a2 t110 t112 t120 x48_10 t105 t106 t107 t115 t116 t117 = some r) ∧ Aside0 (kq ≤ k) ∧ Aside0 (Kd.S k42 42 wc w.heap.size (fun k_ => some k_ ≠ ((.slice Ao18 t107.length co18) : Value).ownBlock ∧ some k_ ≠ ((.slice Ao25 t117.length co25) : Value).ownBlock ∧ k_ ≠ gb111 ∧ k_ ≠ gb121) (.slice Ao20 t112.length co20) t112) ∧ Aside0 (Kd.R (Kd.int .i64) 3 wc w.heap.size (fun k_ => some k_ ≠ ((.slice Ao25 t117.length co25) : Value).ownBlock) (.slice Ao18 t107.length co18) t107) ∧ Aside0 (Kd.R (Kd.int .i64) 3 wc w.heap.size (fun k_ => some k_ ≠ ((.slice Ao18 t107.length co18) : Value).ownBlock) (.slice Ao25 t117.length co25) t117) ∧ Aside0 (wc.heap[gb111]? = some (.cells #[.int .i64 t105, .int .i64 t106, (.slice Ao18 t107.length co18)] 42 (0, 0))) ∧ Aside0 (wc.heap[gb121]? = some (.cells #[.int .i64 t115, .int .i64 t116, (.slice Ao25 t117.length co25)] 42 (0, 0))) ∧ Aside0 (Below w.heap.size w wc))
  case first =>
   have H := HC11.out
   clear HC11
   replace H := Option.bind_eq_some_iff.mp H
   obtain ⟨t122, A260, H⟩ := H
   replace H : (if t122 = true then (laws_FnExactQuantileField.j0 k l0 a1 a2 t110 t112 t120 (t120 != t110) t105 t106 t107 t115 t116 t117) else (laws_FnExactQuantileField.j0 k l0 a1 a2 t110 t112 t120 true t105 t106 t107 t115 t116 t117)) = some r := H
   have A26 := Aside0.mk A260
   clear A260
   by_cases c27 : t122 = true
   ·
    subst c27
    have H1 : (laws_FnExactQuantileField.j0 k l0 a1 a2 t110 t112 t120 (t120 != t110) t105 t106 t107 t115 t116 t117) = some r := by rw [if_pos rfl] at H; exact H
    clear H
    have H := H1
    clear H1
    have H' := Aside0.mk H
    clear H
    have hnb28 := NB121_111.out
    have hnc28 := NB111_121.out
    have hcz29_0 : w22.cell? ⟨gb121, 0, none⟩ = some (.int .i64 0) := (blk_cell BK121.out 0).trans rfl
    have hcz29_1 : w22.cell? ⟨gb121, 1, none⟩ = some (.int .i64 0) := (blk_cell BK121.out 1).trans rfl
    have hcz29_2 : w22.cell? ⟨gb121, 2, none⟩ = some (.slice none 0 0) := (blk_cell BK121.out 2).trans rfl
    have hfz29_0 := blk_frozen BK121.out 0
    have hfz29_1 := blk_frozen BK121.out 1
    have hfz29_2 := blk_frozen BK121.out 2
    have hcz30_0 : w22.cell? ⟨gb111, 0, none⟩ = some (.int .i64 t105) := (blk_cell BK111.out 0).trans rfl
    have hcz30_1 : w22.cell? ⟨gb111, 1, none⟩ = some (.int .i64 t106) := (blk_cell BK111.out 1).trans rfl
    have hcz30_2 : w22.cell? ⟨gb111, 2, none⟩ = some (.slice Ao18 t107.length co18) := (blk_cell BK111.out 2).trans rfl
    have hfz30_0 := blk_frozen BK111.out 0
    have hfz30_1 := blk_frozen BK111.out 1
    have hfz30_2 := blk_frozen BK111.out 2
    go_wp2_with (first | ((with_reducible refine gate_callee (f := 35) rfl ?_); refine goesL_ (some 42) rfl rfl Try.func35 (by kernel_rfl) rfl #[.agg #[.int .i64 t115, .int .i64 t116, .slice Ao25 t117.length co25], .agg #[.int .i64 t105, .int .i64 t106, .slice Ao18 t107.length co18]] rfl (by (try simp only [List.map_toArray, List.map_cons, List.map_nil]); first | done | rfl | (simp only [List.length_drop, List.length_take]; rfl)) ?_; (with_reducible refine (laws_eqField.calls k t115 t116 _ _ t117 t105 t106 _ _ t107 true _ ?side1 ?side2 ?side3 ?side4 A26.out).mono ?_); (case side1 => refine (Kd.R_reads' (e := 3) (base := w.heap.size) (ok := fun k_ => (True ∧ some k_ ≠ (.slice Ao18 t107.length co18 : Value).ownBlock)) (n := t117.length) (c := co25) ?_).2.2; exact (pR ((Kd.R_mono (Kd.R_far (p := ⟨gb121, 2, none⟩) (Kd.R_far (p := ⟨gb121, 1, none⟩) (Kd.R_far (p := ⟨gb121, 0, none⟩) (Kd.R_types HO119.out BK121.out (by decide)) (fun _ hk => hk.2) (.int .i64 t115)) (fun _ hk => hk.2) (.int .i64 t116)) (fun _ hk => hk.2) (.slice Ao25 t117.length co25)) (fun _ h_ => h_.1))))); (case side2 => exact (Kd.R_reads' HO119.out).2.1); (case side3 => refine (Kd.R_reads' (e := 3) (base := w.heap.size) (ok := fun k_ => (True ∧ some k_ ≠ (.slice Ao25 t117.length co25 : Value).ownBlock)) (n := t107.length) (c := co18) ?_).2.2; exact (pR ((Kd.R_mono (Kd.R_far (p := ⟨gb121, 2, none⟩) (Kd.R_far (p := ⟨gb121, 1, none⟩) (Kd.R_far (p := ⟨gb121, 0, none⟩) (Kd.R_types HO109.out BK121.out (by decide)) (fun _ hk => hk.2) (.int .i64 t115)) (fun _ hk => hk.2) (.int .i64 t116)) (fun _ hk => hk.2) (.slice Ao25 t117.length co25)) (fun _ h_ => h_.1))))); (case side4 => exact (Kd.R_reads' HO109.out).2.1); rintro e w31 ⟨rfl, hb⟩; refine ⟨_, rfl, ?_⟩; have n0_ := aK (Kd.S_below (by (with_reducible repeat (first | apply Kd.S_alloc | apply Kd.S_drewN | apply Kd.S_drew)); exact (Kd.S_mono (Kd.S_far (p := ⟨gb121, 2, none⟩) (Kd.S_far (p := ⟨gb121, 1, none⟩) (Kd.S_far (p := ⟨gb121, 0, none⟩) (Kd.S_mono HO104.out (fun k_ hk => (⟨hk, hk.2⟩ : _ ∧ k_ ≠ gb121))) (fun _ hk => hk.2) (.int .i64 t115)) (fun _ hk => hk.2) (.int .i64 t116)) (fun _ hk => hk.2) (.slice Ao25 t117.length co25)) (fun _ h_ => h_.1))) hb); have n1_ := aK (Kd.R_below (pR ((Kd.R_mono (Kd.R_far (p := ⟨gb121, 2, none⟩) (Kd.R_far (p := ⟨gb121, 1, none⟩) (Kd.R_far (p := ⟨gb121, 0, none⟩) (Kd.R_types HO109.out BK121.out (by decide)) (fun _ hk => hk.2) (.int .i64 t115)) (fun _ hk => hk.2) (.int .i64 t116)) (fun _ hk => hk.2) (.slice Ao25 t117.length co25)) (fun _ h_ => h_.1)))) hb); have n2_ := aK (Kd.S_below (by (with_reducible repeat (first | apply Kd.S_alloc | apply Kd.S_drewN | apply Kd.S_drew)); exact (Kd.S_mono (Kd.S_far (p := ⟨gb121, 2, none⟩) (Kd.S_far (p := ⟨gb121, 1, none⟩) (Kd.S_far (p := ⟨gb121, 0, none⟩) (Kd.S_mono HO114.out (fun k_ hk => (⟨hk, hk.2⟩ : _ ∧ k_ ≠ gb121))) (fun _ hk => hk.2) (.int .i64 t115)) (fun _ hk => hk.2) (.int .i64 t116)) (fun _ hk => hk.2) (.slice Ao25 t117.length co25)) (fun _ h_ => h_.1))) hb); have n3_ := aK (Kd.R_below (pR ((Kd.R_mono (Kd.R_far (p := ⟨gb121, 2, none⟩) (Kd.R_far (p := ⟨gb121, 1, none⟩) (Kd.R_far (p := ⟨gb121, 0, none⟩) (Kd.R_types HO119.out BK121.out (by decide)) (fun _ hk => hk.2) (.int .i64 t115)) (fun _ hk => hk.2) (.int .i64 t116)) (fun _ hk => hk.2) (.slice Ao25 t117.length co25)) (fun _ h_ => h_.1)))) hb); have n4_ := aK (blk_below (g := gb111) (o := .cells #[.int .i64 t105, .int .i64 t106, .slice Ao18 t107.length co18] 42 (0, 0)) (by (with_reducible repeat (first | refine blk_drewN ?_ _ | refine blk_drew ?_ | refine blk_alloc ?_ _)); refine blk_far ?_ NB111_121.out _; (with_reducible repeat (first | refine blk_drewN ?_ _ | refine blk_drew ?_ | refine blk_alloc ?_ _)); refine blk_far ?_ NB111_121.out _; (with_reducible repeat (first | refine blk_drewN ?_ _ | refine blk_drew ?_ | refine blk_alloc ?_ _)); refine blk_far ?_ NB111_121.out _; (with_reducible repeat (first | refine blk_drewN ?_ _ | refine blk_drew ?_ | refine blk_alloc ?_ _)); exact BK111.out) hb); have n5_ := aK (blk_below (g := gb121) (o := .cells #[.int .i64 t115, .int .i64 t116, .slice Ao25 t117.length co25] 42 (0, 0)) (by (with_reducible repeat (first | refine blk_drewN ?_ _ | refine blk_drew ?_ | refine blk_alloc ?_ _)); refine blk_put (cs := #[.int .i64 t115, .int .i64 t116, .slice none 0 0]) ?_ 2 _ rfl; (with_reducible repeat (first | refine blk_drewN ?_ _ | refine blk_drew ?_ | refine blk_alloc ?_ _)); refine blk_put (cs := #[.int .i64 t115, .int .i64 0, .slice none 0 0]) ?_ 1 _ rfl; (with_reducible repeat (first | refine blk_drewN ?_ _ | refine blk_drew ?_ | refine blk_alloc ?_ _)); refine blk_put (cs := #[.int .i64 0, .int .i64 0, .slice none 0 0]) ?_ 0 _ rfl; (with_reducible repeat (first | refine blk_drewN ?_ _ | refine blk_drew ?_ | refine blk_alloc ?_ _)); exact BK121.out) hb); replace HB := bS HB hb; clear HO104 HO109 HO114 HO119 BK111 BK121; have HO104 := n0_; have HO109 := n1_; have HO114 := n2_; have HO119 := n3_; have BK111 := n4_; have BK121 := n5_; clear n0_ n1_ n2_ n3_ n4_ n5_; (try clear hb); (try clear hb2); (try clear hk); (try clear hi)))
    go_meet
    case rel => exact ⟨_, ((t120 != t110)), (by first | rfl | (simp; done) | (simp [*]; done)), H', ⟨by first | omega | exact Nat.le_refl _⟩, ⟨by (with_reducible repeat (first | apply Kd.S_alloc | apply Kd.S_drewN | apply Kd.S_drew)); exact Kd.S_mono HO114.out (fun _ hk => ⟨hk.1.1.1.2, ⟨hk.1.2, ⟨hk.1.1.2, hk.2⟩⟩⟩)⟩, ⟨by (with_reducible repeat (first | apply Kd.R_alloc | apply Kd.R_drewN | apply Kd.R_drew)); exact Kd.R_mono HO109.out (fun _ hk => hk.2)⟩, ⟨by (with_reducible repeat (first | apply Kd.R_alloc | apply Kd.R_drewN | apply Kd.R_drew)); exact Kd.R_mono HO119.out (fun _ hk => hk.2)⟩, ⟨by (with_reducible repeat (first | refine blk_drewN ?_ _ | refine blk_drew ?_ | refine blk_alloc ?_ _)); exact BK111.out⟩, ⟨by (with_reducible repeat (first | refine blk_drewN ?_ _ | refine blk_drew ?_ | refine blk_alloc ?_ _)); exact BK121.out⟩, ⟨by repeat (first | (with_reducible first | exact HB.out | apply below_alloc | apply pw_below_drewN | apply below_drew1 | refine below_set ?_ GE111.out | refine below_set ?_ GE121.out) | exact HB.out)⟩⟩
   ·
    replace c27 := Bool.eq_false_iff.mpr c27
    subst c27
    have H1 : (laws_FnExactQuantileField.j0 k l0 a1 a2 t110 t112 t120 true t105 t106 t107 t115 t116 t117) = some r := by rw [if_neg (show ¬ (false = true) by decide)] at H; exact H
    clear H
    have H := H1
    clear H1
    have H' := Aside0.mk H
    clear H
    have hnb32 := NB121_111.out
    have hnc32 := NB111_121.out
    have hcz33_0 : w22.cell? ⟨gb121, 0, none⟩ = some (.int .i64 0) := (blk_cell BK121.out 0).trans rfl
    have hcz33_1 : w22.cell? ⟨gb121, 1, none⟩ = some (.int .i64 0) := (blk_cell BK121.out 1).trans rfl
    have hcz33_2 : w22.cell? ⟨gb121, 2, none⟩ = some (.slice none 0 0) := (blk_cell BK121.out 2).trans rfl
    have hfz33_0 := blk_frozen BK121.out 0
    have hfz33_1 := blk_frozen BK121.out 1
    have hfz33_2 := blk_frozen BK121.out 2
    have hcz34_0 : w22.cell? ⟨gb111, 0, none⟩ = some (.int .i64 t105) := (blk_cell BK111.out 0).trans rfl
    have hcz34_1 : w22.cell? ⟨gb111, 1, none⟩ = some (.int .i64 t106) := (blk_cell BK111.out 1).trans rfl
    have hcz34_2 : w22.cell? ⟨gb111, 2, none⟩ = some (.slice Ao18 t107.length co18) := (blk_cell BK111.out 2).trans rfl
    have hfz34_0 := blk_frozen BK111.out 0
    have hfz34_1 := blk_frozen BK111.out 1
    have hfz34_2 := blk_frozen BK111.out 2
    go_wp2_with (first | ((with_reducible refine gate_callee (f := 35) rfl ?_); refine goesL_ (some 42) rfl rfl Try.func35 (by kernel_rfl) rfl #[.agg #[.int .i64 t115, .int .i64 t116, .slice Ao25 t117.length co25], .agg #[.int .i64 t105, .int .i64 t106, .slice Ao18 t107.length co18]] rfl (by (try simp only [List.map_toArray, List.map_cons, List.map_nil]); first | done | rfl | (simp only [List.length_drop, List.length_take]; rfl)) ?_; (with_reducible refine (laws_eqField.calls k t115 t116 _ _ t117 t105 t106 _ _ t107 false _ ?side1 ?side2 ?side3 ?side4 A26.out).mono ?_); (case side1 => refine (Kd.R_reads' (e := 3) (base := w.heap.size) (ok := fun k_ => (True ∧ some k_ ≠ (.slice Ao18 t107.length co18 : Value).ownBlock)) (n := t117.length) (c := co25) ?_).2.2; exact (pR ((Kd.R_mono (Kd.R_far (p := ⟨gb121, 2, none⟩) (Kd.R_far (p := ⟨gb121, 1, none⟩) (Kd.R_far (p := ⟨gb121, 0, none⟩) (Kd.R_types HO119.out BK121.out (by decide)) (fun _ hk => hk.2) (.int .i64 t115)) (fun _ hk => hk.2) (.int .i64 t116)) (fun _ hk => hk.2) (.slice Ao25 t117.length co25)) (fun _ h_ => h_.1))))); (case side2 => exact (Kd.R_reads' HO119.out).2.1); (case side3 => refine (Kd.R_reads' (e := 3) (base := w.heap.size) (ok := fun k_ => (True ∧ some k_ ≠ (.slice Ao25 t117.length co25 : Value).ownBlock)) (n := t107.length) (c := co18) ?_).2.2; exact (pR ((Kd.R_mono (Kd.R_far (p := ⟨gb121, 2, none⟩) (Kd.R_far (p := ⟨gb121, 1, none⟩) (Kd.R_far (p := ⟨gb121, 0, none⟩) (Kd.R_types HO109.out BK121.out (by decide)) (fun _ hk => hk.2) (.int .i64 t115)) (fun _ hk => hk.2) (.int .i64 t116)) (fun _ hk => hk.2) (.slice Ao25 t117.length co25)) (fun _ h_ => h_.1))))); (case side4 => exact (Kd.R_reads' HO109.out).2.1); rintro e w35 ⟨rfl, hb⟩; refine ⟨_, rfl, ?_⟩; have n0_ := aK (Kd.S_below (by (with_reducible repeat (first | apply Kd.S_alloc | apply Kd.S_drewN | apply Kd.S_drew)); exact (Kd.S_mono (Kd.S_far (p := ⟨gb121, 2, none⟩) (Kd.S_far (p := ⟨gb121, 1, none⟩) (Kd.S_far (p := ⟨gb121, 0, none⟩) (Kd.S_mono HO104.out (fun k_ hk => (⟨hk, hk.2⟩ : _ ∧ k_ ≠ gb121))) (fun _ hk => hk.2) (.int .i64 t115)) (fun _ hk => hk.2) (.int .i64 t116)) (fun _ hk => hk.2) (.slice Ao25 t117.length co25)) (fun _ h_ => h_.1))) hb); have n1_ := aK (Kd.R_below (pR ((Kd.R_mono (Kd.R_far (p := ⟨gb121, 2, none⟩) (Kd.R_far (p := ⟨gb121, 1, none⟩) (Kd.R_far (p := ⟨gb121, 0, none⟩) (Kd.R_types HO109.out BK121.out (by decide)) (fun _ hk => hk.2) (.int .i64 t115)) (fun _ hk => hk.2) (.int .i64 t116)) (fun _ hk => hk.2) (.slice Ao25 t117.length co25)) (fun _ h_ => h_.1)))) hb); have n2_ := aK (Kd.S_below (by (with_reducible repeat (first | apply Kd.S_alloc | apply Kd.S_drewN | apply Kd.S_drew)); exact (Kd.S_mono (Kd.S_far (p := ⟨gb121, 2, none⟩) (Kd.S_far (p := ⟨gb121, 1, none⟩) (Kd.S_far (p := ⟨gb121, 0, none⟩) (Kd.S_mono HO114.out (fun k_ hk => (⟨hk, hk.2⟩ : _ ∧ k_ ≠ gb121))) (fun _ hk => hk.2) (.int .i64 t115)) (fun _ hk => hk.2) (.int .i64 t116)) (fun _ hk => hk.2) (.slice Ao25 t117.length co25)) (fun _ h_ => h_.1))) hb); have n3_ := aK (Kd.R_below (pR ((Kd.R_mono (Kd.R_far (p := ⟨gb121, 2, none⟩) (Kd.R_far (p := ⟨gb121, 1, none⟩) (Kd.R_far (p := ⟨gb121, 0, none⟩) (Kd.R_types HO119.out BK121.out (by decide)) (fun _ hk => hk.2) (.int .i64 t115)) (fun _ hk => hk.2) (.int .i64 t116)) (fun _ hk => hk.2) (.slice Ao25 t117.length co25)) (fun _ h_ => h_.1)))) hb); have n4_ := aK (blk_below (g := gb111) (o := .cells #[.int .i64 t105, .int .i64 t106, .slice Ao18 t107.length co18] 42 (0, 0)) (by (with_reducible repeat (first | refine blk_drewN ?_ _ | refine blk_drew ?_ | refine blk_alloc ?_ _)); refine blk_far ?_ NB111_121.out _; (with_reducible repeat (first | refine blk_drewN ?_ _ | refine blk_drew ?_ | refine blk_alloc ?_ _)); refine blk_far ?_ NB111_121.out _; (with_reducible repeat (first | refine blk_drewN ?_ _ | refine blk_drew ?_ | refine blk_alloc ?_ _)); refine blk_far ?_ NB111_121.out _; (with_reducible repeat (first | refine blk_drewN ?_ _ | refine blk_drew ?_ | refine blk_alloc ?_ _)); exact BK111.out) hb); have n5_ := aK (blk_below (g := gb121) (o := .cells #[.int .i64 t115, .int .i64 t116, .slice Ao25 t117.length co25] 42 (0, 0)) (by (with_reducible repeat (first | refine blk_drewN ?_ _ | refine blk_drew ?_ | refine blk_alloc ?_ _)); refine blk_put (cs := #[.int .i64 t115, .int .i64 t116, .slice none 0 0]) ?_ 2 _ rfl; (with_reducible repeat (first | refine blk_drewN ?_ _ | refine blk_drew ?_ | refine blk_alloc ?_ _)); refine blk_put (cs := #[.int .i64 t115, .int .i64 0, .slice none 0 0]) ?_ 1 _ rfl; (with_reducible repeat (first | refine blk_drewN ?_ _ | refine blk_drew ?_ | refine blk_alloc ?_ _)); refine blk_put (cs := #[.int .i64 0, .int .i64 0, .slice none 0 0]) ?_ 0 _ rfl; (with_reducible repeat (first | refine blk_drewN ?_ _ | refine blk_drew ?_ | refine blk_alloc ?_ _)); exact BK121.out) hb); replace HB := bS HB hb; clear HO104 HO109 HO114 HO119 BK111 BK121; have HO104 := n0_; have HO109 := n1_; have HO114 := n2_; have HO119 := n3_; have BK111 := n4_; have BK121 := n5_; clear n0_ n1_ n2_ n3_ n4_ n5_; (try clear hb); (try clear hb2); (try clear hk); (try clear hi)))
    go_meet
    case rel => exact ⟨_, (true), (by first | rfl | (simp; done) | (simp [*]; done)), H', ⟨by first | omega | exact Nat.le_refl _⟩, ⟨by (with_reducible repeat (first | apply Kd.S_alloc | apply Kd.S_drewN | apply Kd.S_drew)); exact Kd.S_mono HO114.out (fun _ hk => ⟨hk.1.1.1.2, ⟨hk.1.2, ⟨hk.1.1.2, hk.2⟩⟩⟩)⟩, ⟨by (with_reducible repeat (first | apply Kd.R_alloc | apply Kd.R_drewN | apply Kd.R_drew)); exact Kd.R_mono HO109.out (fun _ hk => hk.2)⟩, ⟨by (with_reducible repeat (first | apply Kd.R_alloc | apply Kd.R_drewN | apply Kd.R_drew)); exact Kd.R_mono HO119.out (fun _ hk => hk.2)⟩, ⟨by (with_reducible repeat (first | refine blk_drewN ?_ _ | refine blk_drew ?_ | refine blk_alloc ?_ _)); exact BK111.out⟩, ⟨by (with_reducible repeat (first | refine blk_drewN ?_ _ | refine blk_drew ?_ | refine blk_alloc ?_ _)); exact BK121.out⟩, ⟨by repeat (first | (with_reducible first | exact HB.out | apply below_alloc | apply pw_below_drewN | apply below_drew1 | refine below_set ?_ GE111.out | refine below_set ?_ GE121.out) | exact HB.out)⟩⟩
  case rest =>
   clear HC11
   try clear c2
   try clear p2
   try clear c3
   try clear c4
   try clear c5
   try clear c5b0
   try clear c7
   try clear c23
   try clear c27
   try clear c28
   try clear c32
   try clear c35
   try clear hcz17_0
   try clear hcz17_1
   try clear hcz17_2
   try clear hcz24_0
   try clear hcz24_1
   try clear hcz24_2
   try clear hcz29_0
   try clear hcz29_1
   try clear hcz29_2
   try clear hcz30_0
   try clear hcz30_1
   try clear hcz30_2
   try clear hcz33_0
   try clear hcz33_1
   try clear hcz33_2
   try clear hcz34_0
   try clear hcz34_1
   try clear hcz34_2
   try clear hfz17_0
   try clear hfz17_1
   try clear hfz17_2
   try clear hfz24_0
   try clear hfz24_1
   try clear hfz24_2
   try clear hfz29_0
   try clear hfz29_1
   try clear hfz29_2
   try clear hfz30_0
   try clear hfz30_1
   try clear hfz30_2
   try clear hfz33_0
   try clear hfz33_1
   try clear hfz33_2
   try clear hfz34_0
   try clear hfz34_1
   try clear hfz34_2
   obtain ⟨kq, x48_10, rfl, HA, HJ10, HO_10, HO_112002, HO_122002, BK111, BK121, HB⟩ := hcut
   cases kq with
   | zero => exact absurd HA.out (by simp [laws_FnExactQuantileField.j0])
   | succ kj10 =>
    have H := HA.out
    clear HA
    simp only [laws_FnExactQuantileField.j0] at H
    by_cases c36 : x48_10 = true
    ·
     subst c36
     have H1 : (some false) = some r := by rw [if_pos rfl] at H; exact H
     clear H
     have H := H1
     clear H1
     obtain rfl := Option.some.inj H
     go_wp2
     go_ret
     exact ⟨by first | rfl | (simp [errW_none, errW_some] <;> rfl) | (simp [*, errW_none, errW_some] <;> rfl), by repeat (first | (with_reducible first | exact HB.out | apply below_alloc | apply pw_below_drewN | apply below_drew1 | refine below_set ?_ GE111.out | refine below_set ?_ GE121.out) | exact HB.out)⟩
    ·
     replace c36 := Bool.eq_false_iff.mpr c36
     subst c36
     have H1 : ((laws_toFieldS.f kj10 l0).bind fun t123 => ((laws_eqFieldS.f kj10 t112 t123).bind fun t126 => (if t126 = true then ((laws_markFieldS.f kj10 t112 1).bind fun bt127 => (if bt127.1 < 0 then (laws_FnExactQuantileField.j1 kj10 l0 a1 a2 t110 true t105 t106 t107 t115 t116 t117) else ((laws_eqField.f kj10 t115 t116 t117 t105 t106 t107).bind fun t129 => (if t129 = true then (laws_FnExactQuantileField.j1 kj10 l0 a1 a2 t110 (t120 != t110) t105 t106 t107 t115 t116 t117) else (laws_FnExactQuantileField.j1 kj10 l0 a1 a2 t110 true t105 t106 t107 t115 t116 t117))))) else (some false)))) = some r := by rw [if_neg (show ¬ (false = true) by decide)] at H; exact H
     clear H
     have H := H1
     clear H1
     replace H := Option.bind_eq_some_iff.mp H
     obtain ⟨t123, A370, H⟩ := H
     replace H : ((laws_eqFieldS.f kj10 t112 t123).bind fun t126 => (if t126 = true then ((laws_markFieldS.f kj10 t112 1).bind fun bt127 => (if bt127.1 < 0 then (laws_FnExactQuantileField.j1 kj10 l0 a1 a2 t110 true t105 t106 t107 t115 t116 t117) else ((laws_eqField.f kj10 t115 t116 t117 t105 t106 t107).bind fun t129 => (if t129 = true then (laws_FnExactQuantileField.j1 kj10 l0 a1 a2 t110 (t120 != t110) t105 t106 t107 t115 t116 t117) else (laws_FnExactQuantileField.j1 kj10 l0 a1 a2 t110 true t105 t106 t107 t115 t116 t117))))) else (some false))) = some r := H
     have A37 := Aside0.mk A370
     clear A370
     replace H := Option.bind_eq_some_iff.mp H
     obtain ⟨t126, A380, H⟩ := H
     replace H : (if t126 = true then ((laws_markFieldS.f kj10 t112 1).bind fun bt127 => (if bt127.1 < 0 then (laws_FnExactQuantileField.j1 kj10 l0 a1 a2 t110 true t105 t106 t107 t115 t116 t117) else ((laws_eqField.f kj10 t115 t116 t117 t105 t106 t107).bind fun t129 => (if t129 = true then (laws_FnExactQuantileField.j1 kj10 l0 a1 a2 t110 (t120 != t110) t105 t106 t107 t115 t116 t117) else (laws_FnExactQuantileField.j1 kj10 l0 a1 a2 t110 true t105 t106 t107 t115 t116 t117))))) else (some false)) = some r := H
     have A38 := Aside0.mk A380
     clear A380
     by_cases c39 : t126 = true
     ·
      subst c39
      have H1 : ((laws_markFieldS.f kj10 t112 1).bind fun bt127 => (if bt127.1 < 0 then (laws_FnExactQuantileField.j1 kj10 l0 a1 a2 t110 true t105 t106 t107 t115 t116 t117) else ((laws_eqField.f kj10 t115 t116 t117 t105 t106 t107).bind fun t129 => (if t129 = true then (laws_FnExactQuantileField.j1 kj10 l0 a1 a2 t110 (t120 != t110) t105 t106 t107 t115 t116 t117) else (laws_FnExactQuantileField.j1 kj10 l0 a1 a2 t110 true t105 t106 t107 t115 t116 t117))))) = some r := by rw [if_pos rfl] at H; exact H
      clear H
      have H := H1
      clear H1
      replace H := Option.bind_eq_some_iff.mp H
      obtain ⟨⟨t127, t128⟩, A400, H⟩ := H
      replace H : (if t127 < 0 then (laws_FnExactQuantileField.j1 kj10 l0 a1 a2 t110 true t105 t106 t107 t115 t116 t117) else ((laws_eqField.f kj10 t115 t116 t117 t105 t106 t107).bind fun t129 => (if t129 = true then (laws_FnExactQuantileField.j1 kj10 l0 a1 a2 t110 (t120 != t110) t105 t106 t107 t115 t116 t117) else (laws_FnExactQuantileField.j1 kj10 l0 a1 a2 t110 true t105 t106 t107 t115 t116 t117)))) = some r := H
      have A40 := Aside0.mk A400
      clear A400
      have HC41 := Aside0.mk H
      clear H
      go_upto_region 14 with (first | ((with_reducible refine gate_callee (f := 40) rfl ?_); refine goesL_ (some 51) rfl rfl Try.func40 (by kernel_rfl) rfl #[.slice A0 l0.length c0] rfl (by (try simp only [List.map_toArray, List.map_cons, List.map_nil]); first | done | rfl | (simp only [List.length_drop, List.length_take]; rfl)) ?_; (with_reducible refine (laws_toFieldS.calls kj10 _ _ l0 t123 _ ?side1 ?side2 A37.out).mono ?_); (case side1 => repeat (first | exact (Kd.C_below HR0.out HB.out) | (with_reducible refine Kd.C_alloc ?_ _) | (with_reducible refine Kd.C_drewN ?_ _) | (with_reducible refine Kd.C_drew ?_))); (case side2 => exact HC0.out); rintro e w42 ⟨v124, rfl, ho0, hb⟩; refine ⟨_, rfl, ?_⟩; have n0_ := aK (Kd.S_elder' (by (with_reducible repeat (first | apply Kd.S_alloc | apply Kd.S_drewN | apply Kd.S_drew)); exact HO_10.out) (Kd.S_base ho0) hb); have n1_ := aK (Kd.R_below (pR HO_112002.out) hb); have n2_ := aK (Kd.R_below (pR HO_122002.out) hb); have HO125 := aK (Kd.S_lower (Kd.S_newB (Kd.S_newB (Kd.S_new' (Kd.S_new' (Kd.S_new' ho0 (Kd.S_lt (by (with_reducible repeat (first | apply Kd.S_alloc | apply Kd.S_drewN | apply Kd.S_drew)); exact HO_10.out))) (Kd.R_lt (pR HO_112002.out))) (Kd.R_lt (pR HO_122002.out))) (g := gb111) (o := .cells #[.int .i64 t105, .int .i64 t106, .slice Ao18 t107.length co18] 42 (0, 0)) (pB BK111.out)) (g := gb121) (o := .cells #[.int .i64 t115, .int .i64 t116, .slice Ao25 t117.length co25] 42 (0, 0)) (pB BK121.out)) (below_size (pS HB.out))); replace BK111 := bB BK111 hb; replace BK121 := bB BK121 hb; replace HB := bS HB hb; clear HO_10 HO_112002 HO_122002; have HO_10 := n0_; have HO_112002 := n1_; have HO_122002 := n2_; clear n0_ n1_ n2_; (try clear hb); (try clear hb2); (try clear hk); (try clear hi); (try clear ho0); obtain ⟨Ao43, co43, eo43⟩ := Kd.S_slice HO125.out; subst eo43) | ((with_reducible refine gate_callee (f := 42) rfl ?_); refine goesL_ (some 52) rfl rfl Try.func42 (by kernel_rfl) rfl #[.slice Ao20 t112.length co20, .slice Ao43 t123.length co43] rfl (by (try simp only [List.map_toArray, List.map_cons, List.map_nil]); first | done | rfl | (simp only [List.length_drop, List.length_take]; rfl)) ?_; (with_reducible refine (laws_eqFieldS.calls kj10 _ _ t112 _ _ t123 true _ ?side1 ?side2 ?side3 ?side4 A38.out).mono ?_); (case side1 => repeat (first | exact (Kd.S_reads' HO_10.out).2.2 | (with_reducible refine Kd.C_alloc ?_ _) | (with_reducible refine Kd.C_drewN ?_ _) | (with_reducible refine Kd.C_drew ?_))); (case side2 => exact (Kd.S_reads' HO_10.out).2.1); (case side3 => repeat (first | exact (Kd.S_reads' HO125.out).2.2 | (with_reducible refine Kd.C_alloc ?_ _) | (with_reducible refine Kd.C_drewN ?_ _) | (with_reducible refine Kd.C_drew ?_))); (case side4 => exact (Kd.S_reads' HO125.out).2.1); rintro e w44 ⟨rfl, hb⟩; refine ⟨_, rfl, ?_⟩; have n0_ := aK (Kd.S_below (by (with_reducible repeat (first | apply Kd.S_alloc | apply Kd.S_drewN | apply Kd.S_drew)); exact HO_10.out) hb); have n1_ := aK (Kd.R_below (pR HO_112002.out) hb); have n2_ := aK (Kd.R_below (pR HO_122002.out) hb); have n3_ := aK (Kd.S_below (by (with_reducible repeat (first | apply Kd.S_alloc | apply Kd.S_drewN | apply Kd.S_drew)); exact HO125.out) hb); replace BK111 := bB BK111 hb; replace BK121 := bB BK121 hb; replace HB := bS HB hb; clear HO_10 HO_112002 HO_122002 HO125; have HO_10 := n0_; have HO_112002 := n1_; have HO_122002 := n2_; have HO125 := n3_; clear n0_ n1_ n2_ n3_; (try clear hb); (try clear hb2); (try clear hk); (try clear hi)) | ((with_reducible refine gate_callee (f := 43) rfl ?_); refine goesL_ (some 56) rfl rfl Try.func43 (by kernel_rfl) rfl #[.slice Ao20 t112.length co20, .int .i64 1] rfl (by (try simp only [List.map_toArray, List.map_cons, List.map_nil]); first | done | rfl | (simp only [List.length_drop, List.length_take]; rfl)) ?_; (with_reducible refine (laws_markFieldS.calls kj10 (fun k_ => (((some k_ ≠ (.slice Ao18 t107.length co18 : Value).ownBlock ∧ (some k_ ≠ (.slice Ao25 t117.length co25 : Value).ownBlock ∧ (k_ ≠ gb111 ∧ k_ ≠ gb121))) ∧ some k_ ≠ (.slice Ao43 t123.length co43 : Value).ownBlock) ∧ w.heap.size ≤ k_)) (.slice Ao20 t112.length co20) t112 1 t127 t128 w _ ?side1 ?side2 A40.out).mono ?_); (case side1 => repeat (first | (with_reducible first | exact HB.out | apply below_alloc | apply pw_below_drewN | apply below_drew1 | refine below_set ?_ GE111.out | refine below_set ?_ GE121.out) | exact HB.out)); (case side2 => exact Kd.S_mono (Kd.S_bound (HO_10.out)) (fun k_ hk_ => ⟨hk_.1, hk_.2.1⟩)); rintro e w45 ⟨rfl, hy0, hb, hkp⟩; refine ⟨_, rfl, ?_⟩; have n0_ := aK (Kd.S_mono (ok' := fun k_ => (some k_ ≠ (.slice Ao18 t107.length co18 : Value).ownBlock ∧ (some k_ ≠ (.slice Ao25 t117.length co25 : Value).ownBlock ∧ (k_ ≠ gb111 ∧ k_ ≠ gb121)))) hy0 (fun k_ hk_ => Or.elim hk_ (fun h_ => ⟨h_.1.1.1, ⟨h_.1.1.2.1, ⟨h_.1.1.2.2.1, h_.1.1.2.2.2⟩⟩⟩) (fun h_ => ⟨(fun e_ => Nat.not_le.2 (Kd.R_lt HO_112002.out k_ e_.symm) h_), ⟨(fun e_ => Nat.not_le.2 (Kd.R_lt HO_122002.out k_ e_.symm) h_), ⟨(fun e_ => Nat.not_le.2 (by rw [e_]; exact blk_lt BK111.out) h_), (fun e_ => Nat.not_le.2 (by rw [e_]; exact blk_lt BK121.out) h_)⟩⟩⟩))); have n1_ := aK (Kd.R_mono (ok' := fun k_ => some k_ ≠ (.slice Ao25 t117.length co25 : Value).ownBlock) (Kd.R_keptB ((Kd.R_mono (ok' := fun k_ => some k_ ≠ (.slice Ao25 t117.length co25 : Value).ownBlock ∧ ¬ (((some k_ ≠ (.slice Ao18 t107.length co18 : Value).ownBlock ∧ (some k_ ≠ (.slice Ao25 t117.length co25 : Value).ownBlock ∧ (k_ ≠ gb111 ∧ k_ ≠ gb121))) ∧ some k_ ≠ (.slice Ao43 t123.length co43 : Value).ownBlock) ∧ w.heap.size ≤ k_)) (Kd.R_tight2 rfl HO_112002.out) (fun k_ hk => ⟨hk.2, fun hs_ => (hs_.1.1.1) hk.1⟩))) hkp (fun k_ hk_ hs_ => (hk_.2) hs_)) (fun k_ hk_ => hk_.1.1)); have n2_ := aK (Kd.R_mono (ok' := fun k_ => some k_ ≠ (.slice Ao18 t107.length co18 : Value).ownBlock) (Kd.R_keptB ((Kd.R_mono (ok' := fun k_ => some k_ ≠ (.slice Ao18 t107.length co18 : Value).ownBlock ∧ ¬ (((some k_ ≠ (.slice Ao18 t107.length co18 : Value).ownBlock ∧ (some k_ ≠ (.slice Ao25 t117.length co25 : Value).ownBlock ∧ (k_ ≠ gb111 ∧ k_ ≠ gb121))) ∧ some k_ ≠ (.slice Ao43 t123.length co43 : Value).ownBlock) ∧ w.heap.size ≤ k_)) (Kd.R_tight2 rfl HO_122002.out) (fun k_ hk => ⟨hk.2, fun hs_ => (hs_.1.1.2.1) hk.1⟩))) hkp (fun k_ hk_ hs_ => (hk_.2) hs_)) (fun k_ hk_ => hk_.1.1)); have n3_ := aK (blk_kept (pB BK111.out) hkp (fun hs_ => (fun e_ => (e_.1.1.2.2.1) rfl) hs_)); have n4_ := aK (blk_kept (pB BK121.out) hkp (fun hs_ => (fun e_ => (e_.1.1.2.2.2) rfl) hs_)); have n5_ := aK (hb); clear HO_10 HO_112002 HO_122002 BK111 BK121 HB HO125; have HO_10 := n0_; have HO_112002 := n1_; have HO_122002 := n2_; have BK111 := n3_; have BK121 := n4_; have HB := n5_; clear n0_ n1_ n2_ n3_ n4_ n5_; (try clear hb); (try clear hkp); (try clear hy0)))
      (try simp only [Act.put, List.setIfInBounds_toArray, List.set_cons_zero, List.set_cons_succ])
      go_cut [69] (fun v69 wc => ∃ (kq : Nat) (x69_40 : Bool), v69 = .bool x69_40 ∧ Aside0 (laws_FnExactQuantileField.j1 kq l0 a1 a2 t110 x69_40 t105 t106 t107 t115 t116 t117 = some r) ∧ Aside0 (kq ≤ kj10) ∧ Aside0 (Kd.R (Kd.int .i64) 3 wc w.heap.size (fun k_ => some k_ ≠ ((.slice Ao25 t117.length co25) : Value).ownBlock) (.slice Ao18 t107.length co18) t107) ∧ Aside0 (Kd.R (Kd.int .i64) 3 wc w.heap.size (fun k_ => some k_ ≠ ((.slice Ao18 t107.length co18) : Value).ownBlock) (.slice Ao25 t117.length co25) t117) ∧ Aside0 (wc.heap[gb111]? = some (.cells #[.int .i64 t105, .int .i64 t106, (.slice Ao18 t107.length co18)] 42 (0, 0))) ∧ Aside0 (wc.heap[gb121]? = some (.cells #[.int .i64 t115, .int .i64 t116, (.slice Ao25 t117.length co25)] 42 (0, 0))) ∧ Aside0 (Below w.heap.size w wc))
      case first =>
       have H := HC41.out
       clear HC41
       by_cases c46 : t127 < 0
       ·
        rw [if_pos c46] at H
        have c46b0 : decide (t127 < 0) = true := decide_eq_true c46
        clear c46
        (first | rw [c46b0] | (simp only [i64_w, i32_w]; rw [c46b0]) | skip)
        have H' := Aside0.mk H
        clear H
        go_wp2
        go_meet
        case rel => exact ⟨_, (true), (by first | rfl | (simp; done) | (simp [*]; done)), H', ⟨by have := HJ10.out; first | omega | exact Nat.le_refl _⟩, ⟨by (with_reducible repeat (first | apply Kd.R_alloc | apply Kd.R_drewN | apply Kd.R_drew)); exact HO_112002.out⟩, ⟨by (with_reducible repeat (first | apply Kd.R_alloc | apply Kd.R_drewN | apply Kd.R_drew)); exact HO_122002.out⟩, ⟨by (with_reducible repeat (first | refine blk_drewN ?_ _ | refine blk_drew ?_ | refine blk_alloc ?_ _)); exact BK111.out⟩, ⟨by (with_reducible repeat (first | refine blk_drewN ?_ _ | refine blk_drew ?_ | refine blk_alloc ?_ _)); exact BK121.out⟩, ⟨by repeat (first | (with_reducible first | exact HB.out | apply below_alloc | apply pw_below_drewN | apply below_drew1 | refine below_set ?_ GE111.out | refine below_set ?_ GE121.out) | exact HB.out)⟩⟩
       ·
        rw [if_neg c46] at H
        have c46b0 : decide (t127 < 0) = false := decide_eq_false c46
        clear c46
        (first | rw [c46b0] | (simp only [i64_w, i32_w]; rw [c46b0]) | skip)
        replace H := Option.bind_eq_some_iff.mp H
        obtain ⟨t129, A470, H⟩ := H
        replace H : (if t129 = true then (laws_FnExactQuantileField.j1 kj10 l0 a1 a2 t110 (t120 != t110) t105 t106 t107 t115 t116 t117) else (laws_FnExactQuantileField.j1 kj10 l0 a1 a2 t110 true t105 t106 t107 t115 t116 t117)) = some r := H
        have A47 := Aside0.mk A470
        clear A470
        by_cases c48 : t129 = true
        ·
         subst c48
         have H1 : (laws_FnExactQuantileField.j1 kj10 l0 a1 a2 t110 (t120 != t110) t105 t106 t107 t115 t116 t117) = some r := by rw [if_pos rfl] at H; exact H
         clear H
         have H := H1
         clear H1
         have H' := Aside0.mk H
         clear H
         have hnb49 := NB121_111.out
         have hnc49 := NB111_121.out
         have hcz50_0 : w45.cell? ⟨gb121, 0, none⟩ = some (.int .i64 t115) := (blk_cell BK121.out 0).trans rfl
         have hcz50_1 : w45.cell? ⟨gb121, 1, none⟩ = some (.int .i64 t116) := (blk_cell BK121.out 1).trans rfl
         have hcz50_2 : w45.cell? ⟨gb121, 2, none⟩ = some (.slice Ao25 t117.length co25) := (blk_cell BK121.out 2).trans rfl
         have hfz50_0 := blk_frozen BK121.out 0
         have hfz50_1 := blk_frozen BK121.out 1
         have hfz50_2 := blk_frozen BK121.out 2
         have hcz51_0 : w45.cell? ⟨gb111, 0, none⟩ = some (.int .i64 t105) := (blk_cell BK111.out 0).trans rfl
         have hcz51_1 : w45.cell? ⟨gb111, 1, none⟩ = some (.int .i64 t106) := (blk_cell BK111.out 1).trans rfl
         have hcz51_2 : w45.cell? ⟨gb111, 2, none⟩ = some (.slice Ao18 t107.length co18) := (blk_cell BK111.out 2).trans rfl
         have hfz51_0 := blk_frozen BK111.out 0
         have hfz51_1 := blk_frozen BK111.out 1
         have hfz51_2 := blk_frozen BK111.out 2
         go_wp2_with (first | (go_at_call 35; (with_reducible refine (laws_eqField.calls kj10 t115 t116 _ _ t117 t105 t106 _ _ t107 true _ ?side1 ?side2 ?side3 ?side4 A47.out).mono ?_); (case side1 => repeat (first | exact (Kd.R_reads' HO_122002.out).2.2 | (with_reducible refine Kd.C_alloc ?_ _) | (with_reducible refine Kd.C_drewN ?_ _) | (with_reducible refine Kd.C_drew ?_))); (case side2 => exact (Kd.R_reads' HO_122002.out).2.1); (case side3 => repeat (first | exact (Kd.R_reads' HO_112002.out).2.2 | (with_reducible refine Kd.C_alloc ?_ _) | (with_reducible refine Kd.C_drewN ?_ _) | (with_reducible refine Kd.C_drew ?_))); (case side4 => exact (Kd.R_reads' HO_112002.out).2.1); rintro e w52 ⟨rfl, hb⟩; have n0_ := aK (Kd.S_below (by (with_reducible repeat (first | apply Kd.S_alloc | apply Kd.S_drewN | apply Kd.S_drew)); exact HO_10.out) hb); have n1_ := aK (Kd.R_below (pR HO_112002.out) hb); have n2_ := aK (Kd.R_below (pR HO_122002.out) hb); replace BK111 := bB BK111 hb; replace BK121 := bB BK121 hb; replace HB := bS HB hb; clear HO_10 HO_112002 HO_122002; have HO_10 := n0_; have HO_112002 := n1_; have HO_122002 := n2_; clear n0_ n1_ n2_; (try clear hb); (try clear hb2); (try clear hk); (try clear hi)))
         go_meet
         case rel => exact ⟨_, ((t120 != t110)), (by first | rfl | (simp; done) | (simp [*]; done)), H', ⟨by have := HJ10.out; first | omega | exact Nat.le_refl _⟩, ⟨by (with_reducible repeat (first | apply Kd.R_alloc | apply Kd.R_drewN | apply Kd.R_drew)); exact HO_112002.out⟩, ⟨by (with_reducible repeat (first | apply Kd.R_alloc | apply Kd.R_drewN | apply Kd.R_drew)); exact HO_122002.out⟩, ⟨by (with_reducible repeat (first | refine blk_drewN ?_ _ | refine blk_drew ?_ | refine blk_alloc ?_ _)); exact BK111.out⟩, ⟨by (with_reducible repeat (first | refine blk_drewN ?_ _ | refine blk_drew ?_ | refine blk_alloc ?_ _)); exact BK121.out⟩, ⟨by repeat (first | (with_reducible first | exact HB.out | apply below_alloc | apply pw_below_drewN | apply below_drew1 | refine below_set ?_ GE111.out | refine below_set ?_ GE121.out) | exact HB.out)⟩⟩
        ·
         replace c48 := Bool.eq_false_iff.mpr c48
         subst c48
         have H1 : (laws_FnExactQuantileField.j1 kj10 l0 a1 a2 t110 true t105 t106 t107 t115 t116 t117) = some r := by rw [if_neg (show ¬ (false = true) by decide)] at H; exact H
         clear H
         have H := H1
         clear H1
         have H' := Aside0.mk H
         clear H
         have hnb53 := NB121_111.out
         have hnc53 := NB111_121.out
         have hcz54_0 : w45.cell? ⟨gb121, 0, none⟩ = some (.int .i64 t115) := (blk_cell BK121.out 0).trans rfl
         have hcz54_1 : w45.cell? ⟨gb121, 1, none⟩ = some (.int .i64 t116) := (blk_cell BK121.out 1).trans rfl
         have hcz54_2 : w45.cell? ⟨gb121, 2, none⟩ = some (.slice Ao25 t117.length co25) := (blk_cell BK121.out 2).trans rfl
         have hfz54_0 := blk_frozen BK121.out 0
         have hfz54_1 := blk_frozen BK121.out 1
         have hfz54_2 := blk_frozen BK121.out 2
         have hcz55_0 : w45.cell? ⟨gb111, 0, none⟩ = some (.int .i64 t105) := (blk_cell BK111.out 0).trans rfl
         have hcz55_1 : w45.cell? ⟨gb111, 1, none⟩ = some (.int .i64 t106) := (blk_cell BK111.out 1).trans rfl
         have hcz55_2 : w45.cell? ⟨gb111, 2, none⟩ = some (.slice Ao18 t107.length co18) := (blk_cell BK111.out 2).trans rfl
         have hfz55_0 := blk_frozen BK111.out 0
         have hfz55_1 := blk_frozen BK111.out 1
         have hfz55_2 := blk_frozen BK111.out 2
         go_wp2_with (first | (go_at_call 35; (with_reducible refine (laws_eqField.calls kj10 t115 t116 _ _ t117 t105 t106 _ _ t107 false _ ?side1 ?side2 ?side3 ?side4 A47.out).mono ?_); (case side1 => repeat (first | exact (Kd.R_reads' HO_122002.out).2.2 | (with_reducible refine Kd.C_alloc ?_ _) | (with_reducible refine Kd.C_drewN ?_ _) | (with_reducible refine Kd.C_drew ?_))); (case side2 => exact (Kd.R_reads' HO_122002.out).2.1); (case side3 => repeat (first | exact (Kd.R_reads' HO_112002.out).2.2 | (with_reducible refine Kd.C_alloc ?_ _) | (with_reducible refine Kd.C_drewN ?_ _) | (with_reducible refine Kd.C_drew ?_))); (case side4 => exact (Kd.R_reads' HO_112002.out).2.1); rintro e w56 ⟨rfl, hb⟩; have n0_ := aK (Kd.S_below (by (with_reducible repeat (first | apply Kd.S_alloc | apply Kd.S_drewN | apply Kd.S_drew)); exact HO_10.out) hb); have n1_ := aK (Kd.R_below (pR HO_112002.out) hb); have n2_ := aK (Kd.R_below (pR HO_122002.out) hb); replace BK111 := bB BK111 hb; replace BK121 := bB BK121 hb; replace HB := bS HB hb; clear HO_10 HO_112002 HO_122002; have HO_10 := n0_; have HO_112002 := n1_; have HO_122002 := n2_; clear n0_ n1_ n2_; (try clear hb); (try clear hb2); (try clear hk); (try clear hi)))
         go_meet
         case rel => exact ⟨_, (true), (by first | rfl | (simp; done) | (simp [*]; done)), H', ⟨by have := HJ10.out; first | omega | exact Nat.le_refl _⟩, ⟨by (with_reducible repeat (first | apply Kd.R_alloc | apply Kd.R_drewN | apply Kd.R_drew)); exact HO_112002.out⟩, ⟨by (with_reducible repeat (first | apply Kd.R_alloc | apply Kd.R_drewN | apply Kd.R_drew)); exact HO_122002.out⟩, ⟨by (with_reducible repeat (first | refine blk_drewN ?_ _ | refine blk_drew ?_ | refine blk_alloc ?_ _)); exact BK111.out⟩, ⟨by (with_reducible repeat (first | refine blk_drewN ?_ _ | refine blk_drew ?_ | refine blk_alloc ?_ _)); exact BK121.out⟩, ⟨by repeat (first | (with_reducible first | exact HB.out | apply below_alloc | apply pw_below_drewN | apply below_drew1 | refine below_set ?_ GE111.out | refine below_set ?_ GE121.out) | exact HB.out)⟩⟩
      case rest =>
       clear HC41
       try clear c2
       try clear p2
       try clear c3
       try clear c4
       try clear c5
       try clear c5b0
       try clear c7
       try clear c23
       try clear c27
       try clear c28
       try clear c32
       try clear c35
       try clear c36
       try clear c38
       try clear c39
       try clear c40
       try clear c41
       try clear c42
       try clear c43
       try clear c46
       try clear c46b0
       try clear c48
       try clear c49
       try clear c53
       try clear hcz17_0
       try clear hcz17_1
       try clear hcz17_2
       try clear hcz24_0
       try clear hcz24_1
       try clear hcz24_2
       try clear hcz29_0
       try clear hcz29_1
       try clear hcz29_2
       try clear hcz30_0
       try clear hcz30_1
       try clear hcz30_2
       try clear hcz33_0
       try clear hcz33_1
       try clear hcz33_2
       try clear hcz34_0
       try clear hcz34_1
       try clear hcz34_2
       try clear hcz50_0
       try clear hcz50_1
       try clear hcz50_2
       try clear hcz51_0
       try clear hcz51_1
       try clear hcz51_2
       try clear hcz54_0
       try clear hcz54_1
       try clear hcz54_2
       try clear hcz55_0
       try clear hcz55_1
       try clear hcz55_2
       try clear hfz17_0
       try clear hfz17_1
       try clear hfz17_2
       try clear hfz24_0
       try clear hfz24_1
       try clear hfz24_2
       try clear hfz29_0
       try clear hfz29_1
       try clear hfz29_2
       try clear hfz30_0
       try clear hfz30_1
       try clear hfz30_2
       try clear hfz33_0
       try clear hfz33_1
       try clear hfz33_2
       try clear hfz34_0
       try clear hfz34_1
       try clear hfz34_2
       try clear hfz50_0
       try clear hfz50_1
       try clear hfz50_2
       try clear hfz51_0
       try clear hfz51_1
       try clear hfz51_2
       try clear hfz54_0
       try clear hfz54_1
       try clear hfz54_2
       try clear hfz55_0
       try clear hfz55_1
       try clear hfz55_2
       try clear p2
       obtain ⟨kq, x69_40, rfl, HA, HJ40, HO_112002, HO_122002, BK111, BK121, HB⟩ := hcut
       cases kq with
       | zero => exact absurd HA.out (by simp [laws_FnExactQuantileField.j1])
       | succ kj40 =>
        have H := HA.out
        clear HA
        simp only [laws_FnExactQuantileField.j1] at H
        by_cases c57 : x69_40 = true
        ·
         subst c57
         have H1 : (some false) = some r := by rw [if_pos rfl] at H; exact H
         clear H
         have H := H1
         clear H1
         obtain rfl := Option.some.inj H
         go_wp2
         go_ret
         exact ⟨by first | rfl | (simp [errW_none, errW_some] <;> rfl) | (simp [*, errW_none, errW_some] <;> rfl), by repeat (first | (with_reducible first | exact HB.out | apply below_alloc | apply pw_below_drewN | apply below_drew1) | exact HB.out)⟩
        ·
         replace c57 := Bool.eq_false_iff.mpr c57
         subst c57
         have H1 : ((laws_markField.f kj40 t115 t116 t117 1).bind fun bt130 => ((laws_heldField.f kj40 t115 t116 bt130.2 1).bind fun t132 => (if t132 < 0 then (some false) else (if t132 = bt130.1 then ((laws_toFieldS.f kj40 l0).bind fun t133 => ((impl_QuantileField.f kj40 t133 a1 a2).bind fun bt136 => ((laws_eqField.f kj40 bt136.1 bt136.2.1 bt136.2.2.1 t105 t106 t107).bind fun t143 => (if t143 = true then (laws_FnExactQuantileField.j2 kj40 bt130.1 (bt136.2.2.2 != t110) t115 t116 bt130.2) else (laws_FnExactQuantileField.j2 kj40 bt130.1 true t115 t116 bt130.2))))) else (some false))))) = some r := by rw [if_neg (show ¬ (false = true) by decide)] at H; exact H
         clear H
         have H := H1
         clear H1
         replace H := Option.bind_eq_some_iff.mp H
         obtain ⟨⟨t130, t131⟩, A580, H⟩ := H
         replace H : ((laws_heldField.f kj40 t115 t116 t131 1).bind fun t132 => (if t132 < 0 then (some false) else (if t132 = t130 then ((laws_toFieldS.f kj40 l0).bind fun t133 => ((impl_QuantileField.f kj40 t133 a1 a2).bind fun bt136 => ((laws_eqField.f kj40 bt136.1 bt136.2.1 bt136.2.2.1 t105 t106 t107).bind fun t143 => (if t143 = true then (laws_FnExactQuantileField.j2 kj40 t130 (bt136.2.2.2 != t110) t115 t116 t131) else (laws_FnExactQuantileField.j2 kj40 t130 true t115 t116 t131))))) else (some false)))) = some r := H
         have A58 := Aside0.mk A580
         clear A580
         replace H := Option.bind_eq_some_iff.mp H
         obtain ⟨t132, A590, H⟩ := H
         replace H : (if t132 < 0 then (some false) else (if t132 = t130 then ((laws_toFieldS.f kj40 l0).bind fun t133 => ((impl_QuantileField.f kj40 t133 a1 a2).bind fun bt136 => ((laws_eqField.f kj40 bt136.1 bt136.2.1 bt136.2.2.1 t105 t106 t107).bind fun t143 => (if t143 = true then (laws_FnExactQuantileField.j2 kj40 t130 (bt136.2.2.2 != t110) t115 t116 t131) else (laws_FnExactQuantileField.j2 kj40 t130 true t115 t116 t131))))) else (some false))) = some r := H
         have A59 := Aside0.mk A590
         clear A590
         by_cases c60 : t132 < 0
         ·
          rw [if_pos c60] at H
          have c60b0 : decide (t132 < 0) = true := decide_eq_true c60
          clear c60
          obtain rfl := Option.some.inj H
          have hcz61_0 : wc.cell? ⟨gb121, 0, none⟩ = some (.int .i64 t115) := (blk_cell BK121.out 0).trans rfl
          have hcz61_1 : wc.cell? ⟨gb121, 1, none⟩ = some (.int .i64 t116) := (blk_cell BK121.out 1).trans rfl
          have hcz61_2 : wc.cell? ⟨gb121, 2, none⟩ = some (.slice Ao25 t117.length co25) := (blk_cell BK121.out 2).trans rfl
          have hfz61_0 := blk_frozen BK121.out 0
          have hfz61_1 := blk_frozen BK121.out 1
          have hfz61_2 := blk_frozen BK121.out 2
          go_wp2_with (first | ((with_reducible refine gate_callee (f := 36) rfl ?_); refine goesL_ (some 72) rfl rfl Try.func36 (by kernel_rfl) rfl #[.agg #[.int .i64 t115, .int .i64 t116, .slice Ao25 t117.length co25], .int .i64 1] rfl (by (try simp only [List.map_toArray, List.map_cons, List.map_nil]); first | done | rfl | (simp only [List.length_drop, List.length_take]; rfl)) ?_; (with_reducible refine (laws_markField.calls kj40 t115 t116 (fun k_ => some k_ = (.slice Ao25 t117.length co25 : Value).ownBlock) (.slice Ao25 t117.length co25) t117 1 t130 t131 w _ ?side1 ?side2 A58.out).mono ?_); (case side1 => repeat (first | (with_reducible first | exact HB.out | apply below_alloc | apply pw_below_drewN | apply below_drew1 | refine below_set ?_ GE121.out) | exact HB.out)); (case side2 => exact Kd.R_tight rfl HO_122002.out); rintro e w62 ⟨rfl, hy0, hb, hkp⟩; refine ⟨_, rfl, ?_⟩; have n0_ := aK (Kd.R_mono (ok' := fun k_ => some k_ ≠ (.slice Ao25 t117.length co25 : Value).ownBlock) (Kd.R_keptB (HO_112002.out) hkp (fun k_ hk_ hs_ => (hk_) hs_)) (fun k_ hk_ => hk_.1)); have n1_ := aK (Kd.R_reok rfl hy0 (fun k_ e_ => HO_122002.out.1 k_ e_)); have n2_ := aK (blk_kept (pB BK121.out) hkp (fun hs_ => (fun e_ => (Kd.R_ne HO_122002.out BK121.out (by decide)) e_) hs_)); have n3_ := aK (hb); clear HO_112002 HO_122002 BK121 HB; have HO_112002 := n0_; have HO_122002 := n1_; have BK121 := n2_; have HB := n3_; clear n0_ n1_ n2_ n3_; (try clear hb); (try clear hkp); (try clear hy0); have hcz63_0 : w62.cell? ⟨gb121, 0, none⟩ = some (.int .i64 t115) := (blk_cell BK121.out 0).trans rfl; have hcz63_1 : w62.cell? ⟨gb121, 1, none⟩ = some (.int .i64 t116) := (blk_cell BK121.out 1).trans rfl; have hcz63_2 : w62.cell? ⟨gb121, 2, none⟩ = some (.slice Ao25 t117.length co25) := (blk_cell BK121.out 2).trans rfl; have hfz63_0 := blk_frozen BK121.out 0; have hfz63_1 := blk_frozen BK121.out 1; have hfz63_2 := blk_frozen BK121.out 2) | ((with_reducible refine gate_callee (f := 37) rfl ?_); refine goesL_ (some 75) rfl rfl Try.func37 (by kernel_rfl) rfl #[.agg #[.int .i64 t115, .int .i64 t116, .slice Ao25 t131.length co25], .int .i64 1] rfl (by (try simp only [List.map_toArray, List.map_cons, List.map_nil]); first | done | (rw [show t131.length = t117.length from (Kd.R_reads' HO_122002.out).1.symm] <;> rfl) | rfl | (simp only [List.length_drop, List.length_take]; rfl)) ?_; (with_reducible refine (laws_heldField.calls kj40 t115 t116 _ _ t131 1 t132 _ ?side1 ?side2 A59.out).mono ?_); (case side1 => repeat (first | exact (Kd.R_reads' HO_122002.out).2.2 | (with_reducible refine Kd.C_alloc ?_ _) | (with_reducible refine Kd.C_drewN ?_ _) | (with_reducible refine Kd.C_drew ?_))); (case side2 => rw [show t131.length = t117.length from (Kd.R_reads' HO_122002.out).1.symm]; exact (Kd.R_reads' HO_122002.out).2.1); rintro e w64 ⟨rfl, hb⟩; refine ⟨_, rfl, ?_⟩; have n0_ := aK (Kd.R_below (pR HO_112002.out) hb); have n1_ := aK (Kd.R_below (pR HO_122002.out) hb); replace HB := bS HB hb; clear HO_112002 HO_122002; have HO_112002 := n0_; have HO_122002 := n1_; clear n0_ n1_; (try clear hb); (try clear hb2); (try clear hk); (try clear hi)))
          go_ret
          exact ⟨by first | rfl | (simp [errW_none, errW_some] <;> rfl) | (simp [*, errW_none, errW_some] <;> rfl), by repeat (first | (with_reducible first | exact HB.out | apply below_alloc | apply pw_below_drewN | apply below_drew1) | exact HB.out)⟩
         ·
          rw [if_neg c60] at H
          have c60b0 : decide (t132 < 0) = false := decide_eq_false c60
          clear c60
          by_cases c65 : t132 = t130
          ·
           rw [if_pos c65] at H
           have c65b0 : (t132 == t130) = true := beq_iff_eq.mpr c65
           have c65b1 : (t132 != t130) = false := bne_eq_false_iff_eq.mpr c65
           clear c65
           replace H := Option.bind_eq_some_iff.mp H
           obtain ⟨t133, A660, H⟩ := H
           replace H : ((impl_QuantileField.f kj40 t133 a1 a2).bind fun bt136 => ((laws_eqField.f kj40 bt136.1 bt136.2.1 bt136.2.2.1 t105 t106 t107).bind fun t143 => (if t143 = true then (laws_FnExactQuantileField.j2 kj40 t130 (bt136.2.2.2 != t110) t115 t116 t131) else (laws_FnExactQuantileField.j2 kj40 t130 true t115 t116 t131)))) = some r := H
           have A66 := Aside0.mk A660
           clear A660
           replace H := Option.bind_eq_some_iff.mp H
           obtain ⟨⟨t136, t137, t138, t141⟩, A670, H⟩ := H
           replace H : ((laws_eqField.f kj40 t136 t137 t138 t105 t106 t107).bind fun t143 => (if t143 = true then (laws_FnExactQuantileField.j2 kj40 t130 (t141 != t110) t115 t116 t131) else (laws_FnExactQuantileField.j2 kj40 t130 true t115 t116 t131))) = some r := H
           have A67 := Aside0.mk A670
           clear A670
           have HC68 := Aside0.mk H
           clear H
           have hnb69 := NB121_111.out
           have hnc69 := NB111_121.out
           have hcz70_0 : wc.cell? ⟨gb121, 0, none⟩ = some (.int .i64 t115) := (blk_cell BK121.out 0).trans rfl
           have hcz70_1 : wc.cell? ⟨gb121, 1, none⟩ = some (.int .i64 t116) := (blk_cell BK121.out 1).trans rfl
           have hcz70_2 : wc.cell? ⟨gb121, 2, none⟩ = some (.slice Ao25 t117.length co25) := (blk_cell BK121.out 2).trans rfl
           have hfz70_0 := blk_frozen BK121.out 0
           have hfz70_1 := blk_frozen BK121.out 1
           have hfz70_2 := blk_frozen BK121.out 2
           go_upto_region 25 with (first | ((with_reducible refine gate_callee (f := 36) rfl ?_); refine goesL_ (some 72) rfl rfl Try.func36 (by kernel_rfl) rfl #[.agg #[.int .i64 t115, .int .i64 t116, .slice Ao25 t117.length co25], .int .i64 1] rfl (by (try simp only [List.map_toArray, List.map_cons, List.map_nil]); first | done | rfl | (simp only [List.length_drop, List.length_take]; rfl)) ?_; (with_reducible refine (laws_markField.calls kj40 t115 t116 (fun k_ => some k_ = (.slice Ao25 t117.length co25 : Value).ownBlock) (.slice Ao25 t117.length co25) t117 1 t130 t131 w _ ?side1 ?side2 A58.out).mono ?_); (case side1 => repeat (first | (with_reducible first | exact HB.out | apply below_alloc | apply pw_below_drewN | apply below_drew1 | refine below_set ?_ GE111.out | refine below_set ?_ GE121.out) | exact HB.out)); (case side2 => exact Kd.R_tight rfl HO_122002.out); rintro e w71 ⟨rfl, hy0, hb, hkp⟩; refine ⟨_, rfl, ?_⟩; have n0_ := aK (Kd.R_mono (ok' := fun k_ => some k_ ≠ (.slice Ao25 t117.length co25 : Value).ownBlock) (Kd.R_keptB (HO_112002.out) hkp (fun k_ hk_ hs_ => (hk_) hs_)) (fun k_ hk_ => hk_.1)); have n1_ := aK (Kd.R_reok rfl hy0 (fun k_ e_ => HO_122002.out.1 k_ e_)); have n2_ := aK (blk_kept (pB BK111.out) hkp (fun hs_ => (fun e_ => (Kd.R_ne HO_122002.out BK111.out (by decide)) e_) hs_)); have n3_ := aK (blk_kept (pB BK121.out) hkp (fun hs_ => (fun e_ => (Kd.R_ne HO_122002.out BK121.out (by decide)) e_) hs_)); have n4_ := aK (hb); clear HO_112002 HO_122002 BK111 BK121 HB; have HO_112002 := n0_; have HO_122002 := n1_; have BK111 := n2_; have BK121 := n3_; have HB := n4_; clear n0_ n1_ n2_ n3_ n4_; (try clear hb); (try clear hkp); (try clear hy0); have hcz72_0 : w71.cell? ⟨gb121, 0, none⟩ = some (.int .i64 t115) := (blk_cell BK121.out 0).trans rfl; have hcz72_1 : w71.cell? ⟨gb121, 1, none⟩ = some (.int .i64 t116) := (blk_cell BK121.out 1).trans rfl; have hcz72_2 : w71.cell? ⟨gb121, 2, none⟩ = some (.slice Ao25 t117.length co25) := (blk_cell BK121.out 2).trans rfl; have hfz72_0 := blk_frozen BK121.out 0; have hfz72_1 := blk_frozen BK121.out 1; have hfz72_2 := blk_frozen BK121.out 2) | ((with_reducible refine gate_callee (f := 37) rfl ?_); refine goesL_ (some 75) rfl rfl Try.func37 (by kernel_rfl) rfl #[.agg #[.int .i64 t115, .int .i64 t116, .slice Ao25 t131.length co25], .int .i64 1] rfl (by (try simp only [List.map_toArray, List.map_cons, List.map_nil]); first | done | (rw [show t131.length = t117.length from (Kd.R_reads' HO_122002.out).1.symm] <;> rfl) | rfl | (simp only [List.length_drop, List.length_take]; rfl)) ?_; (with_reducible refine (laws_heldField.calls kj40 t115 t116 _ _ t131 1 t132 _ ?side1 ?side2 A59.out).mono ?_); (case side1 => repeat (first | exact (Kd.R_reads' HO_122002.out).2.2 | (with_reducible refine Kd.C_alloc ?_ _) | (with_reducible refine Kd.C_drewN ?_ _) | (with_reducible refine Kd.C_drew ?_))); (case side2 => rw [show t131.length = t117.length from (Kd.R_reads' HO_122002.out).1.symm]; exact (Kd.R_reads' HO_122002.out).2.1); rintro e w73 ⟨rfl, hb⟩; refine ⟨_, rfl, ?_⟩; have n0_ := aK (Kd.R_below (pR HO_112002.out) hb); have n1_ := aK (Kd.R_below (pR HO_122002.out) hb); replace BK111 := bB BK111 hb; replace BK121 := bB BK121 hb; replace HB := bS HB hb; clear HO_112002 HO_122002; have HO_112002 := n0_; have HO_122002 := n1_; clear n0_ n1_; (try clear hb); (try clear hb2); (try clear hk); (try clear hi)) | ((with_reducible refine gate_callee (f := 40) rfl ?_); refine goesL_ (some 83) rfl rfl Try.func40 (by kernel_rfl) rfl #[.slice A0 l0.length c0] rfl (by (try simp only [List.map_toArray, List.map_cons, List.map_nil]); first | done | rfl | (simp only [List.length_drop, List.length_take]; rfl)) ?_; (with_reducible refine (laws_toFieldS.calls kj40 _ _ l0 t133 _ ?side1 ?side2 A66.out).mono ?_); (case side1 => repeat (first | exact (Kd.C_below HR0.out HB.out) | (with_reducible refine Kd.C_alloc ?_ _) | (with_reducible refine Kd.C_drewN ?_ _) | (with_reducible refine Kd.C_drew ?_))); (case side2 => exact HC0.out); rintro e w74 ⟨v134, rfl, ho0, hb⟩; refine ⟨_, rfl, ?_⟩; have n0_ := aK (Kd.R_below (pR HO_112002.out) hb); have n1_ := aK (Kd.R_below (pR HO_122002.out) hb); have HO135 := aK (Kd.S_lower (Kd.S_newB (Kd.S_newB (Kd.S_new' (Kd.S_new' ho0 (Kd.R_lt (pR HO_112002.out))) (Kd.R_lt (pR HO_122002.out))) (g := gb111) (o := .cells #[.int .i64 t105, .int .i64 t106, .slice Ao18 t107.length co18] 42 (0, 0)) (pB BK111.out)) (g := gb121) (o := .cells #[.int .i64 t115, .int .i64 t116, .slice Ao25 t117.length co25] 42 (0, 0)) (pB BK121.out)) (below_size (pS HB.out))); replace BK111 := bB BK111 hb; replace BK121 := bB BK121 hb; replace HB := bS HB hb; clear HO_112002 HO_122002; have HO_112002 := n0_; have HO_122002 := n1_; clear n0_ n1_; (try clear hb); (try clear hb2); (try clear hk); (try clear hi); (try clear ho0); obtain ⟨Ao75, co75, eo75⟩ := Kd.S_slice HO135.out; subst eo75) | ((with_reducible refine gate_callee (f := 41) rfl ?_); refine goesL_ (some 86) rfl rfl Try.func41 (by kernel_rfl) rfl #[.slice Ao75 t133.length co75, .int .i64 a1, .int .i64 a2] rfl (by (try simp only [List.map_toArray, List.map_cons, List.map_nil]); first | done | rfl | (simp only [List.length_drop, List.length_take]; rfl)) ?_; (with_reducible refine (impl_QuantileField.calls kj40 _ _ t133 a1 a2 t136 t137 t138 t141 _ ?side1 ?side2 A67.out).mono ?_); (case side1 => repeat (first | exact (Kd.S_reads' HO135.out).2.2 | (with_reducible refine Kd.C_alloc ?_ _) | (with_reducible refine Kd.C_drewN ?_ _) | (with_reducible refine Kd.C_drew ?_))); (case side2 => exact (Kd.S_reads' HO135.out).2.1); rintro e w76 ⟨v139, rfl, ho0, hb⟩; refine ⟨_, rfl, ?_⟩; have n0_ := aK (Kd.R_elder' (pR HO_112002.out) (Kd.R_base ho0) hb); have n1_ := aK (Kd.R_elder' (pR HO_122002.out) (Kd.R_base ho0) hb); have n2_ := aK (Kd.S_elder' (by (with_reducible repeat (first | apply Kd.S_alloc | apply Kd.S_drewN | apply Kd.S_drew)); exact HO135.out) (Kd.R_base ho0) hb); have HO140 := aK (Kd.R_lower (Kd.R_new' (Kd.R_new' ho0 (Kd.R_lt (pR HO_112002.out))) (Kd.R_lt (pR HO_122002.out))) (below_size (pS HB.out))); replace BK111 := bB BK111 hb; replace BK121 := bB BK121 hb; replace HB := bS HB hb; clear HO_112002 HO_122002 HO135; have HO_112002 := n0_; have HO_122002 := n1_; have HO135 := n2_; clear n0_ n1_ n2_; (try clear hb); (try clear hb2); (try clear hk); (try clear hi); (try clear ho0)) | ((with_reducible refine gate_dst (N := 16) rfl ?_); refine box_event ?hg (N := 16) ?hd (cs := #[.int .i64 0, .int .i64 0, .slice none 0 0]) (t := 42) ?hr ?_; (case hd => rfl); (case hg => rfl); (case hr => first | (go_simp; done) | (go_simp; rfl)); intro gb142 hg w77 hbox hb; have n0_ := aK (Kd.R_below (pR HO_112002.out) hb); have n1_ := aK (Kd.R_below (pR HO_122002.out) hb); have n2_ := aK (Kd.S_below (Kd.S_elderB (by (with_reducible repeat (first | apply Kd.S_alloc | apply Kd.S_drewN | apply Kd.S_drew)); exact HO135.out) gb142 (Nat.le_of_eq hg.symm)) hb); have n3_ := aK (Kd.R_below (pR HO140.out) hb); have BK142 := aK (hbox); have GW142 := aK (gE hg (pS HB.out)); have GE142 := aK (gE hg (pS HB.out)); have NB111_142 := aK (nL hg (pB BK111.out)); have NB142_111 := aK (nG hg (pB BK111.out)); have NB121_142 := aK (nL hg (pB BK121.out)); have NB142_121 := aK (nG hg (pB BK121.out)); replace BK111 := bB BK111 hb; replace BK121 := bB BK121 hb; replace HB := bS HB hb; clear HO_112002 HO_122002 HO135 HO140; have HO_112002 := n0_; have HO_122002 := n1_; have HO135 := n2_; have HO140 := n3_; clear n0_ n1_ n2_ n3_ hb hbox hg; have hnb78 := NB142_111.out; have hnc78 := NB111_142.out; have hnb79 := NB142_121.out; have hnc79 := NB121_142.out; have hcz80_0 : w77.cell? ⟨gb142, 0, none⟩ = some (.int .i64 0) := (blk_cell BK142.out 0).trans rfl; have hcz80_1 : w77.cell? ⟨gb142, 1, none⟩ = some (.int .i64 0) := (blk_cell BK142.out 1).trans rfl; have hcz80_2 : w77.cell? ⟨gb142, 2, none⟩ = some (.slice none 0 0) := (blk_cell BK142.out 2).trans rfl; have hfz80_0 := blk_frozen BK142.out 0; have hfz80_1 := blk_frozen BK142.out 1; have hfz80_2 := blk_frozen BK142.out 2; obtain ⟨Ao81, co81, eo81⟩ := Kd.R_slice HO140.out; subst eo81))
           (try simp only [Act.put, List.setIfInBounds_toArray, List.set_cons_zero, List.set_cons_succ])
           go_cut [97] (fun v97 wc => ∃ (kq : Nat) (x97_67 : Bool), v97 = .bool x97_67 ∧ Aside0 (laws_FnExactQuantileField.j2 kq t130 x97_67 t115 t116 t131 = some r) ∧ Aside0 (kq ≤ kj40) ∧ Aside0 (Kd.R (Kd.int .i64) 3 wc w.heap.size (fun _ => True) (.slice Ao25 t117.length co25) t131) ∧ Aside0 (wc.heap[gb121]? = some (.cells #[.int .i64 t115, .int .i64 t116, (.slice Ao25 t117.length co25)] 42 (0, 0))) ∧ Aside0 (Below w.heap.size w wc))
           case first =>
            have H := HC68.out
            clear HC68
            replace H := Option.bind_eq_some_iff.mp H
            obtain ⟨t143, A820, H⟩ := H
            replace H : (if t143 = true then (laws_FnExactQuantileField.j2 kj40 t130 (t141 != t110) t115 t116 t131) else (laws_FnExactQuantileField.j2 kj40 t130 true t115 t116 t131)) = some r := H
            have A82 := Aside0.mk A820
            clear A820
            by_cases c83 : t143 = true
            ·
             subst c83
             have H1 : (laws_FnExactQuantileField.j2 kj40 t130 (t141 != t110) t115 t116 t131) = some r := by rw [if_pos rfl] at H; exact H
             clear H
             have H := H1
             clear H1
             have H' := Aside0.mk H
             clear H
             have hnb84 := NB142_111.out
             have hnc84 := NB111_142.out
             have hnb85 := NB142_121.out
             have hnc85 := NB121_142.out
             have hcz86_0 : w77.cell? ⟨gb142, 0, none⟩ = some (.int .i64 0) := (blk_cell BK142.out 0).trans rfl
             have hcz86_1 : w77.cell? ⟨gb142, 1, none⟩ = some (.int .i64 0) := (blk_cell BK142.out 1).trans rfl
             have hcz86_2 : w77.cell? ⟨gb142, 2, none⟩ = some (.slice none 0 0) := (blk_cell BK142.out 2).trans rfl
             have hfz86_0 := blk_frozen BK142.out 0
             have hfz86_1 := blk_frozen BK142.out 1
             have hfz86_2 := blk_frozen BK142.out 2
             have hnb87 := NB111_121.out
             have hnc87 := NB121_111.out
             have hcz88_0 : w77.cell? ⟨gb111, 0, none⟩ = some (.int .i64 t105) := (blk_cell BK111.out 0).trans rfl
             have hcz88_1 : w77.cell? ⟨gb111, 1, none⟩ = some (.int .i64 t106) := (blk_cell BK111.out 1).trans rfl
             have hcz88_2 : w77.cell? ⟨gb111, 2, none⟩ = some (.slice Ao18 t107.length co18) := (blk_cell BK111.out 2).trans rfl
             have hfz88_0 := blk_frozen BK111.out 0
             have hfz88_1 := blk_frozen BK111.out 1
             have hfz88_2 := blk_frozen BK111.out 2
             go_wp2_with (first | ((with_reducible refine gate_callee (f := 35) rfl ?_); refine goesL_ (some 91) rfl rfl Try.func35 (by kernel_rfl) rfl #[.agg #[.int .i64 t136, .int .i64 t137, .slice Ao81 t138.length co81], .agg #[.int .i64 t105, .int .i64 t106, .slice Ao18 t107.length co18]] rfl (by (try simp only [List.map_toArray, List.map_cons, List.map_nil]); first | done | rfl | (simp only [List.length_drop, List.length_take]; rfl)) ?_; (with_reducible refine (laws_eqField.calls kj40 t136 t137 _ _ t138 t105 t106 _ _ t107 true _ ?side1 ?side2 ?side3 ?side4 A82.out).mono ?_); (case side1 => refine (Kd.R_reads' (e := 3) (base := w.heap.size) (ok := fun k_ => ((True ∧ some k_ ≠ (.slice Ao18 t107.length co18 : Value).ownBlock) ∧ some k_ ≠ (.slice Ao25 t117.length co25 : Value).ownBlock)) (n := t138.length) (c := co81) ?_).2.2; exact (pR ((Kd.R_mono (Kd.R_far (p := ⟨gb142, 2, none⟩) (Kd.R_far (p := ⟨gb142, 1, none⟩) (Kd.R_far (p := ⟨gb142, 0, none⟩) (Kd.R_types HO140.out BK142.out (by decide)) (fun _ hk => hk.2) (.int .i64 t136)) (fun _ hk => hk.2) (.int .i64 t137)) (fun _ hk => hk.2) (.slice Ao81 t138.length co81)) (fun _ h_ => h_.1))))); (case side2 => exact (Kd.R_reads' HO140.out).2.1); (case side3 => refine (Kd.R_reads' (e := 3) (base := w.heap.size) (ok := fun k_ => (some k_ ≠ (.slice Ao25 t117.length co25 : Value).ownBlock ∧ some k_ ≠ (.slice Ao81 t138.length co81 : Value).ownBlock)) (n := t107.length) (c := co18) ?_).2.2; exact (pR ((Kd.R_mono (Kd.R_far (p := ⟨gb142, 2, none⟩) (Kd.R_far (p := ⟨gb142, 1, none⟩) (Kd.R_far (p := ⟨gb142, 0, none⟩) (Kd.R_types HO_112002.out BK142.out (by decide)) (fun _ hk => hk.2) (.int .i64 t136)) (fun _ hk => hk.2) (.int .i64 t137)) (fun _ hk => hk.2) (.slice Ao81 t138.length co81)) (fun _ h_ => h_.1))))); (case side4 => exact (Kd.R_reads' HO_112002.out).2.1); rintro e w89 ⟨rfl, hb⟩; refine ⟨_, rfl, ?_⟩; have n0_ := aK (Kd.R_below (pR ((Kd.R_mono (Kd.R_far (p := ⟨gb142, 2, none⟩) (Kd.R_far (p := ⟨gb142, 1, none⟩) (Kd.R_far (p := ⟨gb142, 0, none⟩) (Kd.R_types HO_112002.out BK142.out (by decide)) (fun _ hk => hk.2) (.int .i64 t136)) (fun _ hk => hk.2) (.int .i64 t137)) (fun _ hk => hk.2) (.slice Ao81 t138.length co81)) (fun _ h_ => h_.1)))) hb); have n1_ := aK (Kd.R_below (pR ((Kd.R_mono (Kd.R_far (p := ⟨gb142, 2, none⟩) (Kd.R_far (p := ⟨gb142, 1, none⟩) (Kd.R_far (p := ⟨gb142, 0, none⟩) (Kd.R_types HO_122002.out BK142.out (by decide)) (fun _ hk => hk.2) (.int .i64 t136)) (fun _ hk => hk.2) (.int .i64 t137)) (fun _ hk => hk.2) (.slice Ao81 t138.length co81)) (fun _ h_ => h_.1)))) hb); have n2_ := aK (Kd.S_below (by (with_reducible repeat (first | apply Kd.S_alloc | apply Kd.S_drewN | apply Kd.S_drew)); exact (Kd.S_mono (Kd.S_far (p := ⟨gb142, 2, none⟩) (Kd.S_far (p := ⟨gb142, 1, none⟩) (Kd.S_far (p := ⟨gb142, 0, none⟩) (Kd.S_mono HO135.out (fun k_ hk => (⟨hk, hk.2⟩ : _ ∧ k_ ≠ gb142))) (fun _ hk => hk.2) (.int .i64 t136)) (fun _ hk => hk.2) (.int .i64 t137)) (fun _ hk => hk.2) (.slice Ao81 t138.length co81)) (fun _ h_ => h_.1))) hb); have n3_ := aK (Kd.R_below (pR ((Kd.R_mono (Kd.R_far (p := ⟨gb142, 2, none⟩) (Kd.R_far (p := ⟨gb142, 1, none⟩) (Kd.R_far (p := ⟨gb142, 0, none⟩) (Kd.R_types HO140.out BK142.out (by decide)) (fun _ hk => hk.2) (.int .i64 t136)) (fun _ hk => hk.2) (.int .i64 t137)) (fun _ hk => hk.2) (.slice Ao81 t138.length co81)) (fun _ h_ => h_.1)))) hb); have n4_ := aK (blk_below (g := gb111) (o := .cells #[.int .i64 t105, .int .i64 t106, .slice Ao18 t107.length co18] 42 (0, 0)) (by (with_reducible repeat (first | refine blk_drewN ?_ _ | refine blk_drew ?_ | refine blk_alloc ?_ _)); refine blk_far ?_ NB111_142.out _; (with_reducible repeat (first | refine blk_drewN ?_ _ | refine blk_drew ?_ | refine blk_alloc ?_ _)); refine blk_far ?_ NB111_142.out _; (with_reducible repeat (first | refine blk_drewN ?_ _ | refine blk_drew ?_ | refine blk_alloc ?_ _)); refine blk_far ?_ NB111_142.out _; (with_reducible repeat (first | refine blk_drewN ?_ _ | refine blk_drew ?_ | refine blk_alloc ?_ _)); exact BK111.out) hb); have n5_ := aK (blk_below (g := gb121) (o := .cells #[.int .i64 t115, .int .i64 t116, .slice Ao25 t117.length co25] 42 (0, 0)) (by (with_reducible repeat (first | refine blk_drewN ?_ _ | refine blk_drew ?_ | refine blk_alloc ?_ _)); refine blk_far ?_ NB121_142.out _; (with_reducible repeat (first | refine blk_drewN ?_ _ | refine blk_drew ?_ | refine blk_alloc ?_ _)); refine blk_far ?_ NB121_142.out _; (with_reducible repeat (first | refine blk_drewN ?_ _ | refine blk_drew ?_ | refine blk_alloc ?_ _)); refine blk_far ?_ NB121_142.out _; (with_reducible repeat (first | refine blk_drewN ?_ _ | refine blk_drew ?_ | refine blk_alloc ?_ _)); exact BK121.out) hb); have n6_ := aK (blk_below (g := gb142) (o := .cells #[.int .i64 t136, .int .i64 t137, .slice Ao81 t138.length co81] 42 (0, 0)) (by (with_reducible repeat (first | refine blk_drewN ?_ _ | refine blk_drew ?_ | refine blk_alloc ?_ _)); refine blk_put (cs := #[.int .i64 t136, .int .i64 t137, .slice none 0 0]) ?_ 2 _ rfl; (with_reducible repeat (first | refine blk_drewN ?_ _ | refine blk_drew ?_ | refine blk_alloc ?_ _)); refine blk_put (cs := #[.int .i64 t136, .int .i64 0, .slice none 0 0]) ?_ 1 _ rfl; (with_reducible repeat (first | refine blk_drewN ?_ _ | refine blk_drew ?_ | refine blk_alloc ?_ _)); refine blk_put (cs := #[.int .i64 0, .int .i64 0, .slice none 0 0]) ?_ 0 _ rfl; (with_reducible repeat (first | refine blk_drewN ?_ _ | refine blk_drew ?_ | refine blk_alloc ?_ _)); exact BK142.out) hb); replace HB := bS HB hb; clear HO_112002 HO_122002 HO135 HO140 BK111 BK121 BK142; have HO_112002 := n0_; have HO_122002 := n1_; have HO135 := n2_; have HO140 := n3_; have BK111 := n4_; have BK121 := n5_; have BK142 := n6_; clear n0_ n1_ n2_ n3_ n4_ n5_ n6_; (try clear hb); (try clear hb2); (try clear hk); (try clear hi)))
             go_meet
             case rel => exact ⟨_, ((t141 != t110)), (by first | rfl | (simp; done) | (simp [*]; done)), H', ⟨by have := HJ10.out; have := HJ40.out; first | omega | exact Nat.le_refl _⟩, ⟨by (with_reducible repeat (first | apply Kd.R_alloc | apply Kd.R_drewN | apply Kd.R_drew)); exact Kd.R_mono HO_122002.out (fun _ hk => trivial)⟩, ⟨by (with_reducible repeat (first | refine blk_drewN ?_ _ | refine blk_drew ?_ | refine blk_alloc ?_ _)); exact BK121.out⟩, ⟨by repeat (first | (with_reducible first | exact HB.out | apply below_alloc | apply pw_below_drewN | apply below_drew1 | refine below_set ?_ GE111.out | refine below_set ?_ GE121.out | refine below_set ?_ GE142.out) | exact HB.out)⟩⟩
            ·
             replace c83 := Bool.eq_false_iff.mpr c83
             subst c83
             have H1 : (laws_FnExactQuantileField.j2 kj40 t130 true t115 t116 t131) = some r := by rw [if_neg (show ¬ (false = true) by decide)] at H; exact H
             clear H
             have H := H1
             clear H1
             have H' := Aside0.mk H
             clear H
             have hnb90 := NB142_111.out
             have hnc90 := NB111_142.out
             have hnb91 := NB142_121.out
             have hnc91 := NB121_142.out
             have hcz92_0 : w77.cell? ⟨gb142, 0, none⟩ = some (.int .i64 0) := (blk_cell BK142.out 0).trans rfl
             have hcz92_1 : w77.cell? ⟨gb142, 1, none⟩ = some (.int .i64 0) := (blk_cell BK142.out 1).trans rfl
             have hcz92_2 : w77.cell? ⟨gb142, 2, none⟩ = some (.slice none 0 0) := (blk_cell BK142.out 2).trans rfl
             have hfz92_0 := blk_frozen BK142.out 0
             have hfz92_1 := blk_frozen BK142.out 1
             have hfz92_2 := blk_frozen BK142.out 2
             have hnb93 := NB111_121.out
             have hnc93 := NB121_111.out
             have hcz94_0 : w77.cell? ⟨gb111, 0, none⟩ = some (.int .i64 t105) := (blk_cell BK111.out 0).trans rfl
             have hcz94_1 : w77.cell? ⟨gb111, 1, none⟩ = some (.int .i64 t106) := (blk_cell BK111.out 1).trans rfl
             have hcz94_2 : w77.cell? ⟨gb111, 2, none⟩ = some (.slice Ao18 t107.length co18) := (blk_cell BK111.out 2).trans rfl
             have hfz94_0 := blk_frozen BK111.out 0
             have hfz94_1 := blk_frozen BK111.out 1
             have hfz94_2 := blk_frozen BK111.out 2
             go_wp2_with (first | ((with_reducible refine gate_callee (f := 35) rfl ?_); refine goesL_ (some 91) rfl rfl Try.func35 (by kernel_rfl) rfl #[.agg #[.int .i64 t136, .int .i64 t137, .slice Ao81 t138.length co81], .agg #[.int .i64 t105, .int .i64 t106, .slice Ao18 t107.length co18]] rfl (by (try simp only [List.map_toArray, List.map_cons, List.map_nil]); first | done | rfl | (simp only [List.length_drop, List.length_take]; rfl)) ?_; (with_reducible refine (laws_eqField.calls kj40 t136 t137 _ _ t138 t105 t106 _ _ t107 false _ ?side1 ?side2 ?side3 ?side4 A82.out).mono ?_); (case side1 => refine (Kd.R_reads' (e := 3) (base := w.heap.size) (ok := fun k_ => ((True ∧ some k_ ≠ (.slice Ao18 t107.length co18 : Value).ownBlock) ∧ some k_ ≠ (.slice Ao25 t117.length co25 : Value).ownBlock)) (n := t138.length) (c := co81) ?_).2.2; exact (pR ((Kd.R_mono (Kd.R_far (p := ⟨gb142, 2, none⟩) (Kd.R_far (p := ⟨gb142, 1, none⟩) (Kd.R_far (p := ⟨gb142, 0, none⟩) (Kd.R_types HO140.out BK142.out (by decide)) (fun _ hk => hk.2) (.int .i64 t136)) (fun _ hk => hk.2) (.int .i64 t137)) (fun _ hk => hk.2) (.slice Ao81 t138.length co81)) (fun _ h_ => h_.1))))); (case side2 => exact (Kd.R_reads' HO140.out).2.1); (case side3 => refine (Kd.R_reads' (e := 3) (base := w.heap.size) (ok := fun k_ => (some k_ ≠ (.slice Ao25 t117.length co25 : Value).ownBlock ∧ some k_ ≠ (.slice Ao81 t138.length co81 : Value).ownBlock)) (n := t107.length) (c := co18) ?_).2.2; exact (pR ((Kd.R_mono (Kd.R_far (p := ⟨gb142, 2, none⟩) (Kd.R_far (p := ⟨gb142, 1, none⟩) (Kd.R_far (p := ⟨gb142, 0, none⟩) (Kd.R_types HO_112002.out BK142.out (by decide)) (fun _ hk => hk.2) (.int .i64 t136)) (fun _ hk => hk.2) (.int .i64 t137)) (fun _ hk => hk.2) (.slice Ao81 t138.length co81)) (fun _ h_ => h_.1))))); (case side4 => exact (Kd.R_reads' HO_112002.out).2.1); rintro e w95 ⟨rfl, hb⟩; refine ⟨_, rfl, ?_⟩; have n0_ := aK (Kd.R_below (pR ((Kd.R_mono (Kd.R_far (p := ⟨gb142, 2, none⟩) (Kd.R_far (p := ⟨gb142, 1, none⟩) (Kd.R_far (p := ⟨gb142, 0, none⟩) (Kd.R_types HO_112002.out BK142.out (by decide)) (fun _ hk => hk.2) (.int .i64 t136)) (fun _ hk => hk.2) (.int .i64 t137)) (fun _ hk => hk.2) (.slice Ao81 t138.length co81)) (fun _ h_ => h_.1)))) hb); have n1_ := aK (Kd.R_below (pR ((Kd.R_mono (Kd.R_far (p := ⟨gb142, 2, none⟩) (Kd.R_far (p := ⟨gb142, 1, none⟩) (Kd.R_far (p := ⟨gb142, 0, none⟩) (Kd.R_types HO_122002.out BK142.out (by decide)) (fun _ hk => hk.2) (.int .i64 t136)) (fun _ hk => hk.2) (.int .i64 t137)) (fun _ hk => hk.2) (.slice Ao81 t138.length co81)) (fun _ h_ => h_.1)))) hb); have n2_ := aK (Kd.S_below (by (with_reducible repeat (first | apply Kd.S_alloc | apply Kd.S_drewN | apply Kd.S_drew)); exact (Kd.S_mono (Kd.S_far (p := ⟨gb142, 2, none⟩) (Kd.S_far (p := ⟨gb142, 1, none⟩) (Kd.S_far (p := ⟨gb142, 0, none⟩) (Kd.S_mono HO135.out (fun k_ hk => (⟨hk, hk.2⟩ : _ ∧ k_ ≠ gb142))) (fun _ hk => hk.2) (.int .i64 t136)) (fun _ hk => hk.2) (.int .i64 t137)) (fun _ hk => hk.2) (.slice Ao81 t138.length co81)) (fun _ h_ => h_.1))) hb); have n3_ := aK (Kd.R_below (pR ((Kd.R_mono (Kd.R_far (p := ⟨gb142, 2, none⟩) (Kd.R_far (p := ⟨gb142, 1, none⟩) (Kd.R_far (p := ⟨gb142, 0, none⟩) (Kd.R_types HO140.out BK142.out (by decide)) (fun _ hk => hk.2) (.int .i64 t136)) (fun _ hk => hk.2) (.int .i64 t137)) (fun _ hk => hk.2) (.slice Ao81 t138.length co81)) (fun _ h_ => h_.1)))) hb); have n4_ := aK (blk_below (g := gb111) (o := .cells #[.int .i64 t105, .int .i64 t106, .slice Ao18 t107.length co18] 42 (0, 0)) (by (with_reducible repeat (first | refine blk_drewN ?_ _ | refine blk_drew ?_ | refine blk_alloc ?_ _)); refine blk_far ?_ NB111_142.out _; (with_reducible repeat (first | refine blk_drewN ?_ _ | refine blk_drew ?_ | refine blk_alloc ?_ _)); refine blk_far ?_ NB111_142.out _; (with_reducible repeat (first | refine blk_drewN ?_ _ | refine blk_drew ?_ | refine blk_alloc ?_ _)); refine blk_far ?_ NB111_142.out _; (with_reducible repeat (first | refine blk_drewN ?_ _ | refine blk_drew ?_ | refine blk_alloc ?_ _)); exact BK111.out) hb); have n5_ := aK (blk_below (g := gb121) (o := .cells #[.int .i64 t115, .int .i64 t116, .slice Ao25 t117.length co25] 42 (0, 0)) (by (with_reducible repeat (first | refine blk_drewN ?_ _ | refine blk_drew ?_ | refine blk_alloc ?_ _)); refine blk_far ?_ NB121_142.out _; (with_reducible repeat (first | refine blk_drewN ?_ _ | refine blk_drew ?_ | refine blk_alloc ?_ _)); refine blk_far ?_ NB121_142.out _; (with_reducible repeat (first | refine blk_drewN ?_ _ | refine blk_drew ?_ | refine blk_alloc ?_ _)); refine blk_far ?_ NB121_142.out _; (with_reducible repeat (first | refine blk_drewN ?_ _ | refine blk_drew ?_ | refine blk_alloc ?_ _)); exact BK121.out) hb); have n6_ := aK (blk_below (g := gb142) (o := .cells #[.int .i64 t136, .int .i64 t137, .slice Ao81 t138.length co81] 42 (0, 0)) (by (with_reducible repeat (first | refine blk_drewN ?_ _ | refine blk_drew ?_ | refine blk_alloc ?_ _)); refine blk_put (cs := #[.int .i64 t136, .int .i64 t137, .slice none 0 0]) ?_ 2 _ rfl; (with_reducible repeat (first | refine blk_drewN ?_ _ | refine blk_drew ?_ | refine blk_alloc ?_ _)); refine blk_put (cs := #[.int .i64 t136, .int .i64 0, .slice none 0 0]) ?_ 1 _ rfl; (with_reducible repeat (first | refine blk_drewN ?_ _ | refine blk_drew ?_ | refine blk_alloc ?_ _)); refine blk_put (cs := #[.int .i64 0, .int .i64 0, .slice none 0 0]) ?_ 0 _ rfl; (with_reducible repeat (first | refine blk_drewN ?_ _ | refine blk_drew ?_ | refine blk_alloc ?_ _)); exact BK142.out) hb); replace HB := bS HB hb; clear HO_112002 HO_122002 HO135 HO140 BK111 BK121 BK142; have HO_112002 := n0_; have HO_122002 := n1_; have HO135 := n2_; have HO140 := n3_; have BK111 := n4_; have BK121 := n5_; have BK142 := n6_; clear n0_ n1_ n2_ n3_ n4_ n5_ n6_; (try clear hb); (try clear hb2); (try clear hk); (try clear hi)))
             go_meet
             case rel => exact ⟨_, (true), (by first | rfl | (simp; done) | (simp [*]; done)), H', ⟨by have := HJ10.out; have := HJ40.out; first | omega | exact Nat.le_refl _⟩, ⟨by (with_reducible repeat (first | apply Kd.R_alloc | apply Kd.R_drewN | apply Kd.R_drew)); exact Kd.R_mono HO_122002.out (fun _ hk => trivial)⟩, ⟨by (with_reducible repeat (first | refine blk_drewN ?_ _ | refine blk_drew ?_ | refine blk_alloc ?_ _)); exact BK121.out⟩, ⟨by repeat (first | (with_reducible first | exact HB.out | apply below_alloc | apply pw_below_drewN | apply below_drew1 | refine below_set ?_ GE111.out | refine below_set ?_ GE121.out | refine below_set ?_ GE142.out) | exact HB.out)⟩⟩
           case rest =>
            clear HC68
            try clear c2
            try clear p2
            try clear c3
            try clear c4
            try clear c5
            try clear c5b0
            try clear c6
            try clear c7
            try clear c8
            try clear c9
            try clear c23
            try clear c27
            try clear c28
            try clear c32
            try clear c35
            try clear c36
            try clear c37
            try clear c38
            try clear c39
            try clear c40
            try clear c41
            try clear c42
            try clear c43
            try clear c46
            try clear c46b0
            try clear c48
            try clear c49
            try clear c53
            try clear c57
            try clear c60
            try clear c60b0
            try clear c65
            try clear c65b0
            try clear c65b1
            try clear c69
            try clear c78
            try clear c79
            try clear c83
            try clear c84
            try clear c85
            try clear c87
            try clear c90
            try clear c91
            try clear c93
            try clear hcz17_0
            try clear hcz17_1
            try clear hcz17_2
            try clear hcz24_0
            try clear hcz24_1
            try clear hcz24_2
            try clear hcz29_0
            try clear hcz29_1
            try clear hcz29_2
            try clear hcz30_0
            try clear hcz30_1
            try clear hcz30_2
            try clear hcz33_0
            try clear hcz33_1
            try clear hcz33_2
            try clear hcz34_0
            try clear hcz34_1
            try clear hcz34_2
            try clear hcz50_0
            try clear hcz50_1
            try clear hcz50_2
            try clear hcz51_0
            try clear hcz51_1
            try clear hcz51_2
            try clear hcz54_0
            try clear hcz54_1
            try clear hcz54_2
            try clear hcz55_0
            try clear hcz55_1
            try clear hcz55_2
            try clear hcz61_0
            try clear hcz61_1
            try clear hcz61_2
            try clear hcz63_0
            try clear hcz63_1
            try clear hcz63_2
            try clear hcz70_0
            try clear hcz70_1
            try clear hcz70_2
            try clear hcz72_0
            try clear hcz72_1
            try clear hcz72_2
            try clear hcz80_0
            try clear hcz80_1
            try clear hcz80_2
            try clear hcz86_0
            try clear hcz86_1
            try clear hcz86_2
            try clear hcz88_0
            try clear hcz88_1
            try clear hcz88_2
            try clear hcz92_0
            try clear hcz92_1
            try clear hcz92_2
            try clear hcz94_0
            try clear hcz94_1
            try clear hcz94_2
            try clear hfz17_0
            try clear hfz17_1
            try clear hfz17_2
            try clear hfz24_0
            try clear hfz24_1
            try clear hfz24_2
            try clear hfz29_0
            try clear hfz29_1
            try clear hfz29_2
            try clear hfz30_0
            try clear hfz30_1
            try clear hfz30_2
            try clear hfz33_0
            try clear hfz33_1
            try clear hfz33_2
            try clear hfz34_0
            try clear hfz34_1
            try clear hfz34_2
            try clear hfz50_0
            try clear hfz50_1
            try clear hfz50_2
            try clear hfz51_0
            try clear hfz51_1
            try clear hfz51_2
            try clear hfz54_0
            try clear hfz54_1
            try clear hfz54_2
            try clear hfz55_0
            try clear hfz55_1
            try clear hfz55_2
            try clear hfz61_0
            try clear hfz61_1
            try clear hfz61_2
            try clear hfz63_0
            try clear hfz63_1
            try clear hfz63_2
            try clear hfz70_0
            try clear hfz70_1
            try clear hfz70_2
            try clear hfz72_0
            try clear hfz72_1
            try clear hfz72_2
            try clear hfz80_0
            try clear hfz80_1
            try clear hfz80_2
            try clear hfz86_0
            try clear hfz86_1
            try clear hfz86_2
            try clear hfz88_0
            try clear hfz88_1
            try clear hfz88_2
            try clear hfz92_0
            try clear hfz92_1
            try clear hfz92_2
            try clear hfz94_0
            try clear hfz94_1
            try clear hfz94_2
            try clear p2
            obtain ⟨kq, x97_67, rfl, HA, HJ67, HO_122002, BK121, HB⟩ := hcut
            have hl122002_67 := (Kd.R_reads' HO_122002.out).1
            rw [hl122002_67] at HO_122002
            (try simp only [hl122002_67])
            (try simp only [hl122002_67] at BK121)
            cases kq with
            | zero => exact absurd HA.out (by simp [laws_FnExactQuantileField.j2])
            | succ kj67 =>
             have H := HA.out
             clear HA
             simp only [laws_FnExactQuantileField.j2] at H
             by_cases c96 : x97_67 = true
             ·
              subst c96
              have H1 : (some false) = some r := by rw [if_pos rfl] at H; exact H
              clear H
              have H := H1
              clear H1
              obtain rfl := Option.some.inj H
              go_wp2
              go_ret
              exact ⟨by first | rfl | (simp [errW_none, errW_some] <;> rfl) | (simp [*, errW_none, errW_some] <;> rfl), by repeat (first | (with_reducible first | exact HB.out | apply below_alloc | apply pw_below_drewN | apply below_drew1) | exact HB.out)⟩
             ·
              replace c96 := Bool.eq_false_iff.mpr c96
              subst c96
              have H1 : ((laws_heldField.f kj67 t115 t116 t131 1).bind fun t144 => (if t144 < 0 then (some false) else (if t144 = t130 then (some true) else (some false)))) = some r := by rw [if_neg (show ¬ (false = true) by decide)] at H; exact H
              clear H
              have H := H1
              clear H1
              replace H := Option.bind_eq_some_iff.mp H
              obtain ⟨t144, A970, H⟩ := H
              replace H : (if t144 < 0 then (some false) else (if t144 = t130 then (some true) else (some false))) = some r := H
              have A97 := Aside0.mk A970
              clear A970
              by_cases c98 : t144 < 0
              ·
               rw [if_pos c98] at H
               have c98b0 : decide (t144 < 0) = true := decide_eq_true c98
               clear c98
               obtain rfl := Option.some.inj H
               have hcz99_0 : wc.cell? ⟨gb121, 0, none⟩ = some (.int .i64 t115) := (blk_cell BK121.out 0).trans rfl
               have hcz99_1 : wc.cell? ⟨gb121, 1, none⟩ = some (.int .i64 t116) := (blk_cell BK121.out 1).trans rfl
               have hcz99_2 : wc.cell? ⟨gb121, 2, none⟩ = some (.slice Ao25 t131.length co25) := (blk_cell BK121.out 2).trans rfl
               have hfz99_0 := blk_frozen BK121.out 0
               have hfz99_1 := blk_frozen BK121.out 1
               have hfz99_2 := blk_frozen BK121.out 2
               go_wp2_with (first | ((with_reducible refine gate_callee (f := 37) rfl ?_); refine goesL_ (some 100) rfl rfl Try.func37 (by kernel_rfl) rfl #[.agg #[.int .i64 t115, .int .i64 t116, .slice Ao25 t131.length co25], .int .i64 1] rfl (by (try simp only [List.map_toArray, List.map_cons, List.map_nil]); first | done | rfl | (simp only [List.length_drop, List.length_take]; rfl)) ?_; (with_reducible refine (laws_heldField.calls kj67 t115 t116 _ _ t131 1 t144 _ ?side1 ?side2 A97.out).mono ?_); (case side1 => repeat (first | exact (Kd.R_reads' HO_122002.out).2.2 | (with_reducible refine Kd.C_alloc ?_ _) | (with_reducible refine Kd.C_drewN ?_ _) | (with_reducible refine Kd.C_drew ?_))); (case side2 => exact (Kd.R_reads' HO_122002.out).2.1); rintro e w100 ⟨rfl, hb⟩; refine ⟨_, rfl, ?_⟩; have n0_ := aK (Kd.R_below (pR HO_122002.out) hb); replace HB := bS HB hb; clear HO_122002; have HO_122002 := n0_; clear n0_; (try clear hb); (try clear hb2); (try clear hk); (try clear hi)))
               go_ret
               exact ⟨by first | rfl | (simp [errW_none, errW_some] <;> rfl) | (simp [*, errW_none, errW_some] <;> rfl), by repeat (first | (with_reducible first | exact HB.out | apply below_alloc | apply pw_below_drewN | apply below_drew1) | exact HB.out)⟩
              ·
               rw [if_neg c98] at H
               have c98b0 : decide (t144 < 0) = false := decide_eq_false c98
               clear c98
               by_cases c101 : t144 = t130
               ·
                rw [if_pos c101] at H
                have c101b0 : (t144 == t130) = true := beq_iff_eq.mpr c101
                have c101b1 : (t144 != t130) = false := bne_eq_false_iff_eq.mpr c101
                clear c101
                obtain rfl := Option.some.inj H
                have hcz102_0 : wc.cell? ⟨gb121, 0, none⟩ = some (.int .i64 t115) := (blk_cell BK121.out 0).trans rfl
                have hcz102_1 : wc.cell? ⟨gb121, 1, none⟩ = some (.int .i64 t116) := (blk_cell BK121.out 1).trans rfl
                have hcz102_2 : wc.cell? ⟨gb121, 2, none⟩ = some (.slice Ao25 t131.length co25) := (blk_cell BK121.out 2).trans rfl
                have hfz102_0 := blk_frozen BK121.out 0
                have hfz102_1 := blk_frozen BK121.out 1
                have hfz102_2 := blk_frozen BK121.out 2
                go_wp2_with (first | ((with_reducible refine gate_callee (f := 37) rfl ?_); refine goesL_ (some 100) rfl rfl Try.func37 (by kernel_rfl) rfl #[.agg #[.int .i64 t115, .int .i64 t116, .slice Ao25 t131.length co25], .int .i64 1] rfl (by (try simp only [List.map_toArray, List.map_cons, List.map_nil]); first | done | rfl | (simp only [List.length_drop, List.length_take]; rfl)) ?_; (with_reducible refine (laws_heldField.calls kj67 t115 t116 _ _ t131 1 t144 _ ?side1 ?side2 A97.out).mono ?_); (case side1 => repeat (first | exact (Kd.R_reads' HO_122002.out).2.2 | (with_reducible refine Kd.C_alloc ?_ _) | (with_reducible refine Kd.C_drewN ?_ _) | (with_reducible refine Kd.C_drew ?_))); (case side2 => exact (Kd.R_reads' HO_122002.out).2.1); rintro e w103 ⟨rfl, hb⟩; refine ⟨_, rfl, ?_⟩; have n0_ := aK (Kd.R_below (pR HO_122002.out) hb); replace HB := bS HB hb; clear HO_122002; have HO_122002 := n0_; clear n0_; (try clear hb); (try clear hb2); (try clear hk); (try clear hi)))
                go_ret
                exact ⟨by first | rfl | (simp [errW_none, errW_some] <;> rfl) | (simp [*, errW_none, errW_some] <;> rfl), by repeat (first | (with_reducible first | exact HB.out | apply below_alloc | apply pw_below_drewN | apply below_drew1) | exact HB.out)⟩
               ·
                rw [if_neg c101] at H
                have c101b0 : (t144 == t130) = false := beq_eq_false_iff_ne.mpr c101
                have c101b1 : (t144 != t130) = true := bne_iff_ne.mpr c101
                obtain rfl := Option.some.inj H
                have hcz104_0 : wc.cell? ⟨gb121, 0, none⟩ = some (.int .i64 t115) := (blk_cell BK121.out 0).trans rfl
                have hcz104_1 : wc.cell? ⟨gb121, 1, none⟩ = some (.int .i64 t116) := (blk_cell BK121.out 1).trans rfl
                have hcz104_2 : wc.cell? ⟨gb121, 2, none⟩ = some (.slice Ao25 t131.length co25) := (blk_cell BK121.out 2).trans rfl
                have hfz104_0 := blk_frozen BK121.out 0
                have hfz104_1 := blk_frozen BK121.out 1
                have hfz104_2 := blk_frozen BK121.out 2
                go_wp2_with (first | ((with_reducible refine gate_callee (f := 37) rfl ?_); refine goesL_ (some 100) rfl rfl Try.func37 (by kernel_rfl) rfl #[.agg #[.int .i64 t115, .int .i64 t116, .slice Ao25 t131.length co25], .int .i64 1] rfl (by (try simp only [List.map_toArray, List.map_cons, List.map_nil]); first | done | rfl | (simp only [List.length_drop, List.length_take]; rfl)) ?_; (with_reducible refine (laws_heldField.calls kj67 t115 t116 _ _ t131 1 t144 _ ?side1 ?side2 A97.out).mono ?_); (case side1 => repeat (first | exact (Kd.R_reads' HO_122002.out).2.2 | (with_reducible refine Kd.C_alloc ?_ _) | (with_reducible refine Kd.C_drewN ?_ _) | (with_reducible refine Kd.C_drew ?_))); (case side2 => exact (Kd.R_reads' HO_122002.out).2.1); rintro e w105 ⟨rfl, hb⟩; refine ⟨_, rfl, ?_⟩; have n0_ := aK (Kd.R_below (pR HO_122002.out) hb); replace HB := bS HB hb; clear HO_122002; have HO_122002 := n0_; clear n0_; (try clear hb); (try clear hb2); (try clear hk); (try clear hi)))
                go_ret
                exact ⟨by first | rfl | (simp [errW_none, errW_some] <;> rfl) | (simp [*, errW_none, errW_some] <;> rfl), by repeat (first | (with_reducible first | exact HB.out | apply below_alloc | apply pw_below_drewN | apply below_drew1) | exact HB.out)⟩
          ·
           rw [if_neg c65] at H
           have c65b0 : (t132 == t130) = false := beq_eq_false_iff_ne.mpr c65
           have c65b1 : (t132 != t130) = true := bne_iff_ne.mpr c65
           obtain rfl := Option.some.inj H
           have hcz106_0 : wc.cell? ⟨gb121, 0, none⟩ = some (.int .i64 t115) := (blk_cell BK121.out 0).trans rfl
           have hcz106_1 : wc.cell? ⟨gb121, 1, none⟩ = some (.int .i64 t116) := (blk_cell BK121.out 1).trans rfl
           have hcz106_2 : wc.cell? ⟨gb121, 2, none⟩ = some (.slice Ao25 t117.length co25) := (blk_cell BK121.out 2).trans rfl
           have hfz106_0 := blk_frozen BK121.out 0
           have hfz106_1 := blk_frozen BK121.out 1
           have hfz106_2 := blk_frozen BK121.out 2
           go_wp2_with (first | ((with_reducible refine gate_callee (f := 36) rfl ?_); refine goesL_ (some 72) rfl rfl Try.func36 (by kernel_rfl) rfl #[.agg #[.int .i64 t115, .int .i64 t116, .slice Ao25 t117.length co25], .int .i64 1] rfl (by (try simp only [List.map_toArray, List.map_cons, List.map_nil]); first | done | rfl | (simp only [List.length_drop, List.length_take]; rfl)) ?_; (with_reducible refine (laws_markField.calls kj40 t115 t116 (fun k_ => some k_ = (.slice Ao25 t117.length co25 : Value).ownBlock) (.slice Ao25 t117.length co25) t117 1 t130 t131 w _ ?side1 ?side2 A58.out).mono ?_); (case side1 => repeat (first | (with_reducible first | exact HB.out | apply below_alloc | apply pw_below_drewN | apply below_drew1 | refine below_set ?_ GE121.out) | exact HB.out)); (case side2 => exact Kd.R_tight rfl HO_122002.out); rintro e w107 ⟨rfl, hy0, hb, hkp⟩; refine ⟨_, rfl, ?_⟩; have n0_ := aK (Kd.R_mono (ok' := fun k_ => some k_ ≠ (.slice Ao25 t117.length co25 : Value).ownBlock) (Kd.R_keptB (HO_112002.out) hkp (fun k_ hk_ hs_ => (hk_) hs_)) (fun k_ hk_ => hk_.1)); have n1_ := aK (Kd.R_reok rfl hy0 (fun k_ e_ => HO_122002.out.1 k_ e_)); have n2_ := aK (blk_kept (pB BK121.out) hkp (fun hs_ => (fun e_ => (Kd.R_ne HO_122002.out BK121.out (by decide)) e_) hs_)); have n3_ := aK (hb); clear HO_112002 HO_122002 BK121 HB; have HO_112002 := n0_; have HO_122002 := n1_; have BK121 := n2_; have HB := n3_; clear n0_ n1_ n2_ n3_; (try clear hb); (try clear hkp); (try clear hy0); have hcz108_0 : w107.cell? ⟨gb121, 0, none⟩ = some (.int .i64 t115) := (blk_cell BK121.out 0).trans rfl; have hcz108_1 : w107.cell? ⟨gb121, 1, none⟩ = some (.int .i64 t116) := (blk_cell BK121.out 1).trans rfl; have hcz108_2 : w107.cell? ⟨gb121, 2, none⟩ = some (.slice Ao25 t117.length co25) := (blk_cell BK121.out 2).trans rfl; have hfz108_0 := blk_frozen BK121.out 0; have hfz108_1 := blk_frozen BK121.out 1; have hfz108_2 := blk_frozen BK121.out 2) | ((with_reducible refine gate_callee (f := 37) rfl ?_); refine goesL_ (some 75) rfl rfl Try.func37 (by kernel_rfl) rfl #[.agg #[.int .i64 t115, .int .i64 t116, .slice Ao25 t131.length co25], .int .i64 1] rfl (by (try simp only [List.map_toArray, List.map_cons, List.map_nil]); first | done | (rw [show t131.length = t117.length from (Kd.R_reads' HO_122002.out).1.symm] <;> rfl) | rfl | (simp only [List.length_drop, List.length_take]; rfl)) ?_; (with_reducible refine (laws_heldField.calls kj40 t115 t116 _ _ t131 1 t132 _ ?side1 ?side2 A59.out).mono ?_); (case side1 => repeat (first | exact (Kd.R_reads' HO_122002.out).2.2 | (with_reducible refine Kd.C_alloc ?_ _) | (with_reducible refine Kd.C_drewN ?_ _) | (with_reducible refine Kd.C_drew ?_))); (case side2 => rw [show t131.length = t117.length from (Kd.R_reads' HO_122002.out).1.symm]; exact (Kd.R_reads' HO_122002.out).2.1); rintro e w109 ⟨rfl, hb⟩; refine ⟨_, rfl, ?_⟩; have n0_ := aK (Kd.R_below (pR HO_112002.out) hb); have n1_ := aK (Kd.R_below (pR HO_122002.out) hb); replace HB := bS HB hb; clear HO_112002 HO_122002; have HO_112002 := n0_; have HO_122002 := n1_; clear n0_ n1_; (try clear hb); (try clear hb2); (try clear hk); (try clear hi)))
           go_ret
           exact ⟨by first | rfl | (simp [errW_none, errW_some] <;> rfl) | (simp [*, errW_none, errW_some] <;> rfl), by repeat (first | (with_reducible first | exact HB.out | apply below_alloc | apply pw_below_drewN | apply below_drew1) | exact HB.out)⟩
     ·
      replace c39 := Bool.eq_false_iff.mpr c39
      subst c39
      have H1 : (some false) = some r := by rw [if_neg (show ¬ (false = true) by decide)] at H; exact H
      clear H
      have H := H1
      clear H1
      obtain rfl := Option.some.inj H
      go_wp2_with (first | ((with_reducible refine gate_callee (f := 40) rfl ?_); refine goesL_ (some 51) rfl rfl Try.func40 (by kernel_rfl) rfl #[.slice A0 l0.length c0] rfl (by (try simp only [List.map_toArray, List.map_cons, List.map_nil]); first | done | rfl | (simp only [List.length_drop, List.length_take]; rfl)) ?_; (with_reducible refine (laws_toFieldS.calls kj10 _ _ l0 t123 _ ?side1 ?side2 A37.out).mono ?_); (case side1 => repeat (first | exact (Kd.C_below HR0.out HB.out) | (with_reducible refine Kd.C_alloc ?_ _) | (with_reducible refine Kd.C_drewN ?_ _) | (with_reducible refine Kd.C_drew ?_))); (case side2 => exact HC0.out); rintro e w110 ⟨v124, rfl, ho0, hb⟩; refine ⟨_, rfl, ?_⟩; have n0_ := aK (Kd.S_elder' (by (with_reducible repeat (first | apply Kd.S_alloc | apply Kd.S_drewN | apply Kd.S_drew)); exact HO_10.out) (Kd.S_base ho0) hb); have n1_ := aK (Kd.R_below (pR HO_112002.out) hb); have n2_ := aK (Kd.R_below (pR HO_122002.out) hb); have HO125 := aK (Kd.S_lower (Kd.S_newB (Kd.S_newB (Kd.S_new' (Kd.S_new' (Kd.S_new' ho0 (Kd.S_lt (by (with_reducible repeat (first | apply Kd.S_alloc | apply Kd.S_drewN | apply Kd.S_drew)); exact HO_10.out))) (Kd.R_lt (pR HO_112002.out))) (Kd.R_lt (pR HO_122002.out))) (g := gb111) (o := .cells #[.int .i64 t105, .int .i64 t106, .slice Ao18 t107.length co18] 42 (0, 0)) (pB BK111.out)) (g := gb121) (o := .cells #[.int .i64 t115, .int .i64 t116, .slice Ao25 t117.length co25] 42 (0, 0)) (pB BK121.out)) (below_size (pS HB.out))); replace BK111 := bB BK111 hb; replace BK121 := bB BK121 hb; replace HB := bS HB hb; clear HO_10 HO_112002 HO_122002; have HO_10 := n0_; have HO_112002 := n1_; have HO_122002 := n2_; clear n0_ n1_ n2_; (try clear hb); (try clear hb2); (try clear hk); (try clear hi); (try clear ho0); obtain ⟨Ao111, co111, eo111⟩ := Kd.S_slice HO125.out; subst eo111) | ((with_reducible refine gate_callee (f := 42) rfl ?_); refine goesL_ (some 52) rfl rfl Try.func42 (by kernel_rfl) rfl #[.slice Ao20 t112.length co20, .slice Ao111 t123.length co111] rfl (by (try simp only [List.map_toArray, List.map_cons, List.map_nil]); first | done | rfl | (simp only [List.length_drop, List.length_take]; rfl)) ?_; (with_reducible refine (laws_eqFieldS.calls kj10 _ _ t112 _ _ t123 false _ ?side1 ?side2 ?side3 ?side4 A38.out).mono ?_); (case side1 => repeat (first | exact (Kd.S_reads' HO_10.out).2.2 | (with_reducible refine Kd.C_alloc ?_ _) | (with_reducible refine Kd.C_drewN ?_ _) | (with_reducible refine Kd.C_drew ?_))); (case side2 => exact (Kd.S_reads' HO_10.out).2.1); (case side3 => repeat (first | exact (Kd.S_reads' HO125.out).2.2 | (with_reducible refine Kd.C_alloc ?_ _) | (with_reducible refine Kd.C_drewN ?_ _) | (with_reducible refine Kd.C_drew ?_))); (case side4 => exact (Kd.S_reads' HO125.out).2.1); rintro e w112 ⟨rfl, hb⟩; refine ⟨_, rfl, ?_⟩; have n0_ := aK (Kd.S_below (by (with_reducible repeat (first | apply Kd.S_alloc | apply Kd.S_drewN | apply Kd.S_drew)); exact HO_10.out) hb); have n1_ := aK (Kd.R_below (pR HO_112002.out) hb); have n2_ := aK (Kd.R_below (pR HO_122002.out) hb); have n3_ := aK (Kd.S_below (by (with_reducible repeat (first | apply Kd.S_alloc | apply Kd.S_drewN | apply Kd.S_drew)); exact HO125.out) hb); replace BK111 := bB BK111 hb; replace BK121 := bB BK121 hb; replace HB := bS HB hb; clear HO_10 HO_112002 HO_122002 HO125; have HO_10 := n0_; have HO_112002 := n1_; have HO_122002 := n2_; have HO125 := n3_; clear n0_ n1_ n2_ n3_; (try clear hb); (try clear hb2); (try clear hk); (try clear hi)))
      go_ret
      exact ⟨by first | rfl | (simp [errW_none, errW_some] <;> rfl) | (simp [*, errW_none, errW_some] <;> rfl), by repeat (first | (with_reducible first | exact HB.out | apply below_alloc | apply pw_below_drewN | apply below_drew1 | refine below_set ?_ GE111.out | refine below_set ?_ GE121.out) | exact HB.out)⟩

/-- The one plain statement of FnExactQuantileField. -/
def laws_FnExactQuantileField.Pure : Prop := ∀ (l0 : List (S40)) (a1 : Int) (a2 : Int), (l0.length ≤ 9223372036854775807 ∧ ∀ z0 ∈ l0, (Lit.int .i64 z0.f0).wf = true ∧ (Lit.int .i64 z0.f1).wf = true ∧ (z0.f2.length ≤ 9223372036854775807 ∧ ∀ z1 ∈ z0.f2, (Lit.int .i64 z1).wf = true)) → l0.length * 40 ≤ 140737488351232 → (Lit.int .i64 a1).wf = true → (Lit.int .i64 a2).wf = true → ∃ k, laws_FnExactQuantileField.f k l0 a1 a2 = some true

end Go.Proofs.Ytbjbanemmoalhaa.P
/- What a Go argument reads as, opened into a Lean value of the print's kinds: whole numbers, slices, structs of two, three and four one-cell fields. No conditions. -/
namespace Go.Proofs.Ytbjbanemmoalhaa.Open
open Go.ChangeShapes Go.WideShapes Go.RowKit Go.Deep Go.Joins Go.Proofs.YtbjbanemmoalhaaW.PrintWords

/-- Whatever is read as a datum of type t holds a value of kind d that meets wf. -/
def Opens {α : Type} (P : Program) (t : TypeId) (d : Kd α) (wf : α → Prop) : Prop :=
  ∀ {H : Type} {enc : TypeId × Value → H} {W : World} {fuel : Nat} {cs : List Value} {x : DataW H × List MemPlace},
    DataW.trod enc P W 0 (fun _ => true) true fuel t cs = some x → ∃ y, d.K W y cs ∧ wf y

theorem opens_int {P : Program} {t : TypeId} {k : IntKind} (h : P.underlying t = some (.int k)) : Opens P t (Kd.int k) (fun n => (Lit.int k n).wf = true) := by
  intro H enc W fuel cs x hx
  obtain ⟨n, rfl, _, hw⟩ := DataW.trod_int h hx
  exact ⟨n, rfl, hw⟩

theorem list_of {α : Type} {p : Nat → α → Prop} : ∀ (n : Nat), (∀ i, i < n → ∃ y, p i y) → ∃ ys : List α, ys.length = n ∧ ∀ (i : Nat) (y : α), ys[i]? = some y → p i y
  | 0, _ => ⟨[], rfl, fun i y h => by simp at h⟩
  | n + 1, h => by
    obtain ⟨ys, hl, hy⟩ := list_of n (fun i hi => h i (by omega))
    obtain ⟨y, hp⟩ := h n (by omega)
    refine ⟨ys ++ [y], by simp [hl], fun i z hz => ?_⟩
    by_cases hi : i < n
    · rw [List.getElem?_append_left (by omega)] at hz
      exact hy i z hz
    · have hi2 : i = n := by
        have := (List.getElem?_eq_some_iff.1 hz).1
        simp [hl] at this
        omega
      subst hi2
      rw [List.getElem?_append_right (by omega), hl] at hz
      simp at hz
      subst hz
      exact hp

theorem opens_slice {α : Type} {P : Program} {t e : TypeId} {d : Kd α} {wf : α → Prop} (h : P.underlying t = some (.slice e)) (hc : P.cellsOf e = d.sz) (he : Opens P e d wf) :
    Opens P t (Kd.slice e d) (fun l => l.length ≤ 9223372036854775807 ∧ ∀ x ∈ l, wf x) := by
  intro H enc W fuel cs x hx
  rcases open_slice h hx with ⟨rfl, _⟩ | ⟨a, len, cap, m, n, D, Pl, rfl, _, hl, hm, hmm, _, hx⟩
  · exact ⟨[], ⟨none, 0, rfl, by simp, Kd.C_nil d W⟩, by simp, by simp⟩
  · obtain ⟨ys, hlen, hy⟩ := list_of (p := fun i y => ∃ cs', W.cells? 0 (a.add (i * P.cellsOf e)) (P.cellsOf e) = some cs' ∧ d.K W y cs' ∧ wf y) len (fun i hi => by
      obtain ⟨cs', h1, h2⟩ := hx i (by rw [hmm]; split <;> omega)
      obtain ⟨y, hK, hw⟩ := he h2
      exact ⟨y, cs', h1, hK, hw⟩)
    have hm' : cap ≤ 9223372036854775807 := by simpa [maxLen] using hm
    refine ⟨ys, ⟨some a, cap, by rw [hlen], by omega, ⟨rfl, by omega, fun _ => ⟨a, rfl, fun j y hj => ?_⟩⟩⟩, by omega, fun y hmem => ?_⟩
    · obtain ⟨cs', h1, hK, _⟩ := hy j y hj
      obtain ⟨_, hl2, hcell⟩ := World.cells?_some h1
      refine ⟨cs', d.K_len hK, hK, fun i u hu => ?_⟩
      have hi : i < P.cellsOf e := by
        have := (List.getElem?_eq_some_iff.1 hu).1
        omega
      rw [← hc, ← Go.Deep.add_add, hcell i hi]
      exact hu
    · obtain ⟨j, hj⟩ := List.getElem?_of_mem hmem
      obtain ⟨_, _, _, hw⟩ := hy j y hj
      exact hw

theorem opens3 {α0 α1 α2 : Type} {P : Program} {t : TypeId} {f0 f1 f2 : Field} {d0 : Kd α0} {d1 : Kd α1} {d2 : Kd α2} {w0 : α0 → Prop} {w1 : α1 → Prop} {w2 : α2 → Prop}
    (hs : P.underlying t = some (.struct #[f0, f1, f2])) (hone : oneCellFields P #[f0, f1, f2] = true) (hC : P.cellsOf t = 3) (h0 : Opens P f0.type d0 w0) (h1 : Opens P f1.type d1 w1) (h2 : Opens P f2.type d2 w2) :
    Opens P t (Kd.pair d0 (Kd.pair d1 d2)) (fun y => w0 y.1 ∧ w1 y.2.1 ∧ w2 y.2.2) := by
  intro H enc W fuel cs x hx
  obtain ⟨y0, y1, y2, n, _, hlen, e0, e1, e2⟩ := trod_struct3 hs hx
  rw [hC] at hlen
  match cs, hlen with
  | [c0, c1, c2], _ =>
    obtain ⟨o0, k0⟩ := hone_of hone 0 f0 rfl
    obtain ⟨o1, k1⟩ := hone_of hone 1 f1 rfl
    obtain ⟨o2, k2⟩ := hone_of hone 2 f2 rfl
    obtain ⟨z0, K0, W0⟩ := h0 (show DataW.trod enc P W 0 (fun _ => true) true n f0.type [c0] = some y0 by simpa [o0, k0] using e0)
    obtain ⟨z1, K1, W1⟩ := h1 (show DataW.trod enc P W 0 (fun _ => true) true n f1.type [c1] = some y1 by simpa [o1, k1] using e1)
    obtain ⟨z2, K2, W2⟩ := h2 (show DataW.trod enc P W 0 (fun _ => true) true n f2.type [c2] = some y2 by simpa [o2, k2] using e2)
    exact ⟨(z0, z1, z2), ⟨[c0], [c1, c2], rfl, K0, [c1], [c2], rfl, K1, K2⟩, W0, W1, W2⟩

theorem opens_iso {α β : Type} {P : Program} {t : TypeId} {d : Kd α} {wf : α → Prop} (h : Opens P t d wf) (f : β → α) (g : α → β) (hg : ∀ y, f (g y) = y) : Opens P t (Kd.iso d f) (fun s => wf (f s)) := by
  intro H enc W fuel cs x hx
  obtain ⟨y, hK, hw⟩ := h hx
  exact ⟨g y, show d.K W (f (g y)) cs by rw [hg]; exact hK, show wf (f (g y)) by rw [hg]; exact hw⟩

/-- A slice of whatever elements is no longer than its weight allows. -/
theorem sized_any {H : Type} {enc : TypeId × Value → H} {P : Program} {W : World} {base : Nat} {spare : Nat → Bool} {held : Bool} {t e : TypeId} {a : Option Addr} {len cap : Nat} {d : DataW H} {ps : List MemPlace} {ts : List TypeId} {ds : List (DataW H)} {j : Nat}
    (hsz : (DataW.weightsEach P ts ds).all (· ≤ reachBytes) = true) (ht : ts[j]? = some t) (hd : ds[j]? = some d) (hu : P.underlying t = some (.slice e)) {B : Nat} (hB : P.bytesOf e = B)
    (h : DataW.Trod enc P W base spare held t (.slice a len cap) d ps) : len * B ≤ 140737488351232 := by
  obtain ⟨fuel, hf⟩ := h
  rcases open_slice hu hf with ⟨hcs, _⟩ | ⟨x, l, c, m, n, D, Pl, hcs, _, hl, _, _, hx, _⟩
  · simp [Value.cells] at hcs
    obtain ⟨rfl, rfl, rfl⟩ := hcs
    simp
  · simp [Value.cells] at hcs
    obtain ⟨rfl, rfl, rfl⟩ := hcs
    obtain ⟨hx, _⟩ := Prod.mk.inj hx
    subst hx
    have z := sized_slice hsz ht hd hu
    rw [hB] at z
    refine Nat.le_trans (Nat.mul_le_mul_right _ ?_) z
    simp

/-- A slice's value and its reading, as one. -/
theorem slice_at {α : Type} {P : Program} {W : World} {t e : TypeId} {d : Kd α} {wf : List α → Prop} {H : Type} {enc : TypeId × Value → H} {a : Option Addr} {len cap : Nat} {dd : DataW H} {ps : List MemPlace} (ho : Opens P t (Kd.slice e d) wf)
    (h : DataW.Trod enc P W 0 (fun _ => true) true t (.slice a len cap) dd ps) : ∃ l : List α, len = l.length ∧ l.length ≤ cap ∧ d.C W a l.length l ∧ wf l := by
  obtain ⟨fuel, hf⟩ := h
  obtain ⟨l, ⟨A, c, hcs, hl, hC⟩, hw⟩ := ho hf
  simp [Value.cells] at hcs
  obtain ⟨rfl, rfl, rfl⟩ := hcs
  exact ⟨l, rfl, hl, hC, hw⟩

section
variable {P : Program} {t : TypeId} {W : World} {H : Type} {enc : TypeId × Value → H} {r : Reach} {b0 : Nat} {v : Value} {d : DataW H} {p : List MemPlace}
end

end Go.Proofs.Ytbjbanemmoalhaa.Open
namespace Go.Proofs.Ytbjbanemmoalhaa.P
open Go.RowKit Go.Proofs.YtbjbanemmoalhaaW.PrintWords Go.Proofs.YtbjbanemmoalhaaW.PrintLast Go.Proofs.YtbjbanemmoalhaaW.PrintMore
attribute [local go_sem] max2_int min2_int max_two min_two max_three min_three max_four min_four   -- for this text's walks alone
set_option linter.unusedVariables false
set_option linter.unusedSimpArgs false

open Go.Proofs.Ytbjbanemmoalhaa.Open
theorem opens40 : Opens Try.prog 40 k40 (fun x : S40 => (Lit.int .i64 x.f0).wf = true ∧ (Lit.int .i64 x.f1).wf = true ∧ (x.f2.length ≤ 9223372036854775807 ∧ ∀ z0 ∈ x.f2, (Lit.int .i64 z0).wf = true)) :=
  opens_iso (opens3 Try.underlying40 (by kernel_rfl) (by kernel_rfl) (opens_int Try.underlying3) (opens_int Try.underlying3) (opens_slice Try.underlying22 (by kernel_rfl) (opens_int Try.underlying3))) (fun x : S40 => (x.f0, x.f1, x.f2)) (fun y => (⟨y.1, y.2.1, y.2.2⟩ : S40)) (fun _ => rfl)
end Go.Proofs.Ytbjbanemmoalhaa.P
/- Plain words for the laws' plain proofs: rounds that end, loops over an index, lists read at an index. No conditions. -/
namespace Go.Proofs.Ytbjbanemmoalhaa.Pure
set_option linter.unusedVariables false
set_option linter.unusedSimpArgs false
open Go.RowKit Go.Proofs.YtbjbanemmoalhaaW.PrintWords Go.Proofs.YtbjbanemmoalhaaW.PrintLast Go.Proofs.YtbjbanemmoalhaaW.PrintMore

theorem w64 {x : Int} (h0 : -9223372036854775808 ≤ x) (h1 : x ≤ 9223372036854775807) : wrap64 x = x := by
  unfold wrap64
  omega
theorem rd_nat (xs : List Int) (i : Nat) : rd xs (i : Int) = xs.getD i 0 := by simp [rd]
section
variable {α β : Type} {f g : Nat → Option α} {r : α}
theorem ev_some (r : α) : Ev (fun _ => some r) r := ⟨0, fun _ _ => rfl⟩
theorem ev_ifp {c : Prop} [Decidable c] (h : c) (k : Ev f r) : Ev (fun n => if c then f n else g n) r := Ev.congr (fun _ => if_pos h) k
theorem ev_ifn {c : Prop} [Decidable c] (h : ¬ c) (k : Ev g r) : Ev (fun n => if c then f n else g n) r := Ev.congr (fun _ => if_neg h) k
theorem ev_bind {F : Nat → α → Option β} {q : β} (h : Ev g r) (k : Ev (fun n => F n r) q) : Ev (fun n => (g n).bind (fun x => F n x)) q := by
  obtain ⟨K1, h1⟩ := h
  obtain ⟨K2, h2⟩ := k
  exact ⟨K1 + K2, fun n hn => by show (g n).bind (fun x => F n x) = some q; rw [h1 n (by omega)]; exact h2 n (by omega)⟩
theorem ev_const {a : Option α} (h : a = some r) : Ev (fun _ => a) r := ⟨0, fun _ _ => h⟩
theorem ev_step (h : ∀ k, g (k + 1) = f k) (k : Ev f r) : Ev g r := by
  obtain ⟨K, h1⟩ := k
  refine ⟨K + 1, fun n hn => ?_⟩
  obtain ⟨m, rfl⟩ : ∃ m, n = m + 1 := ⟨n - 1, by omega⟩
  rw [h m]
  exact h1 m (by omega)
end

/-- A state that d rounds turn, from round i on. -/
def iter {σ : Type} (g : Nat → σ → σ) : Nat → Nat → σ → σ
  | _, 0, s => s
  | i, d + 1, s => iter g (i + 1) d (g i s)

theorem loop_ev {σ ρ : Type} (F : Nat → σ → Nat → Option ρ) (n : Nat) (g : Nat → σ → σ) (fin : σ → ρ) (I : Nat → σ → Prop)
    (hs : ∀ i s r, I i s → i < n → Ev (fun k => F k (g i s) (i + 1)) r → Ev (fun k => F k s i) r) (hI : ∀ i s, I i s → i < n → I (i + 1) (g i s))
    (he : ∀ s, I n s → Ev (fun k => F k s n) (fin s)) : ∀ i s, i ≤ n → I i s → Ev (fun k => F k s i) (fin (iter g i (n - i) s)) := by
  have key : ∀ d i s, n - i = d → i ≤ n → I i s → Ev (fun k => F k s i) (fin (iter g i d s)) := by
    intro d
    induction d with
    | zero =>
      intro i s h0 h1 h2
      obtain rfl : i = n := by omega
      exact he s h2
    | succ d ih =>
      intro i s h0 h1 h2
      exact hs i s _ h2 (by omega) (ih (i + 1) (g i s) (by omega) (by omega) (hI i s h2 (by omega)))
  exact fun i s h1 h2 => key (n - i) i s rfl h1 h2

theorem iter_inv {σ : Type} (g : Nat → σ → σ) (I : Nat → σ → Prop) (n : Nat) (hI : ∀ i s, I i s → i < n → I (i + 1) (g i s)) : ∀ d i s, i + d = n → I i s → I n (iter g i d s) := by
  intro d
  induction d with
  | zero => intro i s h0 h1; obtain rfl : i = n := by omega
            exact h1
  | succ d ih => intro i s h0 h1; exact ih (i + 1) _ (by omega) (hI i s h1 (by omega))

/-- Do all of d indices from i on say yes? -/
def rall (p : Nat → Bool) : Nat → Nat → Bool
  | _, 0 => true
  | i, d + 1 => p i && rall p (i + 1) d
theorem rall_iff (p : Nat → Bool) : ∀ d i, rall p i d = true ↔ ∀ j, i ≤ j → j < i + d → p j = true
  | 0, i => ⟨fun _ j h1 h2 => by omega, fun _ => rfl⟩
  | d + 1, i => by
    show (p i && rall p (i + 1) d) = true ↔ _
    rw [Bool.and_eq_true, rall_iff p d (i + 1)]
    constructor
    · rintro ⟨h0, h1⟩ j h2 h3
      by_cases e : j = i
      · rw [e]; exact h0
      · exact h1 j (by omega) (by omega)
    · intro h
      exact ⟨h i (Nat.le_refl _) (by omega), fun j h2 h3 => h j (by omega) (by omega)⟩
/-- A loop that ends with 'no' at the first index that fails, and with 'yes' (or what follows) behind all. -/
theorem all_ev {ρ : Type} (F : Nat → Nat → Option ρ) (n : Nat) (p : Nat → Bool) (no yes : ρ) (hs : ∀ i r, i < n → p i = true → Ev (fun k => F k (i + 1)) r → Ev (fun k => F k i) r)
    (hn : ∀ i, i < n → p i = false → Ev (fun k => F k i) no) (he : Ev (fun k => F k n) yes) :
    ∀ i, i ≤ n → Ev (fun k => F k i) (if rall p i (n - i) = true then yes else no) := by
  have key : ∀ d i, n - i = d → i ≤ n → Ev (fun k => F k i) (if rall p i d = true then yes else no) := by
    intro d
    induction d with
    | zero =>
      intro i h0 h1
      obtain rfl : i = n := by omega
      rw [show rall p i 0 = true from rfl, if_pos rfl]
      exact he
    | succ d ih =>
      intro i h0 h1
      have h := ih (i + 1) (by omega) (by omega)
      have e : rall p i (d + 1) = (p i && rall p (i + 1) d) := rfl
      cases hp : p i with
      | true =>
        rw [e, hp, Bool.true_and]
        exact hs i _ (by omega) hp h
      | false =>
        rw [e, hp, Bool.false_and, if_neg (by simp)]
        exact hn i (by omega) hp
  exact fun i h1 => key (n - i) i rfl h1
/-- The same, where the answer is a bool. -/
theorem allb_ev (F : Nat → Nat → Option Bool) (n : Nat) (p : Nat → Bool) (hs : ∀ i r, i < n → p i = true → Ev (fun k => F k (i + 1)) r → Ev (fun k => F k i) r)
    (hn : ∀ i, i < n → p i = false → Ev (fun k => F k i) false) (he : Ev (fun k => F k n) true) : Ev (fun k => F k 0) (rall p 0 n) := by
  have h := all_ev F n p false true hs hn he 0 (Nat.zero_le _)
  rw [Nat.sub_zero] at h
  cases e : rall p 0 n <;> simpa [e] using h

theorem getD_eq_get {α : Type} {xs : List α} {i : Nat} (z : α) (h : i < xs.length) : xs.getD i z = xs[i] := by simp [List.getD, List.getElem?_eq_getElem h]
theorem rall_list {α : Type} (xs : List α) (z : α) (p : α → Bool) : rall (fun j => p (xs.getD j z)) 0 xs.length = xs.all p := by
  rw [Bool.eq_iff_iff, rall_iff, List.all_eq_true]
  constructor
  · intro h x hx
    obtain ⟨i, hi, rfl⟩ := List.getElem_of_mem hx
    rw [← getD_eq_get z hi]
    exact h i (Nat.zero_le _) (by omega)
  · intro h j _ hj
    rw [getD_eq_get z (by omega)]
    exact h _ (List.getElem_mem (by omega))
theorem eq_index {α : Type} {xs ys : List α} (z : α) (h : xs.length = ys.length) (hh : ∀ j, j < xs.length → xs.getD j z = ys.getD j z) : xs = ys := by
  refine List.ext_getElem h (fun i h1 h2 => ?_)
  rw [← getD_eq_get z h1, ← getD_eq_get z h2]
  exact hh i h1
theorem rall_eq {α : Type} [DecidableEq α] {xs ys : List α} (z : α) (h : xs.length = ys.length) : rall (fun j => decide (xs.getD j z = ys.getD j z)) 0 xs.length = decide (xs = ys) := by
  rw [Bool.eq_iff_iff, rall_iff, decide_eq_true_eq]
  constructor
  · exact fun hh => eq_index z h (fun j hj => by simpa using hh j (Nat.zero_le _) (by omega))
  · rintro rfl j _ _
    simp

/-- A copy, element by element. -/
theorem copy_ev {α β : Type} (F : Nat → List β → Nat → Option (List β)) (xs : List α) (c : α → β) (z : α) (zb : β)
    (hs : ∀ i ys r, ys.length = xs.length → i < xs.length → Ev (fun k => F k (ys.set i (c (xs.getD i z))) (i + 1)) r → Ev (fun k => F k ys i) r)
    (he : ∀ ys, ys.length = xs.length → Ev (fun k => F k ys xs.length) ys) (ys0 : List β) (h0 : ys0.length = xs.length) : Ev (fun k => F k ys0 0) (xs.map c) := by
  have inv : ∀ i (s : List β), (s.length = xs.length ∧ ∀ j, j < i → s.getD j zb = (xs.map c).getD j zb) → i < xs.length → ((s.set i (c (xs.getD i z))).length = xs.length ∧ ∀ j, j < i + 1 → (s.set i (c (xs.getD i z))).getD j zb = (xs.map c).getD j zb) := by
    intro i s hI hi
    refine ⟨by simp [hI.1], fun j hj => ?_⟩
    by_cases e : j = i
    · subst e
      have := hI.1
      simp [List.getD, List.getElem?_set_self (show j < s.length by omega), List.getElem?_eq_getElem hi]
    · rw [← hI.2 j (by omega)]
      simp [List.getD, List.getElem?_set_ne (Ne.symm e)]
  have h := loop_ev F xs.length (fun i ys => ys.set i (c (xs.getD i z))) (fun ys => ys) (fun i s => s.length = xs.length ∧ ∀ j, j < i → s.getD j zb = (xs.map c).getD j zb)
    (fun i ys r hI hi h => hs i ys r hI.1 hi h) inv (fun ys hI => he ys hI.1) 0 ys0 (Nat.zero_le _) ⟨h0, fun j hj => by omega⟩
  have hi := iter_inv (fun i (ys : List β) => ys.set i (c (xs.getD i z))) (fun i s => s.length = xs.length ∧ ∀ j, j < i → s.getD j zb = (xs.map c).getD j zb) xs.length inv (xs.length - 0) 0 ys0 (by omega) ⟨h0, fun j hj => by omega⟩
  rw [eq_index zb (by rw [hi.1, List.length_map]) (fun j hj => hi.2 j (by have := hi.1; omega))] at h
  exact h
end Go.Proofs.Ytbjbanemmoalhaa.Pure
/- 'Within' of the program and of the reference: the same test. No conditions. -/
namespace Go.Proofs.Ytbjbanemmoalhaa.Pure
set_option linter.unusedVariables false
set_option linter.unusedSimpArgs false
open Go.RowKit Go.Proofs.Ytbjbanemmoalhaa.P Go.Proofs.YtbjbanemmoalhaaW.PrintWords Go.Proofs.YtbjbanemmoalhaaW.PrintLast
def inb (x a b : Int) : Bool := decide (a ≤ x) && decide (x ≤ b)
theorem inb_iff {x a b : Int} : inb x a b = true ↔ a ≤ x ∧ x ≤ b := by simp [inb]
theorem l1In_is (x a b : Int) : spec_l1In.f x a b = some (inb x a b) := by
  unfold spec_l1In.f inb
  split
  · rename_i h; simp [show a ≤ x from h]
  · rename_i h; simp [show ¬ a ≤ x from h]
theorem within_is (x a b : Int) : impl_within.f x a b = some (inb x a b) := l1In_is x a b
end Go.Proofs.Ytbjbanemmoalhaa.Pure
/- A field is valid in the program just when it is valid in the reference. No conditions. -/
namespace Go.Proofs.Ytbjbanemmoalhaa.Pure
set_option linter.unusedVariables false
set_option linter.unusedSimpArgs false
open Go.RowKit Go.Proofs.Ytbjbanemmoalhaa.P Go.Proofs.YtbjbanemmoalhaaW.PrintWords Go.Proofs.YtbjbanemmoalhaaW.PrintLast
def cellOk (x : Int) : Bool := decide (x = -9999) || inb x (-9000) 9000
def fieldOk (a b : Int) (l : List Int) : Bool := inb a 1 8 && (inb b 1 8 && (decide ((l.length : Int) = a * b) && l.all cellOk))
structure FieldIs (a b : Int) (l : List Int) : Prop where
  a1 : 1 ≤ a
  a8 : a ≤ 8
  b1 : 1 ≤ b
  b8 : b ≤ 8
  len : (l.length : Int) = a * b
  cells : ∀ x ∈ l, cellOk x = true
theorem fieldOk_iff {a b : Int} {l : List Int} : fieldOk a b l = true ↔ FieldIs a b l := by
  unfold fieldOk
  rw [Bool.and_eq_true, Bool.and_eq_true, Bool.and_eq_true, inb_iff, inb_iff, decide_eq_true_eq, List.all_eq_true]
  exact ⟨fun ⟨⟨h1, h2⟩, ⟨h3, h4⟩, h5, h6⟩ => ⟨h1, h2, h3, h4, h5, h6⟩, fun h => ⟨⟨h.a1, h.a8⟩, ⟨h.b1, h.b8⟩, h.len, h.cells⟩⟩
theorem mul_bd {a b : Int} (a1 : 1 ≤ a) (a8 : a ≤ 8) (b1 : 1 ≤ b) (b8 : b ≤ 8) : 1 ≤ a * b ∧ a * b ≤ 64 := by
  obtain h | h | h | h | h | h | h | h : a = 1 ∨ a = 2 ∨ a = 3 ∨ a = 4 ∨ a = 5 ∨ a = 6 ∨ a = 7 ∨ a = 8 := by omega
  all_goals subst h; omega
theorem l2Value_is (x : Int) : spec_l2Value.f x = some (cellOk x) := by
  unfold spec_l2Value.f cellOk
  rw [l1In_is]
  by_cases h : x = -9999
  · simp [h]
  · simp [h]
theorem l2Shape_is (a b : Int) : spec_l2Shape.f a b = some (inb a 1 8 && inb b 1 8) := by
  unfold spec_l2Shape.f
  rw [l1In_is, l1In_is]
  cases inb a 1 8 <;> simp
theorem shape_iff {a b : Int} : (inb a 1 8 && inb b 1 8) = true ↔ (1 ≤ a ∧ a ≤ 8) ∧ 1 ≤ b ∧ b ≤ 8 := by rw [Bool.and_eq_true, inb_iff, inb_iff]
theorem l2Good_ev (a b : Int) (l : List Int) (hl : l.length ≤ 9223372036854775806) : Ev (fun k => spec_l2Good.f k a b l) (fieldOk a b l) := by
  have no : Ev (fun k => spec_l2Good.j0 k true a b l) false := ev_step (f := fun _ => some false) (fun k => by simp [spec_l2Good.j0]) (ev_some _)
  unfold spec_l2Good.f
  rw [l2Shape_is]
  simp only [Option.bind_some]
  by_cases hs : (inb a 1 8 && inb b 1 8) = true
  · refine ev_ifp hs ?_
    obtain ⟨⟨a1, a8⟩, b1, b8⟩ := shape_iff.1 hs
    have hm := mul_bd a1 a8 b1 b8
    rw [w64 (by omega) (by omega)]
    by_cases hl2 : (l.length : Int) = a * b
    · have h := allb_ev (fun k i => spec_l2Good.l0 k (i : Int) a b l) l.length (fun i => cellOk (l.getD i 0))
        (fun i r hi hp hh => ev_step (fun k => by
          simp only [spec_l2Good.l0, l2Value_is, Option.bind_some, rd_nat]
          rw [if_pos (by omega), if_pos (by omega), if_pos hp, w64 (by omega) (by omega)]
          rfl) hh)
        (fun i hi hp => ev_step (f := fun _ => some false) (fun k => by
          simp only [spec_l2Good.l0, l2Value_is, Option.bind_some, rd_nat]
          rw [if_pos (by omega), if_pos (by omega), if_neg (by rw [hp]; decide)]) (ev_some _))
        (ev_step (f := fun _ => some true) (fun k => by
          simp only [spec_l2Good.l0]
          rw [if_neg (by omega)]) (ev_some _))
      rw [rall_list] at h
      have e : fieldOk a b l = l.all cellOk := by
        rw [Bool.and_eq_true] at hs
        simp [fieldOk, hs.1, hs.2, hl2]
      rw [e, show ((l.length : Int) != a * b) = false by rw [bne_eq_false_iff_eq]; exact hl2]
      exact ev_step (f := fun k => spec_l2Good.l0 k 0 a b l) (fun k => by simp [spec_l2Good.j0]) h
    · have e : fieldOk a b l = false := by simp [fieldOk, hl2]
      rw [e, show ((l.length : Int) != a * b) = true by rw [bne_iff_ne]; exact hl2]
      exact no
  · refine ev_ifn hs ?_
    have e : fieldOk a b l = false := by
      cases h1 : inb a 1 8 with
      | false => simp [fieldOk, h1]
      | true =>
        cases h2 : inb b 1 8 with
        | false => simp [fieldOk, h2]
        | true => exact absurd (by rw [h1, h2]; rfl) hs
    rw [e]
    exact no
theorem isValidField_is (a b : Int) (l : List Int) : impl_IsValidField.f a b l = some (fieldOk a b l) := by
  unfold impl_IsValidField.f slices_ContainsFunc_int_at_impl_IsValidField_1.f
  rw [within_is, within_is]
  simp only [Option.bind_some]
  cases h1 : inb a 1 8 with
  | false => simp [fieldOk, h1]
  | true =>
    cases h2 : inb b 1 8 with
    | false => simp [fieldOk, h2]
    | true =>
      have hm := mul_bd (inb_iff.1 h1).1 (inb_iff.1 h1).2 (inb_iff.1 h2).1 (inb_iff.1 h2).2
      rw [w64 (by omega) (by omega)]
      by_cases hl : (l.length : Int) = a * b
      · have e : (!l.any slices_ContainsFunc_int_at_impl_IsValidField_1.p) = l.all cellOk := by
          rw [List.not_any_eq_all_not]
          congr 1
          funext x
          simp [slices_ContainsFunc_int_at_impl_IsValidField_1.p, cellOk, inb]
        simp [fieldOk, h1, h2, hl, e]
      · simp [fieldOk, hl]
end Go.Proofs.Ytbjbanemmoalhaa.Pure
/- What the laws' helpers for lists of whole numbers come to: a copy is the list, equality is equality. No conditions. -/
namespace Go.Proofs.Ytbjbanemmoalhaa.Pure
set_option linter.unusedVariables false
set_option linter.unusedSimpArgs false
open Go.RowKit Go.Proofs.Ytbjbanemmoalhaa.P Go.Proofs.YtbjbanemmoalhaaW.PrintWords Go.Proofs.YtbjbanemmoalhaaW.PrintLast

theorem toIntS_ev (xs : List Int) (hm : xs.length ≤ 35184372088832) : Ev (fun k => laws_toIntS.f k xs) xs := by
  have h := loop_ev (fun k ys i => laws_toIntS.l0 k xs ys (i : Int)) xs.length (fun i ys => ys.set i (xs.getD i 0)) (fun ys => ys)
    (fun i ys => ys.length = xs.length ∧ ∀ j, j < i → ys.getD j 0 = xs.getD j 0)
    (fun i ys r hI hi h => ev_step (fun k => by
      show laws_toIntS.l0 (k + 1) xs ys (i : Int) = laws_toIntS.l0 k xs (ys.set i (xs.getD i 0)) ((i + 1 : Nat) : Int)
      have hl := hI.1
      simp only [laws_toIntS.l0]
      rw [if_pos (by omega), if_pos (by omega), if_pos (by omega), w64 (by omega) (by omega), rd_nat]
      simp) h)
    (fun i ys hI hi => ⟨by simp [hI.1], fun j hj => by
      by_cases e : j = i
      · subst e
        have := hI.1
        simp [List.getD, List.getElem?_set_self (show j < ys.length by omega)]
      · have := hI.2 j (by omega)
        rw [← this]
        simp [List.getD, List.getElem?_set_ne (Ne.symm e)]⟩)
    (fun ys hI => ev_step (f := fun _ => some ys) (fun k => by
      simp only [laws_toIntS.l0]
      rw [if_neg (by omega)]) (ev_some _)) 0 (List.replicate xs.length 0) (Nat.zero_le _) ⟨by simp, fun j hj => by omega⟩
  have e : iter (fun i (ys : List Int) => ys.set i (xs.getD i 0)) 0 (xs.length - 0) (List.replicate xs.length 0) = xs := by
    have hi := iter_inv (fun i (ys : List Int) => ys.set i (xs.getD i 0)) (fun i ys => ys.length = xs.length ∧ ∀ j, j < i → ys.getD j 0 = xs.getD j 0) xs.length
      (fun i ys hI hi => ⟨by simp [hI.1], fun j hj => by
        by_cases e : j = i
        · subst e
          have := hI.1
          simp [List.getD, List.getElem?_set_self (show j < ys.length by omega)]
        · have := hI.2 j (by omega)
          rw [← this]
          simp [List.getD, List.getElem?_set_ne (Ne.symm e)]⟩) (xs.length - 0) 0 (List.replicate xs.length 0) (by omega) ⟨by simp, fun j hj => by omega⟩
    exact eq_index 0 hi.1 (fun j hj => hi.2 j (by have := hi.1; omega))
  rw [e] at h
  refine Ev.congr (fun k => ?_) h
  unfold laws_toIntS.f
  rw [if_pos (by omega), if_pos (by omega)]
  simp

theorem eqIntS_ev (xs ys : List Int) (hm : xs.length ≤ 9223372036854775806) : Ev (fun k => laws_eqIntS.f k xs ys) (decide (xs = ys)) := by
  by_cases hl : xs.length = ys.length
  · have h := allb_ev (fun k i => laws_eqIntS.l0 k xs ys (i : Int)) xs.length (fun i => decide (xs.getD i 0 = ys.getD i 0))
      (fun i r hi hp h => ev_step (fun k => by
        simp only [laws_eqIntS.l0]
        rw [if_pos (by omega), if_pos (by omega), if_pos (by omega), rd_nat, rd_nat, if_pos (by simpa using hp), w64 (by omega) (by omega)]
        rfl) h)
      (fun i hi hp => ev_step (f := fun _ => some false) (fun k => by
        simp only [laws_eqIntS.l0]
        rw [if_pos (by omega), if_pos (by omega), if_pos (by omega), rd_nat, rd_nat, if_neg (by simpa using hp)]) (ev_some _))
      (ev_step (f := fun _ => some true) (fun k => by
        simp only [laws_eqIntS.l0]
        rw [if_neg (by omega)]) (ev_some _))
    rw [rall_eq 0 hl] at h
    refine Ev.congr (fun k => ?_) h
    unfold laws_eqIntS.f
    rw [if_pos (by omega)]
    rfl
  · refine Ev.congr (f := fun _ => some false) (fun k => ?_) (by rw [decide_eq_false (fun e => hl (by rw [e]))]; exact ev_some _)
    unfold laws_eqIntS.f
    rw [if_neg (by omega)]
end Go.Proofs.Ytbjbanemmoalhaa.Pure
/- What the laws' helpers for fields come to: copies, equality, sizes, marks. No conditions. -/
namespace Go.Proofs.Ytbjbanemmoalhaa.Pure
set_option linter.unusedVariables false
set_option linter.unusedSimpArgs false
open Go.RowKit Go.Proofs.Ytbjbanemmoalhaa.P Go.Proofs.YtbjbanemmoalhaaW.PrintWords Go.Proofs.YtbjbanemmoalhaaW.PrintLast
theorem toField_ev (a b : Int) (l : List Int) (hl : l.length ≤ 35184372088832) : Ev (fun k => laws_toField.f k a b l) (a, b, l) := ev_bind (toIntS_ev l hl) (ev_some _)
theorem eqField_ev (a b : Int) (l : List Int) (a' b' : Int) (l' : List Int) (hl : l.length ≤ 9223372036854775806) : Ev (fun k => laws_eqField.f k a b l a' b' l') (decide (a = a' ∧ b = b' ∧ l = l')) := by
  unfold laws_eqField.f
  by_cases h1 : a = a'
  · refine ev_ifp h1 ?_
    by_cases h2 : b = b'
    · refine ev_ifp h2 (ev_bind (eqIntS_ev l l' hl) ?_)
      by_cases h3 : l = l'
      · simp only [h1, h2, h3, decide_true, and_self, if_true]
        exact ev_some _
      · simp only [h3, decide_false, and_false, Bool.false_eq_true, if_false]
        exact ev_some _
    · simp only [h2, false_and, and_false, decide_false, if_false]
      exact ev_some _
  · simp only [h1, false_and, decide_false, if_false]
    exact ev_some _
theorem eqField_self (a b : Int) (l : List Int) (hl : l.length ≤ 9223372036854775806) : Ev (fun k => laws_eqField.f k a b l a b l) true := by
  have := eqField_ev a b l a b l hl
  simpa using this
theorem szInt_is (l : List Int) (a : Int) (ha : 0 ≤ a) (ha2 : a ≤ 1048576) (hl : l.length ≤ 9223372036854775807) : laws_szIntS.f l a = some (if a < l.length then -1 else a - l.length) := by
  unfold laws_szIntS.f
  rw [w64 (by omega) (by omega)]
  split
  · rw [if_pos (by omega)]
  · rw [if_neg (by omega)]
theorem szField_at (a b : Int) (l : List Int) (s : Int) (hs : 0 ≤ s) (hs2 : s ≤ 1048576) (hl : l.length ≤ 9223372036854775807) : laws_szField.f a b l s = some (if s < l.length then -1 else s - l.length) := by
  unfold laws_szField.f
  rw [szInt_is l s hs hs2 hl]
  by_cases h : s < (l.length : Int)
  · simp [h]
  · rw [if_neg h, Option.bind_some, if_neg (by omega)]
/-- The law's guard on a field's size: too large, or the list is short. -/
theorem szField_go (a b : Int) (l : List Int) (s : Int) (hs : 0 ≤ s) (hs2 : s ≤ 1048576) (hl : l.length ≤ 9223372036854775807) :
    (∃ r, laws_szField.f a b l s = some r ∧ r < 0) ∨ ∃ r, laws_szField.f a b l s = some r ∧ ¬ r < 0 ∧ 0 ≤ r ∧ r ≤ 1048576 ∧ l.length ≤ 1048576 := by
  rw [szField_at a b l s hs hs2 hl]
  by_cases h : s < (l.length : Int)
  · rw [if_pos h]
    exact .inl ⟨_, rfl, by omega⟩
  · rw [if_neg h]
    exact .inr ⟨_, rfl, by omega, by omega, by omega, by omega⟩
end Go.Proofs.Ytbjbanemmoalhaa.Pure
