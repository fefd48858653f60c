/- Texts of the claim FnNearest, merged: part 2 of 8: the program's and the reference's functions as Lean functions, the walks that show it, and plain lemmas; no conditions. -/
import Derived.Test.YtmfgjknffmjjjaaKFnNearest1
namespace Go.Proofs.Ytmfgjknffmjjjaa.P
open Go.RowKit Go.Proofs.YtmfgjknffmjjjaaW.PrintWords Go.Proofs.YtmfgjknffmjjjaaW.PrintLast Go.Proofs.YtmfgjknffmjjjaaW.PrintMore
attribute [local go_sem] max2_int min2_int max_two min_two max_three min_three max_four min_four   -- for this text's walks alone
set_option linter.unusedVariables false
set_option linter.unusedSimpArgs false

/-! ### spec_l1Cur_field: function 167 -/
mutual
def spec_l1Cur_field.l0 : Nat → Int → Int → List Int → Int → Int → Int → Int → List Int → Option (Int × Int × List Int × Int × Int)
 | 0, _, _, _, _, _, _, _, _ => none
 | k + 1, x4, x5, x1000, x1001, x1002, x109000, x109001, x109002 => if x5 < (wrap64 (x109000 * x109001)) then ((spec_l1Cur_pick.f x1000 x1001 x1002 40).bind fun bt115 => ((spec_l1Cur_one.f x1000 bt115.2.1 bt115.2.2 12).bind fun bt118 => (if bt118.1 = true then (if x109002.length < 17592186044416 then (spec_l1Cur_field.l0 k x4 (wrap64 (x5 + 1)) x1000 bt118.2.1 bt118.2.2 x109000 x109001 (x109002 ++ [(-9999)])) else (none)) else (if x109002.length < 17592186044416 then (spec_l1Cur_field.l0 k x4 (wrap64 (x5 + 1)) x1000 bt118.2.1 bt118.2.2 x109000 x109001 (x109002 ++ [wrap64 (x4 + bt115.1)])) else (none))))) else ((spec_l1Cur_one.f x1000 x1001 x1002 10).bind fun bt127 => (if bt127.1 = true then ((spec_l1Cur_pick.f x1000 bt127.2.1 bt127.2.2 (x109002.length : Int)).bind fun bt130 => ((spec_l1Cur_among.f x1000 bt130.2.1 bt130.2.2 (([9000, (-9000), 0] : List Int))).bind fun bt136 => (if 0 ≤ bt130.1 then (if bt130.1 < (x109002.length : Int) then (spec_l1Cur_field.j1 k x1000 bt136.2.1 bt136.2.2 x109000 x109001 (x109002.set (bt130.1 : Int).toNat bt136.1)) else (none)) else (none)))) else (spec_l1Cur_field.j1 k x1000 bt127.2.1 bt127.2.2 x109000 x109001 x109002)))
def spec_l1Cur_field.j1 : Nat → List Int → Int → Int → Int → Int → List Int → Option (Int × Int × List Int × Int × Int)
 | 0, _, _, _, _, _, _ => none
 | k + 1, x1000, x1001, x1002, x109000, x109001, x109002 => (spec_l1Cur_one.f x1000 x1001 x1002 24).bind fun bt140 => (if bt140.1 = true then ((spec_l2Fill.f k 8 8 3).bind fun bt143 => (some (bt143.1, bt143.2.1, bt143.2.2, bt140.2.1, bt140.2.2))) else (some (x109000, x109001, x109002, bt140.2.1, bt140.2.2)))
end
def spec_l1Cur_field.f (k : Nat) (s0_0 : List Int) (s0_1 : Int) (s0_2 : Int) : Option (Int × Int × List Int × Int × Int) := (spec_l1Cur_pick.f s0_0 s0_1 s0_2 5).bind fun bt102 => ((spec_l1Cur_pick.f s0_0 bt102.2.1 bt102.2.2 5).bind fun bt105 => ((spec_l1Cur_among.f s0_0 bt105.2.1 bt105.2.2 (([0, 10, 100, (-50)] : List Int))).bind fun bt112 => (spec_l1Cur_field.l0 k bt112.1 0 s0_0 bt112.2.1 bt112.2.2 (wrap64 (1 + bt102.1)) (wrap64 (1 + bt105.1)) ([] : List Int))))

def spec_l1Cur_field.T11 : Bool × List (List Nat × List Nat) := (true, [([], []), ([0], [0]), ([], []), ([], []), ([3], [3]), ([4], [4]), ([2, 5], [2, 5]), ([], []), ([], []), ([7, 8, 6], [7, 8]), ([1, 6, 0, 1, 2, 3, 4, 5, 6, 7, 8, 9], [1, 6]), ([10, 9, 9, 0, 1, 2, 3, 4, 5, 6, 7, 8, 9], [9, 10])])
def spec_l1Cur_field.B11 : List Nat := [0, 1, 0, 0, 8, 24, 60, 0, 0, 508, 1023, 2047]
theorem spec_l1Cur_field.tab11 : rtab .any (opsOf Try.f167 11) = spec_l1Cur_field.T11 := by kernel_rfl
theorem spec_l1Cur_field.bits11 : waitsOk spec_l1Cur_field.T11.2 spec_l1Cur_field.B11 = true := by kernel_rfl
set_option maxHeartbeats 8000000 in
set_option maxRecDepth 100000 in
theorem spec_l1Cur_field.calls (k : Nat) (g : Nat) (s0_0 : List Int) (s0_1 : Int) (s0_2 : Int) (r1 : Int) (r2 : Int) (r3 : List Int) (r4 : Int) (r5 : Int) (w0 w : World) (hI : IsS136 w0 w g s0_0 s0_1 s0_2) (hB : Below w0.heap.size w0 w) (h : spec_l1Cur_field.f k s0_0 s0_1 s0_2 = some (r1, r2, r3, r4, r5)) :
  Calls Try.prog 167 #[.pointer (some ⟨g, 0, none⟩)] w fun e w' => ∃ v2_ : Value, e = .returned (.agg #[.int .i64 r1, .int .i64 r2, v2_]) ∧ Kd.R (Kd.int .i64) 3 w' w.heap.size (fun _ => True) v2_ r3 ∧ IsS136 w0 w' g s0_0 r4 r5 ∧ Below w0.heap.size w0 w' ∧ KeepBut w w' g none := by
 have hu42 := Try.underlying42
 have HI0 := Aside0.mk hI
 have HK := aK (KeepBut.refl w g none)
 have HL := Aside0.mk hB.size
 clear hI
 have HW0 := Aside0.mk hB.size
 have HB := Aside0.mk hB
 clear hB
 have H : ((spec_l1Cur_pick.f s0_0 s0_1 s0_2 5).bind fun bt102 => ((spec_l1Cur_pick.f s0_0 bt102.2.1 bt102.2.2 5).bind fun bt105 => ((spec_l1Cur_among.f s0_0 bt105.2.1 bt105.2.2 (([0, 10, 100, (-50)] : List Int))).bind fun bt112 => (spec_l1Cur_field.l0 k bt112.1 0 s0_0 bt112.2.1 bt112.2.2 (wrap64 (1 + bt102.1)) (wrap64 (1 + bt105.1)) ([] : List Int))))) = some (r1, r2, r3, r4, r5) := h
 clear h
 replace H := Option.bind_eq_some_iff.mp H
 obtain ⟨⟨t102, t103, t104⟩, A20, H⟩ := H
 replace H : ((spec_l1Cur_pick.f s0_0 t103 t104 5).bind fun bt105 => ((spec_l1Cur_among.f s0_0 bt105.2.1 bt105.2.2 (([0, 10, 100, (-50)] : List Int))).bind fun bt112 => (spec_l1Cur_field.l0 k bt112.1 0 s0_0 bt112.2.1 bt112.2.2 (wrap64 (1 + t102)) (wrap64 (1 + bt105.1)) ([] : List Int)))) = some (r1, r2, r3, r4, r5) := H
 have A2 := Aside0.mk A20
 clear A20
 replace H := Option.bind_eq_some_iff.mp H
 obtain ⟨⟨t105, t106, t107⟩, A30, H⟩ := H
 replace H : ((spec_l1Cur_among.f s0_0 t106 t107 (([0, 10, 100, (-50)] : List Int))).bind fun bt112 => (spec_l1Cur_field.l0 k bt112.1 0 s0_0 bt112.2.1 bt112.2.2 (wrap64 (1 + t102)) (wrap64 (1 + t105)) ([] : List Int))) = some (r1, r2, r3, r4, r5) := H
 have A3 := Aside0.mk A30
 clear A30
 obtain ⟨y109, hy109⟩ : ∃ y_ : List Int, y_ = (([0, 10, 100, (-50)] : List Int)) := ⟨_, rfl⟩
 replace H : ((spec_l1Cur_among.f s0_0 t106 t107 y109).bind fun bt112 => (spec_l1Cur_field.l0 k bt112.1 0 s0_0 bt112.2.1 bt112.2.2 (wrap64 (1 + t102)) (wrap64 (1 + t105)) ([] : List Int))) = some (r1, r2, r3, r4, r5) := by first | (rw [hy109]; with_reducible exact H) | (have H2_ := (Option.bind_some _ _).symm.trans H; rw [hy109]; with_reducible exact H2_) | (have H2_ := (Option.bind_some _ _).symm.trans H; with_reducible exact H2_) | with_reducible exact H | (rw [hy109]; exact H) | exact H
 have Ny109 := Aside0.mk hy109
 clear hy109
 replace H := Option.bind_eq_some_iff.mp H
 obtain ⟨⟨t112, t113, t114⟩, A40, H⟩ := H
 replace H : (spec_l1Cur_field.l0 k t112 0 s0_0 t113 t114 (wrap64 (1 + t102)) (wrap64 (1 + t105)) ([] : List Int)) = some (r1, r2, r3, r4, r5) := H
 have A4 := Aside0.mk A40
 clear A40
 have H' := Aside0.mk H
 clear H
 go_enter Try.func167, Try.ntmps167
 go_wp2_with (first | ((with_reducible refine gate_dst (N := 2) rfl ?_); refine box_event ?hg (N := 2) ?hd (cs := #[.int .i64 0, .int .i64 0, .slice none 0 0]) (t := 42) ?hr ?_; (case hd => rfl); (case hg => rfl); (case hr => first | (go_simp; done) | (go_simp; rfl)); intro gb101 hg w5 hbox hb; have n0_ := aK (IsS136.below (by repeat (first | (with_reducible first | exact HI0.out | apply IsS136.alloc | apply IsS136.drewN | apply IsS136.drew | apply IsS136.set_1 | apply IsS136.set_2) | exact HI0.out)) hb); have n1_ := aK (KeepBut.trans (by repeat (first | (with_reducible first | exact HK.out | apply KeepBut.set_ | apply keep_drewN | apply keep_drew | apply keep_alloc) | exact HK.out)) (KeepBut.of_below hb g none) (.inl rfl)); have n2_ := aK (below_step (by repeat (first | (with_reducible first | exact HB.out | apply below_alloc | apply pw_below_drewN | apply below_drew1 | refine below_set ?_ (IsS136.ge HI0.out)) | exact HB.out)) hb); have BK101 := aK (hbox); have GW101 := aK ((by rw [hg]; exact (keep_size (w := w) (g := g) (row := none) (by repeat (first | (with_reducible first | exact HK.out | apply KeepBut.set_ | apply keep_drewN | apply keep_drew | apply keep_alloc) | exact HK.out))) : w.heap.size ≤ gb101)); have GE101 := aK ((Nat.le_trans HW0.out (by rw [hg]; exact (keep_size (w := w) (g := g) (row := none) (by repeat (first | (with_reducible first | exact HK.out | apply KeepBut.set_ | apply keep_drewN | apply keep_drew | apply keep_alloc) | exact HK.out))) : w.heap.size ≤ gb101) : w0.heap.size ≤ gb101)); have NB0_101 := aK ((by rw [hg]; exact Nat.ne_of_lt (IsS136.lt (show IsS136 w0 _ g s0_0 s0_1 s0_2 from by repeat (first | (with_reducible first | exact HI0.out | apply IsS136.alloc | apply IsS136.drewN | apply IsS136.drew | apply IsS136.set_1 | apply IsS136.set_2) | exact HI0.out))) : g ≠ gb101)); have NB101_0 := aK ((by rw [hg]; exact Nat.ne_of_gt (IsS136.lt (show IsS136 w0 _ g s0_0 s0_1 s0_2 from by repeat (first | (with_reducible first | exact HI0.out | apply IsS136.alloc | apply IsS136.drewN | apply IsS136.drew | apply IsS136.set_1 | apply IsS136.set_2) | exact HI0.out))) : gb101 ≠ g)); clear HI0 HK HB; have HI0 := n0_; have HK := n1_; have HB := n2_; clear n0_ n1_ n2_; clear hb hbox hg) | ((with_reducible refine gate_callee (f := 121) rfl ?_); refine goesL_ (some 8) rfl rfl Try.func121 (by kernel_rfl) rfl #[.pointer (some ⟨g, 0, none⟩), .int .i64 5] rfl (by (try simp only [List.map_toArray, List.map_cons, List.map_nil]); first | done | rfl | (simp only [List.length_drop, List.length_take]; rfl)) ?_; (with_reducible refine (spec_l1Cur_pick.calls g s0_0 s0_1 s0_2 5 t102 t103 t104 w0 _ ?side1 ?side2 A2.out).mono ?_); (case side1 => repeat (first | (with_reducible first | exact HI0.out | apply IsS136.alloc | apply IsS136.drewN | apply IsS136.drew | apply IsS136.set_1 | apply IsS136.set_2 | refine IsS136.far ?_ NB0_101.out _) | exact HI0.out)); (case side2 => repeat (first | (with_reducible first | exact HB.out | apply below_alloc | apply pw_below_drewN | apply below_drew1 | refine below_set ?_ (IsS136.ge HI0.out) | refine below_set ?_ GE101.out) | exact HB.out)); rintro e w6 ⟨rfl, hi, hb, hk⟩; refine ⟨_, rfl, ?_⟩; have n0_ := aK (KeepBut.blk hk (g' := gb101) (o := .cells #[.int .i64 0, .int .i64 0, .slice none 0 0] 42 (0, 0)) (pB BK101.out) NB101_0.out (by simp)); have n1_ := aK (KeepBut.trans (by repeat (first | (with_reducible first | exact HK.out | apply KeepBut.set_ | apply keep_drewN | apply keep_drew | apply keep_alloc | refine keep_far ?_ GW101.out _) | exact HK.out)) hk (.inl rfl)); have n2_ := aK (hb); have n3_ := aK (hi); clear BK101 HK HB HI0; have BK101 := n0_; have HK := n1_; have HB := n2_; have HI0 := n3_; clear n0_ n1_ n2_ n3_; (try clear hb); (try clear hb2); (try clear hk); (try clear hi)) | ((with_reducible refine gate_callee (f := 121) rfl ?_); refine goesL_ (some 11) rfl rfl Try.func121 (by kernel_rfl) rfl #[.pointer (some ⟨g, 0, none⟩), .int .i64 5] rfl (by (try simp only [List.map_toArray, List.map_cons, List.map_nil]); first | done | rfl | (simp only [List.length_drop, List.length_take]; rfl)) ?_; (with_reducible refine (spec_l1Cur_pick.calls g s0_0 t103 t104 5 t105 t106 t107 w0 _ ?side1 ?side2 A3.out).mono ?_); (case side1 => repeat (first | (with_reducible first | exact HI0.out | apply IsS136.alloc | apply IsS136.drewN | apply IsS136.drew | apply IsS136.set_1 | apply IsS136.set_2 | refine IsS136.far ?_ NB0_101.out _) | exact HI0.out)); (case side2 => repeat (first | (with_reducible first | exact HB.out | apply below_alloc | apply pw_below_drewN | apply below_drew1 | refine below_set ?_ (IsS136.ge HI0.out) | refine below_set ?_ GE101.out) | exact HB.out)); rintro e w7 ⟨rfl, hi, hb, hk⟩; refine ⟨_, rfl, ?_⟩; have n0_ := aK (KeepBut.blk hk (g' := gb101) (o := .cells #[.int .i64 0, .int .i64 0, .slice none 0 0] 42 (0, 0)) (pB BK101.out) NB101_0.out (by simp)); have n1_ := aK (KeepBut.trans (by repeat (first | (with_reducible first | exact HK.out | apply KeepBut.set_ | apply keep_drewN | apply keep_drew | apply keep_alloc | refine keep_far ?_ GW101.out _) | exact HK.out)) hk (.inl rfl)); have n2_ := aK (hb); have n3_ := aK (hi); clear BK101 HK HB HI0; have BK101 := n0_; have HK := n1_; have HB := n2_; have HI0 := n3_; clear n0_ n1_ n2_ n3_; (try clear hb); (try clear hb2); (try clear hk); (try clear hi)) | ((with_reducible refine gate_dst (N := 3) rfl ?_); refine box_event ?hg (N := 3) ?hd (cs := #[.int .i64 0, .int .i64 0, .slice none 0 0]) (t := 42) ?hr ?_; (case hd => rfl); (case hg => rfl); (case hr => first | (go_simp; done) | (go_simp; rfl)); intro gb108 hg w8 hbox hb; have n0_ := aK (IsS136.below (by repeat (first | (with_reducible first | exact HI0.out | apply IsS136.alloc | apply IsS136.drewN | apply IsS136.drew | apply IsS136.set_1 | apply IsS136.set_2 | refine IsS136.far ?_ NB0_101.out _) | exact HI0.out)) hb); have n2_ := aK (KeepBut.trans (by repeat (first | (with_reducible first | exact HK.out | apply KeepBut.set_ | apply keep_drewN | apply keep_drew | apply keep_alloc | refine keep_far ?_ GW101.out _) | exact HK.out)) (KeepBut.of_below hb g none) (.inl rfl)); have n3_ := aK (below_step (by repeat (first | (with_reducible first | exact HB.out | apply below_alloc | apply pw_below_drewN | apply below_drew1 | refine below_set ?_ (IsS136.ge HI0.out) | refine below_set ?_ GE101.out) | exact HB.out)) hb); have BK108 := aK (hbox); have GW108 := aK ((by rw [hg]; exact (keep_size (w := w) (g := g) (row := none) (by repeat (first | (with_reducible first | exact HK.out | apply KeepBut.set_ | apply keep_drewN | apply keep_drew | apply keep_alloc | refine keep_far ?_ GW101.out _) | exact HK.out))) : w.heap.size ≤ gb108)); have GE108 := aK ((Nat.le_trans HW0.out (by rw [hg]; exact (keep_size (w := w) (g := g) (row := none) (by repeat (first | (with_reducible first | exact HK.out | apply KeepBut.set_ | apply keep_drewN | apply keep_drew | apply keep_alloc | refine keep_far ?_ GW101.out _) | exact HK.out))) : w.heap.size ≤ gb108) : w0.heap.size ≤ gb108)); have NB101_108 := aK (nL hg (pB BK101.out)); have NB108_101 := aK (nG hg (pB BK101.out)); have NB0_108 := aK ((by rw [hg]; exact Nat.ne_of_lt (IsS136.lt (show IsS136 w0 _ g s0_0 t106 t107 from by repeat (first | (with_reducible first | exact HI0.out | apply IsS136.alloc | apply IsS136.drewN | apply IsS136.drew | apply IsS136.set_1 | apply IsS136.set_2 | refine IsS136.far ?_ NB0_101.out _) | exact HI0.out))) : g ≠ gb108)); have NB108_0 := aK ((by rw [hg]; exact Nat.ne_of_gt (IsS136.lt (show IsS136 w0 _ g s0_0 t106 t107 from by repeat (first | (with_reducible first | exact HI0.out | apply IsS136.alloc | apply IsS136.drewN | apply IsS136.drew | apply IsS136.set_1 | apply IsS136.set_2 | refine IsS136.far ?_ NB0_101.out _) | exact HI0.out))) : gb108 ≠ g)); replace BK101 := bB BK101 hb; clear HI0 HK HB; have HI0 := n0_; have HK := n2_; have HB := n3_; clear n0_ n2_ n3_ hb hbox hg; have hnb9 := NB108_101.out; have hnc9 := NB101_108.out; have hnb10 := NB108_0.out; have hnc10 := NB0_108.out; have hcz11_0 : w8.cell? ⟨gb108, 0, none⟩ = some (.int .i64 0) := (blk_cell BK108.out 0).trans rfl; have hcz11_1 : w8.cell? ⟨gb108, 1, none⟩ = some (.int .i64 0) := (blk_cell BK108.out 1).trans rfl; have hcz11_2 : w8.cell? ⟨gb108, 2, none⟩ = some (.slice none 0 0) := (blk_cell BK108.out 2).trans rfl; have hfz11_0 := blk_frozen BK108.out 0; have hfz11_1 := blk_frozen BK108.out 1; have hfz11_2 := blk_frozen BK108.out 2) | ((with_reducible refine gate_dst (N := 15) rfl ?_); refine Kd.R_lit (Kd.int .i64) _ 3 ?hg (N := 15) ?hd (xs := ([0, 10, 100, (-50)] : List Int)) (inner := [.int .i64 0, .int .i64 10, .int .i64 100, .int .i64 (-50)]) (ok := fun _ => True) (okp := fun _ => True) ?hr ?hp (fun _ hk => hk) trivial (Below.refl _ _) (Nat.le_refl _) (by simp) ?_; (case hd => rfl); (case hg => rfl); (case hr => first | (go_simp; done) | (go_simp; rfl)); (case hp => exact (Reps.one (show Kd.M (Kd.int .i64) _ _ _ 0 [.int .i64 0] from rfl) (Reps.one (show Kd.M (Kd.int .i64) _ _ _ 10 [.int .i64 10] from rfl) (Reps.one (show Kd.M (Kd.int .i64) _ _ _ 100 [.int .i64 100] from rfl) (Reps.one (show Kd.M (Kd.int .i64) _ _ _ (-50) [.int .i64 (-50)] from rfl) (Reps.none _ _)))))); intro v110 w12 ho13 hb hg_ hnew_; clear hg_ hnew_; (first | rw [← Ny109.out] at ho13 | (simp only [Int.reduceToNat] at ho13; rw [← Ny109.out] at ho13)); have HO111 := aK (Kd.R_lower ho13 (keep_size (w := w) (g := g) (row := none) (by repeat (first | (with_reducible first | exact HK.out | apply KeepBut.set_ | apply keep_drewN | apply keep_drew | apply keep_alloc | refine keep_far ?_ GW101.out _ | refine keep_far ?_ GW108.out _) | exact HK.out)))); have n1_ := aK (IsS136.below (show IsS136 w0 (((w8.setCell ⟨gb108, 0, none⟩ (.int .i64 (wrap64 (1 + t102)))).setCell ⟨gb108, 1, none⟩ (.int .i64 (wrap64 (1 + t105)))).setCell ⟨gb108, 2, none⟩ (.slice none 0 0)) g s0_0 t106 t107 from by repeat (first | (with_reducible first | exact HI0.out | apply IsS136.alloc | apply IsS136.drewN | apply IsS136.drew | apply IsS136.set_1 | apply IsS136.set_2 | refine IsS136.far ?_ NB0_101.out _ | refine IsS136.far ?_ NB0_108.out _) | exact HI0.out)) hb); have n2_ := aK (blk_below (g := gb101) (o := .cells #[.int .i64 0, .int .i64 0, .slice none 0 0] 42 (0, 0)) (by (with_reducible repeat (first | refine blk_drewN ?_ _ | refine blk_drew ?_ | refine blk_alloc ?_ _)); refine blk_far ?_ NB101_108.out _; (with_reducible repeat (first | refine blk_drewN ?_ _ | refine blk_drew ?_ | refine blk_alloc ?_ _)); refine blk_far ?_ NB101_108.out _; (with_reducible repeat (first | refine blk_drewN ?_ _ | refine blk_drew ?_ | refine blk_alloc ?_ _)); refine blk_far ?_ NB101_108.out _; (with_reducible repeat (first | refine blk_drewN ?_ _ | refine blk_drew ?_ | refine blk_alloc ?_ _)); exact BK101.out) hb); have n3_ := aK (blk_below (g := gb108) (o := .cells #[.int .i64 (wrap64 (1 + t102)), .int .i64 (wrap64 (1 + t105)), .slice none 0 0] 42 (0, 0)) (by (with_reducible repeat (first | refine blk_drewN ?_ _ | refine blk_drew ?_ | refine blk_alloc ?_ _)); refine blk_put (cs := #[.int .i64 (wrap64 (1 + t102)), .int .i64 (wrap64 (1 + t105)), .slice none 0 0]) ?_ 2 _ rfl; (with_reducible repeat (first | refine blk_drewN ?_ _ | refine blk_drew ?_ | refine blk_alloc ?_ _)); refine blk_put (cs := #[.int .i64 (wrap64 (1 + t102)), .int .i64 0, .slice none 0 0]) ?_ 1 _ rfl; (with_reducible repeat (first | refine blk_drewN ?_ _ | refine blk_drew ?_ | refine blk_alloc ?_ _)); refine blk_put (cs := #[.int .i64 0, .int .i64 0, .slice none 0 0]) ?_ 0 _ rfl; (with_reducible repeat (first | refine blk_drewN ?_ _ | refine blk_drew ?_ | refine blk_alloc ?_ _)); exact BK108.out) hb); have n4_ := aK (KeepBut.trans (by repeat (first | (with_reducible first | exact HK.out | apply KeepBut.set_ | apply keep_drewN | apply keep_drew | apply keep_alloc | refine keep_far ?_ GW101.out _ | refine keep_far ?_ GW108.out _) | exact HK.out)) (KeepBut.of_below hb g none) (.inl rfl)); have n5_ := aK (below_step (by repeat (first | (with_reducible first | exact HB.out | apply below_alloc | apply pw_below_drewN | apply below_drew1 | refine below_set ?_ (IsS136.ge HI0.out) | refine below_set ?_ GE101.out | refine below_set ?_ GE108.out) | exact HB.out)) hb); clear HI0 BK101 BK108 HK HB; have HI0 := n1_; have BK101 := n2_; have BK108 := n3_; have HK := n4_; have HB := n5_; clear n1_ n2_ n3_ n4_ n5_ hb ho13; obtain ⟨Ao14, co14, eo14⟩ := Kd.R_slice HO111.out; subst eo14) | ((with_reducible refine gate_callee (f := 168) rfl ?_); refine goesL_ (some 16) rfl rfl Try.func168 (by kernel_rfl) rfl #[.pointer (some ⟨g, 0, none⟩), .slice Ao14 y109.length co14] rfl (by (try simp only [List.map_toArray, List.map_cons, List.map_nil]); first | done | rfl | (simp only [List.length_drop, List.length_take]; rfl)) ?_; (with_reducible refine (spec_l1Cur_among.calls g s0_0 t106 t107 _ _ y109 t112 t113 t114 w0 _ ?side1 ?side2 ?side3 ?side4 ?side5 A4.out).mono ?_); (case side1 => repeat (first | (with_reducible first | exact HI0.out | apply IsS136.alloc | apply IsS136.drewN | apply IsS136.drew | apply IsS136.set_1 | apply IsS136.set_2 | refine IsS136.far ?_ NB0_101.out _ | refine IsS136.far ?_ NB0_108.out _) | exact HI0.out)); (case side2 => repeat (first | (with_reducible first | exact HB.out | apply below_alloc | apply pw_below_drewN | apply below_drew1 | refine below_set ?_ (IsS136.ge HI0.out) | refine below_set ?_ GE101.out | refine below_set ?_ GE108.out) | exact HB.out)); (case side3 => repeat (first | exact (Kd.R_reads' HO111.out).2.2 | (with_reducible refine Kd.C_alloc ?_ _) | (with_reducible refine Kd.C_drewN ?_ _) | (with_reducible refine Kd.C_drew ?_))); (case side4 => exact (Kd.R_reads' HO111.out).2.1); (case side5 => exact far_slice (IsS136.own_ne HI0.out HO111.out (by decide))); rintro e w15 ⟨rfl, hi, hb, hk⟩; refine ⟨_, rfl, ?_⟩; have n0_ := aK (KeepBut.blk hk (g' := gb101) (o := .cells #[.int .i64 0, .int .i64 0, .slice none 0 0] 42 (0, 0)) (pB BK101.out) NB101_0.out (by simp)); have n1_ := aK (KeepBut.blk hk (g' := gb108) (o := .cells #[.int .i64 (wrap64 (1 + t102)), .int .i64 (wrap64 (1 + t105)), .slice none 0 0] 42 (0, 0)) (pB BK108.out) NB108_0.out (by simp)); have n2_ := aK (Kd.R_mono (Kd.R_keep (IsS136.apart (show IsS136 w0 _ g s0_0 t106 t107 from by repeat (first | (with_reducible first | exact HI0.out | apply IsS136.alloc | apply IsS136.drewN | apply IsS136.drew | apply IsS136.set_1 | apply IsS136.set_2 | refine IsS136.far ?_ NB0_101.out _ | refine IsS136.far ?_ NB0_108.out _) | exact HI0.out)) (pR HO111.out) (by decide)) hk (fun _ h => h.2)) (fun _ h => h.1)); have n3_ := aK (KeepBut.trans (by repeat (first | (with_reducible first | exact HK.out | apply KeepBut.set_ | apply keep_drewN | apply keep_drew | apply keep_alloc | refine keep_far ?_ GW101.out _ | refine keep_far ?_ GW108.out _) | exact HK.out)) hk (.inl rfl)); have n4_ := aK (hb); have n5_ := aK (hi); clear BK101 BK108 HO111 HK HB HI0; have BK101 := n0_; have BK108 := n1_; have HO111 := n2_; have HK := n3_; have HB := n4_; have HI0 := n5_; clear n0_ n1_ n2_ n3_ n4_ n5_; (try clear hb); (try clear hb2); (try clear hk); (try clear hi)))
 go_loopg [5] k (fun kq v5 w' => ∃ (x5_1 : Int) (x1001_1 : Int) (x1002_1 : Int) (x109002_1 : List Int) (u109002 : Value), v5 = .int .i64 x5_1 ∧ Aside0 (spec_l1Cur_field.l0 kq t112 x5_1 s0_0 x1001_1 x1002_1 (wrap64 (1 + t102)) (wrap64 (1 + t105)) x109002_1 = some (r1, r2, r3, r4, r5)) ∧ Aside0 (kq ≤ k) ∧ Aside0 (Kd.R (Kd.int .i64) 3 w' w.heap.size (fun _ => True) u109002 x109002_1) ∧ Aside0 (w'.heap[gb101]? = some (.cells #[.int .i64 0, .int .i64 0, (.slice none 0 0)] 42 (0, 0))) ∧ Aside0 (w'.heap[gb108]? = some (.cells #[.int .i64 (wrap64 (1 + t102)), .int .i64 (wrap64 (1 + t105)), u109002] 42 (0, 0))) ∧ Aside0 (IsS136 w0 w' g s0_0 x1001_1 x1002_1) ∧ Aside0 (KeepBut w w' g none) ∧ Aside0 (Below w0.heap.size w0 w'))
 case atStart => exact ⟨(0), (t113), (t114), (([] : List Int)), (.slice none 0 0), (by first | rfl | (simp; done) | (simp [*]; done)), H', ⟨Nat.le_refl _⟩, ⟨by first | exact Kd.R_nil _ _ _ _ _ | exact Kd.N_nil _ _ _ _ _ | exact Kd.V_nil _ _ _ _ _ | exact Kd.Q_nil _ _ _ _ _ | exact Kd.S_nil _ _ _ _ _⟩, ⟨by (with_reducible repeat (first | refine blk_drewN ?_ _ | refine blk_drew ?_ | refine blk_alloc ?_ _)); exact BK101.out⟩, ⟨by (with_reducible repeat (first | refine blk_drewN ?_ _ | refine blk_drew ?_ | refine blk_alloc ?_ _)); exact BK108.out⟩, ⟨by repeat (first | (with_reducible first | exact HI0.out | apply IsS136.alloc | apply IsS136.drewN | apply IsS136.drew | apply IsS136.set_1 | apply IsS136.set_2 | refine IsS136.far ?_ NB0_101.out _ | refine IsS136.far ?_ NB0_108.out _) | exact HI0.out)⟩, ⟨by repeat (first | (with_reducible first | exact HK.out | apply KeepBut.set_ | apply keep_drewN | apply keep_drew | apply keep_alloc | refine keep_far ?_ GW101.out _ | refine keep_far ?_ GW108.out _) | exact HK.out)⟩, ⟨by repeat (first | (with_reducible first | exact HB.out | apply below_alloc | apply pw_below_drewN | apply below_drew1 | refine below_set ?_ (IsS136.ge HI0.out) | refine below_set ?_ GE101.out | refine below_set ?_ GE108.out) | exact HB.out)⟩⟩
 case round =>
  clear H'
  try clear c1
  try clear p2
  try clear p6
  try clear c9
  try clear c10
  try clear c12
  try clear hcz11_0
  try clear hcz11_1
  try clear hcz11_2
  try clear hfz11_0
  try clear hfz11_1
  try clear hfz11_2
  obtain ⟨x5_1, x1001_1, x1002_1, x109002_1, u109002, rfl, HA, HK1, HO_109002, BK101, BK108, HI0, HK, HB⟩ := hrel
  cases gk with
  | zero => exact absurd HA.out (by simp [spec_l1Cur_field.l0])
  | succ k1 =>
   have H := HA.out
   clear HA
   simp only [spec_l1Cur_field.l0] at H
   by_cases c16 : x5_1 < (wrap64 ((wrap64 (1 + t102)) * (wrap64 (1 + t105))))
   ·
    rw [if_pos c16] at H
    have c16b0 : decide (x5_1 < (wrap64 ((wrap64 (1 + t102)) * (wrap64 (1 + t105))))) = true := decide_eq_true c16
    clear c16
    replace H := Option.bind_eq_some_iff.mp H
    obtain ⟨⟨t115, t116, t117⟩, A170, H⟩ := H
    replace H : ((spec_l1Cur_one.f s0_0 t116 t117 12).bind fun bt118 => (if bt118.1 = true then (if x109002_1.length < 17592186044416 then (spec_l1Cur_field.l0 k1 t112 (wrap64 (x5_1 + 1)) s0_0 bt118.2.1 bt118.2.2 (wrap64 (1 + t102)) (wrap64 (1 + t105)) (x109002_1 ++ [(-9999)])) else (none)) else (if x109002_1.length < 17592186044416 then (spec_l1Cur_field.l0 k1 t112 (wrap64 (x5_1 + 1)) s0_0 bt118.2.1 bt118.2.2 (wrap64 (1 + t102)) (wrap64 (1 + t105)) (x109002_1 ++ [wrap64 (t112 + t115)])) else (none)))) = some (r1, r2, r3, r4, r5) := H
    have A17 := Aside0.mk A170
    clear A170
    replace H := Option.bind_eq_some_iff.mp H
    obtain ⟨⟨t118, t119, t120⟩, A180, H⟩ := H
    replace H : (if t118 = true then (if x109002_1.length < 17592186044416 then (spec_l1Cur_field.l0 k1 t112 (wrap64 (x5_1 + 1)) s0_0 t119 t120 (wrap64 (1 + t102)) (wrap64 (1 + t105)) (x109002_1 ++ [(-9999)])) else (none)) else (if x109002_1.length < 17592186044416 then (spec_l1Cur_field.l0 k1 t112 (wrap64 (x5_1 + 1)) s0_0 t119 t120 (wrap64 (1 + t102)) (wrap64 (1 + t105)) (x109002_1 ++ [wrap64 (t112 + t115)])) else (none))) = some (r1, r2, r3, r4, r5) := H
    have A18 := Aside0.mk A180
    clear A180
    by_cases c19 : t118 = true
    ·
     subst c19
     have H1 : (if x109002_1.length < 17592186044416 then (spec_l1Cur_field.l0 k1 t112 (wrap64 (x5_1 + 1)) s0_0 t119 t120 (wrap64 (1 + t102)) (wrap64 (1 + t105)) (x109002_1 ++ [(-9999)])) else (none)) = some (r1, r2, r3, r4, r5) := by rw [if_pos rfl] at H; exact H
     clear H
     have H := H1
     clear H1
     by_cases c20 : x109002_1.length < 17592186044416
     ·
      rw [if_pos c20] at H
      have LMc20 := Aside0.mk c20
      clear c20
      obtain ⟨y121, hy121⟩ : ∃ y_ : List Int, y_ = (x109002_1 ++ [(-9999)]) := ⟨_, rfl⟩
      replace H : (spec_l1Cur_field.l0 k1 t112 (wrap64 (x5_1 + 1)) s0_0 t119 t120 (wrap64 (1 + t102)) (wrap64 (1 + t105)) y121) = some (r1, r2, r3, r4, r5) := by first | (rw [hy121]; with_reducible exact H) | (have H2_ := (Option.bind_some _ _).symm.trans H; rw [hy121]; with_reducible exact H2_) | (have H2_ := (Option.bind_some _ _).symm.trans H; with_reducible exact H2_) | with_reducible exact H | (rw [hy121]; exact H) | exact H
      have Ny121 := Aside0.mk hy121
      clear hy121
      have H' := Aside0.mk H
      clear H
      have hnb21 := NB108_101.out
      have hnc21 := NB101_108.out
      have hnb22 := NB108_0.out
      have hnc22 := NB0_108.out
      have hcz23_0 : wr.cell? ⟨gb108, 0, none⟩ = some (.int .i64 (wrap64 (1 + t102))) := (blk_cell BK108.out 0).trans rfl
      have hcz23_1 : wr.cell? ⟨gb108, 1, none⟩ = some (.int .i64 (wrap64 (1 + t105))) := (blk_cell BK108.out 1).trans rfl
      have hcz23_2 : wr.cell? ⟨gb108, 2, none⟩ = some (u109002) := (blk_cell BK108.out 2).trans rfl
      have hfz23_0 := blk_frozen BK108.out 0
      have hfz23_1 := blk_frozen BK108.out 1
      have hfz23_2 := blk_frozen BK108.out 2
      go_wp2_with (first | ((with_reducible refine gate_callee (f := 121) rfl ?_); refine goesL_ (some 28) rfl rfl Try.func121 (by kernel_rfl) rfl #[.pointer (some ⟨g, 0, none⟩), .int .i64 40] rfl (by (try simp only [List.map_toArray, List.map_cons, List.map_nil]); first | done | rfl | (simp only [List.length_drop, List.length_take]; rfl)) ?_; (with_reducible refine (spec_l1Cur_pick.calls g s0_0 x1001_1 x1002_1 40 t115 t116 t117 w0 _ ?side1 ?side2 A17.out).mono ?_); (case side1 => repeat (first | (with_reducible first | exact HI0.out | apply IsS136.alloc | apply IsS136.drewN | apply IsS136.drew | apply IsS136.set_1 | apply IsS136.set_2 | refine IsS136.far ?_ NB0_101.out _ | refine IsS136.far ?_ NB0_108.out _) | exact HI0.out)); (case side2 => repeat (first | (with_reducible first | exact HB.out | apply below_alloc | apply pw_below_drewN | apply below_drew1 | refine below_set ?_ (IsS136.ge HI0.out) | refine below_set ?_ GE101.out | refine below_set ?_ GE108.out) | exact HB.out)); rintro e w24 ⟨rfl, hi, hb, hk⟩; refine ⟨_, rfl, ?_⟩; have n0_ := aK (Kd.R_mono (Kd.R_keep (IsS136.apart (show IsS136 w0 _ g s0_0 x1001_1 x1002_1 from by repeat (first | (with_reducible first | exact HI0.out | apply IsS136.alloc | apply IsS136.drewN | apply IsS136.drew | apply IsS136.set_1 | apply IsS136.set_2 | refine IsS136.far ?_ NB0_101.out _ | refine IsS136.far ?_ NB0_108.out _) | exact HI0.out)) (pR HO_109002.out) (by decide)) hk (fun _ h => h.2)) (fun _ h => h.1)); have n1_ := aK (KeepBut.blk hk (g' := gb101) (o := .cells #[.int .i64 0, .int .i64 0, .slice none 0 0] 42 (0, 0)) (pB BK101.out) NB101_0.out (by simp)); have n2_ := aK (KeepBut.blk hk (g' := gb108) (o := .cells #[.int .i64 (wrap64 (1 + t102)), .int .i64 (wrap64 (1 + t105)), u109002] 42 (0, 0)) (pB BK108.out) NB108_0.out (by simp)); have n3_ := aK (KeepBut.trans (by repeat (first | (with_reducible first | exact HK.out | apply KeepBut.set_ | apply keep_drewN | apply keep_drew | apply keep_alloc | refine keep_far ?_ GW101.out _ | refine keep_far ?_ GW108.out _) | exact HK.out)) hk (.inl rfl)); have n4_ := aK (hb); have n5_ := aK (hi); clear HO_109002 BK101 BK108 HK HB HI0; have HO_109002 := n0_; have BK101 := n1_; have BK108 := n2_; have HK := n3_; have HB := n4_; have HI0 := n5_; clear n0_ n1_ n2_ n3_ n4_ n5_; (try clear hb); (try clear hb2); (try clear hk); (try clear hi)) | ((with_reducible refine gate_callee (f := 177) rfl ?_); refine goesL_ (some 31) rfl rfl Try.func177 (by kernel_rfl) rfl #[.pointer (some ⟨g, 0, none⟩), .int .i64 12] rfl (by (try simp only [List.map_toArray, List.map_cons, List.map_nil]); first | done | rfl | (simp only [List.length_drop, List.length_take]; rfl)) ?_; (with_reducible refine (spec_l1Cur_one.calls g s0_0 t116 t117 12 true t119 t120 w0 _ ?side1 ?side2 A18.out).mono ?_); (case side1 => repeat (first | (with_reducible first | exact HI0.out | apply IsS136.alloc | apply IsS136.drewN | apply IsS136.drew | apply IsS136.set_1 | apply IsS136.set_2 | refine IsS136.far ?_ NB0_101.out _ | refine IsS136.far ?_ NB0_108.out _) | exact HI0.out)); (case side2 => repeat (first | (with_reducible first | exact HB.out | apply below_alloc | apply pw_below_drewN | apply below_drew1 | refine below_set ?_ (IsS136.ge HI0.out) | refine below_set ?_ GE101.out | refine below_set ?_ GE108.out) | exact HB.out)); rintro e w25 ⟨rfl, hi, hb, hk⟩; refine ⟨_, rfl, ?_⟩; have n0_ := aK (Kd.R_mono (Kd.R_keep (IsS136.apart (show IsS136 w0 _ g s0_0 t116 t117 from by repeat (first | (with_reducible first | exact HI0.out | apply IsS136.alloc | apply IsS136.drewN | apply IsS136.drew | apply IsS136.set_1 | apply IsS136.set_2 | refine IsS136.far ?_ NB0_101.out _ | refine IsS136.far ?_ NB0_108.out _) | exact HI0.out)) (pR HO_109002.out) (by decide)) hk (fun _ h => h.2)) (fun _ h => h.1)); have n1_ := aK (KeepBut.blk hk (g' := gb101) (o := .cells #[.int .i64 0, .int .i64 0, .slice none 0 0] 42 (0, 0)) (pB BK101.out) NB101_0.out (by simp)); have n2_ := aK (KeepBut.blk hk (g' := gb108) (o := .cells #[.int .i64 (wrap64 (1 + t102)), .int .i64 (wrap64 (1 + t105)), u109002] 42 (0, 0)) (pB BK108.out) NB108_0.out (by simp)); have n3_ := aK (KeepBut.trans (by repeat (first | (with_reducible first | exact HK.out | apply KeepBut.set_ | apply keep_drewN | apply keep_drew | apply keep_alloc | refine keep_far ?_ GW101.out _ | refine keep_far ?_ GW108.out _) | exact HK.out)) hk (.inl rfl)); have n4_ := aK (hb); have n5_ := aK (hi); clear HO_109002 BK101 BK108 HK HB HI0; have HO_109002 := n0_; have BK101 := n1_; have BK108 := n2_; have HK := n3_; have HB := n4_; have HI0 := n5_; clear n0_ n1_ n2_ n3_ n4_ n5_; (try clear hb); (try clear hb2); (try clear hk); (try clear hi); have hcz26_0 : w25.cell? ⟨gb108, 0, none⟩ = some (.int .i64 (wrap64 (1 + t102))) := (blk_cell BK108.out 0).trans rfl; have hcz26_1 : w25.cell? ⟨gb108, 1, none⟩ = some (.int .i64 (wrap64 (1 + t105))) := (blk_cell BK108.out 1).trans rfl; have hcz26_2 : w25.cell? ⟨gb108, 2, none⟩ = some (u109002) := (blk_cell BK108.out 2).trans rfl; have hfz26_0 := blk_frozen BK108.out 0; have hfz26_1 := blk_frozen BK108.out 1; have hfz26_2 := blk_frozen BK108.out 2) | ((with_reducible refine gate_builtin (b := .append) (xs := #[.tmp 33, .tmp 35]) rfl ?_); at_builtin; refine Kd.R_append (Kd.int .i64) w.heap.size rfl (.tmp 33) (.tmp 35) 36 3 (.int .i64 0) 8 rfl Try.underlying36 info3 rfl (by decide) (by omega) u109002 x109002_1 (-9999) [.int .i64 (-9999)] (fun _ => True) (fun _ => False) rfl rfl ?aP (fun _ hk => hk.elim) ?aF ?aO (Below.refl _ _) ?aS ?aL ?_; (case aP => exact rfl); (case aF => exact (fun _ _ => trivial)); (case aO => exact (pR HO_109002.out)); (case aS => exact (keep_size (w := w) (g := g) (row := none) (by repeat (first | (with_reducible first | exact HK.out | apply KeepBut.set_ | apply keep_drewN | apply keep_drew | apply keep_alloc | refine keep_far ?_ GW101.out _ | refine keep_far ?_ GW108.out _) | exact HK.out)))); (case aL => have := LMc20.out; omega); intro v122 w27 ho hb hg hat; rw [← Ny121.out] at ho; have n0_ := aK (blk_grown (g := gb101) (o := .cells #[.int .i64 0, .int .i64 0, .slice none 0 0] 42 (0, 0)) (pB BK101.out) hg (Kd.R_ne HO_109002.out BK101.out (by decide))); have n1_ := aK (blk_grown (g := gb108) (o := .cells #[.int .i64 (wrap64 (1 + t102)), .int .i64 (wrap64 (1 + t105)), u109002] 42 (0, 0)) (pB BK108.out) hg (Kd.R_ne HO_109002.out BK108.out (by decide))); have n2_ := aK (IsS136.grown (by repeat (first | (with_reducible first | exact HI0.out | apply IsS136.alloc | apply IsS136.drewN | apply IsS136.drew | apply IsS136.set_1 | apply IsS136.set_2 | refine IsS136.far ?_ NB0_101.out _ | refine IsS136.far ?_ NB0_108.out _) | exact HI0.out)) hg (IsS136.own_ne HI0.out HO_109002.out (by decide))); have n3_ := aK (below_weaken (by repeat (first | (with_reducible first | exact HB.out | apply below_alloc | apply pw_below_drewN | apply below_drew1 | refine below_set ?_ (IsS136.ge HI0.out) | refine below_set ?_ GE101.out | refine below_set ?_ GE108.out) | exact HB.out)) HL.out hb); have n4_ := aK (KeepBut.trans (by repeat (first | (with_reducible first | exact HK.out | apply KeepBut.set_ | apply keep_drewN | apply keep_drew | apply keep_alloc | refine keep_far ?_ GW101.out _ | refine keep_far ?_ GW108.out _) | exact HK.out)) (KeepBut.of_grown hg g) (Kd.R_base2 HO_109002.out)); have HO123 := aK (ho); clear BK101 BK108 HI0 HB HK HO_109002; have BK101 := n0_; have BK108 := n1_; have HI0 := n2_; have HB := n3_; have HK := n4_; clear n0_ n1_ n2_ n3_ n4_ ho hb hg hat; obtain ⟨Ao28, co28, eo28⟩ := Kd.R_slice HO123.out; subst eo28; have hcz29_0 : w27.cell? ⟨gb108, 0, none⟩ = some (.int .i64 (wrap64 (1 + t102))) := (blk_cell BK108.out 0).trans rfl; have hcz29_1 : w27.cell? ⟨gb108, 1, none⟩ = some (.int .i64 (wrap64 (1 + t105))) := (blk_cell BK108.out 1).trans rfl; have hcz29_2 : w27.cell? ⟨gb108, 2, none⟩ = some (u109002) := (blk_cell BK108.out 2).trans rfl; have hfz29_0 := blk_frozen BK108.out 0; have hfz29_1 := blk_frozen BK108.out 1; have hfz29_2 := blk_frozen BK108.out 2))
      go_roundg k1
      case measure => have := HK1.out; omega
      case rel => exact ⟨(wrap64 (x5_1 + 1)), (t119), (t120), (y121), (.slice Ao28 y121.length co28), (by first | rfl | (simp; done) | (simp [*]; done)), H', ⟨by have := HK1.out; omega⟩, ⟨by (with_reducible repeat (first | apply Kd.R_alloc | apply Kd.R_drewN | apply Kd.R_drew)); exact Kd.R_mono (Kd.R_far (p := ⟨gb108, 2, none⟩) (Kd.R_types HO123.out BK108.out (by decide)) (fun _ hk => hk.2) (.slice Ao28 y121.length co28)) (fun _ hk => trivial)⟩, ⟨by (with_reducible repeat (first | refine blk_drewN ?_ _ | refine blk_drew ?_ | refine blk_alloc ?_ _)); refine blk_far ?_ NB101_108.out _; (with_reducible repeat (first | refine blk_drewN ?_ _ | refine blk_drew ?_ | refine blk_alloc ?_ _)); exact BK101.out⟩, ⟨by (with_reducible repeat (first | refine blk_drewN ?_ _ | refine blk_drew ?_ | refine blk_alloc ?_ _)); refine blk_put (cs := #[.int .i64 (wrap64 (1 + t102)), .int .i64 (wrap64 (1 + t105)), u109002]) ?_ 2 _ rfl; (with_reducible repeat (first | refine blk_drewN ?_ _ | refine blk_drew ?_ | refine blk_alloc ?_ _)); exact BK108.out⟩, ⟨by repeat (first | (with_reducible first | exact HI0.out | apply IsS136.alloc | apply IsS136.drewN | apply IsS136.drew | apply IsS136.set_1 | apply IsS136.set_2 | refine IsS136.far ?_ NB0_101.out _ | refine IsS136.far ?_ NB0_108.out _) | exact HI0.out)⟩, ⟨by repeat (first | (with_reducible first | exact HK.out | apply KeepBut.set_ | apply keep_drewN | apply keep_drew | apply keep_alloc | refine keep_far ?_ GW101.out _ | refine keep_far ?_ GW108.out _) | exact HK.out)⟩, ⟨by repeat (first | (with_reducible first | exact HB.out | apply below_alloc | apply pw_below_drewN | apply below_drew1 | refine below_set ?_ (IsS136.ge HI0.out) | refine below_set ?_ GE101.out | refine below_set ?_ GE108.out) | exact HB.out)⟩⟩
     ·
      rw [if_neg c20] at H
      exact absurd H (by simp)
    ·
     replace c19 := Bool.eq_false_iff.mpr c19
     subst c19
     have H1 : (if x109002_1.length < 17592186044416 then (spec_l1Cur_field.l0 k1 t112 (wrap64 (x5_1 + 1)) s0_0 t119 t120 (wrap64 (1 + t102)) (wrap64 (1 + t105)) (x109002_1 ++ [wrap64 (t112 + t115)])) else (none)) = some (r1, r2, r3, r4, r5) := by rw [if_neg (show ¬ (false = true) by decide)] at H; exact H
     clear H
     have H := H1
     clear H1
     by_cases c30 : x109002_1.length < 17592186044416
     ·
      rw [if_pos c30] at H
      have LMc30 := Aside0.mk c30
      clear c30
      obtain ⟨y124, hy124⟩ : ∃ y_ : List Int, y_ = (x109002_1 ++ [wrap64 (t112 + t115)]) := ⟨_, rfl⟩
      replace H : (spec_l1Cur_field.l0 k1 t112 (wrap64 (x5_1 + 1)) s0_0 t119 t120 (wrap64 (1 + t102)) (wrap64 (1 + t105)) y124) = some (r1, r2, r3, r4, r5) := by first | (rw [hy124]; with_reducible exact H) | (have H2_ := (Option.bind_some _ _).symm.trans H; rw [hy124]; with_reducible exact H2_) | (have H2_ := (Option.bind_some _ _).symm.trans H; with_reducible exact H2_) | with_reducible exact H | (rw [hy124]; exact H) | exact H
      have Ny124 := Aside0.mk hy124
      clear hy124
      have H' := Aside0.mk H
      clear H
      have hnb31 := NB108_101.out
      have hnc31 := NB101_108.out
      have hnb32 := NB108_0.out
      have hnc32 := NB0_108.out
      have hcz33_0 : wr.cell? ⟨gb108, 0, none⟩ = some (.int .i64 (wrap64 (1 + t102))) := (blk_cell BK108.out 0).trans rfl
      have hcz33_1 : wr.cell? ⟨gb108, 1, none⟩ = some (.int .i64 (wrap64 (1 + t105))) := (blk_cell BK108.out 1).trans rfl
      have hcz33_2 : wr.cell? ⟨gb108, 2, none⟩ = some (u109002) := (blk_cell BK108.out 2).trans rfl
      have hfz33_0 := blk_frozen BK108.out 0
      have hfz33_1 := blk_frozen BK108.out 1
      have hfz33_2 := blk_frozen BK108.out 2
      go_wp2_with (first | ((with_reducible refine gate_callee (f := 121) rfl ?_); refine goesL_ (some 28) rfl rfl Try.func121 (by kernel_rfl) rfl #[.pointer (some ⟨g, 0, none⟩), .int .i64 40] rfl (by (try simp only [List.map_toArray, List.map_cons, List.map_nil]); first | done | rfl | (simp only [List.length_drop, List.length_take]; rfl)) ?_; (with_reducible refine (spec_l1Cur_pick.calls g s0_0 x1001_1 x1002_1 40 t115 t116 t117 w0 _ ?side1 ?side2 A17.out).mono ?_); (case side1 => repeat (first | (with_reducible first | exact HI0.out | apply IsS136.alloc | apply IsS136.drewN | apply IsS136.drew | apply IsS136.set_1 | apply IsS136.set_2 | refine IsS136.far ?_ NB0_101.out _ | refine IsS136.far ?_ NB0_108.out _) | exact HI0.out)); (case side2 => repeat (first | (with_reducible first | exact HB.out | apply below_alloc | apply pw_below_drewN | apply below_drew1 | refine below_set ?_ (IsS136.ge HI0.out) | refine below_set ?_ GE101.out | refine below_set ?_ GE108.out) | exact HB.out)); rintro e w34 ⟨rfl, hi, hb, hk⟩; refine ⟨_, rfl, ?_⟩; have n0_ := aK (Kd.R_mono (Kd.R_keep (IsS136.apart (show IsS136 w0 _ g s0_0 x1001_1 x1002_1 from by repeat (first | (with_reducible first | exact HI0.out | apply IsS136.alloc | apply IsS136.drewN | apply IsS136.drew | apply IsS136.set_1 | apply IsS136.set_2 | refine IsS136.far ?_ NB0_101.out _ | refine IsS136.far ?_ NB0_108.out _) | exact HI0.out)) (pR HO_109002.out) (by decide)) hk (fun _ h => h.2)) (fun _ h => h.1)); have n1_ := aK (KeepBut.blk hk (g' := gb101) (o := .cells #[.int .i64 0, .int .i64 0, .slice none 0 0] 42 (0, 0)) (pB BK101.out) NB101_0.out (by simp)); have n2_ := aK (KeepBut.blk hk (g' := gb108) (o := .cells #[.int .i64 (wrap64 (1 + t102)), .int .i64 (wrap64 (1 + t105)), u109002] 42 (0, 0)) (pB BK108.out) NB108_0.out (by simp)); have n3_ := aK (KeepBut.trans (by repeat (first | (with_reducible first | exact HK.out | apply KeepBut.set_ | apply keep_drewN | apply keep_drew | apply keep_alloc | refine keep_far ?_ GW101.out _ | refine keep_far ?_ GW108.out _) | exact HK.out)) hk (.inl rfl)); have n4_ := aK (hb); have n5_ := aK (hi); clear HO_109002 BK101 BK108 HK HB HI0; have HO_109002 := n0_; have BK101 := n1_; have BK108 := n2_; have HK := n3_; have HB := n4_; have HI0 := n5_; clear n0_ n1_ n2_ n3_ n4_ n5_; (try clear hb); (try clear hb2); (try clear hk); (try clear hi)) | ((with_reducible refine gate_callee (f := 177) rfl ?_); refine goesL_ (some 31) rfl rfl Try.func177 (by kernel_rfl) rfl #[.pointer (some ⟨g, 0, none⟩), .int .i64 12] rfl (by (try simp only [List.map_toArray, List.map_cons, List.map_nil]); first | done | rfl | (simp only [List.length_drop, List.length_take]; rfl)) ?_; (with_reducible refine (spec_l1Cur_one.calls g s0_0 t116 t117 12 false t119 t120 w0 _ ?side1 ?side2 A18.out).mono ?_); (case side1 => repeat (first | (with_reducible first | exact HI0.out | apply IsS136.alloc | apply IsS136.drewN | apply IsS136.drew | apply IsS136.set_1 | apply IsS136.set_2 | refine IsS136.far ?_ NB0_101.out _ | refine IsS136.far ?_ NB0_108.out _) | exact HI0.out)); (case side2 => repeat (first | (with_reducible first | exact HB.out | apply below_alloc | apply pw_below_drewN | apply below_drew1 | refine below_set ?_ (IsS136.ge HI0.out) | refine below_set ?_ GE101.out | refine below_set ?_ GE108.out) | exact HB.out)); rintro e w35 ⟨rfl, hi, hb, hk⟩; refine ⟨_, rfl, ?_⟩; have n0_ := aK (Kd.R_mono (Kd.R_keep (IsS136.apart (show IsS136 w0 _ g s0_0 t116 t117 from by repeat (first | (with_reducible first | exact HI0.out | apply IsS136.alloc | apply IsS136.drewN | apply IsS136.drew | apply IsS136.set_1 | apply IsS136.set_2 | refine IsS136.far ?_ NB0_101.out _ | refine IsS136.far ?_ NB0_108.out _) | exact HI0.out)) (pR HO_109002.out) (by decide)) hk (fun _ h => h.2)) (fun _ h => h.1)); have n1_ := aK (KeepBut.blk hk (g' := gb101) (o := .cells #[.int .i64 0, .int .i64 0, .slice none 0 0] 42 (0, 0)) (pB BK101.out) NB101_0.out (by simp)); have n2_ := aK (KeepBut.blk hk (g' := gb108) (o := .cells #[.int .i64 (wrap64 (1 + t102)), .int .i64 (wrap64 (1 + t105)), u109002] 42 (0, 0)) (pB BK108.out) NB108_0.out (by simp)); have n3_ := aK (KeepBut.trans (by repeat (first | (with_reducible first | exact HK.out | apply KeepBut.set_ | apply keep_drewN | apply keep_drew | apply keep_alloc | refine keep_far ?_ GW101.out _ | refine keep_far ?_ GW108.out _) | exact HK.out)) hk (.inl rfl)); have n4_ := aK (hb); have n5_ := aK (hi); clear HO_109002 BK101 BK108 HK HB HI0; have HO_109002 := n0_; have BK101 := n1_; have BK108 := n2_; have HK := n3_; have HB := n4_; have HI0 := n5_; clear n0_ n1_ n2_ n3_ n4_ n5_; (try clear hb); (try clear hb2); (try clear hk); (try clear hi); have hcz36_0 : w35.cell? ⟨gb108, 0, none⟩ = some (.int .i64 (wrap64 (1 + t102))) := (blk_cell BK108.out 0).trans rfl; have hcz36_1 : w35.cell? ⟨gb108, 1, none⟩ = some (.int .i64 (wrap64 (1 + t105))) := (blk_cell BK108.out 1).trans rfl; have hcz36_2 : w35.cell? ⟨gb108, 2, none⟩ = some (u109002) := (blk_cell BK108.out 2).trans rfl; have hfz36_0 := blk_frozen BK108.out 0; have hfz36_1 := blk_frozen BK108.out 1; have hfz36_2 := blk_frozen BK108.out 2) | ((with_reducible refine gate_builtin (b := .append) (xs := #[.tmp 33, .tmp 35]) rfl ?_); at_builtin; refine Kd.R_append (Kd.int .i64) w.heap.size rfl (.tmp 33) (.tmp 35) 36 3 (.int .i64 0) 8 rfl Try.underlying36 info3 rfl (by decide) (by omega) u109002 x109002_1 (wrap64 (t112 + t115)) [.int .i64 (wrap64 (t112 + t115))] (fun _ => True) (fun _ => False) rfl rfl ?aP (fun _ hk => hk.elim) ?aF ?aO (Below.refl _ _) ?aS ?aL ?_; (case aP => exact rfl); (case aF => exact (fun _ _ => trivial)); (case aO => exact (pR HO_109002.out)); (case aS => exact (keep_size (w := w) (g := g) (row := none) (by repeat (first | (with_reducible first | exact HK.out | apply KeepBut.set_ | apply keep_drewN | apply keep_drew | apply keep_alloc | refine keep_far ?_ GW101.out _ | refine keep_far ?_ GW108.out _) | exact HK.out)))); (case aL => have := LMc30.out; omega); intro v125 w37 ho hb hg hat; rw [← Ny124.out] at ho; have n0_ := aK (blk_grown (g := gb101) (o := .cells #[.int .i64 0, .int .i64 0, .slice none 0 0] 42 (0, 0)) (pB BK101.out) hg (Kd.R_ne HO_109002.out BK101.out (by decide))); have n1_ := aK (blk_grown (g := gb108) (o := .cells #[.int .i64 (wrap64 (1 + t102)), .int .i64 (wrap64 (1 + t105)), u109002] 42 (0, 0)) (pB BK108.out) hg (Kd.R_ne HO_109002.out BK108.out (by decide))); have n2_ := aK (IsS136.grown (by repeat (first | (with_reducible first | exact HI0.out | apply IsS136.alloc | apply IsS136.drewN | apply IsS136.drew | apply IsS136.set_1 | apply IsS136.set_2 | refine IsS136.far ?_ NB0_101.out _ | refine IsS136.far ?_ NB0_108.out _) | exact HI0.out)) hg (IsS136.own_ne HI0.out HO_109002.out (by decide))); have n3_ := aK (below_weaken (by repeat (first | (with_reducible first | exact HB.out | apply below_alloc | apply pw_below_drewN | apply below_drew1 | refine below_set ?_ (IsS136.ge HI0.out) | refine below_set ?_ GE101.out | refine below_set ?_ GE108.out) | exact HB.out)) HL.out hb); have n4_ := aK (KeepBut.trans (by repeat (first | (with_reducible first | exact HK.out | apply KeepBut.set_ | apply keep_drewN | apply keep_drew | apply keep_alloc | refine keep_far ?_ GW101.out _ | refine keep_far ?_ GW108.out _) | exact HK.out)) (KeepBut.of_grown hg g) (Kd.R_base2 HO_109002.out)); have HO126 := aK (ho); clear BK101 BK108 HI0 HB HK HO_109002; have BK101 := n0_; have BK108 := n1_; have HI0 := n2_; have HB := n3_; have HK := n4_; clear n0_ n1_ n2_ n3_ n4_ ho hb hg hat; obtain ⟨Ao38, co38, eo38⟩ := Kd.R_slice HO126.out; subst eo38; have hcz39_0 : w37.cell? ⟨gb108, 0, none⟩ = some (.int .i64 (wrap64 (1 + t102))) := (blk_cell BK108.out 0).trans rfl; have hcz39_1 : w37.cell? ⟨gb108, 1, none⟩ = some (.int .i64 (wrap64 (1 + t105))) := (blk_cell BK108.out 1).trans rfl; have hcz39_2 : w37.cell? ⟨gb108, 2, none⟩ = some (u109002) := (blk_cell BK108.out 2).trans rfl; have hfz39_0 := blk_frozen BK108.out 0; have hfz39_1 := blk_frozen BK108.out 1; have hfz39_2 := blk_frozen BK108.out 2))
      go_roundg k1
      case measure => have := HK1.out; omega
      case rel => exact ⟨(wrap64 (x5_1 + 1)), (t119), (t120), (y124), (.slice Ao38 y124.length co38), (by first | rfl | (simp; done) | (simp [*]; done)), H', ⟨by have := HK1.out; omega⟩, ⟨by (with_reducible repeat (first | apply Kd.R_alloc | apply Kd.R_drewN | apply Kd.R_drew)); exact Kd.R_mono (Kd.R_far (p := ⟨gb108, 2, none⟩) (Kd.R_types HO126.out BK108.out (by decide)) (fun _ hk => hk.2) (.slice Ao38 y124.length co38)) (fun _ hk => trivial)⟩, ⟨by (with_reducible repeat (first | refine blk_drewN ?_ _ | refine blk_drew ?_ | refine blk_alloc ?_ _)); refine blk_far ?_ NB101_108.out _; (with_reducible repeat (first | refine blk_drewN ?_ _ | refine blk_drew ?_ | refine blk_alloc ?_ _)); exact BK101.out⟩, ⟨by (with_reducible repeat (first | refine blk_drewN ?_ _ | refine blk_drew ?_ | refine blk_alloc ?_ _)); refine blk_put (cs := #[.int .i64 (wrap64 (1 + t102)), .int .i64 (wrap64 (1 + t105)), u109002]) ?_ 2 _ rfl; (with_reducible repeat (first | refine blk_drewN ?_ _ | refine blk_drew ?_ | refine blk_alloc ?_ _)); exact BK108.out⟩, ⟨by repeat (first | (with_reducible first | exact HI0.out | apply IsS136.alloc | apply IsS136.drewN | apply IsS136.drew | apply IsS136.set_1 | apply IsS136.set_2 | refine IsS136.far ?_ NB0_101.out _ | refine IsS136.far ?_ NB0_108.out _) | exact HI0.out)⟩, ⟨by repeat (first | (with_reducible first | exact HK.out | apply KeepBut.set_ | apply keep_drewN | apply keep_drew | apply keep_alloc | refine keep_far ?_ GW101.out _ | refine keep_far ?_ GW108.out _) | exact HK.out)⟩, ⟨by repeat (first | (with_reducible first | exact HB.out | apply below_alloc | apply pw_below_drewN | apply below_drew1 | refine below_set ?_ (IsS136.ge HI0.out) | refine below_set ?_ GE101.out | refine below_set ?_ GE108.out) | exact HB.out)⟩⟩
     ·
      rw [if_neg c30] at H
      exact absurd H (by simp)
   ·
    rw [if_neg c16] at H
    have c16b0 : decide (x5_1 < (wrap64 ((wrap64 (1 + t102)) * (wrap64 (1 + t105))))) = false := decide_eq_false c16
    clear c16
    replace H := Option.bind_eq_some_iff.mp H
    obtain ⟨⟨t127, t128, t129⟩, A400, H⟩ := H
    replace H : (if t127 = true then ((spec_l1Cur_pick.f s0_0 t128 t129 (x109002_1.length : Int)).bind fun bt130 => ((spec_l1Cur_among.f s0_0 bt130.2.1 bt130.2.2 (([9000, (-9000), 0] : List Int))).bind fun bt136 => (if 0 ≤ bt130.1 then (if bt130.1 < (x109002_1.length : Int) then (spec_l1Cur_field.j1 k1 s0_0 bt136.2.1 bt136.2.2 (wrap64 (1 + t102)) (wrap64 (1 + t105)) (x109002_1.set (bt130.1 : Int).toNat bt136.1)) else (none)) else (none)))) else (spec_l1Cur_field.j1 k1 s0_0 t128 t129 (wrap64 (1 + t102)) (wrap64 (1 + t105)) x109002_1)) = some (r1, r2, r3, r4, r5) := H
    have A40 := Aside0.mk A400
    clear A400
    have HC41 := Aside0.mk H
    clear H
    have hnb42 := NB108_101.out
    have hnc42 := NB101_108.out
    have hnb43 := NB108_0.out
    have hnc43 := NB0_108.out
    have hcz44_0 : wr.cell? ⟨gb108, 0, none⟩ = some (.int .i64 (wrap64 (1 + t102))) := (blk_cell BK108.out 0).trans rfl
    have hcz44_1 : wr.cell? ⟨gb108, 1, none⟩ = some (.int .i64 (wrap64 (1 + t105))) := (blk_cell BK108.out 1).trans rfl
    have hcz44_2 : wr.cell? ⟨gb108, 2, none⟩ = some (u109002) := (blk_cell BK108.out 2).trans rfl
    have hfz44_0 := blk_frozen BK108.out 0
    have hfz44_1 := blk_frozen BK108.out 1
    have hfz44_2 := blk_frozen BK108.out 2
    go_upto_if 39 with (first | ((with_reducible refine gate_callee (f := 177) rfl ?_); refine goesL_ (some 39) rfl rfl Try.func177 (by kernel_rfl) rfl #[.pointer (some ⟨g, 0, none⟩), .int .i64 10] rfl (by (try simp only [List.map_toArray, List.map_cons, List.map_nil]); first | done | rfl | (simp only [List.length_drop, List.length_take]; rfl)) ?_; (with_reducible refine (spec_l1Cur_one.calls g s0_0 x1001_1 x1002_1 10 t127 t128 t129 w0 _ ?side1 ?side2 A40.out).mono ?_); (case side1 => repeat (first | (with_reducible first | exact HI0.out | apply IsS136.alloc | apply IsS136.drewN | apply IsS136.drew | apply IsS136.set_1 | apply IsS136.set_2 | refine IsS136.far ?_ NB0_101.out _ | refine IsS136.far ?_ NB0_108.out _) | exact HI0.out)); (case side2 => repeat (first | (with_reducible first | exact HB.out | apply below_alloc | apply pw_below_drewN | apply below_drew1 | refine below_set ?_ (IsS136.ge HI0.out) | refine below_set ?_ GE101.out | refine below_set ?_ GE108.out) | exact HB.out)); rintro e w45 ⟨rfl, hi, hb, hk⟩; refine ⟨_, rfl, ?_⟩; have n0_ := aK (Kd.R_mono (Kd.R_keep (IsS136.apart (show IsS136 w0 _ g s0_0 x1001_1 x1002_1 from by repeat (first | (with_reducible first | exact HI0.out | apply IsS136.alloc | apply IsS136.drewN | apply IsS136.drew | apply IsS136.set_1 | apply IsS136.set_2 | refine IsS136.far ?_ NB0_101.out _ | refine IsS136.far ?_ NB0_108.out _) | exact HI0.out)) (pR HO_109002.out) (by decide)) hk (fun _ h => h.2)) (fun _ h => h.1)); have n1_ := aK (KeepBut.blk hk (g' := gb101) (o := .cells #[.int .i64 0, .int .i64 0, .slice none 0 0] 42 (0, 0)) (pB BK101.out) NB101_0.out (by simp)); have n2_ := aK (KeepBut.blk hk (g' := gb108) (o := .cells #[.int .i64 (wrap64 (1 + t102)), .int .i64 (wrap64 (1 + t105)), u109002] 42 (0, 0)) (pB BK108.out) NB108_0.out (by simp)); have n3_ := aK (KeepBut.trans (by repeat (first | (with_reducible first | exact HK.out | apply KeepBut.set_ | apply keep_drewN | apply keep_drew | apply keep_alloc | refine keep_far ?_ GW101.out _ | refine keep_far ?_ GW108.out _) | exact HK.out)) hk (.inl rfl)); have n4_ := aK (hb); have n5_ := aK (hi); clear HO_109002 BK101 BK108 HK HB HI0; have HO_109002 := n0_; have BK101 := n1_; have BK108 := n2_; have HK := n3_; have HB := n4_; have HI0 := n5_; clear n0_ n1_ n2_ n3_ n4_ n5_; (try clear hb); (try clear hb2); (try clear hk); (try clear hi)))
    (try simp only [Act.put, List.setIfInBounds_toArray, List.set_cons_zero, List.set_cons_succ])
    go_cut [] (fun wc => ∃ (kq : Nat) (x1001_40 : Int) (x1002_40 : Int) (x109002_40 : List Int) (u109002 : Value), Aside0 (spec_l1Cur_field.j1 kq s0_0 x1001_40 x1002_40 (wrap64 (1 + t102)) (wrap64 (1 + t105)) x109002_40 = some (r1, r2, r3, r4, r5)) ∧ Aside0 (kq ≤ k1) ∧ Aside0 (Kd.R (Kd.int .i64) 3 wc w.heap.size (fun _ => True) u109002 x109002_40) ∧ Aside0 (wc.heap[gb101]? = some (.cells #[.int .i64 0, .int .i64 0, (.slice none 0 0)] 42 (0, 0))) ∧ Aside0 (wc.heap[gb108]? = some (.cells #[.int .i64 (wrap64 (1 + t102)), .int .i64 (wrap64 (1 + t105)), u109002] 42 (0, 0))) ∧ Aside0 (IsS136 w0 wc g s0_0 x1001_40 x1002_40) ∧ Aside0 (KeepBut w wc g none) ∧ Aside0 (Below w0.heap.size w0 wc))
    case first =>
     have H := HC41.out
     clear HC41
     by_cases c46 : t127 = true
     ·
      subst c46
      have H1 : ((spec_l1Cur_pick.f s0_0 t128 t129 (x109002_1.length : Int)).bind fun bt130 => ((spec_l1Cur_among.f s0_0 bt130.2.1 bt130.2.2 (([9000, (-9000), 0] : List Int))).bind fun bt136 => (if 0 ≤ bt130.1 then (if bt130.1 < (x109002_1.length : Int) then (spec_l1Cur_field.j1 k1 s0_0 bt136.2.1 bt136.2.2 (wrap64 (1 + t102)) (wrap64 (1 + t105)) (x109002_1.set (bt130.1 : Int).toNat bt136.1)) else (none)) else (none)))) = some (r1, r2, r3, r4, r5) := by rw [if_pos rfl] at H; exact H
      clear H
      have H := H1
      clear H1
      replace H := Option.bind_eq_some_iff.mp H
      obtain ⟨⟨t130, t131, t132⟩, A470, H⟩ := H
      replace H : ((spec_l1Cur_among.f s0_0 t131 t132 (([9000, (-9000), 0] : List Int))).bind fun bt136 => (if 0 ≤ t130 then (if t130 < (x109002_1.length : Int) then (spec_l1Cur_field.j1 k1 s0_0 bt136.2.1 bt136.2.2 (wrap64 (1 + t102)) (wrap64 (1 + t105)) (x109002_1.set (t130 : Int).toNat bt136.1)) else (none)) else (none))) = some (r1, r2, r3, r4, r5) := H
      have A47 := Aside0.mk A470
      clear A470
      obtain ⟨y133, hy133⟩ : ∃ y_ : List Int, y_ = (([9000, (-9000), 0] : List Int)) := ⟨_, rfl⟩
      replace H : ((spec_l1Cur_among.f s0_0 t131 t132 y133).bind fun bt136 => (if 0 ≤ t130 then (if t130 < (x109002_1.length : Int) then (spec_l1Cur_field.j1 k1 s0_0 bt136.2.1 bt136.2.2 (wrap64 (1 + t102)) (wrap64 (1 + t105)) (x109002_1.set (t130 : Int).toNat bt136.1)) else (none)) else (none))) = some (r1, r2, r3, r4, r5) := by first | (rw [hy133]; with_reducible exact H) | (have H2_ := (Option.bind_some _ _).symm.trans H; rw [hy133]; with_reducible exact H2_) | (have H2_ := (Option.bind_some _ _).symm.trans H; with_reducible exact H2_) | with_reducible exact H | (rw [hy133]; exact H) | exact H
      have Ny133 := Aside0.mk hy133
      clear hy133
      replace H := Option.bind_eq_some_iff.mp H
      obtain ⟨⟨t136, t137, t138⟩, A480, H⟩ := H
      replace H : (if 0 ≤ t130 then (if t130 < (x109002_1.length : Int) then (spec_l1Cur_field.j1 k1 s0_0 t137 t138 (wrap64 (1 + t102)) (wrap64 (1 + t105)) (x109002_1.set (t130 : Int).toNat t136)) else (none)) else (none)) = some (r1, r2, r3, r4, r5) := H
      have A48 := Aside0.mk A480
      clear A480
      by_cases c49 : 0 ≤ t130
      ·
       rw [if_pos c49] at H
       have c49b0 : decide (0 ≤ t130) = true := decide_eq_true c49
       clear c49
       (first | rw [c49b0] | (simp only [i64_w, i32_w]; rw [c49b0]) | skip)
       by_cases c50 : t130 < (x109002_1.length : Int)
       ·
        rw [if_pos c50] at H
        have c50b0 : decide (t130 < (x109002_1.length : Int)) = true := decide_eq_true c50
        clear c50
        obtain ⟨y139, hy139⟩ : ∃ y_ : List Int, y_ = (x109002_1.set (t130 : Int).toNat t136) := ⟨_, rfl⟩
        replace H : (spec_l1Cur_field.j1 k1 s0_0 t137 t138 (wrap64 (1 + t102)) (wrap64 (1 + t105)) y139) = some (r1, r2, r3, r4, r5) := by first | (rw [hy139]; with_reducible exact H) | (have H2_ := (Option.bind_some _ _).symm.trans H; rw [hy139]; with_reducible exact H2_) | (have H2_ := (Option.bind_some _ _).symm.trans H; with_reducible exact H2_) | with_reducible exact H | (rw [hy139]; exact H) | exact H
        have Ny139 := Aside0.mk hy139
        clear hy139
        have H' := Aside0.mk H
        clear H
        try go_wp2
        have n0_ := aK (Kd.R_drew HO_109002.out)
        have n1_ := aK (blk_drew BK101.out)
        have n2_ := aK (blk_drew BK108.out)
        have n3_ := aK (IsS136.drew HI0.out)
        have n4_ := aK (keep_drew HK.out)
        have n5_ := aK (below_drew1 HB.out)
        clear HO_109002 BK101 BK108 HI0 HK HB
        have HO_109002 := n0_
        have BK101 := n1_
        have BK108 := n2_
        have HI0 := n3_
        have HK := n4_
        have HB := n5_
        clear n0_ n1_ n2_ n3_ n4_ n5_
        obtain ⟨Ao53, co53, eo53⟩ := Kd.R_slice HO_109002.out
        (first | subst eo53 | (injection eo53 with f1_ f2_ f3_; have f4_ := f1_.symm; have f5_ := f3_.symm; clear f1_ f2_ f3_; subst f4_; subst f5_))
        refine start_ (n := 12) (S := fun w' => w'.cell? ⟨gb108, 0, none⟩ = some (.int .i64 (wrap64 (1 + t102))) ∧ w'.cell? ⟨gb108, 1, none⟩ = some (.int .i64 (wrap64 (1 + t105))) ∧ w'.cell? ⟨gb108, 2, none⟩ = some (.slice Ao53 x109002_1.length co53)) (ds := [11]) #[false, false, false, false, false, false, false, false, false, false, false, false] (by kernel_rfl) rfl rfl ⟨(blk_cell BK108.out 0).trans rfl, (blk_cell BK108.out 1).trans rfl, (blk_cell BK108.out 2).trans rfl⟩ (fun hHeld => ?_); refine with_tabW spec_l1Cur_field.tab11 spec_l1Cur_field.bits11 (fun HT_ HW_ => ?_)
        generalize w45.drew = w52 at HO_109002 BK101 BK108 HI0 HK HB hHeld ⊢
        refine pure_ (i := 0) (N := some 40) (v := ?_) (a' := ?_) #[true, false, false, false, false, false, false, false, false, false, false, false] rfl rfl (any_of HT_.out (by kernel_rfl)) (fun _ _ _ h => h) (Or.inl ⟨by rfl, ?_⟩) ?_ ?_
        rotate_left
        ·
         intro w'
         go_simp
         with_reducible rfl
        rotate_left
        ·
         simp only [Act.put, List.setIfInBounds_toArray, List.set_cons_zero, List.set_cons_succ, i64_w, i32_w]
         rfl
        refine pure_ (i := 2) (N := some 42) (v := ?_) (a' := ?_) #[true, false, true, false, false, false, false, false, false, false, false, false] rfl rfl (any_of HT_.out (by kernel_rfl)) (fun _ _ _ h => h) (Or.inl ⟨by rfl, ?_⟩) ?_ ?_
        rotate_left
        ·
         intro w'
         go_simp
         with_reducible rfl
        rotate_left
        ·
         simp only [Act.put, List.setIfInBounds_toArray, List.set_cons_zero, List.set_cons_succ, i64_w, i32_w]
         rfl
        refine pure_ (i := 3) (N := some 43) (v := ?_) (a' := ?_) #[true, false, true, true, false, false, false, false, false, false, false, false] rfl rfl (any_of HT_.out (by kernel_rfl)) (fun _ _ _ h => h) (Or.inl ⟨by rfl, ?_⟩) ?_ ?_
        rotate_left
        ·
         intro w'
         go_simp
         with_reducible rfl
        rotate_left
        ·
         simp only [Act.put, List.setIfInBounds_toArray, List.set_cons_zero, List.set_cons_succ, i64_w, i32_w]
         rfl
        refine pure_ (i := 7) (N := some 47) (v := ?_) (a' := ?_) #[true, false, true, true, false, false, false, true, false, false, false, false] rfl rfl (any_of HT_.out (by kernel_rfl)) (fun _ _ _ h => h) (Or.inl ⟨by rfl, ?_⟩) ?_ ?_
        rotate_left
        ·
         intro w'
         go_simp
         with_reducible rfl
        rotate_left
        ·
         simp only [Act.put, List.setIfInBounds_toArray, List.set_cons_zero, List.set_cons_succ, i64_w, i32_w]
         rfl
        refine take_ (i := 1) (N := some 41) (v := ?_) (a' := ?_) #[true, true, true, true, false, false, false, true, false, false, false, false] rfl rfl (take_ofW HT_.out HW_.out (by kernel_rfl)) (fun _ _ _ h => h) (Or.inl ⟨by rfl, ?_⟩) hHeld ?_ ?_
        rotate_left
        ·
         rintro w' ⟨s0, s1, s2⟩
         go_simp
         with_reducible rfl
        rotate_left
        ·
         simp only [Act.put, List.setIfInBounds_toArray, List.set_cons_zero, List.set_cons_succ, i64_w, i32_w]
         rfl
        refine take_ (i := 4) (N := some 44) (v := ?_) (a' := ?_) #[true, true, true, true, true, false, false, true, false, false, false, false] rfl rfl (take_ofW HT_.out HW_.out (by kernel_rfl)) (fun _ _ _ h => h) (Or.inl ⟨by rfl, ?_⟩) hHeld ?_ ?_
        rotate_left
        ·
         rintro w' ⟨s0, s1, s2⟩
         go_simp
         with_reducible rfl
        rotate_left
        ·
         simp only [Act.put, List.setIfInBounds_toArray, List.set_cons_zero, List.set_cons_succ, i64_w, i32_w]
         rfl
        refine pure_ (i := 5) (N := some 45) (v := ?_) (a' := ?_) #[true, true, true, true, true, true, false, true, false, false, false, false] rfl rfl (any_of HT_.out (by kernel_rfl)) (fun _ _ _ h => h) (Or.inl ⟨by rfl, ?_⟩) ?_ ?_
        rotate_left
        ·
         intro w'
         go_simp
         with_reducible rfl
        rotate_left
        ·
         simp only [Act.put, List.setIfInBounds_toArray, List.set_cons_zero, List.set_cons_succ, i64_w, i32_w]
         rfl
        refine join_ (σ := Value) 3 #[true, true, true, true, true, true, true, true, true, false, false, false] (fun s_ => [(46, .int .i64 t130), (48, s_)]) (fun s_ w' => (w'.cell? ⟨gb108, 0, none⟩ = some (.int .i64 (wrap64 (1 + t102))) ∧ w'.cell? ⟨gb108, 1, none⟩ = some (.int .i64 (wrap64 (1 + t105))) ∧ w'.cell? ⟨gb108, 2, none⟩ = some (.slice Ao53 x109002_1.length co53)) ∧ (Kd.R (Kd.int .i64) 3 w' w.heap.size (fun k_ => some k_ ≠ (.slice Ao53 x109002_1.length co53 : Value).ownBlock) s_ y133) ∧ (Kd.R (Kd.int .i64) 3 w' w.heap.size (fun k_ => some k_ ≠ (s_ : Value).ownBlock) (.slice Ao53 x109002_1.length co53) x109002_1) ∧ (w'.heap[gb101]? = some (.cells #[.int .i64 0, .int .i64 0, .slice none 0 0] 42 (0, 0))) ∧ (w'.heap[gb108]? = some (.cells #[.int .i64 (wrap64 (1 + t102)), .int .i64 (wrap64 (1 + t105)), .slice Ao53 x109002_1.length co53] 42 (0, 0))) ∧ (IsS136 w0 w' g s0_0 t131 t132) ∧ (KeepBut w w' g none) ∧ (Below w0.heap.size w0 w')) ?_ ?_
        rotate_left
        ·
         intro hCont
         refine two_ (i := 6) (j := 8) (Ni := some 46) (Nj := some 48) #[true, true, true, true, true, true, true, true, false, false, false, false] #[true, true, true, true, true, true, false, true, true, false, false, false] rfl rfl rfl rfl (two_of HT_.out (by kernel_rfl)) (by decide) (by decide) (fun K hK => ?_) (fun K hK => ?_)
         ·
          skip
          refine goes_ Try.func121 (by kernel_rfl) rfl #[.pointer (some ⟨g, 0, none⟩), .int .i64 (x109002_1.length : Int)] (by rfl) rfl rfl (by (try simp only [List.map_toArray, List.map_cons, List.map_nil]); first | done | rfl | (simp only [List.length_drop, List.length_take]; rfl)) ?_
          with_reducible refine (spec_l1Cur_pick.calls g s0_0 t128 t129 (x109002_1.length : Int) t130 t131 t132 w0 _ ?side1 ?side2 A47.out).mono ?_
          (case side1 => repeat (first | (with_reducible first | exact HI0.out | apply IsS136.alloc | apply IsS136.drewN | apply IsS136.drew | apply IsS136.set_1 | apply IsS136.set_2 | refine IsS136.far ?_ NB0_101.out _ | refine IsS136.far ?_ NB0_108.out _) | exact HI0.out))
          (case side2 => repeat (first | (with_reducible first | exact HB.out | apply below_alloc | apply pw_below_drewN | apply below_drew1 | refine below_set ?_ (IsS136.ge HI0.out) | refine below_set ?_ GE101.out | refine below_set ?_ GE108.out) | exact HB.out))
          rintro e w54 ⟨rfl, hi, hb, hk⟩
          refine ⟨_, rfl, ?_⟩
          have n0_ := aK (Kd.R_mono (Kd.R_keep (IsS136.apart (show IsS136 w0 _ g s0_0 t128 t129 from by repeat (first | (with_reducible first | exact HI0.out | apply IsS136.alloc | apply IsS136.drewN | apply IsS136.drew | apply IsS136.set_1 | apply IsS136.set_2 | refine IsS136.far ?_ NB0_101.out _ | refine IsS136.far ?_ NB0_108.out _) | exact HI0.out)) (pR HO_109002.out) (by decide)) hk (fun _ h => h.2)) (fun _ h => h.1))
          have n1_ := aK (KeepBut.blk hk (g' := gb101) (o := .cells #[.int .i64 0, .int .i64 0, .slice none 0 0] 42 (0, 0)) (pB BK101.out) NB101_0.out (by simp))
          have n2_ := aK (KeepBut.blk hk (g' := gb108) (o := .cells #[.int .i64 (wrap64 (1 + t102)), .int .i64 (wrap64 (1 + t105)), .slice Ao53 x109002_1.length co53] 42 (0, 0)) (pB BK108.out) NB108_0.out (by simp))
          have n3_ := aK (KeepBut.trans (by repeat (first | (with_reducible first | exact HK.out | apply KeepBut.set_ | apply keep_drewN | apply keep_drew | apply keep_alloc | refine keep_far ?_ GW101.out _ | refine keep_far ?_ GW108.out _) | exact HK.out)) hk (.inl rfl))
          have n4_ := aK (hb)
          have n5_ := aK (hi)
          clear HO_109002 BK101 BK108 HK HB HI0
          have HO_109002 := n0_
          have BK101 := n1_
          have BK108 := n2_
          have HK := n3_
          have HB := n4_
          have HI0 := n5_
          clear n0_ n1_ n2_ n3_ n4_ n5_
          (try clear hb)
          (try clear hb2)
          (try clear hk)
          (try clear hi)
          refine hK.out _ _ ⟨(blk_cell BK108.out 0).trans rfl, (blk_cell BK108.out 1).trans rfl, (blk_cell BK108.out 2).trans rfl⟩ (fun hHeld => ?_)
          clear hK K
          refine norm_ (a' := ?_) ?_ ?_
          rotate_left
          ·
           show Act.put _ (some 46) _ = _
           simp only [Act.put, List.setIfInBounds_toArray, List.set_cons_zero, List.set_cons_succ, i64_w, i32_w]
           rfl
          refine one_ (i := 8) (N := some 48) #[true, true, true, true, true, true, true, true, true, false, false, false] rfl rfl (one_of HT_.out (by kernel_rfl)) (by decide) (fun K hK => ?_)
          refine Kd.R_lit_step (Kd.int .i64) _ 3 ?hg (N := 48) ?hd (xs := ([9000, (-9000), 0] : List Int)) (inner := [.int .i64 9000, .int .i64 (-9000), .int .i64 0]) (ok := fun _ => True) (okp := fun _ => True) ?hr ?hp (fun _ hk => hk) trivial (Below.refl _ _) (Nat.le_refl _) (by simp) ?_; (case hd => rfl); (case hg => rfl); (case hr => first | (go_simp; done) | (go_simp; rfl)); (case hp => exact (Reps.one (show Kd.M (Kd.int .i64) _ _ _ 9000 [.int .i64 9000] from rfl) (Reps.one (show Kd.M (Kd.int .i64) _ _ _ (-9000) [.int .i64 (-9000)] from rfl) (Reps.one (show Kd.M (Kd.int .i64) _ _ _ 0 [.int .i64 0] from rfl) (Reps.none _ _)))))
          intro v134 w55 ho56 hb hg_ hnew_
          clear hg_ hnew_
          (first | rw [← Ny133.out] at ho56 | (simp only [Int.reduceToNat] at ho56; rw [← Ny133.out] at ho56))
          have n0_ := aK (Kd.R_elder' (pR HO_109002.out) (Kd.R_base ho56) hb)
          have HO135 := aK (Kd.R_lower (Kd.R_new' ho56 (Kd.R_lt (pR HO_109002.out))) (keep_size (w := w) (g := g) (row := none) (by repeat (first | (with_reducible first | exact HK.out | apply KeepBut.set_ | apply keep_drewN | apply keep_drew | apply keep_alloc | refine keep_far ?_ GW101.out _ | refine keep_far ?_ GW108.out _) | exact HK.out))))
          have n4_ := aK (IsS136.below (by repeat (first | (with_reducible first | exact HI0.out | apply IsS136.alloc | apply IsS136.drewN | apply IsS136.drew | apply IsS136.set_1 | apply IsS136.set_2 | refine IsS136.far ?_ NB0_101.out _ | refine IsS136.far ?_ NB0_108.out _) | exact HI0.out)) hb)
          have n5_ := aK (KeepBut.trans (by repeat (first | (with_reducible first | exact HK.out | apply KeepBut.set_ | apply keep_drewN | apply keep_drew | apply keep_alloc | refine keep_far ?_ GW101.out _ | refine keep_far ?_ GW108.out _) | exact HK.out)) (KeepBut.of_below hb g none) (.inl rfl))
          have n6_ := aK (below_step (by repeat (first | (with_reducible first | exact HB.out | apply below_alloc | apply pw_below_drewN | apply below_drew1 | refine below_set ?_ (IsS136.ge HI0.out) | refine below_set ?_ GE101.out | refine below_set ?_ GE108.out) | exact HB.out)) hb)
          replace BK101 := bB BK101 hb
          replace BK108 := bB BK108 hb
          clear HO_109002 HI0 HK HB
          have HO_109002 := n0_
          have HI0 := n4_
          have HK := n5_
          have HB := n6_
          clear n0_ n4_ n5_ n6_ hb ho56
          refine hK.out _ _ ⟨(blk_cell BK108.out 0).trans rfl, (blk_cell BK108.out 1).trans rfl, (blk_cell BK108.out 2).trans rfl⟩ (fun hHeld => ?_)
          clear hK K
          refine norm_ (a' := ?_) ?_ ?_
          rotate_left
          ·
           show Act.put _ (some 48) _ = _
           simp only [Act.put, List.setIfInBounds_toArray, List.set_cons_zero, List.set_cons_succ, i64_w, i32_w]
           rfl
          exact norm_ (by simp only [putAll, Act.put, List.setIfInBounds_toArray, List.set_cons_zero, List.set_cons_succ]) (hCont (v134) _ ⟨hHeld, (pR (Kd.R_mono HO135.out (fun _ hk => hk.2))), (pR (Kd.R_mono HO_109002.out (fun _ hk => hk.2))), (pB BK101.out), (pB BK108.out), (by repeat (first | (with_reducible first | exact HI0.out | apply IsS136.alloc | apply IsS136.drewN | apply IsS136.drew | apply IsS136.set_1 | apply IsS136.set_2 | refine IsS136.far ?_ NB0_101.out _ | refine IsS136.far ?_ NB0_108.out _) | exact HI0.out)), (by repeat (first | (with_reducible first | exact HK.out | apply KeepBut.set_ | apply keep_drewN | apply keep_drew | apply keep_alloc | refine keep_far ?_ GW101.out _ | refine keep_far ?_ GW108.out _) | exact HK.out)), (by repeat (first | (with_reducible first | exact HB.out | apply below_alloc | apply pw_below_drewN | apply below_drew1 | refine below_set ?_ (IsS136.ge HI0.out) | refine below_set ?_ GE101.out | refine below_set ?_ GE108.out) | exact HB.out))⟩)
         ·
          skip
          refine Kd.R_lit_step (Kd.int .i64) _ 3 ?hg (N := 48) ?hd (xs := ([9000, (-9000), 0] : List Int)) (inner := [.int .i64 9000, .int .i64 (-9000), .int .i64 0]) (ok := fun _ => True) (okp := fun _ => True) ?hr ?hp (fun _ hk => hk) trivial (Below.refl _ _) (Nat.le_refl _) (by simp) ?_; (case hd => rfl); (case hg => rfl); (case hr => first | (go_simp; done) | (go_simp; rfl)); (case hp => exact (Reps.one (show Kd.M (Kd.int .i64) _ _ _ 9000 [.int .i64 9000] from rfl) (Reps.one (show Kd.M (Kd.int .i64) _ _ _ (-9000) [.int .i64 (-9000)] from rfl) (Reps.one (show Kd.M (Kd.int .i64) _ _ _ 0 [.int .i64 0] from rfl) (Reps.none _ _)))))
          intro v134 w54 ho55 hb hg_ hnew_
          clear hg_ hnew_
          (first | rw [← Ny133.out] at ho55 | (simp only [Int.reduceToNat] at ho55; rw [← Ny133.out] at ho55))
          have n0_ := aK (Kd.R_elder' (pR HO_109002.out) (Kd.R_base ho55) hb)
          have HO135 := aK (Kd.R_lower (Kd.R_new' ho55 (Kd.R_lt (pR HO_109002.out))) (keep_size (w := w) (g := g) (row := none) (by repeat (first | (with_reducible first | exact HK.out | apply KeepBut.set_ | apply keep_drewN | apply keep_drew | apply keep_alloc | refine keep_far ?_ GW101.out _ | refine keep_far ?_ GW108.out _) | exact HK.out))))
          have n4_ := aK (IsS136.below (by repeat (first | (with_reducible first | exact HI0.out | apply IsS136.alloc | apply IsS136.drewN | apply IsS136.drew | apply IsS136.set_1 | apply IsS136.set_2 | refine IsS136.far ?_ NB0_101.out _ | refine IsS136.far ?_ NB0_108.out _) | exact HI0.out)) hb)
          have n5_ := aK (KeepBut.trans (by repeat (first | (with_reducible first | exact HK.out | apply KeepBut.set_ | apply keep_drewN | apply keep_drew | apply keep_alloc | refine keep_far ?_ GW101.out _ | refine keep_far ?_ GW108.out _) | exact HK.out)) (KeepBut.of_below hb g none) (.inl rfl))
          have n6_ := aK (below_step (by repeat (first | (with_reducible first | exact HB.out | apply below_alloc | apply pw_below_drewN | apply below_drew1 | refine below_set ?_ (IsS136.ge HI0.out) | refine below_set ?_ GE101.out | refine below_set ?_ GE108.out) | exact HB.out)) hb)
          replace BK101 := bB BK101 hb
          replace BK108 := bB BK108 hb
          clear HO_109002 HI0 HK HB
          have HO_109002 := n0_
          have HI0 := n4_
          have HK := n5_
          have HB := n6_
          clear n0_ n4_ n5_ n6_ hb ho55
          refine hK.out _ _ ⟨(blk_cell BK108.out 0).trans rfl, (blk_cell BK108.out 1).trans rfl, (blk_cell BK108.out 2).trans rfl⟩ (fun hHeld => ?_)
          clear hK K
          refine norm_ (a' := ?_) ?_ ?_
          rotate_left
          ·
           show Act.put _ (some 48) _ = _
           simp only [Act.put, List.setIfInBounds_toArray, List.set_cons_zero, List.set_cons_succ, i64_w, i32_w]
           rfl
          refine one_ (i := 6) (N := some 46) #[true, true, true, true, true, true, true, true, true, false, false, false] rfl rfl (one_of HT_.out (by kernel_rfl)) (by decide) (fun K hK => ?_)
          refine goes_ Try.func121 (by kernel_rfl) rfl #[.pointer (some ⟨g, 0, none⟩), .int .i64 (x109002_1.length : Int)] (by rfl) rfl rfl (by (try simp only [List.map_toArray, List.map_cons, List.map_nil]); first | done | rfl | (simp only [List.length_drop, List.length_take]; rfl)) ?_
          with_reducible refine (spec_l1Cur_pick.calls g s0_0 t128 t129 (x109002_1.length : Int) t130 t131 t132 w0 _ ?side1 ?side2 A47.out).mono ?_
          (case side1 => repeat (first | (with_reducible first | exact HI0.out | apply IsS136.alloc | apply IsS136.drewN | apply IsS136.drew | apply IsS136.set_1 | apply IsS136.set_2 | refine IsS136.far ?_ NB0_101.out _ | refine IsS136.far ?_ NB0_108.out _) | exact HI0.out))
          (case side2 => repeat (first | (with_reducible first | exact HB.out | apply below_alloc | apply pw_below_drewN | apply below_drew1 | refine below_set ?_ (IsS136.ge HI0.out) | refine below_set ?_ GE101.out | refine below_set ?_ GE108.out) | exact HB.out))
          rintro e w56 ⟨rfl, hi, hb, hk⟩
          refine ⟨_, rfl, ?_⟩
          have n0_ := aK (Kd.R_mono (Kd.R_keep (IsS136.apart (show IsS136 w0 _ g s0_0 t128 t129 from by repeat (first | (with_reducible first | exact HI0.out | apply IsS136.alloc | apply IsS136.drewN | apply IsS136.drew | apply IsS136.set_1 | apply IsS136.set_2 | refine IsS136.far ?_ NB0_101.out _ | refine IsS136.far ?_ NB0_108.out _) | exact HI0.out)) (pR HO_109002.out) (by decide)) hk (fun _ h => h.2)) (fun _ h => h.1))
          have n1_ := aK (KeepBut.blk hk (g' := gb101) (o := .cells #[.int .i64 0, .int .i64 0, .slice none 0 0] 42 (0, 0)) (pB BK101.out) NB101_0.out (by simp))
          have n2_ := aK (KeepBut.blk hk (g' := gb108) (o := .cells #[.int .i64 (wrap64 (1 + t102)), .int .i64 (wrap64 (1 + t105)), .slice Ao53 x109002_1.length co53] 42 (0, 0)) (pB BK108.out) NB108_0.out (by simp))
          have n3_ := aK (Kd.R_mono (Kd.R_keep (IsS136.apart (show IsS136 w0 _ g s0_0 t128 t129 from by repeat (first | (with_reducible first | exact HI0.out | apply IsS136.alloc | apply IsS136.drewN | apply IsS136.drew | apply IsS136.set_1 | apply IsS136.set_2 | refine IsS136.far ?_ NB0_101.out _ | refine IsS136.far ?_ NB0_108.out _) | exact HI0.out)) (pR HO135.out) (by decide)) hk (fun _ h => h.2)) (fun _ h => h.1))
          have n4_ := aK (KeepBut.trans (by repeat (first | (with_reducible first | exact HK.out | apply KeepBut.set_ | apply keep_drewN | apply keep_drew | apply keep_alloc | refine keep_far ?_ GW101.out _ | refine keep_far ?_ GW108.out _) | exact HK.out)) hk (.inl rfl))
          have n5_ := aK (hb)
          have n6_ := aK (hi)
          clear HO_109002 BK101 BK108 HO135 HK HB HI0
          have HO_109002 := n0_
          have BK101 := n1_
          have BK108 := n2_
          have HO135 := n3_
          have HK := n4_
          have HB := n5_
          have HI0 := n6_
          clear n0_ n1_ n2_ n3_ n4_ n5_ n6_
          (try clear hb)
          (try clear hb2)
          (try clear hk)
          (try clear hi)
          refine hK.out _ _ ⟨(blk_cell BK108.out 0).trans rfl, (blk_cell BK108.out 1).trans rfl, (blk_cell BK108.out 2).trans rfl⟩ (fun hHeld => ?_)
          clear hK K
          refine norm_ (a' := ?_) ?_ ?_
          rotate_left
          ·
           show Act.put _ (some 46) _ = _
           simp only [Act.put, List.setIfInBounds_toArray, List.set_cons_zero, List.set_cons_succ, i64_w, i32_w]
           rfl
          exact norm_ (by simp only [putAll, Act.put, List.setIfInBounds_toArray, List.set_cons_zero, List.set_cons_succ]) (hCont (v134) _ ⟨hHeld, (pR (Kd.R_mono HO135.out (fun _ hk => hk.2))), (pR (Kd.R_mono HO_109002.out (fun _ hk => hk.2))), (pB BK101.out), (pB BK108.out), (by repeat (first | (with_reducible first | exact HI0.out | apply IsS136.alloc | apply IsS136.drewN | apply IsS136.drew | apply IsS136.set_1 | apply IsS136.set_2 | refine IsS136.far ?_ NB0_101.out _ | refine IsS136.far ?_ NB0_108.out _) | exact HI0.out)), (by repeat (first | (with_reducible first | exact HK.out | apply KeepBut.set_ | apply keep_drewN | apply keep_drew | apply keep_alloc | refine keep_far ?_ GW101.out _ | refine keep_far ?_ GW108.out _) | exact HK.out)), (by repeat (first | (with_reducible first | exact HB.out | apply below_alloc | apply pw_below_drewN | apply below_drew1 | refine below_set ?_ (IsS136.ge HI0.out) | refine below_set ?_ GE101.out | refine below_set ?_ GE108.out) | exact HB.out))⟩)
        rintro v134 w57 ⟨hS_, h0_, h1_, h2_, h3_, h4_, h5_, h6_⟩
        have n0_ : Aside0 (Kd.R (Kd.int .i64) 3 w57 w.heap.size (fun k_ => some k_ ≠ (.slice Ao53 x109002_1.length co53 : Value).ownBlock) v134 y133) := ⟨h0_⟩
        have n1_ : Aside0 (Kd.R (Kd.int .i64) 3 w57 w.heap.size (fun k_ => some k_ ≠ (v134 : Value).ownBlock) (.slice Ao53 x109002_1.length co53) x109002_1) := ⟨h1_⟩
        have n2_ : Aside0 (w57.heap[gb101]? = some (.cells #[.int .i64 0, .int .i64 0, .slice none 0 0] 42 (0, 0))) := ⟨h2_⟩
        have n3_ : Aside0 (w57.heap[gb108]? = some (.cells #[.int .i64 (wrap64 (1 + t102)), .int .i64 (wrap64 (1 + t105)), .slice Ao53 x109002_1.length co53] 42 (0, 0))) := ⟨h3_⟩
        have n4_ : Aside0 (IsS136 w0 w57 g s0_0 t131 t132) := ⟨h4_⟩
        have n5_ : Aside0 (KeepBut w w57 g none) := ⟨h5_⟩
        have n6_ : Aside0 (Below w0.heap.size w0 w57) := ⟨h6_⟩
        clear HO_109002 BK101 BK108 HI0 HK HB h0_ h1_ h2_ h3_ h4_ h5_ h6_
        have HO135 := n0_
        have HO_109002 := n1_
        have BK101 := n2_
        have BK108 := n3_
        have HI0 := n4_
        have HK := n5_
        have HB := n6_
        clear n0_ n1_ n2_ n3_ n4_ n5_ n6_
        have hHeld : w57.cell? ⟨gb108, 0, none⟩ = some (.int .i64 (wrap64 (1 + t102))) ∧ w57.cell? ⟨gb108, 1, none⟩ = some (.int .i64 (wrap64 (1 + t105))) ∧ w57.cell? ⟨gb108, 2, none⟩ = some (.slice Ao53 x109002_1.length co53) := hS_
        obtain ⟨Ao58, co58, eo58⟩ := Kd.R_slice HO135.out
        (first | subst eo58 | (injection eo58 with f1_ f2_ f3_; have f4_ := f1_.symm; have f5_ := f3_.symm; clear f1_ f2_ f3_; subst f4_; subst f5_))
        refine norm_ (a' := ?_) ?_ ?_
        rotate_left
        ·
         simp only [putAll, Act.put, List.setIfInBounds_toArray, List.set_cons_zero, List.set_cons_succ]
         rfl
        refine one_ (i := 9) (N := some 49) #[true, true, true, true, true, true, true, true, true, true, false, false] rfl rfl (one_of HT_.out (by kernel_rfl)) (by decide) (fun K hK => ?_)
        refine goes_ Try.func168 (by kernel_rfl) rfl #[.pointer (some ⟨g, 0, none⟩), .slice Ao58 y133.length co58] (by rfl) rfl rfl (by (try simp only [List.map_toArray, List.map_cons, List.map_nil]); first | done | rfl | (simp only [List.length_drop, List.length_take]; rfl)) ?_
        with_reducible refine (spec_l1Cur_among.calls g s0_0 t131 t132 _ _ y133 t136 t137 t138 w0 _ ?side1 ?side2 ?side3 ?side4 ?side5 A48.out).mono ?_
        (case side1 => repeat (first | (with_reducible first | exact HI0.out | apply IsS136.alloc | apply IsS136.drewN | apply IsS136.drew | apply IsS136.set_1 | apply IsS136.set_2 | refine IsS136.far ?_ NB0_101.out _ | refine IsS136.far ?_ NB0_108.out _) | exact HI0.out))
        (case side2 => repeat (first | (with_reducible first | exact HB.out | apply below_alloc | apply pw_below_drewN | apply below_drew1 | refine below_set ?_ (IsS136.ge HI0.out) | refine below_set ?_ GE101.out | refine below_set ?_ GE108.out) | exact HB.out))
        (case side3 => repeat (first | exact (Kd.R_reads' HO135.out).2.2 | (with_reducible refine Kd.C_alloc ?_ _) | (with_reducible refine Kd.C_drewN ?_ _) | (with_reducible refine Kd.C_drew ?_)))
        (case side4 => exact (Kd.R_reads' HO135.out).2.1)
        (case side5 => exact far_slice (IsS136.own_ne HI0.out HO135.out (by decide)))
        rintro e w59 ⟨rfl, hi, hb, hk⟩
        refine ⟨_, rfl, ?_⟩
        have n0_ := aK (Kd.R_mono (Kd.R_keep (IsS136.apart (show IsS136 w0 _ g s0_0 t131 t132 from by repeat (first | (with_reducible first | exact HI0.out | apply IsS136.alloc | apply IsS136.drewN | apply IsS136.drew | apply IsS136.set_1 | apply IsS136.set_2 | refine IsS136.far ?_ NB0_101.out _ | refine IsS136.far ?_ NB0_108.out _) | exact HI0.out)) (pR HO_109002.out) (by decide)) hk (fun _ h => h.2)) (fun _ h => h.1))
        have n1_ := aK (KeepBut.blk hk (g' := gb101) (o := .cells #[.int .i64 0, .int .i64 0, .slice none 0 0] 42 (0, 0)) (pB BK101.out) NB101_0.out (by simp))
        have n2_ := aK (KeepBut.blk hk (g' := gb108) (o := .cells #[.int .i64 (wrap64 (1 + t102)), .int .i64 (wrap64 (1 + t105)), .slice Ao53 x109002_1.length co53] 42 (0, 0)) (pB BK108.out) NB108_0.out (by simp))
        have n3_ := aK (Kd.R_mono (Kd.R_keep (IsS136.apart (show IsS136 w0 _ g s0_0 t131 t132 from by repeat (first | (with_reducible first | exact HI0.out | apply IsS136.alloc | apply IsS136.drewN | apply IsS136.drew | apply IsS136.set_1 | apply IsS136.set_2 | refine IsS136.far ?_ NB0_101.out _ | refine IsS136.far ?_ NB0_108.out _) | exact HI0.out)) (pR HO135.out) (by decide)) hk (fun _ h => h.2)) (fun _ h => h.1))
        have n4_ := aK (KeepBut.trans (by repeat (first | (with_reducible first | exact HK.out | apply KeepBut.set_ | apply keep_drewN | apply keep_drew | apply keep_alloc | refine keep_far ?_ GW101.out _ | refine keep_far ?_ GW108.out _) | exact HK.out)) hk (.inl rfl))
        have n5_ := aK (hb)
        have n6_ := aK (hi)
        clear HO_109002 BK101 BK108 HO135 HK HB HI0
        have HO_109002 := n0_
        have BK101 := n1_
        have BK108 := n2_
        have HO135 := n3_
        have HK := n4_
        have HB := n5_
        have HI0 := n6_
        clear n0_ n1_ n2_ n3_ n4_ n5_ n6_
        (try clear hb)
        (try clear hb2)
        (try clear hk)
        (try clear hi)
        have p51 : 0 ≤ (t130 : Int) := of_decide_eq_true (by first | (with_reducible assumption) | assumption)
        have q51 : (t130 : Int) < ((x109002_1.length : Int) : Int) := of_decide_eq_true (by first | (with_reducible assumption) | assumption)
        obtain ⟨go51, co51, eo51, gb51, gl51, cl51, HG51⟩ := Kd.R_form HO_109002.out (by omega)
        (first | cases eo51 | (injection eo51 with ea_ en_ ec_; (first | subst ea_ | (injection ea_ with ea_; subst ea_)); subst ec_; clear en_))
        have GB51 := Aside0.mk gb51
        have GG51 := Aside0.mk HG51
        clear gb51 gl51 HG51
        obtain ⟨hx51_0, hf51_0⟩ := Kd.R_celln 0 HO_109002.out (t130 : Int) p51 q51
        replace p51 := eq_true p51
        replace q51 := eq_true q51
        have HN0_go51 := aK (show g ≠ go51 from by have h_ := IsS136.own_ne HI0.out HO_109002.out (by decide); intro e_; exact h_ (by rw [e_]; rfl))
        have HP60 := Kd.R_putn HO_109002.out (t130 : Int) t136
        rw [← Ny139.out] at HP60
        have HQ60 := Aside0.mk HP60
        clear HP60
        refine hK.out _ _ ⟨(blk_cell BK108.out 0).trans rfl, (blk_cell BK108.out 1).trans rfl, (blk_cell BK108.out 2).trans rfl⟩ (fun hHeld => ?_)
        clear hK K
        refine norm_ (a' := ?_) ?_ ?_
        rotate_left
        ·
         show Act.put _ (some 49) _ = _
         simp only [Act.put, List.setIfInBounds_toArray, List.set_cons_zero, List.set_cons_succ, i64_w, i32_w]
         rfl
        refine pure_ (i := 10) (N := some 50) (v := ?_) (a' := ?_) #[true, true, true, true, true, true, true, true, true, true, true, false] rfl rfl (any_of HT_.out (by kernel_rfl)) (fun _ _ _ h => h) (Or.inl ⟨by rfl, ?_⟩) ?_ ?_
        rotate_left
        ·
         intro w'
         go_simp
         with_reducible rfl
        rotate_left
        ·
         simp only [Act.put, List.setIfInBounds_toArray, List.set_cons_zero, List.set_cons_succ, i64_w, i32_w]
         rfl
        refine last_ (i := 11) (N := none) #[true, true, true, true, true, true, true, true, true, true, true, true] rfl rfl (one_of HT_.out (by kernel_rfl)) (by decide) (fun K hK => ?_)
        refine skip_ (w1 := ?_) (by rfl) rfl ?_ ?_
        rotate_left
        ·
         go_simp
         rfl
        refine hK.out _ _ ?_
        clear hK K
        refine done_ (done_of HT_.out (by kernel_rfl)) ?_
        try go_wp2
        go_meet
        case rel => exact ⟨_, (t137), (t138), (y139), (.slice (some ⟨go51, 0, none⟩) x109002_1.length co53), H', ⟨by have := HK1.out; first | omega | exact Nat.le_refl _⟩, ⟨by (with_reducible repeat (first | apply Kd.R_alloc | apply Kd.R_drewN | apply Kd.R_drew)); exact Kd.R_mono HQ60.out (fun _ hk => trivial)⟩, ⟨by (with_reducible repeat (first | refine blk_drewN ?_ _ | refine blk_drew ?_ | refine blk_alloc ?_ _)); refine blk_far ?_ (by have h_ := Kd.R_ne HO_109002.out BK101.out (by decide); intro e_; exact h_ (by rw [e_]; rfl)) _; (with_reducible repeat (first | refine blk_drewN ?_ _ | refine blk_drew ?_ | refine blk_alloc ?_ _)); exact BK101.out⟩, ⟨by (with_reducible repeat (first | refine blk_drewN ?_ _ | refine blk_drew ?_ | refine blk_alloc ?_ _)); refine blk_far ?_ (by have h_ := Kd.R_ne HO_109002.out BK108.out (by decide); intro e_; exact h_ (by rw [e_]; rfl)) _; (with_reducible repeat (first | refine blk_drewN ?_ _ | refine blk_drew ?_ | refine blk_alloc ?_ _)); exact BK108.out⟩, ⟨by repeat (first | (with_reducible first | exact HI0.out | apply IsS136.alloc | apply IsS136.drewN | apply IsS136.drew | apply IsS136.set_1 | apply IsS136.set_2 | refine IsS136.far ?_ HN0_go51.out _ | refine IsS136.far ?_ NB0_101.out _ | refine IsS136.far ?_ NB0_108.out _) | exact HI0.out)⟩, ⟨by repeat (first | (with_reducible first | exact HK.out | apply KeepBut.set_ | apply keep_drewN | apply keep_drew | apply keep_alloc | refine keep_far ?_ GB51.out _ | refine keep_far ?_ GW101.out _ | refine keep_far ?_ GW108.out _) | exact HK.out)⟩, ⟨by repeat (first | (with_reducible first | exact HB.out | apply below_alloc | apply pw_below_drewN | apply below_drew1 | refine below_set ?_ (Nat.le_trans HL.out GB51.out) | refine below_set ?_ (IsS136.ge HI0.out) | refine below_set ?_ GE101.out | refine below_set ?_ GE108.out) | exact HB.out)⟩⟩
       ·
        rw [if_neg c50] at H
        exact absurd H (by simp)
      ·
       rw [if_neg c49] at H
       exact absurd H (by simp)
     ·
      replace c46 := Bool.eq_false_iff.mpr c46
      subst c46
      have H1 : (spec_l1Cur_field.j1 k1 s0_0 t128 t129 (wrap64 (1 + t102)) (wrap64 (1 + t105)) x109002_1) = some (r1, r2, r3, r4, r5) := by rw [if_neg (show ¬ (false = true) by decide)] at H; exact H
      clear H
      have H := H1
      clear H1
      have H' := Aside0.mk H
      clear H
      go_wp2
      go_meet
      case rel => exact ⟨_, (t128), (t129), (x109002_1), (u109002), H', ⟨by have := HK1.out; first | omega | exact Nat.le_refl _⟩, ⟨by (with_reducible repeat (first | apply Kd.R_alloc | apply Kd.R_drewN | apply Kd.R_drew)); exact HO_109002.out⟩, ⟨by (with_reducible repeat (first | refine blk_drewN ?_ _ | refine blk_drew ?_ | refine blk_alloc ?_ _)); exact BK101.out⟩, ⟨by (with_reducible repeat (first | refine blk_drewN ?_ _ | refine blk_drew ?_ | refine blk_alloc ?_ _)); exact BK108.out⟩, ⟨by repeat (first | (with_reducible first | exact HI0.out | apply IsS136.alloc | apply IsS136.drewN | apply IsS136.drew | apply IsS136.set_1 | apply IsS136.set_2 | refine IsS136.far ?_ NB0_101.out _ | refine IsS136.far ?_ NB0_108.out _) | exact HI0.out)⟩, ⟨by repeat (first | (with_reducible first | exact HK.out | apply KeepBut.set_ | apply keep_drewN | apply keep_drew | apply keep_alloc | refine keep_far ?_ GW101.out _ | refine keep_far ?_ GW108.out _) | exact HK.out)⟩, ⟨by repeat (first | (with_reducible first | exact HB.out | apply below_alloc | apply pw_below_drewN | apply below_drew1 | refine below_set ?_ (IsS136.ge HI0.out) | refine below_set ?_ GE101.out | refine below_set ?_ GE108.out) | exact HB.out)⟩⟩
    case rest =>
     clear HC41
     try clear c1
     try clear c2
     try clear p2
     try clear c3
     try clear c4
     try clear c5
     try clear p5
     try clear q5
     try clear hx5
     try clear hf5
     try clear p6
     try clear c9
     try clear c10
     try clear c12
     try clear c16
     try clear c16b0
     try clear c17
     try clear c19
     try clear c20
     try clear c21
     try clear c22
     try clear c30
     try clear c31
     try clear c32
     try clear c42
     try clear c43
     try clear c46
     try clear c49
     try clear c49b0
     try clear c50
     try clear c50b0
     try clear p51
     try clear q51
     try clear hx51
     try clear hf51
     try clear hcz11_0
     try clear hcz11_1
     try clear hcz11_2
     try clear hcz23_0
     try clear hcz23_1
     try clear hcz23_2
     try clear hcz26_0
     try clear hcz26_1
     try clear hcz26_2
     try clear hcz29_0
     try clear hcz29_1
     try clear hcz29_2
     try clear hcz33_0
     try clear hcz33_1
     try clear hcz33_2
     try clear hcz36_0
     try clear hcz36_1
     try clear hcz36_2
     try clear hcz39_0
     try clear hcz39_1
     try clear hcz39_2
     try clear hcz44_0
     try clear hcz44_1
     try clear hcz44_2
     try clear hfz11_0
     try clear hfz11_1
     try clear hfz11_2
     try clear hfz23_0
     try clear hfz23_1
     try clear hfz23_2
     try clear hfz26_0
     try clear hfz26_1
     try clear hfz26_2
     try clear hfz29_0
     try clear hfz29_1
     try clear hfz29_2
     try clear hfz33_0
     try clear hfz33_1
     try clear hfz33_2
     try clear hfz36_0
     try clear hfz36_1
     try clear hfz36_2
     try clear hfz39_0
     try clear hfz39_1
     try clear hfz39_2
     try clear hfz44_0
     try clear hfz44_1
     try clear hfz44_2
     try clear hx51_0
     try clear p2
     try clear p51
     try clear p6
     try clear q51
     obtain ⟨kq, x1001_40, x1002_40, x109002_40, u109002, HA, HJ40, HO_109002, BK101, BK108, HI0, HK, HB⟩ := hcut
     cases kq with
     | zero => exact absurd HA.out (by simp [spec_l1Cur_field.j1])
     | succ kj40 =>
      have H := HA.out
      clear HA
      simp only [spec_l1Cur_field.j1] at H
      replace H := Option.bind_eq_some_iff.mp H
      obtain ⟨⟨t140, t141, t142⟩, A610, H⟩ := H
      replace H : (if t140 = true then ((spec_l2Fill.f kj40 8 8 3).bind fun bt143 => (some (bt143.1, bt143.2.1, bt143.2.2, t141, t142))) else (some ((wrap64 (1 + t102)), (wrap64 (1 + t105)), x109002_40, t141, t142))) = some (r1, r2, r3, r4, r5) := H
      have A61 := Aside0.mk A610
      clear A610
      by_cases c62 : t140 = true
      ·
       subst c62
       have H1 : ((spec_l2Fill.f kj40 8 8 3).bind fun bt143 => (some (bt143.1, bt143.2.1, bt143.2.2, t141, t142))) = some (r1, r2, r3, r4, r5) := by rw [if_pos rfl] at H; exact H
       clear H
       have H := H1
       clear H1
       replace H := Option.bind_eq_some_iff.mp H
       obtain ⟨⟨t143, t144, t145⟩, A630, H⟩ := H
       replace H : (some (t143, t144, t145, t141, t142)) = some (r1, r2, r3, r4, r5) := H
       have A63 := Aside0.mk A630
       clear A630
       simp only [Option.some.injEq, Prod.mk.injEq] at H
       obtain ⟨rfl, rfl, rfl, rfl, rfl⟩ := H
       go_wp2_with (first | ((with_reducible refine gate_callee (f := 177) rfl ?_); refine goesL_ (some 52) rfl rfl Try.func177 (by kernel_rfl) rfl #[.pointer (some ⟨g, 0, none⟩), .int .i64 24] rfl (by (try simp only [List.map_toArray, List.map_cons, List.map_nil]); first | done | rfl | (simp only [List.length_drop, List.length_take]; rfl)) ?_; (with_reducible refine (spec_l1Cur_one.calls g s0_0 x1001_40 x1002_40 24 true t141 t142 w0 _ ?side1 ?side2 A61.out).mono ?_); (case side1 => repeat (first | (with_reducible first | exact HI0.out | apply IsS136.alloc | apply IsS136.drewN | apply IsS136.drew | apply IsS136.set_1 | apply IsS136.set_2 | refine IsS136.far ?_ NB0_101.out _ | refine IsS136.far ?_ NB0_108.out _) | exact HI0.out)); (case side2 => repeat (first | (with_reducible first | exact HB.out | apply below_alloc | apply pw_below_drewN | apply below_drew1 | refine below_set ?_ (IsS136.ge HI0.out) | refine below_set ?_ GE101.out | refine below_set ?_ GE108.out) | exact HB.out)); rintro e w64 ⟨rfl, hi, hb, hk⟩; refine ⟨_, rfl, ?_⟩; have n0_ := aK (Kd.R_mono (Kd.R_keep (IsS136.apart (show IsS136 w0 _ g s0_0 x1001_40 x1002_40 from by repeat (first | (with_reducible first | exact HI0.out | apply IsS136.alloc | apply IsS136.drewN | apply IsS136.drew | apply IsS136.set_1 | apply IsS136.set_2 | refine IsS136.far ?_ NB0_101.out _ | refine IsS136.far ?_ NB0_108.out _) | exact HI0.out)) (pR HO_109002.out) (by decide)) hk (fun _ h => h.2)) (fun _ h => h.1)); have n1_ := aK (KeepBut.blk hk (g' := gb101) (o := .cells #[.int .i64 0, .int .i64 0, .slice none 0 0] 42 (0, 0)) (pB BK101.out) NB101_0.out (by simp)); have n2_ := aK (KeepBut.blk hk (g' := gb108) (o := .cells #[.int .i64 (wrap64 (1 + t102)), .int .i64 (wrap64 (1 + t105)), u109002] 42 (0, 0)) (pB BK108.out) NB108_0.out (by simp)); have n3_ := aK (KeepBut.trans (by repeat (first | (with_reducible first | exact HK.out | apply KeepBut.set_ | apply keep_drewN | apply keep_drew | apply keep_alloc | refine keep_far ?_ GW101.out _ | refine keep_far ?_ GW108.out _) | exact HK.out)) hk (.inl rfl)); have n4_ := aK (hb); have n5_ := aK (hi); clear HO_109002 BK101 BK108 HK HB HI0; have HO_109002 := n0_; have BK101 := n1_; have BK108 := n2_; have HK := n3_; have HB := n4_; have HI0 := n5_; clear n0_ n1_ n2_ n3_ n4_ n5_; (try clear hb); (try clear hb2); (try clear hk); (try clear hi)) | ((with_reducible refine gate_callee (f := 130) rfl ?_); refine goesL_ (some 53) rfl rfl Try.func130 (by kernel_rfl) rfl #[.int .i64 8, .int .i64 8, .int .i64 3] rfl (by (try simp only [List.map_toArray, List.map_cons, List.map_nil]); first | done | rfl | (simp only [List.length_drop, List.length_take]; rfl)) ?_; (with_reducible refine (spec_l2Fill.calls kj40 8 8 3 t143 t144 t145 _ A63.out).mono ?_); rintro e w65 ⟨v146, rfl, ho0, hb⟩; refine ⟨_, rfl, ?_⟩; have n0_ := aK (Kd.R_elder' (pR HO_109002.out) (Kd.R_base ho0) hb); have HO147 := aK (Kd.R_lower (Kd.R_new' ho0 (Kd.R_lt (pR HO_109002.out))) (keep_size (w := w) (g := g) (row := none) (by repeat (first | (with_reducible first | exact HK.out | apply KeepBut.set_ | apply keep_drewN | apply keep_drew | apply keep_alloc | refine keep_far ?_ GW101.out _ | refine keep_far ?_ GW108.out _) | exact HK.out)))); have n4_ := aK (IsS136.below (by repeat (first | (with_reducible first | exact HI0.out | apply IsS136.alloc | apply IsS136.drewN | apply IsS136.drew | apply IsS136.set_1 | apply IsS136.set_2 | refine IsS136.far ?_ NB0_101.out _ | refine IsS136.far ?_ NB0_108.out _) | exact HI0.out)) hb); have n5_ := aK (KeepBut.trans (by repeat (first | (with_reducible first | exact HK.out | apply KeepBut.set_ | apply keep_drewN | apply keep_drew | apply keep_alloc | refine keep_far ?_ GW101.out _ | refine keep_far ?_ GW108.out _) | exact HK.out)) (KeepBut.of_below hb g none) (.inl rfl)); have n6_ := aK (below_step (by repeat (first | (with_reducible first | exact HB.out | apply below_alloc | apply pw_below_drewN | apply below_drew1 | refine below_set ?_ (IsS136.ge HI0.out) | refine below_set ?_ GE101.out | refine below_set ?_ GE108.out) | exact HB.out)) hb); replace BK101 := bB BK101 hb; replace BK108 := bB BK108 hb; clear HO_109002 HI0 HK HB; have HO_109002 := n0_; have HI0 := n4_; have HK := n5_; have HB := n6_; clear n0_ n4_ n5_ n6_; (try clear hb); (try clear hb2); (try clear hk); (try clear hi); (try clear ho0); have hnb66 := NB108_101.out; have hnc66 := NB101_108.out; have hnb67 := NB108_0.out; have hnc67 := NB0_108.out; have hcz68_0 : w65.cell? ⟨gb108, 0, none⟩ = some (.int .i64 (wrap64 (1 + t102))) := (blk_cell BK108.out 0).trans rfl; have hcz68_1 : w65.cell? ⟨gb108, 1, none⟩ = some (.int .i64 (wrap64 (1 + t105))) := (blk_cell BK108.out 1).trans rfl; have hcz68_2 : w65.cell? ⟨gb108, 2, none⟩ = some (u109002) := (blk_cell BK108.out 2).trans rfl; have hfz68_0 := blk_frozen BK108.out 0; have hfz68_1 := blk_frozen BK108.out 1; have hfz68_2 := blk_frozen BK108.out 2; obtain ⟨Ao69, co69, eo69⟩ := Kd.R_slice HO147.out; subst eo69; have hnb70 := NB101_0.out; have hnc70 := NB0_101.out; have hcz71_0 : w65.cell? ⟨gb101, 0, none⟩ = some (.int .i64 0) := (blk_cell BK101.out 0).trans rfl; have hcz71_1 : w65.cell? ⟨gb101, 1, none⟩ = some (.int .i64 0) := (blk_cell BK101.out 1).trans rfl; have hcz71_2 : w65.cell? ⟨gb101, 2, none⟩ = some (.slice none 0 0) := (blk_cell BK101.out 2).trans rfl; have hfz71_0 := blk_frozen BK101.out 0; have hfz71_1 := blk_frozen BK101.out 1; have hfz71_2 := blk_frozen BK101.out 2))
       refine bodyPost_ret (results_cell_row rfl _ _ gb101 42 #[.int .i64 t143, .int .i64 t144, .slice Ao69 t145.length co69] (0, 0) _ rfl (by (with_reducible repeat (first | refine blk_drewN ?_ _ | refine blk_drew ?_ | refine blk_alloc ?_ _)); refine blk_put (cs := #[.int .i64 t143, .int .i64 t144, .slice none 0 0]) ?_ 2 _ rfl; (with_reducible repeat (first | refine blk_drewN ?_ _ | refine blk_drew ?_ | refine blk_alloc ?_ _)); refine blk_put (cs := #[.int .i64 t143, .int .i64 0, .slice none 0 0]) ?_ 1 _ rfl; (with_reducible repeat (first | refine blk_drewN ?_ _ | refine blk_drew ?_ | refine blk_alloc ?_ _)); refine blk_put (cs := #[.int .i64 0, .int .i64 0, .slice none 0 0]) ?_ 0 _ rfl; (with_reducible repeat (first | refine blk_drewN ?_ _ | refine blk_drew ?_ | refine blk_alloc ?_ _)); refine blk_far ?_ NB101_108.out _; (with_reducible repeat (first | refine blk_drewN ?_ _ | refine blk_drew ?_ | refine blk_alloc ?_ _)); refine blk_far ?_ NB101_108.out _; (with_reducible repeat (first | refine blk_drewN ?_ _ | refine blk_drew ?_ | refine blk_alloc ?_ _)); refine blk_far ?_ NB101_108.out _; (with_reducible repeat (first | refine blk_drewN ?_ _ | refine blk_drew ?_ | refine blk_alloc ?_ _)); exact BK101.out) Try.underlying42 rfl (by kernel_rfl)) rfl ?_
       exact ⟨_, by first | rfl | (simp [errW_none, errW_some] <;> rfl) | (simp [*, errW_none, errW_some] <;> rfl), by (with_reducible repeat (first | apply Kd.R_alloc | apply Kd.R_drewN | apply Kd.R_drew)); exact Kd.R_mono (Kd.R_far (p := ⟨gb101, 2, none⟩) (Kd.R_far (p := ⟨gb101, 1, none⟩) (Kd.R_far (p := ⟨gb101, 0, none⟩) (Kd.R_far (p := ⟨gb108, 2, none⟩) (Kd.R_far (p := ⟨gb108, 1, none⟩) (Kd.R_far (p := ⟨gb108, 0, none⟩) (Kd.R_types (Kd.R_types HO147.out BK108.out (by decide)) BK101.out (by decide)) (fun _ hk => hk.1.2) (.int .i64 t143)) (fun _ hk => hk.1.2) (.int .i64 t144)) (fun _ hk => hk.1.2) (.slice Ao69 t145.length co69)) (fun _ hk => hk.2) (.int .i64 t143)) (fun _ hk => hk.2) (.int .i64 t144)) (fun _ hk => hk.2) (.slice Ao69 t145.length co69)) (fun _ hk => trivial), by repeat (first | (with_reducible first | exact HI0.out | apply IsS136.alloc | apply IsS136.drewN | apply IsS136.drew | apply IsS136.set_1 | apply IsS136.set_2 | refine IsS136.far ?_ NB0_101.out _ | refine IsS136.far ?_ NB0_108.out _) | exact HI0.out), by repeat (first | (with_reducible first | exact HB.out | apply below_alloc | apply pw_below_drewN | apply below_drew1 | refine below_set ?_ (IsS136.ge HI0.out) | refine below_set ?_ GE101.out | refine below_set ?_ GE108.out) | exact HB.out), by repeat (first | (with_reducible first | exact HK.out | apply KeepBut.set_ | apply keep_drewN | apply keep_drew | apply keep_alloc | refine keep_far ?_ GW101.out _ | refine keep_far ?_ GW108.out _) | exact HK.out)⟩
      ·
       replace c62 := Bool.eq_false_iff.mpr c62
       subst c62
       have H1 : (some ((wrap64 (1 + t102)), (wrap64 (1 + t105)), x109002_40, t141, t142)) = some (r1, r2, r3, r4, r5) := by rw [if_neg (show ¬ (false = true) by decide)] at H; exact H
       clear H
       have H := H1
       clear H1
       simp only [Option.some.injEq, Prod.mk.injEq] at H
       obtain ⟨rfl, rfl, rfl, rfl, rfl⟩ := H
       go_wp2_with (first | ((with_reducible refine gate_callee (f := 177) rfl ?_); refine goesL_ (some 52) rfl rfl Try.func177 (by kernel_rfl) rfl #[.pointer (some ⟨g, 0, none⟩), .int .i64 24] rfl (by (try simp only [List.map_toArray, List.map_cons, List.map_nil]); first | done | rfl | (simp only [List.length_drop, List.length_take]; rfl)) ?_; (with_reducible refine (spec_l1Cur_one.calls g s0_0 x1001_40 x1002_40 24 false t141 t142 w0 _ ?side1 ?side2 A61.out).mono ?_); (case side1 => repeat (first | (with_reducible first | exact HI0.out | apply IsS136.alloc | apply IsS136.drewN | apply IsS136.drew | apply IsS136.set_1 | apply IsS136.set_2 | refine IsS136.far ?_ NB0_101.out _ | refine IsS136.far ?_ NB0_108.out _) | exact HI0.out)); (case side2 => repeat (first | (with_reducible first | exact HB.out | apply below_alloc | apply pw_below_drewN | apply below_drew1 | refine below_set ?_ (IsS136.ge HI0.out) | refine below_set ?_ GE101.out | refine below_set ?_ GE108.out) | exact HB.out)); rintro e w72 ⟨rfl, hi, hb, hk⟩; refine ⟨_, rfl, ?_⟩; have n0_ := aK (Kd.R_mono (Kd.R_keep (IsS136.apart (show IsS136 w0 _ g s0_0 x1001_40 x1002_40 from by repeat (first | (with_reducible first | exact HI0.out | apply IsS136.alloc | apply IsS136.drewN | apply IsS136.drew | apply IsS136.set_1 | apply IsS136.set_2 | refine IsS136.far ?_ NB0_101.out _ | refine IsS136.far ?_ NB0_108.out _) | exact HI0.out)) (pR HO_109002.out) (by decide)) hk (fun _ h => h.2)) (fun _ h => h.1)); have n1_ := aK (KeepBut.blk hk (g' := gb101) (o := .cells #[.int .i64 0, .int .i64 0, .slice none 0 0] 42 (0, 0)) (pB BK101.out) NB101_0.out (by simp)); have n2_ := aK (KeepBut.blk hk (g' := gb108) (o := .cells #[.int .i64 (wrap64 (1 + t102)), .int .i64 (wrap64 (1 + t105)), u109002] 42 (0, 0)) (pB BK108.out) NB108_0.out (by simp)); have n3_ := aK (KeepBut.trans (by repeat (first | (with_reducible first | exact HK.out | apply KeepBut.set_ | apply keep_drewN | apply keep_drew | apply keep_alloc | refine keep_far ?_ GW101.out _ | refine keep_far ?_ GW108.out _) | exact HK.out)) hk (.inl rfl)); have n4_ := aK (hb); have n5_ := aK (hi); clear HO_109002 BK101 BK108 HK HB HI0; have HO_109002 := n0_; have BK101 := n1_; have BK108 := n2_; have HK := n3_; have HB := n4_; have HI0 := n5_; clear n0_ n1_ n2_ n3_ n4_ n5_; (try clear hb); (try clear hb2); (try clear hk); (try clear hi); have hnb73 := NB108_101.out; have hnc73 := NB101_108.out; have hnb74 := NB108_0.out; have hnc74 := NB0_108.out; have hcz75_0 : w72.cell? ⟨gb108, 0, none⟩ = some (.int .i64 (wrap64 (1 + t102))) := (blk_cell BK108.out 0).trans rfl; have hcz75_1 : w72.cell? ⟨gb108, 1, none⟩ = some (.int .i64 (wrap64 (1 + t105))) := (blk_cell BK108.out 1).trans rfl; have hcz75_2 : w72.cell? ⟨gb108, 2, none⟩ = some (u109002) := (blk_cell BK108.out 2).trans rfl; have hfz75_0 := blk_frozen BK108.out 0; have hfz75_1 := blk_frozen BK108.out 1; have hfz75_2 := blk_frozen BK108.out 2; have hnb76 := NB101_0.out; have hnc76 := NB0_101.out; have hcz77_0 : w72.cell? ⟨gb101, 0, none⟩ = some (.int .i64 0) := (blk_cell BK101.out 0).trans rfl; have hcz77_1 : w72.cell? ⟨gb101, 1, none⟩ = some (.int .i64 0) := (blk_cell BK101.out 1).trans rfl; have hcz77_2 : w72.cell? ⟨gb101, 2, none⟩ = some (.slice none 0 0) := (blk_cell BK101.out 2).trans rfl; have hfz77_0 := blk_frozen BK101.out 0; have hfz77_1 := blk_frozen BK101.out 1; have hfz77_2 := blk_frozen BK101.out 2; obtain ⟨Ao78, co78, eo78⟩ := Kd.R_slice HO_109002.out; subst eo78))
       refine bodyPost_ret (results_cell_row rfl _ _ gb101 42 #[.int .i64 (wrap64 (1 + t102)), .int .i64 (wrap64 (1 + t105)), .slice Ao78 x109002_40.length co78] (0, 0) _ rfl (by (with_reducible repeat (first | refine blk_drewN ?_ _ | refine blk_drew ?_ | refine blk_alloc ?_ _)); refine blk_put (cs := #[.int .i64 (wrap64 (1 + t102)), .int .i64 (wrap64 (1 + t105)), .slice none 0 0]) ?_ 2 _ rfl; (with_reducible repeat (first | refine blk_drewN ?_ _ | refine blk_drew ?_ | refine blk_alloc ?_ _)); refine blk_put (cs := #[.int .i64 (wrap64 (1 + t102)), .int .i64 0, .slice none 0 0]) ?_ 1 _ rfl; (with_reducible repeat (first | refine blk_drewN ?_ _ | refine blk_drew ?_ | refine blk_alloc ?_ _)); refine blk_put (cs := #[.int .i64 0, .int .i64 0, .slice none 0 0]) ?_ 0 _ rfl; (with_reducible repeat (first | refine blk_drewN ?_ _ | refine blk_drew ?_ | refine blk_alloc ?_ _)); exact BK101.out) Try.underlying42 rfl (by kernel_rfl)) rfl ?_
       exact ⟨_, by first | rfl | (simp [errW_none, errW_some] <;> rfl) | (simp [*, errW_none, errW_some] <;> rfl), by (with_reducible repeat (first | apply Kd.R_alloc | apply Kd.R_drewN | apply Kd.R_drew)); exact Kd.R_mono (Kd.R_far (p := ⟨gb101, 2, none⟩) (Kd.R_far (p := ⟨gb101, 1, none⟩) (Kd.R_far (p := ⟨gb101, 0, none⟩) (Kd.R_types HO_109002.out BK101.out (by decide)) (fun _ hk => hk.2) (.int .i64 (wrap64 (1 + t102)))) (fun _ hk => hk.2) (.int .i64 (wrap64 (1 + t105)))) (fun _ hk => hk.2) (.slice Ao78 x109002_40.length co78)) (fun _ hk => trivial), by repeat (first | (with_reducible first | exact HI0.out | apply IsS136.alloc | apply IsS136.drewN | apply IsS136.drew | apply IsS136.set_1 | apply IsS136.set_2 | refine IsS136.far ?_ NB0_101.out _ | refine IsS136.far ?_ NB0_108.out _) | exact HI0.out), by repeat (first | (with_reducible first | exact HB.out | apply below_alloc | apply pw_below_drewN | apply below_drew1 | refine below_set ?_ (IsS136.ge HI0.out) | refine below_set ?_ GE101.out | refine below_set ?_ GE108.out) | exact HB.out), by repeat (first | (with_reducible first | exact HK.out | apply KeepBut.set_ | apply keep_drewN | apply keep_drew | apply keep_alloc | refine keep_far ?_ GW101.out _ | refine keep_far ?_ GW108.out _) | exact HK.out)⟩

end Go.Proofs.Ytmfgjknffmjjjaa.P
