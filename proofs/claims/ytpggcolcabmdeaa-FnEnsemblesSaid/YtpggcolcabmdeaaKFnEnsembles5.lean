/- Texts of the claim FnEnsembles, merged: part 5 of 11: the program's and the reference's functions as Lean functions, the walks that show it, and plain lemmas; no conditions. -/
import Derived.Test.YtpggcolcabmdeaaKFnEnsembles3
import Derived.Test.YtpggcolcabmdeaaKFnEnsembles4
open Go.RowKit Go.Proofs.YtpggcolcabmdeaaW.PrintWords Go.Proofs.YtpggcolcabmdeaaW.PrintLast Go.Proofs.YtpggcolcabmdeaaW.PrintMore
set_option linter.unusedVariables false
set_option linter.unusedSimpArgs false
set_option maxHeartbeats 8000000
set_option maxRecDepth 100000
namespace Go.Proofs.Ytpggcolcabmdeaa.P
attribute [local go_sem] max2_int min2_int max_two min_two max_three min_three max_four min_four
mutual
def spec_l1Cur_field.l0 : Nat → Int → Int → List Int → Int → Int → Int → Int → List Int → Option (Int × Int × List Int × Int × Int)
 | 0, _, _, _, _, _, _, _, _ => none
 | k + 1, x4, x5, x1000, x1001, x1002, x109000, x109001, x109002 => if x5 < (wrap64 (x109000 * x109001)) then ((spec_l1Cur_pick.f x1000 x1001 x1002 40).bind fun bt115 => ((spec_l1Cur_one.f x1000 bt115.2.1 bt115.2.2 12).bind fun bt118 => (if bt118.1 = true then (if x109002.length < 17592186044416 then (spec_l1Cur_field.l0 k x4 (wrap64 (x5 + 1)) x1000 bt118.2.1 bt118.2.2 x109000 x109001 (x109002 ++ [(-9999)])) else (none)) else (if x109002.length < 17592186044416 then (spec_l1Cur_field.l0 k x4 (wrap64 (x5 + 1)) x1000 bt118.2.1 bt118.2.2 x109000 x109001 (x109002 ++ [wrap64 (x4 + bt115.1)])) else (none))))) else ((spec_l1Cur_one.f x1000 x1001 x1002 10).bind fun bt127 => (if bt127.1 = true then ((spec_l1Cur_pick.f x1000 bt127.2.1 bt127.2.2 (x109002.length : Int)).bind fun bt130 => ((spec_l1Cur_among.f x1000 bt130.2.1 bt130.2.2 (([9000, (-9000), 0] : List Int))).bind fun bt136 => (if 0 ≤ bt130.1 then (if bt130.1 < (x109002.length : Int) then (spec_l1Cur_field.j1 k x1000 bt136.2.1 bt136.2.2 x109000 x109001 (x109002.set (bt130.1 : Int).toNat bt136.1)) else (none)) else (none)))) else (spec_l1Cur_field.j1 k x1000 bt127.2.1 bt127.2.2 x109000 x109001 x109002)))
def spec_l1Cur_field.j1 : Nat → List Int → Int → Int → Int → Int → List Int → Option (Int × Int × List Int × Int × Int)
 | 0, _, _, _, _, _, _ => none
 | k + 1, x1000, x1001, x1002, x109000, x109001, x109002 => (spec_l1Cur_one.f x1000 x1001 x1002 24).bind fun bt140 => (if bt140.1 = true then ((spec_l2Fill.f k 8 8 3).bind fun bt143 => (some (bt143.1, bt143.2.1, bt143.2.2, bt140.2.1, bt140.2.2))) else (some (x109000, x109001, x109002, bt140.2.1, bt140.2.2)))
end
def spec_l1Cur_field.f (k : Nat) (s0_0 : List Int) (s0_1 : Int) (s0_2 : Int) : Option (Int × Int × List Int × Int × Int) := (spec_l1Cur_pick.f s0_0 s0_1 s0_2 5).bind fun bt102 => ((spec_l1Cur_pick.f s0_0 bt102.2.1 bt102.2.2 5).bind fun bt105 => ((spec_l1Cur_among.f s0_0 bt105.2.1 bt105.2.2 (([0, 10, 100, (-50)] : List Int))).bind fun bt112 => (spec_l1Cur_field.l0 k bt112.1 0 s0_0 bt112.2.1 bt112.2.2 (wrap64 (1 + bt102.1)) (wrap64 (1 + bt105.1)) ([] : List Int))))
def spec_l1Cur_field.T11 : Bool × List (List Nat × List Nat) := (true, [([], []), ([0], [0]), ([], []), ([], []), ([3], [3]), ([4], [4]), ([2, 5], [2, 5]), ([], []), ([], []), ([7, 8, 6], [7, 8]), ([1, 6, 0, 1, 2, 3, 4, 5, 6, 7, 8, 9], [1, 6]), ([10, 9, 9, 0, 1, 2, 3, 4, 5, 6, 7, 8, 9], [9, 10])])
def spec_l1Cur_field.B11 : List Nat := [0, 1, 0, 0, 8, 24, 60, 0, 0, 508, 1023, 2047]
theorem spec_l1Cur_field.tab11 : rtab .any (opsOf Try.f58 11) = spec_l1Cur_field.T11 := by kernel_rfl
theorem spec_l1Cur_field.bits11 : waitsOk spec_l1Cur_field.T11.2 spec_l1Cur_field.B11 = true := by kernel_rfl
theorem spec_l1Cur_field.calls (k : Nat) (g : Nat) (s0_0 : List Int) (s0_1 : Int) (s0_2 : Int) (r1 : Int) (r2 : Int) (r3 : List Int) (r4 : Int) (r5 : Int) (w0 w : World) (hI : IsS44 w0 w g s0_0 s0_1 s0_2) (hB : Below w0.heap.size w0 w) (h : spec_l1Cur_field.f k s0_0 s0_1 s0_2 = some (r1, r2, r3, r4, r5)) :
  Calls Try.prog 58 #[.pointer (some ⟨g, 0, none⟩)] w fun e w' => ∃ v2_ : Value, e = .returned (.agg #[.int .i64 r1, .int .i64 r2, v2_]) ∧ Kd.R (Kd.int .i64) 3 w' w.heap.size (fun _ => True) v2_ r3 ∧ IsS44 w0 w' g s0_0 r4 r5 ∧ Below w0.heap.size w0 w' ∧ KeepBut w w' g none := by
 have hu29 := Try.underlying29
 have HI0 := aK hI
 have HK := aK (KeepBut.refl w g none)
 have HL := aK hB.size
 clear hI
 have HW0 := aK hB.size
 have HB := aK hB
 clear hB
 have H : ((spec_l1Cur_pick.f s0_0 s0_1 s0_2 5).bind fun bt102 => ((spec_l1Cur_pick.f s0_0 bt102.2.1 bt102.2.2 5).bind fun bt105 => ((spec_l1Cur_among.f s0_0 bt105.2.1 bt105.2.2 (([0, 10, 100, (-50)] : List Int))).bind fun bt112 => (spec_l1Cur_field.l0 k bt112.1 0 s0_0 bt112.2.1 bt112.2.2 (wrap64 (1 + bt102.1)) (wrap64 (1 + bt105.1)) ([] : List Int))))) = some (r1, r2, r3, r4, r5) := h
 clear h
 replace H := oA H
 obtain ⟨⟨t102, t103, t104⟩, A2, H⟩ := H
 replace H : ((spec_l1Cur_pick.f s0_0 t103 t104 5).bind fun bt105 => ((spec_l1Cur_among.f s0_0 bt105.2.1 bt105.2.2 (([0, 10, 100, (-50)] : List Int))).bind fun bt112 => (spec_l1Cur_field.l0 k bt112.1 0 s0_0 bt112.2.1 bt112.2.2 (wrap64 (1 + t102)) (wrap64 (1 + bt105.1)) ([] : List Int)))) = some (r1, r2, r3, r4, r5) := H
 replace H := oA H
 obtain ⟨⟨t105, t106, t107⟩, A3, H⟩ := H
 replace H : ((spec_l1Cur_among.f s0_0 t106 t107 (([0, 10, 100, (-50)] : List Int))).bind fun bt112 => (spec_l1Cur_field.l0 k bt112.1 0 s0_0 bt112.2.1 bt112.2.2 (wrap64 (1 + t102)) (wrap64 (1 + t105)) ([] : List Int))) = some (r1, r2, r3, r4, r5) := H
 obtain ⟨y109, hy109⟩ : ∃ y_ : List Int, y_ = (([0, 10, 100, (-50)] : List Int)) := ⟨_, rfl⟩
 replace H : ((spec_l1Cur_among.f s0_0 t106 t107 y109).bind fun bt112 => (spec_l1Cur_field.l0 k bt112.1 0 s0_0 bt112.2.1 bt112.2.2 (wrap64 (1 + t102)) (wrap64 (1 + t105)) ([] : List Int))) = some (r1, r2, r3, r4, r5) := by first | (rw [hy109]; first | with_reducible exact H | with_reducible exact (oS H :)) | with_reducible exact (oS H :) | with_reducible exact H | exact H
 have Ny109 := aK hy109
 clear hy109
 replace H := oA H
 obtain ⟨⟨t112, t113, t114⟩, A4, H⟩ := H
 replace H : (spec_l1Cur_field.l0 k t112 0 s0_0 t113 t114 (wrap64 (1 + t102)) (wrap64 (1 + t105)) ([] : List Int)) = some (r1, r2, r3, r4, r5) := H
 have H' := aK H
 clear H
 go_enter Try.func58, Try.ntmps58
 go_wp2_with (first | ((with_reducible refine ga 2 rfl ?_); refine bxa #[.int .i64 0, .int .i64 0, .slice none 0 0] 29 ?_; intro g101 hg w5 B101 hb; have n0_ := aK (IsS44.below (pI44 HI0.out) hb); have n1_ := aK (KeepBut.trans (pK HK.out) (KeepBut.of_below hb g none) (.inl rfl)); replace HB := aK (below_step ((pV HB.out (IsS44.ge HI0.out))) hb); have GW101 := aK ((by rw [hg]; exact (keep_size (w := w) (g := g) (row := none) (pK HK.out)) : w.heap.size ≤ g101)); have GE101 := aK ((Nat.le_trans HW0.out (by rw [hg]; exact (keep_size (w := w) (g := g) (row := none) (pK HK.out)) : w.heap.size ≤ g101) : w0.heap.size ≤ g101)); have N0_101 := aK ((by rw [hg]; exact Nat.ne_of_lt (IsS44.lt (show IsS44 w0 _ g s0_0 s0_1 s0_2 from pI44 HI0.out)) : g ≠ g101)); have N101_0 := aK ((by rw [hg]; exact Nat.ne_of_gt (IsS44.lt (show IsS44 w0 _ g s0_0 s0_1 s0_2 from pI44 HI0.out)) : g101 ≠ g)); clear HI0 HK; have HI0 := n0_; have HK := n1_; clear n0_ n1_; clear hb hg) | ((with_reducible refine gc 39 rfl ?_); refine gl (some 8) Try.func39 #[.pointer (some ⟨g, 0, none⟩), .int .i64 5] ?_; (with_reducible refine (spec_l1Cur_pick.calls g s0_0 s0_1 s0_2 5 t102 t103 t104 w0 _ ?side1 ?side2 A2.out).mono ?_); (case side1 => exact pI44 HI0.out); (case side2 => exact pV HB.out (IsS44.ge HI0.out)); rintro e w6 ⟨rfl, hi, hb, hk⟩; refine ⟨_, rfl, ?_⟩; replace B101 := kB hk B101 N101_0; replace HK := aK (KeepBut.trans (pK HK.out) hk (.inl rfl)); replace HB := aK (hb); replace HI0 := aK (hi); (try clear hb); (try clear hk); (try clear hi)) | ((with_reducible refine gc 39 rfl ?_); refine gl (some 11) Try.func39 #[.pointer (some ⟨g, 0, none⟩), .int .i64 5] ?_; (with_reducible refine (spec_l1Cur_pick.calls g s0_0 t103 t104 5 t105 t106 t107 w0 _ ?side1 ?side2 A3.out).mono ?_); (case side1 => exact pI44 HI0.out); (case side2 => exact pV HB.out (IsS44.ge HI0.out)); rintro e w7 ⟨rfl, hi, hb, hk⟩; refine ⟨_, rfl, ?_⟩; replace B101 := kB hk B101 N101_0; replace HK := aK (KeepBut.trans (pK HK.out) hk (.inl rfl)); replace HB := aK (hb); replace HI0 := aK (hi); (try clear hb); (try clear hk); (try clear hi)) | ((with_reducible refine ga 3 rfl ?_); refine bxe (cs := #[.int .i64 0, .int .i64 0, .slice none 0 0]) (t := 29) ?_; intro g108 hg w8 hbox hb; have n0_ := aK (IsS44.below (pI44 HI0.out) hb); have n2_ := aK (KeepBut.trans (pK HK.out) (KeepBut.of_below hb g none) (.inl rfl)); replace HB := aK (below_step ((pV HB.out (IsS44.ge HI0.out))) hb); have B108 := aK (hbox); have GW108 := aK ((by rw [hg]; exact (keep_size (w := w) (g := g) (row := none) (pK HK.out)) : w.heap.size ≤ g108)); have GE108 := aK ((Nat.le_trans HW0.out (by rw [hg]; exact (keep_size (w := w) (g := g) (row := none) (pK HK.out)) : w.heap.size ≤ g108) : w0.heap.size ≤ g108)); obtain ⟨N101_108, N108_101⟩ := na hg B101; have N0_108 := aK ((by rw [hg]; exact Nat.ne_of_lt (IsS44.lt (show IsS44 w0 _ g s0_0 t106 t107 from pI44 HI0.out)) : g ≠ g108)); have N108_0 := aK ((by rw [hg]; exact Nat.ne_of_gt (IsS44.lt (show IsS44 w0 _ g s0_0 t106 t107 from pI44 HI0.out)) : g108 ≠ g)); replace B101 := bB B101 hb; clear HI0 HK; have HI0 := n0_; have HK := n2_; clear n0_ n2_ hb hbox hg; obtain ⟨_, _⟩ := nB N108_101; obtain ⟨_, _⟩ := nB N108_0; obtain ⟨z11_0, z11_1, z11_2, y11_0, y11_1, y11_2⟩ := bc3 B108.out) | ((with_reducible refine ga 15 rfl ?_); refine Kd.R_lit (Kd.int .i64) _ 3 ?hg (N := 15) ?hd (xs := ([0, 10, 100, (-50)] : List Int)) (inner := [.int .i64 0, .int .i64 10, .int .i64 100, .int .i64 (-50)]) (ok := fun _ => True) (okp := fun _ => True) ?hr ?hp (fun _ hk => hk) trivial (Below.refl _ _) (Nat.le_refl _) (by simp) ?_; (case hd => rfl); (case hg => rfl); (case hr => first | (go_simp; done) | (go_simp; rfl)); (case hp => exact (Reps.one (show Kd.M (Kd.int .i64) _ _ _ 0 [.int .i64 0] from rfl) (Reps.one (show Kd.M (Kd.int .i64) _ _ _ 10 [.int .i64 10] from rfl) (Reps.one (show Kd.M (Kd.int .i64) _ _ _ 100 [.int .i64 100] from rfl) (Reps.one (show Kd.M (Kd.int .i64) _ _ _ (-50) [.int .i64 (-50)] from rfl) (Reps.none _ _)))))); intro v110 w12 ho13 hb hg_ hnew_; clear hg_ hnew_; (first | rw [← Ny109.out] at ho13 | (simp only [Int.reduceToNat] at ho13; rw [← Ny109.out] at ho13)); have HO111 := aK (Kd.R_lower ho13 (keep_size (w := w) (g := g) (row := none) (pK HK.out))); have n1_ := aK (IsS44.below (show IsS44 w0 (((w8.setCell ⟨g108, 0, none⟩ (.int .i64 (wrap64 (1 + t102)))).setCell ⟨g108, 1, none⟩ (.int .i64 (wrap64 (1 + t105)))).setCell ⟨g108, 2, none⟩ (.slice none 0 0)) g s0_0 t106 t107 from pI44 HI0.out) hb); have n2_ := aK (blk_below (g := g101) (o := .cells #[.int .i64 0, .int .i64 0, .slice none 0 0] 29 (0, 0)) (by refine bg N101_108 ?_; refine bg N101_108 ?_; refine bg N101_108 ?_; refine bk ?_; exact B101.out) hb); have n3_ := aK (blk_below (g := g108) (o := .cells #[.int .i64 (wrap64 (1 + t102)), .int .i64 (wrap64 (1 + t105)), .slice none 0 0] 29 (0, 0)) (by refine bq #[.int .i64 (wrap64 (1 + t102)), .int .i64 (wrap64 (1 + t105)), .slice none 0 0] 2 ?_; refine bq #[.int .i64 (wrap64 (1 + t102)), .int .i64 0, .slice none 0 0] 1 ?_; refine bq #[.int .i64 0, .int .i64 0, .slice none 0 0] 0 ?_; refine bk ?_; exact B108.out) hb); have n4_ := aK (KeepBut.trans (pK HK.out) (KeepBut.of_below hb g none) (.inl rfl)); have n5_ := aK (below_step ((pV HB.out (IsS44.ge HI0.out))) hb); clear HI0 B101 B108 HK HB; have HI0 := n1_; have B101 := n2_; have B108 := n3_; have HK := n4_; have HB := n5_; clear n1_ n2_ n3_ n4_ n5_ hb ho13; obtain ⟨Ao14, co14, eo14⟩ := Kd.R_slice HO111.out; subst eo14) | ((with_reducible refine gc 38 rfl ?_); refine gl (some 16) Try.func38 #[.pointer (some ⟨g, 0, none⟩), .slice Ao14 y109.length co14] ?_; (with_reducible refine (spec_l1Cur_among.calls g s0_0 t106 t107 _ _ y109 t112 t113 t114 w0 _ ?side1 ?side2 ?side3 ?side4 ?side5 A4.out).mono ?_); (case side1 => exact pI44 HI0.out); (case side2 => exact pV HB.out (IsS44.ge HI0.out)); (case side3 => exact pC (Kd.R_reads' HO111.out).2.2); (case side4 => exact (Kd.R_reads' HO111.out).2.1); (case side5 => exact far_slice (IsS44.own_ne HI0.out HO111.out (by decide))); rintro e w15 ⟨rfl, hi, hb, hk⟩; refine ⟨_, rfl, ?_⟩; replace B101 := kB hk B101 N101_0; replace B108 := kB hk B108 N108_0; replace HO111 := aK (Kd.R_mono (Kd.R_keep (IsS44.apart (show IsS44 w0 _ g s0_0 t106 t107 from pI44 HI0.out) (pR HO111.out) (by decide)) hk (fun _ h => h.2)) (fun _ h => h.1)); replace HK := aK (KeepBut.trans (pK HK.out) hk (.inl rfl)); replace HB := aK (hb); replace HI0 := aK (hi); (try clear hb); (try clear hk); (try clear hi)))
 go_loopg [5] k (fun kq v5 w' => ∃ (x5_1 : Int) (x1001_1 : Int) (x1002_1 : Int) (x109002_1 : List Int) (u109002 : Value), v5 = .int .i64 x5_1 ∧ Aside0 (spec_l1Cur_field.l0 kq t112 x5_1 s0_0 x1001_1 x1002_1 (wrap64 (1 + t102)) (wrap64 (1 + t105)) x109002_1 = some (r1, r2, r3, r4, r5)) ∧ Aside0 (kq ≤ k) ∧ Aside0 (Kd.R (Kd.int .i64) 3 w' w.heap.size (fun _ => True) u109002 x109002_1) ∧ Aside0 (w'.heap[g101]? = some (.cells #[.int .i64 0, .int .i64 0, (.slice none 0 0)] 29 (0, 0))) ∧ Aside0 (w'.heap[g108]? = some (.cells #[.int .i64 (wrap64 (1 + t102)), .int .i64 (wrap64 (1 + t105)), u109002] 29 (0, 0))) ∧ Aside0 (IsS44 w0 w' g s0_0 x1001_1 x1002_1) ∧ Aside0 (KeepBut w w' g none) ∧ Aside0 (Below w0.heap.size w0 w'))
 case atStart => exact ⟨(0), (t113), (t114), (([] : List Int)), (.slice none 0 0), (by first | rfl | (simp; done) | (simp [*]; done)), H', ⟨Nat.le_refl _⟩, ⟨by first | exact Kd.R_nil _ _ _ _ _ | exact Kd.N_nil _ _ _ _ _ | exact Kd.V_nil _ _ _ _ _ | exact Kd.Q_nil _ _ _ _ _ | exact Kd.S_nil _ _ _ _ _⟩, ⟨by refine bk ?_; exact B101.out⟩, ⟨by refine bk ?_; exact B108.out⟩, ⟨pI44 HI0.out⟩, ⟨pK HK.out⟩, ⟨(pV HB.out (IsS44.ge HI0.out))⟩⟩
 case round =>
 clear H'
 try clear c1
 try clear p2
 try clear c3
 try clear c5
 try clear p6
 try clear c9
 try clear c10
 try clear z11_0
 try clear z11_1
 try clear z11_2
 try clear y11_0
 try clear y11_1
 try clear y11_2
 obtain ⟨x5_1, x1001_1, x1002_1, x109002_1, u109002, rfl, HA, HK1, O0, B101, B108, HI0, HK, HB⟩ := hrel
 cases gk with
 | zero => exact absurd HA.out (by simp [spec_l1Cur_field.l0])
 | succ k1 =>
 have H := HA.out
 clear HA
 simp only [spec_l1Cur_field.l0] at H
 by_cases c16 : x5_1 < (wrap64 ((wrap64 (1 + t102)) * (wrap64 (1 + t105))))
 ·
  rw [if_pos c16] at H
  have c16b0 : decide (x5_1 < (wrap64 ((wrap64 (1 + t102)) * (wrap64 (1 + t105))))) = true := decide_eq_true c16
  clear c16; replace H := oA H
  obtain ⟨⟨t115, t116, t117⟩, A17, H⟩ := H
  replace H : ((spec_l1Cur_one.f s0_0 t116 t117 12).bind fun bt118 => (if bt118.1 = true then (if x109002_1.length < 17592186044416 then (spec_l1Cur_field.l0 k1 t112 (wrap64 (x5_1 + 1)) s0_0 bt118.2.1 bt118.2.2 (wrap64 (1 + t102)) (wrap64 (1 + t105)) (x109002_1 ++ [(-9999)])) else (none)) else (if x109002_1.length < 17592186044416 then (spec_l1Cur_field.l0 k1 t112 (wrap64 (x5_1 + 1)) s0_0 bt118.2.1 bt118.2.2 (wrap64 (1 + t102)) (wrap64 (1 + t105)) (x109002_1 ++ [wrap64 (t112 + t115)])) else (none)))) = some (r1, r2, r3, r4, r5) := H
  replace H := oA H
  obtain ⟨⟨t118, t119, t120⟩, A18, H⟩ := H
  replace H : (if t118 = true then (if x109002_1.length < 17592186044416 then (spec_l1Cur_field.l0 k1 t112 (wrap64 (x5_1 + 1)) s0_0 t119 t120 (wrap64 (1 + t102)) (wrap64 (1 + t105)) (x109002_1 ++ [(-9999)])) else (none)) else (if x109002_1.length < 17592186044416 then (spec_l1Cur_field.l0 k1 t112 (wrap64 (x5_1 + 1)) s0_0 t119 t120 (wrap64 (1 + t102)) (wrap64 (1 + t105)) (x109002_1 ++ [wrap64 (t112 + t115)])) else (none))) = some (r1, r2, r3, r4, r5) := H
  by_cases c19 : t118 = true
  ·
   subst c19
   have H1 : (if x109002_1.length < 17592186044416 then (spec_l1Cur_field.l0 k1 t112 (wrap64 (x5_1 + 1)) s0_0 t119 t120 (wrap64 (1 + t102)) (wrap64 (1 + t105)) (x109002_1 ++ [(-9999)])) else (none)) = some (r1, r2, r3, r4, r5) := by rw [if_pos rfl] at H; exact H
   clear H; have H := H1; clear H1
   by_cases c20 : x109002_1.length < 17592186044416
   rotate_left
   ·
    rw [if_neg c20] at H
    exact absurd H (by simp)
   rw [if_pos c20] at H; have LMc20 := aK c20; clear c20
   obtain ⟨y121, hy121⟩ : ∃ y_ : List Int, y_ = (x109002_1 ++ [(-9999)]) := ⟨_, rfl⟩
   replace H : (spec_l1Cur_field.l0 k1 t112 (wrap64 (x5_1 + 1)) s0_0 t119 t120 (wrap64 (1 + t102)) (wrap64 (1 + t105)) y121) = some (r1, r2, r3, r4, r5) := by first | (rw [hy121]; first | with_reducible exact H | with_reducible exact (oS H :)) | with_reducible exact (oS H :) | with_reducible exact H | exact H
   have Ny121 := aK hy121; clear hy121; have H' := aK H; clear H; obtain ⟨_, _⟩ := nB N108_101; obtain ⟨_, _⟩ := nB N108_0; obtain ⟨z23_0, z23_1, z23_2, y23_0, y23_1, y23_2⟩ := bc3 B108.out
   go_wp2_with (first | ((with_reducible refine gc 39 rfl ?_); refine gl (some 28) Try.func39 #[.pointer (some ⟨g, 0, none⟩), .int .i64 40] ?_; (with_reducible refine (spec_l1Cur_pick.calls g s0_0 x1001_1 x1002_1 40 t115 t116 t117 w0 _ ?side1 ?side2 A17.out).mono ?_); (case side1 => exact pI44 HI0.out); (case side2 => exact pV HB.out (IsS44.ge HI0.out)); rintro e w24 ⟨rfl, hi, hb, hk⟩; refine ⟨_, rfl, ?_⟩; replace O0 := aK (Kd.R_mono (Kd.R_keep (IsS44.apart (show IsS44 w0 _ g s0_0 x1001_1 x1002_1 from pI44 HI0.out) (pR O0.out) (by decide)) hk (fun _ h => h.2)) (fun _ h => h.1)); replace B101 := kB hk B101 N101_0; replace B108 := kB hk B108 N108_0; replace HK := aK (KeepBut.trans (pK HK.out) hk (.inl rfl)); replace HB := aK (hb); replace HI0 := aK (hi); (try clear hb); (try clear hk); (try clear hi)) | ((with_reducible refine gc 76 rfl ?_); refine gl (some 31) Try.func76 #[.pointer (some ⟨g, 0, none⟩), .int .i64 12] ?_; (with_reducible refine (spec_l1Cur_one.calls g s0_0 t116 t117 12 true t119 t120 w0 _ ?side1 ?side2 A18.out).mono ?_); (case side1 => exact pI44 HI0.out); (case side2 => exact pV HB.out (IsS44.ge HI0.out)); rintro e w25 ⟨rfl, hi, hb, hk⟩; refine ⟨_, rfl, ?_⟩; replace O0 := aK (Kd.R_mono (Kd.R_keep (IsS44.apart (show IsS44 w0 _ g s0_0 t116 t117 from pI44 HI0.out) (pR O0.out) (by decide)) hk (fun _ h => h.2)) (fun _ h => h.1)); replace B101 := kB hk B101 N101_0; replace B108 := kB hk B108 N108_0; replace HK := aK (KeepBut.trans (pK HK.out) hk (.inl rfl)); replace HB := aK (hb); replace HI0 := aK (hi); (try clear hb); (try clear hk); (try clear hi); obtain ⟨z26_0, z26_1, z26_2, y26_0, y26_1, y26_2⟩ := bc3 B108.out) | ((with_reducible refine gate_builtin (b := .append) (xs := #[.tmp 33, .tmp 35]) rfl ?_); at_builtin; refine Kd.R_append (Kd.int .i64) w.heap.size rfl (.tmp 33) (.tmp 35) 27 3 (.int .i64 0) 8 rfl Try.underlying27 info3 rfl (by decide) (by omega) u109002 x109002_1 (-9999) [.int .i64 (-9999)] (fun _ => True) (fun _ => False) rfl rfl ?aP (fun _ hk => hk.elim) ?aF ?aO (Below.refl _ _) ?aS ?aL ?_; (case aP => exact rfl); (case aF => exact (fun _ _ => trivial)); (case aO => exact (pR O0.out)); (case aS => exact (keep_size (w := w) (g := g) (row := none) (pK HK.out))); (case aL => have := LMc20.out; omega); intro v122 w27 ho hb hg hat; rw [← Ny121.out] at ho; replace B101 := aK (blk_grown (pB B101.out) hg (Kd.R_ne O0.out B101.out (by decide))); replace B108 := aK (blk_grown (pB B108.out) hg (Kd.R_ne O0.out B108.out (by decide))); have n2_ := aK (IsS44.grown (pI44 HI0.out) hg (IsS44.own_ne HI0.out O0.out (by decide))); replace HB := aK (below_weaken ((pV HB.out (IsS44.ge HI0.out))) HL.out hb); replace HK := aK (KeepBut.trans (pK HK.out) (KeepBut.of_grown hg g) (Kd.R_base2 O0.out)); have HO123 := aK (ho); clear HI0 O0; have HI0 := n2_; clear n2_ ho hb hg hat; obtain ⟨Ao28, co28, eo28⟩ := Kd.R_slice HO123.out; subst eo28; obtain ⟨z29_0, z29_1, z29_2, y29_0, y29_1, y29_2⟩ := bc3 B108.out))
   go_roundg k1
   case measure => have := HK1.out; omega
   case rel => exact ⟨(wrap64 (x5_1 + 1)), (t119), (t120), (y121), (.slice Ao28 y121.length co28), (by first | rfl | (simp; done) | (simp [*]; done)), H', ⟨by have := HK1.out; omega⟩, ⟨by (with_reducible repeat (first | apply Kd.R_alloc | apply Kd.R_drewN | apply Kd.R_drew)); exact Kd.R_mono (Kd.R_far (p := ⟨g108, 2, none⟩) (Kd.R_types HO123.out B108.out (by decide)) (fun _ hk => hk.2) (.slice Ao28 y121.length co28)) (fun _ hk => trivial)⟩, ⟨by refine bg N101_108 ?_; refine bk ?_; exact B101.out⟩, ⟨by refine bq #[.int .i64 (wrap64 (1 + t102)), .int .i64 (wrap64 (1 + t105)), u109002] 2 ?_; refine bk ?_; exact B108.out⟩, ⟨pI44 HI0.out⟩, ⟨pK HK.out⟩, ⟨(pV HB.out (IsS44.ge HI0.out))⟩⟩
  replace c19 := Bool.eq_false_iff.mpr c19; subst c19
  have H1 : (if x109002_1.length < 17592186044416 then (spec_l1Cur_field.l0 k1 t112 (wrap64 (x5_1 + 1)) s0_0 t119 t120 (wrap64 (1 + t102)) (wrap64 (1 + t105)) (x109002_1 ++ [wrap64 (t112 + t115)])) else (none)) = some (r1, r2, r3, r4, r5) := by rw [if_neg (show ¬ (false = true) by decide)] at H; exact H
  clear H; have H := H1; clear H1
  by_cases c30 : x109002_1.length < 17592186044416
  rotate_left
  ·
   rw [if_neg c30] at H
   exact absurd H (by simp)
  rw [if_pos c30] at H; have LMc30 := aK c30; clear c30
  obtain ⟨y124, hy124⟩ : ∃ y_ : List Int, y_ = (x109002_1 ++ [wrap64 (t112 + t115)]) := ⟨_, rfl⟩
  replace H : (spec_l1Cur_field.l0 k1 t112 (wrap64 (x5_1 + 1)) s0_0 t119 t120 (wrap64 (1 + t102)) (wrap64 (1 + t105)) y124) = some (r1, r2, r3, r4, r5) := by first | (rw [hy124]; first | with_reducible exact H | with_reducible exact (oS H :)) | with_reducible exact (oS H :) | with_reducible exact H | exact H
  have Ny124 := aK hy124; clear hy124; have H' := aK H; clear H; obtain ⟨_, _⟩ := nB N108_101; obtain ⟨_, _⟩ := nB N108_0; obtain ⟨z33_0, z33_1, z33_2, y33_0, y33_1, y33_2⟩ := bc3 B108.out
  go_wp2_with (first | ((with_reducible refine gc 39 rfl ?_); refine gl (some 28) Try.func39 #[.pointer (some ⟨g, 0, none⟩), .int .i64 40] ?_; (with_reducible refine (spec_l1Cur_pick.calls g s0_0 x1001_1 x1002_1 40 t115 t116 t117 w0 _ ?side1 ?side2 A17.out).mono ?_); (case side1 => exact pI44 HI0.out); (case side2 => exact pV HB.out (IsS44.ge HI0.out)); rintro e w34 ⟨rfl, hi, hb, hk⟩; refine ⟨_, rfl, ?_⟩; replace O0 := aK (Kd.R_mono (Kd.R_keep (IsS44.apart (show IsS44 w0 _ g s0_0 x1001_1 x1002_1 from pI44 HI0.out) (pR O0.out) (by decide)) hk (fun _ h => h.2)) (fun _ h => h.1)); replace B101 := kB hk B101 N101_0; replace B108 := kB hk B108 N108_0; replace HK := aK (KeepBut.trans (pK HK.out) hk (.inl rfl)); replace HB := aK (hb); replace HI0 := aK (hi); (try clear hb); (try clear hk); (try clear hi)) | ((with_reducible refine gc 76 rfl ?_); refine gl (some 31) Try.func76 #[.pointer (some ⟨g, 0, none⟩), .int .i64 12] ?_; (with_reducible refine (spec_l1Cur_one.calls g s0_0 t116 t117 12 false t119 t120 w0 _ ?side1 ?side2 A18.out).mono ?_); (case side1 => exact pI44 HI0.out); (case side2 => exact pV HB.out (IsS44.ge HI0.out)); rintro e w35 ⟨rfl, hi, hb, hk⟩; refine ⟨_, rfl, ?_⟩; replace O0 := aK (Kd.R_mono (Kd.R_keep (IsS44.apart (show IsS44 w0 _ g s0_0 t116 t117 from pI44 HI0.out) (pR O0.out) (by decide)) hk (fun _ h => h.2)) (fun _ h => h.1)); replace B101 := kB hk B101 N101_0; replace B108 := kB hk B108 N108_0; replace HK := aK (KeepBut.trans (pK HK.out) hk (.inl rfl)); replace HB := aK (hb); replace HI0 := aK (hi); (try clear hb); (try clear hk); (try clear hi); obtain ⟨z36_0, z36_1, z36_2, y36_0, y36_1, y36_2⟩ := bc3 B108.out) | ((with_reducible refine gate_builtin (b := .append) (xs := #[.tmp 33, .tmp 35]) rfl ?_); at_builtin; refine Kd.R_append (Kd.int .i64) w.heap.size rfl (.tmp 33) (.tmp 35) 27 3 (.int .i64 0) 8 rfl Try.underlying27 info3 rfl (by decide) (by omega) u109002 x109002_1 (wrap64 (t112 + t115)) [.int .i64 (wrap64 (t112 + t115))] (fun _ => True) (fun _ => False) rfl rfl ?aP (fun _ hk => hk.elim) ?aF ?aO (Below.refl _ _) ?aS ?aL ?_; (case aP => exact rfl); (case aF => exact (fun _ _ => trivial)); (case aO => exact (pR O0.out)); (case aS => exact (keep_size (w := w) (g := g) (row := none) (pK HK.out))); (case aL => have := LMc30.out; omega); intro v125 w37 ho hb hg hat; rw [← Ny124.out] at ho; replace B101 := aK (blk_grown (pB B101.out) hg (Kd.R_ne O0.out B101.out (by decide))); replace B108 := aK (blk_grown (pB B108.out) hg (Kd.R_ne O0.out B108.out (by decide))); have n2_ := aK (IsS44.grown (pI44 HI0.out) hg (IsS44.own_ne HI0.out O0.out (by decide))); replace HB := aK (below_weaken ((pV HB.out (IsS44.ge HI0.out))) HL.out hb); replace HK := aK (KeepBut.trans (pK HK.out) (KeepBut.of_grown hg g) (Kd.R_base2 O0.out)); have HO126 := aK (ho); clear HI0 O0; have HI0 := n2_; clear n2_ ho hb hg hat; obtain ⟨Ao38, co38, eo38⟩ := Kd.R_slice HO126.out; subst eo38; obtain ⟨z39_0, z39_1, z39_2, y39_0, y39_1, y39_2⟩ := bc3 B108.out))
  go_roundg k1
  case measure => have := HK1.out; omega
  case rel => exact ⟨(wrap64 (x5_1 + 1)), (t119), (t120), (y124), (.slice Ao38 y124.length co38), (by first | rfl | (simp; done) | (simp [*]; done)), H', ⟨by have := HK1.out; omega⟩, ⟨by (with_reducible repeat (first | apply Kd.R_alloc | apply Kd.R_drewN | apply Kd.R_drew)); exact Kd.R_mono (Kd.R_far (p := ⟨g108, 2, none⟩) (Kd.R_types HO126.out B108.out (by decide)) (fun _ hk => hk.2) (.slice Ao38 y124.length co38)) (fun _ hk => trivial)⟩, ⟨by refine bg N101_108 ?_; refine bk ?_; exact B101.out⟩, ⟨by refine bq #[.int .i64 (wrap64 (1 + t102)), .int .i64 (wrap64 (1 + t105)), u109002] 2 ?_; refine bk ?_; exact B108.out⟩, ⟨pI44 HI0.out⟩, ⟨pK HK.out⟩, ⟨(pV HB.out (IsS44.ge HI0.out))⟩⟩
 rw [if_neg c16] at H
 have c16b0 : decide (x5_1 < (wrap64 ((wrap64 (1 + t102)) * (wrap64 (1 + t105))))) = false := decide_eq_false c16
 clear c16
 replace H := oA H
 obtain ⟨⟨t127, t128, t129⟩, A40, H⟩ := H
 replace H : (if t127 = true then ((spec_l1Cur_pick.f s0_0 t128 t129 (x109002_1.length : Int)).bind fun bt130 => ((spec_l1Cur_among.f s0_0 bt130.2.1 bt130.2.2 (([9000, (-9000), 0] : List Int))).bind fun bt136 => (if 0 ≤ bt130.1 then (if bt130.1 < (x109002_1.length : Int) then (spec_l1Cur_field.j1 k1 s0_0 bt136.2.1 bt136.2.2 (wrap64 (1 + t102)) (wrap64 (1 + t105)) (x109002_1.set (bt130.1 : Int).toNat bt136.1)) else (none)) else (none)))) else (spec_l1Cur_field.j1 k1 s0_0 t128 t129 (wrap64 (1 + t102)) (wrap64 (1 + t105)) x109002_1)) = some (r1, r2, r3, r4, r5) := H
 have HC41 := aK H
 clear H
 obtain ⟨_, _⟩ := nB N108_101
 obtain ⟨_, _⟩ := nB N108_0
 obtain ⟨z44_0, z44_1, z44_2, y44_0, y44_1, y44_2⟩ := bc3 B108.out
 go_upto_if 39 with (first | ((with_reducible refine gc 76 rfl ?_); refine gl (some 39) Try.func76 #[.pointer (some ⟨g, 0, none⟩), .int .i64 10] ?_; (with_reducible refine (spec_l1Cur_one.calls g s0_0 x1001_1 x1002_1 10 t127 t128 t129 w0 _ ?side1 ?side2 A40.out).mono ?_); (case side1 => exact pI44 HI0.out); (case side2 => exact pV HB.out (IsS44.ge HI0.out)); rintro e w45 ⟨rfl, hi, hb, hk⟩; refine ⟨_, rfl, ?_⟩; replace O0 := aK (Kd.R_mono (Kd.R_keep (IsS44.apart (show IsS44 w0 _ g s0_0 x1001_1 x1002_1 from pI44 HI0.out) (pR O0.out) (by decide)) hk (fun _ h => h.2)) (fun _ h => h.1)); replace B101 := kB hk B101 N101_0; replace B108 := kB hk B108 N108_0; replace HK := aK (KeepBut.trans (pK HK.out) hk (.inl rfl)); replace HB := aK (hb); replace HI0 := aK (hi); (try clear hb); (try clear hk); (try clear hi)))
 (try simp only [Act.put, List.setIfInBounds_toArray, List.set_cons_zero, List.set_cons_succ])
 go_cut [] (fun wc => ∃ (kq : Nat) (x1001_40 : Int) (x1002_40 : Int) (x109002_40 : List Int) (u109002 : Value), Aside0 (spec_l1Cur_field.j1 kq s0_0 x1001_40 x1002_40 (wrap64 (1 + t102)) (wrap64 (1 + t105)) x109002_40 = some (r1, r2, r3, r4, r5)) ∧ Aside0 (kq ≤ k1) ∧ Aside0 (Kd.R (Kd.int .i64) 3 wc w.heap.size (fun _ => True) u109002 x109002_40) ∧ Aside0 (wc.heap[g101]? = some (.cells #[.int .i64 0, .int .i64 0, (.slice none 0 0)] 29 (0, 0))) ∧ Aside0 (wc.heap[g108]? = some (.cells #[.int .i64 (wrap64 (1 + t102)), .int .i64 (wrap64 (1 + t105)), u109002] 29 (0, 0))) ∧ Aside0 (IsS44 w0 wc g s0_0 x1001_40 x1002_40) ∧ Aside0 (KeepBut w wc g none) ∧ Aside0 (Below w0.heap.size w0 wc))
 case first =>
  have H := HC41.out; clear HC41
  by_cases c46 : t127 = true
  rotate_left
  ·
   replace c46 := Bool.eq_false_iff.mpr c46; subst c46
   have H1 : (spec_l1Cur_field.j1 k1 s0_0 t128 t129 (wrap64 (1 + t102)) (wrap64 (1 + t105)) x109002_1) = some (r1, r2, r3, r4, r5) := by rw [if_neg (show ¬ (false = true) by decide)] at H; exact H
   clear H; have H := H1; clear H1; have H' := aK H; clear H
   go_wp2
   go_meet
   case rel => exact ⟨_, (t128), (t129), (x109002_1), (u109002), H', ⟨by have := HK1.out; first | omega | exact Nat.le_refl _⟩, ⟨pR O0.out⟩, ⟨by refine bk ?_; exact B101.out⟩, ⟨by refine bk ?_; exact B108.out⟩, ⟨pI44 HI0.out⟩, ⟨pK HK.out⟩, ⟨(pV HB.out (IsS44.ge HI0.out))⟩⟩
  subst c46
  have H1 : ((spec_l1Cur_pick.f s0_0 t128 t129 (x109002_1.length : Int)).bind fun bt130 => ((spec_l1Cur_among.f s0_0 bt130.2.1 bt130.2.2 (([9000, (-9000), 0] : List Int))).bind fun bt136 => (if 0 ≤ bt130.1 then (if bt130.1 < (x109002_1.length : Int) then (spec_l1Cur_field.j1 k1 s0_0 bt136.2.1 bt136.2.2 (wrap64 (1 + t102)) (wrap64 (1 + t105)) (x109002_1.set (bt130.1 : Int).toNat bt136.1)) else (none)) else (none)))) = some (r1, r2, r3, r4, r5) := by rw [if_pos rfl] at H; exact H
  clear H; have H := H1; clear H1; replace H := oA H
  obtain ⟨⟨t130, t131, t132⟩, A47, H⟩ := H
  replace H : ((spec_l1Cur_among.f s0_0 t131 t132 (([9000, (-9000), 0] : List Int))).bind fun bt136 => (if 0 ≤ t130 then (if t130 < (x109002_1.length : Int) then (spec_l1Cur_field.j1 k1 s0_0 bt136.2.1 bt136.2.2 (wrap64 (1 + t102)) (wrap64 (1 + t105)) (x109002_1.set (t130 : Int).toNat bt136.1)) else (none)) else (none))) = some (r1, r2, r3, r4, r5) := H
  obtain ⟨y133, hy133⟩ : ∃ y_ : List Int, y_ = (([9000, (-9000), 0] : List Int)) := ⟨_, rfl⟩
  replace H : ((spec_l1Cur_among.f s0_0 t131 t132 y133).bind fun bt136 => (if 0 ≤ t130 then (if t130 < (x109002_1.length : Int) then (spec_l1Cur_field.j1 k1 s0_0 bt136.2.1 bt136.2.2 (wrap64 (1 + t102)) (wrap64 (1 + t105)) (x109002_1.set (t130 : Int).toNat bt136.1)) else (none)) else (none))) = some (r1, r2, r3, r4, r5) := by first | (rw [hy133]; first | with_reducible exact H | with_reducible exact (oS H :)) | with_reducible exact (oS H :) | with_reducible exact H | exact H
  have Ny133 := aK hy133; clear hy133; replace H := oA H
  obtain ⟨⟨t136, t137, t138⟩, A48, H⟩ := H
  replace H : (if 0 ≤ t130 then (if t130 < (x109002_1.length : Int) then (spec_l1Cur_field.j1 k1 s0_0 t137 t138 (wrap64 (1 + t102)) (wrap64 (1 + t105)) (x109002_1.set (t130 : Int).toNat t136)) else (none)) else (none)) = some (r1, r2, r3, r4, r5) := H
  by_cases c49 : 0 ≤ t130
  rotate_left
  ·
   rw [if_neg c49] at H
   exact absurd H (by simp)
  rw [if_pos c49] at H
  have c49b0 : decide (0 ≤ t130) = true := decide_eq_true c49
  clear c49
  (first | rw [c49b0] | (simp only [i64_w, i32_w]; rw [c49b0]) | skip)
  by_cases c50 : t130 < (x109002_1.length : Int)
  rotate_left
  ·
   rw [if_neg c50] at H
   exact absurd H (by simp)
  rw [if_pos c50] at H
  have c50b0 : decide (t130 < (x109002_1.length : Int)) = true := decide_eq_true c50
  clear c50
  obtain ⟨y139, hy139⟩ : ∃ y_ : List Int, y_ = (x109002_1.set (t130 : Int).toNat t136) := ⟨_, rfl⟩
  replace H : (spec_l1Cur_field.j1 k1 s0_0 t137 t138 (wrap64 (1 + t102)) (wrap64 (1 + t105)) y139) = some (r1, r2, r3, r4, r5) := by first | (rw [hy139]; first | with_reducible exact H | with_reducible exact (oS H :)) | with_reducible exact (oS H :) | with_reducible exact H | exact H
  have Ny139 := aK hy139; clear hy139; have H' := aK H; clear H
  try go_wp2
  replace O0 := rdw O0; replace B101 := bD B101; replace B108 := bD B108; replace HI0 := aK (IsS44.drew HI0.out); replace HK := aK (keep_drew HK.out); replace HB := aK (below_drew1 HB.out); obtain ⟨Ao53, co53, eo53⟩ := Kd.R_slice O0.out
  (first | subst eo53 | (obtain ⟨f4_, f5_⟩ := sI eo53; subst f4_; subst f5_))
  refine start_ (n := 12) (S := fun w' => w'.cell? ⟨g108, 0, none⟩ = some (.int .i64 (wrap64 (1 + t102))) ∧ w'.cell? ⟨g108, 1, none⟩ = some (.int .i64 (wrap64 (1 + t105))) ∧ w'.cell? ⟨g108, 2, none⟩ = some (.slice Ao53 x109002_1.length co53)) (ds := [11]) (bz [0, 12]) (by kernel_rfl) rfl rfl (cz3 B108.out) (fun hHeld => ?_); refine with_tabW spec_l1Cur_field.tab11 spec_l1Cur_field.bits11 (fun HT_ HW_ => ?_)
  generalize w45.drew = w52 at O0 B101 B108 HI0 HK HB hHeld ⊢
  refine pz 0 40 [1, 11] HT_ ?_
  refine pz 2 42 [1, 1, 1, 9] HT_ ?_
  refine pz 3 43 [1, 1, 2, 8] HT_ ?_
  refine pz 7 47 [1, 1, 2, 3, 1, 4] HT_ ?_
  refine tz 1 41 [4, 3, 1, 4] HT_ HW_ rfl (by rintro w' ⟨s0, s1, s2⟩; go_simp; with_reducible rfl) hHeld ?_
  refine tz 4 44 [5, 2, 1, 4] HT_ HW_ rfl (by rintro w' ⟨s0, s1, s2⟩; go_simp; with_reducible rfl) hHeld ?_
  refine pz 5 45 [6, 1, 1, 4] HT_ ?_
  refine join_ (σ := Value) 3 (bz [9, 3]) (fun s_ => [(46, .int .i64 t130), (48, s_)]) (fun s_ w' => (w'.cell? ⟨g108, 0, none⟩ = some (.int .i64 (wrap64 (1 + t102))) ∧ w'.cell? ⟨g108, 1, none⟩ = some (.int .i64 (wrap64 (1 + t105))) ∧ w'.cell? ⟨g108, 2, none⟩ = some (.slice Ao53 x109002_1.length co53)) ∧ (Kd.R (Kd.int .i64) 3 w' w.heap.size (fun k_ => some k_ ≠ (.slice Ao53 x109002_1.length co53 : Value).ownBlock) s_ y133) ∧ (Kd.R (Kd.int .i64) 3 w' w.heap.size (fun k_ => some k_ ≠ (s_ : Value).ownBlock) (.slice Ao53 x109002_1.length co53) x109002_1) ∧ (w'.heap[g101]? = some (.cells #[.int .i64 0, .int .i64 0, .slice none 0 0] 29 (0, 0))) ∧ (w'.heap[g108]? = some (.cells #[.int .i64 (wrap64 (1 + t102)), .int .i64 (wrap64 (1 + t105)), .slice Ao53 x109002_1.length co53] 29 (0, 0))) ∧ (IsS44 w0 w' g s0_0 t131 t132) ∧ (KeepBut w w' g none) ∧ (Below w0.heap.size w0 w')) ?_ ?_
  rotate_left
  ·
   intro hCont
   refine two_ (i := 6) (j := 8) (Ni := some 46) (Nj := some 48) (bz [8, 4]) (bz [6, 1, 2, 3]) rfl rfl rfl rfl (two_of HT_.out (by kernel_rfl)) (by decide) (by decide) (fun K hK => ?_) (fun K hK => ?_)
   ·
    skip
    refine gs Try.func39 #[.pointer (some ⟨g, 0, none⟩), .int .i64 (x109002_1.length : Int)] ?_
    with_reducible refine (spec_l1Cur_pick.calls g s0_0 t128 t129 (x109002_1.length : Int) t130 t131 t132 w0 _ ?side1 ?side2 A47.out).mono ?_
    (case side1 => exact pI44 HI0.out)
    (case side2 => exact pV HB.out (IsS44.ge HI0.out))
    rintro e w54 ⟨rfl, hi, hb, hk⟩
    refine ⟨_, rfl, ?_⟩
    replace O0 := aK (Kd.R_mono (Kd.R_keep (IsS44.apart (show IsS44 w0 _ g s0_0 t128 t129 from pI44 HI0.out) (pR O0.out) (by decide)) hk (fun _ h => h.2)) (fun _ h => h.1))
    replace B101 := kB hk B101 N101_0; replace B108 := kB hk B108 N108_0; replace HK := aK (KeepBut.trans (pK HK.out) hk (.inl rfl)); replace HB := aK (hb); replace HI0 := aK (hi)
    (try clear hb)
    (try clear hb2)
    (try clear hk)
    (try clear hi)
    refine hK.out _ _ (cz3 B108.out) (fun hHeld => ?_)
    clear hK K
    refine nm 46 ?_
    refine oz 8 48 [9, 3] HT_ fun K hK => ?_
    refine Kd.R_lit_step (Kd.int .i64) _ 3 ?hg (N := 48) ?hd (xs := ([9000, (-9000), 0] : List Int)) (inner := [.int .i64 9000, .int .i64 (-9000), .int .i64 0]) (ok := fun _ => True) (okp := fun _ => True) ?hr ?hp (fun _ hk => hk) trivial (Below.refl _ _) (Nat.le_refl _) (by simp) ?_; (case hd => rfl); (case hg => rfl); (case hr => first | (go_simp; done) | (go_simp; rfl)); (case hp => exact (Reps.one (show Kd.M (Kd.int .i64) _ _ _ 9000 [.int .i64 9000] from rfl) (Reps.one (show Kd.M (Kd.int .i64) _ _ _ (-9000) [.int .i64 (-9000)] from rfl) (Reps.one (show Kd.M (Kd.int .i64) _ _ _ 0 [.int .i64 0] from rfl) (Reps.none _ _)))))
    intro v134 w55 ho56 hb hg_ hnew_
    clear hg_ hnew_
    (first | rw [← Ny133.out] at ho56 | (simp only [Int.reduceToNat] at ho56; rw [← Ny133.out] at ho56))
    have n0_ := aK (Kd.R_elder' (pR O0.out) (Kd.R_base ho56) hb); have HO135 := aK (Kd.R_lower (nw1 ho56 (pR O0.out)) (keep_size (w := w) (g := g) (row := none) (pK HK.out))); have n4_ := aK (IsS44.below (pI44 HI0.out) hb); replace HK := aK (KeepBut.trans (pK HK.out) (KeepBut.of_below hb g none) (.inl rfl)); replace HB := aK (below_step ((pV HB.out (IsS44.ge HI0.out))) hb); replace B101 := bB B101 hb; replace B108 := bB B108 hb; clear O0 HI0; have O0 := n0_; have HI0 := n4_; clear n0_ n4_ hb ho56
    refine hK.out _ _ (cz3 B108.out) (fun hHeld => ?_)
    clear hK K
    refine nm 48 ?_
    exact norm_ (by simp only [putAll, Act.put, List.setIfInBounds_toArray, List.set_cons_zero, List.set_cons_succ]) (hCont (v134) _ ⟨hHeld, (pR (Kd.R_mono HO135.out (fun _ hk => hk.2))), (pR (Kd.R_mono O0.out (fun _ hk => hk.2))), (pB B101.out), (pB B108.out), (pI44 HI0.out), (pK HK.out), ((pV HB.out (IsS44.ge HI0.out)))⟩)
   skip
   refine Kd.R_lit_step (Kd.int .i64) _ 3 ?hg (N := 48) ?hd (xs := ([9000, (-9000), 0] : List Int)) (inner := [.int .i64 9000, .int .i64 (-9000), .int .i64 0]) (ok := fun _ => True) (okp := fun _ => True) ?hr ?hp (fun _ hk => hk) trivial (Below.refl _ _) (Nat.le_refl _) (by simp) ?_; (case hd => rfl); (case hg => rfl); (case hr => first | (go_simp; done) | (go_simp; rfl)); (case hp => exact (Reps.one (show Kd.M (Kd.int .i64) _ _ _ 9000 [.int .i64 9000] from rfl) (Reps.one (show Kd.M (Kd.int .i64) _ _ _ (-9000) [.int .i64 (-9000)] from rfl) (Reps.one (show Kd.M (Kd.int .i64) _ _ _ 0 [.int .i64 0] from rfl) (Reps.none _ _)))))
   intro v134 w54 ho55 hb hg_ hnew_
   clear hg_ hnew_
   (first | rw [← Ny133.out] at ho55 | (simp only [Int.reduceToNat] at ho55; rw [← Ny133.out] at ho55))
   have n0_ := aK (Kd.R_elder' (pR O0.out) (Kd.R_base ho55) hb); have HO135 := aK (Kd.R_lower (nw1 ho55 (pR O0.out)) (keep_size (w := w) (g := g) (row := none) (pK HK.out))); have n4_ := aK (IsS44.below (pI44 HI0.out) hb); replace HK := aK (KeepBut.trans (pK HK.out) (KeepBut.of_below hb g none) (.inl rfl)); replace HB := aK (below_step ((pV HB.out (IsS44.ge HI0.out))) hb); replace B101 := bB B101 hb; replace B108 := bB B108 hb; clear O0 HI0; have O0 := n0_; have HI0 := n4_; clear n0_ n4_ hb ho55
   refine hK.out _ _ (cz3 B108.out) (fun hHeld => ?_)
   clear hK K
   refine nm 48 ?_
   refine oz 6 46 [9, 3] HT_ fun K hK => ?_
   refine gs Try.func39 #[.pointer (some ⟨g, 0, none⟩), .int .i64 (x109002_1.length : Int)] ?_
   with_reducible refine (spec_l1Cur_pick.calls g s0_0 t128 t129 (x109002_1.length : Int) t130 t131 t132 w0 _ ?side1 ?side2 A47.out).mono ?_
   (case side1 => exact pI44 HI0.out)
   (case side2 => exact pV HB.out (IsS44.ge HI0.out))
   rintro e w56 ⟨rfl, hi, hb, hk⟩
   refine ⟨_, rfl, ?_⟩
   replace O0 := aK (Kd.R_mono (Kd.R_keep (IsS44.apart (show IsS44 w0 _ g s0_0 t128 t129 from pI44 HI0.out) (pR O0.out) (by decide)) hk (fun _ h => h.2)) (fun _ h => h.1))
   replace B101 := kB hk B101 N101_0; replace B108 := kB hk B108 N108_0
   replace HO135 := aK (Kd.R_mono (Kd.R_keep (IsS44.apart (show IsS44 w0 _ g s0_0 t128 t129 from pI44 HI0.out) (pR HO135.out) (by decide)) hk (fun _ h => h.2)) (fun _ h => h.1))
   replace HK := aK (KeepBut.trans (pK HK.out) hk (.inl rfl)); replace HB := aK (hb); replace HI0 := aK (hi)
   (try clear hb)
   (try clear hb2)
   (try clear hk)
   (try clear hi)
   refine hK.out _ _ (cz3 B108.out) (fun hHeld => ?_)
   clear hK K
   refine nm 46 ?_
   exact norm_ (by simp only [putAll, Act.put, List.setIfInBounds_toArray, List.set_cons_zero, List.set_cons_succ]) (hCont (v134) _ ⟨hHeld, (pR (Kd.R_mono HO135.out (fun _ hk => hk.2))), (pR (Kd.R_mono O0.out (fun _ hk => hk.2))), (pB B101.out), (pB B108.out), (pI44 HI0.out), (pK HK.out), ((pV HB.out (IsS44.ge HI0.out)))⟩)
  rintro v134 w57 ⟨hS_, h0_, h1_, h2_, h3_, h4_, h5_, h6_⟩
  have n0_ : Aside0 (Kd.R (Kd.int .i64) 3 w57 w.heap.size (fun k_ => some k_ ≠ (.slice Ao53 x109002_1.length co53 : Value).ownBlock) v134 y133) := ⟨h0_⟩
  replace O0 : Aside0 (Kd.R (Kd.int .i64) 3 w57 w.heap.size (fun k_ => some k_ ≠ (v134 : Value).ownBlock) (.slice Ao53 x109002_1.length co53) x109002_1) := ⟨h1_⟩
  replace B101 : Aside0 (w57.heap[g101]? = some (.cells #[.int .i64 0, .int .i64 0, .slice none 0 0] 29 (0, 0))) := ⟨h2_⟩
  replace B108 : Aside0 (w57.heap[g108]? = some (.cells #[.int .i64 (wrap64 (1 + t102)), .int .i64 (wrap64 (1 + t105)), .slice Ao53 x109002_1.length co53] 29 (0, 0))) := ⟨h3_⟩
  replace HI0 : Aside0 (IsS44 w0 w57 g s0_0 t131 t132) := ⟨h4_⟩
  replace HK : Aside0 (KeepBut w w57 g none) := ⟨h5_⟩
  replace HB : Aside0 (Below w0.heap.size w0 w57) := ⟨h6_⟩
  clear h0_ h1_ h2_ h3_ h4_ h5_ h6_; have HO135 := n0_; clear n0_
  have hHeld : w57.cell? ⟨g108, 0, none⟩ = some (.int .i64 (wrap64 (1 + t102))) ∧ w57.cell? ⟨g108, 1, none⟩ = some (.int .i64 (wrap64 (1 + t105))) ∧ w57.cell? ⟨g108, 2, none⟩ = some (.slice Ao53 x109002_1.length co53) := hS_
  obtain ⟨Ao58, co58, eo58⟩ := Kd.R_slice HO135.out
  (first | subst eo58 | (obtain ⟨f4_, f5_⟩ := sI eo58; subst f4_; subst f5_))
  refine norm_ (a' := ?_) ?_ ?_
  rotate_left
  ·
   simp only [putAll, Act.put, List.setIfInBounds_toArray, List.set_cons_zero, List.set_cons_succ]
   rfl
  refine oz 9 49 [10, 2] HT_ fun K hK => ?_
  refine gs Try.func38 #[.pointer (some ⟨g, 0, none⟩), .slice Ao58 y133.length co58] ?_
  with_reducible refine (spec_l1Cur_among.calls g s0_0 t131 t132 _ _ y133 t136 t137 t138 w0 _ ?side1 ?side2 ?side3 ?side4 ?side5 A48.out).mono ?_
  (case side1 => exact pI44 HI0.out)
  (case side2 => exact pV HB.out (IsS44.ge HI0.out))
  (case side3 => exact pC (Kd.R_reads' HO135.out).2.2)
  (case side4 => exact (Kd.R_reads' HO135.out).2.1)
  (case side5 => exact far_slice (IsS44.own_ne HI0.out HO135.out (by decide)))
  rintro e w59 ⟨rfl, hi, hb, hk⟩
  refine ⟨_, rfl, ?_⟩
  replace O0 := aK (Kd.R_mono (Kd.R_keep (IsS44.apart (show IsS44 w0 _ g s0_0 t131 t132 from pI44 HI0.out) (pR O0.out) (by decide)) hk (fun _ h => h.2)) (fun _ h => h.1))
  replace B101 := kB hk B101 N101_0; replace B108 := kB hk B108 N108_0
  replace HO135 := aK (Kd.R_mono (Kd.R_keep (IsS44.apart (show IsS44 w0 _ g s0_0 t131 t132 from pI44 HI0.out) (pR HO135.out) (by decide)) hk (fun _ h => h.2)) (fun _ h => h.1))
  replace HK := aK (KeepBut.trans (pK HK.out) hk (.inl rfl)); replace HB := aK (hb); replace HI0 := aK (hi)
  (try clear hb)
  (try clear hb2)
  (try clear hk)
  (try clear hi)
  have p51 : 0 ≤ (t130 : Int) := dA
  have q51 : (t130 : Int) < ((x109002_1.length : Int) : Int) := dA
  obtain ⟨go51, co51, eo51, g51, gl51, cl51, HG51⟩ := Kd.R_form O0.out (by omega)
  (first | cases eo51 | (injection eo51 with ea_ en_ ec_; (first | subst ea_ | (injection ea_ with ea_; subst ea_)); subst ec_; clear en_))
  have GB51 := aK g51; have GG51 := aK HG51; clear g51 gl51 HG51; obtain ⟨hx51_0, hf51_0⟩ := Kd.R_celln 0 O0.out (t130 : Int) p51 q51; replace p51 := eq_true p51; replace q51 := eq_true q51
  have HN0_go51 := aK (show g ≠ go51 from by have h_ := IsS44.own_ne HI0.out O0.out (by decide); intro e_; exact h_ (by rw [e_]; rfl))
  have HP60 := Kd.R_putn O0.out (t130 : Int) t136; rw [← Ny139.out] at HP60; have HQ60 := aK HP60; clear HP60
  refine hK.out _ _ (cz3 B108.out) (fun hHeld => ?_)
  clear hK K
  refine nm 49 ?_
  refine pz 10 50 [11, 1] HT_ ?_
  refine last_ (i := 11) (N := none) (bz [12, 0]) rfl rfl (one_of HT_.out (by kernel_rfl)) (by decide) (fun K hK => ?_)
  refine skip_ (w1 := ?_) (by rfl) rfl ?_ ?_
  rotate_left
  ·
   go_simp
   rfl
  refine hK.out _ _ ?_
  clear hK K
  refine done_ (done_of HT_.out (by kernel_rfl)) ?_
  try go_wp2
  go_meet
  case rel => exact ⟨_, (t137), (t138), (y139), (.slice (some ⟨go51, 0, none⟩) x109002_1.length co53), H', ⟨by have := HK1.out; first | omega | exact Nat.le_refl _⟩, ⟨pR (Kd.R_mono HQ60.out (fun _ hk => trivial))⟩, ⟨by refine bk ?_; refine blk_far ?_ (by have h_ := Kd.R_ne O0.out B101.out (by decide); intro e_; exact h_ (by rw [e_]; rfl)) _; refine bk ?_; exact B101.out⟩, ⟨by refine bk ?_; refine blk_far ?_ (by have h_ := Kd.R_ne O0.out B108.out (by decide); intro e_; exact h_ (by rw [e_]; rfl)) _; refine bk ?_; exact B108.out⟩, ⟨by repeat (first | (with_reducible first | exact HI0.out | apply IsS44.alloc | apply IsS44.drewN | apply IsS44.drew | apply IsS44.set_1 | apply IsS44.set_2 | refine IsS44.far ?_ HN0_go51.out _ | refine IsS44.far ?_ N0_101.out _ | refine IsS44.far ?_ N0_108.out _) | exact HI0.out)⟩, ⟨by repeat (first | (with_reducible first | exact HK.out | apply KeepBut.set_ | apply keep_drewN | apply keep_drew | apply keep_alloc | refine keep_far ?_ GB51.out _ | refine keep_far ?_ GW101.out _ | refine keep_far ?_ GW108.out _) | exact HK.out)⟩, ⟨by repeat (first | (with_reducible first | exact HB.out | apply below_alloc | apply pw_below_drewN | apply below_drew1 | refine below_set ?_ (Nat.le_trans HL.out GB51.out) | refine below_set ?_ (IsS44.ge HI0.out) | refine below_set ?_ GE101.out | refine below_set ?_ GE108.out) | exact HB.out)⟩⟩
 case rest =>
 clear HC41
 try clear c1
 try clear c2
 try clear p2
 try clear c3
 try clear c4
 try clear c5
 try clear p5
 try clear q5
 try clear hx5
 try clear hf5
 try clear p6
 try clear c7
 try clear c9
 try clear c10
 try clear c16
 try clear c16b0
 try clear c19
 try clear c20
 try clear c21
 try clear c22
 try clear c30
 try clear c31
 try clear c32
 try clear c38
 try clear c39
 try clear c42
 try clear c43
 try clear c46
 try clear c49
 try clear c49b0
 try clear c50
 try clear c50b0
 try clear p51
 try clear q51
 try clear hx51
 try clear hf51
 try clear c58
 try clear z11_0
 try clear z11_1
 try clear z11_2
 try clear z23_0
 try clear z23_1
 try clear z23_2
 try clear z26_0
 try clear z26_1
 try clear z26_2
 try clear z29_0
 try clear z29_1
 try clear z29_2
 try clear z33_0
 try clear z33_1
 try clear z33_2
 try clear z36_0
 try clear z36_1
 try clear z36_2
 try clear z39_0
 try clear z39_1
 try clear z39_2
 try clear z44_0
 try clear z44_1
 try clear z44_2
 try clear y11_0
 try clear y11_1
 try clear y11_2
 try clear y23_0
 try clear y23_1
 try clear y23_2
 try clear y26_0
 try clear y26_1
 try clear y26_2
 try clear y29_0
 try clear y29_1
 try clear y29_2
 try clear y33_0
 try clear y33_1
 try clear y33_2
 try clear y36_0
 try clear y36_1
 try clear y36_2
 try clear y39_0
 try clear y39_1
 try clear y39_2
 try clear y44_0
 try clear y44_1
 try clear y44_2
 try clear hx51_0
 try clear p2
 try clear p51
 try clear p6
 try clear q51
 obtain ⟨kq, x1001_40, x1002_40, x109002_40, u109002, HA, HJ40, O0, B101, B108, HI0, HK, HB⟩ := hcut
 cases kq with
 | zero => exact absurd HA.out (by simp [spec_l1Cur_field.j1])
 | succ kj40 =>
 have H := HA.out
 clear HA
 simp only [spec_l1Cur_field.j1] at H
 replace H := oA H
 obtain ⟨⟨t140, t141, t142⟩, A61, H⟩ := H
 replace H : (if t140 = true then ((spec_l2Fill.f kj40 8 8 3).bind fun bt143 => (some (bt143.1, bt143.2.1, bt143.2.2, t141, t142))) else (some ((wrap64 (1 + t102)), (wrap64 (1 + t105)), x109002_40, t141, t142))) = some (r1, r2, r3, r4, r5) := H
 by_cases c62 : t140 = true
 ·
  subst c62
  have H1 : ((spec_l2Fill.f kj40 8 8 3).bind fun bt143 => (some (bt143.1, bt143.2.1, bt143.2.2, t141, t142))) = some (r1, r2, r3, r4, r5) := by rw [if_pos rfl] at H; exact H
  clear H; have H := H1; clear H1; replace H := oA H
  obtain ⟨⟨t143, t144, t145⟩, A63, H⟩ := H
  replace H : (some (t143, t144, t145, t141, t142)) = some (r1, r2, r3, r4, r5) := H
  simp only [Option.some.injEq, Prod.mk.injEq] at H
  obtain ⟨rfl, rfl, rfl, rfl, rfl⟩ := H
  go_wp2_with (first | ((with_reducible refine gc 76 rfl ?_); refine gl (some 52) Try.func76 #[.pointer (some ⟨g, 0, none⟩), .int .i64 24] ?_; (with_reducible refine (spec_l1Cur_one.calls g s0_0 x1001_40 x1002_40 24 true t141 t142 w0 _ ?side1 ?side2 A61.out).mono ?_); (case side1 => exact pI44 HI0.out); (case side2 => exact pV HB.out (IsS44.ge HI0.out)); rintro e w64 ⟨rfl, hi, hb, hk⟩; refine ⟨_, rfl, ?_⟩; replace O0 := aK (Kd.R_mono (Kd.R_keep (IsS44.apart (show IsS44 w0 _ g s0_0 x1001_40 x1002_40 from pI44 HI0.out) (pR O0.out) (by decide)) hk (fun _ h => h.2)) (fun _ h => h.1)); replace B101 := kB hk B101 N101_0; replace B108 := kB hk B108 N108_0; replace HK := aK (KeepBut.trans (pK HK.out) hk (.inl rfl)); replace HB := aK (hb); replace HI0 := aK (hi); (try clear hb); (try clear hk); (try clear hi)) | ((with_reducible refine gc 77 rfl ?_); refine gl (some 53) Try.func77 #[.int .i64 8, .int .i64 8, .int .i64 3] ?_; (with_reducible refine (spec_l2Fill.calls kj40 8 8 3 t143 t144 t145 _ A63.out).mono ?_); rintro e w65 ⟨v146, rfl, ho0, hb⟩; refine ⟨_, rfl, ?_⟩; have n0_ := aK (Kd.R_elder' (pR O0.out) (Kd.R_base ho0) hb); have HO147 := aK (Kd.R_lower (nw1 ho0 (pR O0.out)) (keep_size (w := w) (g := g) (row := none) (pK HK.out))); have n4_ := aK (IsS44.below (pI44 HI0.out) hb); replace HK := aK (KeepBut.trans (pK HK.out) (KeepBut.of_below hb g none) (.inl rfl)); replace HB := aK (below_step ((pV HB.out (IsS44.ge HI0.out))) hb); replace B101 := bB B101 hb; replace B108 := bB B108 hb; clear O0 HI0; have O0 := n0_; have HI0 := n4_; clear n0_ n4_; (try clear hb); (try clear ho0); obtain ⟨_, _⟩ := nB N108_101; obtain ⟨_, _⟩ := nB N108_0; obtain ⟨_, _, _, _, _, _⟩ := bc3 B108.out; obtain ⟨Ao69, co69, eo69⟩ := Kd.R_slice HO147.out; subst eo69; obtain ⟨_, _⟩ := nB N101_0; obtain ⟨_, _, _, _, _, _⟩ := bc3 B101.out))
  refine bodyPost_ret (results_cell_row rfl _ _ g101 29 #[.int .i64 t143, .int .i64 t144, .slice Ao69 t145.length co69] (0, 0) _ rfl (by refine bq #[.int .i64 t143, .int .i64 t144, .slice none 0 0] 2 ?_; refine bq #[.int .i64 t143, .int .i64 0, .slice none 0 0] 1 ?_; refine bq #[.int .i64 0, .int .i64 0, .slice none 0 0] 0 ?_; refine bg N101_108 ?_; refine bg N101_108 ?_; refine bg N101_108 ?_; refine bk ?_; exact B101.out) Try.underlying29 rfl (by kernel_rfl)) rfl ?_
  exact ⟨_, er, by (with_reducible repeat (first | apply Kd.R_alloc | apply Kd.R_drewN | apply Kd.R_drew)); exact Kd.R_mono (Kd.R_far (p := ⟨g101, 2, none⟩) (Kd.R_far (p := ⟨g101, 1, none⟩) (Kd.R_far (p := ⟨g101, 0, none⟩) (Kd.R_far (p := ⟨g108, 2, none⟩) (Kd.R_far (p := ⟨g108, 1, none⟩) (Kd.R_far (p := ⟨g108, 0, none⟩) (Kd.R_types (Kd.R_types HO147.out B108.out (by decide)) B101.out (by decide)) (fun _ hk => hk.1.2) (.int .i64 t143)) (fun _ hk => hk.1.2) (.int .i64 t144)) (fun _ hk => hk.1.2) (.slice Ao69 t145.length co69)) (fun _ hk => hk.2) (.int .i64 t143)) (fun _ hk => hk.2) (.int .i64 t144)) (fun _ hk => hk.2) (.slice Ao69 t145.length co69)) (fun _ hk => trivial), pI44 HI0.out, (pV HB.out (IsS44.ge HI0.out)), pK HK.out⟩
 replace c62 := Bool.eq_false_iff.mpr c62
 subst c62
 have H1 : (some ((wrap64 (1 + t102)), (wrap64 (1 + t105)), x109002_40, t141, t142)) = some (r1, r2, r3, r4, r5) := by rw [if_neg (show ¬ (false = true) by decide)] at H; exact H
 clear H
 have H := H1
 clear H1
 simp only [Option.some.injEq, Prod.mk.injEq] at H
 obtain ⟨rfl, rfl, rfl, rfl, rfl⟩ := H
 go_wp2_with (first | ((with_reducible refine gc 76 rfl ?_); refine gl (some 52) Try.func76 #[.pointer (some ⟨g, 0, none⟩), .int .i64 24] ?_; (with_reducible refine (spec_l1Cur_one.calls g s0_0 x1001_40 x1002_40 24 false t141 t142 w0 _ ?side1 ?side2 A61.out).mono ?_); (case side1 => exact pI44 HI0.out); (case side2 => exact pV HB.out (IsS44.ge HI0.out)); rintro e w72 ⟨rfl, hi, hb, hk⟩; refine ⟨_, rfl, ?_⟩; replace O0 := aK (Kd.R_mono (Kd.R_keep (IsS44.apart (show IsS44 w0 _ g s0_0 x1001_40 x1002_40 from pI44 HI0.out) (pR O0.out) (by decide)) hk (fun _ h => h.2)) (fun _ h => h.1)); replace B101 := kB hk B101 N101_0; replace B108 := kB hk B108 N108_0; replace HK := aK (KeepBut.trans (pK HK.out) hk (.inl rfl)); replace HB := aK (hb); replace HI0 := aK (hi); (try clear hb); (try clear hk); (try clear hi); obtain ⟨_, _⟩ := nB N108_101; obtain ⟨_, _⟩ := nB N108_0; obtain ⟨_, _, _, _, _, _⟩ := bc3 B108.out; obtain ⟨_, _⟩ := nB N101_0; obtain ⟨_, _, _, _, _, _⟩ := bc3 B101.out; obtain ⟨Ao78, co78, eo78⟩ := Kd.R_slice O0.out; subst eo78))
 refine bodyPost_ret (results_cell_row rfl _ _ g101 29 #[.int .i64 (wrap64 (1 + t102)), .int .i64 (wrap64 (1 + t105)), .slice Ao78 x109002_40.length co78] (0, 0) _ rfl (by refine bq #[.int .i64 (wrap64 (1 + t102)), .int .i64 (wrap64 (1 + t105)), .slice none 0 0] 2 ?_; refine bq #[.int .i64 (wrap64 (1 + t102)), .int .i64 0, .slice none 0 0] 1 ?_; refine bq #[.int .i64 0, .int .i64 0, .slice none 0 0] 0 ?_; refine bk ?_; exact B101.out) Try.underlying29 rfl (by kernel_rfl)) rfl ?_
 exact ⟨_, er, by (with_reducible repeat (first | apply Kd.R_alloc | apply Kd.R_drewN | apply Kd.R_drew)); exact Kd.R_mono (rF3 O0.out B101.out (.int .i64 (wrap64 (1 + t102))) (.int .i64 (wrap64 (1 + t105))) (.slice Ao78 x109002_40.length co78)) (fun _ h => trivial), pI44 HI0.out, (pV HB.out (IsS44.ge HI0.out)), pK HK.out⟩
def spec_l1Cur_anyField.f (k : Nat) (s0_0 : List Int) (s0_1 : Int) (s0_2 : Int) : Option (Int × Int × List Int × Int × Int) := (spec_l1Cur_field.f k s0_0 s0_1 s0_2).bind fun bt102 => ((spec_l1Cur_pick.f s0_0 bt102.2.2.2.1 bt102.2.2.2.2 24).bind fun bt110 => (if bt110.1 = 0 then ((spec_l1Cur_among.f s0_0 bt110.2.1 bt110.2.2 (([0, 9, 8, bt102.2.1] : List Int))).bind fun bt116 => (some (bt116.1, bt102.2.1, bt102.2.2.1, bt116.2.1, bt116.2.2))) else (if bt110.1 = 1 then ((spec_l1Cur_pick.f s0_0 bt110.2.1 bt110.2.2 (bt102.2.2.1.length : Int)).bind fun bt119 => ((spec_l1Cur_among.f s0_0 bt119.2.1 bt119.2.2 (([9001, (-9001), (-9998), (-9999)] : List Int))).bind fun bt125 => (if 0 ≤ bt119.1 then (if bt119.1 < (bt102.2.2.1.length : Int) then (some (bt102.1, bt102.2.1, (bt102.2.2.1.set (bt119.1 : Int).toNat bt125.1), bt125.2.1, bt125.2.2)) else (none)) else (none)))) else (if bt110.1 = 2 then (if 1 ≤ (bt102.2.2.1.length : Int) then (some (bt102.1, bt102.2.1, (bt102.2.2.1.drop (1 : Int).toNat), bt110.2.1, bt110.2.2)) else (none)) else (some (bt102.1, bt102.2.1, bt102.2.2.1, bt110.2.1, bt110.2.2))))))
def spec_l1Cur_anyField.T6 : Bool × List (List Nat × List Nat) := (true, [([], []), ([0], [0]), ([], []), ([], []), ([3], [3]), ([4], [4]), ([2, 5], [2, 5]), ([], []), ([], []), ([7, 8, 6], [7, 8]), ([1, 6, 0, 1, 2, 3, 4, 5, 6, 7, 8, 9], [1, 6]), ([10, 9, 9, 0, 1, 2, 3, 4, 5, 6, 7, 8, 9], [9, 10])])
def spec_l1Cur_anyField.B6 : List Nat := [0, 1, 0, 0, 8, 24, 60, 0, 0, 508, 1023, 2047]
theorem spec_l1Cur_anyField.tab6 : rtab .any (opsOf Try.f45 6) = spec_l1Cur_anyField.T6 := by kernel_rfl
theorem spec_l1Cur_anyField.bits6 : waitsOk spec_l1Cur_anyField.T6.2 spec_l1Cur_anyField.B6 = true := by kernel_rfl
theorem spec_l1Cur_anyField.calls (k : Nat) (g : Nat) (s0_0 : List Int) (s0_1 : Int) (s0_2 : Int) (r1 : Int) (r2 : Int) (r3 : List Int) (r4 : Int) (r5 : Int) (w0 w : World) (hI : IsS44 w0 w g s0_0 s0_1 s0_2) (hB : Below w0.heap.size w0 w) (h : spec_l1Cur_anyField.f k s0_0 s0_1 s0_2 = some (r1, r2, r3, r4, r5)) :
  Calls Try.prog 45 #[.pointer (some ⟨g, 0, none⟩)] w fun e w' => ∃ v2_ : Value, e = .returned (.agg #[.int .i64 r1, .int .i64 r2, v2_]) ∧ Kd.Q (Kd.int .i64) 3 w' w.heap.size (fun _ => True) v2_ r3 ∧ IsS44 w0 w' g s0_0 r4 r5 ∧ Below w0.heap.size w0 w' ∧ KeepBut w w' g none := by
 have hu29 := Try.underlying29
 have HI0 := aK hI
 have HK := aK (KeepBut.refl w g none)
 have HL := aK hB.size
 clear hI
 have HW0 := aK hB.size
 have HB := aK hB
 clear hB
 have H : ((spec_l1Cur_field.f k s0_0 s0_1 s0_2).bind fun bt102 => ((spec_l1Cur_pick.f s0_0 bt102.2.2.2.1 bt102.2.2.2.2 24).bind fun bt110 => (if bt110.1 = 0 then ((spec_l1Cur_among.f s0_0 bt110.2.1 bt110.2.2 (([0, 9, 8, bt102.2.1] : List Int))).bind fun bt116 => (some (bt116.1, bt102.2.1, bt102.2.2.1, bt116.2.1, bt116.2.2))) else (if bt110.1 = 1 then ((spec_l1Cur_pick.f s0_0 bt110.2.1 bt110.2.2 (bt102.2.2.1.length : Int)).bind fun bt119 => ((spec_l1Cur_among.f s0_0 bt119.2.1 bt119.2.2 (([9001, (-9001), (-9998), (-9999)] : List Int))).bind fun bt125 => (if 0 ≤ bt119.1 then (if bt119.1 < (bt102.2.2.1.length : Int) then (some (bt102.1, bt102.2.1, (bt102.2.2.1.set (bt119.1 : Int).toNat bt125.1), bt125.2.1, bt125.2.2)) else (none)) else (none)))) else (if bt110.1 = 2 then (if 1 ≤ (bt102.2.2.1.length : Int) then (some (bt102.1, bt102.2.1, (bt102.2.2.1.drop (1 : Int).toNat), bt110.2.1, bt110.2.2)) else (none)) else (some (bt102.1, bt102.2.1, bt102.2.2.1, bt110.2.1, bt110.2.2))))))) = some (r1, r2, r3, r4, r5) := h
 clear h
 replace H := oA H
 obtain ⟨⟨t102, t103, t104, t107, t108⟩, A2, H⟩ := H
 replace H : ((spec_l1Cur_pick.f s0_0 t107 t108 24).bind fun bt110 => (if bt110.1 = 0 then ((spec_l1Cur_among.f s0_0 bt110.2.1 bt110.2.2 (([0, 9, 8, t103] : List Int))).bind fun bt116 => (some (bt116.1, t103, t104, bt116.2.1, bt116.2.2))) else (if bt110.1 = 1 then ((spec_l1Cur_pick.f s0_0 bt110.2.1 bt110.2.2 (t104.length : Int)).bind fun bt119 => ((spec_l1Cur_among.f s0_0 bt119.2.1 bt119.2.2 (([9001, (-9001), (-9998), (-9999)] : List Int))).bind fun bt125 => (if 0 ≤ bt119.1 then (if bt119.1 < (t104.length : Int) then (some (t102, t103, (t104.set (bt119.1 : Int).toNat bt125.1), bt125.2.1, bt125.2.2)) else (none)) else (none)))) else (if bt110.1 = 2 then (if 1 ≤ (t104.length : Int) then (some (t102, t103, (t104.drop (1 : Int).toNat), bt110.2.1, bt110.2.2)) else (none)) else (some (t102, t103, t104, bt110.2.1, bt110.2.2)))))) = some (r1, r2, r3, r4, r5) := H
 replace H := oA H
 obtain ⟨⟨t110, t111, t112⟩, A3, H⟩ := H
 replace H : (if t110 = 0 then ((spec_l1Cur_among.f s0_0 t111 t112 (([0, 9, 8, t103] : List Int))).bind fun bt116 => (some (bt116.1, t103, t104, bt116.2.1, bt116.2.2))) else (if t110 = 1 then ((spec_l1Cur_pick.f s0_0 t111 t112 (t104.length : Int)).bind fun bt119 => ((spec_l1Cur_among.f s0_0 bt119.2.1 bt119.2.2 (([9001, (-9001), (-9998), (-9999)] : List Int))).bind fun bt125 => (if 0 ≤ bt119.1 then (if bt119.1 < (t104.length : Int) then (some (t102, t103, (t104.set (bt119.1 : Int).toNat bt125.1), bt125.2.1, bt125.2.2)) else (none)) else (none)))) else (if t110 = 2 then (if 1 ≤ (t104.length : Int) then (some (t102, t103, (t104.drop (1 : Int).toNat), t111, t112)) else (none)) else (some (t102, t103, t104, t111, t112))))) = some (r1, r2, r3, r4, r5) := H
 by_cases c4 : t110 = 0
 ·
  rw [if_pos c4] at H
  have c4b0 : (t110 == 0) = true := beq_iff_eq.mpr c4
  have c4b1 : (t110 != 0) = false := bne_eq_false_iff_eq.mpr c4
  clear c4
  obtain ⟨y113, hy113⟩ : ∃ y_ : List Int, y_ = (([0, 9, 8, t103] : List Int)) := ⟨_, rfl⟩
  replace H : ((spec_l1Cur_among.f s0_0 t111 t112 y113).bind fun bt116 => (some (bt116.1, t103, t104, bt116.2.1, bt116.2.2))) = some (r1, r2, r3, r4, r5) := by first | (rw [hy113]; first | with_reducible exact H | with_reducible exact (oS H :)) | with_reducible exact (oS H :) | with_reducible exact H | exact H
  have Ny113 := aK hy113; clear hy113; replace H := oA H
  obtain ⟨⟨t116, t117, t118⟩, A5, H⟩ := H
  replace H : (some (t116, t103, t104, t117, t118)) = some (r1, r2, r3, r4, r5) := H
  simp only [Option.some.injEq, Prod.mk.injEq] at H
  obtain ⟨rfl, rfl, rfl, rfl, rfl⟩ := H
  go_enter Try.func45, Try.ntmps45
  go_wp2_with (first | ((with_reducible refine ga 2 rfl ?_); refine bxa #[.int .i64 0, .int .i64 0, .slice none 0 0] 29 ?_; intro g101 hg w6 B101 hb; have n0_ := aK (IsS44.below (pI44 HI0.out) hb); have n1_ := aK (KeepBut.trans (pK HK.out) (KeepBut.of_below hb g none) (.inl rfl)); replace HB := aK (below_step ((pV HB.out (IsS44.ge HI0.out))) hb); have GW101 := aK ((by rw [hg]; exact (keep_size (w := w) (g := g) (row := none) (pK HK.out)) : w.heap.size ≤ g101)); have GE101 := aK ((Nat.le_trans HW0.out (by rw [hg]; exact (keep_size (w := w) (g := g) (row := none) (pK HK.out)) : w.heap.size ≤ g101) : w0.heap.size ≤ g101)); have N0_101 := aK ((by rw [hg]; exact Nat.ne_of_lt (IsS44.lt (show IsS44 w0 _ g s0_0 s0_1 s0_2 from pI44 HI0.out)) : g ≠ g101)); have N101_0 := aK ((by rw [hg]; exact Nat.ne_of_gt (IsS44.lt (show IsS44 w0 _ g s0_0 s0_1 s0_2 from pI44 HI0.out)) : g101 ≠ g)); clear HI0 HK; have HI0 := n0_; have HK := n1_; clear n0_ n1_; clear hb hg) | ((with_reducible refine gc 58 rfl ?_); refine gl (some 5) Try.func58 #[.pointer (some ⟨g, 0, none⟩)] ?_; (with_reducible refine (spec_l1Cur_field.calls k g s0_0 s0_1 s0_2 t102 t103 t104 t107 t108 w0 _ ?side1 ?side2 A2.out).mono ?_); (case side1 => exact pI44 HI0.out); (case side2 => exact pV HB.out (IsS44.ge HI0.out)); rintro e w7 ⟨v105, rfl, ho0, hi, hb, hk⟩; refine ⟨_, rfl, ?_⟩; replace B101 := kB hk B101 N101_0; have HO106 := aK (Kd.R_lower ho0 (keep_size (w := w) (g := g) (row := none) (pK HK.out))); replace HK := aK (KeepBut.trans (pK HK.out) hk (.inl rfl)); replace HB := aK (hb); replace HI0 := aK (hi); (try clear hb); (try clear hk); (try clear hi); (try clear ho0)) | ((with_reducible refine ga 3 rfl ?_); refine bxe (cs := #[.int .i64 0, .int .i64 0, .slice none 0 0]) (t := 29) ?_; intro g109 hg w8 hbox hb; replace HO106 := rb HO106 hb; have n1_ := aK (IsS44.below (pI44 HI0.out) hb); have n3_ := aK (KeepBut.trans (pK HK.out) (KeepBut.of_below hb g none) (.inl rfl)); replace HB := aK (below_step ((pV HB.out (IsS44.ge HI0.out))) hb); have B109 := aK (hbox); have GW109 := aK ((by rw [hg]; exact (keep_size (w := w) (g := g) (row := none) (pK HK.out)) : w.heap.size ≤ g109)); have GE109 := aK ((Nat.le_trans HW0.out (by rw [hg]; exact (keep_size (w := w) (g := g) (row := none) (pK HK.out)) : w.heap.size ≤ g109) : w0.heap.size ≤ g109)); obtain ⟨N101_109, N109_101⟩ := na hg B101; have N0_109 := aK ((by rw [hg]; exact Nat.ne_of_lt (IsS44.lt (show IsS44 w0 _ g s0_0 t107 t108 from pI44 HI0.out)) : g ≠ g109)); have N109_0 := aK ((by rw [hg]; exact Nat.ne_of_gt (IsS44.lt (show IsS44 w0 _ g s0_0 t107 t108 from pI44 HI0.out)) : g109 ≠ g)); replace B101 := bB B101 hb; clear HI0 HK; have HI0 := n1_; have HK := n3_; clear n1_ n3_ hb hbox hg; obtain ⟨_, _⟩ := nB N109_101; obtain ⟨_, _⟩ := nB N109_0; obtain ⟨_, _, _, _, _, _⟩ := bc3 B109.out; obtain ⟨Ao12, co12, eo12⟩ := Kd.R_slice HO106.out; subst eo12) | ((with_reducible refine gc 39 rfl ?_); refine gl (some 7) Try.func39 #[.pointer (some ⟨g, 0, none⟩), .int .i64 24] ?_; (with_reducible refine (spec_l1Cur_pick.calls g s0_0 t107 t108 24 t110 t111 t112 w0 _ ?side1 ?side2 A3.out).mono ?_); (case side1 => exact pI44 HI0.out); (case side2 => exact pV HB.out (IsS44.ge HI0.out)); rintro e w13 ⟨rfl, hi, hb, hk⟩; refine ⟨_, rfl, ?_⟩; replace B101 := aK (KeepBut.blk hk (g' := g101) (o := .cells #[.int .i64 0, .int .i64 0, .slice none 0 0] 29 (0, 0)) (by refine bg N101_109 ?_; refine bg N101_109 ?_; refine bg N101_109 ?_; refine bk ?_; exact B101.out) N101_0.out (by simp)); replace HO106 := aK (Kd.R_mono (Kd.R_keep (IsS44.apart (show IsS44 w0 _ g s0_0 t107 t108 from pI44 HI0.out) (pR (rF3 HO106.out B109.out (.int .i64 t102) (.int .i64 t103) (.slice Ao12 t104.length co12))) (by decide)) hk (fun _ h => h.2)) (fun _ h => h.1)); replace B109 := aK (KeepBut.blk hk (g' := g109) (o := .cells #[.int .i64 t102, .int .i64 t103, .slice Ao12 t104.length co12] 29 (0, 0)) (by refine bq #[.int .i64 t102, .int .i64 t103, .slice none 0 0] 2 ?_; refine bq #[.int .i64 t102, .int .i64 0, .slice none 0 0] 1 ?_; refine bq #[.int .i64 0, .int .i64 0, .slice none 0 0] 0 ?_; refine bk ?_; exact B109.out) N109_0.out (by simp)); replace HK := aK (KeepBut.trans (pK HK.out) hk (.inl rfl)); replace HB := aK (hb); replace HI0 := aK (hi); (try clear hb); (try clear hk); (try clear hi); obtain ⟨_, _, _, _, _, _⟩ := bc3 B109.out) | ((with_reducible refine ga 13 rfl ?_); refine Kd.R_lit (Kd.int .i64) _ 3 ?hg (N := 13) ?hd (xs := ([0, 9, 8, t103] : List Int)) (inner := [.int .i64 0, .int .i64 9, .int .i64 8, .int .i64 t103]) (ok := fun _ => True) (okp := fun _ => True) ?hr ?hp (fun _ hk => hk) trivial (Below.refl _ _) (Nat.le_refl _) (by simp) ?_; (case hd => rfl); (case hg => rfl); (case hr => first | (go_simp; done) | (go_simp; rfl)); (case hp => exact (Reps.one (show Kd.M (Kd.int .i64) _ _ _ 0 [.int .i64 0] from rfl) (Reps.one (show Kd.M (Kd.int .i64) _ _ _ 9 [.int .i64 9] from rfl) (Reps.one (show Kd.M (Kd.int .i64) _ _ _ 8 [.int .i64 8] from rfl) (Reps.one (show Kd.M (Kd.int .i64) _ _ _ t103 [.int .i64 t103] from rfl) (Reps.none _ _)))))); intro v114 w15 ho16 hb hg_ hnew_; clear hg_ hnew_; (first | rw [← Ny113.out] at ho16 | (simp only [Int.reduceToNat] at ho16; rw [← Ny113.out] at ho16)); have n0_ := aK (Kd.R_elder' (pR HO106.out) (Kd.R_base ho16) hb); have HO115 := aK (Kd.R_lower (nw1 ho16 (pR HO106.out)) (keep_size (w := w) (g := g) (row := none) (pK HK.out))); have n2_ := aK (IsS44.below (pI44 HI0.out) hb); replace HK := aK (KeepBut.trans (pK HK.out) (KeepBut.of_below hb g none) (.inl rfl)); replace HB := aK (below_step ((pV HB.out (IsS44.ge HI0.out))) hb); replace B101 := bB B101 hb; replace B109 := bB B109 hb; clear HO106 HI0; have HO106 := n0_; have HI0 := n2_; clear n0_ n2_ hb ho16; obtain ⟨Ao17, co17, eo17⟩ := Kd.R_slice HO115.out; subst eo17) | ((with_reducible refine gc 38 rfl ?_); refine gl (some 14) Try.func38 #[.pointer (some ⟨g, 0, none⟩), .slice Ao17 y113.length co17] ?_; (with_reducible refine (spec_l1Cur_among.calls g s0_0 t111 t112 _ _ y113 t116 t117 t118 w0 _ ?side1 ?side2 ?side3 ?side4 ?side5 A5.out).mono ?_); (case side1 => exact pI44 HI0.out); (case side2 => exact pV HB.out (IsS44.ge HI0.out)); (case side3 => exact pC (Kd.R_reads' HO115.out).2.2); (case side4 => exact (Kd.R_reads' HO115.out).2.1); (case side5 => exact far_slice (IsS44.own_ne HI0.out HO115.out (by decide))); rintro e w18 ⟨rfl, hi, hb, hk⟩; refine ⟨_, rfl, ?_⟩; replace B101 := kB hk B101 N101_0; replace HO106 := aK (Kd.R_mono (Kd.R_keep (IsS44.apart (show IsS44 w0 _ g s0_0 t111 t112 from pI44 HI0.out) (pR HO106.out) (by decide)) hk (fun _ h => h.2)) (fun _ h => h.1)); replace B109 := kB hk B109 N109_0; replace HO115 := aK (Kd.R_mono (Kd.R_keep (IsS44.apart (show IsS44 w0 _ g s0_0 t111 t112 from pI44 HI0.out) (pR HO115.out) (by decide)) hk (fun _ h => h.2)) (fun _ h => h.1)); replace HK := aK (KeepBut.trans (pK HK.out) hk (.inl rfl)); replace HB := aK (hb); replace HI0 := aK (hi); (try clear hb); (try clear hk); (try clear hi); obtain ⟨_, _, _, _, _, _⟩ := bc3 B109.out; obtain ⟨_, _⟩ := nB N101_0; obtain ⟨_, _, _, _, _, _⟩ := bc3 B101.out))
  refine bodyPost_ret (results_cell_row rfl _ _ g101 29 #[.int .i64 t116, .int .i64 t103, .slice Ao12 t104.length co12] (0, 0) _ rfl (by refine bq #[.int .i64 t116, .int .i64 t103, .slice none 0 0] 2 ?_; refine bq #[.int .i64 t116, .int .i64 0, .slice none 0 0] 1 ?_; refine bq #[.int .i64 0, .int .i64 0, .slice none 0 0] 0 ?_; refine bg N101_109 ?_; refine bk ?_; exact B101.out) Try.underlying29 rfl (by kernel_rfl)) rfl ?_
  exact ⟨_, er, Kd.Q_of_R (pR (Kd.R_mono (Kd.R_far (p := ⟨g101, 2, none⟩) (Kd.R_far (p := ⟨g101, 1, none⟩) (Kd.R_far (p := ⟨g101, 0, none⟩) (Kd.R_far (p := ⟨g109, 0, none⟩) (Kd.R_types (Kd.R_types HO106.out B109.out (by decide)) B101.out (by decide)) (fun _ hk => hk.1.2) (.int .i64 t116)) (fun _ hk => hk.2) (.int .i64 t116)) (fun _ hk => hk.2) (.int .i64 t103)) (fun _ hk => hk.2) (.slice Ao12 t104.length co12)) (fun _ hk => trivial))), pI44 HI0.out, (pV HB.out (IsS44.ge HI0.out)), pK HK.out⟩
 rw [if_neg c4] at H
 have c4b0 : (t110 == 0) = false := beq_eq_false_iff_ne.mpr c4
 have c4b1 : (t110 != 0) = true := bne_iff_ne.mpr c4
 by_cases c22 : t110 = 1
 rotate_left
 ·
  rw [if_neg c22] at H
  have c22b0 : (t110 == 1) = false := beq_eq_false_iff_ne.mpr c22
  have c22b1 : (t110 != 1) = true := bne_iff_ne.mpr c22
  by_cases c48 : t110 = 2
  rotate_left
  ·
   rw [if_neg c48] at H
   have c48b0 : (t110 == 2) = false := beq_eq_false_iff_ne.mpr c48
   have c48b1 : (t110 != 2) = true := bne_iff_ne.mpr c48
   simp only [Option.some.injEq, Prod.mk.injEq] at H
   obtain ⟨rfl, rfl, rfl, rfl, rfl⟩ := H
   go_enter Try.func45, Try.ntmps45
   go_wp2_with (first | ((with_reducible refine ga 2 rfl ?_); refine bxa #[.int .i64 0, .int .i64 0, .slice none 0 0] 29 ?_; intro g101 hg w62 B101 hb; have n0_ := aK (IsS44.below (pI44 HI0.out) hb); have n1_ := aK (KeepBut.trans (pK HK.out) (KeepBut.of_below hb g none) (.inl rfl)); replace HB := aK (below_step ((pV HB.out (IsS44.ge HI0.out))) hb); have GW101 := aK ((by rw [hg]; exact (keep_size (w := w) (g := g) (row := none) (pK HK.out)) : w.heap.size ≤ g101)); have GE101 := aK ((Nat.le_trans HW0.out (by rw [hg]; exact (keep_size (w := w) (g := g) (row := none) (pK HK.out)) : w.heap.size ≤ g101) : w0.heap.size ≤ g101)); have N0_101 := aK ((by rw [hg]; exact Nat.ne_of_lt (IsS44.lt (show IsS44 w0 _ g s0_0 s0_1 s0_2 from pI44 HI0.out)) : g ≠ g101)); have N101_0 := aK ((by rw [hg]; exact Nat.ne_of_gt (IsS44.lt (show IsS44 w0 _ g s0_0 s0_1 s0_2 from pI44 HI0.out)) : g101 ≠ g)); clear HI0 HK; have HI0 := n0_; have HK := n1_; clear n0_ n1_; clear hb hg) | ((with_reducible refine gc 58 rfl ?_); refine gl (some 5) Try.func58 #[.pointer (some ⟨g, 0, none⟩)] ?_; (with_reducible refine (spec_l1Cur_field.calls k g s0_0 s0_1 s0_2 t102 t103 t104 t107 t108 w0 _ ?side1 ?side2 A2.out).mono ?_); (case side1 => exact pI44 HI0.out); (case side2 => exact pV HB.out (IsS44.ge HI0.out)); rintro e w63 ⟨v105, rfl, ho0, hi, hb, hk⟩; refine ⟨_, rfl, ?_⟩; replace B101 := kB hk B101 N101_0; have HO106 := aK (Kd.R_lower ho0 (keep_size (w := w) (g := g) (row := none) (pK HK.out))); replace HK := aK (KeepBut.trans (pK HK.out) hk (.inl rfl)); replace HB := aK (hb); replace HI0 := aK (hi); (try clear hb); (try clear hk); (try clear hi); (try clear ho0)) | ((with_reducible refine ga 3 rfl ?_); refine bxe (cs := #[.int .i64 0, .int .i64 0, .slice none 0 0]) (t := 29) ?_; intro g109 hg w64 hbox hb; replace HO106 := rb HO106 hb; have n1_ := aK (IsS44.below (pI44 HI0.out) hb); have n3_ := aK (KeepBut.trans (pK HK.out) (KeepBut.of_below hb g none) (.inl rfl)); replace HB := aK (below_step ((pV HB.out (IsS44.ge HI0.out))) hb); have B109 := aK (hbox); have GW109 := aK ((by rw [hg]; exact (keep_size (w := w) (g := g) (row := none) (pK HK.out)) : w.heap.size ≤ g109)); have GE109 := aK ((Nat.le_trans HW0.out (by rw [hg]; exact (keep_size (w := w) (g := g) (row := none) (pK HK.out)) : w.heap.size ≤ g109) : w0.heap.size ≤ g109)); obtain ⟨N101_109, N109_101⟩ := na hg B101; have N0_109 := aK ((by rw [hg]; exact Nat.ne_of_lt (IsS44.lt (show IsS44 w0 _ g s0_0 t107 t108 from pI44 HI0.out)) : g ≠ g109)); have N109_0 := aK ((by rw [hg]; exact Nat.ne_of_gt (IsS44.lt (show IsS44 w0 _ g s0_0 t107 t108 from pI44 HI0.out)) : g109 ≠ g)); replace B101 := bB B101 hb; clear HI0 HK; have HI0 := n1_; have HK := n3_; clear n1_ n3_ hb hbox hg; obtain ⟨_, _⟩ := nB N109_101; obtain ⟨_, _⟩ := nB N109_0; obtain ⟨_, _, _, _, _, _⟩ := bc3 B109.out; obtain ⟨Ao68, co68, eo68⟩ := Kd.R_slice HO106.out; subst eo68) | ((with_reducible refine gc 39 rfl ?_); refine gl (some 7) Try.func39 #[.pointer (some ⟨g, 0, none⟩), .int .i64 24] ?_; (with_reducible refine (spec_l1Cur_pick.calls g s0_0 t107 t108 24 t110 t111 t112 w0 _ ?side1 ?side2 A3.out).mono ?_); (case side1 => exact pI44 HI0.out); (case side2 => exact pV HB.out (IsS44.ge HI0.out)); rintro e w69 ⟨rfl, hi, hb, hk⟩; refine ⟨_, rfl, ?_⟩; replace B101 := aK (KeepBut.blk hk (g' := g101) (o := .cells #[.int .i64 0, .int .i64 0, .slice none 0 0] 29 (0, 0)) (by refine bg N101_109 ?_; refine bg N101_109 ?_; refine bg N101_109 ?_; refine bk ?_; exact B101.out) N101_0.out (by simp)); replace HO106 := aK (Kd.R_mono (Kd.R_keep (IsS44.apart (show IsS44 w0 _ g s0_0 t107 t108 from pI44 HI0.out) (pR (rF3 HO106.out B109.out (.int .i64 t102) (.int .i64 t103) (.slice Ao68 t104.length co68))) (by decide)) hk (fun _ h => h.2)) (fun _ h => h.1)); replace B109 := aK (KeepBut.blk hk (g' := g109) (o := .cells #[.int .i64 t102, .int .i64 t103, .slice Ao68 t104.length co68] 29 (0, 0)) (by refine bq #[.int .i64 t102, .int .i64 t103, .slice none 0 0] 2 ?_; refine bq #[.int .i64 t102, .int .i64 0, .slice none 0 0] 1 ?_; refine bq #[.int .i64 0, .int .i64 0, .slice none 0 0] 0 ?_; refine bk ?_; exact B109.out) N109_0.out (by simp)); replace HK := aK (KeepBut.trans (pK HK.out) hk (.inl rfl)); replace HB := aK (hb); replace HI0 := aK (hi); (try clear hb); (try clear hk); (try clear hi); obtain ⟨_, _, _, _, _, _⟩ := bc3 B109.out; obtain ⟨_, _⟩ := nB N101_0; obtain ⟨_, _, _, _, _, _⟩ := bc3 B101.out))
   refine bodyPost_ret (results_cell_row rfl _ _ g101 29 #[.int .i64 t102, .int .i64 t103, .slice Ao68 t104.length co68] (0, 0) _ rfl (by refine bq #[.int .i64 t102, .int .i64 t103, .slice none 0 0] 2 ?_; refine bq #[.int .i64 t102, .int .i64 0, .slice none 0 0] 1 ?_; refine bq #[.int .i64 0, .int .i64 0, .slice none 0 0] 0 ?_; refine bk ?_; exact B101.out) Try.underlying29 rfl (by kernel_rfl)) rfl ?_
   exact ⟨_, er, Kd.Q_of_R (pR (Kd.R_mono (rF3 HO106.out B101.out (.int .i64 t102) (.int .i64 t103) (.slice Ao68 t104.length co68)) (fun _ h => trivial))), pI44 HI0.out, (pV HB.out (IsS44.ge HI0.out)), pK HK.out⟩
  rw [if_pos c48] at H
  have c48b0 : (t110 == 2) = true := beq_iff_eq.mpr c48
  have c48b1 : (t110 != 2) = false := bne_eq_false_iff_eq.mpr c48
  clear c48
  by_cases c49 : 1 ≤ (t104.length : Int)
  rotate_left
  ·
   rw [if_neg c49] at H
   exact absurd H (by simp)
  rw [if_pos c49] at H; have c49b0 := eq_true c49
  have c49b1 : decide (1 ≤ (t104.length : Int)) = true := decide_eq_true c49
  clear c49
  obtain ⟨y129, hy129⟩ : ∃ y_ : List Int, y_ = (t104.drop (1 : Int).toNat) := ⟨_, rfl⟩
  replace H : (some (t102, t103, y129, t111, t112)) = some (r1, r2, r3, r4, r5) := by first | (rw [hy129]; first | with_reducible exact H | with_reducible exact (oS H :)) | with_reducible exact (oS H :) | with_reducible exact H | exact H
  have Ny129 := aK hy129; clear hy129
  simp only [Option.some.injEq, Prod.mk.injEq] at H
  obtain ⟨rfl, rfl, rfl, rfl, rfl⟩ := H
  go_enter Try.func45, Try.ntmps45
  go_wp2_with (first | ((with_reducible refine ga 2 rfl ?_); refine bxa #[.int .i64 0, .int .i64 0, .slice none 0 0] 29 ?_; intro g101 hg w50 B101 hb; have n0_ := aK (IsS44.below (pI44 HI0.out) hb); have n1_ := aK (KeepBut.trans (pK HK.out) (KeepBut.of_below hb g none) (.inl rfl)); replace HB := aK (below_step ((pV HB.out (IsS44.ge HI0.out))) hb); have GW101 := aK ((by rw [hg]; exact (keep_size (w := w) (g := g) (row := none) (pK HK.out)) : w.heap.size ≤ g101)); have GE101 := aK ((Nat.le_trans HW0.out (by rw [hg]; exact (keep_size (w := w) (g := g) (row := none) (pK HK.out)) : w.heap.size ≤ g101) : w0.heap.size ≤ g101)); have N0_101 := aK ((by rw [hg]; exact Nat.ne_of_lt (IsS44.lt (show IsS44 w0 _ g s0_0 s0_1 s0_2 from pI44 HI0.out)) : g ≠ g101)); have N101_0 := aK ((by rw [hg]; exact Nat.ne_of_gt (IsS44.lt (show IsS44 w0 _ g s0_0 s0_1 s0_2 from pI44 HI0.out)) : g101 ≠ g)); clear HI0 HK; have HI0 := n0_; have HK := n1_; clear n0_ n1_; clear hb hg) | ((with_reducible refine gc 58 rfl ?_); refine gl (some 5) Try.func58 #[.pointer (some ⟨g, 0, none⟩)] ?_; (with_reducible refine (spec_l1Cur_field.calls k g s0_0 s0_1 s0_2 t102 t103 t104 t107 t108 w0 _ ?side1 ?side2 A2.out).mono ?_); (case side1 => exact pI44 HI0.out); (case side2 => exact pV HB.out (IsS44.ge HI0.out)); rintro e w51 ⟨v105, rfl, ho0, hi, hb, hk⟩; refine ⟨_, rfl, ?_⟩; replace B101 := kB hk B101 N101_0; have HO106 := aK (Kd.R_lower ho0 (keep_size (w := w) (g := g) (row := none) (pK HK.out))); replace HK := aK (KeepBut.trans (pK HK.out) hk (.inl rfl)); replace HB := aK (hb); replace HI0 := aK (hi); (try clear hb); (try clear hk); (try clear hi); (try clear ho0)) | ((with_reducible refine ga 3 rfl ?_); refine bxe (cs := #[.int .i64 0, .int .i64 0, .slice none 0 0]) (t := 29) ?_; intro g109 hg w52 hbox hb; replace HO106 := rb HO106 hb; have n1_ := aK (IsS44.below (pI44 HI0.out) hb); have n3_ := aK (KeepBut.trans (pK HK.out) (KeepBut.of_below hb g none) (.inl rfl)); replace HB := aK (below_step ((pV HB.out (IsS44.ge HI0.out))) hb); have B109 := aK (hbox); have GW109 := aK ((by rw [hg]; exact (keep_size (w := w) (g := g) (row := none) (pK HK.out)) : w.heap.size ≤ g109)); have GE109 := aK ((Nat.le_trans HW0.out (by rw [hg]; exact (keep_size (w := w) (g := g) (row := none) (pK HK.out)) : w.heap.size ≤ g109) : w0.heap.size ≤ g109)); obtain ⟨N101_109, N109_101⟩ := na hg B101; have N0_109 := aK ((by rw [hg]; exact Nat.ne_of_lt (IsS44.lt (show IsS44 w0 _ g s0_0 t107 t108 from pI44 HI0.out)) : g ≠ g109)); have N109_0 := aK ((by rw [hg]; exact Nat.ne_of_gt (IsS44.lt (show IsS44 w0 _ g s0_0 t107 t108 from pI44 HI0.out)) : g109 ≠ g)); replace B101 := bB B101 hb; clear HI0 HK; have HI0 := n1_; have HK := n3_; clear n1_ n3_ hb hbox hg; obtain ⟨_, _⟩ := nB N109_101; obtain ⟨_, _⟩ := nB N109_0; obtain ⟨_, _, _, _, _, _⟩ := bc3 B109.out; obtain ⟨Ao56, co56, eo56⟩ := Kd.R_slice HO106.out; subst eo56) | ((with_reducible refine gc 39 rfl ?_); refine gl (some 7) Try.func39 #[.pointer (some ⟨g, 0, none⟩), .int .i64 24] ?_; (with_reducible refine (spec_l1Cur_pick.calls g s0_0 t107 t108 24 t110 t111 t112 w0 _ ?side1 ?side2 A3.out).mono ?_); (case side1 => exact pI44 HI0.out); (case side2 => exact pV HB.out (IsS44.ge HI0.out)); rintro e w57 ⟨rfl, hi, hb, hk⟩; refine ⟨_, rfl, ?_⟩; replace B101 := aK (KeepBut.blk hk (g' := g101) (o := .cells #[.int .i64 0, .int .i64 0, .slice none 0 0] 29 (0, 0)) (by refine bg N101_109 ?_; refine bg N101_109 ?_; refine bg N101_109 ?_; refine bk ?_; exact B101.out) N101_0.out (by simp)); replace HO106 := aK (Kd.R_mono (Kd.R_keep (IsS44.apart (show IsS44 w0 _ g s0_0 t107 t108 from pI44 HI0.out) (pR (rF3 HO106.out B109.out (.int .i64 t102) (.int .i64 t103) (.slice Ao56 t104.length co56))) (by decide)) hk (fun _ h => h.2)) (fun _ h => h.1)); replace B109 := aK (KeepBut.blk hk (g' := g109) (o := .cells #[.int .i64 t102, .int .i64 t103, .slice Ao56 t104.length co56] 29 (0, 0)) (by refine bq #[.int .i64 t102, .int .i64 t103, .slice none 0 0] 2 ?_; refine bq #[.int .i64 t102, .int .i64 0, .slice none 0 0] 1 ?_; refine bq #[.int .i64 0, .int .i64 0, .slice none 0 0] 0 ?_; refine bk ?_; exact B109.out) N109_0.out (by simp)); replace HK := aK (KeepBut.trans (pK HK.out) hk (.inl rfl)); replace HB := aK (hb); replace HI0 := aK (hi); (try clear hb); (try clear hk); (try clear hi); obtain ⟨_, _, _, _, _, _⟩ := bc3 B109.out; have q59 : (1 : Int) ≤ ((t104.length : Int) : Int) := dA; obtain ⟨i059, hi059, _, hsz59, _⟩ := info_parts info3; have hcut59 := cut_from (P := Try.prog) 27 3 .i64 Try.underlying27 hi059 1 hsz59 Ao56 t104.length co56 1 (by omega) q59; have hr59 := Kd.Q_drop (k := (1 : Int).toNat) (Kd.Q_of_R HO106.out) (by omega); obtain ⟨A59, hA59⟩ : ∃ A1, A1 = (if co56 = (1 : Int).toNat then Ao56 else (Ao56 : Option Addr).map (·.add ((1 : Int).toNat * 1))) := ⟨_, rfl⟩; obtain ⟨c59, hc59⟩ : ∃ c1, c1 = co56 - (1 : Int).toNat := ⟨_, rfl⟩; have hy59 : y129.length = t104.length - (1 : Int).toNat := (by rw [Ny129.out, List.length_drop]); rw [← Ny129.out] at hr59; rw [← hy59, ← hA59, ← hc59] at hcut59; replace hr59 : Kd.Q (Kd.int .i64) 3 w57 w.heap.size (fun _ => True) (.slice A59 y129.length c59) y129 := (by rw [hA59, hc59, hy59]; exact hr59); have HE59 : Aside0 ((Value.slice A59 y129.length c59).ownBlock = (.slice Ao56 t104.length co56 : Value).ownBlock) := ⟨by rw [hA59]; split <;> (cases (Ao56 : Option Addr) <;> rfl)⟩; clear hy59 hi059 hsz59 HO106 hA59 hc59; have HO131 := aK hr59; clear hr59; replace q59 := eq_true q59; obtain ⟨_, _⟩ := nB N101_0; obtain ⟨_, _, _, _, _, _⟩ := bc3 B101.out))
  refine bodyPost_ret (results_cell_row rfl _ _ g101 29 #[.int .i64 t102, .int .i64 t103, .slice A59 y129.length c59] (0, 0) _ rfl (by refine bq #[.int .i64 t102, .int .i64 t103, .slice none 0 0] 2 ?_; refine bq #[.int .i64 t102, .int .i64 0, .slice none 0 0] 1 ?_; refine bq #[.int .i64 0, .int .i64 0, .slice none 0 0] 0 ?_; refine bg N101_109 ?_; refine bk ?_; exact B101.out) Try.underlying29 rfl (by kernel_rfl)) rfl ?_
  exact ⟨_, er, by (with_reducible repeat (first | apply Kd.Q_alloc | apply Kd.Q_drewN | apply Kd.Q_drew)); exact Kd.Q_mono (Kd.Q_far (p := ⟨g101, 2, none⟩) (Kd.Q_far (p := ⟨g101, 1, none⟩) (Kd.Q_far (p := ⟨g101, 0, none⟩) (Kd.Q_far (p := ⟨g109, 2, none⟩) (Kd.Q_types (Kd.Q_types HO131.out B109.out (by decide)) B101.out (by decide)) (fun _ hk => hk.1.2) (.slice A59 y129.length c59)) (fun _ hk => hk.2) (.int .i64 t102)) (fun _ hk => hk.2) (.int .i64 t103)) (fun _ hk => hk.2) (.slice A59 y129.length c59)) (fun _ hk => trivial), pI44 HI0.out, (pV HB.out (IsS44.ge HI0.out)), pK HK.out⟩
 rw [if_pos c22] at H
 have c22b0 : (t110 == 1) = true := beq_iff_eq.mpr c22
 have c22b1 : (t110 != 1) = false := bne_eq_false_iff_eq.mpr c22
 clear c22
 replace H := oA H
 obtain ⟨⟨t119, t120, t121⟩, A23, H⟩ := H
 replace H : ((spec_l1Cur_among.f s0_0 t120 t121 (([9001, (-9001), (-9998), (-9999)] : List Int))).bind fun bt125 => (if 0 ≤ t119 then (if t119 < (t104.length : Int) then (some (t102, t103, (t104.set (t119 : Int).toNat bt125.1), bt125.2.1, bt125.2.2)) else (none)) else (none))) = some (r1, r2, r3, r4, r5) := H
 obtain ⟨y122, hy122⟩ : ∃ y_ : List Int, y_ = (([9001, (-9001), (-9998), (-9999)] : List Int)) := ⟨_, rfl⟩
 replace H : ((spec_l1Cur_among.f s0_0 t120 t121 y122).bind fun bt125 => (if 0 ≤ t119 then (if t119 < (t104.length : Int) then (some (t102, t103, (t104.set (t119 : Int).toNat bt125.1), bt125.2.1, bt125.2.2)) else (none)) else (none))) = some (r1, r2, r3, r4, r5) := by first | (rw [hy122]; first | with_reducible exact H | with_reducible exact (oS H :)) | with_reducible exact (oS H :) | with_reducible exact H | exact H
 have Ny122 := aK hy122
 clear hy122
 replace H := oA H
 obtain ⟨⟨t125, t126, t127⟩, A24, H⟩ := H
 replace H : (if 0 ≤ t119 then (if t119 < (t104.length : Int) then (some (t102, t103, (t104.set (t119 : Int).toNat t125), t126, t127)) else (none)) else (none)) = some (r1, r2, r3, r4, r5) := H
 by_cases c25 : 0 ≤ t119
 rotate_left
 ·
  rw [if_neg c25] at H
  exact absurd H (by simp)
 rw [if_pos c25] at H
 have c25b0 : decide (0 ≤ t119) = true := decide_eq_true c25
 clear c25
 by_cases c26 : t119 < (t104.length : Int)
 rotate_left
 ·
  rw [if_neg c26] at H
  exact absurd H (by simp)
 rw [if_pos c26] at H
 have c26b0 : decide (t119 < (t104.length : Int)) = true := decide_eq_true c26
 clear c26
 obtain ⟨y128, hy128⟩ : ∃ y_ : List Int, y_ = (t104.set (t119 : Int).toNat t125) := ⟨_, rfl⟩
 replace H : (some (t102, t103, y128, t126, t127)) = some (r1, r2, r3, r4, r5) := by first | (rw [hy128]; first | with_reducible exact H | with_reducible exact (oS H :)) | with_reducible exact (oS H :) | with_reducible exact H | exact H
 have Ny128 := aK hy128
 clear hy128
 simp only [Option.some.injEq, Prod.mk.injEq] at H
 obtain ⟨rfl, rfl, rfl, rfl, rfl⟩ := H
 go_enter Try.func45, Try.ntmps45
 try go_wp2_with (first | ((with_reducible refine ga 2 rfl ?_); refine bxa #[.int .i64 0, .int .i64 0, .slice none 0 0] 29 ?_; intro g101 hg w28 B101 hb; have n0_ := aK (IsS44.below (pI44 HI0.out) hb); have n1_ := aK (KeepBut.trans (pK HK.out) (KeepBut.of_below hb g none) (.inl rfl)); replace HB := aK (below_step ((pV HB.out (IsS44.ge HI0.out))) hb); have GW101 := aK ((by rw [hg]; exact (keep_size (w := w) (g := g) (row := none) (pK HK.out)) : w.heap.size ≤ g101)); have GE101 := aK ((Nat.le_trans HW0.out (by rw [hg]; exact (keep_size (w := w) (g := g) (row := none) (pK HK.out)) : w.heap.size ≤ g101) : w0.heap.size ≤ g101)); have N0_101 := aK ((by rw [hg]; exact Nat.ne_of_lt (IsS44.lt (show IsS44 w0 _ g s0_0 s0_1 s0_2 from pI44 HI0.out)) : g ≠ g101)); have N101_0 := aK ((by rw [hg]; exact Nat.ne_of_gt (IsS44.lt (show IsS44 w0 _ g s0_0 s0_1 s0_2 from pI44 HI0.out)) : g101 ≠ g)); clear HI0 HK; have HI0 := n0_; have HK := n1_; clear n0_ n1_; clear hb hg) | ((with_reducible refine gc 58 rfl ?_); refine gl (some 5) Try.func58 #[.pointer (some ⟨g, 0, none⟩)] ?_; (with_reducible refine (spec_l1Cur_field.calls k g s0_0 s0_1 s0_2 t102 t103 t104 t107 t108 w0 _ ?side1 ?side2 A2.out).mono ?_); (case side1 => exact pI44 HI0.out); (case side2 => exact pV HB.out (IsS44.ge HI0.out)); rintro e w29 ⟨v105, rfl, ho0, hi, hb, hk⟩; refine ⟨_, rfl, ?_⟩; replace B101 := kB hk B101 N101_0; have HO106 := aK (Kd.R_lower ho0 (keep_size (w := w) (g := g) (row := none) (pK HK.out))); replace HK := aK (KeepBut.trans (pK HK.out) hk (.inl rfl)); replace HB := aK (hb); replace HI0 := aK (hi); (try clear hb); (try clear hk); (try clear hi); (try clear ho0)) | ((with_reducible refine ga 3 rfl ?_); refine bxe (cs := #[.int .i64 0, .int .i64 0, .slice none 0 0]) (t := 29) ?_; intro g109 hg w30 hbox hb; replace HO106 := rb HO106 hb; have n1_ := aK (IsS44.below (pI44 HI0.out) hb); have n3_ := aK (KeepBut.trans (pK HK.out) (KeepBut.of_below hb g none) (.inl rfl)); replace HB := aK (below_step ((pV HB.out (IsS44.ge HI0.out))) hb); have B109 := aK (hbox); have GW109 := aK ((by rw [hg]; exact (keep_size (w := w) (g := g) (row := none) (pK HK.out)) : w.heap.size ≤ g109)); have GE109 := aK ((Nat.le_trans HW0.out (by rw [hg]; exact (keep_size (w := w) (g := g) (row := none) (pK HK.out)) : w.heap.size ≤ g109) : w0.heap.size ≤ g109)); obtain ⟨N101_109, N109_101⟩ := na hg B101; have N0_109 := aK ((by rw [hg]; exact Nat.ne_of_lt (IsS44.lt (show IsS44 w0 _ g s0_0 t107 t108 from pI44 HI0.out)) : g ≠ g109)); have N109_0 := aK ((by rw [hg]; exact Nat.ne_of_gt (IsS44.lt (show IsS44 w0 _ g s0_0 t107 t108 from pI44 HI0.out)) : g109 ≠ g)); replace B101 := bB B101 hb; clear HI0 HK; have HI0 := n1_; have HK := n3_; clear n1_ n3_ hb hbox hg; obtain ⟨_, _⟩ := nB N109_101; obtain ⟨_, _⟩ := nB N109_0; obtain ⟨_, _, _, _, _, _⟩ := bc3 B109.out; obtain ⟨Ao34, co34, eo34⟩ := Kd.R_slice HO106.out; subst eo34) | ((with_reducible refine gc 39 rfl ?_); refine gl (some 7) Try.func39 #[.pointer (some ⟨g, 0, none⟩), .int .i64 24] ?_; (with_reducible refine (spec_l1Cur_pick.calls g s0_0 t107 t108 24 t110 t111 t112 w0 _ ?side1 ?side2 A3.out).mono ?_); (case side1 => exact pI44 HI0.out); (case side2 => exact pV HB.out (IsS44.ge HI0.out)); rintro e w35 ⟨rfl, hi, hb, hk⟩; refine ⟨_, rfl, ?_⟩; replace B101 := aK (KeepBut.blk hk (g' := g101) (o := .cells #[.int .i64 0, .int .i64 0, .slice none 0 0] 29 (0, 0)) (by refine bg N101_109 ?_; refine bg N101_109 ?_; refine bg N101_109 ?_; refine bk ?_; exact B101.out) N101_0.out (by simp)); replace HO106 := aK (Kd.R_mono (Kd.R_keep (IsS44.apart (show IsS44 w0 _ g s0_0 t107 t108 from pI44 HI0.out) (pR (rF3 HO106.out B109.out (.int .i64 t102) (.int .i64 t103) (.slice Ao34 t104.length co34))) (by decide)) hk (fun _ h => h.2)) (fun _ h => h.1)); replace B109 := aK (KeepBut.blk hk (g' := g109) (o := .cells #[.int .i64 t102, .int .i64 t103, .slice Ao34 t104.length co34] 29 (0, 0)) (by refine bq #[.int .i64 t102, .int .i64 t103, .slice none 0 0] 2 ?_; refine bq #[.int .i64 t102, .int .i64 0, .slice none 0 0] 1 ?_; refine bq #[.int .i64 0, .int .i64 0, .slice none 0 0] 0 ?_; refine bk ?_; exact B109.out) N109_0.out (by simp)); replace HK := aK (KeepBut.trans (pK HK.out) hk (.inl rfl)); replace HB := aK (hb); replace HI0 := aK (hi); (try clear hb); (try clear hk); (try clear hi)))
 replace HO106 := rdw HO106
 replace B101 := bD B101
 replace B109 := bD B109
 replace HI0 := aK (IsS44.drew HI0.out)
 replace HK := aK (keep_drew HK.out)
 replace HB := aK (below_drew1 HB.out)
 refine start_ (n := 12) (S := fun w' => w'.cell? ⟨g109, 0, none⟩ = some (.int .i64 t102) ∧ w'.cell? ⟨g109, 1, none⟩ = some (.int .i64 t103) ∧ w'.cell? ⟨g109, 2, none⟩ = some (.slice Ao34 t104.length co34)) (ds := [11]) (bz [0, 12]) (by kernel_rfl) rfl rfl (cz3 B109.out) (fun hHeld => ?_); refine with_tabW spec_l1Cur_anyField.tab6 spec_l1Cur_anyField.bits6 (fun HT_ HW_ => ?_)
 generalize w35.drew = w36 at HO106 B101 B109 HI0 HK HB hHeld ⊢
 refine pz 0 18 [1, 11] HT_ ?_
 refine pz 2 20 [1, 1, 1, 9] HT_ ?_
 refine pz 3 21 [1, 1, 2, 8] HT_ ?_
 refine pz 7 25 [1, 1, 2, 3, 1, 4] HT_ ?_
 refine tz 1 19 [4, 3, 1, 4] HT_ HW_ rfl (by rintro w' ⟨s0, s1, s2⟩; go_simp; with_reducible rfl) hHeld ?_
 refine tz 4 22 [5, 2, 1, 4] HT_ HW_ rfl (by rintro w' ⟨s0, s1, s2⟩; go_simp; with_reducible rfl) hHeld ?_
 refine pz 5 23 [6, 1, 1, 4] HT_ ?_
 refine join_ (σ := Value) 3 (bz [9, 3]) (fun s_ => [(24, .int .i64 t119), (26, s_)]) (fun s_ w' => (w'.cell? ⟨g109, 0, none⟩ = some (.int .i64 t102) ∧ w'.cell? ⟨g109, 1, none⟩ = some (.int .i64 t103) ∧ w'.cell? ⟨g109, 2, none⟩ = some (.slice Ao34 t104.length co34)) ∧ (Kd.R (Kd.int .i64) 3 w' w.heap.size (fun k_ => some k_ ≠ (s_ : Value).ownBlock) (.slice Ao34 t104.length co34) t104) ∧ (Kd.R (Kd.int .i64) 3 w' w.heap.size (fun k_ => some k_ ≠ (.slice Ao34 t104.length co34 : Value).ownBlock) s_ y122) ∧ (w'.heap[g101]? = some (.cells #[.int .i64 0, .int .i64 0, .slice none 0 0] 29 (0, 0))) ∧ (w'.heap[g109]? = some (.cells #[.int .i64 t102, .int .i64 t103, .slice Ao34 t104.length co34] 29 (0, 0))) ∧ (IsS44 w0 w' g s0_0 t120 t121) ∧ (KeepBut w w' g none) ∧ (Below w0.heap.size w0 w')) ?_ ?_
 rotate_left
 ·
  intro hCont
  refine two_ (i := 6) (j := 8) (Ni := some 24) (Nj := some 26) (bz [8, 4]) (bz [6, 1, 2, 3]) rfl rfl rfl rfl (two_of HT_.out (by kernel_rfl)) (by decide) (by decide) (fun K hK => ?_) (fun K hK => ?_)
  ·
   skip
   refine gs Try.func39 #[.pointer (some ⟨g, 0, none⟩), .int .i64 (t104.length : Int)] ?_
   with_reducible refine (spec_l1Cur_pick.calls g s0_0 t111 t112 (t104.length : Int) t119 t120 t121 w0 _ ?side1 ?side2 A23.out).mono ?_
   (case side1 => exact pI44 HI0.out)
   (case side2 => exact pV HB.out (IsS44.ge HI0.out))
   rintro e w37 ⟨rfl, hi, hb, hk⟩
   refine ⟨_, rfl, ?_⟩
   replace B101 := kB hk B101 N101_0
   replace HO106 := aK (Kd.R_mono (Kd.R_keep (IsS44.apart (show IsS44 w0 _ g s0_0 t111 t112 from pI44 HI0.out) (pR HO106.out) (by decide)) hk (fun _ h => h.2)) (fun _ h => h.1))
   replace B109 := kB hk B109 N109_0; replace HK := aK (KeepBut.trans (pK HK.out) hk (.inl rfl)); replace HB := aK (hb); replace HI0 := aK (hi)
   (try clear hb)
   (try clear hb2)
   (try clear hk)
   (try clear hi)
   refine hK.out _ _ (cz3 B109.out) (fun hHeld => ?_)
   clear hK K
   refine nm 24 ?_
   refine oz 8 26 [9, 3] HT_ fun K hK => ?_
   refine Kd.R_lit_step (Kd.int .i64) _ 3 ?hg (N := 26) ?hd (xs := ([9001, (-9001), (-9998), (-9999)] : List Int)) (inner := [.int .i64 9001, .int .i64 (-9001), .int .i64 (-9998), .int .i64 (-9999)]) (ok := fun _ => True) (okp := fun _ => True) ?hr ?hp (fun _ hk => hk) trivial (Below.refl _ _) (Nat.le_refl _) (by simp) ?_; (case hd => rfl); (case hg => rfl); (case hr => first | (go_simp; done) | (go_simp; rfl)); (case hp => exact (Reps.one (show Kd.M (Kd.int .i64) _ _ _ 9001 [.int .i64 9001] from rfl) (Reps.one (show Kd.M (Kd.int .i64) _ _ _ (-9001) [.int .i64 (-9001)] from rfl) (Reps.one (show Kd.M (Kd.int .i64) _ _ _ (-9998) [.int .i64 (-9998)] from rfl) (Reps.one (show Kd.M (Kd.int .i64) _ _ _ (-9999) [.int .i64 (-9999)] from rfl) (Reps.none _ _))))))
   intro v123 w38 ho39 hb hg_ hnew_
   clear hg_ hnew_
   (first | rw [← Ny122.out] at ho39 | (simp only [Int.reduceToNat] at ho39; rw [← Ny122.out] at ho39))
   have n0_ := aK (Kd.R_elder' (pR HO106.out) (Kd.R_base ho39) hb); have HO124 := aK (Kd.R_lower (nw1 ho39 (pR HO106.out)) (keep_size (w := w) (g := g) (row := none) (pK HK.out))); have n2_ := aK (IsS44.below (pI44 HI0.out) hb); replace HK := aK (KeepBut.trans (pK HK.out) (KeepBut.of_below hb g none) (.inl rfl)); replace HB := aK (below_step ((pV HB.out (IsS44.ge HI0.out))) hb); replace B101 := bB B101 hb; replace B109 := bB B109 hb; clear HO106 HI0; have HO106 := n0_; have HI0 := n2_; clear n0_ n2_ hb ho39
   refine hK.out _ _ (cz3 B109.out) (fun hHeld => ?_)
   clear hK K
   refine nm 26 ?_
   exact norm_ (by simp only [putAll, Act.put, List.setIfInBounds_toArray, List.set_cons_zero, List.set_cons_succ]) (hCont (v123) _ ⟨hHeld, (pR (Kd.R_mono HO106.out (fun _ hk => hk.2))), (pR (Kd.R_mono HO124.out (fun _ hk => hk.2))), (pB B101.out), (pB B109.out), (pI44 HI0.out), (pK HK.out), ((pV HB.out (IsS44.ge HI0.out)))⟩)
  skip
  refine Kd.R_lit_step (Kd.int .i64) _ 3 ?hg (N := 26) ?hd (xs := ([9001, (-9001), (-9998), (-9999)] : List Int)) (inner := [.int .i64 9001, .int .i64 (-9001), .int .i64 (-9998), .int .i64 (-9999)]) (ok := fun _ => True) (okp := fun _ => True) ?hr ?hp (fun _ hk => hk) trivial (Below.refl _ _) (Nat.le_refl _) (by simp) ?_; (case hd => rfl); (case hg => rfl); (case hr => first | (go_simp; done) | (go_simp; rfl)); (case hp => exact (Reps.one (show Kd.M (Kd.int .i64) _ _ _ 9001 [.int .i64 9001] from rfl) (Reps.one (show Kd.M (Kd.int .i64) _ _ _ (-9001) [.int .i64 (-9001)] from rfl) (Reps.one (show Kd.M (Kd.int .i64) _ _ _ (-9998) [.int .i64 (-9998)] from rfl) (Reps.one (show Kd.M (Kd.int .i64) _ _ _ (-9999) [.int .i64 (-9999)] from rfl) (Reps.none _ _))))))
  intro v123 w37 ho38 hb hg_ hnew_
  clear hg_ hnew_
  (first | rw [← Ny122.out] at ho38 | (simp only [Int.reduceToNat] at ho38; rw [← Ny122.out] at ho38))
  have n0_ := aK (Kd.R_elder' (pR HO106.out) (Kd.R_base ho38) hb); have HO124 := aK (Kd.R_lower (nw1 ho38 (pR HO106.out)) (keep_size (w := w) (g := g) (row := none) (pK HK.out))); have n2_ := aK (IsS44.below (pI44 HI0.out) hb); replace HK := aK (KeepBut.trans (pK HK.out) (KeepBut.of_below hb g none) (.inl rfl)); replace HB := aK (below_step ((pV HB.out (IsS44.ge HI0.out))) hb); replace B101 := bB B101 hb; replace B109 := bB B109 hb; clear HO106 HI0; have HO106 := n0_; have HI0 := n2_; clear n0_ n2_ hb ho38
  refine hK.out _ _ (cz3 B109.out) (fun hHeld => ?_)
  clear hK K
  refine nm 26 ?_
  refine oz 6 24 [9, 3] HT_ fun K hK => ?_
  refine gs Try.func39 #[.pointer (some ⟨g, 0, none⟩), .int .i64 (t104.length : Int)] ?_
  with_reducible refine (spec_l1Cur_pick.calls g s0_0 t111 t112 (t104.length : Int) t119 t120 t121 w0 _ ?side1 ?side2 A23.out).mono ?_
  (case side1 => exact pI44 HI0.out)
  (case side2 => exact pV HB.out (IsS44.ge HI0.out))
  rintro e w39 ⟨rfl, hi, hb, hk⟩
  refine ⟨_, rfl, ?_⟩
  replace B101 := kB hk B101 N101_0
  replace HO106 := aK (Kd.R_mono (Kd.R_keep (IsS44.apart (show IsS44 w0 _ g s0_0 t111 t112 from pI44 HI0.out) (pR HO106.out) (by decide)) hk (fun _ h => h.2)) (fun _ h => h.1))
  replace B109 := kB hk B109 N109_0
  replace HO124 := aK (Kd.R_mono (Kd.R_keep (IsS44.apart (show IsS44 w0 _ g s0_0 t111 t112 from pI44 HI0.out) (pR HO124.out) (by decide)) hk (fun _ h => h.2)) (fun _ h => h.1))
  replace HK := aK (KeepBut.trans (pK HK.out) hk (.inl rfl)); replace HB := aK (hb); replace HI0 := aK (hi)
  (try clear hb)
  (try clear hb2)
  (try clear hk)
  (try clear hi)
  refine hK.out _ _ (cz3 B109.out) (fun hHeld => ?_)
  clear hK K
  refine nm 24 ?_
  exact norm_ (by simp only [putAll, Act.put, List.setIfInBounds_toArray, List.set_cons_zero, List.set_cons_succ]) (hCont (v123) _ ⟨hHeld, (pR (Kd.R_mono HO106.out (fun _ hk => hk.2))), (pR (Kd.R_mono HO124.out (fun _ hk => hk.2))), (pB B101.out), (pB B109.out), (pI44 HI0.out), (pK HK.out), ((pV HB.out (IsS44.ge HI0.out)))⟩)
 rintro v123 w40 ⟨hS_, h0_, h1_, h2_, h3_, h4_, h5_, h6_⟩
 replace HO106 : Aside0 (Kd.R (Kd.int .i64) 3 w40 w.heap.size (fun k_ => some k_ ≠ (v123 : Value).ownBlock) (.slice Ao34 t104.length co34) t104) := ⟨h0_⟩
 have n1_ : Aside0 (Kd.R (Kd.int .i64) 3 w40 w.heap.size (fun k_ => some k_ ≠ (.slice Ao34 t104.length co34 : Value).ownBlock) v123 y122) := ⟨h1_⟩
 replace B101 : Aside0 (w40.heap[g101]? = some (.cells #[.int .i64 0, .int .i64 0, .slice none 0 0] 29 (0, 0))) := ⟨h2_⟩
 replace B109 : Aside0 (w40.heap[g109]? = some (.cells #[.int .i64 t102, .int .i64 t103, .slice Ao34 t104.length co34] 29 (0, 0))) := ⟨h3_⟩
 replace HI0 : Aside0 (IsS44 w0 w40 g s0_0 t120 t121) := ⟨h4_⟩
 replace HK : Aside0 (KeepBut w w40 g none) := ⟨h5_⟩
 replace HB : Aside0 (Below w0.heap.size w0 w40) := ⟨h6_⟩
 clear h0_ h1_ h2_ h3_ h4_ h5_ h6_
 have HO124 := n1_
 clear n1_
 have hHeld : w40.cell? ⟨g109, 0, none⟩ = some (.int .i64 t102) ∧ w40.cell? ⟨g109, 1, none⟩ = some (.int .i64 t103) ∧ w40.cell? ⟨g109, 2, none⟩ = some (.slice Ao34 t104.length co34) := hS_
 obtain ⟨Ao41, co41, eo41⟩ := Kd.R_slice HO124.out
 (first | subst eo41 | (obtain ⟨f4_, f5_⟩ := sI eo41; subst f4_; subst f5_))
 refine norm_ (a' := ?_) ?_ ?_
 rotate_left
 ·
  simp only [putAll, Act.put, List.setIfInBounds_toArray, List.set_cons_zero, List.set_cons_succ]
  rfl
 refine oz 9 27 [10, 2] HT_ fun K hK => ?_
 refine gs Try.func38 #[.pointer (some ⟨g, 0, none⟩), .slice Ao41 y122.length co41] ?_
 with_reducible refine (spec_l1Cur_among.calls g s0_0 t120 t121 _ _ y122 t125 t126 t127 w0 _ ?side1 ?side2 ?side3 ?side4 ?side5 A24.out).mono ?_
 (case side1 => exact pI44 HI0.out)
 (case side2 => exact pV HB.out (IsS44.ge HI0.out))
 (case side3 => exact pC (Kd.R_reads' HO124.out).2.2)
 (case side4 => exact (Kd.R_reads' HO124.out).2.1)
 (case side5 => exact far_slice (IsS44.own_ne HI0.out HO124.out (by decide)))
 rintro e w42 ⟨rfl, hi, hb, hk⟩
 refine ⟨_, rfl, ?_⟩
 replace B101 := kB hk B101 N101_0
 replace HO106 := aK (Kd.R_mono (Kd.R_keep (IsS44.apart (show IsS44 w0 _ g s0_0 t120 t121 from pI44 HI0.out) (pR HO106.out) (by decide)) hk (fun _ h => h.2)) (fun _ h => h.1))
 replace B109 := kB hk B109 N109_0
 replace HO124 := aK (Kd.R_mono (Kd.R_keep (IsS44.apart (show IsS44 w0 _ g s0_0 t120 t121 from pI44 HI0.out) (pR HO124.out) (by decide)) hk (fun _ h => h.2)) (fun _ h => h.1))
 replace HK := aK (KeepBut.trans (pK HK.out) hk (.inl rfl))
 replace HB := aK (hb)
 replace HI0 := aK (hi)
 (try clear hb)
 (try clear hb2)
 (try clear hk)
 (try clear hi)
 have p27 : 0 ≤ (t119 : Int) := dA
 have q27 : (t119 : Int) < ((t104.length : Int) : Int) := dA
 obtain ⟨go27, co27, eo27, g27, gl27, cl27, HG27⟩ := Kd.R_form HO106.out (by omega)
 (first | cases eo27 | (injection eo27 with ea_ en_ ec_; (first | subst ea_ | (injection ea_ with ea_; subst ea_)); subst ec_; clear en_))
 have GB27 := aK g27
 have GG27 := aK HG27
 clear g27 gl27 HG27
 obtain ⟨hx27_0, hf27_0⟩ := Kd.R_celln 0 HO106.out (t119 : Int) p27 q27
 replace p27 := eq_true p27
 replace q27 := eq_true q27
 have HN0_go27 := aK (show g ≠ go27 from by have h_ := IsS44.own_ne HI0.out HO106.out (by decide); intro e_; exact h_ (by rw [e_]; rfl))
 have HP43 := Kd.R_putn HO106.out (t119 : Int) t125
 rw [← Ny128.out] at HP43
 have HQ43 := aK HP43
 clear HP43
 refine hK.out _ _ (cz3 B109.out) (fun hHeld => ?_)
 clear hK K
 refine nm 27 ?_
 refine pz 10 28 [11, 1] HT_ ?_
 refine last_ (i := 11) (N := none) (bz [12, 0]) rfl rfl (one_of HT_.out (by kernel_rfl)) (by decide) (fun K hK => ?_)
 refine skip_ (w1 := ?_) (by rfl) rfl ?_ ?_
 rotate_left
 ·
  go_simp
  rfl
 refine hK.out _ _ ?_
 clear hK K
 refine done_ (done_of HT_.out (by kernel_rfl)) ?_
 obtain ⟨w44, e_⟩ : ∃ w_, w_ = w42.setCell ⟨go27, (t119 : Int).toNat, none⟩ (.int .i64 t125) := ⟨_, rfl⟩
 have n0_ : Aside0 (Kd.R (Kd.int .i64) 3 w44 w.heap.size (fun k_ => some k_ ≠ (.slice Ao41 y122.length co41 : Value).ownBlock) (.slice (some ⟨go27, 0, none⟩) t104.length co34) y128) := ⟨by rw [e_]; exact pR HQ43.out⟩
 have n1_ : Aside0 (Kd.R (Kd.int .i64) 3 w44 w.heap.size (fun k_ => some k_ ≠ (.slice (some ⟨go27, 0, none⟩) t104.length co34 : Value).ownBlock) (.slice Ao41 y122.length co41) y122) := ⟨by rw [e_]; (with_reducible repeat (first | apply Kd.R_alloc | apply Kd.R_drewN | apply Kd.R_drew)); exact Kd.R_mono (Kd.R_far (p := ⟨go27, (t119 : Int).toNat, none⟩) (Kd.R_mono HO124.out (fun k_ hk => (⟨hk, fun e_ => hk (by rw [e_]; rfl)⟩ : _ ∧ k_ ≠ go27))) (fun _ hk => hk.2) (.int .i64 t125)) (fun _ hk => hk.1)⟩
 have n2_ : Aside0 (w44.heap[g101]? = some (.cells #[.int .i64 0, .int .i64 0, .slice none 0 0] 29 (0, 0))) := ⟨by rw [e_]; refine bk ?_; refine blk_far ?_ (by have h_ := Kd.R_ne HO106.out B101.out (by decide); intro e_; exact h_ (by rw [e_]; rfl)) _; refine bk ?_; exact B101.out⟩
 have n3_ : Aside0 (w44.heap[g109]? = some (.cells #[.int .i64 t102, .int .i64 t103, .slice (some ⟨go27, 0, none⟩) t104.length co34] 29 (0, 0))) := ⟨by rw [e_]; refine bk ?_; refine blk_far ?_ (by have h_ := Kd.R_ne HO106.out B109.out (by decide); intro e_; exact h_ (by rw [e_]; rfl)) _; refine bk ?_; exact B109.out⟩
 have n4_ : Aside0 (IsS44 w0 w44 g s0_0 t126 t127) := ⟨by rw [e_]; repeat (first | (with_reducible first | exact HI0.out | apply IsS44.alloc | apply IsS44.drewN | apply IsS44.drew | apply IsS44.set_1 | apply IsS44.set_2 | refine IsS44.far ?_ HN0_go27.out _ | refine IsS44.far ?_ N0_101.out _ | refine IsS44.far ?_ N0_109.out _) | exact HI0.out)⟩
 have n5_ : Aside0 (KeepBut w w44 g none) := ⟨by rw [e_]; repeat (first | (with_reducible first | exact HK.out | apply KeepBut.set_ | apply keep_drewN | apply keep_drew | apply keep_alloc | refine keep_far ?_ GB27.out _ | refine keep_far ?_ GW101.out _ | refine keep_far ?_ GW109.out _) | exact HK.out)⟩
 have n6_ : Aside0 (Below w0.heap.size w0 w44) := ⟨by rw [e_]; repeat (first | (with_reducible first | exact HB.out | apply below_alloc | apply pw_below_drewN | apply below_drew1 | refine below_set ?_ (Nat.le_trans HL.out GB27.out) | refine below_set ?_ (IsS44.ge HI0.out) | refine below_set ?_ GE101.out | refine below_set ?_ GE109.out) | exact HB.out)⟩
 (try clear HO106)
 (try clear HO124)
 (try clear B101)
 (try clear B109)
 (try clear HI0)
 (try clear HK)
 (try clear HB)
 (try rw [← e_]); clear e_
 have HO106 := n0_
 have HO124 := n1_
 have B101 := n2_
 have B109 := n3_
 have HI0 := n4_
 have HK := n5_
 have HB := n6_
 clear n0_ n1_ n2_ n3_ n4_ n5_ n6_
 obtain ⟨_, _, _, _, _, _⟩ := bc3 B109.out
 obtain ⟨_, _⟩ := nB N101_0
 obtain ⟨_, _, _, _, _, _⟩ := bc3 B101.out
 try go_wp2
 refine bodyPost_ret (results_cell_row rfl _ _ g101 29 #[.int .i64 t102, .int .i64 t103, .slice (some ⟨go27, 0, none⟩) t104.length co34] (0, 0) _ rfl (by refine bq #[.int .i64 t102, .int .i64 t103, .slice none 0 0] 2 ?_; refine bq #[.int .i64 t102, .int .i64 0, .slice none 0 0] 1 ?_; refine bq #[.int .i64 0, .int .i64 0, .slice none 0 0] 0 ?_; refine bk ?_; exact B101.out) Try.underlying29 rfl (by kernel_rfl)) rfl ?_
 exact ⟨_, er, Kd.Q_of_R (pR (Kd.R_mono (rF3 HO106.out B101.out (.int .i64 t102) (.int .i64 t103) (.slice (some ⟨go27, 0, none⟩) t104.length co34)) (fun _ h => trivial))), pI44 HI0.out, (pV HB.out (IsS44.ge HI0.out)), pK HK.out⟩
end Go.Proofs.Ytpggcolcabmdeaa.P
