/- Texts of the claim FnTallies, merged: part 5 of 11: the program's and the reference's functions as Lean functions, the walks that show it, and plain lemmas; no conditions. -/
import Derived.Test.YtjicgmcogadleaaKFnTallies3
import Derived.Test.YtjicgmcogadleaaKFnTallies4
import Derived.Lib.SliceRun
namespace Go.Proofs.Ytjicgmcogadleaa.P
open Go.RowKit Go.Proofs.YtjicgmcogadleaaW.PrintWords Go.Proofs.YtjicgmcogadleaaW.PrintLast Go.Proofs.YtjicgmcogadleaaW.PrintMore
attribute [local go_sem] max2_int min2_int max_two min_two max_three min_three max_four min_four
set_option linter.unusedVariables false
set_option linter.unusedSimpArgs false
set_option maxHeartbeats 8000000
set_option maxRecDepth 100000
def spec_DrawAddTallies.f (k : Nat) (l0 : List Int) : Option (List Int × List Int × List Int × List Int) := (spec_l1Cur_tally.f k l0 0 0).bind fun bt104 => ((spec_l1Cur_tally.f k l0 bt104.2.2.1 bt104.2.2.2).bind fun bt112 => (some (bt104.1, bt104.2.1, bt112.1, bt112.2.1)))
theorem spec_DrawAddTallies.calls (k : Nat) (A0 : Option Addr) (c0 : Nat) (l0 : List Int) (r1 : List Int) (r2 : List Int) (r3 : List Int) (r4 : List Int) (w : World) (hr0 : Kd.C (Kd.int .u8) w A0 l0.length l0) (hc0 : l0.length ≤ c0) (h : spec_DrawAddTallies.f k l0 = some (r1, r2, r3, r4)) :
  Calls Try.prog 13 #[.slice A0 l0.length c0] w fun e w' => ∃ v0_ v1_ v2_ v3_ : Value, e = .returned (.tuple #[.agg #[v0_, v1_], .agg #[v2_, v3_]]) ∧ Kd.R (Kd.int .i64) 3 w' w.heap.size (fun k_ => some k_ ≠ (v1_ : Value).ownBlock ∧ some k_ ≠ (v2_ : Value).ownBlock ∧ some k_ ≠ (v3_ : Value).ownBlock) v0_ r1 ∧ Kd.Q (Kd.int .i64) 3 w' w.heap.size (fun k_ => some k_ ≠ (v0_ : Value).ownBlock ∧ some k_ ≠ (v2_ : Value).ownBlock ∧ some k_ ≠ (v3_ : Value).ownBlock) v1_ r2 ∧ Kd.R (Kd.int .i64) 3 w' w.heap.size (fun k_ => some k_ ≠ (v0_ : Value).ownBlock ∧ some k_ ≠ (v1_ : Value).ownBlock ∧ some k_ ≠ (v3_ : Value).ownBlock) v2_ r3 ∧ Kd.Q (Kd.int .i64) 3 w' w.heap.size (fun k_ => some k_ ≠ (v0_ : Value).ownBlock ∧ some k_ ≠ (v1_ : Value).ownBlock ∧ some k_ ≠ (v2_ : Value).ownBlock) v3_ r4 ∧ Below w.heap.size w w' := by
 have hu26 := Try.underlying26
 have hu65 := Try.underlying65
 have HR0 := Aside0.mk hr0
 have HC0 := Aside0.mk hc0
 clear hr0 hc0
 have HB := aK (Below.refl w.heap.size w)
 have H : ((spec_l1Cur_tally.f k l0 0 0).bind fun bt104 => ((spec_l1Cur_tally.f k l0 bt104.2.2.1 bt104.2.2.2).bind fun bt112 => (some (bt104.1, bt104.2.1, bt112.1, bt112.2.1)))) = some (r1, r2, r3, r4) := h
 clear h
 replace H := Option.bind_eq_some_iff.mp H
 obtain ⟨⟨t104, t107, t110, t111⟩, A20, H⟩ := H
 replace H : ((spec_l1Cur_tally.f k l0 t110 t111).bind fun bt112 => (some (t104, t107, bt112.1, bt112.2.1))) = some (r1, r2, r3, r4) := H
 have A2 := Aside0.mk A20
 clear A20
 replace H := Option.bind_eq_some_iff.mp H
 obtain ⟨⟨t112, t115, t118, t119⟩, A30, H⟩ := H
 replace H : (some (t104, t107, t112, t115)) = some (r1, r2, r3, r4) := H
 have A3 := Aside0.mk A30
 clear A30
 simp only [Option.some.injEq, Prod.mk.injEq] at H
 obtain ⟨rfl, rfl, rfl, rfl⟩ := H
 go_enter Try.func13, Try.ntmps13
 go_wp2_with (first | ((with_reducible refine gate_dst (N := 2) rfl ?_); refine bxe (cs := #[.slice none 0 0, .slice none 0 0]) (t := 26) ?_; intro gb101 hg w4 hbox hb; have BK101 := aK (hbox); have GW101 := aK (gE hg (pS HB.out)); have GE101 := GW101; replace HB := bS HB hb; clear hb hbox hg) | ((with_reducible refine gate_dst (N := 3) rfl ?_); refine bxe (cs := #[.slice none 0 0, .slice none 0 0]) (t := 26) ?_; intro gb102 hg w5 hbox hb; have BK102 := aK (hbox); have GW102 := aK (gE hg (pS HB.out)); have GE102 := GW102; obtain ⟨NB101_102, NB102_101⟩ := nb hg (pB BK101.out); replace BK101 := bB BK101 hb; replace HB := bS HB hb; clear hb hbox hg) | ((with_reducible refine gate_dst (N := 7) rfl ?_); refine bxe (cs := #[.slice A0 l0.length c0, .int .i64 0, .int .u64 0]) (t := 65) ?_; intro gb103 hg w6 hbox hb; have HI103 := aK ((⟨_, _, hbox, (by rw [hg]; exact (below_size (pS HB.out)) : w.heap.size ≤ gb103), HR0.out⟩ : IsS65 w w6 gb103 l0 0 0)); obtain ⟨NB101_103, NB103_101⟩ := nb hg (pB BK101.out); obtain ⟨NB102_103, NB103_102⟩ := nb hg (pB BK102.out); replace BK101 := bB BK101 hb; replace BK102 := bB BK102 hb; replace HB := bS HB hb; clear hb hbox hg) | ((with_reducible refine gate_callee (f := 38) rfl ?_); refine gl (some 9) Try.func38 #[.pointer (some ⟨gb103, 0, none⟩)] ?_; (with_reducible refine (spec_l1Cur_tally.calls k gb103 l0 0 0 t104 t107 t110 t111 w _ ?side1 ?side2 A2.out).mono ?_); (case side1 => exact pI65 HI103.out); (case side2 => exact pV HB.out (IsS65.ge HI103.out)); rintro e w7 ⟨v105, v108, rfl, ho0, ho1, hi, hb, hk⟩; refine ⟨_, rfl, ?_⟩; have n0_ := aK (KeepBut.blk hk (pB BK101.out) NB101_103.out (by simp)); have n1_ := aK (KeepBut.blk hk (pB BK102.out) NB102_103.out (by simp)); have HO106 := aK (Kd.R_lower ho0 (below_size ((pV HB.out (IsS65.ge HI103.out))))); have HO109 := aK (Kd.Q_lower ho1 (below_size ((pV HB.out (IsS65.ge HI103.out))))); have n4_ := aK (hb); have n5_ := aK (hi); clear BK101 BK102 HB HI103; have BK101 := n0_; have BK102 := n1_; have HB := n4_; have HI103 := n5_; clear n0_ n1_ n4_ n5_; (try clear hb); (try clear hb2); (try clear hk); (try clear hi); (try clear ho0); (try clear ho1)) | ((with_reducible refine gate_callee (f := 38) rfl ?_); refine gl (some 11) Try.func38 #[.pointer (some ⟨gb103, 0, none⟩)] ?_; (with_reducible refine (spec_l1Cur_tally.calls k gb103 l0 t110 t111 t112 t115 t118 t119 w _ ?side1 ?side2 A3.out).mono ?_); (case side1 => exact pI65 HI103.out); (case side2 => exact pV HB.out (IsS65.ge HI103.out)); rintro e w8 ⟨v113, v116, rfl, ho0, ho1, hi, hb, hk⟩; refine ⟨_, rfl, ?_⟩; have n0_ := aK (KeepBut.blk hk (pB BK101.out) NB101_103.out (by simp)); have n1_ := aK (KeepBut.blk hk (pB BK102.out) NB102_103.out (by simp)); have n2_ := aK (Kd.R_mono (Kd.R_told (Kd.R_told (Kd.R_oldK (IsS65.apart (show IsS65 w _ gb103 l0 t110 t111 from pI65 HI103.out) (pR HO106.out) (by decide)) hk) (Kd.R_base ho0)) (Kd.Q_base ho1)) (fun _ h_ => h_.1)); have n3_ := aK (Kd.Q_mono (Kd.Q_told (Kd.Q_told (Kd.Q_oldK (IsS65.apartQ (show IsS65 w _ gb103 l0 t110 t111 from pI65 HI103.out) (pQ HO109.out) (by decide)) hk) (Kd.R_base ho0)) (Kd.Q_base ho1)) (fun _ h_ => h_.1)); have HO114 := aK (Kd.R_lower (Kd.R_new' (nw1 ho0 (pR HO106.out)) (Kd.Q_lt (pQ HO109.out))) (below_size ((pV HB.out (IsS65.ge HI103.out))))); have HO117 := aK (Kd.Q_lower (Kd.Q_new' (Kd.Q_new' ho1 (Kd.R_lt (pR HO106.out))) (Kd.Q_lt (pQ HO109.out))) (below_size ((pV HB.out (IsS65.ge HI103.out))))); have n6_ := aK (hb); have n7_ := aK (hi); clear BK101 BK102 HO106 HO109 HB HI103; have BK101 := n0_; have BK102 := n1_; have HO106 := n2_; have HO109 := n3_; have HB := n6_; have HI103 := n7_; clear n0_ n1_ n2_ n3_ n6_ n7_; (try clear hb); (try clear hb2); (try clear hk); (try clear hi); (try clear ho0); (try clear ho1); obtain ⟨Ao9, co9, eo9⟩ := Kd.R_slice HO106.out; subst eo9; have hnb10 := NB101_102.out; have hnc10 := NB102_101.out; have hnb11 := NB101_103.out; have hnc11 := NB103_101.out; obtain ⟨hcz12_0, hcz12_1, hfz12_0, hfz12_1⟩ := bc2 BK101.out; obtain ⟨Ao13, co13, eo13, _⟩ := Kd.Q_slice HO109.out; subst eo13; obtain ⟨Ao14, co14, eo14⟩ := Kd.R_slice HO114.out; subst eo14; have hnb15 := NB102_103.out; have hnc15 := NB103_102.out; obtain ⟨hcz16_0, hcz16_1, hfz16_0, hfz16_1⟩ := bc2 BK102.out; obtain ⟨Ao17, co17, eo17, _⟩ := Kd.Q_slice HO117.out; subst eo17))
 refine bodyPost_ret (results_cc rfl _ _ gb101 gb102 26 26 #[.slice Ao9 t104.length co9, .slice Ao13 t107.length co13] #[.slice Ao14 t112.length co14, .slice Ao17 t115.length co17] (0, 0) (0, 0) _ _ rfl (by refine bk ?_; refine blk_far ?_ NB101_102.out _; refine bk ?_; refine blk_far ?_ NB101_102.out _; refine bk ?_; refine blk_put (cs := #[.slice Ao9 t104.length co9, .slice none 0 0]) ?_ 1 _ rfl; refine bk ?_; refine blk_put (cs := #[.slice none 0 0, .slice none 0 0]) ?_ 0 _ rfl; refine bk ?_; exact BK101.out) Try.underlying26 rfl (by kernel_rfl) rfl (by refine bk ?_; refine blk_put (cs := #[.slice Ao14 t112.length co14, .slice none 0 0]) ?_ 1 _ rfl; refine bk ?_; refine blk_put (cs := #[.slice none 0 0, .slice none 0 0]) ?_ 0 _ rfl; refine bk ?_; refine blk_far ?_ NB102_101.out _; refine bk ?_; refine blk_far ?_ NB102_101.out _; refine bk ?_; exact BK102.out) Try.underlying26 rfl (by kernel_rfl)) rfl ?_
 exact ⟨_, _, _, _, er, by (with_reducible repeat (first | apply Kd.R_alloc | apply Kd.R_drewN | apply Kd.R_drew)); exact Kd.R_mono (Kd.R_far (p := ⟨gb102, 1, none⟩) (Kd.R_far (p := ⟨gb102, 0, none⟩) (Kd.R_far (p := ⟨gb101, 1, none⟩) (Kd.R_far (p := ⟨gb101, 0, none⟩) (Kd.R_types (Kd.R_types HO106.out BK101.out (by decide)) BK102.out (by decide)) (fun _ hk => hk.1.2) (.slice Ao9 t104.length co9)) (fun _ hk => hk.1.2) (.slice Ao13 t107.length co13)) (fun _ hk => hk.2) (.slice Ao14 t112.length co14)) (fun _ hk => hk.2) (.slice Ao17 t115.length co17)) (fun _ hk => ⟨hk.1.1.1.1, ⟨hk.1.1.1.2, hk.1.1.2⟩⟩), by (with_reducible repeat (first | apply Kd.Q_alloc | apply Kd.Q_drewN | apply Kd.Q_drew)); exact Kd.Q_mono (Kd.Q_far (p := ⟨gb102, 1, none⟩) (Kd.Q_far (p := ⟨gb102, 0, none⟩) (Kd.Q_far (p := ⟨gb101, 1, none⟩) (Kd.Q_far (p := ⟨gb101, 0, none⟩) (Kd.Q_types (Kd.Q_types HO109.out BK101.out (by decide)) BK102.out (by decide)) (fun _ hk => hk.1.2) (.slice Ao9 t104.length co9)) (fun _ hk => hk.1.2) (.slice Ao13 t107.length co13)) (fun _ hk => hk.2) (.slice Ao14 t112.length co14)) (fun _ hk => hk.2) (.slice Ao17 t115.length co17)) (fun _ hk => ⟨hk.1.1.1.1, ⟨hk.1.1.1.2, hk.1.1.2⟩⟩), by (with_reducible repeat (first | apply Kd.R_alloc | apply Kd.R_drewN | apply Kd.R_drew)); exact Kd.R_mono (Kd.R_far (p := ⟨gb102, 1, none⟩) (Kd.R_far (p := ⟨gb102, 0, none⟩) (Kd.R_far (p := ⟨gb101, 1, none⟩) (Kd.R_far (p := ⟨gb101, 0, none⟩) (Kd.R_types (Kd.R_types HO114.out BK101.out (by decide)) BK102.out (by decide)) (fun _ hk => hk.1.2) (.slice Ao9 t104.length co9)) (fun _ hk => hk.1.2) (.slice Ao13 t107.length co13)) (fun _ hk => hk.2) (.slice Ao14 t112.length co14)) (fun _ hk => hk.2) (.slice Ao17 t115.length co17)) (fun _ hk => ⟨hk.1.1.1.2, ⟨hk.1.1.2, hk.1.1.1.1⟩⟩), by (with_reducible repeat (first | apply Kd.Q_alloc | apply Kd.Q_drewN | apply Kd.Q_drew)); exact Kd.Q_mono (Kd.Q_far (p := ⟨gb102, 1, none⟩) (Kd.Q_far (p := ⟨gb102, 0, none⟩) (Kd.Q_far (p := ⟨gb101, 1, none⟩) (Kd.Q_far (p := ⟨gb101, 0, none⟩) (Kd.Q_types (Kd.Q_types HO117.out BK101.out (by decide)) BK102.out (by decide)) (fun _ hk => hk.1.2) (.slice Ao9 t104.length co9)) (fun _ hk => hk.1.2) (.slice Ao13 t107.length co13)) (fun _ hk => hk.2) (.slice Ao14 t112.length co14)) (fun _ hk => hk.2) (.slice Ao17 t115.length co17)) (fun _ hk => ⟨hk.1.1.1.2, ⟨hk.1.1.2, hk.1.1.1.1⟩⟩), (pV HB.out (IsS65.ge HI103.out))⟩
end Go.Proofs.Ytjicgmcogadleaa.P
namespace Go.Proofs.Ytjicgmcogadleaa.P
open Go.RowKit Go.Proofs.YtjicgmcogadleaaW.PrintWords Go.Proofs.YtjicgmcogadleaaW.PrintLast Go.Proofs.YtjicgmcogadleaaW.PrintMore
attribute [local go_sem] max2_int min2_int max_two min_two max_three min_three max_four min_four
set_option linter.unusedVariables false
set_option linter.unusedSimpArgs false
def slices_Clone_int_int.f (l0 : List Int) : Option (List Int) := if l0.length < 17592186044416 then some l0 else none
set_option maxHeartbeats 2000000 in
set_option maxRecDepth 100000 in
theorem slices_Clone_int_int.calls (A0 : Option Addr) (c0 : Nat) (l0 : List Int) (r : List Int) (w : World) (hr0 : Kd.C (Kd.int .i64) w A0 l0.length l0) (hc0 : l0.length ≤ c0) (h : slices_Clone_int_int.f l0 = some r) :
    Calls Try.prog 72 #[.slice A0 l0.length c0] w fun e w' => ∃ v0_ : Value, e = .returned (v0_) ∧ Kd.R (Kd.int .i64) 3 w' w.heap.size (fun _ => True) v0_ r ∧ Below w.heap.size w w' := by
 unfold slices_Clone_int_int.f at h
 by_cases c2 : l0.length < 17592186044416
 case neg => rw [if_neg c2] at h; exact absurd h (by simp)
 rw [if_pos c2] at h
 obtain rfl := Option.some.inj h
 have HR0 := Aside0.mk hr0
 have HC0 := Aside0.mk hc0
 have LMc2 := Aside0.mk c2
 clear hr0 hc0 c2 h
 have HB := Aside0.mk (Below.refl w.heap.size w)
 have q22 : ∀ (w : World) (a : Option Addr) (n c n' c' : Nat), (binOp .eql 24 (.slice a n c) (.slice none n' c')).run Try.prog w = .ok (.bool a.isNone) w := fun w a n c n' c' => Lib.run_eql_slice_nil w _ _ a n c n' c' Try.underlying24
 cases A0 with
 | none =>
  have hl0 : l0 = [] := by
   cases l0 with
   | nil => rfl
   | cons a t => obtain ⟨ad, e, _⟩ := Kd.at_int HR0.out 0 (by omega) (by simp <;> omega); cases e
  subst hl0
  go_enter Try.func72, Try.ntmps72
  go_wp2_with fail
  go_ret
  exact ⟨_, rfl, Kd.R_nil _ _ _ _ _, Below.refl _ _⟩
 | some ad =>
  obtain ⟨y101, hy101⟩ : ∃ y_ : List Int, y_ = (([] : List Int)) := ⟨_, rfl⟩
  obtain ⟨y104, hy104⟩ : ∃ y_ : List Int, y_ = (y101 ++ l0) := ⟨_, rfl⟩
  have HL := Aside0.mk (show y104 = l0 by rw [hy104, hy101, List.nil_append])
  replace LMc2 := Aside0.mk (show y101.length + l0.length < 17592186044416 by rw [hy101]; simpa using LMc2.out)
  have Ny101 := Aside0.mk hy101
  have Ny104 := Aside0.mk hy104
  clear hy101 hy104
  go_enter Try.func72, Try.ntmps72
  go_wp2_with (first | ((with_reducible refine gate_dst (N := 5) rfl ?_); refine Kd.R_lit (Kd.int .i64) _ 3 ?hg (N := 5) ?hd (xs := ([] : List Int)) (inner := []) (ok := fun _ => True) (okp := fun _ => True) ?hr ?hp (fun _ hk => hk) trivial (Below.refl _ _) (Nat.le_refl _) (by simp) ?_; (case hd => rfl); (case hg => rfl); (case hr => first | (go_simp; done) | (go_simp; rfl)); (case hp => exact (Reps.none _ _)); intro v102 w3 ho4 hb hg_ hnew_; clear hg_ hnew_; (first | rw [← Ny101.out] at ho4 | (simp only [Int.reduceToNat] at ho4; rw [← Ny101.out] at ho4)); have n0_ := Aside0.mk (Kd.R_lower ho4 (below_size (pT HB.out))); have n1_ := Aside0.mk (below_step (pT HB.out) hb); clear HB; have HO103 := n0_; have HB := n1_; clear n0_ n1_; clear hb ho4) | ((with_reducible refine gate_builtin (b := .append) (xs := #[.tmp 5, .tmp 6]) rfl ?_); at_builtin; refine Kd.R_append_rows (Kd.int .i64) (w0 := w) w.heap.size rfl (.tmp 5) (.tmp 6) 24 3 (.int .i64 0) 8 rfl Try.underlying24 info3 rfl (by decide) (by omega) v102 y101 l0 _ _ _ (fun _ => True) (fun _ => False) rfl rfl ?aO ?aR (fun _ _ h => h) (fun _ h => h.elim) ?aF ?aB ?aS ?aL ?_; (case aR => exact pC (Kd.C_below HR0.out HB.out)); (case aB => exact (pT HB.out)); (case aF => exact (fun _ _ => trivial)); (case aO => exact (pR HO103.out)); (case aS => exact (below_size (pT HB.out))); (case aL => have := LMc2.out; omega); intro v105 w5 ho hb hg hat; rw [← Ny104.out] at ho; have n0_ := Aside0.mk (hb); have n1_ := Aside0.mk (ho); clear HB; clear HO103; have HB := n0_; have HO106 := n1_; clear n0_ n1_; clear ho hb hg hat))
  go_ret
  exact ⟨_, rfl, by rw [← HL.out]; exact HO106.out, HB.out⟩
end Go.Proofs.Ytjicgmcogadleaa.P
namespace Go.Proofs.Ytjicgmcogadleaa.P
open Go.RowKit Go.Proofs.YtjicgmcogadleaaW.PrintWords Go.Proofs.YtjicgmcogadleaaW.PrintLast Go.Proofs.YtjicgmcogadleaaW.PrintMore
attribute [local go_sem] max2_int min2_int max_two min_two max_three min_three max_four min_four
set_option linter.unusedVariables false
set_option linter.unusedSimpArgs false
set_option maxHeartbeats 8000000
set_option maxRecDepth 100000
def impl_cloneTally.f (l0_0 : List Int) (l0_1 : List Int) : Option (List Int × List Int) := (slices_Clone_int_int.f l0_0).bind fun t103 => ((slices_Clone_int_int.f l0_1).bind fun t106 => (some (t103, t106)))
def impl_cloneTally.T1 : Bool × List (List Nat × List Nat) := (true, [([], []), ([0], [0]), ([1], [1]), ([], []), ([3], [3]), ([4, 2], [4]), ([2, 5], [2, 5]), ([6, 5, 0, 1, 2, 3, 4, 5, 6], [6])])
def impl_cloneTally.B1 : List Nat := [0, 1, 3, 0, 8, 31, 63, 127]
theorem impl_cloneTally.tab1 : rtab .any (opsOf Try.f42 1) = impl_cloneTally.T1 := by kernel_rfl
theorem impl_cloneTally.bits1 : waitsOk impl_cloneTally.T1.2 impl_cloneTally.B1 = true := by kernel_rfl
theorem impl_cloneTally.calls (A0_0 : Option Addr) (c0_0 : Nat) (l0_0 : List Int) (A0_1 : Option Addr) (c0_1 : Nat) (l0_1 : List Int) (r1 : List Int) (r2 : List Int) (w : World) (hr0_0 : Kd.C (Kd.int .i64) w A0_0 l0_0.length l0_0) (hc0_0 : l0_0.length ≤ c0_0) (hr0_1 : Kd.C (Kd.int .i64) w A0_1 l0_1.length l0_1) (hc0_1 : l0_1.length ≤ c0_1) (h : impl_cloneTally.f l0_0 l0_1 = some (r1, r2)) :
  Calls Try.prog 42 #[.agg #[.slice A0_0 l0_0.length c0_0, .slice A0_1 l0_1.length c0_1]] w fun e w' => ∃ v0_ v1_ : Value, e = .returned (.agg #[v0_, v1_]) ∧ Kd.R (Kd.int .i64) 3 w' w.heap.size (fun k_ => some k_ ≠ (v1_ : Value).ownBlock) v0_ r1 ∧ Kd.R (Kd.int .i64) 3 w' w.heap.size (fun k_ => some k_ ≠ (v0_ : Value).ownBlock) v1_ r2 ∧ Below w.heap.size w w' := by
 have hu26 := Try.underlying26
 have HR0_0 := Aside0.mk hr0_0
 have HC0_0 := Aside0.mk hc0_0
 clear hr0_0 hc0_0
 have HR0_1 := Aside0.mk hr0_1
 have HC0_1 := Aside0.mk hc0_1
 clear hr0_1 hc0_1
 have HB := aK (Below.refl w.heap.size w)
 have H : ((slices_Clone_int_int.f l0_0).bind fun t103 => ((slices_Clone_int_int.f l0_1).bind fun t106 => (some (t103, t106)))) = some (r1, r2) := h
 clear h
 replace H := Option.bind_eq_some_iff.mp H
 obtain ⟨t103, A20, H⟩ := H
 replace H : ((slices_Clone_int_int.f l0_1).bind fun t106 => (some (t103, t106))) = some (r1, r2) := H
 have A2 := Aside0.mk A20
 clear A20
 replace H := Option.bind_eq_some_iff.mp H
 obtain ⟨t106, A30, H⟩ := H
 replace H : (some (t103, t106)) = some (r1, r2) := H
 have A3 := Aside0.mk A30
 clear A30
 simp only [Option.some.injEq, Prod.mk.injEq] at H
 obtain ⟨rfl, rfl⟩ := H
 go_enter Try.func42, Try.ntmps42
 try go_wp2_with (first | ((with_reducible refine gate_dst (N := 1) rfl ?_); refine bxe (cs := #[.slice A0_0 l0_0.length c0_0, .slice A0_1 l0_1.length c0_1]) (t := 26) ?_; intro gb101 hg w4 hbox hb; have BK101 := aK (hbox); have GW101 := aK (gE hg (pS HB.out)); have GE101 := GW101; replace HB := bS HB hb; clear hb hbox hg) | ((with_reducible refine gate_dst (N := 2) rfl ?_); refine bxe (cs := #[.slice none 0 0, .slice none 0 0]) (t := 26) ?_; intro gb102 hg w5 hbox hb; have BK102 := aK (hbox); have GW102 := aK (gE hg (pS HB.out)); have GE102 := GW102; obtain ⟨NB101_102, NB102_101⟩ := nb hg (pB BK101.out); replace BK101 := bB BK101 hb; replace HB := bS HB hb; clear hb hbox hg))
 have n0_ := aK (blk_drew BK101.out)
 have n1_ := aK (blk_drew BK102.out)
 have n2_ := aK (below_drew1 HB.out)
 clear BK101 BK102 HB
 have BK101 := n0_
 have BK102 := n1_
 have HB := n2_
 clear n0_ n1_ n2_
 refine start_ (n := 8) (S := fun w' => w'.cell? ⟨gb101, 0, none⟩ = some (.slice A0_0 l0_0.length c0_0) ∧ w'.cell? ⟨gb101, 1, none⟩ = some (.slice A0_1 l0_1.length c0_1)) (ds := []) #[false, false, false, false, false, false, false, false] (by kernel_rfl) rfl rfl (cz2 BK101.out) (fun hHeld => ?_); refine with_tabW impl_cloneTally.tab1 impl_cloneTally.bits1 (fun HT_ HW_ => ?_)
 generalize w5.drew = w6 at BK101 BK102 HB hHeld ⊢
 refine pu (i := 0) (N := some 3) #[true, false, false, false, false, false, false, false] rfl rfl HT_.out ?_
 refine pu (i := 3) (N := some 6) #[true, false, false, true, false, false, false, false] rfl rfl HT_.out ?_
 refine tk (i := 1) (N := some 4) #[true, true, false, true, false, false, false, false] rfl rfl HT_.out HW_.out (Or.inl ⟨by rfl, by rintro w' ⟨s0, s1⟩; go_simp; with_reducible rfl⟩) hHeld ?_
 refine tk (i := 4) (N := some 7) #[true, true, false, true, true, false, false, false] rfl rfl HT_.out HW_.out (Or.inl ⟨by rfl, by rintro w' ⟨s0, s1⟩; go_simp; with_reducible rfl⟩) hHeld ?_
 refine one_ (i := 2) (N := some 5) #[true, true, true, true, true, false, false, false] rfl rfl (one_of HT_.out (by kernel_rfl)) (by decide) (fun K hK => ?_)
 refine goes_ Try.func72 (by kernel_rfl) rfl #[.slice A0_0 l0_0.length c0_0] (by rfl) rfl rfl (by (try simp only [List.map_toArray, List.map_cons, List.map_nil]); first | done | rfl | (simp only [List.length_drop, List.length_take]; rfl)) ?_
 with_reducible refine (slices_Clone_int_int.calls _ _ l0_0 t103 _ ?side1 ?side2 A2.out).mono ?_
 (case side1 => exact pC (Kd.C_below HR0_0.out HB.out))
 (case side2 => exact HC0_0.out)
 rintro e w7 ⟨v104, rfl, ho0, hb⟩
 refine ⟨_, rfl, ?_⟩
 have HO105 := aK (Kd.R_lower ho0 (below_size (pS HB.out)))
 replace BK101 := bB BK101 hb
 replace BK102 := bB BK102 hb
 replace HB := bS HB hb
 (try clear hb)
 (try clear hb2)
 (try clear hk)
 (try clear hi)
 (try clear ho0)
 refine hK.out _ _ (cz2 BK101.out) (fun hHeld => ?_)
 clear hK K
 refine norm_ (a' := ?_) ?_ ?_
 rotate_left
 ·
  show Act.put _ (some 5) _ = _
  simp only [sP]
  rfl
 refine one_ (i := 5) (N := some 8) #[true, true, true, true, true, true, false, false] rfl rfl (one_of HT_.out (by kernel_rfl)) (by decide) (fun K hK => ?_)
 refine goes_ Try.func72 (by kernel_rfl) rfl #[.slice A0_1 l0_1.length c0_1] (by rfl) rfl rfl (by (try simp only [List.map_toArray, List.map_cons, List.map_nil]); first | done | rfl | (simp only [List.length_drop, List.length_take]; rfl)) ?_
 with_reducible refine (slices_Clone_int_int.calls _ _ l0_1 t106 _ ?side1 ?side2 A3.out).mono ?_
 (case side1 => exact pC (Kd.C_below HR0_1.out HB.out))
 (case side2 => exact HC0_1.out)
 rintro e w8 ⟨v107, rfl, ho0, hb⟩
 refine ⟨_, rfl, ?_⟩
 have n0_ := aK (Kd.R_elder' (pR HO105.out) (Kd.R_base ho0) hb)
 have HO108 := aK (Kd.R_lower (nw1 ho0 (pR HO105.out)) (below_size (pS HB.out)))
 replace BK101 := bB BK101 hb
 replace BK102 := bB BK102 hb
 replace HB := bS HB hb
 clear HO105
 have HO105 := n0_
 clear n0_
 (try clear hb)
 (try clear hb2)
 (try clear hk)
 (try clear hi)
 (try clear ho0)
 obtain ⟨Ao9, co9, eo9⟩ := Kd.R_slice HO108.out
 (first | subst eo9 | (obtain ⟨f4_, f5_⟩ := sI eo9; subst f4_; subst f5_))
 obtain ⟨Ao10, co10, eo10⟩ := Kd.R_slice HO105.out
 (first | subst eo10 | (obtain ⟨f4_, f5_⟩ := sI eo10; subst f4_; subst f5_))
 refine hK.out _ _ (cz2 BK101.out) (fun hHeld => ?_)
 clear hK K
 refine norm_ (a' := ?_) ?_ ?_
 rotate_left
 ·
  show Act.put _ (some 8) _ = _
  simp only [sP]
  rfl
 refine pu (i := 6) (N := some 9) #[true, true, true, true, true, true, true, false] rfl rfl HT_.out ?_
 refine one_ (i := 7) (N := none) #[true, true, true, true, true, true, true, true] rfl rfl (one_of HT_.out (by kernel_rfl)) (by decide) (fun K hK => ?_)
 have hs11 : w8.cell? ⟨gb102, 0, none⟩ = some (.slice none 0 0) := (blk_cell BK102.out 0).trans rfl
 have hfs11 := blk_frozen BK102.out 0
 have hns11_0 := NB101_102.out
 have hms11_0 := NB102_101.out
 have hs12 : w8.cell? ⟨gb102, 1, none⟩ = some (.slice none 0 0) := (blk_cell BK102.out 1).trans rfl
 have hfs12 := blk_frozen BK102.out 1
 have hns12_0 := NB101_102.out
 have hms12_0 := NB102_101.out
 refine skip_ (w1 := ?_) (by rfl) rfl ?_ ?_
 rotate_left
 ·
  go_simp
  rfl
 refine hK.out _ _ ⟨((cell_far (p := ⟨gb102, _, none⟩) NB101_102.out _).trans (((cell_far (p := ⟨gb102, _, none⟩) NB101_102.out _).trans (hHeld.1)))), ((cell_far (p := ⟨gb102, _, none⟩) NB101_102.out _).trans (((cell_far (p := ⟨gb102, _, none⟩) NB101_102.out _).trans (hHeld.2))))⟩ (fun hHeld => ?_)
 clear hK K
 refine done_ (done_of HT_.out (by kernel_rfl)) ?_
 try go_wp2
 refine bodyPost_ret (results_cell_row rfl _ _ gb102 26 #[.slice Ao10 t103.length co10, .slice Ao9 t106.length co9] (0, 0) _ rfl (by refine bk ?_; refine blk_put (cs := #[.slice Ao10 t103.length co10, .slice none 0 0]) ?_ 1 _ rfl; refine bk ?_; refine blk_put (cs := #[.slice none 0 0, .slice none 0 0]) ?_ 0 _ rfl; refine bk ?_; exact BK102.out) Try.underlying26 rfl (by kernel_rfl)) rfl ?_
 exact ⟨_, _, er, by (with_reducible repeat (first | apply Kd.R_alloc | apply Kd.R_drewN | apply Kd.R_drew)); exact Kd.R_mono (rF2 HO105.out BK102.out (.slice Ao10 t103.length co10) (.slice Ao9 t106.length co9)) (fun _ h => h.2), by (with_reducible repeat (first | apply Kd.R_alloc | apply Kd.R_drewN | apply Kd.R_drew)); exact Kd.R_mono (rF2 HO108.out BK102.out (.slice Ao10 t103.length co10) (.slice Ao9 t106.length co9)) (fun _ h => h.2), pT HB.out⟩
def impl_checkedTally.f (k : Nat) (l0_0 : List Int) (l0_1 : List Int) : Option (List Int × List Int × Bool) := (impl_IsValidTally.f k l0_0 l0_1).bind fun t103 => (if t103 = true then (some (l0_0, l0_1, true)) else (some (([] : List Int), ([] : List Int), false)))
theorem impl_checkedTally.calls (k : Nat) (P0_0_ : Nat → Prop) (u9000_ : Value) (l0_0 : List Int) (P0_1_ : Nat → Prop) (u9001_ : Value) (l0_1 : List Int) (r1 : List Int) (r2 : List Int) (r3 : Bool) (w0 w : World) (hB : Below w0.heap.size w0 w) (ho0_0 : Kd.R (Kd.int .i64) 3 w w0.heap.size P0_0_ u9000_ l0_0) (hp0_0_0_1 : ∀ k_, P0_0_ k_ → ¬ P0_1_ k_) (ho0_1 : Kd.R (Kd.int .i64) 3 w w0.heap.size P0_1_ u9001_ l0_1) (hp0_1_0_0 : ∀ k_, P0_1_ k_ → ¬ P0_0_ k_) (h : impl_checkedTally.f k l0_0 l0_1 = some (r1, r2, r3)) :
  Calls Try.prog 43 #[.agg #[u9000_, u9001_]] w fun e w' => ∃ v0_ v1_ : Value, e = .returned (.tuple #[.agg #[v0_, v1_], .bool r3]) ∧ Kd.R (Kd.int .i64) 3 w' w0.heap.size (fun k_ => ((P0_0_ k_ ∨ P0_1_ k_) ∨ w.heap.size ≤ k_) ∧ some k_ ≠ (v1_ : Value).ownBlock) v0_ r1 ∧ Kd.R (Kd.int .i64) 3 w' w0.heap.size (fun k_ => ((P0_0_ k_ ∨ P0_1_ k_) ∨ w.heap.size ≤ k_) ∧ some k_ ≠ (v0_ : Value).ownBlock) v1_ r2 ∧ Below w0.heap.size w0 w' ∧ Kept w w' (fun k_ => P0_0_ k_ ∨ P0_1_ k_) := by
 have hu26 := Try.underlying26
 have HO0_0 := aK (show Kd.R (Kd.int .i64) 3 w w0.heap.size (fun k_ => ((P0_0_ k_ ∨ P0_1_ k_) ∨ w.heap.size ≤ k_) ∧ some k_ ≠ (u9001_ : Value).ownBlock) u9000_ l0_0 from Kd.R_mono ho0_0 (fun k_ hk => ⟨(.inl (.inl hk)), fun e_ => hp0_0_0_1 k_ hk (ho0_1.1 k_ e_.symm)⟩))
 have HO0_1 := aK (show Kd.R (Kd.int .i64) 3 w w0.heap.size (fun k_ => ((P0_0_ k_ ∨ P0_1_ k_) ∨ w.heap.size ≤ k_) ∧ some k_ ≠ (u9000_ : Value).ownBlock) u9001_ l0_1 from Kd.R_mono ho0_1 (fun k_ hk => ⟨(.inl (.inr hk)), fun e_ => hp0_1_0_0 k_ hk (ho0_0.1 k_ e_.symm)⟩))
 have HK := aK (Kept.refl w (fun k_ => P0_0_ k_ ∨ P0_1_ k_))
 have HW0 := Aside0.mk hB.size
 have HB := Aside0.mk hB
 clear hB
 have H : ((impl_IsValidTally.f k l0_0 l0_1).bind fun t103 => (if t103 = true then (some (l0_0, l0_1, true)) else (some (([] : List Int), ([] : List Int), false)))) = some (r1, r2, r3) := h
 clear h
 replace H := Option.bind_eq_some_iff.mp H
 obtain ⟨t103, A20, H⟩ := H
 replace H : (if t103 = true then (some (l0_0, l0_1, true)) else (some (([] : List Int), ([] : List Int), false))) = some (r1, r2, r3) := H
 have A2 := Aside0.mk A20
 clear A20
 by_cases c3 : t103 = true
 ·
  subst c3
  have H1 : (some (l0_0, l0_1, true)) = some (r1, r2, r3) := by rw [if_pos rfl] at H; exact H
  clear H
  have H := H1
  clear H1
  simp only [Option.some.injEq, Prod.mk.injEq] at H
  obtain ⟨rfl, rfl, rfl⟩ := H
  obtain ⟨Ao4, co4, eo4⟩ := Kd.R_slice HO0_0.out
  subst eo4
  obtain ⟨Ao5, co5, eo5⟩ := Kd.R_slice HO0_1.out
  subst eo5
  go_enter Try.func43, Try.ntmps43
  go_wp2_with (first | ((with_reducible refine gate_dst (N := 1) rfl ?_); refine bxe (cs := #[.slice Ao4 l0_0.length co4, .slice Ao5 l0_1.length co5]) (t := 26) ?_; intro gb101 hg w6 hbox hb; have n0_ := aK (Kd.R_below (pR HO0_0.out) hb); have n1_ := aK (Kd.R_below (pR HO0_1.out) hb); have n2_ := aK (Kept.below (S := (fun k_ => P0_0_ k_ ∨ P0_1_ k_)) (by repeat (first | (with_reducible first | exact HK.out | apply Kept.alloc | apply Kept.drewN | apply Kept.drew) | exact HK.out)) hb); have BK101 := aK (hbox); have GW101 := aK ((by rw [hg]; exact (by first | exact HK.out.1 | exact (show Kept w _ (fun k_ => P0_0_ k_ ∨ P0_1_ k_) from by repeat (first | (with_reducible first | exact HK.out | apply Kept.alloc | apply Kept.drewN | apply Kept.drew) | exact HK.out)).1) : w.heap.size ≤ gb101)); have GE101 := aK (gE hg (pS HB.out)); replace HB := bS HB hb; clear HO0_0 HO0_1 HK; have HO0_0 := n0_; have HO0_1 := n1_; have HK := n2_; clear n0_ n1_ n2_; clear hb hbox hg) | ((with_reducible refine gate_dst (N := 2) rfl ?_); refine bxe (cs := #[.slice none 0 0, .slice none 0 0]) (t := 26) ?_; intro gb102 hg w7 hbox hb; have n0_ := aK (Kd.R_below (pR HO0_0.out) hb); have n1_ := aK (Kd.R_below (pR HO0_1.out) hb); have n3_ := aK (Kept.below (S := (fun k_ => P0_0_ k_ ∨ P0_1_ k_)) (by repeat (first | (with_reducible first | exact HK.out | apply Kept.alloc | apply Kept.drewN | apply Kept.drew | refine Kept.setCell ?_ (.inr GW101.out) _) | exact HK.out)) hb); have BK102 := aK (hbox); have GW102 := aK ((by rw [hg]; exact (by first | exact HK.out.1 | exact (show Kept w _ (fun k_ => P0_0_ k_ ∨ P0_1_ k_) from by repeat (first | (with_reducible first | exact HK.out | apply Kept.alloc | apply Kept.drewN | apply Kept.drew | refine Kept.setCell ?_ (.inr GW101.out) _) | exact HK.out)).1) : w.heap.size ≤ gb102)); have GE102 := aK (gE hg (pS HB.out)); obtain ⟨NB101_102, NB102_101⟩ := nb hg (pB BK101.out); replace BK101 := bB BK101 hb; replace HB := bS HB hb; clear HO0_0 HO0_1 HK; have HO0_0 := n0_; have HO0_1 := n1_; have HK := n3_; clear n0_ n1_ n3_ hb hbox hg; have hnb8 := NB101_102.out; have hnc8 := NB102_101.out; obtain ⟨hcz9_0, hcz9_1, hfz9_0, hfz9_1⟩ := bc2 BK101.out) | ((with_reducible refine gate_callee (f := 35) rfl ?_); refine gl (some 5) Try.func35 #[.agg #[.slice Ao4 l0_0.length co4, .slice Ao5 l0_1.length co5]] ?_; (with_reducible refine (impl_IsValidTally.calls k _ _ l0_0 _ _ l0_1 true _ ?side1 ?side2 ?side3 ?side4 A2.out).mono ?_); (case side1 => exact pC (Kd.R_reads' HO0_0.out).2.2); (case side2 => exact (Kd.R_reads' HO0_0.out).2.1); (case side3 => exact pC (Kd.R_reads' HO0_1.out).2.2); (case side4 => exact (Kd.R_reads' HO0_1.out).2.1); rintro e w10 ⟨rfl, hb⟩; refine ⟨_, rfl, ?_⟩; have n0_ := aK (Kd.R_below (pR HO0_0.out) hb); have n1_ := aK (Kd.R_below (pR HO0_1.out) hb); have n4_ := aK (Kept.below (S := (fun k_ => P0_0_ k_ ∨ P0_1_ k_)) (by repeat (first | (with_reducible first | exact HK.out | apply Kept.alloc | apply Kept.drewN | apply Kept.drew | refine Kept.setCell ?_ (.inr GW101.out) _ | refine Kept.setCell ?_ (.inr GW102.out) _) | exact HK.out)) hb); replace BK101 := bB BK101 hb; replace BK102 := bB BK102 hb; replace HB := bS HB hb; clear HO0_0 HO0_1 HK; have HO0_0 := n0_; have HO0_1 := n1_; have HK := n4_; clear n0_ n1_ n4_; (try clear hb); (try clear hb2); (try clear hk); (try clear hi); obtain ⟨hcz11_0, hcz11_1, hfz11_0, hfz11_1⟩ := bc2 BK101.out; obtain ⟨hcz12_0, hcz12_1, hfz12_0, hfz12_1⟩ := bc2 BK102.out))
  refine bodyPost_ret (results_ct rfl _ _ gb102 26 #[.slice Ao4 l0_0.length co4, .slice Ao5 l0_1.length co5] (0, 0) _ rfl (by refine bk ?_; refine blk_put (cs := #[.slice Ao4 l0_0.length co4, .slice none 0 0]) ?_ 1 _ rfl; refine bk ?_; refine blk_put (cs := #[.slice none 0 0, .slice none 0 0]) ?_ 0 _ rfl; refine bk ?_; exact BK102.out) Try.underlying26 rfl (by kernel_rfl)) rfl ?_
  exact ⟨_, _, er, by (with_reducible repeat (first | apply Kd.R_alloc | apply Kd.R_drewN | apply Kd.R_drew)); exact Kd.R_mono (rF2 HO0_0.out BK102.out (.slice Ao4 l0_0.length co4) (.slice Ao5 l0_1.length co5)) (fun _ h => ⟨h.1, h.2⟩), by (with_reducible repeat (first | apply Kd.R_alloc | apply Kd.R_drewN | apply Kd.R_drew)); exact Kd.R_mono (rF2 HO0_1.out BK102.out (.slice Ao4 l0_0.length co4) (.slice Ao5 l0_1.length co5)) (fun _ h => ⟨h.1, h.2⟩), pT HB.out, by repeat (first | (with_reducible first | exact HK.out | apply Kept.alloc | apply Kept.drewN | apply Kept.drew | refine Kept.setCell ?_ (.inr GW101.out) _ | refine Kept.setCell ?_ (.inr GW102.out) _) | exact HK.out)⟩
 replace c3 := Bool.eq_false_iff.mpr c3
 subst c3
 have H1 : (some (([] : List Int), ([] : List Int), false)) = some (r1, r2, r3) := by rw [if_neg (show ¬ (false = true) by decide)] at H; exact H
 clear H
 have H := H1
 clear H1
 simp only [Option.some.injEq, Prod.mk.injEq] at H
 obtain ⟨rfl, rfl, rfl⟩ := H
 obtain ⟨Ao13, co13, eo13⟩ := Kd.R_slice HO0_0.out
 subst eo13
 obtain ⟨Ao14, co14, eo14⟩ := Kd.R_slice HO0_1.out
 subst eo14
 go_enter Try.func43, Try.ntmps43
 go_wp2_with (first | ((with_reducible refine gate_dst (N := 1) rfl ?_); refine bxe (cs := #[.slice Ao13 l0_0.length co13, .slice Ao14 l0_1.length co14]) (t := 26) ?_; intro gb101 hg w15 hbox hb; have n0_ := aK (Kd.R_below (pR HO0_0.out) hb); have n1_ := aK (Kd.R_below (pR HO0_1.out) hb); have n2_ := aK (Kept.below (S := (fun k_ => P0_0_ k_ ∨ P0_1_ k_)) (by repeat (first | (with_reducible first | exact HK.out | apply Kept.alloc | apply Kept.drewN | apply Kept.drew) | exact HK.out)) hb); have BK101 := aK (hbox); have GW101 := aK ((by rw [hg]; exact (by first | exact HK.out.1 | exact (show Kept w _ (fun k_ => P0_0_ k_ ∨ P0_1_ k_) from by repeat (first | (with_reducible first | exact HK.out | apply Kept.alloc | apply Kept.drewN | apply Kept.drew) | exact HK.out)).1) : w.heap.size ≤ gb101)); have GE101 := aK (gE hg (pS HB.out)); replace HB := bS HB hb; clear HO0_0 HO0_1 HK; have HO0_0 := n0_; have HO0_1 := n1_; have HK := n2_; clear n0_ n1_ n2_; clear hb hbox hg) | ((with_reducible refine gate_dst (N := 2) rfl ?_); refine bxe (cs := #[.slice none 0 0, .slice none 0 0]) (t := 26) ?_; intro gb102 hg w16 hbox hb; have n0_ := aK (Kd.R_below (pR HO0_0.out) hb); have n1_ := aK (Kd.R_below (pR HO0_1.out) hb); have n3_ := aK (Kept.below (S := (fun k_ => P0_0_ k_ ∨ P0_1_ k_)) (by repeat (first | (with_reducible first | exact HK.out | apply Kept.alloc | apply Kept.drewN | apply Kept.drew | refine Kept.setCell ?_ (.inr GW101.out) _) | exact HK.out)) hb); have BK102 := aK (hbox); have GW102 := aK ((by rw [hg]; exact (by first | exact HK.out.1 | exact (show Kept w _ (fun k_ => P0_0_ k_ ∨ P0_1_ k_) from by repeat (first | (with_reducible first | exact HK.out | apply Kept.alloc | apply Kept.drewN | apply Kept.drew | refine Kept.setCell ?_ (.inr GW101.out) _) | exact HK.out)).1) : w.heap.size ≤ gb102)); have GE102 := aK (gE hg (pS HB.out)); obtain ⟨NB101_102, NB102_101⟩ := nb hg (pB BK101.out); replace BK101 := bB BK101 hb; replace HB := bS HB hb; clear HO0_0 HO0_1 HK; have HO0_0 := n0_; have HO0_1 := n1_; have HK := n3_; clear n0_ n1_ n3_ hb hbox hg; have hnb17 := NB101_102.out; have hnc17 := NB102_101.out; obtain ⟨hcz18_0, hcz18_1, hfz18_0, hfz18_1⟩ := bc2 BK101.out) | ((with_reducible refine gate_callee (f := 35) rfl ?_); refine gl (some 5) Try.func35 #[.agg #[.slice Ao13 l0_0.length co13, .slice Ao14 l0_1.length co14]] ?_; (with_reducible refine (impl_IsValidTally.calls k _ _ l0_0 _ _ l0_1 false _ ?side1 ?side2 ?side3 ?side4 A2.out).mono ?_); (case side1 => exact pC (Kd.R_reads' HO0_0.out).2.2); (case side2 => exact (Kd.R_reads' HO0_0.out).2.1); (case side3 => exact pC (Kd.R_reads' HO0_1.out).2.2); (case side4 => exact (Kd.R_reads' HO0_1.out).2.1); rintro e w19 ⟨rfl, hb⟩; refine ⟨_, rfl, ?_⟩; have n0_ := aK (Kd.R_below (pR HO0_0.out) hb); have n1_ := aK (Kd.R_below (pR HO0_1.out) hb); have n4_ := aK (Kept.below (S := (fun k_ => P0_0_ k_ ∨ P0_1_ k_)) (by repeat (first | (with_reducible first | exact HK.out | apply Kept.alloc | apply Kept.drewN | apply Kept.drew | refine Kept.setCell ?_ (.inr GW101.out) _ | refine Kept.setCell ?_ (.inr GW102.out) _) | exact HK.out)) hb); replace BK101 := bB BK101 hb; replace BK102 := bB BK102 hb; replace HB := bS HB hb; clear HO0_0 HO0_1 HK; have HO0_0 := n0_; have HO0_1 := n1_; have HK := n4_; clear n0_ n1_ n4_; (try clear hb); (try clear hb2); (try clear hk); (try clear hi); obtain ⟨hcz20_0, hcz20_1, hfz20_0, hfz20_1⟩ := bc2 BK102.out))
 refine bodyPost_ret (results_ct rfl _ _ gb102 26 #[.slice none 0 0, .slice none 0 0] (0, 0) _ rfl (by refine bk ?_; refine blk_put (cs := #[.slice none 0 0, .slice none 0 0]) ?_ 1 _ rfl; refine bk ?_; refine blk_put (cs := #[.slice none 0 0, .slice none 0 0]) ?_ 0 _ rfl; refine bk ?_; exact BK102.out) Try.underlying26 rfl (by kernel_rfl)) rfl ?_
 exact ⟨_, _, er, by first | exact Kd.R_nil _ _ _ _ _ | exact Kd.N_nil _ _ _ _ _ | exact Kd.V_nil _ _ _ _ _ | exact Kd.Q_nil _ _ _ _ _ | exact Kd.S_nil _ _ _ _ _, by first | exact Kd.R_nil _ _ _ _ _ | exact Kd.N_nil _ _ _ _ _ | exact Kd.V_nil _ _ _ _ _ | exact Kd.Q_nil _ _ _ _ _ | exact Kd.S_nil _ _ _ _ _, pT HB.out, by repeat (first | (with_reducible first | exact HK.out | apply Kept.alloc | apply Kept.drewN | apply Kept.drew | refine Kept.setCell ?_ (.inr GW101.out) _ | refine Kept.setCell ?_ (.inr GW102.out) _) | exact HK.out)⟩
mutual
def impl_AddTallies.j0 : Nat → Bool → List Int → List Int → List Int → List Int → Option (List Int × List Int × Bool)
 | 0, _, _, _, _, _ => none
 | k + 1, x15, x102000, x102001, x103000, x103001 => if x15 = true then (some (([] : List Int), ([] : List Int), false)) else ((impl_cloneTally.f x102000 x102001).bind fun bt106 => (impl_AddTallies.l0 k (bt106.1.length : Int) 0 x103000 x103001 bt106.1 bt106.2))
def impl_AddTallies.l0 : Nat → Int → Int → List Int → List Int → List Int → List Int → Option (List Int × List Int × Bool)
 | 0, _, _, _, _, _, _ => none
 | k + 1, x21, x22, x103000, x103001, x113000, x113001 => if x22 < x21 then (if 0 ≤ x22 then (if x22 < (x113000.length : Int) then (if x22 < (x103000.length : Int) then (if x22 < (x113001.length : Int) then (if x22 < (x103001.length : Int) then (impl_AddTallies.l0 k x21 (wrap64 (x22 + 1)) x103000 x103001 (x113000.set (x22 : Int).toNat (wrap64 ((rd x113000 x22) + (rd x103000 x22)))) (x113001.set (x22 : Int).toNat (wrap64 ((rd x113001 x22) + (rd x103001 x22))))) else (none)) else (none)) else (none)) else (none)) else (none)) else ((impl_checkedTally.f k x113000 x113001).bind fun bt119 => (some (bt119.1, bt119.2.1, bt119.2.2)))
end
def impl_AddTallies.f (k : Nat) (l0_0 : List Int) (l0_1 : List Int) (l1_0 : List Int) (l1_1 : List Int) : Option (List Int × List Int × Bool) := (impl_IsValidTally.f k l0_0 l0_1).bind fun t104 => (if t104 = true then ((impl_IsValidTally.f k l1_0 l1_1).bind fun t105 => (impl_AddTallies.j0 k (!t105) l0_0 l0_1 l1_0 l1_1)) else (impl_AddTallies.j0 k true l0_0 l0_1 l1_0 l1_1))
def impl_AddTallies.T7 : Bool × List (List Nat × List Nat) := (true, [([], []), ([0], [0]), ([], []), ([1, 2], [1, 2]), ([3], [3]), ([], []), ([5], [5]), ([], []), ([6, 7], [6, 7]), ([8], [8]), ([4, 9], [4, 9]), ([1, 2, 0, 1, 2, 3, 4, 5, 6, 7, 8, 9, 10], [1, 2]), ([11, 10, 0, 1, 2, 3, 4, 5, 6, 7, 8, 9, 10], [10, 11])])
def impl_AddTallies.B7 : List Nat := [0, 1, 0, 7, 15, 0, 32, 0, 224, 480, 1023, 2047, 4095]
theorem impl_AddTallies.tab7 : rtab .any (opsOf Try.f14 7) = impl_AddTallies.T7 := by kernel_rfl
theorem impl_AddTallies.bits7 : waitsOk impl_AddTallies.T7.2 impl_AddTallies.B7 = true := by kernel_rfl
def impl_AddTallies.T8 : Bool × List (List Nat × List Nat) := (true, [([], []), ([0], [0]), ([], []), ([1, 2], [1, 2]), ([3], [3]), ([], []), ([5], [5]), ([], []), ([6, 7], [6, 7]), ([8], [8]), ([4, 9], [4, 9]), ([1, 2, 0, 1, 2, 3, 4, 5, 6, 7, 8, 9, 10], [1, 2]), ([11, 10, 0, 1, 2, 3, 4, 5, 6, 7, 8, 9, 10], [10, 11])])
def impl_AddTallies.B8 : List Nat := [0, 1, 0, 7, 15, 0, 32, 0, 224, 480, 1023, 2047, 4095]
theorem impl_AddTallies.tab8 : rtab .any (opsOf Try.f14 8) = impl_AddTallies.T8 := by kernel_rfl
theorem impl_AddTallies.bits8 : waitsOk impl_AddTallies.T8.2 impl_AddTallies.B8 = true := by kernel_rfl
theorem impl_AddTallies.calls (k : Nat) (A0_0 : Option Addr) (c0_0 : Nat) (l0_0 : List Int) (A0_1 : Option Addr) (c0_1 : Nat) (l0_1 : List Int) (A1_0 : Option Addr) (c1_0 : Nat) (l1_0 : List Int) (A1_1 : Option Addr) (c1_1 : Nat) (l1_1 : List Int) (r1 : List Int) (r2 : List Int) (r3 : Bool) (w : World) (hr0_0 : Kd.C (Kd.int .i64) w A0_0 l0_0.length l0_0) (hc0_0 : l0_0.length ≤ c0_0) (hr0_1 : Kd.C (Kd.int .i64) w A0_1 l0_1.length l0_1) (hc0_1 : l0_1.length ≤ c0_1) (hr1_0 : Kd.C (Kd.int .i64) w A1_0 l1_0.length l1_0) (hc1_0 : l1_0.length ≤ c1_0) (hr1_1 : Kd.C (Kd.int .i64) w A1_1 l1_1.length l1_1) (hc1_1 : l1_1.length ≤ c1_1) (h : impl_AddTallies.f k l0_0 l0_1 l1_0 l1_1 = some (r1, r2, r3)) :
  Calls Try.prog 14 #[.agg #[.slice A0_0 l0_0.length c0_0, .slice A0_1 l0_1.length c0_1], .agg #[.slice A1_0 l1_0.length c1_0, .slice A1_1 l1_1.length c1_1]] w fun e w' => ∃ v0_ v1_ : Value, e = .returned (.tuple #[.agg #[v0_, v1_], .bool r3]) ∧ Kd.R (Kd.int .i64) 3 w' w.heap.size (fun k_ => some k_ ≠ (v1_ : Value).ownBlock) v0_ r1 ∧ Kd.R (Kd.int .i64) 3 w' w.heap.size (fun k_ => some k_ ≠ (v0_ : Value).ownBlock) v1_ r2 ∧ Below w.heap.size w w' := by
 have hu26 := Try.underlying26
 have HR0_0 := Aside0.mk hr0_0
 have HC0_0 := Aside0.mk hc0_0
 clear hr0_0 hc0_0
 have HR0_1 := Aside0.mk hr0_1
 have HC0_1 := Aside0.mk hc0_1
 clear hr0_1 hc0_1
 have HR1_0 := Aside0.mk hr1_0
 have HC1_0 := Aside0.mk hc1_0
 clear hr1_0 hc1_0
 have HR1_1 := Aside0.mk hr1_1
 have HC1_1 := Aside0.mk hc1_1
 clear hr1_1 hc1_1
 have HB := aK (Below.refl w.heap.size w)
 have H : ((impl_IsValidTally.f k l0_0 l0_1).bind fun t104 => (if t104 = true then ((impl_IsValidTally.f k l1_0 l1_1).bind fun t105 => (impl_AddTallies.j0 k (!t105) l0_0 l0_1 l1_0 l1_1)) else (impl_AddTallies.j0 k true l0_0 l0_1 l1_0 l1_1))) = some (r1, r2, r3) := h
 clear h
 have HC3 := Aside0.mk H
 clear H
 go_enter Try.func14, Try.ntmps14
 go_upto_region 1 with (first | ((with_reducible refine gate_dst (N := 2) rfl ?_); refine bxe (cs := #[.slice A0_0 l0_0.length c0_0, .slice A0_1 l0_1.length c0_1]) (t := 26) ?_; intro gb101 hg w4 hbox hb; have BK101 := aK (hbox); have GW101 := aK (gE hg (pS HB.out)); have GE101 := GW101; replace HB := bS HB hb; clear hb hbox hg) | ((with_reducible refine gate_dst (N := 3) rfl ?_); refine bxe (cs := #[.slice A1_0 l1_0.length c1_0, .slice A1_1 l1_1.length c1_1]) (t := 26) ?_; intro gb102 hg w5 hbox hb; have BK102 := aK (hbox); have GW102 := aK (gE hg (pS HB.out)); have GE102 := GW102; obtain ⟨NB101_102, NB102_101⟩ := nb hg (pB BK101.out); replace BK101 := bB BK101 hb; replace HB := bS HB hb; clear hb hbox hg) | ((with_reducible refine gate_dst (N := 4) rfl ?_); refine bxe (cs := #[.slice none 0 0, .slice none 0 0]) (t := 26) ?_; intro gb103 hg w6 hbox hb; have BK103 := aK (hbox); have GW103 := aK (gE hg (pS HB.out)); have GE103 := GW103; obtain ⟨NB101_103, NB103_101⟩ := nb hg (pB BK101.out); obtain ⟨NB102_103, NB103_102⟩ := nb hg (pB BK102.out); replace BK101 := bB BK101 hb; replace BK102 := bB BK102 hb; replace HB := bS HB hb; clear hb hbox hg))
 (try simp only [Act.put, List.setIfInBounds_toArray, List.set_cons_zero, List.set_cons_succ])
 go_cut [15] (fun v15 wc => ∃ (kq : Nat) (x15_2 : Bool), v15 = .bool x15_2 ∧ Aside0 (impl_AddTallies.j0 kq x15_2 l0_0 l0_1 l1_0 l1_1 = some (r1, r2, r3)) ∧ Aside0 (kq ≤ k) ∧ Aside0 (wc.heap[gb101]? = some (.cells #[(.slice A0_0 l0_0.length c0_0), (.slice A0_1 l0_1.length c0_1)] 26 (0, 0))) ∧ Aside0 (wc.heap[gb102]? = some (.cells #[(.slice A1_0 l1_0.length c1_0), (.slice A1_1 l1_1.length c1_1)] 26 (0, 0))) ∧ Aside0 (wc.heap[gb103]? = some (.cells #[(.slice none 0 0), (.slice none 0 0)] 26 (0, 0))) ∧ Aside0 (Below w.heap.size w wc))
 case first =>
  have H := HC3.out
  clear HC3
  replace H := Option.bind_eq_some_iff.mp H
  obtain ⟨t104, A70, H⟩ := H
  replace H : (if t104 = true then ((impl_IsValidTally.f k l1_0 l1_1).bind fun t105 => (impl_AddTallies.j0 k (!t105) l0_0 l0_1 l1_0 l1_1)) else (impl_AddTallies.j0 k true l0_0 l0_1 l1_0 l1_1)) = some (r1, r2, r3) := H
  have A7 := Aside0.mk A70
  clear A70
  by_cases c8 : t104 = true
  ·
   subst c8
   have H1 : ((impl_IsValidTally.f k l1_0 l1_1).bind fun t105 => (impl_AddTallies.j0 k (!t105) l0_0 l0_1 l1_0 l1_1)) = some (r1, r2, r3) := by rw [if_pos rfl] at H; exact H
   clear H
   have H := H1
   clear H1
   replace H := Option.bind_eq_some_iff.mp H
   obtain ⟨t105, A90, H⟩ := H
   replace H : (impl_AddTallies.j0 k (!t105) l0_0 l0_1 l1_0 l1_1) = some (r1, r2, r3) := H
   have A9 := Aside0.mk A90
   clear A90
   have H' := Aside0.mk H
   clear H
   have hnb10 := NB101_102.out
   have hnc10 := NB102_101.out
   have hnb11 := NB101_103.out
   have hnc11 := NB103_101.out
   obtain ⟨hcz12_0, hcz12_1, hfz12_0, hfz12_1⟩ := bc2 BK101.out
   go_wp2_with (first | ((with_reducible refine gate_callee (f := 35) rfl ?_); refine gl (some 9) Try.func35 #[.agg #[.slice A0_0 l0_0.length c0_0, .slice A0_1 l0_1.length c0_1]] ?_; (with_reducible refine (impl_IsValidTally.calls k _ _ l0_0 _ _ l0_1 true _ ?side1 ?side2 ?side3 ?side4 A7.out).mono ?_); (case side1 => exact pC (Kd.C_below HR0_0.out HB.out)); (case side2 => exact HC0_0.out); (case side3 => exact pC (Kd.C_below HR0_1.out HB.out)); (case side4 => exact HC0_1.out); rintro e w13 ⟨rfl, hb⟩; refine ⟨_, rfl, ?_⟩; replace BK101 := bB BK101 hb; replace BK102 := bB BK102 hb; replace BK103 := bB BK103 hb; replace HB := bS HB hb; (try clear hb); (try clear hb2); (try clear hk); (try clear hi); have hnb14 := NB102_103.out; have hnc14 := NB103_102.out; obtain ⟨hcz15_0, hcz15_1, hfz15_0, hfz15_1⟩ := bc2 BK102.out) | (go_at_call 35; (with_reducible refine (impl_IsValidTally.calls k _ _ l1_0 _ _ l1_1 t105 _ ?side1 ?side2 ?side3 ?side4 A9.out).mono ?_); (case side1 => exact pC (Kd.C_below HR1_0.out HB.out)); (case side2 => exact HC1_0.out); (case side3 => exact pC (Kd.C_below HR1_1.out HB.out)); (case side4 => exact HC1_1.out); rintro e w16 ⟨rfl, hb⟩; replace BK101 := bB BK101 hb; replace BK102 := bB BK102 hb; replace BK103 := bB BK103 hb; replace HB := bS HB hb; (try clear hb); (try clear hb2); (try clear hk); (try clear hi)))
   go_meet
   case rel => exact ⟨_, (!t105), (by first | rfl | (simp; done) | (simp [*]; done)), H', ⟨by first | omega | exact Nat.le_refl _⟩, ⟨by refine bk ?_; exact BK101.out⟩, ⟨by refine bk ?_; exact BK102.out⟩, ⟨by refine bk ?_; exact BK103.out⟩, ⟨pT HB.out⟩⟩
  replace c8 := Bool.eq_false_iff.mpr c8
  subst c8
  have H1 : (impl_AddTallies.j0 k true l0_0 l0_1 l1_0 l1_1) = some (r1, r2, r3) := by rw [if_neg (show ¬ (false = true) by decide)] at H; exact H
  clear H
  have H := H1
  clear H1
  have H' := Aside0.mk H
  clear H
  have hnb17 := NB101_102.out
  have hnc17 := NB102_101.out
  have hnb18 := NB101_103.out
  have hnc18 := NB103_101.out
  obtain ⟨hcz19_0, hcz19_1, hfz19_0, hfz19_1⟩ := bc2 BK101.out
  go_wp2_with (first | ((with_reducible refine gate_callee (f := 35) rfl ?_); refine gl (some 9) Try.func35 #[.agg #[.slice A0_0 l0_0.length c0_0, .slice A0_1 l0_1.length c0_1]] ?_; (with_reducible refine (impl_IsValidTally.calls k _ _ l0_0 _ _ l0_1 false _ ?side1 ?side2 ?side3 ?side4 A7.out).mono ?_); (case side1 => exact pC (Kd.C_below HR0_0.out HB.out)); (case side2 => exact HC0_0.out); (case side3 => exact pC (Kd.C_below HR0_1.out HB.out)); (case side4 => exact HC0_1.out); rintro e w20 ⟨rfl, hb⟩; refine ⟨_, rfl, ?_⟩; replace BK101 := bB BK101 hb; replace BK102 := bB BK102 hb; replace BK103 := bB BK103 hb; replace HB := bS HB hb; (try clear hb); (try clear hb2); (try clear hk); (try clear hi)))
  go_meet
  case rel => exact ⟨_, (true), (by first | rfl | (simp; done) | (simp [*]; done)), H', ⟨by first | omega | exact Nat.le_refl _⟩, ⟨by refine bk ?_; exact BK101.out⟩, ⟨by refine bk ?_; exact BK102.out⟩, ⟨by refine bk ?_; exact BK103.out⟩, ⟨pT HB.out⟩⟩
 case rest =>
  clear HC3
  try clear c1
  try clear p2
  try clear c3
  try clear c8
  try clear c10
  try clear c11
  try clear c14
  try clear c17
  try clear c18
  try clear hcz12_0
  try clear hcz12_1
  try clear hcz15_0
  try clear hcz15_1
  try clear hcz19_0
  try clear hcz19_1
  try clear hfz12_0
  try clear hfz12_1
  try clear hfz15_0
  try clear hfz15_1
  try clear hfz19_0
  try clear hfz19_1
  obtain ⟨kq, x15_2, rfl, HA, HJ2, BK101, BK102, BK103, HB⟩ := hcut
  cases kq with
  | zero => exact absurd HA.out (by simp [impl_AddTallies.j0])
  | succ kj2 =>
   have H := HA.out
   clear HA
   simp only [impl_AddTallies.j0] at H
   by_cases c21 : x15_2 = true
   ·
    subst c21
    have H1 : (some (([] : List Int), ([] : List Int), false)) = some (r1, r2, r3) := by rw [if_pos rfl] at H; exact H
    clear H
    have H := H1
    clear H1
    simp only [Option.some.injEq, Prod.mk.injEq] at H
    obtain ⟨rfl, rfl, rfl⟩ := H
    have hnb22 := NB103_101.out
    have hnc22 := NB101_103.out
    have hnb23 := NB103_102.out
    have hnc23 := NB102_103.out
    obtain ⟨hcz24_0, hcz24_1, hfz24_0, hfz24_1⟩ := bc2 BK103.out
    go_wp2
    refine bodyPost_ret (results_ct rfl _ _ gb103 26 #[.slice none 0 0, .slice none 0 0] (0, 0) _ rfl (by refine bk ?_; refine blk_put (cs := #[.slice none 0 0, .slice none 0 0]) ?_ 1 _ rfl; refine bk ?_; refine blk_put (cs := #[.slice none 0 0, .slice none 0 0]) ?_ 0 _ rfl; refine bk ?_; exact BK103.out) Try.underlying26 rfl (by kernel_rfl)) rfl ?_
    exact ⟨_, _, er, by first | exact Kd.R_nil _ _ _ _ _ | exact Kd.N_nil _ _ _ _ _ | exact Kd.V_nil _ _ _ _ _ | exact Kd.Q_nil _ _ _ _ _ | exact Kd.S_nil _ _ _ _ _, by first | exact Kd.R_nil _ _ _ _ _ | exact Kd.N_nil _ _ _ _ _ | exact Kd.V_nil _ _ _ _ _ | exact Kd.Q_nil _ _ _ _ _ | exact Kd.S_nil _ _ _ _ _, pT HB.out⟩
   replace c21 := Bool.eq_false_iff.mpr c21
   subst c21
   have H1 : ((impl_cloneTally.f l0_0 l0_1).bind fun bt106 => (impl_AddTallies.l0 kj2 (bt106.1.length : Int) 0 l1_0 l1_1 bt106.1 bt106.2)) = some (r1, r2, r3) := by rw [if_neg (show ¬ (false = true) by decide)] at H; exact H
   clear H
   have H := H1
   clear H1
   replace H := Option.bind_eq_some_iff.mp H
   obtain ⟨⟨t106, t109⟩, A250, H⟩ := H
   replace H : (impl_AddTallies.l0 kj2 (t106.length : Int) 0 l1_0 l1_1 t106 t109) = some (r1, r2, r3) := H
   have A25 := Aside0.mk A250
   clear A250
   have H' := Aside0.mk H
   clear H
   have hnb26 := NB101_102.out
   have hnc26 := NB102_101.out
   have hnb27 := NB101_103.out
   have hnc27 := NB103_101.out
   obtain ⟨hcz28_0, hcz28_1, hfz28_0, hfz28_1⟩ := bc2 BK101.out
   go_wp2_with (first | ((with_reducible refine gate_callee (f := 42) rfl ?_); refine gl (some 18) Try.func42 #[.agg #[.slice A0_0 l0_0.length c0_0, .slice A0_1 l0_1.length c0_1]] ?_; (with_reducible refine (impl_cloneTally.calls _ _ l0_0 _ _ l0_1 t106 t109 _ ?side1 ?side2 ?side3 ?side4 A25.out).mono ?_); (case side1 => exact pC (Kd.C_below HR0_0.out HB.out)); (case side2 => exact HC0_0.out); (case side3 => exact pC (Kd.C_below HR0_1.out HB.out)); (case side4 => exact HC0_1.out); rintro e w29 ⟨v107, v110, rfl, ho0, ho1, hb⟩; refine ⟨_, rfl, ?_⟩; have HO108 := aK (Kd.R_lower ho0 (below_size (pS HB.out))); have HO111 := aK (Kd.R_lower ho1 (below_size (pS HB.out))); replace BK101 := bB BK101 hb; replace BK102 := bB BK102 hb; replace BK103 := bB BK103 hb; replace HB := bS HB hb; (try clear hb); (try clear hb2); (try clear hk); (try clear hi); (try clear ho0); (try clear ho1)) | ((with_reducible refine gate_dst (N := 6) rfl ?_); refine bxe (cs := #[.slice none 0 0, .slice none 0 0]) (t := 26) ?_; intro gb112 hg w30 hbox hb; have n0_ := aK (Kd.R_below (pR HO108.out) hb); have n1_ := aK (Kd.R_below (pR HO111.out) hb); have BK112 := aK (hbox); have GW112 := aK (gE hg (pS HB.out)); have GE112 := GW112; obtain ⟨NB101_112, NB112_101⟩ := nb hg (pB BK101.out); obtain ⟨NB102_112, NB112_102⟩ := nb hg (pB BK102.out); obtain ⟨NB103_112, NB112_103⟩ := nb hg (pB BK103.out); replace BK101 := bB BK101 hb; replace BK102 := bB BK102 hb; replace BK103 := bB BK103 hb; replace HB := bS HB hb; clear HO108 HO111; have HO108 := n0_; have HO111 := n1_; clear n0_ n1_ hb hbox hg; obtain ⟨Ao31, co31, eo31⟩ := Kd.R_slice HO108.out; subst eo31; have hnb32 := NB112_101.out; have hnc32 := NB101_112.out; have hnb33 := NB112_102.out; have hnc33 := NB102_112.out; have hnb34 := NB112_103.out; have hnc34 := NB103_112.out; obtain ⟨hcz35_0, hcz35_1, hfz35_0, hfz35_1⟩ := bc2 BK112.out; obtain ⟨Ao36, co36, eo36⟩ := Kd.R_slice HO111.out; subst eo36))
   go_loopg [22] kj2 (fun kq v22 w' => ∃ (x22_2 : Int) (x113000_2 : List Int) (x113001_2 : List Int) (u113000 : Value) (u113001 : Value), v22 = .int .i64 x22_2 ∧ Aside0 (impl_AddTallies.l0 kq (t106.length : Int) x22_2 l1_0 l1_1 x113000_2 x113001_2 = some (r1, r2, r3)) ∧ Aside0 (kq ≤ kj2) ∧ Aside0 (Kd.R (Kd.int .i64) 3 w' w.heap.size (fun k_ => some k_ ≠ (u113001 : Value).ownBlock) u113000 x113000_2) ∧ Aside0 (Kd.R (Kd.int .i64) 3 w' w.heap.size (fun k_ => some k_ ≠ (u113000 : Value).ownBlock) u113001 x113001_2) ∧ Aside0 (w'.heap[gb101]? = some (.cells #[(.slice A0_0 l0_0.length c0_0), (.slice A0_1 l0_1.length c0_1)] 26 (0, 0))) ∧ Aside0 (w'.heap[gb102]? = some (.cells #[(.slice A1_0 l1_0.length c1_0), (.slice A1_1 l1_1.length c1_1)] 26 (0, 0))) ∧ Aside0 (w'.heap[gb103]? = some (.cells #[(.slice none 0 0), (.slice none 0 0)] 26 (0, 0))) ∧ Aside0 (w'.heap[gb112]? = some (.cells #[u113000, u113001] 26 (0, 0))) ∧ Aside0 (Below w.heap.size w w'))
   case atStart => exact ⟨(0), (t106), (t109), (.slice Ao31 t106.length co31), (.slice Ao36 t109.length co36), (by first | rfl | (simp; done) | (simp [*]; done)), H', ⟨Nat.le_refl _⟩, ⟨pR (rF2 HO108.out BK112.out (.slice Ao31 t106.length co31) (.slice Ao36 t109.length co36))⟩, ⟨pR (rF2 HO111.out BK112.out (.slice Ao31 t106.length co31) (.slice Ao36 t109.length co36))⟩, ⟨by refine bk ?_; refine blk_far ?_ NB101_112.out _; refine bk ?_; refine blk_far ?_ NB101_112.out _; refine bk ?_; exact BK101.out⟩, ⟨by refine bk ?_; refine blk_far ?_ NB102_112.out _; refine bk ?_; refine blk_far ?_ NB102_112.out _; refine bk ?_; exact BK102.out⟩, ⟨by refine bk ?_; refine blk_far ?_ NB103_112.out _; refine bk ?_; refine blk_far ?_ NB103_112.out _; refine bk ?_; exact BK103.out⟩, ⟨by refine bk ?_; refine blk_put (cs := #[.slice Ao31 t106.length co31, .slice none 0 0]) ?_ 1 _ rfl; refine bk ?_; refine blk_put (cs := #[.slice none 0 0, .slice none 0 0]) ?_ 0 _ rfl; refine bk ?_; exact BK112.out⟩, ⟨pT HB.out⟩⟩
   case round =>
    clear H'
    try clear c1
    try clear c2
    try clear p2
    try clear c3
    try clear c4
    try clear c8
    try clear c10
    try clear c11
    try clear c14
    try clear c17
    try clear c18
    try clear c21
    try clear c22
    try clear c23
    try clear c26
    try clear c27
    try clear c32
    try clear c33
    try clear c34
    try clear c35
    try clear hcz12_0
    try clear hcz12_1
    try clear hcz15_0
    try clear hcz15_1
    try clear hcz19_0
    try clear hcz19_1
    try clear hcz24_0
    try clear hcz24_1
    try clear hcz28_0
    try clear hcz28_1
    try clear hcz35_0
    try clear hcz35_1
    try clear hfz12_0
    try clear hfz12_1
    try clear hfz15_0
    try clear hfz15_1
    try clear hfz19_0
    try clear hfz19_1
    try clear hfz24_0
    try clear hfz24_1
    try clear hfz28_0
    try clear hfz28_1
    try clear hfz35_0
    try clear hfz35_1
    try clear p2
    obtain ⟨x22_2, x113000_2, x113001_2, u113000, u113001, rfl, HA, HK2, HO_113000, HO_113001, BK101, BK102, BK103, BK112, HB⟩ := hrel
    cases gk with
    | zero => exact absurd HA.out (by simp [impl_AddTallies.l0])
    | succ k2 =>
     have H := HA.out
     clear HA
     simp only [impl_AddTallies.l0] at H
     by_cases c37 : x22_2 < (t106.length : Int)
     ·
      rw [if_pos c37] at H
      have c37b0 : decide (x22_2 < (t106.length : Int)) = true := decide_eq_true c37
      clear c37
      by_cases c38 : 0 ≤ x22_2
      ·
       rw [if_pos c38] at H
       have c38b0 : decide (0 ≤ x22_2) = true := decide_eq_true c38
       clear c38
       by_cases c39 : x22_2 < (x113000_2.length : Int)
       ·
        rw [if_pos c39] at H
        have c39b0 : decide (x22_2 < (x113000_2.length : Int)) = true := decide_eq_true c39
        clear c39
        by_cases c40 : x22_2 < (l1_0.length : Int)
        ·
         rw [if_pos c40] at H
         have c40b0 : decide (x22_2 < (l1_0.length : Int)) = true := decide_eq_true c40
         clear c40
         obtain ⟨y115, hy115⟩ : ∃ y_ : List Int, y_ = (x113000_2.set (x22_2 : Int).toNat (wrap64 ((rd x113000_2 x22_2) + (rd l1_0 x22_2)))) := ⟨_, rfl⟩
         replace H : (if x22_2 < (x113001_2.length : Int) then (if x22_2 < (l1_1.length : Int) then (impl_AddTallies.l0 k2 (t106.length : Int) (wrap64 (x22_2 + 1)) l1_0 l1_1 y115 (x113001_2.set (x22_2 : Int).toNat (wrap64 ((rd x113001_2 x22_2) + (rd l1_1 x22_2))))) else (none)) else (none)) = some (r1, r2, r3) := by first | (rw [hy115]; with_reducible exact H) | (have H2_ := (Option.bind_some _ _).symm.trans H; rw [hy115]; with_reducible exact H2_) | (have H2_ := (Option.bind_some _ _).symm.trans H; with_reducible exact H2_) | with_reducible exact H | (rw [hy115]; exact H) | exact H
         have Ny115 := Aside0.mk hy115
         clear hy115
         by_cases c42 : x22_2 < (x113001_2.length : Int)
         ·
          rw [if_pos c42] at H
          have c42b0 : decide (x22_2 < (x113001_2.length : Int)) = true := decide_eq_true c42
          clear c42
          by_cases c43 : x22_2 < (l1_1.length : Int)
          ·
           rw [if_pos c43] at H
           have c43b0 : decide (x22_2 < (l1_1.length : Int)) = true := decide_eq_true c43
           clear c43
           obtain ⟨y118, hy118⟩ : ∃ y_ : List Int, y_ = (x113001_2.set (x22_2 : Int).toNat (wrap64 ((rd x113001_2 x22_2) + (rd l1_1 x22_2)))) := ⟨_, rfl⟩
           replace H : (impl_AddTallies.l0 k2 (t106.length : Int) (wrap64 (x22_2 + 1)) l1_0 l1_1 y115 y118) = some (r1, r2, r3) := by first | (rw [hy118]; with_reducible exact H) | (have H2_ := (Option.bind_some _ _).symm.trans H; rw [hy118]; with_reducible exact H2_) | (have H2_ := (Option.bind_some _ _).symm.trans H; with_reducible exact H2_) | with_reducible exact H | (rw [hy118]; exact H) | exact H
           have Ny118 := Aside0.mk hy118
           clear hy118
           have H' := Aside0.mk H
           clear H
           try go_wp2
           have n0_ := aK (Kd.R_drew HO_113000.out)
           have n1_ := aK (Kd.R_drew HO_113001.out)
           have n2_ := aK (blk_drew BK101.out)
           have n3_ := aK (blk_drew BK102.out)
           have n4_ := aK (blk_drew BK103.out)
           have n5_ := aK (blk_drew BK112.out)
           have n6_ := aK (below_drew1 HB.out)
           clear HO_113000 HO_113001 BK101 BK102 BK103 BK112 HB
           have HO_113000 := n0_
           have HO_113001 := n1_
           have BK101 := n2_
           have BK102 := n3_
           have BK103 := n4_
           have BK112 := n5_
           have HB := n6_
           clear n0_ n1_ n2_ n3_ n4_ n5_ n6_
           obtain ⟨Ao46, co46, eo46⟩ := Kd.R_slice HO_113000.out
           (first | subst eo46 | (obtain ⟨f4_, f5_⟩ := sI eo46; subst f4_; subst f5_))
           have p113 : 0 ≤ (x22_2 : Int) := of_decide_eq_true (by first | (with_reducible assumption) | assumption)
           have q113 : x22_2 < (x113000_2.length : Int) := of_decide_eq_true (by first | (with_reducible assumption) | assumption)
           obtain ⟨ad113, e113, hx113_0⟩ := Kd.at_int (Kd.R_reads' HO_113000.out).2.2 x22_2 p113 q113
           cases e113
           replace p113 := eq_true p113
           replace q113 := eq_true q113
           have p114 : 0 ≤ (x22_2 : Int) := of_decide_eq_true (by first | (with_reducible assumption) | assumption)
           have q114 : x22_2 < (l1_0.length : Int) := of_decide_eq_true (by first | (with_reducible assumption) | assumption)
           obtain ⟨ad114, e114, hx114_0⟩ := Kd.at_int HR1_0.out x22_2 p114 q114
           have hw114_0 := hx114_0
           cases e114
           replace hx114_0 := (HB.out.cell (World.block_lt_of_cell? w _ hx114_0)).trans hx114_0
           replace p114 := eq_true p114
           replace q114 := eq_true q114
           have p41 : 0 ≤ (x22_2 : Int) := of_decide_eq_true (by first | (with_reducible assumption) | assumption)
           have q41 : (x22_2 : Int) < ((x113000_2.length : Int) : Int) := of_decide_eq_true (by first | (with_reducible assumption) | assumption)
           obtain ⟨go41, co41, eo41, gb41, gl41, cl41, HG41⟩ := Kd.R_form HO_113000.out (by omega)
           (first | cases eo41 | (injection eo41 with ea_ en_ ec_; (first | subst ea_ | (injection ea_ with ea_; subst ea_)); subst ec_; clear en_))
           have GB41 := Aside0.mk gb41
           have GG41 := Aside0.mk HG41
           clear gb41 gl41 HG41
           (first | simp only [add_plain] at hx113_0 | skip)
           obtain ⟨hx41_0, hf41_0⟩ := Kd.R_celln 0 HO_113000.out (x22_2 : Int) p41 q41
           replace p41 := eq_true p41
           replace q41 := eq_true q41
           have HP47 := Kd.R_putn HO_113000.out (x22_2 : Int) (wrap64 ((rd x113000_2 x22_2) + (rd l1_0 x22_2)))
           rw [← Ny115.out] at HP47
           have HQ47 := Aside0.mk HP47
           clear HP47
           refine start_ (n := 13) (S := fun w' => w'.cell? ⟨gb112, 0, none⟩ = some (.slice (some ⟨go41, 0, none⟩) x113000_2.length co46) ∧ w'.cell? ⟨gb112, 1, none⟩ = some (u113001) ∧ w'.cell? ⟨gb102, 0, none⟩ = some (.slice (some ad114) l1_0.length c1_0) ∧ w'.cell? ⟨gb102, 1, none⟩ = some (.slice A1_1 l1_1.length c1_1) ∧ w'.cell? ⟨go41, (x22_2).toNat, none⟩ = some (.int .i64 (rd x113000_2 x22_2)) ∧ w'.cell? (ad114.add (x22_2).toNat) = some (.int .i64 (rd l1_0 x22_2))) (ds := [12]) #[false, false, false, false, false, false, false, false, false, false, false, false, false] (by kernel_rfl) rfl rfl ⟨(blk_cell BK112.out 0).trans rfl, (blk_cell BK112.out 1).trans rfl, (blk_cell BK102.out 0).trans rfl, (blk_cell BK102.out 1).trans rfl, hx113_0, ((HB.out.cell (World.block_lt_of_cell? w _ hw114_0)).trans hw114_0)⟩ (fun hHeld => ?_); refine with_tabW impl_AddTallies.tab7 impl_AddTallies.bits7 (fun HT_ HW_ => ?_)
           generalize wr.drew = w45 at HO_113000 HO_113001 BK101 BK102 BK103 BK112 HB GG41 HQ47 hf41_0 hx113_0 hx114_0 hx41_0 hHeld ⊢
           refine pu (i := 0) (N := some 25) #[true, false, false, false, false, false, false, false, false, false, false, false, false] rfl rfl HT_.out ?_
           refine pu (i := 2) (N := some 27) #[true, false, true, false, false, false, false, false, false, false, false, false, false] rfl rfl HT_.out ?_
           refine pu (i := 5) (N := some 30) #[true, false, true, false, false, true, false, false, false, false, false, false, false] rfl rfl HT_.out ?_
           refine pu (i := 7) (N := some 32) #[true, false, true, false, false, true, false, true, false, false, false, false, false] rfl rfl HT_.out ?_
           refine tk (i := 1) (N := some 26) #[true, true, true, false, false, true, false, true, false, false, false, false, false] rfl rfl HT_.out HW_.out (Or.inl ⟨by rfl, by rintro w' ⟨s0, s1, s2, s3, s4, s5⟩; go_simp; with_reducible rfl⟩) hHeld ?_
           refine pu (i := 3) (N := some 28) #[true, true, true, true, false, true, false, true, false, false, false, false, false] rfl rfl HT_.out ?_
           refine tk (i := 4) (N := some 29) #[true, true, true, true, true, true, false, true, false, false, false, false, false] rfl rfl HT_.out HW_.out (Or.inl ⟨by rfl, by rintro w' ⟨s0, s1, s2, s3, s4, s5⟩; go_simp; with_reducible rfl⟩) hHeld ?_
           refine tk (i := 6) (N := some 31) #[true, true, true, true, true, true, true, true, false, false, false, false, false] rfl rfl HT_.out HW_.out (Or.inl ⟨by rfl, by rintro w' ⟨s0, s1, s2, s3, s4, s5⟩; go_simp; with_reducible rfl⟩) hHeld ?_
           refine pu (i := 8) (N := some 33) #[true, true, true, true, true, true, true, true, true, false, false, false, false] rfl rfl HT_.out ?_
           refine tk (i := 9) (N := some 34) #[true, true, true, true, true, true, true, true, true, true, false, false, false] rfl rfl HT_.out HW_.out (Or.inl ⟨by rfl, by rintro w' ⟨s0, s1, s2, s3, s4, s5⟩; go_simp; with_reducible rfl⟩) hHeld ?_
           refine pu (i := 10) (N := some 35) #[true, true, true, true, true, true, true, true, true, true, true, false, false] rfl rfl HT_.out ?_
           refine pu (i := 11) (N := some 36) #[true, true, true, true, true, true, true, true, true, true, true, true, false] rfl rfl HT_.out ?_
           refine last_ (i := 12) (N := none) #[true, true, true, true, true, true, true, true, true, true, true, true, true] rfl rfl (one_of HT_.out (by kernel_rfl)) (by decide) (fun K hK => ?_)
           refine skip_ (w1 := ?_) (by rfl) rfl ?_ ?_
           rotate_left
           ·
            go_simp
            rfl
           refine hK.out _ _ ?_
           clear hK K
           refine done_ (done_of HT_.out (by kernel_rfl)) ?_
           try go_wp2
           have n0_ : Aside0 (Kd.R (Kd.int .i64) 3 (w45.setCell ⟨go41, (x22_2 : Int).toNat, none⟩ (.int .i64 (wrap64 ((rd x113000_2 x22_2) + (rd l1_0 x22_2))))) w.heap.size (fun k_ => some k_ ≠ (u113001 : Value).ownBlock) (.slice (some ⟨go41, 0, none⟩) x113000_2.length co46) y115) := ⟨pR HQ47.out⟩
           have n1_ : Aside0 (Kd.R (Kd.int .i64) 3 (w45.setCell ⟨go41, (x22_2 : Int).toNat, none⟩ (.int .i64 (wrap64 ((rd x113000_2 x22_2) + (rd l1_0 x22_2))))) w.heap.size (fun k_ => some k_ ≠ (.slice (some ⟨go41, 0, none⟩) x113000_2.length co46 : Value).ownBlock) u113001 x113001_2) := ⟨by (with_reducible repeat (first | apply Kd.R_alloc | apply Kd.R_drewN | apply Kd.R_drew)); exact Kd.R_mono (Kd.R_far (p := ⟨go41, (x22_2 : Int).toNat, none⟩) (Kd.R_mono HO_113001.out (fun k_ hk => (⟨hk, fun e_ => hk (by rw [e_]; rfl)⟩ : _ ∧ k_ ≠ go41))) (fun _ hk => hk.2) (.int .i64 (wrap64 ((rd x113000_2 x22_2) + (rd l1_0 x22_2))))) (fun _ hk => hk.1)⟩
           have n2_ : Aside0 ((w45.setCell ⟨go41, (x22_2 : Int).toNat, none⟩ (.int .i64 (wrap64 ((rd x113000_2 x22_2) + (rd l1_0 x22_2))))).heap[gb101]? = some (.cells #[.slice A0_0 l0_0.length c0_0, .slice A0_1 l0_1.length c0_1] 26 (0, 0))) := ⟨by refine bk ?_; refine blk_far ?_ (by have h_ := Kd.R_ne HO_113000.out BK101.out (by decide); intro e_; exact h_ (by rw [e_]; rfl)) _; refine bk ?_; exact BK101.out⟩
           have n3_ : Aside0 ((w45.setCell ⟨go41, (x22_2 : Int).toNat, none⟩ (.int .i64 (wrap64 ((rd x113000_2 x22_2) + (rd l1_0 x22_2))))).heap[gb102]? = some (.cells #[.slice (some ad114) l1_0.length c1_0, .slice A1_1 l1_1.length c1_1] 26 (0, 0))) := ⟨by refine bk ?_; refine blk_far ?_ (by have h_ := Kd.R_ne HO_113000.out BK102.out (by decide); intro e_; exact h_ (by rw [e_]; rfl)) _; refine bk ?_; exact BK102.out⟩
           have n4_ : Aside0 ((w45.setCell ⟨go41, (x22_2 : Int).toNat, none⟩ (.int .i64 (wrap64 ((rd x113000_2 x22_2) + (rd l1_0 x22_2))))).heap[gb103]? = some (.cells #[.slice none 0 0, .slice none 0 0] 26 (0, 0))) := ⟨by refine bk ?_; refine blk_far ?_ (by have h_ := Kd.R_ne HO_113000.out BK103.out (by decide); intro e_; exact h_ (by rw [e_]; rfl)) _; refine bk ?_; exact BK103.out⟩
           have n5_ : Aside0 ((w45.setCell ⟨go41, (x22_2 : Int).toNat, none⟩ (.int .i64 (wrap64 ((rd x113000_2 x22_2) + (rd l1_0 x22_2))))).heap[gb112]? = some (.cells #[.slice (some ⟨go41, 0, none⟩) x113000_2.length co46, u113001] 26 (0, 0))) := ⟨by refine bk ?_; refine blk_far ?_ (by have h_ := Kd.R_ne HO_113000.out BK112.out (by decide); intro e_; exact h_ (by rw [e_]; rfl)) _; refine bk ?_; exact BK112.out⟩
           have n6_ : Aside0 (Below w.heap.size w (w45.setCell ⟨go41, (x22_2 : Int).toNat, none⟩ (.int .i64 (wrap64 ((rd x113000_2 x22_2) + (rd l1_0 x22_2)))))) := ⟨by repeat (first | (with_reducible first | exact HB.out | apply below_alloc | apply pw_below_drewN | apply below_drew1 | refine below_set ?_ GB41.out | refine below_set ?_ GE101.out | refine below_set ?_ GE102.out | refine below_set ?_ GE103.out | refine below_set ?_ GE112.out) | exact HB.out)⟩
           (try clear HO_113000)
           (try clear HO_113001)
           (try clear BK101)
           (try clear BK102)
           (try clear BK103)
           (try clear BK112)
           (try clear HB)
           generalize (w45.setCell ⟨go41, (x22_2 : Int).toNat, none⟩ (.int .i64 (wrap64 ((rd x113000_2 x22_2) + (rd l1_0 x22_2))))) = w48 at n0_ n1_ n2_ n3_ n4_ n5_ n6_ ⊢
           have HO_113000 := n0_
           have HO_113001 := n1_
           have BK101 := n2_
           have BK102 := n3_
           have BK103 := n4_
           have BK112 := n5_
           have HB := n6_
           clear n0_ n1_ n2_ n3_ n4_ n5_ n6_
           have n0_ := aK (Kd.R_drew HO_113000.out)
           have n1_ := aK (Kd.R_drew HO_113001.out)
           have n2_ := aK (blk_drew BK101.out)
           have n3_ := aK (blk_drew BK102.out)
           have n4_ := aK (blk_drew BK103.out)
           have n5_ := aK (blk_drew BK112.out)
           have n6_ := aK (below_drew1 HB.out)
           clear HO_113000 HO_113001 BK101 BK102 BK103 BK112 HB
           have HO_113000 := n0_
           have HO_113001 := n1_
           have BK101 := n2_
           have BK102 := n3_
           have BK103 := n4_
           have BK112 := n5_
           have HB := n6_
           clear n0_ n1_ n2_ n3_ n4_ n5_ n6_
           obtain ⟨Ao50, co50, eo50⟩ := Kd.R_slice HO_113001.out
           (first | subst eo50 | (obtain ⟨f4_, f5_⟩ := sI eo50; subst f4_; subst f5_))
           have p116 : 0 ≤ (x22_2 : Int) := of_decide_eq_true (by first | (with_reducible assumption) | assumption)
           have q116 : x22_2 < (x113001_2.length : Int) := of_decide_eq_true (by first | (with_reducible assumption) | assumption)
           obtain ⟨ad116, e116, hx116_0⟩ := Kd.at_int (Kd.R_reads' HO_113001.out).2.2 x22_2 p116 q116
           cases e116
           replace p116 := eq_true p116
           replace q116 := eq_true q116
           have p117 : 0 ≤ (x22_2 : Int) := of_decide_eq_true (by first | (with_reducible assumption) | assumption)
           have q117 : x22_2 < (l1_1.length : Int) := of_decide_eq_true (by first | (with_reducible assumption) | assumption)
           obtain ⟨ad117, e117, hx117_0⟩ := Kd.at_int HR1_1.out x22_2 p117 q117
           have hw117_0 := hx117_0
           cases e117
           replace hx117_0 := (HB.out.cell (World.block_lt_of_cell? w _ hx117_0)).trans hx117_0
           replace p117 := eq_true p117
           replace q117 := eq_true q117
           have p44 : 0 ≤ (x22_2 : Int) := of_decide_eq_true (by first | (with_reducible assumption) | assumption)
           have q44 : (x22_2 : Int) < ((x113001_2.length : Int) : Int) := of_decide_eq_true (by first | (with_reducible assumption) | assumption)
           obtain ⟨go44, co44, eo44, gb44, gl44, cl44, HG44⟩ := Kd.R_form HO_113001.out (by omega)
           (first | cases eo44 | (injection eo44 with ea_ en_ ec_; (first | subst ea_ | (injection ea_ with ea_; subst ea_)); subst ec_; clear en_))
           have GB44 := Aside0.mk gb44
           have GG44 := Aside0.mk HG44
           clear gb44 gl44 HG44
           (first | simp only [add_plain] at hx116_0 | skip)
           obtain ⟨hx44_0, hf44_0⟩ := Kd.R_celln 0 HO_113001.out (x22_2 : Int) p44 q44
           replace p44 := eq_true p44
           replace q44 := eq_true q44
           have HP51 := Kd.R_putn HO_113001.out (x22_2 : Int) (wrap64 ((rd x113001_2 x22_2) + (rd l1_1 x22_2)))
           rw [← Ny118.out] at HP51
           have HQ51 := Aside0.mk HP51
           clear HP51
           refine start_ (n := 13) (S := fun w' => w'.cell? ⟨gb112, 0, none⟩ = some (.slice (some ⟨go41, 0, none⟩) x113000_2.length co46) ∧ w'.cell? ⟨gb112, 1, none⟩ = some (.slice (some ⟨go44, 0, none⟩) x113001_2.length co50) ∧ w'.cell? ⟨gb102, 0, none⟩ = some (.slice (some ad114) l1_0.length c1_0) ∧ w'.cell? ⟨gb102, 1, none⟩ = some (.slice (some ad117) l1_1.length c1_1) ∧ w'.cell? ⟨go44, (x22_2).toNat, none⟩ = some (.int .i64 (rd x113001_2 x22_2)) ∧ w'.cell? (ad117.add (x22_2).toNat) = some (.int .i64 (rd l1_1 x22_2))) (ds := [12]) #[false, false, false, false, false, false, false, false, false, false, false, false, false] (by kernel_rfl) rfl rfl ⟨(blk_cell BK112.out 0).trans rfl, (blk_cell BK112.out 1).trans rfl, (blk_cell BK102.out 0).trans rfl, (blk_cell BK102.out 1).trans rfl, hx116_0, ((HB.out.cell (World.block_lt_of_cell? w _ hw117_0)).trans hw117_0)⟩ (fun hHeld => ?_); refine with_tabW impl_AddTallies.tab8 impl_AddTallies.bits8 (fun HT_ HW_ => ?_)
           generalize w48.drew = w49 at HO_113000 HO_113001 BK101 BK102 BK103 BK112 HB GG44 HQ47 HQ51 hf44_0 hx116_0 hx117_0 hx44_0 hHeld ⊢
           refine pu (i := 0) (N := some 37) #[true, false, false, false, false, false, false, false, false, false, false, false, false] rfl rfl HT_.out ?_
           refine pu (i := 2) (N := some 39) #[true, false, true, false, false, false, false, false, false, false, false, false, false] rfl rfl HT_.out ?_
           refine pu (i := 5) (N := some 42) #[true, false, true, false, false, true, false, false, false, false, false, false, false] rfl rfl HT_.out ?_
           refine pu (i := 7) (N := some 44) #[true, false, true, false, false, true, false, true, false, false, false, false, false] rfl rfl HT_.out ?_
           refine tk (i := 1) (N := some 38) #[true, true, true, false, false, true, false, true, false, false, false, false, false] rfl rfl HT_.out HW_.out (Or.inl ⟨by rfl, by rintro w' ⟨s0, s1, s2, s3, s4, s5⟩; go_simp; with_reducible rfl⟩) hHeld ?_
           refine pu (i := 3) (N := some 40) #[true, true, true, true, false, true, false, true, false, false, false, false, false] rfl rfl HT_.out ?_
           refine tk (i := 4) (N := some 41) #[true, true, true, true, true, true, false, true, false, false, false, false, false] rfl rfl HT_.out HW_.out (Or.inl ⟨by rfl, by rintro w' ⟨s0, s1, s2, s3, s4, s5⟩; go_simp; with_reducible rfl⟩) hHeld ?_
           refine tk (i := 6) (N := some 43) #[true, true, true, true, true, true, true, true, false, false, false, false, false] rfl rfl HT_.out HW_.out (Or.inl ⟨by rfl, by rintro w' ⟨s0, s1, s2, s3, s4, s5⟩; go_simp; with_reducible rfl⟩) hHeld ?_
           refine pu (i := 8) (N := some 45) #[true, true, true, true, true, true, true, true, true, false, false, false, false] rfl rfl HT_.out ?_
           refine tk (i := 9) (N := some 46) #[true, true, true, true, true, true, true, true, true, true, false, false, false] rfl rfl HT_.out HW_.out (Or.inl ⟨by rfl, by rintro w' ⟨s0, s1, s2, s3, s4, s5⟩; go_simp; with_reducible rfl⟩) hHeld ?_
           refine pu (i := 10) (N := some 47) #[true, true, true, true, true, true, true, true, true, true, true, false, false] rfl rfl HT_.out ?_
           refine pu (i := 11) (N := some 48) #[true, true, true, true, true, true, true, true, true, true, true, true, false] rfl rfl HT_.out ?_
           refine last_ (i := 12) (N := none) #[true, true, true, true, true, true, true, true, true, true, true, true, true] rfl rfl (one_of HT_.out (by kernel_rfl)) (by decide) (fun K hK => ?_)
           refine skip_ (w1 := ?_) (by rfl) rfl ?_ ?_
           rotate_left
           ·
            go_simp
            rfl
           refine hK.out _ _ ?_
           clear hK K
           refine done_ (done_of HT_.out (by kernel_rfl)) ?_
           try go_wp2
           go_roundg k2
           case measure => have := HJ2.out; have := HK2.out; omega
           case rel => exact ⟨(wrap64 (x22_2 + 1)), (y115), (y118), (.slice (some ⟨go41, 0, none⟩) x113000_2.length co46), (.slice (some ⟨go44, 0, none⟩) x113001_2.length co50), (by first | rfl | (simp; done) | (simp [*]; done)), H', ⟨by have := HJ2.out; have := HK2.out; omega⟩, ⟨by (with_reducible repeat (first | apply Kd.R_alloc | apply Kd.R_drewN | apply Kd.R_drew)); exact Kd.R_mono (Kd.R_far (p := ⟨go44, (x22_2 : Int).toNat, none⟩) (Kd.R_mono HO_113000.out (fun k_ hk => (⟨hk, fun e_ => hk (by rw [e_]; rfl)⟩ : _ ∧ k_ ≠ go44))) (fun _ hk => hk.2) (.int .i64 (wrap64 ((rd x113001_2 x22_2) + (rd l1_1 x22_2))))) (fun _ hk => hk.1)⟩, ⟨pR HQ51.out⟩, ⟨by refine bk ?_; refine blk_far ?_ (by have h_ := Kd.R_ne HO_113001.out BK101.out (by decide); intro e_; exact h_ (by rw [e_]; rfl)) _; refine bk ?_; exact BK101.out⟩, ⟨by refine bk ?_; refine blk_far ?_ (by have h_ := Kd.R_ne HO_113001.out BK102.out (by decide); intro e_; exact h_ (by rw [e_]; rfl)) _; refine bk ?_; exact BK102.out⟩, ⟨by refine bk ?_; refine blk_far ?_ (by have h_ := Kd.R_ne HO_113001.out BK103.out (by decide); intro e_; exact h_ (by rw [e_]; rfl)) _; refine bk ?_; exact BK103.out⟩, ⟨by refine bk ?_; refine blk_far ?_ (by have h_ := Kd.R_ne HO_113001.out BK112.out (by decide); intro e_; exact h_ (by rw [e_]; rfl)) _; refine bk ?_; exact BK112.out⟩, ⟨by repeat (first | (with_reducible first | exact HB.out | apply below_alloc | apply pw_below_drewN | apply below_drew1 | refine below_set ?_ GB44.out | refine below_set ?_ GE101.out | refine below_set ?_ GE102.out | refine below_set ?_ GE103.out | refine below_set ?_ GE112.out) | exact HB.out)⟩⟩
          rw [if_neg c43] at H
          exact absurd H (by simp)
         rw [if_neg c42] at H
         exact absurd H (by simp)
        rw [if_neg c40] at H
        exact absurd H (by simp)
       rw [if_neg c39] at H
       exact absurd H (by simp)
      rw [if_neg c38] at H
      exact absurd H (by simp)
     rw [if_neg c37] at H
     have c37b0 : decide (x22_2 < (t106.length : Int)) = false := decide_eq_false c37
     clear c37
     replace H := Option.bind_eq_some_iff.mp H
     obtain ⟨⟨t119, t122, t125⟩, A520, H⟩ := H
     replace H : (some (t119, t122, t125)) = some (r1, r2, r3) := H
     have A52 := Aside0.mk A520
     clear A520
     simp only [Option.some.injEq, Prod.mk.injEq] at H
     obtain ⟨rfl, rfl, rfl⟩ := H
     have hnb53 := NB112_101.out
     have hnc53 := NB101_112.out
     have hnb54 := NB112_102.out
     have hnc54 := NB102_112.out
     have hnb55 := NB112_103.out
     have hnc55 := NB103_112.out
     obtain ⟨hcz56_0, hcz56_1, hfz56_0, hfz56_1⟩ := bc2 BK112.out
     obtain ⟨Ao57, co57, eo57⟩ := Kd.R_slice HO_113000.out
     subst eo57
     obtain ⟨Ao58, co58, eo58⟩ := Kd.R_slice HO_113001.out
     subst eo58
     go_wp2_with (first | ((with_reducible refine gate_callee (f := 43) rfl ?_); refine gl (some 51) Try.func43 #[.agg #[.slice Ao57 x113000_2.length co57, .slice Ao58 x113001_2.length co58]] ?_; (with_reducible refine (impl_checkedTally.calls k2 (fun k_ => some k_ = (.slice Ao57 x113000_2.length co57 : Value).ownBlock) (.slice Ao57 x113000_2.length co57) x113000_2 (fun k_ => some k_ = (.slice Ao58 x113001_2.length co58 : Value).ownBlock) (.slice Ao58 x113001_2.length co58) x113001_2 t119 t122 t125 w _ ?side1 ?side2 ?side3 ?side4 ?side5 A52.out).mono ?_); (case side1 => exact pT HB.out); (case side2 => exact Kd.R_tight rfl HO_113000.out); (case side3 => exact fun k_ e_ => (HO_113000.out.1 k_ e_.symm)); (case side4 => exact Kd.R_tight rfl HO_113001.out); (case side5 => exact fun k_ e_ => (HO_113001.out.1 k_ e_.symm)); rintro e w59 ⟨v120, v123, rfl, ho0, ho1, hb, hkp⟩; refine ⟨_, rfl, ?_⟩; have n0_ := aK (blk_kept (pB BK101.out) hkp (fun hs_ => Or.elim hs_ (fun e_ => (fun e_ => (Kd.R_ne HO_113000.out BK101.out (by decide)) e_) e_) (fun e_ => (fun e_ => (Kd.R_ne HO_113001.out BK101.out (by decide)) e_) e_))); have n1_ := aK (blk_kept (pB BK102.out) hkp (fun hs_ => Or.elim hs_ (fun e_ => (fun e_ => (Kd.R_ne HO_113000.out BK102.out (by decide)) e_) e_) (fun e_ => (fun e_ => (Kd.R_ne HO_113001.out BK102.out (by decide)) e_) e_))); have n2_ := aK (blk_kept (pB BK103.out) hkp (fun hs_ => Or.elim hs_ (fun e_ => (fun e_ => (Kd.R_ne HO_113000.out BK103.out (by decide)) e_) e_) (fun e_ => (fun e_ => (Kd.R_ne HO_113001.out BK103.out (by decide)) e_) e_))); have n3_ := aK (blk_kept (pB BK112.out) hkp (fun hs_ => Or.elim hs_ (fun e_ => (fun e_ => (Kd.R_ne HO_113000.out BK112.out (by decide)) e_) e_) (fun e_ => (fun e_ => (Kd.R_ne HO_113001.out BK112.out (by decide)) e_) e_))); have HO121 := aK (Kd.R_mono (ok' := fun k_ => some k_ ≠ (v123 : Value).ownBlock) ho0 (fun k_ hk_ => hk_.2)); have HO124 := aK (Kd.R_mono (ok' := fun k_ => some k_ ≠ (v120 : Value).ownBlock) ho1 (fun k_ hk_ => hk_.2)); have n6_ := aK (hb); clear BK101 BK102 BK103 BK112 HB HO_113000 HO_113001; have BK101 := n0_; have BK102 := n1_; have BK103 := n2_; have BK112 := n3_; have HB := n6_; clear n0_ n1_ n2_ n3_ n6_; (try clear hb); (try clear hkp); (try clear ho0); (try clear ho1); obtain ⟨Ao60, co60, eo60⟩ := Kd.R_slice HO121.out; subst eo60; have hnb61 := NB103_101.out; have hnc61 := NB101_103.out; have hnb62 := NB103_102.out; have hnc62 := NB102_103.out; obtain ⟨hcz63_0, hcz63_1, hfz63_0, hfz63_1⟩ := bc2 BK103.out; obtain ⟨Ao64, co64, eo64⟩ := Kd.R_slice HO124.out; subst eo64))
     refine bodyPost_ret (results_ct rfl _ _ gb103 26 #[.slice Ao60 t119.length co60, .slice Ao64 t122.length co64] (0, 0) _ rfl (by refine bk ?_; refine blk_put (cs := #[.slice Ao60 t119.length co60, .slice none 0 0]) ?_ 1 _ rfl; refine bk ?_; refine blk_put (cs := #[.slice none 0 0, .slice none 0 0]) ?_ 0 _ rfl; refine bk ?_; exact BK103.out) Try.underlying26 rfl (by kernel_rfl)) rfl ?_
     exact ⟨_, _, er, by (with_reducible repeat (first | apply Kd.R_alloc | apply Kd.R_drewN | apply Kd.R_drew)); exact rF2 HO121.out BK103.out (.slice Ao60 t119.length co60) (.slice Ao64 t122.length co64), by (with_reducible repeat (first | apply Kd.R_alloc | apply Kd.R_drewN | apply Kd.R_drew)); exact rF2 HO124.out BK103.out (.slice Ao60 t119.length co60) (.slice Ao64 t122.length co64), pT HB.out⟩
def spec_l1Own.f (l0 : List Int) : Option (List Int) := (some (([] : List Int) : List Int)).bind fun y101 => (if y101.length + l0.length < 17592186044416 then (some (y101 ++ l0)) else (none))
theorem spec_l1Own.calls (A0 : Option Addr) (c0 : Nat) (l0 : List Int) (r : List Int) (w : World) (hr0 : Kd.C (Kd.int .i64) w A0 l0.length l0) (hc0 : l0.length ≤ c0) (h : spec_l1Own.f l0 = some r) :
  Calls Try.prog 64 #[.slice A0 l0.length c0] w fun e w' => ∃ v0_ : Value, e = .returned (v0_) ∧ Kd.R (Kd.int .i64) 3 w' w.heap.size (fun _ => True) v0_ r ∧ Below w.heap.size w w' := by
 have HR0 := Aside0.mk hr0
 have HC0 := Aside0.mk hc0
 clear hr0 hc0
 have HB := aK (Below.refl w.heap.size w)
 have H : ((some (([] : List Int) : List Int)).bind fun y101 => (if y101.length + l0.length < 17592186044416 then (some (y101 ++ l0)) else (none))) = some r := h
 clear h
 obtain ⟨y101, hy101⟩ : ∃ y_ : List Int, y_ = (([] : List Int)) := ⟨_, rfl⟩
 replace H : (if y101.length + l0.length < 17592186044416 then (some (y101 ++ l0)) else (none)) = some r := by first | (rw [hy101]; with_reducible exact H) | (have H2_ := (Option.bind_some _ _).symm.trans H; rw [hy101]; with_reducible exact H2_) | (have H2_ := (Option.bind_some _ _).symm.trans H; with_reducible exact H2_) | with_reducible exact H | (rw [hy101]; exact H) | exact H
 have Ny101 := Aside0.mk hy101
 clear hy101
 by_cases c2 : y101.length + l0.length < 17592186044416
 ·
  rw [if_pos c2] at H
  have LMc2 := Aside0.mk c2
  clear c2
  obtain ⟨y104, hy104⟩ : ∃ y_ : List Int, y_ = (y101 ++ l0) := ⟨_, rfl⟩
  replace H : (some y104) = some r := by first | (rw [hy104]; with_reducible exact H) | (have H2_ := (Option.bind_some _ _).symm.trans H; rw [hy104]; with_reducible exact H2_) | (have H2_ := (Option.bind_some _ _).symm.trans H; with_reducible exact H2_) | with_reducible exact H | (rw [hy104]; exact H) | exact H
  have Ny104 := Aside0.mk hy104
  clear hy104
  obtain rfl := Option.some.inj H
  go_enter Try.func64, Try.ntmps64
  go_wp2_with (first | ((with_reducible refine gate_dst (N := 3) rfl ?_); refine Kd.R_lit (Kd.int .i64) _ 3 ?hg (N := 3) ?hd (xs := ([] : List Int)) (inner := []) (ok := fun _ => True) (okp := fun _ => True) ?hr ?hp (fun _ hk => hk) trivial (Below.refl _ _) (Nat.le_refl _) (by simp) ?_; (case hd => rfl); (case hg => rfl); (case hr => first | (go_simp; done) | (go_simp; rfl)); (case hp => exact (Reps.none _ _)); intro v102 w3 ho4 hb hg_ hnew_; clear hg_ hnew_; (first | rw [← Ny101.out] at ho4 | (simp only [Int.reduceToNat] at ho4; rw [← Ny101.out] at ho4)); have HO103 := aK (Kd.R_lower ho4 (below_size (pS HB.out))); replace HB := bS HB hb; clear hb ho4) | ((with_reducible refine gate_builtin (b := .append) (xs := #[.tmp 3, .tmp 4]) rfl ?_); at_builtin; refine Kd.R_append_rows (Kd.int .i64) (w0 := w) w.heap.size rfl (.tmp 3) (.tmp 4) 24 3 (.int .i64 0) 8 rfl Try.underlying24 info3 rfl (by decide) (by omega) v102 y101 l0 _ _ _ (fun _ => True) (fun _ => False) rfl rfl ?aO ?aR (fun _ _ h => h) (fun _ h => h.elim) ?aF ?aB ?aS ?aL ?_; (case aR => exact pC (Kd.C_below HR0.out HB.out)); (case aB => exact (pS HB.out)); (case aF => exact (fun _ _ => trivial)); (case aO => exact (pR HO103.out)); (case aS => exact (below_size (pS HB.out))); (case aL => have := LMc2.out; omega); intro v105 w5 ho hb hg hat; rw [← Ny104.out] at ho; have n0_ := aK (hb); have HO106 := aK (ho); clear HB HO103; have HB := n0_; clear n0_; clear ho hb hg hat))
  go_ret
  exact ⟨_, er, by (with_reducible repeat (first | apply Kd.R_alloc | apply Kd.R_drewN | apply Kd.R_drew)); exact HO106.out, pT HB.out⟩
 rw [if_neg c2] at H
 exact absurd H (by simp)
def spec_l10Own.f (l0_0 : List Int) (l0_1 : List Int) : Option (List Int × List Int) := (spec_l1Own.f l0_0).bind fun t103 => ((spec_l1Own.f l0_1).bind fun t106 => (some (t103, t106)))
def spec_l10Own.T1 : Bool × List (List Nat × List Nat) := (true, [([], []), ([0], [0]), ([1], [1]), ([], []), ([3], [3]), ([4, 2], [4]), ([2, 5], [2, 5]), ([6, 5, 0, 1, 2, 3, 4, 5, 6], [6])])
def spec_l10Own.B1 : List Nat := [0, 1, 3, 0, 8, 31, 63, 127]
theorem spec_l10Own.tab1 : rtab .any (opsOf Try.f46 1) = spec_l10Own.T1 := by kernel_rfl
theorem spec_l10Own.bits1 : waitsOk spec_l10Own.T1.2 spec_l10Own.B1 = true := by kernel_rfl
theorem spec_l10Own.calls (A0_0 : Option Addr) (c0_0 : Nat) (l0_0 : List Int) (A0_1 : Option Addr) (c0_1 : Nat) (l0_1 : List Int) (r1 : List Int) (r2 : List Int) (w : World) (hr0_0 : Kd.C (Kd.int .i64) w A0_0 l0_0.length l0_0) (hc0_0 : l0_0.length ≤ c0_0) (hr0_1 : Kd.C (Kd.int .i64) w A0_1 l0_1.length l0_1) (hc0_1 : l0_1.length ≤ c0_1) (h : spec_l10Own.f l0_0 l0_1 = some (r1, r2)) :
  Calls Try.prog 46 #[.agg #[.slice A0_0 l0_0.length c0_0, .slice A0_1 l0_1.length c0_1]] w fun e w' => ∃ v0_ v1_ : Value, e = .returned (.agg #[v0_, v1_]) ∧ Kd.R (Kd.int .i64) 3 w' w.heap.size (fun k_ => some k_ ≠ (v1_ : Value).ownBlock) v0_ r1 ∧ Kd.R (Kd.int .i64) 3 w' w.heap.size (fun k_ => some k_ ≠ (v0_ : Value).ownBlock) v1_ r2 ∧ Below w.heap.size w w' := by
 have hu26 := Try.underlying26
 have HR0_0 := Aside0.mk hr0_0
 have HC0_0 := Aside0.mk hc0_0
 clear hr0_0 hc0_0
 have HR0_1 := Aside0.mk hr0_1
 have HC0_1 := Aside0.mk hc0_1
 clear hr0_1 hc0_1
 have HB := aK (Below.refl w.heap.size w)
 have H : ((spec_l1Own.f l0_0).bind fun t103 => ((spec_l1Own.f l0_1).bind fun t106 => (some (t103, t106)))) = some (r1, r2) := h
 clear h
 replace H := Option.bind_eq_some_iff.mp H
 obtain ⟨t103, A20, H⟩ := H
 replace H : ((spec_l1Own.f l0_1).bind fun t106 => (some (t103, t106))) = some (r1, r2) := H
 have A2 := Aside0.mk A20
 clear A20
 replace H := Option.bind_eq_some_iff.mp H
 obtain ⟨t106, A30, H⟩ := H
 replace H : (some (t103, t106)) = some (r1, r2) := H
 have A3 := Aside0.mk A30
 clear A30
 simp only [Option.some.injEq, Prod.mk.injEq] at H
 obtain ⟨rfl, rfl⟩ := H
 go_enter Try.func46, Try.ntmps46
 try go_wp2_with (first | ((with_reducible refine gate_dst (N := 1) rfl ?_); refine bxe (cs := #[.slice A0_0 l0_0.length c0_0, .slice A0_1 l0_1.length c0_1]) (t := 26) ?_; intro gb101 hg w4 hbox hb; have BK101 := aK (hbox); have GW101 := aK (gE hg (pS HB.out)); have GE101 := GW101; replace HB := bS HB hb; clear hb hbox hg) | ((with_reducible refine gate_dst (N := 2) rfl ?_); refine bxe (cs := #[.slice none 0 0, .slice none 0 0]) (t := 26) ?_; intro gb102 hg w5 hbox hb; have BK102 := aK (hbox); have GW102 := aK (gE hg (pS HB.out)); have GE102 := GW102; obtain ⟨NB101_102, NB102_101⟩ := nb hg (pB BK101.out); replace BK101 := bB BK101 hb; replace HB := bS HB hb; clear hb hbox hg))
 have n0_ := aK (blk_drew BK101.out)
 have n1_ := aK (blk_drew BK102.out)
 have n2_ := aK (below_drew1 HB.out)
 clear BK101 BK102 HB
 have BK101 := n0_
 have BK102 := n1_
 have HB := n2_
 clear n0_ n1_ n2_
 refine start_ (n := 8) (S := fun w' => w'.cell? ⟨gb101, 0, none⟩ = some (.slice A0_0 l0_0.length c0_0) ∧ w'.cell? ⟨gb101, 1, none⟩ = some (.slice A0_1 l0_1.length c0_1)) (ds := []) #[false, false, false, false, false, false, false, false] (by kernel_rfl) rfl rfl (cz2 BK101.out) (fun hHeld => ?_); refine with_tabW spec_l10Own.tab1 spec_l10Own.bits1 (fun HT_ HW_ => ?_)
 generalize w5.drew = w6 at BK101 BK102 HB hHeld ⊢
 refine pu (i := 0) (N := some 3) #[true, false, false, false, false, false, false, false] rfl rfl HT_.out ?_
 refine pu (i := 3) (N := some 6) #[true, false, false, true, false, false, false, false] rfl rfl HT_.out ?_
 refine tk (i := 1) (N := some 4) #[true, true, false, true, false, false, false, false] rfl rfl HT_.out HW_.out (Or.inl ⟨by rfl, by rintro w' ⟨s0, s1⟩; go_simp; with_reducible rfl⟩) hHeld ?_
 refine tk (i := 4) (N := some 7) #[true, true, false, true, true, false, false, false] rfl rfl HT_.out HW_.out (Or.inl ⟨by rfl, by rintro w' ⟨s0, s1⟩; go_simp; with_reducible rfl⟩) hHeld ?_
 refine one_ (i := 2) (N := some 5) #[true, true, true, true, true, false, false, false] rfl rfl (one_of HT_.out (by kernel_rfl)) (by decide) (fun K hK => ?_)
 refine goes_ Try.func64 (by kernel_rfl) rfl #[.slice A0_0 l0_0.length c0_0] (by rfl) rfl rfl (by (try simp only [List.map_toArray, List.map_cons, List.map_nil]); first | done | rfl | (simp only [List.length_drop, List.length_take]; rfl)) ?_
 with_reducible refine (spec_l1Own.calls _ _ l0_0 t103 _ ?side1 ?side2 A2.out).mono ?_
 (case side1 => exact pC (Kd.C_below HR0_0.out HB.out))
 (case side2 => exact HC0_0.out)
 rintro e w7 ⟨v104, rfl, ho0, hb⟩
 refine ⟨_, rfl, ?_⟩
 have HO105 := aK (Kd.R_lower ho0 (below_size (pS HB.out)))
 replace BK101 := bB BK101 hb
 replace BK102 := bB BK102 hb
 replace HB := bS HB hb
 (try clear hb)
 (try clear hb2)
 (try clear hk)
 (try clear hi)
 (try clear ho0)
 refine hK.out _ _ (cz2 BK101.out) (fun hHeld => ?_)
 clear hK K
 refine norm_ (a' := ?_) ?_ ?_
 rotate_left
 ·
  show Act.put _ (some 5) _ = _
  simp only [sP]
  rfl
 refine one_ (i := 5) (N := some 8) #[true, true, true, true, true, true, false, false] rfl rfl (one_of HT_.out (by kernel_rfl)) (by decide) (fun K hK => ?_)
 refine goes_ Try.func64 (by kernel_rfl) rfl #[.slice A0_1 l0_1.length c0_1] (by rfl) rfl rfl (by (try simp only [List.map_toArray, List.map_cons, List.map_nil]); first | done | rfl | (simp only [List.length_drop, List.length_take]; rfl)) ?_
 with_reducible refine (spec_l1Own.calls _ _ l0_1 t106 _ ?side1 ?side2 A3.out).mono ?_
 (case side1 => exact pC (Kd.C_below HR0_1.out HB.out))
 (case side2 => exact HC0_1.out)
 rintro e w8 ⟨v107, rfl, ho0, hb⟩
 refine ⟨_, rfl, ?_⟩
 have n0_ := aK (Kd.R_elder' (pR HO105.out) (Kd.R_base ho0) hb)
 have HO108 := aK (Kd.R_lower (nw1 ho0 (pR HO105.out)) (below_size (pS HB.out)))
 replace BK101 := bB BK101 hb
 replace BK102 := bB BK102 hb
 replace HB := bS HB hb
 clear HO105
 have HO105 := n0_
 clear n0_
 (try clear hb)
 (try clear hb2)
 (try clear hk)
 (try clear hi)
 (try clear ho0)
 obtain ⟨Ao9, co9, eo9⟩ := Kd.R_slice HO108.out
 (first | subst eo9 | (obtain ⟨f4_, f5_⟩ := sI eo9; subst f4_; subst f5_))
 obtain ⟨Ao10, co10, eo10⟩ := Kd.R_slice HO105.out
 (first | subst eo10 | (obtain ⟨f4_, f5_⟩ := sI eo10; subst f4_; subst f5_))
 refine hK.out _ _ (cz2 BK101.out) (fun hHeld => ?_)
 clear hK K
 refine norm_ (a' := ?_) ?_ ?_
 rotate_left
 ·
  show Act.put _ (some 8) _ = _
  simp only [sP]
  rfl
 refine pu (i := 6) (N := some 9) #[true, true, true, true, true, true, true, false] rfl rfl HT_.out ?_
 refine one_ (i := 7) (N := none) #[true, true, true, true, true, true, true, true] rfl rfl (one_of HT_.out (by kernel_rfl)) (by decide) (fun K hK => ?_)
 have hs11 : w8.cell? ⟨gb102, 0, none⟩ = some (.slice none 0 0) := (blk_cell BK102.out 0).trans rfl
 have hfs11 := blk_frozen BK102.out 0
 have hns11_0 := NB101_102.out
 have hms11_0 := NB102_101.out
 have hs12 : w8.cell? ⟨gb102, 1, none⟩ = some (.slice none 0 0) := (blk_cell BK102.out 1).trans rfl
 have hfs12 := blk_frozen BK102.out 1
 have hns12_0 := NB101_102.out
 have hms12_0 := NB102_101.out
 refine skip_ (w1 := ?_) (by rfl) rfl ?_ ?_
 rotate_left
 ·
  go_simp
  rfl
 refine hK.out _ _ ⟨((cell_far (p := ⟨gb102, _, none⟩) NB101_102.out _).trans (((cell_far (p := ⟨gb102, _, none⟩) NB101_102.out _).trans (hHeld.1)))), ((cell_far (p := ⟨gb102, _, none⟩) NB101_102.out _).trans (((cell_far (p := ⟨gb102, _, none⟩) NB101_102.out _).trans (hHeld.2))))⟩ (fun hHeld => ?_)
 clear hK K
 refine done_ (done_of HT_.out (by kernel_rfl)) ?_
 try go_wp2
 refine bodyPost_ret (results_cell_row rfl _ _ gb102 26 #[.slice Ao10 t103.length co10, .slice Ao9 t106.length co9] (0, 0) _ rfl (by refine bk ?_; refine blk_put (cs := #[.slice Ao10 t103.length co10, .slice none 0 0]) ?_ 1 _ rfl; refine bk ?_; refine blk_put (cs := #[.slice none 0 0, .slice none 0 0]) ?_ 0 _ rfl; refine bk ?_; exact BK102.out) Try.underlying26 rfl (by kernel_rfl)) rfl ?_
 exact ⟨_, _, er, by (with_reducible repeat (first | apply Kd.R_alloc | apply Kd.R_drewN | apply Kd.R_drew)); exact Kd.R_mono (rF2 HO105.out BK102.out (.slice Ao10 t103.length co10) (.slice Ao9 t106.length co9)) (fun _ h => h.2), by (with_reducible repeat (first | apply Kd.R_alloc | apply Kd.R_drewN | apply Kd.R_drew)); exact Kd.R_mono (rF2 HO108.out BK102.out (.slice Ao10 t103.length co10) (.slice Ao9 t106.length co9)) (fun _ h => h.2), pT HB.out⟩
mutual
def spec_AddTallies.j0 : Nat → Bool → List Int → List Int → List Int → List Int → Option (List Int × List Int × Bool)
 | 0, _, _, _, _, _ => none
 | k + 1, x15, x102000, x102001, x103000, x103001 => if x15 = true then (some (([] : List Int), ([] : List Int), false)) else ((spec_l10Own.f x102000 x102001).bind fun bt106 => (spec_AddTallies.l0 k 0 x103000 x103001 bt106.1 bt106.2))
def spec_AddTallies.l0 : Nat → Int → List Int → List Int → List Int → List Int → Option (List Int × List Int × Bool)
 | 0, _, _, _, _, _ => none
 | k + 1, x7, x103000, x103001, x113000, x113001 => if x7 < (x113000.length : Int) then (if 0 ≤ x7 then (if x7 < (x103000.length : Int) then (if x7 < (x113001.length : Int) then (if x7 < (x103001.length : Int) then (spec_AddTallies.l0 k (wrap64 (x7 + 1)) x103000 x103001 (x113000.set (x7 : Int).toNat (wrap64 ((rd x113000 x7) + (rd x103000 x7)))) (x113001.set (x7 : Int).toNat (wrap64 ((rd x113001 x7) + (rd x103001 x7))))) else (none)) else (none)) else (none)) else (none)) else ((spec_l10Good.f k x113000 x113001).bind fun t119 => (if t119 = true then (some (x113000, x113001, true)) else (some (([] : List Int), ([] : List Int), false))))
end
def spec_AddTallies.f (k : Nat) (l0_0 : List Int) (l0_1 : List Int) (l1_0 : List Int) (l1_1 : List Int) : Option (List Int × List Int × Bool) := (spec_l10Good.f k l0_0 l0_1).bind fun t104 => (if t104 = true then ((spec_l10Good.f k l1_0 l1_1).bind fun t105 => (spec_AddTallies.j0 k (!t105) l0_0 l0_1 l1_0 l1_1)) else (spec_AddTallies.j0 k true l0_0 l0_1 l1_0 l1_1))
def spec_AddTallies.T7 : Bool × List (List Nat × List Nat) := (true, [([], []), ([0], [0]), ([], []), ([], []), ([3], [3]), ([], []), ([4, 5], [4, 5]), ([6], [6]), ([], []), ([8], [8]), ([], []), ([9, 10], [9, 10]), ([11], [11]), ([7, 12], [7, 12]), ([1, 2, 0, 1, 2, 3, 4, 5, 6, 7, 8, 9, 10, 11, 12, 13], [1, 2]), ([14, 13, 0, 1, 2, 3, 4, 5, 6, 7, 8, 9, 10, 11, 12, 13], [13, 14])])
def spec_AddTallies.B7 : List Nat := [0, 1, 0, 0, 8, 0, 56, 120, 0, 256, 0, 1792, 3840, 8184, 16383, 32767]
theorem spec_AddTallies.tab7 : rtab .any (opsOf Try.f15 7) = spec_AddTallies.T7 := by kernel_rfl
theorem spec_AddTallies.bits7 : waitsOk spec_AddTallies.T7.2 spec_AddTallies.B7 = true := by kernel_rfl
def spec_AddTallies.T8 : Bool × List (List Nat × List Nat) := (true, [([], []), ([0], [0]), ([], []), ([], []), ([3], [3]), ([], []), ([4, 5], [4, 5]), ([6], [6]), ([], []), ([8], [8]), ([], []), ([9, 10], [9, 10]), ([11], [11]), ([7, 12], [7, 12]), ([1, 2, 0, 1, 2, 3, 4, 5, 6, 7, 8, 9, 10, 11, 12, 13], [1, 2]), ([14, 13, 0, 1, 2, 3, 4, 5, 6, 7, 8, 9, 10, 11, 12, 13], [13, 14])])
def spec_AddTallies.B8 : List Nat := [0, 1, 0, 0, 8, 0, 56, 120, 0, 256, 0, 1792, 3840, 8184, 16383, 32767]
theorem spec_AddTallies.tab8 : rtab .any (opsOf Try.f15 8) = spec_AddTallies.T8 := by kernel_rfl
theorem spec_AddTallies.bits8 : waitsOk spec_AddTallies.T8.2 spec_AddTallies.B8 = true := by kernel_rfl
theorem spec_AddTallies.calls (k : Nat) (A0_0 : Option Addr) (c0_0 : Nat) (l0_0 : List Int) (A0_1 : Option Addr) (c0_1 : Nat) (l0_1 : List Int) (A1_0 : Option Addr) (c1_0 : Nat) (l1_0 : List Int) (A1_1 : Option Addr) (c1_1 : Nat) (l1_1 : List Int) (r1 : List Int) (r2 : List Int) (r3 : Bool) (w : World) (hr0_0 : Kd.C (Kd.int .i64) w A0_0 l0_0.length l0_0) (hc0_0 : l0_0.length ≤ c0_0) (hr0_1 : Kd.C (Kd.int .i64) w A0_1 l0_1.length l0_1) (hc0_1 : l0_1.length ≤ c0_1) (hr1_0 : Kd.C (Kd.int .i64) w A1_0 l1_0.length l1_0) (hc1_0 : l1_0.length ≤ c1_0) (hr1_1 : Kd.C (Kd.int .i64) w A1_1 l1_1.length l1_1) (hc1_1 : l1_1.length ≤ c1_1) (h : spec_AddTallies.f k l0_0 l0_1 l1_0 l1_1 = some (r1, r2, r3)) :
  Calls Try.prog 15 #[.agg #[.slice A0_0 l0_0.length c0_0, .slice A0_1 l0_1.length c0_1], .agg #[.slice A1_0 l1_0.length c1_0, .slice A1_1 l1_1.length c1_1]] w fun e w' => ∃ v0_ v1_ : Value, e = .returned (.tuple #[.agg #[v0_, v1_], .bool r3]) ∧ Kd.R (Kd.int .i64) 3 w' w.heap.size (fun k_ => some k_ ≠ (v1_ : Value).ownBlock) v0_ r1 ∧ Kd.R (Kd.int .i64) 3 w' w.heap.size (fun k_ => some k_ ≠ (v0_ : Value).ownBlock) v1_ r2 ∧ Below w.heap.size w w' := by
 have hu26 := Try.underlying26
 have HR0_0 := Aside0.mk hr0_0
 have HC0_0 := Aside0.mk hc0_0
 clear hr0_0 hc0_0
 have HR0_1 := Aside0.mk hr0_1
 have HC0_1 := Aside0.mk hc0_1
 clear hr0_1 hc0_1
 have HR1_0 := Aside0.mk hr1_0
 have HC1_0 := Aside0.mk hc1_0
 clear hr1_0 hc1_0
 have HR1_1 := Aside0.mk hr1_1
 have HC1_1 := Aside0.mk hc1_1
 clear hr1_1 hc1_1
 have HB := aK (Below.refl w.heap.size w)
 have H : ((spec_l10Good.f k l0_0 l0_1).bind fun t104 => (if t104 = true then ((spec_l10Good.f k l1_0 l1_1).bind fun t105 => (spec_AddTallies.j0 k (!t105) l0_0 l0_1 l1_0 l1_1)) else (spec_AddTallies.j0 k true l0_0 l0_1 l1_0 l1_1))) = some (r1, r2, r3) := h
 clear h
 have HC3 := Aside0.mk H
 clear H
 go_enter Try.func15, Try.ntmps15
 go_upto_region 1 with (first | ((with_reducible refine gate_dst (N := 2) rfl ?_); refine bxe (cs := #[.slice A0_0 l0_0.length c0_0, .slice A0_1 l0_1.length c0_1]) (t := 26) ?_; intro gb101 hg w4 hbox hb; have BK101 := aK (hbox); have GW101 := aK (gE hg (pS HB.out)); have GE101 := GW101; replace HB := bS HB hb; clear hb hbox hg) | ((with_reducible refine gate_dst (N := 3) rfl ?_); refine bxe (cs := #[.slice A1_0 l1_0.length c1_0, .slice A1_1 l1_1.length c1_1]) (t := 26) ?_; intro gb102 hg w5 hbox hb; have BK102 := aK (hbox); have GW102 := aK (gE hg (pS HB.out)); have GE102 := GW102; obtain ⟨NB101_102, NB102_101⟩ := nb hg (pB BK101.out); replace BK101 := bB BK101 hb; replace HB := bS HB hb; clear hb hbox hg) | ((with_reducible refine gate_dst (N := 4) rfl ?_); refine bxe (cs := #[.slice none 0 0, .slice none 0 0]) (t := 26) ?_; intro gb103 hg w6 hbox hb; have BK103 := aK (hbox); have GW103 := aK (gE hg (pS HB.out)); have GE103 := GW103; obtain ⟨NB101_103, NB103_101⟩ := nb hg (pB BK101.out); obtain ⟨NB102_103, NB103_102⟩ := nb hg (pB BK102.out); replace BK101 := bB BK101 hb; replace BK102 := bB BK102 hb; replace HB := bS HB hb; clear hb hbox hg))
 (try simp only [Act.put, List.setIfInBounds_toArray, List.set_cons_zero, List.set_cons_succ])
 go_cut [15] (fun v15 wc => ∃ (kq : Nat) (x15_2 : Bool), v15 = .bool x15_2 ∧ Aside0 (spec_AddTallies.j0 kq x15_2 l0_0 l0_1 l1_0 l1_1 = some (r1, r2, r3)) ∧ Aside0 (kq ≤ k) ∧ Aside0 (wc.heap[gb101]? = some (.cells #[(.slice A0_0 l0_0.length c0_0), (.slice A0_1 l0_1.length c0_1)] 26 (0, 0))) ∧ Aside0 (wc.heap[gb102]? = some (.cells #[(.slice A1_0 l1_0.length c1_0), (.slice A1_1 l1_1.length c1_1)] 26 (0, 0))) ∧ Aside0 (wc.heap[gb103]? = some (.cells #[(.slice none 0 0), (.slice none 0 0)] 26 (0, 0))) ∧ Aside0 (Below w.heap.size w wc))
 case first =>
  have H := HC3.out
  clear HC3
  replace H := Option.bind_eq_some_iff.mp H
  obtain ⟨t104, A70, H⟩ := H
  replace H : (if t104 = true then ((spec_l10Good.f k l1_0 l1_1).bind fun t105 => (spec_AddTallies.j0 k (!t105) l0_0 l0_1 l1_0 l1_1)) else (spec_AddTallies.j0 k true l0_0 l0_1 l1_0 l1_1)) = some (r1, r2, r3) := H
  have A7 := Aside0.mk A70
  clear A70
  by_cases c8 : t104 = true
  ·
   subst c8
   have H1 : ((spec_l10Good.f k l1_0 l1_1).bind fun t105 => (spec_AddTallies.j0 k (!t105) l0_0 l0_1 l1_0 l1_1)) = some (r1, r2, r3) := by rw [if_pos rfl] at H; exact H
   clear H
   have H := H1
   clear H1
   replace H := Option.bind_eq_some_iff.mp H
   obtain ⟨t105, A90, H⟩ := H
   replace H : (spec_AddTallies.j0 k (!t105) l0_0 l0_1 l1_0 l1_1) = some (r1, r2, r3) := H
   have A9 := Aside0.mk A90
   clear A90
   have H' := Aside0.mk H
   clear H
   have hnb10 := NB101_102.out
   have hnc10 := NB102_101.out
   have hnb11 := NB101_103.out
   have hnc11 := NB103_101.out
   obtain ⟨hcz12_0, hcz12_1, hfz12_0, hfz12_1⟩ := bc2 BK101.out
   go_wp2_with (first | ((with_reducible refine gate_callee (f := 44) rfl ?_); refine gl (some 9) Try.func44 #[.agg #[.slice A0_0 l0_0.length c0_0, .slice A0_1 l0_1.length c0_1]] ?_; (with_reducible refine (spec_l10Good.calls k _ _ l0_0 _ _ l0_1 true _ ?side1 ?side2 ?side3 ?side4 A7.out).mono ?_); (case side1 => exact pC (Kd.C_below HR0_0.out HB.out)); (case side2 => exact HC0_0.out); (case side3 => exact pC (Kd.C_below HR0_1.out HB.out)); (case side4 => exact HC0_1.out); rintro e w13 ⟨rfl, hb⟩; refine ⟨_, rfl, ?_⟩; replace BK101 := bB BK101 hb; replace BK102 := bB BK102 hb; replace BK103 := bB BK103 hb; replace HB := bS HB hb; (try clear hb); (try clear hb2); (try clear hk); (try clear hi); have hnb14 := NB102_103.out; have hnc14 := NB103_102.out; obtain ⟨hcz15_0, hcz15_1, hfz15_0, hfz15_1⟩ := bc2 BK102.out) | (go_at_call 44; (with_reducible refine (spec_l10Good.calls k _ _ l1_0 _ _ l1_1 t105 _ ?side1 ?side2 ?side3 ?side4 A9.out).mono ?_); (case side1 => exact pC (Kd.C_below HR1_0.out HB.out)); (case side2 => exact HC1_0.out); (case side3 => exact pC (Kd.C_below HR1_1.out HB.out)); (case side4 => exact HC1_1.out); rintro e w16 ⟨rfl, hb⟩; replace BK101 := bB BK101 hb; replace BK102 := bB BK102 hb; replace BK103 := bB BK103 hb; replace HB := bS HB hb; (try clear hb); (try clear hb2); (try clear hk); (try clear hi)))
   go_meet
   case rel => exact ⟨_, (!t105), (by first | rfl | (simp; done) | (simp [*]; done)), H', ⟨by first | omega | exact Nat.le_refl _⟩, ⟨by refine bk ?_; exact BK101.out⟩, ⟨by refine bk ?_; exact BK102.out⟩, ⟨by refine bk ?_; exact BK103.out⟩, ⟨pT HB.out⟩⟩
  replace c8 := Bool.eq_false_iff.mpr c8
  subst c8
  have H1 : (spec_AddTallies.j0 k true l0_0 l0_1 l1_0 l1_1) = some (r1, r2, r3) := by rw [if_neg (show ¬ (false = true) by decide)] at H; exact H
  clear H
  have H := H1
  clear H1
  have H' := Aside0.mk H
  clear H
  have hnb17 := NB101_102.out
  have hnc17 := NB102_101.out
  have hnb18 := NB101_103.out
  have hnc18 := NB103_101.out
  obtain ⟨hcz19_0, hcz19_1, hfz19_0, hfz19_1⟩ := bc2 BK101.out
  go_wp2_with (first | ((with_reducible refine gate_callee (f := 44) rfl ?_); refine gl (some 9) Try.func44 #[.agg #[.slice A0_0 l0_0.length c0_0, .slice A0_1 l0_1.length c0_1]] ?_; (with_reducible refine (spec_l10Good.calls k _ _ l0_0 _ _ l0_1 false _ ?side1 ?side2 ?side3 ?side4 A7.out).mono ?_); (case side1 => exact pC (Kd.C_below HR0_0.out HB.out)); (case side2 => exact HC0_0.out); (case side3 => exact pC (Kd.C_below HR0_1.out HB.out)); (case side4 => exact HC0_1.out); rintro e w20 ⟨rfl, hb⟩; refine ⟨_, rfl, ?_⟩; replace BK101 := bB BK101 hb; replace BK102 := bB BK102 hb; replace BK103 := bB BK103 hb; replace HB := bS HB hb; (try clear hb); (try clear hb2); (try clear hk); (try clear hi)))
  go_meet
  case rel => exact ⟨_, (true), (by first | rfl | (simp; done) | (simp [*]; done)), H', ⟨by first | omega | exact Nat.le_refl _⟩, ⟨by refine bk ?_; exact BK101.out⟩, ⟨by refine bk ?_; exact BK102.out⟩, ⟨by refine bk ?_; exact BK103.out⟩, ⟨pT HB.out⟩⟩
 case rest =>
  clear HC3
  try clear c1
  try clear p2
  try clear c4
  try clear c8
  try clear c10
  try clear c11
  try clear c14
  try clear c15
  try clear c17
  try clear c18
  try clear hcz12_0
  try clear hcz12_1
  try clear hcz15_0
  try clear hcz15_1
  try clear hcz19_0
  try clear hcz19_1
  try clear hfz12_0
  try clear hfz12_1
  try clear hfz15_0
  try clear hfz15_1
  try clear hfz19_0
  try clear hfz19_1
  obtain ⟨kq, x15_2, rfl, HA, HJ2, BK101, BK102, BK103, HB⟩ := hcut
  cases kq with
  | zero => exact absurd HA.out (by simp [spec_AddTallies.j0])
  | succ kj2 =>
   have H := HA.out
   clear HA
   simp only [spec_AddTallies.j0] at H
   by_cases c21 : x15_2 = true
   ·
    subst c21
    have H1 : (some (([] : List Int), ([] : List Int), false)) = some (r1, r2, r3) := by rw [if_pos rfl] at H; exact H
    clear H
    have H := H1
    clear H1
    simp only [Option.some.injEq, Prod.mk.injEq] at H
    obtain ⟨rfl, rfl, rfl⟩ := H
    have hnb22 := NB103_101.out
    have hnc22 := NB101_103.out
    have hnb23 := NB103_102.out
    have hnc23 := NB102_103.out
    obtain ⟨hcz24_0, hcz24_1, hfz24_0, hfz24_1⟩ := bc2 BK103.out
    go_wp2
    refine bodyPost_ret (results_ct rfl _ _ gb103 26 #[.slice none 0 0, .slice none 0 0] (0, 0) _ rfl (by refine bk ?_; refine blk_put (cs := #[.slice none 0 0, .slice none 0 0]) ?_ 1 _ rfl; refine bk ?_; refine blk_put (cs := #[.slice none 0 0, .slice none 0 0]) ?_ 0 _ rfl; refine bk ?_; exact BK103.out) Try.underlying26 rfl (by kernel_rfl)) rfl ?_
    exact ⟨_, _, er, by first | exact Kd.R_nil _ _ _ _ _ | exact Kd.N_nil _ _ _ _ _ | exact Kd.V_nil _ _ _ _ _ | exact Kd.Q_nil _ _ _ _ _ | exact Kd.S_nil _ _ _ _ _, by first | exact Kd.R_nil _ _ _ _ _ | exact Kd.N_nil _ _ _ _ _ | exact Kd.V_nil _ _ _ _ _ | exact Kd.Q_nil _ _ _ _ _ | exact Kd.S_nil _ _ _ _ _, pT HB.out⟩
   replace c21 := Bool.eq_false_iff.mpr c21
   subst c21
   have H1 : ((spec_l10Own.f l0_0 l0_1).bind fun bt106 => (spec_AddTallies.l0 kj2 0 l1_0 l1_1 bt106.1 bt106.2)) = some (r1, r2, r3) := by rw [if_neg (show ¬ (false = true) by decide)] at H; exact H
   clear H
   have H := H1
   clear H1
   replace H := Option.bind_eq_some_iff.mp H
   obtain ⟨⟨t106, t109⟩, A250, H⟩ := H
   replace H : (spec_AddTallies.l0 kj2 0 l1_0 l1_1 t106 t109) = some (r1, r2, r3) := H
   have A25 := Aside0.mk A250
   clear A250
   have H' := Aside0.mk H
   clear H
   have hnb26 := NB101_102.out
   have hnc26 := NB102_101.out
   have hnb27 := NB101_103.out
   have hnc27 := NB103_101.out
   obtain ⟨hcz28_0, hcz28_1, hfz28_0, hfz28_1⟩ := bc2 BK101.out
   go_wp2_with (first | ((with_reducible refine gate_callee (f := 46) rfl ?_); refine gl (some 18) Try.func46 #[.agg #[.slice A0_0 l0_0.length c0_0, .slice A0_1 l0_1.length c0_1]] ?_; (with_reducible refine (spec_l10Own.calls _ _ l0_0 _ _ l0_1 t106 t109 _ ?side1 ?side2 ?side3 ?side4 A25.out).mono ?_); (case side1 => exact pC (Kd.C_below HR0_0.out HB.out)); (case side2 => exact HC0_0.out); (case side3 => exact pC (Kd.C_below HR0_1.out HB.out)); (case side4 => exact HC0_1.out); rintro e w29 ⟨v107, v110, rfl, ho0, ho1, hb⟩; refine ⟨_, rfl, ?_⟩; have HO108 := aK (Kd.R_lower ho0 (below_size (pS HB.out))); have HO111 := aK (Kd.R_lower ho1 (below_size (pS HB.out))); replace BK101 := bB BK101 hb; replace BK102 := bB BK102 hb; replace BK103 := bB BK103 hb; replace HB := bS HB hb; (try clear hb); (try clear hb2); (try clear hk); (try clear hi); (try clear ho0); (try clear ho1)) | ((with_reducible refine gate_dst (N := 6) rfl ?_); refine bxe (cs := #[.slice none 0 0, .slice none 0 0]) (t := 26) ?_; intro gb112 hg w30 hbox hb; have n0_ := aK (Kd.R_below (pR HO108.out) hb); have n1_ := aK (Kd.R_below (pR HO111.out) hb); have BK112 := aK (hbox); have GW112 := aK (gE hg (pS HB.out)); have GE112 := GW112; obtain ⟨NB101_112, NB112_101⟩ := nb hg (pB BK101.out); obtain ⟨NB102_112, NB112_102⟩ := nb hg (pB BK102.out); obtain ⟨NB103_112, NB112_103⟩ := nb hg (pB BK103.out); replace BK101 := bB BK101 hb; replace BK102 := bB BK102 hb; replace BK103 := bB BK103 hb; replace HB := bS HB hb; clear HO108 HO111; have HO108 := n0_; have HO111 := n1_; clear n0_ n1_ hb hbox hg; obtain ⟨Ao31, co31, eo31⟩ := Kd.R_slice HO108.out; subst eo31; have hnb32 := NB112_101.out; have hnc32 := NB101_112.out; have hnb33 := NB112_102.out; have hnc33 := NB102_112.out; have hnb34 := NB112_103.out; have hnc34 := NB103_112.out; obtain ⟨hcz35_0, hcz35_1, hfz35_0, hfz35_1⟩ := bc2 BK112.out; obtain ⟨Ao36, co36, eo36⟩ := Kd.R_slice HO111.out; subst eo36))
   go_loopg [7] kj2 (fun kq v7 w' => ∃ (x7_2 : Int) (x113000_2 : List Int) (x113001_2 : List Int) (u113000 : Value) (u113001 : Value), v7 = .int .i64 x7_2 ∧ Aside0 (spec_AddTallies.l0 kq x7_2 l1_0 l1_1 x113000_2 x113001_2 = some (r1, r2, r3)) ∧ Aside0 (kq ≤ kj2) ∧ Aside0 (Kd.R (Kd.int .i64) 3 w' w.heap.size (fun k_ => some k_ ≠ (u113001 : Value).ownBlock) u113000 x113000_2) ∧ Aside0 (Kd.R (Kd.int .i64) 3 w' w.heap.size (fun k_ => some k_ ≠ (u113000 : Value).ownBlock) u113001 x113001_2) ∧ Aside0 (w'.heap[gb101]? = some (.cells #[(.slice A0_0 l0_0.length c0_0), (.slice A0_1 l0_1.length c0_1)] 26 (0, 0))) ∧ Aside0 (w'.heap[gb102]? = some (.cells #[(.slice A1_0 l1_0.length c1_0), (.slice A1_1 l1_1.length c1_1)] 26 (0, 0))) ∧ Aside0 (w'.heap[gb103]? = some (.cells #[(.slice none 0 0), (.slice none 0 0)] 26 (0, 0))) ∧ Aside0 (w'.heap[gb112]? = some (.cells #[u113000, u113001] 26 (0, 0))) ∧ Aside0 (Below w.heap.size w w'))
   case atStart => exact ⟨(0), (t106), (t109), (.slice Ao31 t106.length co31), (.slice Ao36 t109.length co36), (by first | rfl | (simp; done) | (simp [*]; done)), H', ⟨Nat.le_refl _⟩, ⟨pR (rF2 HO108.out BK112.out (.slice Ao31 t106.length co31) (.slice Ao36 t109.length co36))⟩, ⟨pR (rF2 HO111.out BK112.out (.slice Ao31 t106.length co31) (.slice Ao36 t109.length co36))⟩, ⟨by refine bk ?_; refine blk_far ?_ NB101_112.out _; refine bk ?_; refine blk_far ?_ NB101_112.out _; refine bk ?_; exact BK101.out⟩, ⟨by refine bk ?_; refine blk_far ?_ NB102_112.out _; refine bk ?_; refine blk_far ?_ NB102_112.out _; refine bk ?_; exact BK102.out⟩, ⟨by refine bk ?_; refine blk_far ?_ NB103_112.out _; refine bk ?_; refine blk_far ?_ NB103_112.out _; refine bk ?_; exact BK103.out⟩, ⟨by refine bk ?_; refine blk_put (cs := #[.slice Ao31 t106.length co31, .slice none 0 0]) ?_ 1 _ rfl; refine bk ?_; refine blk_put (cs := #[.slice none 0 0, .slice none 0 0]) ?_ 0 _ rfl; refine bk ?_; exact BK112.out⟩, ⟨pT HB.out⟩⟩
   case round =>
    clear H'
    try clear c1
    try clear c2
    try clear p2
    try clear c3
    try clear c4
    try clear c8
    try clear c10
    try clear c11
    try clear c14
    try clear c15
    try clear c17
    try clear c18
    try clear c21
    try clear c22
    try clear c23
    try clear c26
    try clear c27
    try clear c32
    try clear c33
    try clear c34
    try clear hcz12_0
    try clear hcz12_1
    try clear hcz15_0
    try clear hcz15_1
    try clear hcz19_0
    try clear hcz19_1
    try clear hcz24_0
    try clear hcz24_1
    try clear hcz28_0
    try clear hcz28_1
    try clear hcz35_0
    try clear hcz35_1
    try clear hfz12_0
    try clear hfz12_1
    try clear hfz15_0
    try clear hfz15_1
    try clear hfz19_0
    try clear hfz19_1
    try clear hfz24_0
    try clear hfz24_1
    try clear hfz28_0
    try clear hfz28_1
    try clear hfz35_0
    try clear hfz35_1
    try clear p2
    obtain ⟨x7_2, x113000_2, x113001_2, u113000, u113001, rfl, HA, HK2, HO_113000, HO_113001, BK101, BK102, BK103, BK112, HB⟩ := hrel
    cases gk with
    | zero => exact absurd HA.out (by simp [spec_AddTallies.l0])
    | succ k2 =>
     have H := HA.out
     clear HA
     simp only [spec_AddTallies.l0] at H
     by_cases c37 : x7_2 < (x113000_2.length : Int)
     ·
      rw [if_pos c37] at H
      have c37b0 : decide (x7_2 < (x113000_2.length : Int)) = true := decide_eq_true c37
      clear c37
      by_cases c38 : 0 ≤ x7_2
      ·
       rw [if_pos c38] at H
       have c38b0 : decide (0 ≤ x7_2) = true := decide_eq_true c38
       clear c38
       by_cases c39 : x7_2 < (l1_0.length : Int)
       ·
        rw [if_pos c39] at H
        have c39b0 : decide (x7_2 < (l1_0.length : Int)) = true := decide_eq_true c39
        clear c39
        obtain ⟨y115, hy115⟩ : ∃ y_ : List Int, y_ = (x113000_2.set (x7_2 : Int).toNat (wrap64 ((rd x113000_2 x7_2) + (rd l1_0 x7_2)))) := ⟨_, rfl⟩
        replace H : (if x7_2 < (x113001_2.length : Int) then (if x7_2 < (l1_1.length : Int) then (spec_AddTallies.l0 k2 (wrap64 (x7_2 + 1)) l1_0 l1_1 y115 (x113001_2.set (x7_2 : Int).toNat (wrap64 ((rd x113001_2 x7_2) + (rd l1_1 x7_2))))) else (none)) else (none)) = some (r1, r2, r3) := by first | (rw [hy115]; with_reducible exact H) | (have H2_ := (Option.bind_some _ _).symm.trans H; rw [hy115]; with_reducible exact H2_) | (have H2_ := (Option.bind_some _ _).symm.trans H; with_reducible exact H2_) | with_reducible exact H | (rw [hy115]; exact H) | exact H
        have Ny115 := Aside0.mk hy115
        clear hy115
        by_cases c41 : x7_2 < (x113001_2.length : Int)
        ·
         rw [if_pos c41] at H
         have c41b0 : decide (x7_2 < (x113001_2.length : Int)) = true := decide_eq_true c41
         clear c41
         by_cases c42 : x7_2 < (l1_1.length : Int)
         ·
          rw [if_pos c42] at H
          have c42b0 : decide (x7_2 < (l1_1.length : Int)) = true := decide_eq_true c42
          clear c42
          obtain ⟨y118, hy118⟩ : ∃ y_ : List Int, y_ = (x113001_2.set (x7_2 : Int).toNat (wrap64 ((rd x113001_2 x7_2) + (rd l1_1 x7_2)))) := ⟨_, rfl⟩
          replace H : (spec_AddTallies.l0 k2 (wrap64 (x7_2 + 1)) l1_0 l1_1 y115 y118) = some (r1, r2, r3) := by first | (rw [hy118]; with_reducible exact H) | (have H2_ := (Option.bind_some _ _).symm.trans H; rw [hy118]; with_reducible exact H2_) | (have H2_ := (Option.bind_some _ _).symm.trans H; with_reducible exact H2_) | with_reducible exact H | (rw [hy118]; exact H) | exact H
          have Ny118 := Aside0.mk hy118
          clear hy118
          have H' := Aside0.mk H
          clear H
          have hnb44 := NB112_101.out
          have hnc44 := NB101_112.out
          have hnb45 := NB112_102.out
          have hnc45 := NB102_112.out
          have hnb46 := NB112_103.out
          have hnc46 := NB103_112.out
          obtain ⟨hcz47_0, hcz47_1, hfz47_0, hfz47_1⟩ := bc2 BK112.out
          obtain ⟨Ao48, co48, eo48⟩ := Kd.R_slice HO_113000.out
          subst eo48
          try go_wp2
          have n0_ := aK (Kd.R_drew HO_113000.out)
          have n1_ := aK (Kd.R_drew HO_113001.out)
          have n2_ := aK (blk_drew BK101.out)
          have n3_ := aK (blk_drew BK102.out)
          have n4_ := aK (blk_drew BK103.out)
          have n5_ := aK (blk_drew BK112.out)
          have n6_ := aK (below_drew1 HB.out)
          clear HO_113000 HO_113001 BK101 BK102 BK103 BK112 HB
          have HO_113000 := n0_
          have HO_113001 := n1_
          have BK101 := n2_
          have BK102 := n3_
          have BK103 := n4_
          have BK112 := n5_
          have HB := n6_
          clear n0_ n1_ n2_ n3_ n4_ n5_ n6_
          have p113 : 0 ≤ (x7_2 : Int) := of_decide_eq_true (by first | (with_reducible assumption) | assumption)
          have q113 : x7_2 < (x113000_2.length : Int) := of_decide_eq_true (by first | (with_reducible assumption) | assumption)
          obtain ⟨ad113, e113, hx113_0⟩ := Kd.at_int (Kd.R_reads' HO_113000.out).2.2 x7_2 p113 q113
          cases e113
          replace p113 := eq_true p113
          replace q113 := eq_true q113
          have p114 : 0 ≤ (x7_2 : Int) := of_decide_eq_true (by first | (with_reducible assumption) | assumption)
          have q114 : x7_2 < (l1_0.length : Int) := of_decide_eq_true (by first | (with_reducible assumption) | assumption)
          obtain ⟨ad114, e114, hx114_0⟩ := Kd.at_int HR1_0.out x7_2 p114 q114
          have hw114_0 := hx114_0
          cases e114
          replace hx114_0 := (HB.out.cell (World.block_lt_of_cell? w _ hx114_0)).trans hx114_0
          replace p114 := eq_true p114
          replace q114 := eq_true q114
          have p40 : 0 ≤ (x7_2 : Int) := of_decide_eq_true (by first | (with_reducible assumption) | assumption)
          have q40 : (x7_2 : Int) < ((x113000_2.length : Int) : Int) := of_decide_eq_true (by first | (with_reducible assumption) | assumption)
          obtain ⟨go40, co40, eo40, gb40, gl40, cl40, HG40⟩ := Kd.R_form HO_113000.out (by omega)
          (first | cases eo40 | (injection eo40 with ea_ en_ ec_; (first | subst ea_ | (injection ea_ with ea_; subst ea_)); subst ec_; clear en_))
          have GB40 := Aside0.mk gb40
          have GG40 := Aside0.mk HG40
          clear gb40 gl40 HG40
          (first | simp only [add_plain] at hx113_0 | skip)
          obtain ⟨hx40_0, hf40_0⟩ := Kd.R_celln 0 HO_113000.out (x7_2 : Int) p40 q40
          replace p40 := eq_true p40
          replace q40 := eq_true q40
          have HP50 := Kd.R_putn HO_113000.out (x7_2 : Int) (wrap64 ((rd x113000_2 x7_2) + (rd l1_0 x7_2)))
          rw [← Ny115.out] at HP50
          have HQ50 := Aside0.mk HP50
          clear HP50
          refine start_ (n := 16) (S := fun w' => w'.cell? ⟨gb112, 0, none⟩ = some (.slice (some ⟨go40, 0, none⟩) x113000_2.length co48) ∧ w'.cell? ⟨gb112, 1, none⟩ = some (u113001) ∧ w'.cell? ⟨gb102, 0, none⟩ = some (.slice (some ad114) l1_0.length c1_0) ∧ w'.cell? ⟨gb102, 1, none⟩ = some (.slice A1_1 l1_1.length c1_1) ∧ w'.cell? ⟨go40, (x7_2).toNat, none⟩ = some (.int .i64 (rd x113000_2 x7_2)) ∧ w'.cell? (ad114.add (x7_2).toNat) = some (.int .i64 (rd l1_0 x7_2))) (ds := [15]) #[false, false, false, false, false, false, false, false, false, false, false, false, false, false, false, false] (by kernel_rfl) rfl rfl ⟨(blk_cell BK112.out 0).trans rfl, (blk_cell BK112.out 1).trans rfl, (blk_cell BK102.out 0).trans rfl, (blk_cell BK102.out 1).trans rfl, hx113_0, ((HB.out.cell (World.block_lt_of_cell? w _ hw114_0)).trans hw114_0)⟩ (fun hHeld => ?_); refine with_tabW spec_AddTallies.tab7 spec_AddTallies.bits7 (fun HT_ HW_ => ?_)
          generalize wr.drew = w49 at HO_113000 HO_113001 BK101 BK102 BK103 BK112 HB GG40 HQ50 hf40_0 hx113_0 hx114_0 hx40_0 hHeld ⊢
          refine pu (i := 0) (N := some 26) #[true, false, false, false, false, false, false, false, false, false, false, false, false, false, false, false] rfl rfl HT_.out ?_
          refine pu (i := 2) (N := some 28) #[true, false, true, false, false, false, false, false, false, false, false, false, false, false, false, false] rfl rfl HT_.out ?_
          refine pu (i := 3) (N := some 29) #[true, false, true, true, false, false, false, false, false, false, false, false, false, false, false, false] rfl rfl HT_.out ?_
          refine pu (i := 5) (N := some 31) #[true, false, true, true, false, true, false, false, false, false, false, false, false, false, false, false] rfl rfl HT_.out ?_
          refine pu (i := 8) (N := some 34) #[true, false, true, true, false, true, false, false, true, false, false, false, false, false, false, false] rfl rfl HT_.out ?_
          refine pu (i := 10) (N := some 36) #[true, false, true, true, false, true, false, false, true, false, true, false, false, false, false, false] rfl rfl HT_.out ?_
          refine tk (i := 1) (N := some 27) #[true, true, true, true, false, true, false, false, true, false, true, false, false, false, false, false] rfl rfl HT_.out HW_.out (Or.inl ⟨by rfl, by rintro w' ⟨s0, s1, s2, s3, s4, s5⟩; go_simp; with_reducible rfl⟩) hHeld ?_
          refine tk (i := 4) (N := some 30) #[true, true, true, true, true, true, false, false, true, false, true, false, false, false, false, false] rfl rfl HT_.out HW_.out (Or.inl ⟨by rfl, by rintro w' ⟨s0, s1, s2, s3, s4, s5⟩; go_simp; with_reducible rfl⟩) hHeld ?_
          refine pu (i := 6) (N := some 32) #[true, true, true, true, true, true, true, false, true, false, true, false, false, false, false, false] rfl rfl HT_.out ?_
          refine tk (i := 7) (N := some 33) #[true, true, true, true, true, true, true, true, true, false, true, false, false, false, false, false] rfl rfl HT_.out HW_.out (Or.inl ⟨by rfl, by rintro w' ⟨s0, s1, s2, s3, s4, s5⟩; go_simp; with_reducible rfl⟩) hHeld ?_
          refine tk (i := 9) (N := some 35) #[true, true, true, true, true, true, true, true, true, true, true, false, false, false, false, false] rfl rfl HT_.out HW_.out (Or.inl ⟨by rfl, by rintro w' ⟨s0, s1, s2, s3, s4, s5⟩; go_simp; with_reducible rfl⟩) hHeld ?_
          refine pu (i := 11) (N := some 37) #[true, true, true, true, true, true, true, true, true, true, true, true, false, false, false, false] rfl rfl HT_.out ?_
          refine tk (i := 12) (N := some 38) #[true, true, true, true, true, true, true, true, true, true, true, true, true, false, false, false] rfl rfl HT_.out HW_.out (Or.inl ⟨by rfl, by rintro w' ⟨s0, s1, s2, s3, s4, s5⟩; go_simp; with_reducible rfl⟩) hHeld ?_
          refine pu (i := 13) (N := some 39) #[true, true, true, true, true, true, true, true, true, true, true, true, true, true, false, false] rfl rfl HT_.out ?_
          refine pu (i := 14) (N := some 40) #[true, true, true, true, true, true, true, true, true, true, true, true, true, true, true, false] rfl rfl HT_.out ?_
          refine last_ (i := 15) (N := none) #[true, true, true, true, true, true, true, true, true, true, true, true, true, true, true, true] rfl rfl (one_of HT_.out (by kernel_rfl)) (by decide) (fun K hK => ?_)
          refine skip_ (w1 := ?_) (by rfl) rfl ?_ ?_
          rotate_left
          ·
           go_simp
           rfl
          refine hK.out _ _ ?_
          clear hK K
          refine done_ (done_of HT_.out (by kernel_rfl)) ?_
          try go_wp2
          have n0_ : Aside0 (Kd.R (Kd.int .i64) 3 (w49.setCell ⟨go40, (x7_2 : Int).toNat, none⟩ (.int .i64 (wrap64 ((rd x113000_2 x7_2) + (rd l1_0 x7_2))))) w.heap.size (fun k_ => some k_ ≠ (u113001 : Value).ownBlock) (.slice (some ⟨go40, 0, none⟩) x113000_2.length co48) y115) := ⟨pR HQ50.out⟩
          have n1_ : Aside0 (Kd.R (Kd.int .i64) 3 (w49.setCell ⟨go40, (x7_2 : Int).toNat, none⟩ (.int .i64 (wrap64 ((rd x113000_2 x7_2) + (rd l1_0 x7_2))))) w.heap.size (fun k_ => some k_ ≠ (.slice (some ⟨go40, 0, none⟩) x113000_2.length co48 : Value).ownBlock) u113001 x113001_2) := ⟨by (with_reducible repeat (first | apply Kd.R_alloc | apply Kd.R_drewN | apply Kd.R_drew)); exact Kd.R_mono (Kd.R_far (p := ⟨go40, (x7_2 : Int).toNat, none⟩) (Kd.R_mono HO_113001.out (fun k_ hk => (⟨hk, fun e_ => hk (by rw [e_]; rfl)⟩ : _ ∧ k_ ≠ go40))) (fun _ hk => hk.2) (.int .i64 (wrap64 ((rd x113000_2 x7_2) + (rd l1_0 x7_2))))) (fun _ hk => hk.1)⟩
          have n2_ : Aside0 ((w49.setCell ⟨go40, (x7_2 : Int).toNat, none⟩ (.int .i64 (wrap64 ((rd x113000_2 x7_2) + (rd l1_0 x7_2))))).heap[gb101]? = some (.cells #[.slice A0_0 l0_0.length c0_0, .slice A0_1 l0_1.length c0_1] 26 (0, 0))) := ⟨by refine bk ?_; refine blk_far ?_ (by have h_ := Kd.R_ne HO_113000.out BK101.out (by decide); intro e_; exact h_ (by rw [e_]; rfl)) _; refine bk ?_; exact BK101.out⟩
          have n3_ : Aside0 ((w49.setCell ⟨go40, (x7_2 : Int).toNat, none⟩ (.int .i64 (wrap64 ((rd x113000_2 x7_2) + (rd l1_0 x7_2))))).heap[gb102]? = some (.cells #[.slice (some ad114) l1_0.length c1_0, .slice A1_1 l1_1.length c1_1] 26 (0, 0))) := ⟨by refine bk ?_; refine blk_far ?_ (by have h_ := Kd.R_ne HO_113000.out BK102.out (by decide); intro e_; exact h_ (by rw [e_]; rfl)) _; refine bk ?_; exact BK102.out⟩
          have n4_ : Aside0 ((w49.setCell ⟨go40, (x7_2 : Int).toNat, none⟩ (.int .i64 (wrap64 ((rd x113000_2 x7_2) + (rd l1_0 x7_2))))).heap[gb103]? = some (.cells #[.slice none 0 0, .slice none 0 0] 26 (0, 0))) := ⟨by refine bk ?_; refine blk_far ?_ (by have h_ := Kd.R_ne HO_113000.out BK103.out (by decide); intro e_; exact h_ (by rw [e_]; rfl)) _; refine bk ?_; exact BK103.out⟩
          have n5_ : Aside0 ((w49.setCell ⟨go40, (x7_2 : Int).toNat, none⟩ (.int .i64 (wrap64 ((rd x113000_2 x7_2) + (rd l1_0 x7_2))))).heap[gb112]? = some (.cells #[.slice (some ⟨go40, 0, none⟩) x113000_2.length co48, u113001] 26 (0, 0))) := ⟨by refine bk ?_; refine blk_far ?_ (by have h_ := Kd.R_ne HO_113000.out BK112.out (by decide); intro e_; exact h_ (by rw [e_]; rfl)) _; refine bk ?_; exact BK112.out⟩
          have n6_ : Aside0 (Below w.heap.size w (w49.setCell ⟨go40, (x7_2 : Int).toNat, none⟩ (.int .i64 (wrap64 ((rd x113000_2 x7_2) + (rd l1_0 x7_2)))))) := ⟨by repeat (first | (with_reducible first | exact HB.out | apply below_alloc | apply pw_below_drewN | apply below_drew1 | refine below_set ?_ GB40.out | refine below_set ?_ GE101.out | refine below_set ?_ GE102.out | refine below_set ?_ GE103.out | refine below_set ?_ GE112.out) | exact HB.out)⟩
          (try clear HO_113000)
          (try clear HO_113001)
          (try clear BK101)
          (try clear BK102)
          (try clear BK103)
          (try clear BK112)
          (try clear HB)
          generalize (w49.setCell ⟨go40, (x7_2 : Int).toNat, none⟩ (.int .i64 (wrap64 ((rd x113000_2 x7_2) + (rd l1_0 x7_2))))) = w51 at n0_ n1_ n2_ n3_ n4_ n5_ n6_ ⊢
          have HO_113000 := n0_
          have HO_113001 := n1_
          have BK101 := n2_
          have BK102 := n3_
          have BK103 := n4_
          have BK112 := n5_
          have HB := n6_
          clear n0_ n1_ n2_ n3_ n4_ n5_ n6_
          have n0_ := aK (Kd.R_drew HO_113000.out)
          have n1_ := aK (Kd.R_drew HO_113001.out)
          have n2_ := aK (blk_drew BK101.out)
          have n3_ := aK (blk_drew BK102.out)
          have n4_ := aK (blk_drew BK103.out)
          have n5_ := aK (blk_drew BK112.out)
          have n6_ := aK (below_drew1 HB.out)
          clear HO_113000 HO_113001 BK101 BK102 BK103 BK112 HB
          have HO_113000 := n0_
          have HO_113001 := n1_
          have BK101 := n2_
          have BK102 := n3_
          have BK103 := n4_
          have BK112 := n5_
          have HB := n6_
          clear n0_ n1_ n2_ n3_ n4_ n5_ n6_
          obtain ⟨Ao53, co53, eo53⟩ := Kd.R_slice HO_113001.out
          (first | subst eo53 | (obtain ⟨f4_, f5_⟩ := sI eo53; subst f4_; subst f5_))
          have p116 : 0 ≤ (x7_2 : Int) := of_decide_eq_true (by first | (with_reducible assumption) | assumption)
          have q116 : x7_2 < (x113001_2.length : Int) := of_decide_eq_true (by first | (with_reducible assumption) | assumption)
          obtain ⟨ad116, e116, hx116_0⟩ := Kd.at_int (Kd.R_reads' HO_113001.out).2.2 x7_2 p116 q116
          cases e116
          replace p116 := eq_true p116
          replace q116 := eq_true q116
          have p117 : 0 ≤ (x7_2 : Int) := of_decide_eq_true (by first | (with_reducible assumption) | assumption)
          have q117 : x7_2 < (l1_1.length : Int) := of_decide_eq_true (by first | (with_reducible assumption) | assumption)
          obtain ⟨ad117, e117, hx117_0⟩ := Kd.at_int HR1_1.out x7_2 p117 q117
          have hw117_0 := hx117_0
          cases e117
          replace hx117_0 := (HB.out.cell (World.block_lt_of_cell? w _ hx117_0)).trans hx117_0
          replace p117 := eq_true p117
          replace q117 := eq_true q117
          have p43 : 0 ≤ (x7_2 : Int) := of_decide_eq_true (by first | (with_reducible assumption) | assumption)
          have q43 : (x7_2 : Int) < ((x113001_2.length : Int) : Int) := of_decide_eq_true (by first | (with_reducible assumption) | assumption)
          obtain ⟨go43, co43, eo43, gb43, gl43, cl43, HG43⟩ := Kd.R_form HO_113001.out (by omega)
          (first | cases eo43 | (injection eo43 with ea_ en_ ec_; (first | subst ea_ | (injection ea_ with ea_; subst ea_)); subst ec_; clear en_))
          have GB43 := Aside0.mk gb43
          have GG43 := Aside0.mk HG43
          clear gb43 gl43 HG43
          (first | simp only [add_plain] at hx116_0 | skip)
          obtain ⟨hx43_0, hf43_0⟩ := Kd.R_celln 0 HO_113001.out (x7_2 : Int) p43 q43
          replace p43 := eq_true p43
          replace q43 := eq_true q43
          have HP54 := Kd.R_putn HO_113001.out (x7_2 : Int) (wrap64 ((rd x113001_2 x7_2) + (rd l1_1 x7_2)))
          rw [← Ny118.out] at HP54
          have HQ54 := Aside0.mk HP54
          clear HP54
          refine start_ (n := 16) (S := fun w' => w'.cell? ⟨gb112, 0, none⟩ = some (.slice (some ⟨go40, 0, none⟩) x113000_2.length co48) ∧ w'.cell? ⟨gb112, 1, none⟩ = some (.slice (some ⟨go43, 0, none⟩) x113001_2.length co53) ∧ w'.cell? ⟨gb102, 0, none⟩ = some (.slice (some ad114) l1_0.length c1_0) ∧ w'.cell? ⟨gb102, 1, none⟩ = some (.slice (some ad117) l1_1.length c1_1) ∧ w'.cell? ⟨go43, (x7_2).toNat, none⟩ = some (.int .i64 (rd x113001_2 x7_2)) ∧ w'.cell? (ad117.add (x7_2).toNat) = some (.int .i64 (rd l1_1 x7_2))) (ds := [15]) #[false, false, false, false, false, false, false, false, false, false, false, false, false, false, false, false] (by kernel_rfl) rfl rfl ⟨(blk_cell BK112.out 0).trans rfl, (blk_cell BK112.out 1).trans rfl, (blk_cell BK102.out 0).trans rfl, (blk_cell BK102.out 1).trans rfl, hx116_0, ((HB.out.cell (World.block_lt_of_cell? w _ hw117_0)).trans hw117_0)⟩ (fun hHeld => ?_); refine with_tabW spec_AddTallies.tab8 spec_AddTallies.bits8 (fun HT_ HW_ => ?_)
          generalize w51.drew = w52 at HO_113000 HO_113001 BK101 BK102 BK103 BK112 HB GG43 HQ50 HQ54 hf43_0 hx116_0 hx117_0 hx43_0 hHeld ⊢
          refine pu (i := 0) (N := some 41) #[true, false, false, false, false, false, false, false, false, false, false, false, false, false, false, false] rfl rfl HT_.out ?_
          refine pu (i := 2) (N := some 43) #[true, false, true, false, false, false, false, false, false, false, false, false, false, false, false, false] rfl rfl HT_.out ?_
          refine pu (i := 3) (N := some 44) #[true, false, true, true, false, false, false, false, false, false, false, false, false, false, false, false] rfl rfl HT_.out ?_
          refine pu (i := 5) (N := some 46) #[true, false, true, true, false, true, false, false, false, false, false, false, false, false, false, false] rfl rfl HT_.out ?_
          refine pu (i := 8) (N := some 49) #[true, false, true, true, false, true, false, false, true, false, false, false, false, false, false, false] rfl rfl HT_.out ?_
          refine pu (i := 10) (N := some 51) #[true, false, true, true, false, true, false, false, true, false, true, false, false, false, false, false] rfl rfl HT_.out ?_
          refine tk (i := 1) (N := some 42) #[true, true, true, true, false, true, false, false, true, false, true, false, false, false, false, false] rfl rfl HT_.out HW_.out (Or.inl ⟨by rfl, by rintro w' ⟨s0, s1, s2, s3, s4, s5⟩; go_simp; with_reducible rfl⟩) hHeld ?_
          refine tk (i := 4) (N := some 45) #[true, true, true, true, true, true, false, false, true, false, true, false, false, false, false, false] rfl rfl HT_.out HW_.out (Or.inl ⟨by rfl, by rintro w' ⟨s0, s1, s2, s3, s4, s5⟩; go_simp; with_reducible rfl⟩) hHeld ?_
          refine pu (i := 6) (N := some 47) #[true, true, true, true, true, true, true, false, true, false, true, false, false, false, false, false] rfl rfl HT_.out ?_
          refine tk (i := 7) (N := some 48) #[true, true, true, true, true, true, true, true, true, false, true, false, false, false, false, false] rfl rfl HT_.out HW_.out (Or.inl ⟨by rfl, by rintro w' ⟨s0, s1, s2, s3, s4, s5⟩; go_simp; with_reducible rfl⟩) hHeld ?_
          refine tk (i := 9) (N := some 50) #[true, true, true, true, true, true, true, true, true, true, true, false, false, false, false, false] rfl rfl HT_.out HW_.out (Or.inl ⟨by rfl, by rintro w' ⟨s0, s1, s2, s3, s4, s5⟩; go_simp; with_reducible rfl⟩) hHeld ?_
          refine pu (i := 11) (N := some 52) #[true, true, true, true, true, true, true, true, true, true, true, true, false, false, false, false] rfl rfl HT_.out ?_
          refine tk (i := 12) (N := some 53) #[true, true, true, true, true, true, true, true, true, true, true, true, true, false, false, false] rfl rfl HT_.out HW_.out (Or.inl ⟨by rfl, by rintro w' ⟨s0, s1, s2, s3, s4, s5⟩; go_simp; with_reducible rfl⟩) hHeld ?_
          refine pu (i := 13) (N := some 54) #[true, true, true, true, true, true, true, true, true, true, true, true, true, true, false, false] rfl rfl HT_.out ?_
          refine pu (i := 14) (N := some 55) #[true, true, true, true, true, true, true, true, true, true, true, true, true, true, true, false] rfl rfl HT_.out ?_
          refine last_ (i := 15) (N := none) #[true, true, true, true, true, true, true, true, true, true, true, true, true, true, true, true] rfl rfl (one_of HT_.out (by kernel_rfl)) (by decide) (fun K hK => ?_)
          refine skip_ (w1 := ?_) (by rfl) rfl ?_ ?_
          rotate_left
          ·
           go_simp
           rfl
          refine hK.out _ _ ?_
          clear hK K
          refine done_ (done_of HT_.out (by kernel_rfl)) ?_
          try go_wp2
          go_roundg k2
          case measure => have := HJ2.out; have := HK2.out; omega
          case rel => exact ⟨(wrap64 (x7_2 + 1)), (y115), (y118), (.slice (some ⟨go40, 0, none⟩) x113000_2.length co48), (.slice (some ⟨go43, 0, none⟩) x113001_2.length co53), (by first | rfl | (simp; done) | (simp [*]; done)), H', ⟨by have := HJ2.out; have := HK2.out; omega⟩, ⟨by (with_reducible repeat (first | apply Kd.R_alloc | apply Kd.R_drewN | apply Kd.R_drew)); exact Kd.R_mono (Kd.R_far (p := ⟨go43, (x7_2 : Int).toNat, none⟩) (Kd.R_mono HO_113000.out (fun k_ hk => (⟨hk, fun e_ => hk (by rw [e_]; rfl)⟩ : _ ∧ k_ ≠ go43))) (fun _ hk => hk.2) (.int .i64 (wrap64 ((rd x113001_2 x7_2) + (rd l1_1 x7_2))))) (fun _ hk => hk.1)⟩, ⟨pR HQ54.out⟩, ⟨by refine bk ?_; refine blk_far ?_ (by have h_ := Kd.R_ne HO_113001.out BK101.out (by decide); intro e_; exact h_ (by rw [e_]; rfl)) _; refine bk ?_; exact BK101.out⟩, ⟨by refine bk ?_; refine blk_far ?_ (by have h_ := Kd.R_ne HO_113001.out BK102.out (by decide); intro e_; exact h_ (by rw [e_]; rfl)) _; refine bk ?_; exact BK102.out⟩, ⟨by refine bk ?_; refine blk_far ?_ (by have h_ := Kd.R_ne HO_113001.out BK103.out (by decide); intro e_; exact h_ (by rw [e_]; rfl)) _; refine bk ?_; exact BK103.out⟩, ⟨by refine bk ?_; refine blk_far ?_ (by have h_ := Kd.R_ne HO_113001.out BK112.out (by decide); intro e_; exact h_ (by rw [e_]; rfl)) _; refine bk ?_; exact BK112.out⟩, ⟨by repeat (first | (with_reducible first | exact HB.out | apply below_alloc | apply pw_below_drewN | apply below_drew1 | refine below_set ?_ GB43.out | refine below_set ?_ GE101.out | refine below_set ?_ GE102.out | refine below_set ?_ GE103.out | refine below_set ?_ GE112.out) | exact HB.out)⟩⟩
         rw [if_neg c42] at H
         exact absurd H (by simp)
        rw [if_neg c41] at H
        exact absurd H (by simp)
       rw [if_neg c39] at H
       exact absurd H (by simp)
      rw [if_neg c38] at H
      exact absurd H (by simp)
     rw [if_neg c37] at H
     have c37b0 : decide (x7_2 < (x113000_2.length : Int)) = false := decide_eq_false c37
     clear c37
     replace H := Option.bind_eq_some_iff.mp H
     obtain ⟨t119, A550, H⟩ := H
     replace H : (if t119 = true then (some (x113000_2, x113001_2, true)) else (some (([] : List Int), ([] : List Int), false))) = some (r1, r2, r3) := H
     have A55 := Aside0.mk A550
     clear A550
     by_cases c56 : t119 = true
     ·
      subst c56
      have H1 : (some (x113000_2, x113001_2, true)) = some (r1, r2, r3) := by rw [if_pos rfl] at H; exact H
      clear H
      have H := H1
      clear H1
      simp only [Option.some.injEq, Prod.mk.injEq] at H
      obtain ⟨rfl, rfl, rfl⟩ := H
      have hnb57 := NB112_101.out
      have hnc57 := NB101_112.out
      have hnb58 := NB112_102.out
      have hnc58 := NB102_112.out
      have hnb59 := NB112_103.out
      have hnc59 := NB103_112.out
      obtain ⟨hcz60_0, hcz60_1, hfz60_0, hfz60_1⟩ := bc2 BK112.out
      obtain ⟨Ao61, co61, eo61⟩ := Kd.R_slice HO_113000.out
      subst eo61
      obtain ⟨Ao62, co62, eo62⟩ := Kd.R_slice HO_113001.out
      subst eo62
      go_wp2_with (first | ((with_reducible refine gate_callee (f := 44) rfl ?_); refine gl (some 57) Try.func44 #[.agg #[.slice Ao61 x113000_2.length co61, .slice Ao62 x113001_2.length co62]] ?_; (with_reducible refine (spec_l10Good.calls k2 _ _ x113000_2 _ _ x113001_2 true _ ?side1 ?side2 ?side3 ?side4 A55.out).mono ?_); (case side1 => exact pC (Kd.R_reads' HO_113000.out).2.2); (case side2 => exact (Kd.R_reads' HO_113000.out).2.1); (case side3 => exact pC (Kd.R_reads' HO_113001.out).2.2); (case side4 => exact (Kd.R_reads' HO_113001.out).2.1); rintro e w63 ⟨rfl, hb⟩; refine ⟨_, rfl, ?_⟩; have n0_ := aK (Kd.R_below (pR HO_113000.out) hb); have n1_ := aK (Kd.R_below (pR HO_113001.out) hb); replace BK101 := bB BK101 hb; replace BK102 := bB BK102 hb; replace BK103 := bB BK103 hb; replace BK112 := bB BK112 hb; replace HB := bS HB hb; clear HO_113000 HO_113001; have HO_113000 := n0_; have HO_113001 := n1_; clear n0_ n1_; (try clear hb); (try clear hb2); (try clear hk); (try clear hi); obtain ⟨hcz64_0, hcz64_1, hfz64_0, hfz64_1⟩ := bc2 BK112.out; have hnb65 := NB103_101.out; have hnc65 := NB101_103.out; have hnb66 := NB103_102.out; have hnc66 := NB102_103.out; obtain ⟨hcz67_0, hcz67_1, hfz67_0, hfz67_1⟩ := bc2 BK103.out))
      refine bodyPost_ret (results_ct rfl _ _ gb103 26 #[.slice Ao61 x113000_2.length co61, .slice Ao62 x113001_2.length co62] (0, 0) _ rfl (by refine bk ?_; refine blk_put (cs := #[.slice Ao61 x113000_2.length co61, .slice none 0 0]) ?_ 1 _ rfl; refine bk ?_; refine blk_put (cs := #[.slice none 0 0, .slice none 0 0]) ?_ 0 _ rfl; refine bk ?_; exact BK103.out) Try.underlying26 rfl (by kernel_rfl)) rfl ?_
      exact ⟨_, _, er, by (with_reducible repeat (first | apply Kd.R_alloc | apply Kd.R_drewN | apply Kd.R_drew)); exact rF2 HO_113000.out BK103.out (.slice Ao61 x113000_2.length co61) (.slice Ao62 x113001_2.length co62), by (with_reducible repeat (first | apply Kd.R_alloc | apply Kd.R_drewN | apply Kd.R_drew)); exact rF2 HO_113001.out BK103.out (.slice Ao61 x113000_2.length co61) (.slice Ao62 x113001_2.length co62), pT HB.out⟩
     replace c56 := Bool.eq_false_iff.mpr c56
     subst c56
     have H1 : (some (([] : List Int), ([] : List Int), false)) = some (r1, r2, r3) := by rw [if_neg (show ¬ (false = true) by decide)] at H; exact H
     clear H
     have H := H1
     clear H1
     simp only [Option.some.injEq, Prod.mk.injEq] at H
     obtain ⟨rfl, rfl, rfl⟩ := H
     have hnb68 := NB112_101.out
     have hnc68 := NB101_112.out
     have hnb69 := NB112_102.out
     have hnc69 := NB102_112.out
     have hnb70 := NB112_103.out
     have hnc70 := NB103_112.out
     obtain ⟨hcz71_0, hcz71_1, hfz71_0, hfz71_1⟩ := bc2 BK112.out
     obtain ⟨Ao72, co72, eo72⟩ := Kd.R_slice HO_113000.out
     subst eo72
     obtain ⟨Ao73, co73, eo73⟩ := Kd.R_slice HO_113001.out
     subst eo73
     go_wp2_with (first | ((with_reducible refine gate_callee (f := 44) rfl ?_); refine gl (some 57) Try.func44 #[.agg #[.slice Ao72 x113000_2.length co72, .slice Ao73 x113001_2.length co73]] ?_; (with_reducible refine (spec_l10Good.calls k2 _ _ x113000_2 _ _ x113001_2 false _ ?side1 ?side2 ?side3 ?side4 A55.out).mono ?_); (case side1 => exact pC (Kd.R_reads' HO_113000.out).2.2); (case side2 => exact (Kd.R_reads' HO_113000.out).2.1); (case side3 => exact pC (Kd.R_reads' HO_113001.out).2.2); (case side4 => exact (Kd.R_reads' HO_113001.out).2.1); rintro e w74 ⟨rfl, hb⟩; refine ⟨_, rfl, ?_⟩; have n0_ := aK (Kd.R_below (pR HO_113000.out) hb); have n1_ := aK (Kd.R_below (pR HO_113001.out) hb); replace BK101 := bB BK101 hb; replace BK102 := bB BK102 hb; replace BK103 := bB BK103 hb; replace BK112 := bB BK112 hb; replace HB := bS HB hb; clear HO_113000 HO_113001; have HO_113000 := n0_; have HO_113001 := n1_; clear n0_ n1_; (try clear hb); (try clear hb2); (try clear hk); (try clear hi); have hnb75 := NB103_101.out; have hnc75 := NB101_103.out; have hnb76 := NB103_102.out; have hnc76 := NB102_103.out; obtain ⟨hcz77_0, hcz77_1, hfz77_0, hfz77_1⟩ := bc2 BK103.out))
     refine bodyPost_ret (results_ct rfl _ _ gb103 26 #[.slice none 0 0, .slice none 0 0] (0, 0) _ rfl (by refine bk ?_; refine blk_put (cs := #[.slice none 0 0, .slice none 0 0]) ?_ 1 _ rfl; refine bk ?_; refine blk_put (cs := #[.slice none 0 0, .slice none 0 0]) ?_ 0 _ rfl; refine bk ?_; exact BK103.out) Try.underlying26 rfl (by kernel_rfl)) rfl ?_
     exact ⟨_, _, er, by first | exact Kd.R_nil _ _ _ _ _ | exact Kd.N_nil _ _ _ _ _ | exact Kd.V_nil _ _ _ _ _ | exact Kd.Q_nil _ _ _ _ _ | exact Kd.S_nil _ _ _ _ _, by first | exact Kd.R_nil _ _ _ _ _ | exact Kd.N_nil _ _ _ _ _ | exact Kd.V_nil _ _ _ _ _ | exact Kd.Q_nil _ _ _ _ _ | exact Kd.S_nil _ _ _ _ _, pT HB.out⟩
def spec_l1Cur_one.f (s0_0 : List Int) (s0_1 : Int) (s0_2 : Int) (a1 : Int) : Option (Bool × Int × Int) := (spec_l1Cur_pick.f s0_0 s0_1 s0_2 a1).bind fun bt101 => (some ((bt101.1 == 0), bt101.2.1, bt101.2.2))
theorem spec_l1Cur_one.calls (g : Nat) (s0_0 : List Int) (s0_1 : Int) (s0_2 : Int) (a1 : Int) (r1 : Bool) (r2 : Int) (r3 : Int) (w0 w : World) (hI : IsS65 w0 w g s0_0 s0_1 s0_2) (hB : Below w0.heap.size w0 w) (h : spec_l1Cur_one.f s0_0 s0_1 s0_2 a1 = some (r1, r2, r3)) :
  Calls Try.prog 40 #[.pointer (some ⟨g, 0, none⟩), .int .i64 a1] w fun e w' => e = .returned (.bool r1) ∧ IsS65 w0 w' g s0_0 r2 r3 ∧ Below w0.heap.size w0 w' ∧ KeepBut w w' g none := by
 have HI0 := Aside0.mk hI
 have HK := aK (KeepBut.refl w g none)
 have HL := Aside0.mk hB.size
 clear hI
 have HW0 := Aside0.mk hB.size
 have HB := Aside0.mk hB
 clear hB
 have H : ((spec_l1Cur_pick.f s0_0 s0_1 s0_2 a1).bind fun bt101 => (some ((bt101.1 == 0), bt101.2.1, bt101.2.2))) = some (r1, r2, r3) := h
 clear h
 replace H := Option.bind_eq_some_iff.mp H
 obtain ⟨⟨t101, t102, t103⟩, A30, H⟩ := H
 replace H : (some ((t101 == 0), t102, t103)) = some (r1, r2, r3) := H
 have A3 := Aside0.mk A30
 clear A30
 simp only [Option.some.injEq, Prod.mk.injEq] at H
 obtain ⟨rfl, rfl, rfl⟩ := H
 go_enter Try.func40, Try.ntmps40
 go_wp2_with (first | ((with_reducible refine gate_callee (f := 39) rfl ?_); refine gl (some 7) Try.func39 #[.pointer (some ⟨g, 0, none⟩), .int .i64 a1] ?_; (with_reducible refine (spec_l1Cur_pick.calls g s0_0 s0_1 s0_2 a1 t101 t102 t103 w0 _ ?side1 ?side2 A3.out).mono ?_); (case side1 => exact pI65 HI0.out); (case side2 => exact pV HB.out (IsS65.ge HI0.out)); rintro e w4 ⟨rfl, hi, hb, hk⟩; refine ⟨_, rfl, ?_⟩; have n0_ := aK (KeepBut.trans (pK HK.out) hk (.inl rfl)); have n1_ := aK (hb); have n2_ := aK (hi); clear HK HB HI0; have HK := n0_; have HB := n1_; have HI0 := n2_; clear n0_ n1_ n2_; (try clear hb); (try clear hb2); (try clear hk); (try clear hi)))
 go_ret
 exact ⟨er, pI65 HI0.out, (pV HB.out (IsS65.ge HI0.out)), pK HK.out⟩
end Go.Proofs.Ytjicgmcogadleaa.P
