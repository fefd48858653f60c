/- Texts of the claim FnNowcast, merged: part 7 of 13: the program's and the reference's functions as Lean functions, the walks that show it, and plain lemmas; no conditions. -/
import Derived.Test.YtmekfmhnpinjlaaKFnNowcast3
import Derived.Test.YtmekfmhnpinjlaaKFnNowcast6
import Derived.Test.YtmekfmhnpinjlaaKFnNowcast2
import Derived.Sort.OwnSorted
open Go.RowKit Go.Proofs.YtmekfmhnpinjlaaW.PrintWords Go.Proofs.YtmekfmhnpinjlaaW.PrintLast Go.Proofs.YtmekfmhnpinjlaaW.PrintMore
set_option linter.unusedVariables false
set_option linter.unusedSimpArgs false
set_option maxHeartbeats 8000000
set_option maxRecDepth 100000
namespace Go.Proofs.Ytmekfmhnpinjlaa.P
attribute [local go_sem] max2_int min2_int max_two min_two max_three min_three max_four min_four
theorem dS {w W0 W : World} (h : Aside0 (w.drawn ≤ W0.drawn)) (step : W0.drawn ≤ W.drawn := by first | exact Nat.le_refl _ | (simp only [World.drew, World.drewN, World.alloc, World.setCell]; done) | (simp only [World.drew, World.drewN, World.alloc, World.setCell]; omega) | omega) : Aside0 (w.drawn ≤ W.drawn) := ⟨Nat.le_trans h.out step⟩
theorem dD {w W0 W w1 : World} (h : Aside0 (w.drawn ≤ W0.drawn)) (hd : w1.drawn = W.drawn) (step : W0.drawn ≤ W.drawn := by first | exact Nat.le_refl _ | (simp only [World.drew, World.drewN, World.alloc, World.setCell]; done) | (simp only [World.drew, World.drewN, World.alloc, World.setCell]; omega) | omega) : Aside0 (w.drawn ≤ w1.drawn) := ⟨by rw [hd]; exact Nat.le_trans h.out step⟩
section
variable {P : Program} {ops : Array Oper} {rest : List Oper} {o : Oper} {a : Act} {Q : Exit → Act → World → Prop} {Kc : Act → World → Prop}
theorem box_eventD {W : World} (hgd : o.guard = none) {N : Tmp} (_hd : o.dst = some N) {cs : Array Value} {t : TypeId}
    (hrun : (execOp a.eval o).run P W = .ok (.value (.pointer (some ⟨W.heap.size, 0, none⟩))) (W.alloc (.cells cs t (0, 0))))
    (h : ∀ g, g = W.heap.size → ∀ w1, w1.heap[g]? = some (.cells cs t (0, 0)) → Below W.heap.size W w1 → w1.drawn = W.drawn → wpList P ops Q rest (a.put o.dst (.pointer (some ⟨g, 0, none⟩))) w1) : wpList P ops Q (o :: rest) a W :=
  Kd.event_run hgd hrun (h _ rfl _ (blk_new W _) (below_alloc (Below.refl _ _) _) rfl)
theorem box_stepD {W : World} (hw : Region.wanted o (yielded ops a.tmps) = true) {N : Tmp} (_hd : o.dst = some N) {cs : Array Value} {t : TypeId}
    (hrun : (execOp a.eval o).run P W = .ok (.value (.pointer (some ⟨W.heap.size, 0, none⟩))) (W.alloc (.cells cs t (0, 0))))
    (h : ∀ g, g = W.heap.size → ∀ w1, w1.heap[g]? = some (.cells cs t (0, 0)) → Below W.heap.size W w1 → w1.drawn = W.drawn → Kc (a.put o.dst (.pointer (some ⟨g, 0, none⟩))) w1) : if Region.wanted o (yielded ops a.tmps) = true then Oper.wp P o a W Kc Q else Kc (a.put o.dst undef) W :=
  event_step hw hrun (h _ rfl _ (blk_new W _) (below_alloc (Below.refl _ _) _) rfl)
theorem R_lit_stepD {α : Type} (d : Kd α) {w0 W : World} (base e : Nat) (hw : Region.wanted o (yielded ops a.tmps) = true) {N : Tmp} (_hd : o.dst = some N) {xs : List α} {inner : List Value} {ok okp : Nat → Prop}
    (hrun : (execOp a.eval o).run P W = .ok (.value (.slice (some ⟨W.heap.size, 0, none⟩) xs.length xs.length)) (W.alloc (.cells inner.toArray e)))
    (hrep : Reps (d.M W base okp) d.sz xs inner) (hok : ∀ k, okp k → ok k) (hfresh : ok W.heap.size) (HB : Below base w0 W) (hbase : base ≤ W.heap.size) (hm : xs.length ≤ 9223372036854775807)
    (h : ∀ v1 w1, d.R e w1 base ok v1 xs → Below base w0 w1 → W.grownBy w1 none → (∃ b, v1.ownBlock = some b ∧ W.heap.size ≤ b) → w1.drawn = W.drawn → Kc (a.put o.dst v1) w1) : if Region.wanted o (yielded ops a.tmps) = true then Oper.wp P o a W Kc Q else Kc (a.put o.dst undef) W := by
  have h1 := Kd.R_lit_step (Q := Q) (Kc := fun a' w' => w'.drawn = W.drawn → Kc a' w') d base e hw _hd hrun hrep hok hfresh HB hbase hm (fun v1 w1 r b g x => h v1 w1 r b g x)
  rw [if_pos hw] at h1 ⊢
  unfold Oper.wp at h1 ⊢
  rw [hrun] at h1 ⊢
  exact h1 rfl
end
theorem impl_RankMotions_1.lays (k : Nat) (a0_0 : Int) (a0_1 : Int) (a0_2 : Int) (a0_3 : Int) (a1_0 : Int) (a1_1 : Int) (a1_2 : Int) (a1_3 : Int) (r : Int) (w : World) (h : impl_RankMotions_1.f k a0_0 a0_1 a0_2 a0_3 a1_0 a1_1 a1_2 a1_3 = some r) :
  Calls Try.prog 57 #[.agg #[.int .i64 a0_0, .int .i64 a0_1, .int .i64 a0_2, .int .i64 a0_3], .agg #[.int .i64 a1_0, .int .i64 a1_1, .int .i64 a1_2, .int .i64 a1_3]] w fun e w' => e = .returned (.int .i64 r) ∧ Below w.heap.size w w' ∧ w.drawn ≤ w'.drawn := by
 have hu82 := Try.underlying82
 have hu28 := Try.underlying28
 have HB := aK (Below.refl w.heap.size w)
 have DR := aK (Nat.le_refl w.drawn)
 have H : ((cmp_Compare_int.f (wrap64 (a0_2 * a1_3)) (wrap64 (a1_2 * a0_3))).bind fun t105 => ((impl_absOf.f a0_0).bind fun t106 => ((impl_absOf.f a0_1).bind fun t107 => ((impl_absOf.f a1_0).bind fun t108 => ((impl_absOf.f a1_1).bind fun t109 => ((cmp_Compare_int.f (wrap64 (t106 + t107)) (wrap64 (t108 + t109))).bind fun t110 => ((cmp_Compare_int.f a0_1 a1_1).bind fun t111 => ((cmp_Compare_int.f a0_0 a1_0).bind fun t112 => ((cmp_Or_int.f k (([t105, t110, t111, t112] : List Int))).bind fun t116 => (some t116)))))))))) = some r := h
 clear h
 replace H := oA H
 obtain ⟨t105, A3, H⟩ := H
 replace H : ((impl_absOf.f a0_0).bind fun t106 => ((impl_absOf.f a0_1).bind fun t107 => ((impl_absOf.f a1_0).bind fun t108 => ((impl_absOf.f a1_1).bind fun t109 => ((cmp_Compare_int.f (wrap64 (t106 + t107)) (wrap64 (t108 + t109))).bind fun t110 => ((cmp_Compare_int.f a0_1 a1_1).bind fun t111 => ((cmp_Compare_int.f a0_0 a1_0).bind fun t112 => ((cmp_Or_int.f k (([t105, t110, t111, t112] : List Int))).bind fun t116 => (some t116))))))))) = some r := H
 replace H := oA H
 obtain ⟨t106, A4, H⟩ := H
 replace H : ((impl_absOf.f a0_1).bind fun t107 => ((impl_absOf.f a1_0).bind fun t108 => ((impl_absOf.f a1_1).bind fun t109 => ((cmp_Compare_int.f (wrap64 (t106 + t107)) (wrap64 (t108 + t109))).bind fun t110 => ((cmp_Compare_int.f a0_1 a1_1).bind fun t111 => ((cmp_Compare_int.f a0_0 a1_0).bind fun t112 => ((cmp_Or_int.f k (([t105, t110, t111, t112] : List Int))).bind fun t116 => (some t116)))))))) = some r := H
 replace H := oA H
 obtain ⟨t107, A5, H⟩ := H
 replace H : ((impl_absOf.f a1_0).bind fun t108 => ((impl_absOf.f a1_1).bind fun t109 => ((cmp_Compare_int.f (wrap64 (t106 + t107)) (wrap64 (t108 + t109))).bind fun t110 => ((cmp_Compare_int.f a0_1 a1_1).bind fun t111 => ((cmp_Compare_int.f a0_0 a1_0).bind fun t112 => ((cmp_Or_int.f k (([t105, t110, t111, t112] : List Int))).bind fun t116 => (some t116))))))) = some r := H
 replace H := oA H
 obtain ⟨t108, A6, H⟩ := H
 replace H : ((impl_absOf.f a1_1).bind fun t109 => ((cmp_Compare_int.f (wrap64 (t106 + t107)) (wrap64 (t108 + t109))).bind fun t110 => ((cmp_Compare_int.f a0_1 a1_1).bind fun t111 => ((cmp_Compare_int.f a0_0 a1_0).bind fun t112 => ((cmp_Or_int.f k (([t105, t110, t111, t112] : List Int))).bind fun t116 => (some t116)))))) = some r := H
 replace H := oA H
 obtain ⟨t109, A7, H⟩ := H
 replace H : ((cmp_Compare_int.f (wrap64 (t106 + t107)) (wrap64 (t108 + t109))).bind fun t110 => ((cmp_Compare_int.f a0_1 a1_1).bind fun t111 => ((cmp_Compare_int.f a0_0 a1_0).bind fun t112 => ((cmp_Or_int.f k (([t105, t110, t111, t112] : List Int))).bind fun t116 => (some t116))))) = some r := H
 replace H := oA H
 obtain ⟨t110, A8, H⟩ := H
 replace H : ((cmp_Compare_int.f a0_1 a1_1).bind fun t111 => ((cmp_Compare_int.f a0_0 a1_0).bind fun t112 => ((cmp_Or_int.f k (([t105, t110, t111, t112] : List Int))).bind fun t116 => (some t116)))) = some r := H
 replace H := oA H
 obtain ⟨t111, A9, H⟩ := H
 replace H : ((cmp_Compare_int.f a0_0 a1_0).bind fun t112 => ((cmp_Or_int.f k (([t105, t110, t111, t112] : List Int))).bind fun t116 => (some t116))) = some r := H
 replace H := oA H
 obtain ⟨t112, A10, H⟩ := H
 replace H : ((cmp_Or_int.f k (([t105, t110, t111, t112] : List Int))).bind fun t116 => (some t116)) = some r := H
 obtain ⟨y113, hy113⟩ : ∃ y_ : List Int, y_ = (([t105, t110, t111, t112] : List Int)) := ⟨_, rfl⟩
 replace H : ((cmp_Or_int.f k y113).bind fun t116 => (some t116)) = some r := by first | (rw [hy113]; first | with_reducible exact H | with_reducible exact (oS H :)) | with_reducible exact (oS H :) | with_reducible exact H | exact H
 have Ny113 := aK hy113
 clear hy113
 replace H := oA H
 obtain ⟨t116, A11, H⟩ := H
 replace H : (some t116) = some r := H
 obtain rfl := Option.some.inj H
 go_enter Try.func57, Try.ntmps57
 try go_wp2_with (first | ((with_reducible refine ga 2 rfl ?_); refine box_eventD ?hg (N := 2) ?hd (cs := #[.int .i64 a0_0, .int .i64 a0_1, .int .i64 a0_2, .int .i64 a0_3]) (t := 82) ?hr ?_; (case hd => rfl); (case hg => rfl); (case hr => first | (go_simp; done) | (go_simp; rfl)); intro g101 hg w12 hbox hb hd; replace DR := dD DR hd; have B101 := aK (hbox); have GW101 := gA hg HB; replace HB := bS HB hb; clear hb hd hbox hg) | ((with_reducible refine ga 3 rfl ?_); refine box_eventD ?hg (N := 3) ?hd (cs := #[.int .i64 a1_0, .int .i64 a1_1, .int .i64 a1_2, .int .i64 a1_3]) (t := 82) ?hr ?_; (case hd => rfl); (case hg => rfl); (case hr => first | (go_simp; done) | (go_simp; rfl)); intro g102 hg w13 hbox hb hd; replace DR := dD DR hd; have B102 := aK (hbox); have GW102 := gA hg HB; obtain ⟨N101_102, N102_101⟩ := na hg B101; replace B101 := bB B101 hb; replace HB := bS HB hb; clear hb hd hbox hg))
 replace B101 := bD B101
 replace B102 := bD B102
 replace HB := aK (below_drew1 HB.out)
 refine start_ (n := 8) (S := fun w' => w'.cell? ⟨g101, 0, none⟩ = some (.int .i64 a0_0) ∧ w'.cell? ⟨g101, 1, none⟩ = some (.int .i64 a0_1) ∧ w'.cell? ⟨g101, 2, none⟩ = some (.int .i64 a0_2) ∧ w'.cell? ⟨g101, 3, none⟩ = some (.int .i64 a0_3) ∧ w'.cell? ⟨g102, 0, none⟩ = some (.int .i64 a1_0) ∧ w'.cell? ⟨g102, 1, none⟩ = some (.int .i64 a1_1) ∧ w'.cell? ⟨g102, 2, none⟩ = some (.int .i64 a1_2) ∧ w'.cell? ⟨g102, 3, none⟩ = some (.int .i64 a1_3)) (ds := []) (bz [0, 8]) (by kernel_rfl) rfl rfl (cj4 B101.out (cz4 B102.out)) (fun hHeld => ?_); refine with_tabW impl_RankMotions_1.tab1 impl_RankMotions_1.bits1 (fun HT_ HW_ => ?_)
 replace DR := dS (W := w13.drew) DR
 generalize w13.drew = w14 at B101 B102 HB hHeld DR ⊢
 refine pz 0 7 [1, 7] HT_ ?_
 refine pz 2 9 [1, 1, 1, 5] HT_ ?_
 refine tz 1 8 [3, 5] HT_ HW_ rfl (by rintro w' ⟨s0, s1, s2, s3, s4, s5, s6, s7⟩; go_simp; with_reducible rfl) hHeld ?_
 refine tz 3 10 [4, 4] HT_ HW_ rfl (by rintro w' ⟨s0, s1, s2, s3, s4, s5, s6, s7⟩; go_simp; with_reducible rfl) hHeld ?_
 refine join_ (σ := Nat × Nat) 2 (bz [6, 2]) (fun s_ => [(5, .pointer (some ⟨s_.1, 0, none⟩)), (6, .pointer (some ⟨s_.2, 0, none⟩))]) (fun s_ w' => (w'.cell? ⟨g101, 0, none⟩ = some (.int .i64 a0_0) ∧ w'.cell? ⟨g101, 1, none⟩ = some (.int .i64 a0_1) ∧ w'.cell? ⟨g101, 2, none⟩ = some (.int .i64 a0_2) ∧ w'.cell? ⟨g101, 3, none⟩ = some (.int .i64 a0_3) ∧ w'.cell? ⟨g102, 0, none⟩ = some (.int .i64 a1_0) ∧ w'.cell? ⟨g102, 1, none⟩ = some (.int .i64 a1_1) ∧ w'.cell? ⟨g102, 2, none⟩ = some (.int .i64 a1_2) ∧ w'.cell? ⟨g102, 3, none⟩ = some (.int .i64 a1_3)) ∧ (w'.heap[g101]? = some (.cells #[.int .i64 a0_0, .int .i64 a0_1, .int .i64 a0_2, .int .i64 a0_3] 82 (0, 0))) ∧ (w'.heap[g102]? = some (.cells #[.int .i64 a1_0, .int .i64 a1_1, .int .i64 a1_2, .int .i64 a1_3] 82 (0, 0))) ∧ (w'.heap[s_.1]? = some (.cells #[.int .i64 0, .int .i64 0] 28 (0, 0))) ∧ (w'.heap[s_.2]? = some (.cells #[.int .i64 0, .int .i64 0] 28 (0, 0))) ∧ (w.heap.size ≤ s_.1) ∧ (w.heap.size ≤ s_.1) ∧ (g101 ≠ s_.1) ∧ (s_.1 ≠ g101) ∧ (g102 ≠ s_.1) ∧ (s_.1 ≠ g102) ∧ (s_.2 ≠ s_.1) ∧ (s_.1 ≠ s_.2) ∧ (w.heap.size ≤ s_.2) ∧ (w.heap.size ≤ s_.2) ∧ (g101 ≠ s_.2) ∧ (s_.2 ≠ g101) ∧ (g102 ≠ s_.2) ∧ (s_.2 ≠ g102) ∧ (Below w.heap.size w w') ∧ (w.drawn ≤ w'.drawn)) ?_ ?_
 rotate_left
 ·
  intro hCont
  refine two_ (i := 4) (j := 5) (Ni := some 5) (Nj := some 6) (bz [5, 3]) (bz [4, 1, 1, 2]) rfl rfl rfl rfl (two_of HT_.out (by kernel_rfl)) (by decide) (by decide) (fun K hK => ?_) (fun K hK => ?_)
  ·
   skip
   refine box_stepD ?hg (N := 5) ?hd (cs := #[.int .i64 0, .int .i64 0]) (t := 28) ?hr ?_; (case hd => rfl); (case hg => rfl); (case hr => first | (go_simp; done) | (go_simp; rfl))
   intro g103 hg w15 hbox hb hd
   replace DR := dD DR hd; have B103 := aK (hbox); have GW103 := gA hg HB; have GE103 := GW103; obtain ⟨N101_103, N103_101⟩ := na hg B101; obtain ⟨N102_103, N103_102⟩ := na hg B102; replace B101 := bB B101 hb; replace B102 := bB B102 hb; replace HB := bS HB hb; clear hb hd hbox hg
   refine hK.out _ _ (cj4 B101.out (cz4 B102.out)) (fun hHeld => ?_)
   clear hK K
   refine nm 5 ?_
   refine oz 5 6 [6, 2] HT_ fun K hK => ?_
   refine box_stepD ?hg (N := 6) ?hd (cs := #[.int .i64 0, .int .i64 0]) (t := 28) ?hr ?_; (case hd => rfl); (case hg => rfl); (case hr => first | (go_simp; done) | (go_simp; rfl))
   intro g104 hg w16 hbox hb hd
   replace DR := dD DR hd; have B104 := aK (hbox); have GW104 := gA hg HB; have GE104 := GW104; obtain ⟨N101_104, N104_101⟩ := na hg B101; obtain ⟨N102_104, N104_102⟩ := na hg B102; obtain ⟨N103_104, N104_103⟩ := na hg B103; replace B101 := bB B101 hb; replace B102 := bB B102 hb; replace B103 := bB B103 hb; replace HB := bS HB hb; clear hb hd hbox hg
   refine hK.out _ _ (cj4 B101.out (cz4 B102.out)) (fun hHeld => ?_)
   clear hK K
   refine nm 6 ?_
   exact norm_ (by simp only [putAll, Act.put, List.setIfInBounds_toArray, List.set_cons_zero, List.set_cons_succ]) (hCont (g103, g104) _ ⟨hHeld, (pB B101.out), (pB B102.out), (pB B103.out), (pB B104.out), GW103.out, GE103.out, N101_103.out, N103_101.out, N102_103.out, N103_102.out, N104_103.out, N103_104.out, GW104.out, GE104.out, N101_104.out, N104_101.out, N102_104.out, N104_102.out, (pS HB.out), (dS DR).out⟩)
  skip
  refine box_stepD ?hg (N := 6) ?hd (cs := #[.int .i64 0, .int .i64 0]) (t := 28) ?hr ?_; (case hd => rfl); (case hg => rfl); (case hr => first | (go_simp; done) | (go_simp; rfl))
  intro g104 hg w15 hbox hb hd
  replace DR := dD DR hd; have B104 := aK (hbox); have GW104 := gA hg HB; have GE104 := GW104; obtain ⟨N101_104, N104_101⟩ := na hg B101; obtain ⟨N102_104, N104_102⟩ := na hg B102; replace B101 := bB B101 hb; replace B102 := bB B102 hb; replace HB := bS HB hb; clear hb hd hbox hg
  refine hK.out _ _ (cj4 B101.out (cz4 B102.out)) (fun hHeld => ?_)
  clear hK K
  refine nm 6 ?_
  refine oz 4 5 [6, 2] HT_ fun K hK => ?_
  refine box_stepD ?hg (N := 5) ?hd (cs := #[.int .i64 0, .int .i64 0]) (t := 28) ?hr ?_; (case hd => rfl); (case hg => rfl); (case hr => first | (go_simp; done) | (go_simp; rfl))
  intro g103 hg w16 hbox hb hd
  replace DR := dD DR hd; have B103 := aK (hbox); have GW103 := gA hg HB; have GE103 := GW103; obtain ⟨N101_103, N103_101⟩ := na hg B101; obtain ⟨N102_103, N103_102⟩ := na hg B102; obtain ⟨N104_103, N103_104⟩ := na hg B104; replace B101 := bB B101 hb; replace B102 := bB B102 hb; replace B104 := bB B104 hb; replace HB := bS HB hb; clear hb hd hbox hg
  refine hK.out _ _ (cj4 B101.out (cz4 B102.out)) (fun hHeld => ?_)
  clear hK K
  refine nm 5 ?_
  exact norm_ (by simp only [putAll, Act.put, List.setIfInBounds_toArray, List.set_cons_zero, List.set_cons_succ]) (hCont (g103, g104) _ ⟨hHeld, (pB B101.out), (pB B102.out), (pB B103.out), (pB B104.out), GW103.out, GE103.out, N101_103.out, N103_101.out, N102_103.out, N103_102.out, N104_103.out, N103_104.out, GW104.out, GE104.out, N101_104.out, N104_101.out, N102_104.out, N104_102.out, (pS HB.out), (dS DR).out⟩)
 rintro ⟨g103, g104⟩ w17 ⟨hS_, h0_, h1_, h2_, h3_, h4_, h5_, h6_, h7_, h8_, h9_, h10_, h11_, h12_, h13_, h14_, h15_, h16_, h17_, h18_, h19_⟩
 replace DR := aK h19_
 clear h19_
 replace B101 : Aside0 (w17.heap[g101]? = some (.cells #[.int .i64 a0_0, .int .i64 a0_1, .int .i64 a0_2, .int .i64 a0_3] 82 (0, 0))) := ⟨h0_⟩
 replace B102 : Aside0 (w17.heap[g102]? = some (.cells #[.int .i64 a1_0, .int .i64 a1_1, .int .i64 a1_2, .int .i64 a1_3] 82 (0, 0))) := ⟨h1_⟩
 have n2_ : Aside0 (w17.heap[g103]? = some (.cells #[.int .i64 0, .int .i64 0] 28 (0, 0))) := ⟨h2_⟩
 have n3_ : Aside0 (w17.heap[g104]? = some (.cells #[.int .i64 0, .int .i64 0] 28 (0, 0))) := ⟨h3_⟩
 have n4_ : Aside0 (w.heap.size ≤ g103) := ⟨h4_⟩
 have n5_ : Aside0 (w.heap.size ≤ g103) := ⟨h5_⟩
 have n6_ : Aside0 (g101 ≠ g103) := ⟨h6_⟩
 have n7_ : Aside0 (g103 ≠ g101) := ⟨h7_⟩
 have n8_ : Aside0 (g102 ≠ g103) := ⟨h8_⟩
 have n9_ : Aside0 (g103 ≠ g102) := ⟨h9_⟩
 have n10_ : Aside0 (g104 ≠ g103) := ⟨h10_⟩
 have n11_ : Aside0 (g103 ≠ g104) := ⟨h11_⟩
 have n12_ : Aside0 (w.heap.size ≤ g104) := ⟨h12_⟩
 have n13_ : Aside0 (w.heap.size ≤ g104) := ⟨h13_⟩
 have n14_ : Aside0 (g101 ≠ g104) := ⟨h14_⟩
 have n15_ : Aside0 (g104 ≠ g101) := ⟨h15_⟩
 have n16_ : Aside0 (g102 ≠ g104) := ⟨h16_⟩
 have n17_ : Aside0 (g104 ≠ g102) := ⟨h17_⟩
 replace HB : Aside0 (Below w.heap.size w w17) := ⟨h18_⟩
 clear h0_ h1_ h2_ h3_ h4_ h5_ h6_ h7_ h8_ h9_ h10_ h11_ h12_ h13_ h14_ h15_ h16_ h17_ h18_
 have B103 := n2_
 have B104 := n3_
 have GW103 := n4_
 have GE103 := n5_
 have N101_103 := n6_
 have N103_101 := n7_
 have N102_103 := n8_
 have N103_102 := n9_
 have N104_103 := n10_
 have N103_104 := n11_
 have GW104 := n12_
 have GE104 := n13_
 have N101_104 := n14_
 have N104_101 := n15_
 have N102_104 := n16_
 have N104_102 := n17_
 clear n2_ n3_ n4_ n5_ n6_ n7_ n8_ n9_ n10_ n11_ n12_ n13_ n14_ n15_ n16_ n17_
 have hHeld : w17.cell? ⟨g101, 0, none⟩ = some (.int .i64 a0_0) ∧ w17.cell? ⟨g101, 1, none⟩ = some (.int .i64 a0_1) ∧ w17.cell? ⟨g101, 2, none⟩ = some (.int .i64 a0_2) ∧ w17.cell? ⟨g101, 3, none⟩ = some (.int .i64 a0_3) ∧ w17.cell? ⟨g102, 0, none⟩ = some (.int .i64 a1_0) ∧ w17.cell? ⟨g102, 1, none⟩ = some (.int .i64 a1_1) ∧ w17.cell? ⟨g102, 2, none⟩ = some (.int .i64 a1_2) ∧ w17.cell? ⟨g102, 3, none⟩ = some (.int .i64 a1_3) := hS_
 refine norm_ (a' := ?_) ?_ ?_
 rotate_left
 ·
  simp only [putAll, Act.put, List.setIfInBounds_toArray, List.set_cons_zero, List.set_cons_succ]
  rfl
 refine one_ (i := 6) (N := none) (bz [7, 1]) rfl rfl (one_of HT_.out (by kernel_rfl)) (by decide) (fun K hK => ?_)
 have hs18 : w17.cell? ⟨g103, 0, none⟩ = some (.int .i64 0) := (blk_cell B103.out 0).trans rfl
 have hfs18 := blk_frozen B103.out 0
 have hns18_0 := N101_103.out
 have hns18_1 := N102_103.out
 have hns18_3 := N104_103.out
 have hms18_0 := N103_101.out
 have hms18_1 := N103_102.out
 have hms18_3 := N103_104.out
 have hs19 : w17.cell? ⟨g103, 1, none⟩ = some (.int .i64 0) := (blk_cell B103.out 1).trans rfl
 have hfs19 := blk_frozen B103.out 1
 have hns19_0 := N101_103.out
 have hns19_1 := N102_103.out
 have hns19_3 := N104_103.out
 have hms19_0 := N103_101.out
 have hms19_1 := N103_102.out
 have hms19_3 := N103_104.out
 refine skip_ (w1 := ?_) (by rfl) rfl ?_ ?_
 rotate_left
 ·
  go_simp
  rfl
 refine hK.out _ _ ⟨(cf2 N101_103 hHeld.1), (cf2 N101_103 hHeld.2.1), (cf2 N101_103 hHeld.2.2.1), (cf2 N101_103 hHeld.2.2.2.1), (cf2 N102_103 hHeld.2.2.2.2.1), (cf2 N102_103 hHeld.2.2.2.2.2.1), (cf2 N102_103 hHeld.2.2.2.2.2.2.1), (cf2 N102_103 hHeld.2.2.2.2.2.2.2)⟩ (fun hHeld => ?_)
 clear hK K
 refine one_ (i := 7) (N := none) (bz [8, 0]) rfl rfl (one_of HT_.out (by kernel_rfl)) (by decide) (fun K hK => ?_)
 have hs20 : w17.cell? ⟨g104, 0, none⟩ = some (.int .i64 0) := (blk_cell B104.out 0).trans rfl
 have hfs20 := blk_frozen B104.out 0
 have hns20_0 := N101_104.out
 have hns20_1 := N102_104.out
 have hns20_2 := N103_104.out
 have hms20_0 := N104_101.out
 have hms20_1 := N104_102.out
 have hms20_2 := N104_103.out
 have hs21 : w17.cell? ⟨g104, 1, none⟩ = some (.int .i64 0) := (blk_cell B104.out 1).trans rfl
 have hfs21 := blk_frozen B104.out 1
 have hns21_0 := N101_104.out
 have hns21_1 := N102_104.out
 have hns21_2 := N103_104.out
 have hms21_0 := N104_101.out
 have hms21_1 := N104_102.out
 have hms21_2 := N104_103.out
 refine skip_ (w1 := ?_) (by rfl) rfl ?_ ?_
 rotate_left
 ·
  go_simp
  rfl
 refine hK.out _ _ ⟨(cf2 N101_104 hHeld.1), (cf2 N101_104 hHeld.2.1), (cf2 N101_104 hHeld.2.2.1), (cf2 N101_104 hHeld.2.2.2.1), (cf2 N102_104 hHeld.2.2.2.2.1), (cf2 N102_104 hHeld.2.2.2.2.2.1), (cf2 N102_104 hHeld.2.2.2.2.2.2.1), (cf2 N102_104 hHeld.2.2.2.2.2.2.2)⟩ (fun hHeld => ?_)
 clear hK K
 refine done_ (done_of HT_.out (by kernel_rfl)) ?_
 try go_wp2
 have n0_ : Aside0 (((((w17.setCell ⟨g103, 0, none⟩ (.int .i64 a0_0)).setCell ⟨g103, 1, none⟩ (.int .i64 a0_1)).setCell ⟨g104, 0, none⟩ (.int .i64 a1_0)).setCell ⟨g104, 1, none⟩ (.int .i64 a1_1)).heap[g101]? = some (.cells #[.int .i64 a0_0, .int .i64 a0_1, .int .i64 a0_2, .int .i64 a0_3] 82 (0, 0))) := ⟨by refine bg N101_104 ?_; refine bg N101_104 ?_; refine bg N101_103 ?_; refine bg N101_103 ?_; refine bk ?_; exact B101.out⟩
 have n1_ : Aside0 (((((w17.setCell ⟨g103, 0, none⟩ (.int .i64 a0_0)).setCell ⟨g103, 1, none⟩ (.int .i64 a0_1)).setCell ⟨g104, 0, none⟩ (.int .i64 a1_0)).setCell ⟨g104, 1, none⟩ (.int .i64 a1_1)).heap[g102]? = some (.cells #[.int .i64 a1_0, .int .i64 a1_1, .int .i64 a1_2, .int .i64 a1_3] 82 (0, 0))) := ⟨by refine bg N102_104 ?_; refine bg N102_104 ?_; refine bg N102_103 ?_; refine bg N102_103 ?_; refine bk ?_; exact B102.out⟩
 have n2_ : Aside0 (((((w17.setCell ⟨g103, 0, none⟩ (.int .i64 a0_0)).setCell ⟨g103, 1, none⟩ (.int .i64 a0_1)).setCell ⟨g104, 0, none⟩ (.int .i64 a1_0)).setCell ⟨g104, 1, none⟩ (.int .i64 a1_1)).heap[g103]? = some (.cells #[.int .i64 a0_0, .int .i64 a0_1] 28 (0, 0))) := ⟨by refine bg N103_104 ?_; refine bg N103_104 ?_; refine bq #[.int .i64 a0_0, .int .i64 0] 1 ?_; refine bq #[.int .i64 0, .int .i64 0] 0 ?_; refine bk ?_; exact B103.out⟩
 have n3_ : Aside0 (((((w17.setCell ⟨g103, 0, none⟩ (.int .i64 a0_0)).setCell ⟨g103, 1, none⟩ (.int .i64 a0_1)).setCell ⟨g104, 0, none⟩ (.int .i64 a1_0)).setCell ⟨g104, 1, none⟩ (.int .i64 a1_1)).heap[g104]? = some (.cells #[.int .i64 a1_0, .int .i64 a1_1] 28 (0, 0))) := ⟨by refine bq #[.int .i64 a1_0, .int .i64 0] 1 ?_; refine bq #[.int .i64 0, .int .i64 0] 0 ?_; refine bg N104_103 ?_; refine bg N104_103 ?_; refine bk ?_; exact B104.out⟩
 have n4_ : Aside0 (Below w.heap.size w ((((w17.setCell ⟨g103, 0, none⟩ (.int .i64 a0_0)).setCell ⟨g103, 1, none⟩ (.int .i64 a0_1)).setCell ⟨g104, 0, none⟩ (.int .i64 a1_0)).setCell ⟨g104, 1, none⟩ (.int .i64 a1_1))) := ⟨pT HB.out⟩
 clear B101 B102 B103 B104 HB
 replace DR := dS (W := ((((w17.setCell ⟨g103, 0, none⟩ (.int .i64 a0_0)).setCell ⟨g103, 1, none⟩ (.int .i64 a0_1)).setCell ⟨g104, 0, none⟩ (.int .i64 a1_0)).setCell ⟨g104, 1, none⟩ (.int .i64 a1_1))) DR
 generalize ((((w17.setCell ⟨g103, 0, none⟩ (.int .i64 a0_0)).setCell ⟨g103, 1, none⟩ (.int .i64 a0_1)).setCell ⟨g104, 0, none⟩ (.int .i64 a1_0)).setCell ⟨g104, 1, none⟩ (.int .i64 a1_1)) = w22 at n0_ n1_ n2_ n3_ n4_ DR ⊢
 have B101 := n0_
 have B102 := n1_
 have B103 := n2_
 have B104 := n3_
 have HB := n4_
 clear n0_ n1_ n2_ n3_ n4_
 replace B101 := bD B101
 replace B102 := bD B102
 replace B103 := bD B103
 replace B104 := bD B104
 replace HB := aK (below_drew1 HB.out)
 refine start_ (n := 39) (S := fun w' => w'.cell? ⟨g101, 0, none⟩ = some (.int .i64 a0_0) ∧ w'.cell? ⟨g101, 1, none⟩ = some (.int .i64 a0_1) ∧ w'.cell? ⟨g101, 2, none⟩ = some (.int .i64 a0_2) ∧ w'.cell? ⟨g101, 3, none⟩ = some (.int .i64 a0_3) ∧ w'.cell? ⟨g102, 0, none⟩ = some (.int .i64 a1_0) ∧ w'.cell? ⟨g102, 1, none⟩ = some (.int .i64 a1_1) ∧ w'.cell? ⟨g102, 2, none⟩ = some (.int .i64 a1_2) ∧ w'.cell? ⟨g102, 3, none⟩ = some (.int .i64 a1_3) ∧ w'.cell? ⟨g103, 0, none⟩ = some (.int .i64 a0_0) ∧ w'.cell? ⟨g103, 1, none⟩ = some (.int .i64 a0_1) ∧ w'.cell? ⟨g104, 0, none⟩ = some (.int .i64 a1_0) ∧ w'.cell? ⟨g104, 1, none⟩ = some (.int .i64 a1_1)) (ds := []) (bz [0, 39]) (by kernel_rfl) rfl rfl (cj4 B101.out (cj4 B102.out (cj2 B103.out (cz2 B104.out)))) (fun hHeld => ?_); refine with_tabW impl_RankMotions_1.tab2 impl_RankMotions_1.bits2 (fun HT_ HW_ => ?_)
 replace DR := dS (W := w22.drew) DR
 generalize w22.drew = w23 at B101 B102 B103 B104 HB hHeld DR ⊢
 refine pz 0 11 [1, 38] HT_ ?_
 refine pz 2 13 [1, 1, 1, 36] HT_ ?_
 refine pz 5 16 [1, 1, 1, 2, 1, 33] HT_ ?_
 refine pz 7 18 [1, 1, 1, 2, 1, 1, 1, 31] HT_ ?_
 refine pz 11 22 [1, 1, 1, 2, 1, 1, 1, 3, 1, 27] HT_ ?_
 refine pz 14 25 [1, 1, 1, 2, 1, 1, 1, 3, 1, 2, 1, 24] HT_ ?_
 refine pz 18 29 [1, 1, 1, 2, 1, 1, 1, 3, 1, 2, 1, 3, 1, 20] HT_ ?_
 refine pz 21 32 [1, 1, 1, 2, 1, 1, 1, 3, 1, 2, 1, 3, 1, 2, 1, 17] HT_ ?_
 refine pz 26 37 [1, 1, 1, 2, 1, 1, 1, 3, 1, 2, 1, 3, 1, 2, 1, 4, 1, 12] HT_ ?_
 refine pz 28 39 [1, 1, 1, 2, 1, 1, 1, 3, 1, 2, 1, 3, 1, 2, 1, 4, 1, 1, 1, 10] HT_ ?_
 refine pz 31 42 [1, 1, 1, 2, 1, 1, 1, 3, 1, 2, 1, 3, 1, 2, 1, 4, 1, 1, 1, 2, 1, 7] HT_ ?_
 refine pz 33 44 [1, 1, 1, 2, 1, 1, 1, 3, 1, 2, 1, 3, 1, 2, 1, 4, 1, 1, 1, 2, 1, 1, 1, 5] HT_ ?_
 refine tz 1 12 [3, 2, 1, 1, 1, 3, 1, 2, 1, 3, 1, 2, 1, 4, 1, 1, 1, 2, 1, 1, 1, 5] HT_ HW_ rfl (by rintro w' ⟨s0, s1, s2, s3, s4, s5, s6, s7, s8, s9, s10, s11⟩; go_simp; with_reducible rfl) hHeld ?_
 refine tz 3 14 [4, 1, 1, 1, 1, 3, 1, 2, 1, 3, 1, 2, 1, 4, 1, 1, 1, 2, 1, 1, 1, 5] HT_ HW_ rfl (by rintro w' ⟨s0, s1, s2, s3, s4, s5, s6, s7, s8, s9, s10, s11⟩; go_simp; with_reducible rfl) hHeld ?_
 refine pz 4 15 [6, 1, 1, 3, 1, 2, 1, 3, 1, 2, 1, 4, 1, 1, 1, 2, 1, 1, 1, 5] HT_ ?_
 refine tz 6 17 [8, 3, 1, 2, 1, 3, 1, 2, 1, 4, 1, 1, 1, 2, 1, 1, 1, 5] HT_ HW_ rfl (by rintro w' ⟨s0, s1, s2, s3, s4, s5, s6, s7, s8, s9, s10, s11⟩; go_simp; with_reducible rfl) hHeld ?_
 refine tz 8 19 [9, 2, 1, 2, 1, 3, 1, 2, 1, 4, 1, 1, 1, 2, 1, 1, 1, 5] HT_ HW_ rfl (by rintro w' ⟨s0, s1, s2, s3, s4, s5, s6, s7, s8, s9, s10, s11⟩; go_simp; with_reducible rfl) hHeld ?_
 refine pz 9 20 [10, 1, 1, 2, 1, 3, 1, 2, 1, 4, 1, 1, 1, 2, 1, 1, 1, 5] HT_ ?_
 refine tz 12 23 [10, 1, 2, 1, 1, 3, 1, 2, 1, 4, 1, 1, 1, 2, 1, 1, 1, 5] HT_ HW_ rfl (by rintro w' ⟨s0, s1, s2, s3, s4, s5, s6, s7, s8, s9, s10, s11⟩; go_simp; with_reducible rfl) hHeld ?_
 refine tz 15 26 [10, 1, 2, 1, 2, 2, 1, 2, 1, 4, 1, 1, 1, 2, 1, 1, 1, 5] HT_ HW_ rfl (by rintro w' ⟨s0, s1, s2, s3, s4, s5, s6, s7, s8, s9, s10, s11⟩; go_simp; with_reducible rfl) hHeld ?_
 refine tz 19 30 [10, 1, 2, 1, 2, 2, 2, 1, 1, 4, 1, 1, 1, 2, 1, 1, 1, 5] HT_ HW_ rfl (by rintro w' ⟨s0, s1, s2, s3, s4, s5, s6, s7, s8, s9, s10, s11⟩; go_simp; with_reducible rfl) hHeld ?_
 refine tz 22 33 [10, 1, 2, 1, 2, 2, 2, 1, 2, 3, 1, 1, 1, 2, 1, 1, 1, 5] HT_ HW_ rfl (by rintro w' ⟨s0, s1, s2, s3, s4, s5, s6, s7, s8, s9, s10, s11⟩; go_simp; with_reducible rfl) hHeld ?_
 refine tz 27 38 [10, 1, 2, 1, 2, 2, 2, 1, 2, 3, 3, 2, 1, 1, 1, 5] HT_ HW_ rfl (by rintro w' ⟨s0, s1, s2, s3, s4, s5, s6, s7, s8, s9, s10, s11⟩; go_simp; with_reducible rfl) hHeld ?_
 refine tz 29 40 [10, 1, 2, 1, 2, 2, 2, 1, 2, 3, 4, 1, 1, 1, 1, 5] HT_ HW_ rfl (by rintro w' ⟨s0, s1, s2, s3, s4, s5, s6, s7, s8, s9, s10, s11⟩; go_simp; with_reducible rfl) hHeld ?_
 refine tz 32 43 [10, 1, 2, 1, 2, 2, 2, 1, 2, 3, 4, 1, 3, 5] HT_ HW_ rfl (by rintro w' ⟨s0, s1, s2, s3, s4, s5, s6, s7, s8, s9, s10, s11⟩; go_simp; with_reducible rfl) hHeld ?_
 refine tz 34 45 [10, 1, 2, 1, 2, 2, 2, 1, 2, 3, 4, 1, 4, 4] HT_ HW_ rfl (by rintro w' ⟨s0, s1, s2, s3, s4, s5, s6, s7, s8, s9, s10, s11⟩; go_simp; with_reducible rfl) hHeld ?_
 refine oz 10 21 [13, 1, 2, 2, 2, 1, 2, 3, 4, 1, 4, 4] HT_ fun K hK => ?_
 refine gs Try.func59 #[.int .i64 (wrap64 (a0_2 * a1_3)), .int .i64 (wrap64 (a1_2 * a0_3))] ?_
 with_reducible refine (cmp_Compare_int.calls (wrap64 (a0_2 * a1_3)) (wrap64 (a1_2 * a0_3)) t105 _ A3.out).mono ?_
 rintro e w' ⟨rfl, ⟨nd, rfl⟩⟩
 refine ⟨_, rfl, ?_⟩
 refine hK.out _ _ (cj4 B101.out (cj4 B102.out (cj2 B103.out (cz2 B104.out)))) (fun hHeld => ?_)
 clear hK K
 refine nm 21 ?_
 refine oz 13 24 [16, 2, 2, 1, 2, 3, 4, 1, 4, 4] HT_ fun K hK => ?_
 refine gs Try.func60 #[.int .i64 a0_0] ?_
 with_reducible refine (impl_absOf.calls a0_0 t106 _ A4.out).mono ?_
 rintro e w' ⟨rfl, ⟨nd, rfl⟩⟩
 refine ⟨_, rfl, ?_⟩
 refine hK.out _ _ (cj4 B101.out (cj4 B102.out (cj2 B103.out (cz2 B104.out)))) (fun hHeld => ?_)
 clear hK K
 refine nm 24 ?_
 refine oz 16 27 [17, 1, 2, 1, 2, 3, 4, 1, 4, 4] HT_ fun K hK => ?_
 refine gs Try.func60 #[.int .i64 a0_1] ?_
 with_reducible refine (impl_absOf.calls a0_1 t107 _ A5.out).mono ?_
 rintro e w' ⟨rfl, ⟨nd, rfl⟩⟩
 refine ⟨_, rfl, ?_⟩
 refine hK.out _ _ (cj4 B101.out (cj4 B102.out (cj2 B103.out (cz2 B104.out)))) (fun hHeld => ?_)
 clear hK K
 refine nm 27 ?_
 refine pz 17 28 [20, 1, 2, 3, 4, 1, 4, 4] HT_ ?_
 refine oz 20 31 [23, 3, 4, 1, 4, 4] HT_ fun K hK => ?_
 refine gs Try.func60 #[.int .i64 a1_0] ?_
 with_reducible refine (impl_absOf.calls a1_0 t108 _ A6.out).mono ?_
 rintro e w' ⟨rfl, ⟨nd, rfl⟩⟩
 refine ⟨_, rfl, ?_⟩
 refine hK.out _ _ (cj4 B101.out (cj4 B102.out (cj2 B103.out (cz2 B104.out)))) (fun hHeld => ?_)
 clear hK K
 refine nm 31 ?_
 refine oz 23 34 [24, 2, 4, 1, 4, 4] HT_ fun K hK => ?_
 refine gs Try.func60 #[.int .i64 a1_1] ?_
 with_reducible refine (impl_absOf.calls a1_1 t109 _ A7.out).mono ?_
 rintro e w' ⟨rfl, ⟨nd, rfl⟩⟩
 refine ⟨_, rfl, ?_⟩
 refine hK.out _ _ (cj4 B101.out (cj4 B102.out (cj2 B103.out (cz2 B104.out)))) (fun hHeld => ?_)
 clear hK K
 refine nm 34 ?_
 refine pz 24 35 [25, 1, 4, 1, 4, 4] HT_ ?_
 refine oz 25 36 [30, 1, 4, 4] HT_ fun K hK => ?_
 refine gs Try.func59 #[.int .i64 (wrap64 (t106 + t107)), .int .i64 (wrap64 (t108 + t109))] ?_
 with_reducible refine (cmp_Compare_int.calls (wrap64 (t106 + t107)) (wrap64 (t108 + t109)) t110 _ A8.out).mono ?_
 rintro e w' ⟨rfl, ⟨nd, rfl⟩⟩
 refine ⟨_, rfl, ?_⟩
 refine hK.out _ _ (cj4 B101.out (cj4 B102.out (cj2 B103.out (cz2 B104.out)))) (fun hHeld => ?_)
 clear hK K
 refine nm 36 ?_
 refine oz 30 41 [35, 4] HT_ fun K hK => ?_
 refine gs Try.func59 #[.int .i64 a0_1, .int .i64 a1_1] ?_
 with_reducible refine (cmp_Compare_int.calls a0_1 a1_1 t111 _ A9.out).mono ?_
 rintro e w' ⟨rfl, ⟨nd, rfl⟩⟩
 refine ⟨_, rfl, ?_⟩
 refine hK.out _ _ (cj4 B101.out (cj4 B102.out (cj2 B103.out (cz2 B104.out)))) (fun hHeld => ?_)
 clear hK K
 refine nm 41 ?_
 refine oz 35 46 [36, 3] HT_ fun K hK => ?_
 refine gs Try.func59 #[.int .i64 a0_0, .int .i64 a1_0] ?_
 with_reducible refine (cmp_Compare_int.calls a0_0 a1_0 t112 _ A10.out).mono ?_
 rintro e w' ⟨rfl, ⟨nd, rfl⟩⟩
 refine ⟨_, rfl, ?_⟩
 refine hK.out _ _ (cj4 B101.out (cj4 B102.out (cj2 B103.out (cz2 B104.out)))) (fun hHeld => ?_)
 clear hK K
 refine nm 46 ?_
 refine oz 36 47 [37, 2] HT_ fun K hK => ?_
 refine R_lit_stepD (Kd.int .i64) _ 3 ?hg (N := 47) ?hd (xs := ([t105, t110, t111, t112] : List Int)) (inner := [.int .i64 t105, .int .i64 t110, .int .i64 t111, .int .i64 t112]) (ok := fun _ => True) (okp := fun _ => True) ?hr ?hp (fun _ hk => hk) trivial (Below.refl _ _) (Nat.le_refl _) (by simp) ?_; (case hd => rfl); (case hg => rfl); (case hr => first | (go_simp; done) | (go_simp; rfl)); (case hp => exact (Reps.one (show Kd.M (Kd.int .i64) _ _ _ t105 [.int .i64 t105] from rfl) (Reps.one (show Kd.M (Kd.int .i64) _ _ _ t110 [.int .i64 t110] from rfl) (Reps.one (show Kd.M (Kd.int .i64) _ _ _ t111 [.int .i64 t111] from rfl) (Reps.one (show Kd.M (Kd.int .i64) _ _ _ t112 [.int .i64 t112] from rfl) (Reps.none _ _))))))
 intro v114 w24 ho25 hb hg_ hnew_ hd
 replace DR := dD DR hd
 clear hd
 clear hg_ hnew_
 (first | rw [← Ny113.out] at ho25 | (simp only [Int.reduceToNat] at ho25; rw [← Ny113.out] at ho25))
 have HO115 := aK (Kd.R_lower ho25 (below_size (pS HB.out)))
 replace B101 := bB B101 hb
 replace B102 := bB B102 hb
 replace B103 := bB B103 hb
 replace B104 := bB B104 hb
 replace HB := bS HB hb
 clear hb ho25
 obtain ⟨Ao26, co26, eo26⟩ := Kd.R_slice HO115.out
 (first | subst eo26 | (obtain ⟨f4_, f5_⟩ := sI eo26; subst f4_; subst f5_))
 refine hK.out _ _ (cj4 B101.out (cj4 B102.out (cj2 B103.out (cz2 B104.out)))) (fun hHeld => ?_)
 clear hK K
 refine nm 47 ?_
 refine oz 37 48 [38, 1] HT_ fun K hK => ?_
 refine gs Try.func58 #[.slice Ao26 y113.length co26] ?_
 with_reducible refine (cmp_Or_int.calls k _ _ y113 t116 _ ?side1 ?side2 A11.out).mono ?_
 (case side1 => exact pC (Kd.R_reads' HO115.out).2.2)
 (case side2 => exact (Kd.R_reads' HO115.out).2.1)
 rintro e w' ⟨rfl, ⟨nd, rfl⟩⟩
 refine ⟨_, rfl, ?_⟩
 refine hK.out _ _ (cj4 B101.out (cj4 B102.out (cj2 B103.out (cz2 B104.out)))) (fun hHeld => ?_)
 clear hK K
 refine nm 48 ?_
 refine pz 38 4 [39, 0] HT_ ?_
 refine done_ (done_of HT_.out (by kernel_rfl)) ?_
 try go_wp2
 go_ret
 exact ⟨er, pT HB.out, (dS DR).out⟩
end Go.Proofs.Ytmekfmhnpinjlaa.P
namespace Go.Proofs.Ytmekfmhnpinjlaa.P
def rLt (s1 c1 d1 y1 x1 s2 c2 d2 y2 x2 : Int) : Bool := decide (s1 * c2 < s2 * c1 ∨ s1 * c2 = s2 * c1 ∧ (d1 < d2 ∨ d1 = d2 ∧ (y1 < y2 ∨ y1 = y2 ∧ x1 < x2)))
theorem rLt_iff {s1 c1 d1 y1 x1 s2 c2 d2 y2 x2 : Int} : rLt s1 c1 d1 y1 x1 s2 c2 d2 y2 x2 = true ↔ (s1 * c2 < s2 * c1 ∨ s1 * c2 = s2 * c1 ∧ (d1 < d2 ∨ d1 = d2 ∧ (y1 < y2 ∨ y1 = y2 ∧ x1 < x2))) := by
  unfold rLt
  exact decide_eq_true_iff
theorem rLt_not {s1 c1 d1 y1 x1 s2 c2 d2 y2 x2 : Int} : rLt s1 c1 d1 y1 x1 s2 c2 d2 y2 x2 = false ↔ ¬ (s1 * c2 < s2 * c1 ∨ s1 * c2 = s2 * c1 ∧ (d1 < d2 ∨ d1 = d2 ∧ (y1 < y2 ∨ y1 = y2 ∧ x1 < x2))) := by
  unfold rLt
  exact decide_eq_false_iff_not
theorem rLt_irrefl (s c d y x : Int) : rLt s c d y x s c d y x = false := by rw [rLt_not]; omega
theorem ratio3 {a b k : Int} (hk : 0 < k) : (a < b ↔ a * k < b * k) ∧ (a = b ↔ a * k = b * k) :=
  ⟨⟨fun h => Int.mul_lt_mul_of_pos_right h hk, fun h => Int.lt_of_mul_lt_mul_right h (Int.le_of_lt hk)⟩, ⟨fun h => by rw [h], fun h => Int.eq_of_mul_eq_mul_right (by omega) h⟩⟩
theorem ratios {s1 c1 s2 c2 s3 c3 : Int} (h1 : 0 < c1) (h2 : 0 < c2) (h3 : 0 < c3) : ∃ A B C : Int, ((s1 * c2 < s2 * c1 ↔ A < B) ∧ (s1 * c2 = s2 * c1 ↔ A = B)) ∧ ((s2 * c3 < s3 * c2 ↔ B < C) ∧ (s2 * c3 = s3 * c2 ↔ B = C)) ∧ ((s1 * c3 < s3 * c1 ↔ A < C) ∧ (s1 * c3 = s3 * c1 ↔ A = C)) := by
  refine ⟨s1 * c2 * c3, s2 * c1 * c3, s3 * c1 * c2, ratio3 h3, ?_, ?_⟩
  · have h := ratio3 (a := s2 * c3) (b := s3 * c2) h1
    rw [show s2 * c3 * c1 = s2 * c1 * c3 by rw [Int.mul_assoc, Int.mul_comm c3, ← Int.mul_assoc], show s3 * c2 * c1 = s3 * c1 * c2 by rw [Int.mul_assoc, Int.mul_comm c2, ← Int.mul_assoc]] at h
    exact h
  · have h := ratio3 (a := s1 * c3) (b := s3 * c1) h2
    rw [show s1 * c3 * c2 = s1 * c2 * c3 by rw [Int.mul_assoc, Int.mul_comm c3, ← Int.mul_assoc]] at h
    exact h
theorem rLt_trans {s1 c1 d1 y1 x1 s2 c2 d2 y2 x2 s3 c3 d3 y3 x3 : Int} (h1 : 0 < c1) (h2 : 0 < c2) (h3 : 0 < c3) (a : rLt s1 c1 d1 y1 x1 s2 c2 d2 y2 x2 = true) (b : rLt s2 c2 d2 y2 x2 s3 c3 d3 y3 x3 = true) : rLt s1 c1 d1 y1 x1 s3 c3 d3 y3 x3 = true := by
  obtain ⟨A, B, C, ⟨p1, p2⟩, ⟨q1, q2⟩, ⟨r1, r2⟩⟩ := ratios (s1 := s1) (s2 := s2) (s3 := s3) h1 h2 h3
  rw [rLt_iff, p1, p2] at a
  rw [rLt_iff, q1, q2] at b
  rw [rLt_iff, r1, r2]
  omega
theorem rLt_ntrans {s1 c1 d1 y1 x1 s2 c2 d2 y2 x2 s3 c3 d3 y3 x3 : Int} (h1 : 0 < c1) (h2 : 0 < c2) (h3 : 0 < c3) (a : rLt s1 c1 d1 y1 x1 s2 c2 d2 y2 x2 = false) (b : rLt s2 c2 d2 y2 x2 s3 c3 d3 y3 x3 = false) : rLt s1 c1 d1 y1 x1 s3 c3 d3 y3 x3 = false := by
  obtain ⟨A, B, C, ⟨p1, p2⟩, ⟨q1, q2⟩, ⟨r1, r2⟩⟩ := ratios (s1 := s1) (s2 := s2) (s3 := s3) h1 h2 h3
  rw [rLt_not, p1, p2] at a
  rw [rLt_not, q1, q2] at b
  rw [rLt_not, r1, r2]
  omega
theorem rLt_conn {s1 c1 d1 y1 x1 s2 c2 d2 y2 x2 : Int} (a : rLt s1 c1 d1 y1 x1 s2 c2 d2 y2 x2 = false) (b : rLt s2 c2 d2 y2 x2 s1 c1 d1 y1 x1 = false) : y1 = y2 ∧ x1 = x2 := by
  rw [rLt_not] at a b
  omega
end Go.Proofs.Ytmekfmhnpinjlaa.P
namespace Go.Proofs.Ytmekfmhnpinjlaa.P
open Go.RowKit Go.Sort Go.Lib Go.Proofs.YtmekfmhnpinjlaaW.PrintWords Go.Proofs.YtmekfmhnpinjlaaW.PrintLast Go.Proofs.YtmekfmhnpinjlaaW.PrintMore
def rkOk (x : S82) : Bool := decide (-2 ≤ x.f0.f0 ∧ x.f0.f0 ≤ 2 ∧ -2 ≤ x.f0.f1 ∧ x.f0.f1 ≤ 2 ∧ 0 ≤ x.f1 ∧ x.f1 ≤ 1000000000 ∧ 1 ≤ x.f2 ∧ x.f2 ≤ 1000000)
def rkEncS (x : S82) : List Value := [.int .i64 x.f0.f0, .int .i64 x.f0.f1, .int .i64 x.f1, .int .i64 x.f2]
def rkA (x : Int) : Int := if x < 0 then -x else x
def rkLt (x y : S82) : Bool := rLt x.f1 x.f2 (rkA x.f0.f0 + rkA x.f0.f1) x.f0.f1 x.f0.f0 y.f1 y.f2 (rkA y.f0.f0 + rkA y.f0.f1) y.f0.f1 y.f0.f0
instance rkInh : Inhabited { x : S82 // rkOk x = true } := ⟨⟨⟨⟨0, 0⟩, 0, 1⟩, by decide⟩⟩
def rkCf (x y : { x : S82 // rkOk x = true }) : Int := if rkLt x.1 y.1 = true then -1 else if rkLt y.1 x.1 = true then 1 else 0
def rkEnc (x : { x : S82 // rkOk x = true }) : List Value := rkEncS x.1
theorem rkOk_iff {x : S82} : rkOk x = true ↔ -2 ≤ x.f0.f0 ∧ x.f0.f0 ≤ 2 ∧ -2 ≤ x.f0.f1 ∧ x.f0.f1 ≤ 2 ∧ 0 ≤ x.f1 ∧ x.f1 ≤ 1000000000 ∧ 1 ≤ x.f2 ∧ x.f2 ≤ 1000000 := by
  unfold rkOk
  exact decide_eq_true_iff
theorem rk_ltOf (x y : { x : S82 // rkOk x = true }) : ltOf rkCf x y = rkLt x.1 y.1 := by
  unfold ltOf rkCf
  cases rkLt x.1 y.1 with
  | true => rfl
  | false => cases rkLt y.1 x.1 <;> rfl
theorem rk_pos (x : { x : S82 // rkOk x = true }) : 0 < x.1.f2 := by
  have := rkOk_iff.1 x.2
  omega
theorem rk_swo : SWO (ltOf rkCf) where
  irrefl x := by rw [rk_ltOf]; exact rLt_irrefl _ _ _ _ _
  trans x y z a b := by rw [rk_ltOf] at *; exact rLt_trans (rk_pos x) (rk_pos y) (rk_pos z) a b
  ntrans x y z a b := by rw [rk_ltOf] at *; exact rLt_ntrans (rk_pos x) (rk_pos y) (rk_pos z) a b
def rkC (a b : Int) : Int := if a < b then -1 else if a > b then 1 else 0
theorem rk_cmp (a b : Int) : cmp_Compare_int.f a b = some (rkC a b) := by
  unfold cmp_Compare_int.f cmp_isNaN_int.f rkC
  simp only [Option.bind_some, bne_self_eq_false, Bool.false_eq_true, if_false]
  by_cases h1 : a < b
  · rw [if_pos h1, if_pos h1]
  · rw [if_neg h1, if_neg h1]
    by_cases h2 : a > b
    · rw [if_pos h2, if_pos h2]
    · rw [if_neg h2, if_neg h2]
theorem rk_or (a b c d : Int) : cmp_Or_int.f 6 [a, b, c, d] = some (if a ≠ 0 then a else if b ≠ 0 then b else if c ≠ 0 then c else d) := by
  have e1 : wrap64 (0 + 1) = 1 := by unfold wrap64; omega
  have e2 : wrap64 (1 + 1) = 2 := by unfold wrap64; omega
  have e3 : wrap64 (2 + 1) = 3 := by unfold wrap64; omega
  have e4 : wrap64 (3 + 1) = 4 := by unfold wrap64; omega
  have r0 : rd [a, b, c, d] 0 = a := rfl
  have r1 : rd [a, b, c, d] 1 = b := rfl
  have r2 : rd [a, b, c, d] 2 = c := rfl
  have r3 : rd [a, b, c, d] 3 = d := rfl
  have hl : (([a, b, c, d] : List Int).length : Int) = 4 := rfl
  unfold cmp_Or_int.f
  simp only [cmp_Or_int.l0, hl, e1, e2, e3, e4, r0, r1, r2, r3]
  by_cases h0 : a = 0
  · by_cases h1 : b = 0
    · by_cases h2 : c = 0
      · by_cases h3 : d = 0 <;> simp [h0, h1, h2, h3]
      · simp [h0, h1, h2]
    · simp [h0, h1]
  · simp [h0]
theorem rk_abs (a : Int) (h : -2 ≤ a ∧ a ≤ 2) : impl_absOf.f a = some (rkA a) := by
  unfold impl_absOf.f rkA
  split
  · rw [show wrap64 (-a) = -a by unfold wrap64; omega]
  · rfl
theorem rk_mul (a b : Int) (h : 0 ≤ a ∧ a ≤ 1000000000) (k : 1 ≤ b ∧ b ≤ 1000000) : wrap64 (a * b) = a * b := by
  have h1 : 0 ≤ a * b := Int.mul_nonneg h.1 (by omega)
  have h2 : a * b ≤ 1000000000 * 1000000 := Int.mul_le_mul h.2 k.2 (by omega) (by omega)
  unfold wrap64
  omega
theorem rk_f (x y : { x : S82 // rkOk x = true }) : impl_RankMotions_1.f 6 x.1.f0.f0 x.1.f0.f1 x.1.f1 x.1.f2 y.1.f0.f0 y.1.f0.f1 y.1.f1 y.1.f2 = some (rkCf x y) := by
  obtain ⟨a1, a2, a3, a4, a5, a6, a7, a8⟩ := rkOk_iff.1 x.2
  obtain ⟨b1, b2, b3, b4, b5, b6, b7, b8⟩ := rkOk_iff.1 y.2
  have hs : ∀ u v : Int, -2 ≤ u ∧ u ≤ 2 → -2 ≤ v ∧ v ≤ 2 → wrap64 (rkA u + rkA v) = rkA u + rkA v := fun u v hu hv => by unfold rkA wrap64; split <;> split <;> omega
  unfold impl_RankMotions_1.f
  rw [rk_mul _ _ ⟨a5, a6⟩ ⟨b7, b8⟩, rk_mul _ _ ⟨b5, b6⟩ ⟨a7, a8⟩, rk_abs _ ⟨a1, a2⟩, rk_abs _ ⟨a3, a4⟩, rk_abs _ ⟨b1, b2⟩, rk_abs _ ⟨b3, b4⟩]
  simp only [Option.bind_some, rk_cmp, rk_or]
  rw [hs _ _ ⟨a1, a2⟩ ⟨a3, a4⟩, hs _ _ ⟨b1, b2⟩ ⟨b3, b4⟩]
  unfold rkCf rkLt
  generalize rkA x.1.f0.f0 + rkA x.1.f0.f1 = d1
  generalize rkA y.1.f0.f0 + rkA y.1.f0.f1 = d2
  simp only [rLt_iff]
  generalize x.1.f1 * y.1.f2 = p
  generalize y.1.f1 * x.1.f2 = q
  generalize x.1.f0.f1 = u1
  generalize x.1.f0.f0 = u0
  generalize y.1.f0.f1 = v1
  generalize y.1.f0.f0 = v0
  congr 1
  unfold rkC
  rcases Int.lt_trichotomy p q with h | h | h
  · simp [h, show p ≠ q by omega]
  · subst h
    rcases Int.lt_trichotomy d1 d2 with h | h | h
    · simp [h]
    · subst h
      rcases Int.lt_trichotomy u1 v1 with h | h | h
      · simp [h]
      · subst h
        rcases Int.lt_trichotomy u0 v0 with h | h | h
        · simp [h]
        · subst h
          simp
        · simp [h, show ¬ u0 < v0 by omega]
      · simp [h, show ¬ u1 < v1 by omega, show u1 ≠ v1 by omega, show v1 ≠ u1 by omega]
    · simp [h, show ¬ d1 < d2 by omega, show d1 ≠ d2 by omega, show d2 ≠ d1 by omega]
  · simp [h, show ¬ p < q by omega, show p ≠ q by omega, show q ≠ p by omega]
theorem below_grow {w w' : World} (hb : Go.RowKit.Below w.heap.size w w') (hd : w.drawn ≤ w'.drawn) : ∃ q os', w' = grow (w.drewN q) os' := by
  refine ⟨w'.drawn - w.drawn, w'.heap.extract w.heap.size w'.heap.size, ?_⟩
  have e1 : w.heap ++ w'.heap.extract w.heap.size w'.heap.size = w'.heap := by
    have hs := hb.size
    refine Array.ext_getElem? (fun i => ?_)
    by_cases hi : i < w.heap.size
    · rw [Array.getElem?_append_left hi]
      exact (hb.block i hi).symm
    · rw [Array.getElem?_append_right (by omega), Array.getElem?_extract]
      by_cases hj : i < w'.heap.size
      · rw [if_pos (by omega), show w.heap.size + (i - w.heap.size) = i by omega]
      · rw [if_neg (by omega), Array.getElem?_eq_none (by omega)]
  have e2 : w.drawn + (w'.drawn - w.drawn) = w'.drawn := by omega
  obtain ⟨h1, t1, d1, o1, u1⟩ := w'
  obtain ⟨h0, t0, d0, o0, u0⟩ := w
  obtain ⟨g1, g2, g3, _, _⟩ := hb
  simp only at g1 g2 g3 e1 e2
  subst g1
  subst g2
  subst g3
  unfold grow World.drewN
  simp only [e1, e2]
theorem rk_lays (blk size : Nat) (w : World) : CmpLays Try.prog 57 #[] rkEnc 4 rkCf blk 0 size w := by
  intro m os dk hs x y
  rw [Array.append_empty]
  refine (impl_RankMotions_1.lays 6 _ _ _ _ _ _ _ _ (rkCf x y) _ (rk_f x y)).mono ?_
  rintro e w' ⟨rfl, hb, hd⟩
  exact ⟨rfl, below_grow hb hd⟩
theorem heap_sortedV {w : World} {g n : Nat} {os : Array Obj} {cur : Array Value} {e : TypeId} {fr : Nat × Nat} (d : Array Value) (hb : w.heap[g]? = some (.cells cur e fr)) :
    (grow (putRow id (Sort.ahead w n) g 0 d) os).heap[g]? = some (.cells (putCells id 0 d cur) e fr) := by
  have hg : g < w.heap.size := (Array.getElem?_eq_some_iff.1 hb).1
  rw [heap_grow_old _ _ (by simpa using hg)]
  simp [putRow, mapBlock, Sort.ahead, Array.getElem?_modify, hb, onCells]
theorem grownBy_sortedV {w : World} {g n : Nat} {os : Array Obj} (d : Array Value) : w.grownBy (grow (putRow id (Sort.ahead w n) g 0 d) os) (some g) := by
  refine ⟨rfl, rfl, rfl, by simp, fun k hk hne => ?_⟩
  rw [heap_grow_old _ _ (by simpa using hk)]
  have : g ≠ k := fun e => hne (by rw [e])
  simp [putRow, mapBlock, Sort.ahead, Array.getElem?_modify, this]
theorem rk_inner {M : S82 → List Value → Prop} {l : List S82} {inner : List Value} (hr : Reps M 4 l inner) (hM : ∀ x cs, M x cs → cs = rkEncS x) (j : Nat) (p : S82) (hp : l[j / 4]? = some p) : inner[j]? = (rkEncS p)[j % 4]? := by
  have h := hM _ _ (hr.2 (j / 4) p hp)
  rw [← h, List.getElem?_take_of_lt (Nat.mod_lt _ (by decide)), List.getElem?_drop, show j / 4 * 4 + j % 4 = j by omega]
theorem rk_reps {M : S82 → List Value → Prop} {l : List S82} {inner : List Value} (hlen : inner.length = l.length * 4) (h : ∀ t p, t < l.length * 4 → l[t / 4]? = some p → inner[t]? = (rkEncS p)[t % 4]?) (hM : ∀ x, M x (rkEncS x)) : Reps M 4 l inner :=
  ⟨hlen, fun j p hp => by
    have hj : j < l.length := (List.getElem?_eq_some_iff.1 hp).1
    have e : (inner.drop (j * 4)).take 4 = rkEncS p := by
      apply List.ext_getElem?
      intro i
      by_cases hi : i < 4
      · rw [List.getElem?_take_of_lt hi, List.getElem?_drop, h (j * 4 + i) p (by omega) (by rw [show (j * 4 + i) / 4 = j by omega]; exact hp), show (j * 4 + i) % 4 = i by omega]
      · rw [List.getElem?_take_eq_none (by omega), List.getElem?_eq_none (by simp [rkEncS]; omega)]
    rw [e]
    exact hM p⟩
def rkSort (l : List S82) : List S82 := if h : ∀ x ∈ l, rkOk x = true then (pdq (ltOf rkCf) (l.pmap Subtype.mk h).toArray 0 l.length (Lib.bitLen l.length) true true).toList.map (fun x => x.1) else l
theorem rk_val (l : List S82) (h : ∀ x ∈ l, rkOk x = true) : (l.pmap Subtype.mk h).map (fun x => x.1) = l := by
  rw [List.map_pmap]
  simp
theorem rk_pdq (l : List S82) (h : ∀ x ∈ l, rkOk x = true) : ∃ d' : Array { x : S82 // rkOk x = true }, pdq (ltOf rkCf) (l.pmap Subtype.mk h).toArray 0 l.length (Lib.bitLen l.length) true true = d' ∧ d'.size = l.length ∧ d'.toList.Perm (l.pmap Subtype.mk h) ∧ (∀ i j, i < j → j < l.length → rkLt (d'[j]!).1 (d'[i]!).1 = false) := by
  have hz : (l.pmap Subtype.mk h).toArray.size = l.length := by simp
  have hp := pdq_sorts (ltOf rkCf) rk_swo (l.pmap Subtype.mk h).toArray 0 l.length (Lib.bitLen l.length) true true (Nat.zero_le _) (by rw [hz]; exact Nat.le_refl _) (Or.inl rfl)
  refine ⟨_, rfl, hp.1.1.trans hz, ?_, fun i j hi hj => ?_⟩
  · have h2 := hp.1.2.2
    have e1 : ∀ a : Array { x : S82 // rkOk x = true }, a.size = l.length → a.extract 0 l.length = a := fun a ha => by rw [← ha]; exact Array.extract_size
    rw [e1 _ (hp.1.1.trans hz), e1 _ hz] at h2
    exact h2
  · have h3 := hp.2 i j (Nat.zero_le _) hi hj
    rw [rk_ltOf] at h3
    exact h3
theorem rkSort_len (l : List S82) : (rkSort l).length = l.length := by
  unfold rkSort
  by_cases h : ∀ x ∈ l, rkOk x = true
  · rw [dif_pos h]
    obtain ⟨d', e, h1, _, _⟩ := rk_pdq l h
    rw [e, List.length_map, Array.length_toList, h1]
  · rw [dif_neg h]
theorem rkSort_perm (l : List S82) : (rkSort l).Perm l := by
  unfold rkSort
  by_cases h : ∀ x ∈ l, rkOk x = true
  · rw [dif_pos h]
    obtain ⟨d', e, _, h2, _⟩ := rk_pdq l h
    rw [e]
    have h3 := h2.map (fun x => x.1)
    rw [rk_val] at h3
    exact h3
  · rw [dif_neg h]
theorem rkSort_srt (l : List S82) (h : ∀ x ∈ l, rkOk x = true) : (rkSort l).Pairwise (fun a b => rkLt b a = false) := by
  unfold rkSort
  rw [dif_pos h]
  obtain ⟨d', e, h1, _, h3⟩ := rk_pdq l h
  rw [e, List.pairwise_map, List.pairwise_iff_getElem]
  intro i j hi hj hij
  have hj' : j < d'.size := by simpa using hj
  have hi' : i < d'.size := by simpa using hi
  have := h3 i j hij (by omega)
  rw [getElem!_pos d' i hi', getElem!_pos d' j hj'] at this
  simpa using this
theorem sortf_own {W : World} {base g cap : Nat} {ok : Nat → Prop} {l : List S82} (h : Kd.R k82 82 W base ok (.slice (some ⟨g, 0, none⟩) l.length cap) l) (hok : ∀ x ∈ l, rkOk x = true) (hsmall : l.length < 4611686018427387904) :
    Calls Try.prog 56 #[.slice (some ⟨g, 0, none⟩) l.length cap, .func (.func 57) #[] #[]] W fun e W' =>
      e = .returned (.tuple #[]) ∧ Kd.R k82 82 W' base ok (.slice (some ⟨g, 0, none⟩) l.length cap) (rkSort l) ∧ W.grownBy W' (some g) := by
  obtain ⟨hpo, inner, ho, hr⟩ := h
  rcases ho.2 with ⟨hn, _⟩ | ⟨g', cap', cur, hv, hg, hb, hn, hcap, hsz, htk⟩
  · cases hn
  cases hv
  have hgs : g < W.heap.size := (Array.getElem?_eq_some_iff.1 hb).1
  have hsz4 : cur.size = cap * 4 := hsz
  have htk4 : cur.toList.take (l.length * 4) = inner := htk
  have hz : (l.pmap Subtype.mk hok).toArray.size = l.length := by simp
  have hH : HoldsK rkEnc 4 W g 0 (l.pmap Subtype.mk hok).toArray := by
    intro j hj
    rw [size_flatK, hz] at hj
    refine ⟨?_, by simp [World.frozen?, hb]⟩
    have hj4 : j / 4 < l.length := by omega
    have h1 := rk_inner hr (fun x cs hx => k82_openM hx) j (l[j / 4]) (List.getElem?_eq_getElem hj4)
    rw [← htk4, List.getElem?_take_of_lt hj] at h1
    simp only [World.cell?, hb, Nat.zero_add]
    simp only [Option.isSome_none, Bool.false_eq_true, if_false]
    rw [← Array.getElem?_toList, h1, get_flatK _ _ _ _ (by rw [hz]; exact hj)]
    rw [getElem!_pos (l.pmap Subtype.mk hok).toArray (j / 4) (by rw [hz]; exact hj4)]
    have hm : j % 4 < 4 := Nat.mod_lt _ (by decide)
    simp only [List.getElem_toArray, List.getElem_pmap, rkEnc, id_eq]
    rw [List.getElem?_eq_getElem (by simp [rkEncS]; omega), getElem!_pos _ _ (by simp [rkEncS]; omega)]
  have hc := Go.Proofs.Try.slices_SortFunc_rk rkEnc (fun _ => rfl) (fun x v hv => by simp [rkEnc, rkEncS] at hv; rcases hv with rfl | rfl | rfl | rfl <;> rfl) rkCf rk_swo 57 #[] g 0 cap (l.pmap Subtype.mk hok).toArray W (enters_of Try.func57 (by kernel_rfl) rfl) (rk_lays g _ W) hH hgs (by rw [hz]; exact hsmall)
  rw [hz] at hc
  obtain ⟨d', e', hd1, hd2, hd3⟩ := rk_pdq l hok
  have hsr : rkSort l = d'.toList.map (fun x => x.1) := by unfold rkSort; rw [dif_pos hok, e']
  rw [e'] at hc
  refine hc.mono ?_
  rintro e W' ⟨rfl, n, os, rfl⟩
  show _ ∧ Kd.R k82 82 (grow (putRow id (Sort.ahead W n) g 0 (flatK rkEnc 4 d')) os) base ok _ (rkSort l) ∧ W.grownBy (grow (putRow id (Sort.ahead W n) g 0 (flatK rkEnc 4 d')) os) (some g)
  refine ⟨rfl, ⟨hpo, (putCells id 0 (flatK rkEnc 4 d') cur).toList.take ((rkSort l).length * 4), ?_, ?_⟩, grownBy_sortedV _⟩
  · rw [rkSort_len]
    refine ⟨?_, .inr ⟨g, cap, _, rfl, hg, heap_sortedV _ hb, hn, hcap, ?_, rfl⟩⟩
    · rw [List.length_take]
      show min _ _ = l.length * 4
      simp [putCells]
      omega
    · show _ = cap * 4
      simp [putCells, hsz4]
  · refine rk_reps ?_ (fun t p ht hp => ?_) (fun x => k82_mkM _ _ _ x)
    · rw [rkSort_len, List.length_take]
      simp [putCells]
      omega
    · rw [List.getElem?_take_of_lt ht]
      rw [rkSort_len] at ht
      have ht4 : t / 4 < d'.size := by omega
      rw [hsr, List.getElem?_map, Array.getElem?_toList, Array.getElem?_eq_getElem ht4] at hp
      obtain rfl := Option.some.inj hp
      have hcs : t < cur.size := by omega
      rw [Array.getElem?_toList]
      unfold putCells
      rw [Array.getElem?_mapIdx, Array.getElem?_eq_getElem hcs]
      simp only [Option.map_some, Nat.zero_le, true_and, Nat.zero_add, size_flatK, Nat.sub_zero, id_eq]
      rw [if_pos (by omega), get_flatK _ _ _ _ (by omega), getElem!_pos d' (t / 4) ht4]
      have hm : t % 4 < 4 := Nat.mod_lt _ (by decide)
      rw [List.getElem?_eq_getElem (by simp [rkEncS]; omega), getElem!_pos _ _ (by simp [rkEnc, rkEncS]; omega)]
      rfl
end Go.Proofs.Ytmekfmhnpinjlaa.P
namespace Go.Proofs.Ytmekfmhnpinjlaa.P
attribute [local go_sem] max2_int min2_int max_two min_two max_three min_three max_four min_four
def slices_SortFunc_ranked_at_impl_RankMotions_1.f (l0 : List S82) : Option (List S82) := if l0.length < 4611686018427387904 ∧ l0.all rkOk = true then some (rkSort l0) else none
theorem slices_SortFunc_ranked_at_impl_RankMotions_1.calls (P0_ : Nat → Prop) (u9000_ : Value) (l0 : List S82) (r1 : List S82) (w0 w : World) (hB : Below w0.heap.size w0 w) (ho0 : Kd.R k82 82 w w0.heap.size P0_ u9000_ l0) (h : slices_SortFunc_ranked_at_impl_RankMotions_1.f l0 = some r1) :
    Calls Try.prog 56 #[u9000_, .func (.func 57) #[] #[]] w fun e w' => e = .returned (.tuple #[]) ∧ Kd.R k82 82 w' w0.heap.size (fun k_ => (P0_ k_ ∨ w.heap.size ≤ k_)) u9000_ r1 ∧ Below w0.heap.size w0 w' ∧ Kept w w' (fun k_ => P0_ k_) := by
 unfold slices_SortFunc_ranked_at_impl_RankMotions_1.f at h
 by_cases hg : l0.length < 4611686018427387904 ∧ l0.all rkOk = true
 case neg => rw [if_neg hg] at h; exact absurd h (by simp)
 rw [if_pos hg] at h
 obtain rfl := Option.some.inj h
 have hok : ∀ x ∈ l0, rkOk x = true := List.all_eq_true.1 hg.2
 by_cases h0 : 0 < l0.length
 ·
  obtain ⟨g, cap, rfl, hgb, hgs, _⟩ := Kd.R_form ho0 h0
  have hP : P0_ g := ho0.1 g rfl
  refine (sortf_own ho0 hok hg.1).mono ?_
  rintro e w1 ⟨rfl, hR, hg1⟩
  exact ⟨rfl, Kd.R_mono hR (fun k hk => .inl hk), pw_below_grown hB (some g) hB.size hg1 (fun k hk => by cases hk; exact hgb), Kept.of_grown hg1 (Kept.refl w _) (fun k hk => by cases hk; exact .inl hP)⟩
 obtain rfl := List.length_eq_zero_iff.1 (show l0.length = 0 by omega)
 obtain ⟨A, c, rfl⟩ := Kd.R_slice ho0
 refine (Go.Proofs.Try.slices_SortFunc_none A c _ w).mono ?_
 rintro e w1 ⟨rfl, rfl⟩
 have e0 : rkSort [] = [] := List.length_eq_zero_iff.1 (rkSort_len [])
 rw [e0]
 exact ⟨rfl, Kd.R_mono ho0 (fun k hk => .inl hk), hB, Kept.refl _ _⟩
mutual
def impl_RankMotions.l0 : Nat → List (S82) → Int → Int → Int → List Int → Int → Int → List Int → Option ((List (S28)) × Bool)
 | 0, _, _, _, _, _, _, _, _ => none
 | k + 1, x6, x7, x102000, x102001, x102002, x103000, x103001, x103002 => if x7 ≤ 2 then (impl_RankMotions.l1 k x6 x7 (-2) x102000 x102001 x102002 x103000 x103001 x103002) else ((slices_SortFunc_ranked_at_impl_RankMotions_1.f x6).bind fun t112 => (impl_RankMotions.l2 k ([] : List (S28)) t112 (x6.length : Int) 0))
def impl_RankMotions.l1 : Nat → List (S82) → Int → Int → Int → Int → List Int → Int → Int → List Int → Option ((List (S28)) × Bool)
 | 0, _, _, _, _, _, _, _, _, _ => none
 | k + 1, x6, x7, x8, x102000, x102001, x102002, x103000, x103001, x103002 => if x8 ≤ 2 then ((impl_matchOf.f k x102000 x102001 x102002 x103000 x103001 x103002 x8 x7).bind fun bt107 => (if bt107.2 ≥ 1 then (if (wrap64 (2 * bt107.2)) ≥ (x102002.length : Int) then (if x6.length < 4398046511104 then (impl_RankMotions.l1 k (x6 ++ [(⟨(⟨x8, x7⟩ : S28), bt107.1, bt107.2⟩ : S82)]) x7 (wrap64 (x8 + 1)) x102000 x102001 x102002 x103000 x103001 x103002) else (none)) else (impl_RankMotions.l1 k x6 x7 (wrap64 (x8 + 1)) x102000 x102001 x102002 x103000 x103001 x103002)) else (impl_RankMotions.l1 k x6 x7 (wrap64 (x8 + 1)) x102000 x102001 x102002 x103000 x103001 x103002))) else (impl_RankMotions.l0 k x6 (wrap64 (x7 + 1)) x102000 x102001 x102002 x103000 x103001 x103002)
def impl_RankMotions.l2 : Nat → List (S28) → List (S82) → Int → Int → Option ((List (S28)) × Bool)
 | 0, _, _, _, _ => none
 | k + 1, x11, x57, x58, x59 => if x59 < x58 then (if 0 ≤ x59 then (if x59 < (x57.length : Int) then (if x11.length < 8796093022208 then (impl_RankMotions.l2 k (x11 ++ [(⟨(rd_T82 x57 x59).f0.f0, (rd_T82 x57 x59).f0.f1⟩ : S28)]) x57 x58 (wrap64 (x59 + 1))) else (none)) else (none)) else (none)) else (some (x11, true))
end
def impl_RankMotions.f (k : Nat) (a0_0 : Int) (a0_1 : Int) (l0_2 : List Int) (a1_0 : Int) (a1_1 : Int) (l1_2 : List Int) : Option ((List (S28)) × Bool) := (impl_areAlike.f k (([(⟨a0_0, a0_1, l0_2⟩ : S26), (⟨a1_0, a1_1, l1_2⟩ : S26)] : List (S26)))).bind fun t106 => (if t106 = true then (impl_RankMotions.l0 k ([] : List (S82)) (-2) a0_0 a0_1 l0_2 a1_0 a1_1 l1_2) else (some (([] : List (S28)), false)))
theorem impl_RankMotions.calls (k : Nat) (a0_0 : Int) (a0_1 : Int) (P0_2_ : Nat → Prop) (A0_2 : Option Addr) (c0_2 : Nat) (l0_2 : List Int) (a1_0 : Int) (a1_1 : Int) (P1_2_ : Nat → Prop) (A1_2 : Option Addr) (c1_2 : Nat) (l1_2 : List Int) (r1 : List (S28)) (r2 : Bool) (w : World) (hs0_2 : Kd.V (Kd.int .i64) 3 w w.heap.size (fun k_ => P0_2_ k_) (.slice A0_2 l0_2.length c0_2) l0_2) (hs1_2 : Kd.V (Kd.int .i64) 3 w w.heap.size (fun k_ => P1_2_ k_) (.slice A1_2 l1_2.length c1_2) l1_2) (h : impl_RankMotions.f k a0_0 a0_1 l0_2 a1_0 a1_1 l1_2 = some (r1, r2)) :
  Calls Try.prog 33 #[.agg #[.int .i64 a0_0, .int .i64 a0_1, .slice A0_2 l0_2.length c0_2], .agg #[.int .i64 a1_0, .int .i64 a1_1, .slice A1_2 l1_2.length c1_2]] w fun e w' => ∃ v0_ : Value, e = .returned (.tuple #[v0_, .bool r2]) ∧ Kd.R k28 28 w' w.heap.size (fun k_ => (w.heap.size ≤ k_)) v0_ r1 ∧ Below w.heap.size w w' := by
 have hu26 := Try.underlying26
 have hu28 := Try.underlying28
 have hu82 := Try.underlying82
 have HO0_2 := aK (show Kd.V (Kd.int .i64) 3 w w.heap.size (fun k_ => ((P0_2_ k_ ∨ P1_2_ k_) ∨ w.heap.size ≤ k_)) (.slice A0_2 l0_2.length c0_2) l0_2 from Kd.V_mono hs0_2 (fun k_ hk => .inl (.inl hk)))
 have HO1_2 := aK (show Kd.V (Kd.int .i64) 3 w w.heap.size (fun k_ => ((P0_2_ k_ ∨ P1_2_ k_) ∨ w.heap.size ≤ k_)) (.slice A1_2 l1_2.length c1_2) l1_2 from Kd.V_mono hs1_2 (fun k_ hk => .inl (.inr hk)))
 have HB := aK (Below.refl w.heap.size w)
 have H : ((impl_areAlike.f k (([(⟨a0_0, a0_1, l0_2⟩ : S26), (⟨a1_0, a1_1, l1_2⟩ : S26)] : List (S26)))).bind fun t106 => (if t106 = true then (impl_RankMotions.l0 k ([] : List (S82)) (-2) a0_0 a0_1 l0_2 a1_0 a1_1 l1_2) else (some (([] : List (S28)), false)))) = some (r1, r2) := h
 clear h
 obtain ⟨y103, hy103⟩ : ∃ y_ : List (S26), y_ = (([(⟨a0_0, a0_1, l0_2⟩ : S26), (⟨a1_0, a1_1, l1_2⟩ : S26)] : List (S26))) := ⟨_, rfl⟩
 replace H : ((impl_areAlike.f k y103).bind fun t106 => (if t106 = true then (impl_RankMotions.l0 k ([] : List (S82)) (-2) a0_0 a0_1 l0_2 a1_0 a1_1 l1_2) else (some (([] : List (S28)), false)))) = some (r1, r2) := by first | (rw [hy103]; first | with_reducible exact H | with_reducible exact (oS H :)) | with_reducible exact (oS H :) | with_reducible exact H | exact H
 have Ny103 := aK hy103
 clear hy103
 replace H := oA H
 obtain ⟨t106, A3, H⟩ := H
 replace H : (if t106 = true then (impl_RankMotions.l0 k ([] : List (S82)) (-2) a0_0 a0_1 l0_2 a1_0 a1_1 l1_2) else (some (([] : List (S28)), false))) = some (r1, r2) := H
 by_cases c4 : t106 = true
 rotate_left
 ·
  replace c4 := Bool.eq_false_iff.mpr c4; subst c4
  have H1 : (some (([] : List (S28)), false)) = some (r1, r2) := by rw [if_neg (show ¬ (false = true) by decide)] at H; exact H
  clear H; have H := H1; clear H1
  simp only [Option.some.injEq, Prod.mk.injEq] at H
  obtain ⟨rfl, rfl⟩ := H
  go_enter Try.func33, Try.ntmps33
  go_wp2_with (first | ((with_reducible refine ga 2 rfl ?_); (try (refine gate_guard (by rfl) ?_; dsimp only)); refine bxa #[.int .i64 a0_0, .int .i64 a0_1, .slice A0_2 l0_2.length c0_2] 26 ?_; intro g101 hg w47 B101 hb; replace HO0_2 := aK (Kd.V_below (Kd.V_elderB (pW HO0_2.out) g101 (Nat.le_of_eq hg.symm)) hb); replace HO1_2 := aK (Kd.V_below (Kd.V_elderB (pW HO1_2.out) g101 (Nat.le_of_eq hg.symm)) hb); have GW101 := gA hg HB; replace HB := bS HB hb; clear hb hg) | ((with_reducible refine ga 3 rfl ?_); (try (refine gate_guard (by rfl) ?_; dsimp only)); refine bxa #[.int .i64 a1_0, .int .i64 a1_1, .slice A1_2 l1_2.length c1_2] 26 ?_; intro g102 hg w48 B102 hb; replace HO0_2 := aK (Kd.V_below (Kd.V_elderB (pW HO0_2.out) g102 (Nat.le_of_eq hg.symm)) hb); replace HO1_2 := aK (Kd.V_below (Kd.V_elderB (pW HO1_2.out) g102 (Nat.le_of_eq hg.symm)) hb); have GW102 := gA hg HB; obtain ⟨N101_102, N102_101⟩ := na hg B101; replace B101 := bB B101 hb; replace HB := bS HB hb; clear hb hg; obtain ⟨_, _⟩ := nB N101_102; obtain ⟨_, _, _, _, _, _⟩ := bc3 B101.out; obtain ⟨_, _, _, _, _, _⟩ := bc3 B102.out) | ((with_reducible refine ga 16 rfl ?_); (try (refine gate_guard (by rfl) ?_; dsimp only)); refine Kd.N_lit k26 _ 26 ?hg (N' := 16) ?hd (xs := ([(⟨a0_0, a0_1, l0_2⟩ : S26), (⟨a1_0, a1_1, l1_2⟩ : S26)] : List (S26))) (inner := [.int .i64 a0_0, .int .i64 a0_1, .slice A0_2 l0_2.length c0_2, .int .i64 a1_0, .int .i64 a1_1, .slice A1_2 l1_2.length c1_2]) (ok := (fun k_ => ((P0_2_ k_ ∨ P1_2_ k_) ∨ w.heap.size ≤ k_) ∧ k_ ≠ g101 ∧ k_ ≠ g102)) (okp := (fun k_ => ((P0_2_ k_ ∨ P1_2_ k_) ∨ w.heap.size ≤ k_) ∧ k_ ≠ g101 ∧ k_ ≠ g102)) ?hr ?hp (fun _ hk => hk) ((show ∀ k_, w48.heap.size ≤ k_ → (fun k_ => ((P0_2_ k_ ∨ P1_2_ k_) ∨ w.heap.size ≤ k_) ∧ k_ ≠ g101 ∧ k_ ≠ g102) k_ from fun k_ hk => ⟨(.inr (Nat.le_trans (below_size (pS HB.out)) hk)), Kd.freshB (g := g101) (o := .cells #[.int .i64 a0_0, .int .i64 a0_1, .slice A0_2 l0_2.length c0_2] 26 (0, 0)) (pB B101.out) k_ hk, Kd.freshB (g := g102) (o := .cells #[.int .i64 a1_0, .int .i64 a1_1, .slice A1_2 l1_2.length c1_2] 26 (0, 0)) (pB B102.out) k_ hk⟩) _ (Nat.le_refl _)) (Below.refl _ _) (Nat.le_refl _) (by simp) ?_; (case hd => rfl); (case hg => rfl); (case hr => first | (go_simp; done) | (go_simp; rfl)); (case hp => exact (Reps.c3 (show Kd.FK k26 _ _ (⟨a0_0, a0_1, l0_2⟩ : S26) [.int .i64 a0_0, .int .i64 a0_1, .slice A0_2 l0_2.length c0_2] from (k26_mkF _ _ (⟨a0_0, a0_1, l0_2⟩ : S26) (Kd.V_reads' (Kd.V_mono (ok' := (fun k_ => ((P0_2_ k_ ∨ P1_2_ k_) ∨ w.heap.size ≤ k_) ∧ k_ ≠ g101 ∧ k_ ≠ g102)) (HO0_2.out) (fun k_ hk => ⟨hk.1.1, ⟨hk.1.2, hk.2⟩⟩))).2.1 (Kd.V_F (Kd.V_mono (ok' := (fun k_ => ((P0_2_ k_ ∨ P1_2_ k_) ∨ w.heap.size ≤ k_) ∧ k_ ≠ g101 ∧ k_ ≠ g102)) (HO0_2.out) (fun k_ hk => ⟨hk.1.1, ⟨hk.1.2, hk.2⟩⟩))))) (Reps.c3 (show Kd.FK k26 _ _ (⟨a1_0, a1_1, l1_2⟩ : S26) [.int .i64 a1_0, .int .i64 a1_1, .slice A1_2 l1_2.length c1_2] from (k26_mkF _ _ (⟨a1_0, a1_1, l1_2⟩ : S26) (Kd.V_reads' (Kd.V_mono (ok' := (fun k_ => ((P0_2_ k_ ∨ P1_2_ k_) ∨ w.heap.size ≤ k_) ∧ k_ ≠ g101 ∧ k_ ≠ g102)) (HO1_2.out) (fun k_ hk => ⟨hk.1.1, ⟨hk.1.2, hk.2⟩⟩))).2.1 (Kd.V_F (Kd.V_mono (ok' := (fun k_ => ((P0_2_ k_ ∨ P1_2_ k_) ∨ w.heap.size ≤ k_) ∧ k_ ≠ g101 ∧ k_ ≠ g102)) (HO1_2.out) (fun k_ hk => ⟨hk.1.1, ⟨hk.1.2, hk.2⟩⟩))))) (Reps.none _ _)))); intro v104 w52 ho53 hb hg_ hnew_; clear hg_ hnew_; (first | rw [← Ny103.out] at ho53 | (simp only [Int.reduceToNat] at ho53; rw [← Ny103.out] at ho53)); replace HO0_2 := aK (Kd.V_elder' (pW HO0_2.out) (Kd.N_base ho53) hb); replace HO1_2 := aK (Kd.V_elder' (pW HO1_2.out) (Kd.N_base ho53) hb); have HO105 := aK (Kd.N_lower ho53 (below_size (pS HB.out))); replace B101 := bB B101 hb; replace B102 := bB B102 hb; replace HB := bS HB hb; clear hb ho53; obtain ⟨Ao54, co54, eo54⟩ := Kd.N_slice HO105.out; subst eo54) | ((with_reducible refine gc 25 rfl ?_); refine gl (some 17) Try.func25 #[.slice Ao54 y103.length co54] ?_; (with_reducible refine (impl_areAlike.calls k _ _ y103 false _ ?side1 ?side2 A3.out).mono ?_); (case side1 => exact pC (Kd.N_reads' HO105.out).2.2); (case side2 => exact (Kd.N_reads' HO105.out).2.1); rintro e w55 ⟨rfl, hb⟩; refine ⟨_, rfl, ?_⟩; replace HO0_2 := vb HO0_2 hb; replace HO1_2 := vb HO1_2 hb; replace HO105 := aK (Kd.N_below (by (with_reducible repeat (first | apply Kd.N_alloc | apply Kd.N_drewN | apply Kd.N_drew)); exact HO105.out) hb); replace B101 := bB B101 hb; replace B102 := bB B102 hb; replace HB := bS HB hb; (try clear hb)))
  go_ret2
  exact ⟨_, er, by first | exact Kd.R_nil _ _ _ _ _ | exact Kd.N_nil _ _ _ _ _ | exact Kd.V_nil _ _ _ _ _ | exact Kd.Q_nil _ _ _ _ _ | exact Kd.S_nil _ _ _ _ _, pT HB.out⟩
 subst c4
 have H1 : (impl_RankMotions.l0 k ([] : List (S82)) (-2) a0_0 a0_1 l0_2 a1_0 a1_1 l1_2) = some (r1, r2) := by rw [if_pos rfl] at H; exact H
 clear H
 have H := H1
 clear H1
 have H' := aK H
 clear H
 go_enter Try.func33, Try.ntmps33
 go_wp2_with (first | ((with_reducible refine ga 2 rfl ?_); (try (refine gate_guard (by rfl) ?_; dsimp only)); refine bxa #[.int .i64 a0_0, .int .i64 a0_1, .slice A0_2 l0_2.length c0_2] 26 ?_; intro g101 hg w5 B101 hb; replace HO0_2 := aK (Kd.V_below (Kd.V_elderB (pW HO0_2.out) g101 (Nat.le_of_eq hg.symm)) hb); replace HO1_2 := aK (Kd.V_below (Kd.V_elderB (pW HO1_2.out) g101 (Nat.le_of_eq hg.symm)) hb); have GW101 := gA hg HB; replace HB := bS HB hb; clear hb hg) | ((with_reducible refine ga 3 rfl ?_); (try (refine gate_guard (by rfl) ?_; dsimp only)); refine bxa #[.int .i64 a1_0, .int .i64 a1_1, .slice A1_2 l1_2.length c1_2] 26 ?_; intro g102 hg w6 B102 hb; replace HO0_2 := aK (Kd.V_below (Kd.V_elderB (pW HO0_2.out) g102 (Nat.le_of_eq hg.symm)) hb); replace HO1_2 := aK (Kd.V_below (Kd.V_elderB (pW HO1_2.out) g102 (Nat.le_of_eq hg.symm)) hb); have GW102 := gA hg HB; obtain ⟨N101_102, N102_101⟩ := na hg B101; replace B101 := bB B101 hb; replace HB := bS HB hb; clear hb hg; obtain ⟨_, _⟩ := nB N101_102; obtain ⟨z8_0, z8_1, z8_2, y8_0, y8_1, y8_2⟩ := bc3 B101.out; obtain ⟨z9_0, z9_1, z9_2, y9_0, y9_1, y9_2⟩ := bc3 B102.out) | ((with_reducible refine ga 16 rfl ?_); (try (refine gate_guard (by rfl) ?_; dsimp only)); refine Kd.N_lit k26 _ 26 ?hg (N' := 16) ?hd (xs := ([(⟨a0_0, a0_1, l0_2⟩ : S26), (⟨a1_0, a1_1, l1_2⟩ : S26)] : List (S26))) (inner := [.int .i64 a0_0, .int .i64 a0_1, .slice A0_2 l0_2.length c0_2, .int .i64 a1_0, .int .i64 a1_1, .slice A1_2 l1_2.length c1_2]) (ok := (fun k_ => ((P0_2_ k_ ∨ P1_2_ k_) ∨ w.heap.size ≤ k_) ∧ k_ ≠ g101 ∧ k_ ≠ g102)) (okp := (fun k_ => ((P0_2_ k_ ∨ P1_2_ k_) ∨ w.heap.size ≤ k_) ∧ k_ ≠ g101 ∧ k_ ≠ g102)) ?hr ?hp (fun _ hk => hk) ((show ∀ k_, w6.heap.size ≤ k_ → (fun k_ => ((P0_2_ k_ ∨ P1_2_ k_) ∨ w.heap.size ≤ k_) ∧ k_ ≠ g101 ∧ k_ ≠ g102) k_ from fun k_ hk => ⟨(.inr (Nat.le_trans (below_size (pS HB.out)) hk)), Kd.freshB (g := g101) (o := .cells #[.int .i64 a0_0, .int .i64 a0_1, .slice A0_2 l0_2.length c0_2] 26 (0, 0)) (pB B101.out) k_ hk, Kd.freshB (g := g102) (o := .cells #[.int .i64 a1_0, .int .i64 a1_1, .slice A1_2 l1_2.length c1_2] 26 (0, 0)) (pB B102.out) k_ hk⟩) _ (Nat.le_refl _)) (Below.refl _ _) (Nat.le_refl _) (by simp) ?_; (case hd => rfl); (case hg => rfl); (case hr => first | (go_simp; done) | (go_simp; rfl)); (case hp => exact (Reps.c3 (show Kd.FK k26 _ _ (⟨a0_0, a0_1, l0_2⟩ : S26) [.int .i64 a0_0, .int .i64 a0_1, .slice A0_2 l0_2.length c0_2] from (k26_mkF _ _ (⟨a0_0, a0_1, l0_2⟩ : S26) (Kd.V_reads' (Kd.V_mono (ok' := (fun k_ => ((P0_2_ k_ ∨ P1_2_ k_) ∨ w.heap.size ≤ k_) ∧ k_ ≠ g101 ∧ k_ ≠ g102)) (HO0_2.out) (fun k_ hk => ⟨hk.1.1, ⟨hk.1.2, hk.2⟩⟩))).2.1 (Kd.V_F (Kd.V_mono (ok' := (fun k_ => ((P0_2_ k_ ∨ P1_2_ k_) ∨ w.heap.size ≤ k_) ∧ k_ ≠ g101 ∧ k_ ≠ g102)) (HO0_2.out) (fun k_ hk => ⟨hk.1.1, ⟨hk.1.2, hk.2⟩⟩))))) (Reps.c3 (show Kd.FK k26 _ _ (⟨a1_0, a1_1, l1_2⟩ : S26) [.int .i64 a1_0, .int .i64 a1_1, .slice A1_2 l1_2.length c1_2] from (k26_mkF _ _ (⟨a1_0, a1_1, l1_2⟩ : S26) (Kd.V_reads' (Kd.V_mono (ok' := (fun k_ => ((P0_2_ k_ ∨ P1_2_ k_) ∨ w.heap.size ≤ k_) ∧ k_ ≠ g101 ∧ k_ ≠ g102)) (HO1_2.out) (fun k_ hk => ⟨hk.1.1, ⟨hk.1.2, hk.2⟩⟩))).2.1 (Kd.V_F (Kd.V_mono (ok' := (fun k_ => ((P0_2_ k_ ∨ P1_2_ k_) ∨ w.heap.size ≤ k_) ∧ k_ ≠ g101 ∧ k_ ≠ g102)) (HO1_2.out) (fun k_ hk => ⟨hk.1.1, ⟨hk.1.2, hk.2⟩⟩))))) (Reps.none _ _)))); intro v104 w10 ho11 hb hg_ hnew_; clear hg_ hnew_; (first | rw [← Ny103.out] at ho11 | (simp only [Int.reduceToNat] at ho11; rw [← Ny103.out] at ho11)); replace HO0_2 := aK (Kd.V_elder' (pW HO0_2.out) (Kd.N_base ho11) hb); replace HO1_2 := aK (Kd.V_elder' (pW HO1_2.out) (Kd.N_base ho11) hb); have HO105 := aK (Kd.N_lower ho11 (below_size (pS HB.out))); replace B101 := bB B101 hb; replace B102 := bB B102 hb; replace HB := bS HB hb; clear hb ho11; obtain ⟨Ao12, co12, eo12⟩ := Kd.N_slice HO105.out; subst eo12) | ((with_reducible refine gc 25 rfl ?_); refine gl (some 17) Try.func25 #[.slice Ao12 y103.length co12] ?_; (with_reducible refine (impl_areAlike.calls k _ _ y103 true _ ?side1 ?side2 A3.out).mono ?_); (case side1 => exact pC (Kd.N_reads' HO105.out).2.2); (case side2 => exact (Kd.N_reads' HO105.out).2.1); rintro e w13 ⟨rfl, hb⟩; refine ⟨_, rfl, ?_⟩; replace HO0_2 := vb HO0_2 hb; replace HO1_2 := vb HO1_2 hb; replace HO105 := aK (Kd.N_below (by (with_reducible repeat (first | apply Kd.N_alloc | apply Kd.N_drewN | apply Kd.N_drew)); exact HO105.out) hb); replace B101 := bB B101 hb; replace B102 := bB B102 hb; replace HB := bS HB hb; (try clear hb)))
 go_loopg [6, 7] k (fun kq v6 v7 w' => ∃ (x6_1 : List (S82)) (x7_1 : Int), v7 = .int .i64 x7_1 ∧ Aside0 (impl_RankMotions.l0 kq x6_1 x7_1 a0_0 a0_1 l0_2 a1_0 a1_1 l1_2 = some (r1, r2)) ∧ Aside0 (kq ≤ k) ∧ Aside0 (Kd.R k82 82 w' w.heap.size (fun k_ => (w.heap.size ≤ k_)) v6 x6_1) ∧ Aside0 (Kd.V (Kd.int .i64) 3 w' w.heap.size (fun k_ => ((P0_2_ k_ ∨ P1_2_ k_) ∨ w.heap.size ≤ k_) ∧ some k_ ≠ (v6 : Value).ownBlock ∧ k_ ≠ g101 ∧ k_ ≠ g102) (.slice A0_2 l0_2.length c0_2) l0_2) ∧ Aside0 (Kd.V (Kd.int .i64) 3 w' w.heap.size (fun k_ => ((P0_2_ k_ ∨ P1_2_ k_) ∨ w.heap.size ≤ k_) ∧ some k_ ≠ (v6 : Value).ownBlock ∧ k_ ≠ g101 ∧ k_ ≠ g102) (.slice A1_2 l1_2.length c1_2) l1_2) ∧ Aside0 (w'.heap[g101]? = some (.cells #[.int .i64 a0_0, .int .i64 a0_1, (.slice A0_2 l0_2.length c0_2)] 26 (0, 0))) ∧ Aside0 (w'.heap[g102]? = some (.cells #[.int .i64 a1_0, .int .i64 a1_1, (.slice A1_2 l1_2.length c1_2)] 26 (0, 0))) ∧ Aside0 (Below w.heap.size w w'))
 case atStart => exact ⟨(([] : List (S82))), ((-2)), (by first | rfl | (simp; done) | (simp [*]; done)), H', ⟨Nat.le_refl _⟩, ⟨by first | exact Kd.R_nil _ _ _ _ _ | exact Kd.N_nil _ _ _ _ _ | exact Kd.V_nil _ _ _ _ _ | exact Kd.Q_nil _ _ _ _ _ | exact Kd.S_nil _ _ _ _ _⟩, ⟨by (with_reducible repeat (first | apply Kd.V_alloc | apply Kd.V_drewN | apply Kd.V_drew)); exact Kd.V_mono HO0_2.out (fun _ hk => ⟨hk.1.1.1, ⟨(by simp [Value.ownBlock]), ⟨hk.1.1.2, hk.1.2⟩⟩⟩)⟩, ⟨by (with_reducible repeat (first | apply Kd.V_alloc | apply Kd.V_drewN | apply Kd.V_drew)); exact Kd.V_mono HO1_2.out (fun _ hk => ⟨hk.1.1.1, ⟨(by simp [Value.ownBlock]), ⟨hk.1.1.2, hk.1.2⟩⟩⟩)⟩, ⟨by refine bk ?_; exact B101.out⟩, ⟨by refine bk ?_; exact B102.out⟩, ⟨pT HB.out⟩⟩
 case round =>
 clear H'
 clear z8_0 z8_1 z8_2 z9_0 z9_1 z9_2 y8_0 y8_1 y8_2 y9_0 y9_1 y9_2
 obtain ⟨x6_1, x7_1, rfl, HA, HK1, HO_6, O0, O1, B101, B102, HB⟩ := hrel
 cases gk with
 | zero => exact absurd HA.out (by simp [impl_RankMotions.l0])
 | succ k1 =>
 have H := HA.out
 clear HA
 simp only [impl_RankMotions.l0] at H
 by_cases c14 : x7_1 ≤ 2
 ·
  rw [if_pos c14] at H
  have c14b0 : decide (x7_1 ≤ 2) = true := decide_eq_true c14
  clear c14; have H' := aK H; clear H
  go_wp2
  go_loopg [6, 8] k1 (fun kq v6 v8 w' => ∃ (x6_2 : List (S82)) (x8_2 : Int), v8 = .int .i64 x8_2 ∧ Aside0 (impl_RankMotions.l1 kq x6_2 x7_1 x8_2 a0_0 a0_1 l0_2 a1_0 a1_1 l1_2 = some (r1, r2)) ∧ Aside0 (kq ≤ k1) ∧ Aside0 (Kd.R k82 82 w' w.heap.size (fun k_ => (w.heap.size ≤ k_)) v6 x6_2) ∧ Aside0 (Kd.V (Kd.int .i64) 3 w' w.heap.size (fun k_ => ((P0_2_ k_ ∨ P1_2_ k_) ∨ w.heap.size ≤ k_) ∧ some k_ ≠ (v6 : Value).ownBlock ∧ k_ ≠ g101 ∧ k_ ≠ g102) (.slice A0_2 l0_2.length c0_2) l0_2) ∧ Aside0 (Kd.V (Kd.int .i64) 3 w' w.heap.size (fun k_ => ((P0_2_ k_ ∨ P1_2_ k_) ∨ w.heap.size ≤ k_) ∧ some k_ ≠ (v6 : Value).ownBlock ∧ k_ ≠ g101 ∧ k_ ≠ g102) (.slice A1_2 l1_2.length c1_2) l1_2) ∧ Aside0 (w'.heap[g101]? = some (.cells #[.int .i64 a0_0, .int .i64 a0_1, (.slice A0_2 l0_2.length c0_2)] 26 (0, 0))) ∧ Aside0 (w'.heap[g102]? = some (.cells #[.int .i64 a1_0, .int .i64 a1_1, (.slice A1_2 l1_2.length c1_2)] 26 (0, 0))) ∧ Aside0 (Below w.heap.size w w'))
  case atStart => exact ⟨(x6_1), ((-2)), (by first | rfl | (simp; done) | (simp [*]; done)), H', ⟨Nat.le_refl _⟩, ⟨pR HO_6.out⟩, ⟨by (with_reducible repeat (first | apply Kd.V_alloc | apply Kd.V_drewN | apply Kd.V_drew)); exact O0.out⟩, ⟨by (with_reducible repeat (first | apply Kd.V_alloc | apply Kd.V_drewN | apply Kd.V_drew)); exact O1.out⟩, ⟨by refine bk ?_; exact B101.out⟩, ⟨by refine bk ?_; exact B102.out⟩, ⟨pT HB.out⟩⟩
  case round =>
  clear H'; clear c14b0; obtain ⟨x6_2, x8_2, rfl, HA, HK2, HO_6, O0, O1, B101, B102, HB⟩ := hrel
  cases gk with
  | zero => exact absurd HA.out (by simp [impl_RankMotions.l1])
  | succ k2 =>
  have H := HA.out; clear HA
  simp only [impl_RankMotions.l1] at H
  by_cases c15 : x8_2 ≤ 2
  rotate_left
  ·
   rw [if_neg c15] at H
   have c15b0 : decide (x8_2 ≤ 2) = false := decide_eq_false c15
   clear c15; have H' := aK H; clear H
   go_wp2
   go_roundg k2
   case measure => have := HK1.out; have := HK2.out; omega
   case rel => exact ⟨(x6_2), (wrap64 (x7_1 + 1)), (by first | rfl | (simp; done) | (simp [*]; done)), H', ⟨by have := HK1.out; have := HK2.out; omega⟩, ⟨pR HO_6.out⟩, ⟨by (with_reducible repeat (first | apply Kd.V_alloc | apply Kd.V_drewN | apply Kd.V_drew)); exact O0.out⟩, ⟨by (with_reducible repeat (first | apply Kd.V_alloc | apply Kd.V_drewN | apply Kd.V_drew)); exact O1.out⟩, ⟨by refine bk ?_; exact B101.out⟩, ⟨by refine bk ?_; exact B102.out⟩, ⟨pT HB.out⟩⟩
  rw [if_pos c15] at H
  have c15b0 : decide (x8_2 ≤ 2) = true := decide_eq_true c15
  clear c15; replace H := oA H
  obtain ⟨⟨t107, t108⟩, A16, H⟩ := H
  replace H : (if t108 ≥ 1 then (if (wrap64 (2 * t108)) ≥ (l0_2.length : Int) then (if x6_2.length < 4398046511104 then (impl_RankMotions.l1 k2 (x6_2 ++ [(⟨(⟨x8_2, x7_1⟩ : S28), t107, t108⟩ : S82)]) x7_1 (wrap64 (x8_2 + 1)) a0_0 a0_1 l0_2 a1_0 a1_1 l1_2) else (none)) else (impl_RankMotions.l1 k2 x6_2 x7_1 (wrap64 (x8_2 + 1)) a0_0 a0_1 l0_2 a1_0 a1_1 l1_2)) else (impl_RankMotions.l1 k2 x6_2 x7_1 (wrap64 (x8_2 + 1)) a0_0 a0_1 l0_2 a1_0 a1_1 l1_2)) = some (r1, r2) := H
  by_cases c17 : t108 ≥ 1
  rotate_left
  ·
   rw [if_neg c17] at H
   have c17b0 : decide (1 ≤ t108) = false := decide_eq_false c17
   clear c17; have H' := aK H; clear H; obtain ⟨_, _⟩ := nB N101_102; obtain ⟨_, _, _, _, _, _⟩ := bc3 B101.out; obtain ⟨_, _, _, _, _, _⟩ := bc3 B102.out
   go_wp2_with (first | ((with_reducible refine gc 26 rfl ?_); refine gl (some 33) Try.func26 #[.agg #[.int .i64 a0_0, .int .i64 a0_1, .slice A0_2 l0_2.length c0_2], .agg #[.int .i64 a1_0, .int .i64 a1_1, .slice A1_2 l1_2.length c1_2], .agg #[.int .i64 x8_2, .int .i64 x7_1]] ?_; (with_reducible refine (impl_matchOf.calls k2 a0_0 a0_1 _ _ l0_2 a1_0 a1_1 _ _ l1_2 x8_2 x7_1 t107 t108 _ ?side1 ?side2 ?side3 ?side4 A16.out).mono ?_); (case side1 => exact pC (Kd.V_reads' O0.out).2.2); (case side2 => exact (Kd.V_reads' O0.out).2.1); (case side3 => exact pC (Kd.V_reads' O1.out).2.2); (case side4 => exact (Kd.V_reads' O1.out).2.1); rintro e w34 ⟨rfl, hb⟩; refine ⟨_, rfl, ?_⟩; replace HO_6 := rb HO_6 hb; replace O0 := vb O0 hb; replace O1 := vb O1 hb; replace B101 := bB B101 hb; replace B102 := bB B102 hb; replace HB := bS HB hb; (try clear hb)))
   go_roundg k2
   case measure => have := HK1.out; have := HK2.out; omega
   case rel => exact ⟨(x6_2), (wrap64 (x8_2 + 1)), (by first | rfl | (simp; done) | (simp [*]; done)), H', ⟨by have := HK1.out; have := HK2.out; omega⟩, ⟨pR HO_6.out⟩, ⟨by (with_reducible repeat (first | apply Kd.V_alloc | apply Kd.V_drewN | apply Kd.V_drew)); exact O0.out⟩, ⟨by (with_reducible repeat (first | apply Kd.V_alloc | apply Kd.V_drewN | apply Kd.V_drew)); exact O1.out⟩, ⟨by refine bk ?_; exact B101.out⟩, ⟨by refine bk ?_; exact B102.out⟩, ⟨pT HB.out⟩⟩
  rw [if_pos c17] at H
  have c17b0 : decide (1 ≤ t108) = true := decide_eq_true c17
  clear c17
  by_cases c18 : (wrap64 (2 * t108)) ≥ (l0_2.length : Int)
  rotate_left
  ·
   rw [if_neg c18] at H
   have c18b0 : decide ((l0_2.length : Int) ≤ (wrap64 (2 * t108))) = false := decide_eq_false c18
   clear c18; have H' := aK H; clear H; obtain ⟨_, _⟩ := nB N101_102; obtain ⟨_, _, _, _, _, _⟩ := bc3 B101.out; obtain ⟨_, _, _, _, _, _⟩ := bc3 B102.out
   go_wp2_with (first | ((with_reducible refine gc 26 rfl ?_); refine gl (some 33) Try.func26 #[.agg #[.int .i64 a0_0, .int .i64 a0_1, .slice A0_2 l0_2.length c0_2], .agg #[.int .i64 a1_0, .int .i64 a1_1, .slice A1_2 l1_2.length c1_2], .agg #[.int .i64 x8_2, .int .i64 x7_1]] ?_; (with_reducible refine (impl_matchOf.calls k2 a0_0 a0_1 _ _ l0_2 a1_0 a1_1 _ _ l1_2 x8_2 x7_1 t107 t108 _ ?side1 ?side2 ?side3 ?side4 A16.out).mono ?_); (case side1 => exact pC (Kd.V_reads' O0.out).2.2); (case side2 => exact (Kd.V_reads' O0.out).2.1); (case side3 => exact pC (Kd.V_reads' O1.out).2.2); (case side4 => exact (Kd.V_reads' O1.out).2.1); rintro e w29 ⟨rfl, hb⟩; refine ⟨_, rfl, ?_⟩; replace HO_6 := rb HO_6 hb; replace O0 := vb O0 hb; replace O1 := vb O1 hb; replace B101 := bB B101 hb; replace B102 := bB B102 hb; replace HB := bS HB hb; (try clear hb); obtain ⟨_, _, _, _, _, _⟩ := bc3 B101.out))
   go_roundg k2
   case measure => have := HK1.out; have := HK2.out; omega
   case rel => exact ⟨(x6_2), (wrap64 (x8_2 + 1)), (by first | rfl | (simp; done) | (simp [*]; done)), H', ⟨by have := HK1.out; have := HK2.out; omega⟩, ⟨pR HO_6.out⟩, ⟨by (with_reducible repeat (first | apply Kd.V_alloc | apply Kd.V_drewN | apply Kd.V_drew)); exact O0.out⟩, ⟨by (with_reducible repeat (first | apply Kd.V_alloc | apply Kd.V_drewN | apply Kd.V_drew)); exact O1.out⟩, ⟨by refine bk ?_; exact B101.out⟩, ⟨by refine bk ?_; exact B102.out⟩, ⟨pT HB.out⟩⟩
  rw [if_pos c18] at H
  have c18b0 : decide ((l0_2.length : Int) ≤ (wrap64 (2 * t108))) = true := decide_eq_true c18
  clear c18
  by_cases c19 : x6_2.length < 4398046511104
  rotate_left
  ·
   rw [if_neg c19] at H
   exact absurd H (by simp)
  rw [if_pos c19] at H; have LMc19 := aK c19; clear c19
  obtain ⟨y109, hy109⟩ : ∃ y_ : List (S82), y_ = (x6_2 ++ [(⟨(⟨x8_2, x7_1⟩ : S28), t107, t108⟩ : S82)]) := ⟨_, rfl⟩
  replace H : (impl_RankMotions.l1 k2 y109 x7_1 (wrap64 (x8_2 + 1)) a0_0 a0_1 l0_2 a1_0 a1_1 l1_2) = some (r1, r2) := by first | (rw [hy109]; first | with_reducible exact H | with_reducible exact (oS H :)) | with_reducible exact (oS H :) | with_reducible exact H | exact H
  have Ny109 := aK hy109; clear hy109; have H' := aK H; clear H; obtain ⟨_, _⟩ := nB N101_102; obtain ⟨_, _, _, _, _, _⟩ := bc3 B101.out; obtain ⟨_, _, _, _, _, _⟩ := bc3 B102.out
  go_wp2_with (first | ((with_reducible refine gc 26 rfl ?_); refine gl (some 33) Try.func26 #[.agg #[.int .i64 a0_0, .int .i64 a0_1, .slice A0_2 l0_2.length c0_2], .agg #[.int .i64 a1_0, .int .i64 a1_1, .slice A1_2 l1_2.length c1_2], .agg #[.int .i64 x8_2, .int .i64 x7_1]] ?_; (with_reducible refine (impl_matchOf.calls k2 a0_0 a0_1 _ _ l0_2 a1_0 a1_1 _ _ l1_2 x8_2 x7_1 t107 t108 _ ?side1 ?side2 ?side3 ?side4 A16.out).mono ?_); (case side1 => exact pC (Kd.V_reads' O0.out).2.2); (case side2 => exact (Kd.V_reads' O0.out).2.1); (case side3 => exact pC (Kd.V_reads' O1.out).2.2); (case side4 => exact (Kd.V_reads' O1.out).2.1); rintro e w23 ⟨rfl, hb⟩; refine ⟨_, rfl, ?_⟩; replace HO_6 := rb HO_6 hb; replace O0 := vb O0 hb; replace O1 := vb O1 hb; replace B101 := bB B101 hb; replace B102 := bB B102 hb; replace HB := bS HB hb; (try clear hb); obtain ⟨_, _, _, _, _, _⟩ := bc3 B101.out) | ((with_reducible refine gate_builtin (b := .append) (xs := #[.tmp 46, .tmp 53]) rfl ?_); (try (refine gate_guard (by rfl) ?_; dsimp only)); at_builtin; refine Kd.R_append k82 (w0 := w) w.heap.size rfl (.tmp 46) (.tmp 53) 80 82 (.agg #[(.int .i64 0), (.int .i64 0), (.int .i64 0), (.int .i64 0)]) 32 rfl Try.underlying80 info82 rfl (by decide) (by omega) u6 x6_2 (⟨(⟨x8_2, x7_1⟩ : S28), t107, t108⟩ : S82) [.int .i64 x8_2, .int .i64 x7_1, .int .i64 t107, .int .i64 t108] (fun k_ => (w.heap.size ≤ k_)) (fun _ => False) rfl rfl ?aP (fun _ hk => hk.elim) ?aF ?aO ?aB ?aS ?aL ?_; (case aP => exact k82_mkM _ _ _ (⟨(⟨x8_2, x7_1⟩ : S28), t107, t108⟩ : S82)); (case aB => exact (pS HB.out)); (case aF => exact (fun k_ hk => (Nat.le_trans (below_size (pS HB.out)) hk))); (case aO => exact (pR HO_6.out)); (case aS => exact (below_size (pS HB.out))); (case aL => have := LMc19.out; omega); intro v110 w25 ho hb hg hat; rw [← Ny109.out] at ho; replace O0 := aK (Kd.V_afterv (ok := (fun k_ => ((P0_2_ k_ ∨ P1_2_ k_) ∨ w.heap.size ≤ k_) ∧ k_ ≠ g101 ∧ k_ ≠ g102)) (pW (Kd.V_mono O0.out (fun _ hk => ⟨⟨hk.1, ⟨hk.2.2.1, hk.2.2.2⟩⟩, hk.2.1⟩))) hg hat); replace O1 := aK (Kd.V_afterv (ok := (fun k_ => ((P0_2_ k_ ∨ P1_2_ k_) ∨ w.heap.size ≤ k_) ∧ k_ ≠ g101 ∧ k_ ≠ g102)) (pW (Kd.V_mono O1.out (fun _ hk => ⟨⟨hk.1, ⟨hk.2.2.1, hk.2.2.2⟩⟩, hk.2.1⟩))) hg hat); replace B101 := aK (blk_grown (pB B101.out) hg (Kd.R_ne HO_6.out B101.out (by decide))); replace B102 := aK (blk_grown (pB B102.out) hg (Kd.R_ne HO_6.out B102.out (by decide))); replace HB := aK (hb); have HO111 := aK (ho); clear HO_6; clear ho hb hg hat))
  go_roundg k2
  case measure => have := HK1.out; have := HK2.out; omega
  case rel => exact ⟨(y109), (wrap64 (x8_2 + 1)), (by first | rfl | (simp; done) | (simp [*]; done)), H', ⟨by have := HK1.out; have := HK2.out; omega⟩, ⟨pR HO111.out⟩, ⟨by (with_reducible repeat (first | apply Kd.V_alloc | apply Kd.V_drewN | apply Kd.V_drew)); exact Kd.V_mono O0.out (fun _ hk => ⟨hk.1.1, ⟨hk.2, ⟨hk.1.2.1, hk.1.2.2⟩⟩⟩)⟩, ⟨by (with_reducible repeat (first | apply Kd.V_alloc | apply Kd.V_drewN | apply Kd.V_drew)); exact Kd.V_mono O1.out (fun _ hk => ⟨hk.1.1, ⟨hk.2, ⟨hk.1.2.1, hk.1.2.2⟩⟩⟩)⟩, ⟨by refine bk ?_; exact B101.out⟩, ⟨by refine bk ?_; exact B102.out⟩, ⟨pT HB.out⟩⟩
 rw [if_neg c14] at H
 have c14b0 : decide (x7_1 ≤ 2) = false := decide_eq_false c14
 clear c14
 replace H := oA H
 obtain ⟨t112, A35, H⟩ := H
 replace H : (impl_RankMotions.l2 k1 ([] : List (S28)) t112 (x6_1.length : Int) 0) = some (r1, r2) := H
 have H' := aK H
 clear H
 obtain ⟨Ao36, co36, eo36⟩ := Kd.R_slice HO_6.out
 subst eo36
 go_wp2_with (first | ((with_reducible refine gc 56 rfl ?_); refine gl (some 56) Try.func56 #[.slice Ao36 x6_1.length co36, .func (.func 57) #[] #[]] ?_; (with_reducible refine (slices_SortFunc_ranked_at_impl_RankMotions_1.calls (fun k_ => some k_ = (.slice Ao36 x6_1.length co36 : Value).ownBlock) (.slice Ao36 x6_1.length co36) x6_1 t112 w _ ?side1 ?side2 A35.out).mono ?_); (case side1 => exact pT HB.out); (case side2 => exact Kd.R_tight rfl HO_6.out); rintro e w37 ⟨rfl, hy0, hb, hkp⟩; refine ⟨_, rfl, ?_⟩; have n0_ := aK (Kd.R_reok rfl hy0 (fun k_ e_ => HO_6.out.1 k_ e_)); replace O0 := aK (Kd.V_mono (ok' := fun k_ => ((P0_2_ k_ ∨ P1_2_ k_) ∨ w.heap.size ≤ k_) ∧ some k_ ≠ (.slice Ao36 x6_1.length co36 : Value).ownBlock ∧ k_ ≠ g101 ∧ k_ ≠ g102) (Kd.V_keptB (O0.out) hkp (fun k_ hk_ hs_ => (hk_.2.1) hs_)) (fun k_ hk_ => ⟨hk_.1.1, hk_.1.2.1, hk_.1.2.2.1, hk_.1.2.2.2⟩)); replace O1 := aK (Kd.V_mono (ok' := fun k_ => ((P0_2_ k_ ∨ P1_2_ k_) ∨ w.heap.size ≤ k_) ∧ some k_ ≠ (.slice Ao36 x6_1.length co36 : Value).ownBlock ∧ k_ ≠ g101 ∧ k_ ≠ g102) (Kd.V_keptB (O1.out) hkp (fun k_ hk_ hs_ => (hk_.2.1) hs_)) (fun k_ hk_ => ⟨hk_.1.1, hk_.1.2.1, hk_.1.2.2.1, hk_.1.2.2.2⟩)); replace B101 := aK (blk_kept (pB B101.out) hkp (fun hs_ => (fun e_ => (Kd.R_ne HO_6.out B101.out (by decide)) e_) hs_)); replace B102 := aK (blk_kept (pB B102.out) hkp (fun hs_ => (fun e_ => (Kd.R_ne HO_6.out B102.out (by decide)) e_) hs_)); replace HB := aK (hb); clear HO_6; have HO_6 := n0_; clear n0_; (try clear hb); (try clear hkp); (try clear hy0)))
 go_loopg [11, 59] k1 (fun kq v11 v59 w' => ∃ (x11_2 : List (S28)) (x59_2 : Int), v59 = .int .i64 x59_2 ∧ Aside0 (impl_RankMotions.l2 kq x11_2 t112 (x6_1.length : Int) x59_2 = some (r1, r2)) ∧ Aside0 (kq ≤ k1) ∧ Aside0 (Kd.R k28 28 w' w.heap.size (fun k_ => (w.heap.size ≤ k_)) v11 x11_2) ∧ Aside0 (Kd.R k82 82 w' w.heap.size (fun k_ => (w.heap.size ≤ k_)) (.slice Ao36 x6_1.length co36) t112) ∧ Aside0 (Kd.V (Kd.int .i64) 3 w' w.heap.size (fun k_ => ((P0_2_ k_ ∨ P1_2_ k_) ∨ w.heap.size ≤ k_) ∧ some k_ ≠ (v11 : Value).ownBlock ∧ some k_ ≠ ((.slice Ao36 x6_1.length co36) : Value).ownBlock ∧ k_ ≠ g101 ∧ k_ ≠ g102) (.slice A0_2 l0_2.length c0_2) l0_2) ∧ Aside0 (Kd.V (Kd.int .i64) 3 w' w.heap.size (fun k_ => ((P0_2_ k_ ∨ P1_2_ k_) ∨ w.heap.size ≤ k_) ∧ some k_ ≠ (v11 : Value).ownBlock ∧ some k_ ≠ ((.slice Ao36 x6_1.length co36) : Value).ownBlock ∧ k_ ≠ g101 ∧ k_ ≠ g102) (.slice A1_2 l1_2.length c1_2) l1_2) ∧ Aside0 (w'.heap[g101]? = some (.cells #[.int .i64 a0_0, .int .i64 a0_1, (.slice A0_2 l0_2.length c0_2)] 26 (0, 0))) ∧ Aside0 (w'.heap[g102]? = some (.cells #[.int .i64 a1_0, .int .i64 a1_1, (.slice A1_2 l1_2.length c1_2)] 26 (0, 0))) ∧ Aside0 (Below w.heap.size w w'))
 case atStart => exact ⟨(([] : List (S28))), (0), (by first | rfl | (simp; done) | (simp [*]; done)), H', ⟨Nat.le_refl _⟩, ⟨by first | exact Kd.R_nil _ _ _ _ _ | exact Kd.N_nil _ _ _ _ _ | exact Kd.V_nil _ _ _ _ _ | exact Kd.Q_nil _ _ _ _ _ | exact Kd.S_nil _ _ _ _ _⟩, ⟨pR HO_6.out⟩, ⟨by (with_reducible repeat (first | apply Kd.V_alloc | apply Kd.V_drewN | apply Kd.V_drew)); exact Kd.V_mono O0.out (fun _ hk => ⟨hk.1, ⟨(by simp [Value.ownBlock]), ⟨hk.2.1, ⟨hk.2.2.1, hk.2.2.2⟩⟩⟩⟩)⟩, ⟨by (with_reducible repeat (first | apply Kd.V_alloc | apply Kd.V_drewN | apply Kd.V_drew)); exact Kd.V_mono O1.out (fun _ hk => ⟨hk.1, ⟨(by simp [Value.ownBlock]), ⟨hk.2.1, ⟨hk.2.2.1, hk.2.2.2⟩⟩⟩⟩)⟩, ⟨by refine bk ?_; exact B101.out⟩, ⟨by refine bk ?_; exact B102.out⟩, ⟨pT HB.out⟩⟩
 case round =>
 clear H'
 clear c14b0
 obtain ⟨x11_2, x59_2, rfl, HA, HK2, HO_11, HO_57, O0, O1, B101, B102, HB⟩ := hrel
 have hl57_2 := (Kd.R_reads' HO_57.out).1
 rw [hl57_2] at HO_57
 (try simp only [hl57_2])
 (try simp only [hl57_2] at B101)
 (try simp only [hl57_2] at B102)
 (try simp only [hl57_2] at HO_11)
 (try simp only [hl57_2] at O0)
 (try simp only [hl57_2] at O1)
 cases gk with
 | zero => exact absurd HA.out (by simp [impl_RankMotions.l2])
 | succ k2 =>
 have H := HA.out
 clear HA
 simp only [impl_RankMotions.l2] at H
 by_cases c38 : x59_2 < (x6_1.length : Int)
 rotate_left
 ·
  rw [if_neg c38] at H
  have c38b0 : decide (x59_2 < (x6_1.length : Int)) = false := decide_eq_false c38
  (try simp only [hl57_2] at c38b0)
  clear c38
  simp only [Option.some.injEq, Prod.mk.injEq] at H
  obtain ⟨rfl, rfl⟩ := H
  go_wp2
  go_ret2
  exact ⟨_, er, by (with_reducible repeat (first | apply Kd.R_alloc | apply Kd.R_drewN | apply Kd.R_drew)); exact HO_11.out, pT HB.out⟩
 rw [if_pos c38] at H
 have c38b0 : decide (x59_2 < (x6_1.length : Int)) = true := decide_eq_true c38
 (try simp only [hl57_2] at c38b0)
 clear c38
 by_cases c39 : 0 ≤ x59_2
 rotate_left
 ·
  rw [if_neg c39] at H
  exact absurd H (by simp)
 rw [if_pos c39] at H
 have c39b0 : decide (0 ≤ x59_2) = true := decide_eq_true c39
 clear c39
 by_cases c40 : x59_2 < (t112.length : Int)
 rotate_left
 ·
  rw [if_neg c40] at H
  exact absurd H (by simp)
 rw [if_pos c40] at H
 have c40b0 : decide (x59_2 < (t112.length : Int)) = true := decide_eq_true c40
 (try simp only [hl57_2] at c40b0)
 clear c40
 by_cases c41 : x11_2.length < 8796093022208
 rotate_left
 ·
  rw [if_neg c41] at H
  exact absurd H (by simp)
 rw [if_pos c41] at H
 have LMc41 := aK c41
 clear c41
 obtain ⟨y115, hy115⟩ : ∃ y_ : List (S28), y_ = (x11_2 ++ [(⟨(rd_T82 t112 x59_2).f0.f0, (rd_T82 t112 x59_2).f0.f1⟩ : S28)]) := ⟨_, rfl⟩
 replace H : (impl_RankMotions.l2 k2 y115 t112 (x6_1.length : Int) (wrap64 (x59_2 + 1))) = some (r1, r2) := by first | (rw [hy115]; first | with_reducible exact H | with_reducible exact (oS H :)) | with_reducible exact (oS H :) | with_reducible exact H | exact H
 have Ny115 := aK hy115
 clear hy115
 have H' := aK H
 clear H
 have p113 : 0 ≤ (x59_2 : Int) := dA
 have q113 : x59_2 < (t112.length : Int) := dA
 obtain ⟨ad113, e113, hx113_0, hx113_1, hx113_2, hx113_3⟩ := at_T82 (Kd.R_reads' HO_57.out).2.2 x59_2 p113 q113
 cases e113
 replace p113 := eq_true p113
 replace q113 := eq_true q113
 go_wp2_with (first | ((with_reducible refine ga 13 rfl ?_); (try (refine gate_guard (by rfl) ?_; dsimp only)); refine bxa #[.int .i64 0, .int .i64 0, .int .i64 0, .int .i64 0] 82 ?_; intro g114 hg w42 B114 hb; replace HO_11 := rb HO_11 hb; replace HO_57 := aK (Kd.R_below (Kd.R_elderB (pR HO_57.out) g114 (Nat.le_of_eq hg.symm)) hb); replace O0 := aK (Kd.V_below (Kd.V_elderB (pW O0.out) g114 (Nat.le_of_eq hg.symm)) hb); replace O1 := aK (Kd.V_below (Kd.V_elderB (pW O1.out) g114 (Nat.le_of_eq hg.symm)) hb); have GW114 := gA hg HB; obtain ⟨N101_114, N114_101⟩ := na hg B101; obtain ⟨N102_114, N114_102⟩ := na hg B102; replace B101 := bB B101 hb; replace B102 := bB B102 hb; replace HB := bS HB hb; clear hb hg; obtain ⟨_, _⟩ := nB N114_101; obtain ⟨_, _⟩ := nB N114_102; obtain ⟨_, _, _, _, _, _, _, _⟩ := bc4 B114.out) | ((with_reducible refine gate_builtin (b := .append) (xs := #[.tmp 63, .tmp 66]) rfl ?_); (try (refine gate_guard (by rfl) ?_; dsimp only)); at_builtin; refine Kd.R_append k28 (w0 := w) w.heap.size rfl (.tmp 63) (.tmp 66) 64 28 (.agg #[(.int .i64 0), (.int .i64 0)]) 16 rfl Try.underlying64 info28 rfl (by decide) (by omega) u11 x11_2 (⟨(rd_T82 t112 x59_2).f0.f0, (rd_T82 t112 x59_2).f0.f1⟩ : S28) [.int .i64 ((rd_T82 t112 x59_2).f0.f0), .int .i64 ((rd_T82 t112 x59_2).f0.f1)] (fun k_ => (w.heap.size ≤ k_)) (fun _ => False) rfl (by first | (go_simp; done) | (go_simp; rfl)) ?aP (fun _ hk => hk.elim) ?aF ?aO ?aB ?aS ?aL ?_; (case aP => exact k28_mkM _ _ _ (⟨(rd_T82 t112 x59_2).f0.f0, (rd_T82 t112 x59_2).f0.f1⟩ : S28)); (case aB => exact (pS HB.out)); (case aF => exact (fun k_ hk => (Nat.le_trans (below_size (pS HB.out)) hk))); (case aO => exact (pR (Kd.R_mono (Kd.R_far (p := ⟨g114, 3, none⟩) (Kd.R_far (p := ⟨g114, 2, none⟩) (Kd.R_far (p := ⟨g114, 1, none⟩) (Kd.R_far (p := ⟨g114, 0, none⟩) (Kd.R_types HO_11.out B114.out (by decide)) (fun _ hk => hk.2) (.int .i64 ((rd_T82 t112 x59_2).f0.f0))) (fun _ hk => hk.2) (.int .i64 ((rd_T82 t112 x59_2).f0.f1))) (fun _ hk => hk.2) (.int .i64 ((rd_T82 t112 x59_2).f1))) (fun _ hk => hk.2) (.int .i64 ((rd_T82 t112 x59_2).f2))) (fun _ hk => hk.1)))); (case aS => exact (below_size (pS HB.out))); (case aL => have := LMc41.out; omega); intro v116 w46 ho hb hg hat; rw [← Ny115.out] at ho; replace HO_57 := aK (Kd.R_over' (pR ((Kd.R_mono (Kd.R_far (p := ⟨g114, 3, none⟩) (Kd.R_far (p := ⟨g114, 2, none⟩) (Kd.R_far (p := ⟨g114, 1, none⟩) (Kd.R_far (p := ⟨g114, 0, none⟩) (Kd.R_mono HO_57.out (fun k_ hk => (⟨hk, hk.2⟩ : _ ∧ k_ ≠ g114))) (fun _ hk => hk.2) (.int .i64 ((rd_T82 t112 x59_2).f0.f0))) (fun _ hk => hk.2) (.int .i64 ((rd_T82 t112 x59_2).f0.f1))) (fun _ hk => hk.2) (.int .i64 ((rd_T82 t112 x59_2).f1))) (fun _ hk => hk.2) (.int .i64 ((rd_T82 t112 x59_2).f2))) (fun _ h_ => h_.1)))) (Kd.R_typed (pR ((Kd.R_mono (Kd.R_far (p := ⟨g114, 3, none⟩) (Kd.R_far (p := ⟨g114, 2, none⟩) (Kd.R_far (p := ⟨g114, 1, none⟩) (Kd.R_far (p := ⟨g114, 0, none⟩) (Kd.R_types HO_11.out B114.out (by decide)) (fun _ hk => hk.2) (.int .i64 ((rd_T82 t112 x59_2).f0.f0))) (fun _ hk => hk.2) (.int .i64 ((rd_T82 t112 x59_2).f0.f1))) (fun _ hk => hk.2) (.int .i64 ((rd_T82 t112 x59_2).f1))) (fun _ hk => hk.2) (.int .i64 ((rd_T82 t112 x59_2).f2))) (fun _ h_ => h_.1))))) (by decide) hg); replace O0 := aK (Kd.V_afterv (ok := (fun k_ => ((P0_2_ k_ ∨ P1_2_ k_) ∨ w.heap.size ≤ k_) ∧ some k_ ≠ (.slice (some ad113) t112.length co36 : Value).ownBlock ∧ k_ ≠ g101 ∧ k_ ≠ g102 ∧ k_ ≠ g114)) (pW (Kd.V_mono (Kd.V_far (p := ⟨g114, 3, none⟩) (Kd.V_far (p := ⟨g114, 2, none⟩) (Kd.V_far (p := ⟨g114, 1, none⟩) (Kd.V_far (p := ⟨g114, 0, none⟩) (Kd.V_mono O0.out (fun k_ hk => (⟨hk, hk.2⟩ : _ ∧ k_ ≠ g114))) (fun _ hk => hk.2) (.int .i64 ((rd_T82 t112 x59_2).f0.f0))) (fun _ hk => hk.2) (.int .i64 ((rd_T82 t112 x59_2).f0.f1))) (fun _ hk => hk.2) (.int .i64 ((rd_T82 t112 x59_2).f1))) (fun _ hk => hk.2) (.int .i64 ((rd_T82 t112 x59_2).f2))) (fun _ hk => ⟨⟨hk.1.1.1, ⟨hk.1.1.2.2.1, ⟨hk.1.1.2.2.2.1, ⟨hk.1.1.2.2.2.2, hk.1.2⟩⟩⟩⟩, hk.1.1.2.1⟩))) hg hat); replace O1 := aK (Kd.V_afterv (ok := (fun k_ => ((P0_2_ k_ ∨ P1_2_ k_) ∨ w.heap.size ≤ k_) ∧ some k_ ≠ (.slice (some ad113) t112.length co36 : Value).ownBlock ∧ k_ ≠ g101 ∧ k_ ≠ g102 ∧ k_ ≠ g114)) (pW (Kd.V_mono (Kd.V_far (p := ⟨g114, 3, none⟩) (Kd.V_far (p := ⟨g114, 2, none⟩) (Kd.V_far (p := ⟨g114, 1, none⟩) (Kd.V_far (p := ⟨g114, 0, none⟩) (Kd.V_mono O1.out (fun k_ hk => (⟨hk, hk.2⟩ : _ ∧ k_ ≠ g114))) (fun _ hk => hk.2) (.int .i64 ((rd_T82 t112 x59_2).f0.f0))) (fun _ hk => hk.2) (.int .i64 ((rd_T82 t112 x59_2).f0.f1))) (fun _ hk => hk.2) (.int .i64 ((rd_T82 t112 x59_2).f1))) (fun _ hk => hk.2) (.int .i64 ((rd_T82 t112 x59_2).f2))) (fun _ hk => ⟨⟨hk.1.1.1, ⟨hk.1.1.2.2.1, ⟨hk.1.1.2.2.2.1, ⟨hk.1.1.2.2.2.2, hk.1.2⟩⟩⟩⟩, hk.1.1.2.1⟩))) hg hat); replace B101 := aK (blk_grown (g := g101) (o := .cells #[.int .i64 a0_0, .int .i64 a0_1, .slice A0_2 l0_2.length c0_2] 26 (0, 0)) (by refine bg N101_114 ?_; refine bg N101_114 ?_; refine bg N101_114 ?_; refine bg N101_114 ?_; refine bk ?_; exact B101.out) hg (Kd.R_ne HO_11.out B101.out (by decide))); replace B102 := aK (blk_grown (g := g102) (o := .cells #[.int .i64 a1_0, .int .i64 a1_1, .slice A1_2 l1_2.length c1_2] 26 (0, 0)) (by refine bg N102_114 ?_; refine bg N102_114 ?_; refine bg N102_114 ?_; refine bg N102_114 ?_; refine bk ?_; exact B102.out) hg (Kd.R_ne HO_11.out B102.out (by decide))); replace B114 := aK (blk_grown (g := g114) (o := .cells #[.int .i64 ((rd_T82 t112 x59_2).f0.f0), .int .i64 ((rd_T82 t112 x59_2).f0.f1), .int .i64 ((rd_T82 t112 x59_2).f1), .int .i64 ((rd_T82 t112 x59_2).f2)] 82 (0, 0)) (by refine bq #[.int .i64 ((rd_T82 t112 x59_2).f0.f0), .int .i64 ((rd_T82 t112 x59_2).f0.f1), .int .i64 ((rd_T82 t112 x59_2).f1), .int .i64 0] 3 ?_; refine bq #[.int .i64 ((rd_T82 t112 x59_2).f0.f0), .int .i64 ((rd_T82 t112 x59_2).f0.f1), .int .i64 0, .int .i64 0] 2 ?_; refine bq #[.int .i64 ((rd_T82 t112 x59_2).f0.f0), .int .i64 0, .int .i64 0, .int .i64 0] 1 ?_; refine bq #[.int .i64 0, .int .i64 0, .int .i64 0, .int .i64 0] 0 ?_; refine bk ?_; exact B114.out) hg (Kd.R_ne HO_11.out B114.out (by decide))); replace HB := aK (hb); have HO117 := aK (ho); clear HO_11; clear ho hb hg hat))
 (try simp only [← hl57_2])
 go_roundg k2
 case measure => have := HK1.out; have := HK2.out; omega
 case rel => exact ⟨(y115), (wrap64 (x59_2 + 1)), (by first | rfl | (simp; done) | (simp [*]; done)), H', ⟨by have := HK1.out; have := HK2.out; omega⟩, ⟨by (try simp only [hl57_2]); (with_reducible repeat (first | apply Kd.R_alloc | apply Kd.R_drewN | apply Kd.R_drew)); exact HO117.out⟩, ⟨by (try simp only [hl57_2]); (with_reducible repeat (first | apply Kd.R_alloc | apply Kd.R_drewN | apply Kd.R_drew)); exact Kd.R_mono HO_57.out (fun _ hk => hk.1)⟩, ⟨by (try simp only [hl57_2]); (with_reducible repeat (first | apply Kd.V_alloc | apply Kd.V_drewN | apply Kd.V_drew)); exact Kd.V_mono O0.out (fun _ hk => ⟨hk.1.1, ⟨hk.2, ⟨hk.1.2.1, ⟨hk.1.2.2.1, hk.1.2.2.2.1⟩⟩⟩⟩)⟩, ⟨by (try simp only [hl57_2]); (with_reducible repeat (first | apply Kd.V_alloc | apply Kd.V_drewN | apply Kd.V_drew)); exact Kd.V_mono O1.out (fun _ hk => ⟨hk.1.1, ⟨hk.2, ⟨hk.1.2.1, ⟨hk.1.2.2.1, hk.1.2.2.2.1⟩⟩⟩⟩)⟩, ⟨by (try simp only [hl57_2]); refine bk ?_; exact B101.out⟩, ⟨by (try simp only [hl57_2]); refine bk ?_; exact B102.out⟩, ⟨pT HB.out⟩⟩
def impl_BestMotion.f (k : Nat) (a0_0 : Int) (a0_1 : Int) (l0_2 : List Int) (a1_0 : Int) (a1_1 : Int) (l1_2 : List Int) : Option (Int × Int × Bool) := (impl_RankMotions.f k a0_0 a0_1 l0_2 a1_0 a1_1 l1_2).bind fun bt104 => (if bt104.2 = true then (if (bt104.1.length : Int) = 0 then (some (0, 0, false)) else (if 0 < (bt104.1.length : Int) then (some ((rd_T28 bt104.1 0).f0, (rd_T28 bt104.1 0).f1, true)) else (none))) else (some (0, 0, false)))
theorem impl_BestMotion.calls (k : Nat) (a0_0 : Int) (a0_1 : Int) (A0_2 : Option Addr) (c0_2 : Nat) (l0_2 : List Int) (a1_0 : Int) (a1_1 : Int) (A1_2 : Option Addr) (c1_2 : Nat) (l1_2 : List Int) (r1 : Int) (r2 : Int) (r3 : Bool) (w : World) (hr0_2 : Kd.C (Kd.int .i64) w A0_2 l0_2.length l0_2) (hc0_2 : l0_2.length ≤ c0_2) (hr1_2 : Kd.C (Kd.int .i64) w A1_2 l1_2.length l1_2) (hc1_2 : l1_2.length ≤ c1_2) (h : impl_BestMotion.f k a0_0 a0_1 l0_2 a1_0 a1_1 l1_2 = some (r1, r2, r3)) :
  Calls Try.prog 14 #[.agg #[.int .i64 a0_0, .int .i64 a0_1, .slice A0_2 l0_2.length c0_2], .agg #[.int .i64 a1_0, .int .i64 a1_1, .slice A1_2 l1_2.length c1_2]] w fun e w' => e = .returned (.tuple #[.agg #[.int .i64 r1, .int .i64 r2], .bool r3]) ∧ Below w.heap.size w w' := by
 have hu26 := Try.underlying26
 have hu28 := Try.underlying28
 have HR0_2 := aK hr0_2
 have HC0_2 := aK hc0_2
 clear hr0_2 hc0_2
 have HR1_2 := aK hr1_2
 have HC1_2 := aK hc1_2
 clear hr1_2 hc1_2
 have HB := aK (Below.refl w.heap.size w)
 have H : ((impl_RankMotions.f k a0_0 a0_1 l0_2 a1_0 a1_1 l1_2).bind fun bt104 => (if bt104.2 = true then (if (bt104.1.length : Int) = 0 then (some (0, 0, false)) else (if 0 < (bt104.1.length : Int) then (some ((rd_T28 bt104.1 0).f0, (rd_T28 bt104.1 0).f1, true)) else (none))) else (some (0, 0, false)))) = some (r1, r2, r3) := h
 clear h
 replace H := oA H
 obtain ⟨⟨t104, t107⟩, A3, H⟩ := H
 replace H : (if t107 = true then (if (t104.length : Int) = 0 then (some (0, 0, false)) else (if 0 < (t104.length : Int) then (some ((rd_T28 t104 0).f0, (rd_T28 t104 0).f1, true)) else (none))) else (some (0, 0, false))) = some (r1, r2, r3) := H
 by_cases c4 : t107 = true
 rotate_left
 ·
  replace c4 := Bool.eq_false_iff.mpr c4; subst c4
  have H1 : (some (0, 0, false)) = some (r1, r2, r3) := by rw [if_neg (show ¬ (false = true) by decide)] at H; exact H
  clear H; have H := H1; clear H1
  simp only [Option.some.injEq, Prod.mk.injEq] at H
  obtain ⟨rfl, rfl, rfl⟩ := H
  go_enter Try.func14, Try.ntmps14
  go_wp2_with (first | ((with_reducible refine ga 2 rfl ?_); (try (refine gate_guard (by rfl) ?_; dsimp only)); refine bxa #[.int .i64 a0_0, .int .i64 a0_1, .slice A0_2 l0_2.length c0_2] 26 ?_; intro g101 hg w29 B101 hb; have GW101 := gA hg HB; replace HB := bS HB hb; clear hb hg) | ((with_reducible refine ga 3 rfl ?_); (try (refine gate_guard (by rfl) ?_; dsimp only)); refine bxa #[.int .i64 a1_0, .int .i64 a1_1, .slice A1_2 l1_2.length c1_2] 26 ?_; intro g102 hg w30 B102 hb; have GW102 := gA hg HB; obtain ⟨N101_102, N102_101⟩ := na hg B101; replace B101 := bB B101 hb; replace HB := bS HB hb; clear hb hg) | ((with_reducible refine ga 4 rfl ?_); (try (refine gate_guard (by rfl) ?_; dsimp only)); refine bxa #[.int .i64 0, .int .i64 0] 28 ?_; intro g103 hg w31 B103 hb; have GW103 := gA hg HB; obtain ⟨N101_103, N103_101⟩ := na hg B101; obtain ⟨N102_103, N103_102⟩ := na hg B102; replace B101 := bB B101 hb; replace B102 := bB B102 hb; replace HB := bS HB hb; clear hb hg; obtain ⟨_, _⟩ := nB N101_102; obtain ⟨_, _⟩ := nB N101_103; obtain ⟨_, _, _, _, _, _⟩ := bc3 B101.out; obtain ⟨_, _⟩ := nB N102_103; obtain ⟨_, _, _, _, _, _⟩ := bc3 B102.out) | ((with_reducible refine gc 33 rfl ?_); refine gl (some 11) Try.func33 #[.agg #[.int .i64 a0_0, .int .i64 a0_1, .slice A0_2 l0_2.length c0_2], .agg #[.int .i64 a1_0, .int .i64 a1_1, .slice A1_2 l1_2.length c1_2]] ?_; (with_reducible refine (impl_RankMotions.calls k a0_0 a0_1 (fun k_ => k_ < w.heap.size) _ _ l0_2 a1_0 a1_1 (fun k_ => k_ < w.heap.size) _ _ l1_2 t104 false _ ?side1 ?side2 A3.out).mono ?_); (case side1 => exact Kd.V_mk HC0_2.out (Kd.F_below (Kd.C_F (Kd.heap_int .i64) HR0_2.out) (pS HB.out))); (case side2 => exact Kd.V_mk HC1_2.out (Kd.F_below (Kd.C_F (Kd.heap_int .i64) HR1_2.out) (pS HB.out))); rintro e w37 ⟨v105, rfl, ho0, hb⟩; refine ⟨_, rfl, ?_⟩; have HO106 := aK (Kd.R_lower (Kd.R_newB (Kd.R_mono (ok' := fun k_ => True) ho0 (fun _ hk_ => trivial)) (g := g103) (o := .cells #[.int .i64 0, .int .i64 0] 28 (0, 0)) (pB B103.out)) (below_size (pS HB.out))); replace B101 := bB B101 hb; replace B102 := bB B102 hb; replace B103 := bB B103 hb; replace HB := bS HB hb; (try clear hb); (try clear ho0); obtain ⟨_, _, _, _⟩ := bc2 B103.out))
  refine bodyPost_ret (results_ct rfl _ _ g103 28 #[.int .i64 0, .int .i64 0] (0, 0) _ rfl (by refine bq #[.int .i64 0, .int .i64 0] 1 ?_; refine bq #[.int .i64 0, .int .i64 0] 0 ?_; refine bk ?_; exact B103.out) Try.underlying28 rfl (by kernel_rfl)) rfl ?_
  exact ⟨er, pT HB.out⟩
 subst c4
 have H1 : (if (t104.length : Int) = 0 then (some (0, 0, false)) else (if 0 < (t104.length : Int) then (some ((rd_T28 t104 0).f0, (rd_T28 t104 0).f1, true)) else (none))) = some (r1, r2, r3) := by rw [if_pos rfl] at H; exact H
 clear H
 have H := H1
 clear H1
 by_cases c5 : (t104.length : Int) = 0
 ·
  rw [if_pos c5] at H
  have c5b0 : ((t104.length : Int) == 0) = true := beq_iff_eq.mpr c5
  have c5b1 : ((t104.length : Int) != 0) = false := bne_eq_false_iff_eq.mpr c5
  clear c5
  simp only [Option.some.injEq, Prod.mk.injEq] at H
  obtain ⟨rfl, rfl, rfl⟩ := H
  go_enter Try.func14, Try.ntmps14
  go_wp2_with (first | ((with_reducible refine ga 2 rfl ?_); (try (refine gate_guard (by rfl) ?_; dsimp only)); refine bxa #[.int .i64 a0_0, .int .i64 a0_1, .slice A0_2 l0_2.length c0_2] 26 ?_; intro g101 hg w6 B101 hb; have GW101 := gA hg HB; replace HB := bS HB hb; clear hb hg) | ((with_reducible refine ga 3 rfl ?_); (try (refine gate_guard (by rfl) ?_; dsimp only)); refine bxa #[.int .i64 a1_0, .int .i64 a1_1, .slice A1_2 l1_2.length c1_2] 26 ?_; intro g102 hg w7 B102 hb; have GW102 := gA hg HB; obtain ⟨N101_102, N102_101⟩ := na hg B101; replace B101 := bB B101 hb; replace HB := bS HB hb; clear hb hg) | ((with_reducible refine ga 4 rfl ?_); (try (refine gate_guard (by rfl) ?_; dsimp only)); refine bxa #[.int .i64 0, .int .i64 0] 28 ?_; intro g103 hg w8 B103 hb; have GW103 := gA hg HB; obtain ⟨N101_103, N103_101⟩ := na hg B101; obtain ⟨N102_103, N103_102⟩ := na hg B102; replace B101 := bB B101 hb; replace B102 := bB B102 hb; replace HB := bS HB hb; clear hb hg; obtain ⟨_, _⟩ := nB N101_102; obtain ⟨_, _⟩ := nB N101_103; obtain ⟨_, _, _, _, _, _⟩ := bc3 B101.out; obtain ⟨_, _⟩ := nB N102_103; obtain ⟨_, _, _, _, _, _⟩ := bc3 B102.out) | ((with_reducible refine gc 33 rfl ?_); refine gl (some 11) Try.func33 #[.agg #[.int .i64 a0_0, .int .i64 a0_1, .slice A0_2 l0_2.length c0_2], .agg #[.int .i64 a1_0, .int .i64 a1_1, .slice A1_2 l1_2.length c1_2]] ?_; (with_reducible refine (impl_RankMotions.calls k a0_0 a0_1 (fun k_ => k_ < w.heap.size) _ _ l0_2 a1_0 a1_1 (fun k_ => k_ < w.heap.size) _ _ l1_2 t104 true _ ?side1 ?side2 A3.out).mono ?_); (case side1 => exact Kd.V_mk HC0_2.out (Kd.F_below (Kd.C_F (Kd.heap_int .i64) HR0_2.out) (pS HB.out))); (case side2 => exact Kd.V_mk HC1_2.out (Kd.F_below (Kd.C_F (Kd.heap_int .i64) HR1_2.out) (pS HB.out))); rintro e w14 ⟨v105, rfl, ho0, hb⟩; refine ⟨_, rfl, ?_⟩; have HO106 := aK (Kd.R_lower (Kd.R_newB (Kd.R_mono (ok' := fun k_ => True) ho0 (fun _ hk_ => trivial)) (g := g103) (o := .cells #[.int .i64 0, .int .i64 0] 28 (0, 0)) (pB B103.out)) (below_size (pS HB.out))); replace B101 := bB B101 hb; replace B102 := bB B102 hb; replace B103 := bB B103 hb; replace HB := bS HB hb; (try clear hb); (try clear ho0); obtain ⟨Ao15, co15, eo15⟩ := Kd.R_slice HO106.out; subst eo15; obtain ⟨_, _, _, _⟩ := bc2 B103.out))
  refine bodyPost_ret (results_ct rfl _ _ g103 28 #[.int .i64 0, .int .i64 0] (0, 0) _ rfl (by refine bq #[.int .i64 0, .int .i64 0] 1 ?_; refine bq #[.int .i64 0, .int .i64 0] 0 ?_; refine bk ?_; exact B103.out) Try.underlying28 rfl (by kernel_rfl)) rfl ?_
  exact ⟨er, pT HB.out⟩
 rw [if_neg c5] at H
 have c5b0 : ((t104.length : Int) == 0) = false := beq_eq_false_iff_ne.mpr c5
 have c5b1 : ((t104.length : Int) != 0) = true := bne_iff_ne.mpr c5
 have c5b2 : ¬ (t104 = []) := fun h_ => c5 (by rw [h_]; rfl)
 by_cases c17 : 0 < (t104.length : Int)
 rotate_left
 ·
  rw [if_neg c17] at H
  exact absurd H (by simp)
 rw [if_pos c17] at H
 have c17b0 : decide (0 < (t104.length : Int)) = true := decide_eq_true c17
 have c17b1 : decide (0 < t104.length) = true := decide_eq_true (by omega)
 clear c17
 simp only [Option.some.injEq, Prod.mk.injEq] at H
 obtain ⟨rfl, rfl, rfl⟩ := H
 go_enter Try.func14, Try.ntmps14
 go_wp2_with (first | ((with_reducible refine ga 2 rfl ?_); (try (refine gate_guard (by rfl) ?_; dsimp only)); refine bxa #[.int .i64 a0_0, .int .i64 a0_1, .slice A0_2 l0_2.length c0_2] 26 ?_; intro g101 hg w18 B101 hb; have GW101 := gA hg HB; replace HB := bS HB hb; clear hb hg) | ((with_reducible refine ga 3 rfl ?_); (try (refine gate_guard (by rfl) ?_; dsimp only)); refine bxa #[.int .i64 a1_0, .int .i64 a1_1, .slice A1_2 l1_2.length c1_2] 26 ?_; intro g102 hg w19 B102 hb; have GW102 := gA hg HB; obtain ⟨N101_102, N102_101⟩ := na hg B101; replace B101 := bB B101 hb; replace HB := bS HB hb; clear hb hg) | ((with_reducible refine ga 4 rfl ?_); (try (refine gate_guard (by rfl) ?_; dsimp only)); refine bxa #[.int .i64 0, .int .i64 0] 28 ?_; intro g103 hg w20 B103 hb; have GW103 := gA hg HB; obtain ⟨N101_103, N103_101⟩ := na hg B101; obtain ⟨N102_103, N103_102⟩ := na hg B102; replace B101 := bB B101 hb; replace B102 := bB B102 hb; replace HB := bS HB hb; clear hb hg; obtain ⟨_, _⟩ := nB N101_102; obtain ⟨_, _⟩ := nB N101_103; obtain ⟨_, _, _, _, _, _⟩ := bc3 B101.out; obtain ⟨_, _⟩ := nB N102_103; obtain ⟨_, _, _, _, _, _⟩ := bc3 B102.out) | ((with_reducible refine gc 33 rfl ?_); refine gl (some 11) Try.func33 #[.agg #[.int .i64 a0_0, .int .i64 a0_1, .slice A0_2 l0_2.length c0_2], .agg #[.int .i64 a1_0, .int .i64 a1_1, .slice A1_2 l1_2.length c1_2]] ?_; (with_reducible refine (impl_RankMotions.calls k a0_0 a0_1 (fun k_ => k_ < w.heap.size) _ _ l0_2 a1_0 a1_1 (fun k_ => k_ < w.heap.size) _ _ l1_2 t104 true _ ?side1 ?side2 A3.out).mono ?_); (case side1 => exact Kd.V_mk HC0_2.out (Kd.F_below (Kd.C_F (Kd.heap_int .i64) HR0_2.out) (pS HB.out))); (case side2 => exact Kd.V_mk HC1_2.out (Kd.F_below (Kd.C_F (Kd.heap_int .i64) HR1_2.out) (pS HB.out))); rintro e w26 ⟨v105, rfl, ho0, hb⟩; refine ⟨_, rfl, ?_⟩; have HO106 := aK (Kd.R_lower (Kd.R_newB (Kd.R_mono (ok' := fun k_ => True) ho0 (fun _ hk_ => trivial)) (g := g103) (o := .cells #[.int .i64 0, .int .i64 0] 28 (0, 0)) (pB B103.out)) (below_size (pS HB.out))); replace B101 := bB B101 hb; replace B102 := bB B102 hb; replace B103 := bB B103 hb; replace HB := bS HB hb; (try clear hb); (try clear ho0); obtain ⟨Ao27, co27, eo27⟩ := Kd.R_slice HO106.out; subst eo27; have p108 : 0 ≤ (0 : Int) := (by omega); have q108 : 0 < (t104.length : Int) := dA; obtain ⟨ad108, e108, hx108_0, hx108_1⟩ := at_T28 (Kd.R_reads' HO106.out).2.2 0 p108 q108; cases e108; have qi108 : (0 < t104.length) = True := eq_true (by omega); (try rw [show ((0 : Int)).toNat = 0 from rfl] at hx108_0); (try rw [show 0 * 2 = 0 from rfl] at hx108_0); (try rw [Addr.add_zero'] at hx108_0); (try rw [show ((0 : Int)).toNat = 0 from rfl] at hx108_1); (try rw [show 0 * 2 = 0 from rfl] at hx108_1); (try rw [Addr.add_zero'] at hx108_1); replace p108 := eq_true p108; replace q108 := eq_true q108; obtain ⟨_, _, _, _⟩ := bc2 B103.out))
 refine bodyPost_ret (results_ct rfl _ _ g103 28 #[.int .i64 ((rd_T28 t104 0).f0), .int .i64 ((rd_T28 t104 0).f1)] (0, 0) _ rfl (by refine bq #[.int .i64 ((rd_T28 t104 0).f0), .int .i64 0] 1 ?_; refine bq #[.int .i64 0, .int .i64 0] 0 ?_; refine bk ?_; exact B103.out) Try.underlying28 rfl (by kernel_rfl)) rfl ?_
 exact ⟨er, pT HB.out⟩
mutual
def impl_Nowcast.j0 : Nat → Int → Bool → Int → Int → List Int → Int → Int → Option ((List (S26)) × Bool)
 | 0, _, _, _, _, _, _, _ => none
 | k + 1, x2, x23, x103000, x103001, x103002, x107000, x107001 => if x23 = true then (some (([] : List (S26)), false)) else (impl_Nowcast.l0 k ([] : List (S26)) x2 0 x103000 x103001 x103002 x107000 x107001)
def impl_Nowcast.l0 : Nat → List (S26) → Int → Int → Int → Int → List Int → Int → Int → Option ((List (S26)) × Bool)
 | 0, _, _, _, _, _, _, _, _ => none
 | k + 1, x10, x24, x25, x103000, x103001, x103002, x107000, x107001 => if x25 < x24 then ((impl_moveField.f k x103000 x103001 x103002 x107000 x107001).bind fun bt108 => (if x10.length < 3518437208883 then (impl_Nowcast.l0 k (x10 ++ [(⟨bt108.1, bt108.2.1, bt108.2.2⟩ : S26)]) x24 (wrap64 (x25 + 1)) bt108.1 bt108.2.1 bt108.2.2 x107000 x107001) else (none))) else (some (x10, true))
end
def impl_Nowcast.f (k : Nat) (a0_0 : Int) (a0_1 : Int) (l0_2 : List Int) (a1_0 : Int) (a1_1 : Int) (l1_2 : List Int) (a2 : Int) : Option ((List (S26)) × Bool) := (impl_BestMotion.f k a0_0 a0_1 l0_2 a1_0 a1_1 l1_2).bind fun bt103 => (if bt103.2.2 = true then ((impl_within.f a2 1 6).bind fun t107 => (impl_Nowcast.j0 k a2 (!t107) a1_0 a1_1 l1_2 bt103.1 bt103.2.1)) else (impl_Nowcast.j0 k a2 true a1_0 a1_1 l1_2 bt103.1 bt103.2.1))
theorem impl_Nowcast.calls (k : Nat) (a0_0 : Int) (a0_1 : Int) (A0_2 : Option Addr) (c0_2 : Nat) (l0_2 : List Int) (a1_0 : Int) (a1_1 : Int) (P1_2_ : Nat → Prop) (A1_2 : Option Addr) (c1_2 : Nat) (l1_2 : List Int) (a2 : Int) (r1 : List (S26)) (r2 : Bool) (w : World) (hr0_2 : Kd.C (Kd.int .i64) w A0_2 l0_2.length l0_2) (hc0_2 : l0_2.length ≤ c0_2) (hs1_2 : Kd.V (Kd.int .i64) 3 w w.heap.size (fun k_ => P1_2_ k_) (.slice A1_2 l1_2.length c1_2) l1_2) (h : impl_Nowcast.f k a0_0 a0_1 l0_2 a1_0 a1_1 l1_2 a2 = some (r1, r2)) :
  Calls Try.prog 12 #[.agg #[.int .i64 a0_0, .int .i64 a0_1, .slice A0_2 l0_2.length c0_2], .agg #[.int .i64 a1_0, .int .i64 a1_1, .slice A1_2 l1_2.length c1_2], .int .i64 a2] w fun e w' => ∃ v0_ : Value, e = .returned (.tuple #[v0_, .bool r2]) ∧ Kd.S k26 26 w' w.heap.size (fun k_ => (w.heap.size ≤ k_)) v0_ r1 ∧ Below w.heap.size w w' := by
 have hu26 := Try.underlying26
 have hu28 := Try.underlying28
 have HR0_2 := aK hr0_2
 have HC0_2 := aK hc0_2
 clear hr0_2 hc0_2
 have HO1_2 := aK (show Kd.V (Kd.int .i64) 3 w w.heap.size (fun k_ => (P1_2_ k_ ∨ w.heap.size ≤ k_)) (.slice A1_2 l1_2.length c1_2) l1_2 from Kd.V_mono hs1_2 (fun k_ hk => .inl hk))
 have HB := aK (Below.refl w.heap.size w)
 have H : ((impl_BestMotion.f k a0_0 a0_1 l0_2 a1_0 a1_1 l1_2).bind fun bt103 => (if bt103.2.2 = true then ((impl_within.f a2 1 6).bind fun t107 => (impl_Nowcast.j0 k a2 (!t107) a1_0 a1_1 l1_2 bt103.1 bt103.2.1)) else (impl_Nowcast.j0 k a2 true a1_0 a1_1 l1_2 bt103.1 bt103.2.1))) = some (r1, r2) := h
 clear h
 replace H := oA H
 obtain ⟨⟨t103, t104, t105⟩, A4, H⟩ := H
 replace H : (if t105 = true then ((impl_within.f a2 1 6).bind fun t107 => (impl_Nowcast.j0 k a2 (!t107) a1_0 a1_1 l1_2 t103 t104)) else (impl_Nowcast.j0 k a2 true a1_0 a1_1 l1_2 t103 t104)) = some (r1, r2) := H
 have HC5 := aK H
 clear H
 go_enter Try.func12, Try.ntmps12
 go_upto_region 2 with (first | ((with_reducible refine ga 3 rfl ?_); refine bxa #[.int .i64 a0_0, .int .i64 a0_1, .slice A0_2 l0_2.length c0_2] 26 ?_; intro g101 hg w6 B101 hb; replace HO1_2 := aK (Kd.V_below (Kd.V_elderB (pW HO1_2.out) g101 (Nat.le_of_eq hg.symm)) hb); have GW101 := gA hg HB; replace HB := bS HB hb; clear hb hg) | ((with_reducible refine ga 4 rfl ?_); refine bxa #[.int .i64 a1_0, .int .i64 a1_1, .slice A1_2 l1_2.length c1_2] 26 ?_; intro g102 hg w7 B102 hb; replace HO1_2 := aK (Kd.V_below (Kd.V_elderB (pW HO1_2.out) g102 (Nat.le_of_eq hg.symm)) hb); have GW102 := gA hg HB; obtain ⟨N101_102, N102_101⟩ := na hg B101; replace B101 := bB B101 hb; replace HB := bS HB hb; clear hb hg; obtain ⟨_, _⟩ := nB N101_102; obtain ⟨z9_0, z9_1, z9_2, y9_0, y9_1, y9_2⟩ := bc3 B101.out; obtain ⟨z10_0, z10_1, z10_2, y10_0, y10_1, y10_2⟩ := bc3 B102.out) | ((with_reducible refine gc 14 rfl ?_); refine gl (some 14) Try.func14 #[.agg #[.int .i64 a0_0, .int .i64 a0_1, .slice A0_2 l0_2.length c0_2], .agg #[.int .i64 a1_0, .int .i64 a1_1, .slice A1_2 l1_2.length c1_2]] ?_; (with_reducible refine (impl_BestMotion.calls k a0_0 a0_1 _ _ l0_2 a1_0 a1_1 _ _ l1_2 t103 t104 t105 _ ?side1 ?side2 ?side3 ?side4 A4.out).mono ?_); (case side1 => exact cB HR0_2 HB); (case side2 => exact HC0_2.out); (case side3 => exact pC (Kd.V_reads' HO1_2.out).2.2); (case side4 => exact (Kd.V_reads' HO1_2.out).2.1); rintro e w11 ⟨rfl, hb⟩; refine ⟨_, rfl, ?_⟩; replace HO1_2 := vb HO1_2 hb; replace B101 := bB B101 hb; replace B102 := bB B102 hb; replace HB := bS HB hb; (try clear hb)) | ((with_reducible refine ga 8 rfl ?_); refine bxa #[.int .i64 0, .int .i64 0] 28 ?_; intro g106 hg w12 B106 hb; replace HO1_2 := aK (Kd.V_below (Kd.V_elderB (pW HO1_2.out) g106 (Nat.le_of_eq hg.symm)) hb); have GW106 := gA hg HB; obtain ⟨N101_106, N106_101⟩ := na hg B101; obtain ⟨N102_106, N106_102⟩ := na hg B102; replace B101 := bB B101 hb; replace B102 := bB B102 hb; replace HB := bS HB hb; clear hb hg; obtain ⟨_, _⟩ := nB N106_101; obtain ⟨_, _⟩ := nB N106_102; obtain ⟨z15_0, z15_1, y15_0, y15_1⟩ := bc2 B106.out))
 (try simp only [Act.put, List.setIfInBounds_toArray, List.set_cons_zero, List.set_cons_succ])
 go_cut [23] (fun v23 wc => ∃ (kq : Nat) (x23_4 : Bool), v23 = .bool x23_4 ∧ Aside0 (impl_Nowcast.j0 kq a2 x23_4 a1_0 a1_1 l1_2 t103 t104 = some (r1, r2)) ∧ Aside0 (kq ≤ k) ∧ Aside0 (Kd.V (Kd.int .i64) 3 wc w.heap.size (fun k_ => (P1_2_ k_ ∨ w.heap.size ≤ k_) ∧ k_ ≠ g101 ∧ k_ ≠ g102 ∧ k_ ≠ g106) (.slice A1_2 l1_2.length c1_2) l1_2) ∧ Aside0 (wc.heap[g101]? = some (.cells #[.int .i64 a0_0, .int .i64 a0_1, (.slice A0_2 l0_2.length c0_2)] 26 (0, 0))) ∧ Aside0 (wc.heap[g102]? = some (.cells #[.int .i64 a1_0, .int .i64 a1_1, (.slice A1_2 l1_2.length c1_2)] 26 (0, 0))) ∧ Aside0 (wc.heap[g106]? = some (.cells #[.int .i64 t103, .int .i64 t104] 28 (0, 0))) ∧ Aside0 (Below w.heap.size w wc))
 case first =>
  have H := HC5.out; clear HC5
  by_cases c16 : t105 = true
  ·
   subst c16
   have H1 : ((impl_within.f a2 1 6).bind fun t107 => (impl_Nowcast.j0 k a2 (!t107) a1_0 a1_1 l1_2 t103 t104)) = some (r1, r2) := by rw [if_pos rfl] at H; exact H
   clear H; have H := H1; clear H1; replace H := oA H; obtain ⟨t107, A17, H⟩ := H
   replace H : (impl_Nowcast.j0 k a2 (!t107) a1_0 a1_1 l1_2 t103 t104) = some (r1, r2) := H
   have H' := aK H; clear H
   go_wp2_with (first | (go_at_call 30; (with_reducible refine (impl_within.calls a2 1 6 t107 _ A17.out).mono ?_); rintro e w' ⟨rfl, ⟨nd, rfl⟩⟩))
   go_meet
   case rel => exact ⟨_, (!t107), (by first | rfl | (simp; done) | (simp [*]; done)), H', ⟨by first | omega | exact Nat.le_refl _⟩, ⟨by (with_reducible repeat (first | apply Kd.V_alloc | apply Kd.V_drewN | apply Kd.V_drew)); exact Kd.V_mono (Kd.V_far (p := ⟨g106, 1, none⟩) (Kd.V_far (p := ⟨g106, 0, none⟩) (Kd.V_mono HO1_2.out (fun k_ hk => (⟨hk, hk.2⟩ : _ ∧ k_ ≠ g106))) (fun _ hk => hk.2) (.int .i64 t103)) (fun _ hk => hk.2) (.int .i64 t104)) (fun _ hk => ⟨hk.1.1.1.1, ⟨hk.1.1.1.2, ⟨hk.1.1.2, hk.1.2⟩⟩⟩)⟩, ⟨by refine bg N101_106 ?_; refine bg N101_106 ?_; refine bk ?_; exact B101.out⟩, ⟨by refine bg N102_106 ?_; refine bg N102_106 ?_; refine bk ?_; exact B102.out⟩, ⟨by refine bq #[.int .i64 t103, .int .i64 0] 1 ?_; refine bq #[.int .i64 0, .int .i64 0] 0 ?_; refine bk ?_; exact B106.out⟩, ⟨pT HB.out⟩⟩
  replace c16 := Bool.eq_false_iff.mpr c16; subst c16
  have H1 : (impl_Nowcast.j0 k a2 true a1_0 a1_1 l1_2 t103 t104) = some (r1, r2) := by rw [if_neg (show ¬ (false = true) by decide)] at H; exact H
  clear H; have H := H1; clear H1; have H' := aK H; clear H
  go_wp2
  go_meet
  case rel => exact ⟨_, (true), (by first | rfl | (simp; done) | (simp [*]; done)), H', ⟨by first | omega | exact Nat.le_refl _⟩, ⟨by (with_reducible repeat (first | apply Kd.V_alloc | apply Kd.V_drewN | apply Kd.V_drew)); exact Kd.V_mono (Kd.V_far (p := ⟨g106, 1, none⟩) (Kd.V_far (p := ⟨g106, 0, none⟩) (Kd.V_mono HO1_2.out (fun k_ hk => (⟨hk, hk.2⟩ : _ ∧ k_ ≠ g106))) (fun _ hk => hk.2) (.int .i64 t103)) (fun _ hk => hk.2) (.int .i64 t104)) (fun _ hk => ⟨hk.1.1.1.1, ⟨hk.1.1.1.2, ⟨hk.1.1.2, hk.1.2⟩⟩⟩)⟩, ⟨by refine bg N101_106 ?_; refine bg N101_106 ?_; refine bk ?_; exact B101.out⟩, ⟨by refine bg N102_106 ?_; refine bg N102_106 ?_; refine bk ?_; exact B102.out⟩, ⟨by refine bq #[.int .i64 t103, .int .i64 0] 1 ?_; refine bq #[.int .i64 0, .int .i64 0] 0 ?_; refine bk ?_; exact B106.out⟩, ⟨pT HB.out⟩⟩
 case rest =>
 clear HC5
 clear z10_0 z10_1 z10_2 z15_0 z15_1 z9_0 z9_1 z9_2 y10_0 y10_1 y10_2 y15_0 y15_1 y9_0 y9_1 y9_2
 obtain ⟨kq, x23_4, rfl, HA, HJ4, O0, B101, B102, B106, HB⟩ := hcut
 cases kq with
 | zero => exact absurd HA.out (by simp [impl_Nowcast.j0])
 | succ kj4 =>
 have H := HA.out
 clear HA
 simp only [impl_Nowcast.j0] at H
 by_cases c18 : x23_4 = true
 ·
  subst c18
  have H1 : (some (([] : List (S26)), false)) = some (r1, r2) := by rw [if_pos rfl] at H; exact H
  clear H; have H := H1; clear H1
  simp only [Option.some.injEq, Prod.mk.injEq] at H
  obtain ⟨rfl, rfl⟩ := H
  go_wp2
  go_ret2
  exact ⟨_, er, by first | exact Kd.S_nil _ _ _ _ _ | exact Kd.N_nil _ _ _ _ _ | exact Kd.V_nil _ _ _ _ _ | exact Kd.Q_nil _ _ _ _ _ | exact Kd.R_nil _ _ _ _ _, pT HB.out⟩
 replace c18 := Bool.eq_false_iff.mpr c18
 subst c18
 have H1 : (impl_Nowcast.l0 kj4 ([] : List (S26)) a2 0 a1_0 a1_1 l1_2 t103 t104) = some (r1, r2) := by rw [if_neg (show ¬ (false = true) by decide)] at H; exact H
 clear H
 have H := H1
 clear H1
 have H' := aK H
 clear H
 go_wp2
 go_loopg [10, 25] kj4 (fun kq v10 v25 w' => ∃ (x10_2 : List (S26)) (x25_2 : Int) (s0 : Int) (s1 : Int) (s2 : List Int) (u103002 : Value), v25 = .int .i64 x25_2 ∧ Aside0 (impl_Nowcast.l0 kq x10_2 a2 x25_2 s0 s1 s2 t103 t104 = some (r1, r2)) ∧ Aside0 (kq ≤ kj4) ∧ Aside0 (Kd.S k26 26 w' w.heap.size (fun k_ => (w.heap.size ≤ k_) ∧ k_ ≠ g101 ∧ k_ ≠ g102) v10 x10_2) ∧ Aside0 (Kd.V (Kd.int .i64) 3 w' w.heap.size (fun k_ => (P1_2_ k_ ∨ w.heap.size ≤ k_) ∧ some k_ ≠ (v10 : Value).ownBlock ∧ k_ ≠ g101 ∧ k_ ≠ g102 ∧ k_ ≠ g106) u103002 s2) ∧ Aside0 (w'.heap[g101]? = some (.cells #[.int .i64 a0_0, .int .i64 a0_1, (.slice A0_2 l0_2.length c0_2)] 26 (0, 0))) ∧ Aside0 (w'.heap[g102]? = some (.cells #[.int .i64 s0, .int .i64 s1, u103002] 26 (0, 0))) ∧ Aside0 (w'.heap[g106]? = some (.cells #[.int .i64 t103, .int .i64 t104] 28 (0, 0))) ∧ Aside0 (Below w.heap.size w w'))
 case atStart => exact ⟨(([] : List (S26))), (0), (a1_0), (a1_1), (l1_2), (.slice A1_2 l1_2.length c1_2), (by first | rfl | (simp; done) | (simp [*]; done)), H', ⟨Nat.le_refl _⟩, ⟨by first | exact Kd.S_nil _ _ _ _ _ | exact Kd.N_nil _ _ _ _ _ | exact Kd.V_nil _ _ _ _ _ | exact Kd.Q_nil _ _ _ _ _ | exact Kd.R_nil _ _ _ _ _⟩, ⟨by (with_reducible repeat (first | apply Kd.V_alloc | apply Kd.V_drewN | apply Kd.V_drew)); exact Kd.V_mono O0.out (fun _ hk => ⟨hk.1, ⟨(by simp [Value.ownBlock]), ⟨hk.2.1, ⟨hk.2.2.1, hk.2.2.2⟩⟩⟩⟩)⟩, ⟨by refine bk ?_; exact B101.out⟩, ⟨by refine bk ?_; exact B102.out⟩, ⟨by refine bk ?_; exact B106.out⟩, ⟨pT HB.out⟩⟩
 case round =>
 clear H'
 obtain ⟨x10_2, x25_2, s0, s1, s2, u103002, rfl, HA, HK2, HO_10, O0, B101, B102, B106, HB⟩ := hrel
 cases gk with
 | zero => exact absurd HA.out (by simp [impl_Nowcast.l0])
 | succ k2 =>
 have H := HA.out
 clear HA
 simp only [impl_Nowcast.l0] at H
 by_cases c19 : x25_2 < a2
 rotate_left
 ·
  rw [if_neg c19] at H
  have c19b0 : decide (x25_2 < a2) = false := decide_eq_false c19
  clear c19
  simp only [Option.some.injEq, Prod.mk.injEq] at H
  obtain ⟨rfl, rfl⟩ := H
  go_wp2
  go_ret2
  exact ⟨_, er, by (with_reducible repeat (first | apply Kd.S_alloc | apply Kd.S_drewN | apply Kd.S_drew)); exact Kd.S_mono HO_10.out (fun _ hk => hk.1), pT HB.out⟩
 rw [if_pos c19] at H
 have c19b0 : decide (x25_2 < a2) = true := decide_eq_true c19
 clear c19
 replace H := oA H
 obtain ⟨⟨t108, t109, t110⟩, A20, H⟩ := H
 replace H : (if x10_2.length < 3518437208883 then (impl_Nowcast.l0 k2 (x10_2 ++ [(⟨t108, t109, t110⟩ : S26)]) a2 (wrap64 (x25_2 + 1)) t108 t109 t110 t103 t104) else (none)) = some (r1, r2) := H
 by_cases c21 : x10_2.length < 3518437208883
 rotate_left
 ·
  rw [if_neg c21] at H
  exact absurd H (by simp)
 rw [if_pos c21] at H
 have LMc21 := aK c21
 clear c21
 obtain ⟨y113, hy113⟩ : ∃ y_ : List (S26), y_ = (x10_2 ++ [(⟨t108, t109, t110⟩ : S26)]) := ⟨_, rfl⟩
 replace H : (impl_Nowcast.l0 k2 y113 a2 (wrap64 (x25_2 + 1)) t108 t109 t110 t103 t104) = some (r1, r2) := by first | (rw [hy113]; first | with_reducible exact H | with_reducible exact (oS H :)) | with_reducible exact (oS H :) | with_reducible exact H | exact H
 have Ny113 := aK hy113
 clear hy113
 have H' := aK H
 clear H
 obtain ⟨_, _⟩ := nB N102_101
 obtain ⟨_, _⟩ := nB N102_106
 obtain ⟨_, _, _, _, _, _⟩ := bc3 B102.out
 obtain ⟨_, _⟩ := nB N106_101
 obtain ⟨_, _, _, _⟩ := bc2 B106.out
 obtain ⟨Ao27, co27, eo27⟩ := Kd.V_slice O0.out
 subst eo27
 go_wp2_with (first | ((with_reducible refine gc 20 rfl ?_); refine gl (some 29) Try.func20 #[.agg #[.int .i64 s0, .int .i64 s1, .slice Ao27 s2.length co27], .agg #[.int .i64 t103, .int .i64 t104]] ?_; (with_reducible refine (impl_moveField.calls k2 s0 s1 _ _ s2 t103 t104 t108 t109 t110 _ ?side1 ?side2 A20.out).mono ?_); (case side1 => exact pC (Kd.V_reads' O0.out).2.2); (case side2 => exact (Kd.V_reads' O0.out).2.1); rintro e w28 ⟨v111, rfl, ho0, hb⟩; refine ⟨_, rfl, ?_⟩; replace HO_10 := aK (Kd.S_elder' (pY HO_10.out) (Kd.R_base ho0) hb); replace O0 := aK (Kd.V_elder' (pW O0.out) (Kd.R_base ho0) hb); have HO112 := aK (Kd.R_lower (Kd.R_newM (M := fun k_ => (w.heap.size ≤ k_)) ho0 (below_size (pS HB.out)) (fun k_ h_ => h_)) (below_size (pS HB.out))); replace B101 := bB B101 hb; replace B102 := bB B102 hb; replace B106 := bB B106 hb; replace HB := bS HB hb; (try clear hb); (try clear ho0); obtain ⟨_, _, _, _, _, _⟩ := bc3 B102.out; obtain ⟨Ao30, co30, eo30⟩ := Kd.R_slice HO112.out; subst eo30) | ((with_reducible refine gate_store (t := 26) (p := 4) rfl ?_); refine store_event (t := 26) (p := 4) (v := ?vo_w31) (w1 := (((w28.setCell ⟨g102, 0, none⟩ (.int .i64 t108)).setCell ⟨g102, 1, none⟩ (.int .i64 t109)).setCell ⟨g102, 2, none⟩ (.slice Ao30 t110.length co30))) ?hg ?ho ?hn ?hr ?_; (case ho => rfl); (case hg => rfl); (case hn => rfl); (case hr => first | (go_simp; done) | (go_simp; rfl)); intro w31 hw; replace HO_10 : Aside0 (Kd.S k26 26 w31 w.heap.size (fun k_ => (w.heap.size ≤ k_) ∧ some k_ ≠ (.slice Ao30 t110.length co30 : Value).ownBlock ∧ k_ ≠ g101 ∧ k_ ≠ g102) u10 x10_2) := ⟨(by rw [hw]; exact (pY (Kd.S_mono (Kd.S_far (p := ⟨g102, 2, none⟩) (Kd.S_far (p := ⟨g102, 1, none⟩) (Kd.S_far (p := ⟨g102, 0, none⟩) (Kd.S_mono HO_10.out (fun k_ hk => (⟨hk, hk.1.2.2⟩ : _ ∧ k_ ≠ g102))) (fun _ hk => hk.2) (.int .i64 t108)) (fun _ hk => hk.2) (.int .i64 t109)) (fun _ hk => hk.2) (.slice Ao30 t110.length co30)) (fun _ hk => ⟨hk.1.1.1, ⟨hk.1.2, ⟨hk.1.1.2.1, hk.1.1.2.2⟩⟩⟩))))⟩; replace O0 : Aside0 (Kd.V (Kd.int .i64) 3 w31 w.heap.size (fun k_ => (P1_2_ k_ ∨ w.heap.size ≤ k_) ∧ some k_ ≠ (u10 : Value).ownBlock ∧ some k_ ≠ (.slice Ao30 t110.length co30 : Value).ownBlock ∧ k_ ≠ g101 ∧ k_ ≠ g102 ∧ k_ ≠ g106) (.slice Ao27 s2.length co27) s2) := ⟨(by rw [hw]; exact (pW (Kd.V_mono (Kd.V_far (p := ⟨g102, 2, none⟩) (Kd.V_far (p := ⟨g102, 1, none⟩) (Kd.V_far (p := ⟨g102, 0, none⟩) (Kd.V_mono O0.out (fun k_ hk => (⟨hk, hk.1.2.2.2.1⟩ : _ ∧ k_ ≠ g102))) (fun _ hk => hk.2) (.int .i64 t108)) (fun _ hk => hk.2) (.int .i64 t109)) (fun _ hk => hk.2) (.slice Ao30 t110.length co30)) (fun _ hk => ⟨hk.1.1.1, ⟨hk.1.1.2.1, ⟨hk.1.2, ⟨hk.1.1.2.2.1, ⟨hk.1.1.2.2.2.1, hk.1.1.2.2.2.2⟩⟩⟩⟩⟩))))⟩; replace HO112 : Aside0 (Kd.R (Kd.int .i64) 3 w31 w.heap.size (fun k_ => (w.heap.size ≤ k_)) (.slice Ao30 t110.length co30) t110) := ⟨(by rw [hw]; exact (pR (Kd.R_mono (rF3 HO112.out B102.out (.int .i64 t108) (.int .i64 t109) (.slice Ao30 t110.length co30)) (fun _ h => h.1))))⟩; replace B101 : Aside0 (w31.heap[g101]? = some (.cells #[.int .i64 a0_0, .int .i64 a0_1, .slice A0_2 l0_2.length c0_2] 26 (0, 0))) := ⟨(by rw [hw]; exact (by refine bg N101_102 ?_; refine bg N101_102 ?_; refine bg N101_102 ?_; refine bk ?_; exact B101.out))⟩; replace B102 : Aside0 (w31.heap[g102]? = some (.cells #[.int .i64 t108, .int .i64 t109, .slice Ao30 t110.length co30] 26 (0, 0))) := ⟨(by rw [hw]; exact (by refine bq #[.int .i64 t108, .int .i64 t109, .slice Ao27 s2.length co27] 2 ?_; refine bq #[.int .i64 t108, .int .i64 s1, .slice Ao27 s2.length co27] 1 ?_; refine bq #[.int .i64 s0, .int .i64 s1, .slice Ao27 s2.length co27] 0 ?_; refine bk ?_; exact B102.out))⟩; replace B106 : Aside0 (w31.heap[g106]? = some (.cells #[.int .i64 t103, .int .i64 t104] 28 (0, 0))) := ⟨(by rw [hw]; exact (by refine bg N106_102 ?_; refine bg N106_102 ?_; refine bg N106_102 ?_; refine bk ?_; exact B106.out))⟩; replace HB : Aside0 (Below w.heap.size w w31) := ⟨(by rw [hw]; exact (pS HB.out))⟩; clear hw; obtain ⟨_, _, _, _, _, _⟩ := bc3 B102.out; have HV112 := aK (Kd.V_mono (ok' := (fun k_ => (((((P1_2_ k_ ∨ w.heap.size ≤ k_) ∧ some k_ ≠ (u10 : Value).ownBlock) ∧ k_ ≠ g101) ∧ k_ ≠ g102) ∧ k_ ≠ g106))) (Kd.R_V (base' := w.heap.size) (Kd.R_types (Kd.R_types (Kd.R_types (Kd.R_apart' (HO112.out) (Kd.S_typed HO_10.out) (by decide)) B101.out (by decide)) B102.out (by decide)) B106.out (by decide))) (fun k_ hk => ⟨⟨⟨⟨(.inr (hk.1.1.1.1)), hk.1.1.1.2⟩, hk.1.1.2⟩, hk.1.2⟩, hk.2⟩))) | ((with_reducible refine gate_builtin (b := .append) (xs := #[.tmp 30, .tmp 32]) rfl ?_); at_builtin; refine Kd.S_append k26 (w0 := w) w.heap.size rfl (.tmp 30) (.tmp 32) 40 26 (.agg #[(.int .i64 0), (.int .i64 0), (.slice none 0 0)]) 40 rfl Try.underlying40 info26 rfl (by decide) (by omega) u10 x10_2 (⟨t108, t109, t110⟩ : S26) [.int .i64 t108, .int .i64 t109, .slice Ao30 t110.length co30] (fun k_ => (w.heap.size ≤ k_) ∧ k_ ≠ g101 ∧ k_ ≠ g102) (fun k_ => some k_ = (.slice Ao30 t110.length co30 : Value).ownBlock) rfl rfl ?aP (fun k_ hk_ => ((Kd.R_mono (ok' := fun k_ => ((fun k_ => (w.heap.size ≤ k_) ∧ k_ ≠ g101 ∧ k_ ≠ g102)) k_ ∧ some k_ ≠ (u10 : Value).ownBlock) (Kd.R_types (Kd.R_types (Kd.R_apart' (HO112.out) (Kd.S_typed HO_10.out) (by decide)) B101.out (by decide)) B102.out (by decide)) (fun k_ hk => ⟨⟨hk.1.1.1, ⟨hk.1.2, hk.2⟩⟩, hk.1.1.2⟩))).1 k_ hk_.symm) ?aF ?aO ?aB ?aS ?aL ?_; (case aP => exact k26_mkM _ _ _ (⟨t108, t109, t110⟩ : S26) (Kd.R_mono (Kd.R_tight rfl (Kd.R_mono (ok' := fun k_ => ((fun k_ => (w.heap.size ≤ k_) ∧ k_ ≠ g101 ∧ k_ ≠ g102)) k_ ∧ some k_ ≠ (u10 : Value).ownBlock) (Kd.R_types (Kd.R_types (Kd.R_apart' (HO112.out) (Kd.S_typed HO_10.out) (by decide)) B101.out (by decide)) B102.out (by decide)) (fun k_ hk => ⟨⟨hk.1.1.1, ⟨hk.1.2, hk.2⟩⟩, hk.1.1.2⟩))) (fun _ h_ => h_))); (case aB => exact (pS HB.out)); (case aF => exact (fun k_ hk => ⟨(Nat.le_trans (below_size (pS HB.out)) hk), Kd.freshB (g := g101) (o := .cells #[.int .i64 a0_0, .int .i64 a0_1, .slice A0_2 l0_2.length c0_2] 26 (0, 0)) (pB B101.out) k_ hk, Kd.freshB (g := g102) (o := .cells #[.int .i64 t108, .int .i64 t109, .slice Ao30 t110.length co30] 26 (0, 0)) (pB B102.out) k_ hk⟩)); (case aO => exact (pY (Kd.S_mono HO_10.out (fun k_ hk => ⟨⟨hk.1, ⟨hk.2.2.1, hk.2.2.2⟩⟩, fun e_ => hk.2.1 e_⟩)))); (case aS => exact (below_size (pS HB.out))); (case aL => have := LMc21.out; omega); intro v114 w33 ho hb hg hat; rw [← Ny113.out] at ho; replace O0 := aK (Kd.V_afterv (ok := (fun k_ => (P1_2_ k_ ∨ w.heap.size ≤ k_) ∧ some k_ ≠ (.slice Ao30 t110.length co30 : Value).ownBlock ∧ k_ ≠ g101 ∧ k_ ≠ g102 ∧ k_ ≠ g106)) (pW (Kd.V_mono O0.out (fun _ hk => ⟨⟨hk.1, ⟨hk.2.2.1, ⟨hk.2.2.2.1, ⟨hk.2.2.2.2.1, hk.2.2.2.2.2⟩⟩⟩⟩, hk.2.1⟩))) hg hat); replace B101 := aK (blk_grown (pB B101.out) hg (Kd.S_away HO_10.out (fun _ hk => hk.2.2.1))); replace B102 := aK (blk_grown (pB B102.out) hg (Kd.S_away HO_10.out (fun _ hk => hk.2.2.2))); replace B106 := aK (blk_grown (pB B106.out) hg (Kd.S_ne HO_10.out B106.out (by decide))); replace HO112 := aK (Kd.V_afterv (ok := (fun k_ => (P1_2_ k_ ∨ w.heap.size ≤ k_) ∧ k_ ≠ g101 ∧ k_ ≠ g102 ∧ k_ ≠ g106)) (pW (Kd.V_mono HV112.out (fun _ hk => ⟨⟨hk.1.1.1.1, ⟨hk.1.1.2, ⟨hk.1.2, hk.2⟩⟩⟩, hk.1.1.1.2⟩))) hg hat); replace HB := aK (hb); have HO115 := aK (ho); clear HO_10; clear ho hb hg hat))
 go_roundg k2
 case measure => have := HJ4.out; have := HK2.out; omega
 case rel => exact ⟨(y113), (wrap64 (x25_2 + 1)), (t108), (t109), (t110), (.slice Ao30 t110.length co30), (by first | rfl | (simp; done) | (simp [*]; done)), H', ⟨by have := HJ4.out; have := HK2.out; omega⟩, ⟨by (with_reducible repeat (first | apply Kd.S_alloc | apply Kd.S_drewN | apply Kd.S_drew)); exact HO115.out⟩, ⟨by (with_reducible repeat (first | apply Kd.V_alloc | apply Kd.V_drewN | apply Kd.V_drew)); exact Kd.V_mono HO112.out (fun _ hk => ⟨hk.1.1, ⟨hk.2, ⟨hk.1.2.1, ⟨hk.1.2.2.1, hk.1.2.2.2⟩⟩⟩⟩)⟩, ⟨by refine bk ?_; exact B101.out⟩, ⟨by refine bk ?_; exact B102.out⟩, ⟨by refine bk ?_; exact B106.out⟩, ⟨pT HB.out⟩⟩
end Go.Proofs.Ytmekfmhnpinjlaa.P
