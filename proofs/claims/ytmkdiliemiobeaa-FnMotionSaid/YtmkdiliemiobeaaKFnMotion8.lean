/- Texts of the claim FnMotion, merged: part 8 of 13: the program's and the reference's functions as Lean functions, the walks that show it, and plain lemmas; no conditions. -/
import Derived.Test.YtmkdiliemiobeaaKFnMotion3
import Derived.Test.YtmkdiliemiobeaaKFnMotion7
import Derived.Test.YtmkdiliemiobeaaKFnMotion2
import Derived.Sort.OwnSorted
import Derived.Test.YtmkdiliemiobeaaKFnMotion6
namespace Go.Proofs.Ytmkdiliemiobeaa.P
open Go.RowKit Go.Proofs.YtmkdiliemiobeaaW.PrintWords Go.Proofs.YtmkdiliemiobeaaW.PrintLast Go.Proofs.YtmkdiliemiobeaaW.PrintMore
attribute [local go_sem] max2_int min2_int max_two min_two max_three min_three max_four min_four
set_option linter.unusedVariables false
set_option linter.unusedSimpArgs false
set_option maxHeartbeats 8000000
set_option maxRecDepth 100000
theorem dS {w W0 W : World} (h : Aside0 (w.drawn ≤ W0.drawn)) (step : W0.drawn ≤ W.drawn := by first | exact Nat.le_refl _ | (simp only [World.drew, World.drewN, World.alloc, World.setCell]; done) | (simp only [World.drew, World.drewN, World.alloc, World.setCell]; omega) | omega) : Aside0 (w.drawn ≤ W.drawn) := ⟨Nat.le_trans h.out step⟩
theorem dD {w W0 W w1 : World} (h : Aside0 (w.drawn ≤ W0.drawn)) (hd : w1.drawn = W.drawn) (step : W0.drawn ≤ W.drawn := by first | exact Nat.le_refl _ | (simp only [World.drew, World.drewN, World.alloc, World.setCell]; done) | (simp only [World.drew, World.drewN, World.alloc, World.setCell]; omega) | omega) : Aside0 (w.drawn ≤ w1.drawn) := ⟨by rw [hd]; exact Nat.le_trans h.out step⟩
section
variable {P : Program} {ops : Array Oper} {rest : List Oper} {o : Oper} {a : Act} {Q : Exit → Act → World → Prop} {Kc : Act → World → Prop}
theorem box_eventD {W : World} (hgd : o.guard = none) {N : Tmp} (_hd : o.dst = some N) {cs : Array Value} {t : TypeId}
    (hrun : (execOp a.eval o).run P W = .ok (.value (.pointer (some ⟨W.heap.size, 0, none⟩))) (W.alloc (.cells cs t (0, 0))))
    (h : ∀ g, g = W.heap.size → ∀ w1, w1.heap[g]? = some (.cells cs t (0, 0)) → Below W.heap.size W w1 → w1.drawn = W.drawn → wpList P ops Q rest (a.put o.dst (.pointer (some ⟨g, 0, none⟩))) w1) : wpList P ops Q (o :: rest) a W :=
  Kd.event_run hgd hrun (h _ rfl _ (blk_new W _) (below_alloc (Below.refl _ _) _) rfl)
theorem box_stepD {W : World} (hw : Region.wanted o (yielded ops a.tmps) = true) {N : Tmp} (_hd : o.dst = some N) {cs : Array Value} {t : TypeId}
    (hrun : (execOp a.eval o).run P W = .ok (.value (.pointer (some ⟨W.heap.size, 0, none⟩))) (W.alloc (.cells cs t (0, 0))))
    (h : ∀ g, g = W.heap.size → ∀ w1, w1.heap[g]? = some (.cells cs t (0, 0)) → Below W.heap.size W w1 → w1.drawn = W.drawn → Kc (a.put o.dst (.pointer (some ⟨g, 0, none⟩))) w1) : if Region.wanted o (yielded ops a.tmps) = true then Oper.wp P o a W Kc Q else Kc (a.put o.dst undef) W :=
  event_step hw hrun (h _ rfl _ (blk_new W _) (below_alloc (Below.refl _ _) _) rfl)
theorem R_lit_stepD {α : Type} (d : Kd α) {w0 W : World} (base e : Nat) (hw : Region.wanted o (yielded ops a.tmps) = true) {N : Tmp} (_hd : o.dst = some N) {xs : List α} {inner : List Value} {ok okp : Nat → Prop}
    (hrun : (execOp a.eval o).run P W = .ok (.value (.slice (some ⟨W.heap.size, 0, none⟩) xs.length xs.length)) (W.alloc (.cells inner.toArray e)))
    (hrep : Reps (d.M W base okp) d.sz xs inner) (hok : ∀ k, okp k → ok k) (hfresh : ok W.heap.size) (HB : Below base w0 W) (hbase : base ≤ W.heap.size) (hm : xs.length ≤ 9223372036854775807)
    (h : ∀ v1 w1, d.R e w1 base ok v1 xs → Below base w0 w1 → W.grownBy w1 none → (∃ b, v1.ownBlock = some b ∧ W.heap.size ≤ b) → w1.drawn = W.drawn → Kc (a.put o.dst v1) w1) : if Region.wanted o (yielded ops a.tmps) = true then Oper.wp P o a W Kc Q else Kc (a.put o.dst undef) W := by
  have h1 := Kd.R_lit_step (Q := Q) (Kc := fun a' w' => w'.drawn = W.drawn → Kc a' w') d base e hw _hd hrun hrep hok hfresh HB hbase hm (fun v1 w1 r b g x => h v1 w1 r b g x)
  rw [if_pos hw] at h1 ⊢
  unfold Oper.wp at h1 ⊢
  rw [hrun] at h1 ⊢
  exact h1 rfl
end
theorem impl_RankMotions_1.lays (k : Nat) (a0_0 : Int) (a0_1 : Int) (a0_2 : Int) (a0_3 : Int) (a1_0 : Int) (a1_1 : Int) (a1_2 : Int) (a1_3 : Int) (r : Int) (w : World) (h : impl_RankMotions_1.f k a0_0 a0_1 a0_2 a0_3 a1_0 a1_1 a1_2 a1_3 = some r) :
  Calls Try.prog 17 #[.agg #[.int .i64 a0_0, .int .i64 a0_1, .int .i64 a0_2, .int .i64 a0_3], .agg #[.int .i64 a1_0, .int .i64 a1_1, .int .i64 a1_2, .int .i64 a1_3]] w fun e w' => e = .returned (.int .i64 r) ∧ Below w.heap.size w w' ∧ w.drawn ≤ w'.drawn := by
 have hu46 := Try.underlying46
 have hu33 := Try.underlying33
 have HB := aK (Below.refl w.heap.size w)
 have DR := aK (Nat.le_refl w.drawn)
 have H : ((cmp_Compare_int.f (wrap64 (a0_2 * a1_3)) (wrap64 (a1_2 * a0_3))).bind fun t105 => ((impl_absOf.f a0_0).bind fun t106 => ((impl_absOf.f a0_1).bind fun t107 => ((impl_absOf.f a1_0).bind fun t108 => ((impl_absOf.f a1_1).bind fun t109 => ((cmp_Compare_int.f (wrap64 (t106 + t107)) (wrap64 (t108 + t109))).bind fun t110 => ((cmp_Compare_int.f a0_1 a1_1).bind fun t111 => ((cmp_Compare_int.f a0_0 a1_0).bind fun t112 => ((cmp_Or_int.f k (([t105, t110, t111, t112] : List Int))).bind fun t116 => (some t116)))))))))) = some r := h
 clear h
 replace H := Option.bind_eq_some_iff.mp H
 obtain ⟨t105, A30, H⟩ := H
 replace H : ((impl_absOf.f a0_0).bind fun t106 => ((impl_absOf.f a0_1).bind fun t107 => ((impl_absOf.f a1_0).bind fun t108 => ((impl_absOf.f a1_1).bind fun t109 => ((cmp_Compare_int.f (wrap64 (t106 + t107)) (wrap64 (t108 + t109))).bind fun t110 => ((cmp_Compare_int.f a0_1 a1_1).bind fun t111 => ((cmp_Compare_int.f a0_0 a1_0).bind fun t112 => ((cmp_Or_int.f k (([t105, t110, t111, t112] : List Int))).bind fun t116 => (some t116))))))))) = some r := H
 have A3 := Aside0.mk A30
 clear A30
 replace H := Option.bind_eq_some_iff.mp H
 obtain ⟨t106, A40, H⟩ := H
 replace H : ((impl_absOf.f a0_1).bind fun t107 => ((impl_absOf.f a1_0).bind fun t108 => ((impl_absOf.f a1_1).bind fun t109 => ((cmp_Compare_int.f (wrap64 (t106 + t107)) (wrap64 (t108 + t109))).bind fun t110 => ((cmp_Compare_int.f a0_1 a1_1).bind fun t111 => ((cmp_Compare_int.f a0_0 a1_0).bind fun t112 => ((cmp_Or_int.f k (([t105, t110, t111, t112] : List Int))).bind fun t116 => (some t116)))))))) = some r := H
 have A4 := Aside0.mk A40
 clear A40
 replace H := Option.bind_eq_some_iff.mp H
 obtain ⟨t107, A50, H⟩ := H
 replace H : ((impl_absOf.f a1_0).bind fun t108 => ((impl_absOf.f a1_1).bind fun t109 => ((cmp_Compare_int.f (wrap64 (t106 + t107)) (wrap64 (t108 + t109))).bind fun t110 => ((cmp_Compare_int.f a0_1 a1_1).bind fun t111 => ((cmp_Compare_int.f a0_0 a1_0).bind fun t112 => ((cmp_Or_int.f k (([t105, t110, t111, t112] : List Int))).bind fun t116 => (some t116))))))) = some r := H
 have A5 := Aside0.mk A50
 clear A50
 replace H := Option.bind_eq_some_iff.mp H
 obtain ⟨t108, A60, H⟩ := H
 replace H : ((impl_absOf.f a1_1).bind fun t109 => ((cmp_Compare_int.f (wrap64 (t106 + t107)) (wrap64 (t108 + t109))).bind fun t110 => ((cmp_Compare_int.f a0_1 a1_1).bind fun t111 => ((cmp_Compare_int.f a0_0 a1_0).bind fun t112 => ((cmp_Or_int.f k (([t105, t110, t111, t112] : List Int))).bind fun t116 => (some t116)))))) = some r := H
 have A6 := Aside0.mk A60
 clear A60
 replace H := Option.bind_eq_some_iff.mp H
 obtain ⟨t109, A70, H⟩ := H
 replace H : ((cmp_Compare_int.f (wrap64 (t106 + t107)) (wrap64 (t108 + t109))).bind fun t110 => ((cmp_Compare_int.f a0_1 a1_1).bind fun t111 => ((cmp_Compare_int.f a0_0 a1_0).bind fun t112 => ((cmp_Or_int.f k (([t105, t110, t111, t112] : List Int))).bind fun t116 => (some t116))))) = some r := H
 have A7 := Aside0.mk A70
 clear A70
 replace H := Option.bind_eq_some_iff.mp H
 obtain ⟨t110, A80, H⟩ := H
 replace H : ((cmp_Compare_int.f a0_1 a1_1).bind fun t111 => ((cmp_Compare_int.f a0_0 a1_0).bind fun t112 => ((cmp_Or_int.f k (([t105, t110, t111, t112] : List Int))).bind fun t116 => (some t116)))) = some r := H
 have A8 := Aside0.mk A80
 clear A80
 replace H := Option.bind_eq_some_iff.mp H
 obtain ⟨t111, A90, H⟩ := H
 replace H : ((cmp_Compare_int.f a0_0 a1_0).bind fun t112 => ((cmp_Or_int.f k (([t105, t110, t111, t112] : List Int))).bind fun t116 => (some t116))) = some r := H
 have A9 := Aside0.mk A90
 clear A90
 replace H := Option.bind_eq_some_iff.mp H
 obtain ⟨t112, A100, H⟩ := H
 replace H : ((cmp_Or_int.f k (([t105, t110, t111, t112] : List Int))).bind fun t116 => (some t116)) = some r := H
 have A10 := Aside0.mk A100
 clear A100
 obtain ⟨y113, hy113⟩ : ∃ y_ : List Int, y_ = (([t105, t110, t111, t112] : List Int)) := ⟨_, rfl⟩
 replace H : ((cmp_Or_int.f k y113).bind fun t116 => (some t116)) = some r := by first | (rw [hy113]; with_reducible exact H) | (have H2_ := (Option.bind_some _ _).symm.trans H; rw [hy113]; with_reducible exact H2_) | (have H2_ := (Option.bind_some _ _).symm.trans H; with_reducible exact H2_) | with_reducible exact H | (rw [hy113]; exact H) | exact H
 have Ny113 := Aside0.mk hy113
 clear hy113
 replace H := Option.bind_eq_some_iff.mp H
 obtain ⟨t116, A110, H⟩ := H
 replace H : (some t116) = some r := H
 have A11 := Aside0.mk A110
 clear A110
 obtain rfl := Option.some.inj H
 go_enter Try.func17, Try.ntmps17
 try go_wp2_with (first | ((with_reducible refine gate_dst (N := 2) rfl ?_); refine box_eventD ?hg (N := 2) ?hd (cs := #[.int .i64 a0_0, .int .i64 a0_1, .int .i64 a0_2, .int .i64 a0_3]) (t := 46) ?hr ?_; (case hd => rfl); (case hg => rfl); (case hr => first | (go_simp; done) | (go_simp; rfl)); intro gb101 hg w12 hbox hb hd; replace DR := dD DR hd; have BK101 := aK (hbox); have GW101 := aK (gE hg (pS HB.out)); have GE101 := GW101; replace HB := bS HB hb; clear hb hd hbox hg) | ((with_reducible refine gate_dst (N := 3) rfl ?_); refine box_eventD ?hg (N := 3) ?hd (cs := #[.int .i64 a1_0, .int .i64 a1_1, .int .i64 a1_2, .int .i64 a1_3]) (t := 46) ?hr ?_; (case hd => rfl); (case hg => rfl); (case hr => first | (go_simp; done) | (go_simp; rfl)); intro gb102 hg w13 hbox hb hd; replace DR := dD DR hd; have BK102 := aK (hbox); have GW102 := aK (gE hg (pS HB.out)); have GE102 := GW102; obtain ⟨NB101_102, NB102_101⟩ := nb hg (pB BK101.out); replace BK101 := bB BK101 hb; replace HB := bS HB hb; clear hb hd hbox hg))
 replace BK101 := aK (blk_drew BK101.out)
 replace BK102 := aK (blk_drew BK102.out)
 replace HB := aK (below_drew1 HB.out)
 refine start_ (n := 8) (S := fun w' => w'.cell? ⟨gb101, 0, none⟩ = some (.int .i64 a0_0) ∧ w'.cell? ⟨gb101, 1, none⟩ = some (.int .i64 a0_1) ∧ w'.cell? ⟨gb101, 2, none⟩ = some (.int .i64 a0_2) ∧ w'.cell? ⟨gb101, 3, none⟩ = some (.int .i64 a0_3) ∧ w'.cell? ⟨gb102, 0, none⟩ = some (.int .i64 a1_0) ∧ w'.cell? ⟨gb102, 1, none⟩ = some (.int .i64 a1_1) ∧ w'.cell? ⟨gb102, 2, none⟩ = some (.int .i64 a1_2) ∧ w'.cell? ⟨gb102, 3, none⟩ = some (.int .i64 a1_3)) (ds := []) (bz [0, 8]) (by kernel_rfl) rfl rfl (cj4 BK101.out (cz4 BK102.out)) (fun hHeld => ?_); refine with_tabW impl_RankMotions_1.tab1 impl_RankMotions_1.bits1 (fun HT_ HW_ => ?_)
 replace DR := dS (W := w13.drew) DR
 generalize w13.drew = w14 at BK101 BK102 HB hHeld DR ⊢
 refine pz 0 7 [1, 7] HT_.out ?_
 refine pz 2 9 [1, 1, 1, 5] HT_.out ?_
 refine tk (i := 1) (N := some 8) (bz [3, 5]) rfl rfl HT_.out HW_.out (Or.inl ⟨by rfl, by rintro w' ⟨s0, s1, s2, s3, s4, s5, s6, s7⟩; go_simp; with_reducible rfl⟩) hHeld ?_
 refine tk (i := 3) (N := some 10) (bz [4, 4]) rfl rfl HT_.out HW_.out (Or.inl ⟨by rfl, by rintro w' ⟨s0, s1, s2, s3, s4, s5, s6, s7⟩; go_simp; with_reducible rfl⟩) hHeld ?_
 refine join_ (σ := Nat × Nat) 2 (bz [6, 2]) (fun s_ => [(5, .pointer (some ⟨s_.1, 0, none⟩)), (6, .pointer (some ⟨s_.2, 0, none⟩))]) (fun s_ w' => (w'.cell? ⟨gb101, 0, none⟩ = some (.int .i64 a0_0) ∧ w'.cell? ⟨gb101, 1, none⟩ = some (.int .i64 a0_1) ∧ w'.cell? ⟨gb101, 2, none⟩ = some (.int .i64 a0_2) ∧ w'.cell? ⟨gb101, 3, none⟩ = some (.int .i64 a0_3) ∧ w'.cell? ⟨gb102, 0, none⟩ = some (.int .i64 a1_0) ∧ w'.cell? ⟨gb102, 1, none⟩ = some (.int .i64 a1_1) ∧ w'.cell? ⟨gb102, 2, none⟩ = some (.int .i64 a1_2) ∧ w'.cell? ⟨gb102, 3, none⟩ = some (.int .i64 a1_3)) ∧ (w'.heap[gb101]? = some (.cells #[.int .i64 a0_0, .int .i64 a0_1, .int .i64 a0_2, .int .i64 a0_3] 46 (0, 0))) ∧ (w'.heap[gb102]? = some (.cells #[.int .i64 a1_0, .int .i64 a1_1, .int .i64 a1_2, .int .i64 a1_3] 46 (0, 0))) ∧ (w'.heap[s_.1]? = some (.cells #[.int .i64 0, .int .i64 0] 33 (0, 0))) ∧ (w'.heap[s_.2]? = some (.cells #[.int .i64 0, .int .i64 0] 33 (0, 0))) ∧ (w.heap.size ≤ s_.1) ∧ (w.heap.size ≤ s_.1) ∧ (gb101 ≠ s_.1) ∧ (s_.1 ≠ gb101) ∧ (gb102 ≠ s_.1) ∧ (s_.1 ≠ gb102) ∧ (s_.2 ≠ s_.1) ∧ (s_.1 ≠ s_.2) ∧ (w.heap.size ≤ s_.2) ∧ (w.heap.size ≤ s_.2) ∧ (gb101 ≠ s_.2) ∧ (s_.2 ≠ gb101) ∧ (gb102 ≠ s_.2) ∧ (s_.2 ≠ gb102) ∧ (Below w.heap.size w w') ∧ (w.drawn ≤ w'.drawn)) ?_ ?_
 rotate_left
 ·
  intro hCont
  refine two_ (i := 4) (j := 5) (Ni := some 5) (Nj := some 6) (bz [5, 3]) (bz [4, 1, 1, 2]) rfl rfl rfl rfl (two_of HT_.out (by kernel_rfl)) (by decide) (by decide) (fun K hK => ?_) (fun K hK => ?_)
  ·
   skip
   refine box_stepD ?hg (N := 5) ?hd (cs := #[.int .i64 0, .int .i64 0]) (t := 33) ?hr ?_; (case hd => rfl); (case hg => rfl); (case hr => first | (go_simp; done) | (go_simp; rfl))
   intro gb103 hg w15 hbox hb hd
   replace DR := dD DR hd; have BK103 := aK (hbox); have GW103 := aK (gE hg (pS HB.out)); have GE103 := GW103; obtain ⟨NB101_103, NB103_101⟩ := nb hg (pB BK101.out); obtain ⟨NB102_103, NB103_102⟩ := nb hg (pB BK102.out); replace BK101 := bB BK101 hb; replace BK102 := bB BK102 hb; replace HB := bS HB hb; clear hb hd hbox hg
   refine hK.out _ _ (cj4 BK101.out (cz4 BK102.out)) (fun hHeld => ?_)
   clear hK K
   refine norm_ (a' := ?_) ?_ ?_
   rotate_left
   ·
    show Act.put _ (some 5) _ = _
    simp only [sP]
    rfl
   refine one_ (i := 5) (N := some 6) (bz [6, 2]) rfl rfl (one_of HT_.out (by kernel_rfl)) (by decide) (fun K hK => ?_)
   refine box_stepD ?hg (N := 6) ?hd (cs := #[.int .i64 0, .int .i64 0]) (t := 33) ?hr ?_; (case hd => rfl); (case hg => rfl); (case hr => first | (go_simp; done) | (go_simp; rfl))
   intro gb104 hg w16 hbox hb hd
   replace DR := dD DR hd; have BK104 := aK (hbox); have GW104 := aK (gE hg (pS HB.out)); have GE104 := GW104; obtain ⟨NB101_104, NB104_101⟩ := nb hg (pB BK101.out); obtain ⟨NB102_104, NB104_102⟩ := nb hg (pB BK102.out); obtain ⟨NB103_104, NB104_103⟩ := nb hg (pB BK103.out); replace BK101 := bB BK101 hb; replace BK102 := bB BK102 hb; replace BK103 := bB BK103 hb; replace HB := bS HB hb; clear hb hd hbox hg
   refine hK.out _ _ (cj4 BK101.out (cz4 BK102.out)) (fun hHeld => ?_)
   clear hK K
   refine norm_ (a' := ?_) ?_ ?_
   rotate_left
   ·
    show Act.put _ (some 6) _ = _
    simp only [sP]
    rfl
   exact norm_ (by simp only [putAll, Act.put, List.setIfInBounds_toArray, List.set_cons_zero, List.set_cons_succ]) (hCont (gb103, gb104) _ ⟨hHeld, (pB BK101.out), (pB BK102.out), (pB BK103.out), (pB BK104.out), GW103.out, GE103.out, NB101_103.out, NB103_101.out, NB102_103.out, NB103_102.out, NB104_103.out, NB103_104.out, GW104.out, GE104.out, NB101_104.out, NB104_101.out, NB102_104.out, NB104_102.out, (pS HB.out), (dS DR).out⟩)
  skip
  refine box_stepD ?hg (N := 6) ?hd (cs := #[.int .i64 0, .int .i64 0]) (t := 33) ?hr ?_; (case hd => rfl); (case hg => rfl); (case hr => first | (go_simp; done) | (go_simp; rfl))
  intro gb104 hg w15 hbox hb hd
  replace DR := dD DR hd; have BK104 := aK (hbox); have GW104 := aK (gE hg (pS HB.out)); have GE104 := GW104; obtain ⟨NB101_104, NB104_101⟩ := nb hg (pB BK101.out); obtain ⟨NB102_104, NB104_102⟩ := nb hg (pB BK102.out); replace BK101 := bB BK101 hb; replace BK102 := bB BK102 hb; replace HB := bS HB hb; clear hb hd hbox hg
  refine hK.out _ _ (cj4 BK101.out (cz4 BK102.out)) (fun hHeld => ?_)
  clear hK K
  refine norm_ (a' := ?_) ?_ ?_
  rotate_left
  ·
   show Act.put _ (some 6) _ = _
   simp only [sP]
   rfl
  refine one_ (i := 4) (N := some 5) (bz [6, 2]) rfl rfl (one_of HT_.out (by kernel_rfl)) (by decide) (fun K hK => ?_)
  refine box_stepD ?hg (N := 5) ?hd (cs := #[.int .i64 0, .int .i64 0]) (t := 33) ?hr ?_; (case hd => rfl); (case hg => rfl); (case hr => first | (go_simp; done) | (go_simp; rfl))
  intro gb103 hg w16 hbox hb hd
  replace DR := dD DR hd; have BK103 := aK (hbox); have GW103 := aK (gE hg (pS HB.out)); have GE103 := GW103; obtain ⟨NB101_103, NB103_101⟩ := nb hg (pB BK101.out); obtain ⟨NB102_103, NB103_102⟩ := nb hg (pB BK102.out); obtain ⟨NB104_103, NB103_104⟩ := nb hg (pB BK104.out); replace BK101 := bB BK101 hb; replace BK102 := bB BK102 hb; replace BK104 := bB BK104 hb; replace HB := bS HB hb; clear hb hd hbox hg
  refine hK.out _ _ (cj4 BK101.out (cz4 BK102.out)) (fun hHeld => ?_)
  clear hK K
  refine norm_ (a' := ?_) ?_ ?_
  rotate_left
  ·
   show Act.put _ (some 5) _ = _
   simp only [sP]
   rfl
  exact norm_ (by simp only [putAll, Act.put, List.setIfInBounds_toArray, List.set_cons_zero, List.set_cons_succ]) (hCont (gb103, gb104) _ ⟨hHeld, (pB BK101.out), (pB BK102.out), (pB BK103.out), (pB BK104.out), GW103.out, GE103.out, NB101_103.out, NB103_101.out, NB102_103.out, NB103_102.out, NB104_103.out, NB103_104.out, GW104.out, GE104.out, NB101_104.out, NB104_101.out, NB102_104.out, NB104_102.out, (pS HB.out), (dS DR).out⟩)
 rintro ⟨gb103, gb104⟩ w17 ⟨hS_, h0_, h1_, h2_, h3_, h4_, h5_, h6_, h7_, h8_, h9_, h10_, h11_, h12_, h13_, h14_, h15_, h16_, h17_, h18_, h19_⟩
 replace DR := aK h19_
 clear h19_
 replace BK101 : Aside0 (w17.heap[gb101]? = some (.cells #[.int .i64 a0_0, .int .i64 a0_1, .int .i64 a0_2, .int .i64 a0_3] 46 (0, 0))) := ⟨h0_⟩
 replace BK102 : Aside0 (w17.heap[gb102]? = some (.cells #[.int .i64 a1_0, .int .i64 a1_1, .int .i64 a1_2, .int .i64 a1_3] 46 (0, 0))) := ⟨h1_⟩
 have n2_ : Aside0 (w17.heap[gb103]? = some (.cells #[.int .i64 0, .int .i64 0] 33 (0, 0))) := ⟨h2_⟩
 have n3_ : Aside0 (w17.heap[gb104]? = some (.cells #[.int .i64 0, .int .i64 0] 33 (0, 0))) := ⟨h3_⟩
 have n4_ : Aside0 (w.heap.size ≤ gb103) := ⟨h4_⟩
 have n5_ : Aside0 (w.heap.size ≤ gb103) := ⟨h5_⟩
 have n6_ : Aside0 (gb101 ≠ gb103) := ⟨h6_⟩
 have n7_ : Aside0 (gb103 ≠ gb101) := ⟨h7_⟩
 have n8_ : Aside0 (gb102 ≠ gb103) := ⟨h8_⟩
 have n9_ : Aside0 (gb103 ≠ gb102) := ⟨h9_⟩
 have n10_ : Aside0 (gb104 ≠ gb103) := ⟨h10_⟩
 have n11_ : Aside0 (gb103 ≠ gb104) := ⟨h11_⟩
 have n12_ : Aside0 (w.heap.size ≤ gb104) := ⟨h12_⟩
 have n13_ : Aside0 (w.heap.size ≤ gb104) := ⟨h13_⟩
 have n14_ : Aside0 (gb101 ≠ gb104) := ⟨h14_⟩
 have n15_ : Aside0 (gb104 ≠ gb101) := ⟨h15_⟩
 have n16_ : Aside0 (gb102 ≠ gb104) := ⟨h16_⟩
 have n17_ : Aside0 (gb104 ≠ gb102) := ⟨h17_⟩
 replace HB : Aside0 (Below w.heap.size w w17) := ⟨h18_⟩
 clear h0_ h1_ h2_ h3_ h4_ h5_ h6_ h7_ h8_ h9_ h10_ h11_ h12_ h13_ h14_ h15_ h16_ h17_ h18_
 have BK103 := n2_
 have BK104 := n3_
 have GW103 := n4_
 have GE103 := n5_
 have NB101_103 := n6_
 have NB103_101 := n7_
 have NB102_103 := n8_
 have NB103_102 := n9_
 have NB104_103 := n10_
 have NB103_104 := n11_
 have GW104 := n12_
 have GE104 := n13_
 have NB101_104 := n14_
 have NB104_101 := n15_
 have NB102_104 := n16_
 have NB104_102 := n17_
 clear n2_ n3_ n4_ n5_ n6_ n7_ n8_ n9_ n10_ n11_ n12_ n13_ n14_ n15_ n16_ n17_
 have hHeld : w17.cell? ⟨gb101, 0, none⟩ = some (.int .i64 a0_0) ∧ w17.cell? ⟨gb101, 1, none⟩ = some (.int .i64 a0_1) ∧ w17.cell? ⟨gb101, 2, none⟩ = some (.int .i64 a0_2) ∧ w17.cell? ⟨gb101, 3, none⟩ = some (.int .i64 a0_3) ∧ w17.cell? ⟨gb102, 0, none⟩ = some (.int .i64 a1_0) ∧ w17.cell? ⟨gb102, 1, none⟩ = some (.int .i64 a1_1) ∧ w17.cell? ⟨gb102, 2, none⟩ = some (.int .i64 a1_2) ∧ w17.cell? ⟨gb102, 3, none⟩ = some (.int .i64 a1_3) := hS_
 refine norm_ (a' := ?_) ?_ ?_
 rotate_left
 ·
  simp only [putAll, Act.put, List.setIfInBounds_toArray, List.set_cons_zero, List.set_cons_succ]
  rfl
 refine one_ (i := 6) (N := none) (bz [7, 1]) rfl rfl (one_of HT_.out (by kernel_rfl)) (by decide) (fun K hK => ?_)
 have hs18 : w17.cell? ⟨gb103, 0, none⟩ = some (.int .i64 0) := (blk_cell BK103.out 0).trans rfl
 have hfs18 := blk_frozen BK103.out 0
 have hns18_0 := NB101_103.out
 have hns18_1 := NB102_103.out
 have hns18_3 := NB104_103.out
 have hms18_0 := NB103_101.out
 have hms18_1 := NB103_102.out
 have hms18_3 := NB103_104.out
 have hs19 : w17.cell? ⟨gb103, 1, none⟩ = some (.int .i64 0) := (blk_cell BK103.out 1).trans rfl
 have hfs19 := blk_frozen BK103.out 1
 have hns19_0 := NB101_103.out
 have hns19_1 := NB102_103.out
 have hns19_3 := NB104_103.out
 have hms19_0 := NB103_101.out
 have hms19_1 := NB103_102.out
 have hms19_3 := NB103_104.out
 refine skip_ (w1 := ?_) (by rfl) rfl ?_ ?_
 rotate_left
 ·
  go_simp
  rfl
 refine hK.out _ _ ⟨(cf2 NB101_103 hHeld.1), (cf2 NB101_103 hHeld.2.1), (cf2 NB101_103 hHeld.2.2.1), (cf2 NB101_103 hHeld.2.2.2.1), (cf2 NB102_103 hHeld.2.2.2.2.1), (cf2 NB102_103 hHeld.2.2.2.2.2.1), (cf2 NB102_103 hHeld.2.2.2.2.2.2.1), (cf2 NB102_103 hHeld.2.2.2.2.2.2.2)⟩ (fun hHeld => ?_)
 clear hK K
 refine one_ (i := 7) (N := none) (bz [8, 0]) rfl rfl (one_of HT_.out (by kernel_rfl)) (by decide) (fun K hK => ?_)
 have hs20 : w17.cell? ⟨gb104, 0, none⟩ = some (.int .i64 0) := (blk_cell BK104.out 0).trans rfl
 have hfs20 := blk_frozen BK104.out 0
 have hns20_0 := NB101_104.out
 have hns20_1 := NB102_104.out
 have hns20_2 := NB103_104.out
 have hms20_0 := NB104_101.out
 have hms20_1 := NB104_102.out
 have hms20_2 := NB104_103.out
 have hs21 : w17.cell? ⟨gb104, 1, none⟩ = some (.int .i64 0) := (blk_cell BK104.out 1).trans rfl
 have hfs21 := blk_frozen BK104.out 1
 have hns21_0 := NB101_104.out
 have hns21_1 := NB102_104.out
 have hns21_2 := NB103_104.out
 have hms21_0 := NB104_101.out
 have hms21_1 := NB104_102.out
 have hms21_2 := NB104_103.out
 refine skip_ (w1 := ?_) (by rfl) rfl ?_ ?_
 rotate_left
 ·
  go_simp
  rfl
 refine hK.out _ _ ⟨(cf2 NB101_104 hHeld.1), (cf2 NB101_104 hHeld.2.1), (cf2 NB101_104 hHeld.2.2.1), (cf2 NB101_104 hHeld.2.2.2.1), (cf2 NB102_104 hHeld.2.2.2.2.1), (cf2 NB102_104 hHeld.2.2.2.2.2.1), (cf2 NB102_104 hHeld.2.2.2.2.2.2.1), (cf2 NB102_104 hHeld.2.2.2.2.2.2.2)⟩ (fun hHeld => ?_)
 clear hK K
 refine done_ (done_of HT_.out (by kernel_rfl)) ?_
 try go_wp2
 have n0_ : Aside0 (((((w17.setCell ⟨gb103, 0, none⟩ (.int .i64 a0_0)).setCell ⟨gb103, 1, none⟩ (.int .i64 a0_1)).setCell ⟨gb104, 0, none⟩ (.int .i64 a1_0)).setCell ⟨gb104, 1, none⟩ (.int .i64 a1_1)).heap[gb101]? = some (.cells #[.int .i64 a0_0, .int .i64 a0_1, .int .i64 a0_2, .int .i64 a0_3] 46 (0, 0))) := ⟨by refine bk ?_; refine blk_far ?_ NB101_104.out _; refine bk ?_; refine blk_far ?_ NB101_104.out _; refine bk ?_; refine blk_far ?_ NB101_103.out _; refine bk ?_; refine blk_far ?_ NB101_103.out _; refine bk ?_; exact BK101.out⟩
 have n1_ : Aside0 (((((w17.setCell ⟨gb103, 0, none⟩ (.int .i64 a0_0)).setCell ⟨gb103, 1, none⟩ (.int .i64 a0_1)).setCell ⟨gb104, 0, none⟩ (.int .i64 a1_0)).setCell ⟨gb104, 1, none⟩ (.int .i64 a1_1)).heap[gb102]? = some (.cells #[.int .i64 a1_0, .int .i64 a1_1, .int .i64 a1_2, .int .i64 a1_3] 46 (0, 0))) := ⟨by refine bk ?_; refine blk_far ?_ NB102_104.out _; refine bk ?_; refine blk_far ?_ NB102_104.out _; refine bk ?_; refine blk_far ?_ NB102_103.out _; refine bk ?_; refine blk_far ?_ NB102_103.out _; refine bk ?_; exact BK102.out⟩
 have n2_ : Aside0 (((((w17.setCell ⟨gb103, 0, none⟩ (.int .i64 a0_0)).setCell ⟨gb103, 1, none⟩ (.int .i64 a0_1)).setCell ⟨gb104, 0, none⟩ (.int .i64 a1_0)).setCell ⟨gb104, 1, none⟩ (.int .i64 a1_1)).heap[gb103]? = some (.cells #[.int .i64 a0_0, .int .i64 a0_1] 33 (0, 0))) := ⟨by refine bk ?_; refine blk_far ?_ NB103_104.out _; refine bk ?_; refine blk_far ?_ NB103_104.out _; refine bk ?_; refine blk_put (cs := #[.int .i64 a0_0, .int .i64 0]) ?_ 1 _ rfl; refine bk ?_; refine blk_put (cs := #[.int .i64 0, .int .i64 0]) ?_ 0 _ rfl; refine bk ?_; exact BK103.out⟩
 have n3_ : Aside0 (((((w17.setCell ⟨gb103, 0, none⟩ (.int .i64 a0_0)).setCell ⟨gb103, 1, none⟩ (.int .i64 a0_1)).setCell ⟨gb104, 0, none⟩ (.int .i64 a1_0)).setCell ⟨gb104, 1, none⟩ (.int .i64 a1_1)).heap[gb104]? = some (.cells #[.int .i64 a1_0, .int .i64 a1_1] 33 (0, 0))) := ⟨by refine bk ?_; refine blk_put (cs := #[.int .i64 a1_0, .int .i64 0]) ?_ 1 _ rfl; refine bk ?_; refine blk_put (cs := #[.int .i64 0, .int .i64 0]) ?_ 0 _ rfl; refine bk ?_; refine blk_far ?_ NB104_103.out _; refine bk ?_; refine blk_far ?_ NB104_103.out _; refine bk ?_; exact BK104.out⟩
 have n4_ : Aside0 (Below w.heap.size w ((((w17.setCell ⟨gb103, 0, none⟩ (.int .i64 a0_0)).setCell ⟨gb103, 1, none⟩ (.int .i64 a0_1)).setCell ⟨gb104, 0, none⟩ (.int .i64 a1_0)).setCell ⟨gb104, 1, none⟩ (.int .i64 a1_1))) := ⟨pT HB.out⟩
 (try clear BK101)
 (try clear BK102)
 (try clear BK103)
 (try clear BK104)
 (try clear HB)
 replace DR := dS (W := ((((w17.setCell ⟨gb103, 0, none⟩ (.int .i64 a0_0)).setCell ⟨gb103, 1, none⟩ (.int .i64 a0_1)).setCell ⟨gb104, 0, none⟩ (.int .i64 a1_0)).setCell ⟨gb104, 1, none⟩ (.int .i64 a1_1))) DR
 generalize ((((w17.setCell ⟨gb103, 0, none⟩ (.int .i64 a0_0)).setCell ⟨gb103, 1, none⟩ (.int .i64 a0_1)).setCell ⟨gb104, 0, none⟩ (.int .i64 a1_0)).setCell ⟨gb104, 1, none⟩ (.int .i64 a1_1)) = w22 at n0_ n1_ n2_ n3_ n4_ DR ⊢
 have BK101 := n0_
 have BK102 := n1_
 have BK103 := n2_
 have BK104 := n3_
 have HB := n4_
 clear n0_ n1_ n2_ n3_ n4_
 replace BK101 := aK (blk_drew BK101.out)
 replace BK102 := aK (blk_drew BK102.out)
 replace BK103 := aK (blk_drew BK103.out)
 replace BK104 := aK (blk_drew BK104.out)
 replace HB := aK (below_drew1 HB.out)
 refine start_ (n := 39) (S := fun w' => w'.cell? ⟨gb101, 0, none⟩ = some (.int .i64 a0_0) ∧ w'.cell? ⟨gb101, 1, none⟩ = some (.int .i64 a0_1) ∧ w'.cell? ⟨gb101, 2, none⟩ = some (.int .i64 a0_2) ∧ w'.cell? ⟨gb101, 3, none⟩ = some (.int .i64 a0_3) ∧ w'.cell? ⟨gb102, 0, none⟩ = some (.int .i64 a1_0) ∧ w'.cell? ⟨gb102, 1, none⟩ = some (.int .i64 a1_1) ∧ w'.cell? ⟨gb102, 2, none⟩ = some (.int .i64 a1_2) ∧ w'.cell? ⟨gb102, 3, none⟩ = some (.int .i64 a1_3) ∧ w'.cell? ⟨gb103, 0, none⟩ = some (.int .i64 a0_0) ∧ w'.cell? ⟨gb103, 1, none⟩ = some (.int .i64 a0_1) ∧ w'.cell? ⟨gb104, 0, none⟩ = some (.int .i64 a1_0) ∧ w'.cell? ⟨gb104, 1, none⟩ = some (.int .i64 a1_1)) (ds := []) (bz [0, 39]) (by kernel_rfl) rfl rfl (cj4 BK101.out (cj4 BK102.out (cj2 BK103.out (cz2 BK104.out)))) (fun hHeld => ?_); refine with_tabW impl_RankMotions_1.tab2 impl_RankMotions_1.bits2 (fun HT_ HW_ => ?_)
 replace DR := dS (W := w22.drew) DR
 generalize w22.drew = w23 at BK101 BK102 BK103 BK104 HB hHeld DR ⊢
 refine pz 0 11 [1, 38] HT_.out ?_
 refine pz 2 13 [1, 1, 1, 36] HT_.out ?_
 refine pz 5 16 [1, 1, 1, 2, 1, 33] HT_.out ?_
 refine pz 7 18 [1, 1, 1, 2, 1, 1, 1, 31] HT_.out ?_
 refine pz 11 22 [1, 1, 1, 2, 1, 1, 1, 3, 1, 27] HT_.out ?_
 refine pz 14 25 [1, 1, 1, 2, 1, 1, 1, 3, 1, 2, 1, 24] HT_.out ?_
 refine pz 18 29 [1, 1, 1, 2, 1, 1, 1, 3, 1, 2, 1, 3, 1, 20] HT_.out ?_
 refine pz 21 32 [1, 1, 1, 2, 1, 1, 1, 3, 1, 2, 1, 3, 1, 2, 1, 17] HT_.out ?_
 refine pz 26 37 [1, 1, 1, 2, 1, 1, 1, 3, 1, 2, 1, 3, 1, 2, 1, 4, 1, 12] HT_.out ?_
 refine pz 28 39 [1, 1, 1, 2, 1, 1, 1, 3, 1, 2, 1, 3, 1, 2, 1, 4, 1, 1, 1, 10] HT_.out ?_
 refine pz 31 42 [1, 1, 1, 2, 1, 1, 1, 3, 1, 2, 1, 3, 1, 2, 1, 4, 1, 1, 1, 2, 1, 7] HT_.out ?_
 refine pz 33 44 [1, 1, 1, 2, 1, 1, 1, 3, 1, 2, 1, 3, 1, 2, 1, 4, 1, 1, 1, 2, 1, 1, 1, 5] HT_.out ?_
 refine tk (i := 1) (N := some 12) (bz [3, 2, 1, 1, 1, 3, 1, 2, 1, 3, 1, 2, 1, 4, 1, 1, 1, 2, 1, 1, 1, 5]) rfl rfl HT_.out HW_.out (Or.inl ⟨by rfl, by rintro w' ⟨s0, s1, s2, s3, s4, s5, s6, s7, s8, s9, s10, s11⟩; go_simp; with_reducible rfl⟩) hHeld ?_
 refine tk (i := 3) (N := some 14) (bz [4, 1, 1, 1, 1, 3, 1, 2, 1, 3, 1, 2, 1, 4, 1, 1, 1, 2, 1, 1, 1, 5]) rfl rfl HT_.out HW_.out (Or.inl ⟨by rfl, by rintro w' ⟨s0, s1, s2, s3, s4, s5, s6, s7, s8, s9, s10, s11⟩; go_simp; with_reducible rfl⟩) hHeld ?_
 refine pz 4 15 [6, 1, 1, 3, 1, 2, 1, 3, 1, 2, 1, 4, 1, 1, 1, 2, 1, 1, 1, 5] HT_.out ?_
 refine tk (i := 6) (N := some 17) (bz [8, 3, 1, 2, 1, 3, 1, 2, 1, 4, 1, 1, 1, 2, 1, 1, 1, 5]) rfl rfl HT_.out HW_.out (Or.inl ⟨by rfl, by rintro w' ⟨s0, s1, s2, s3, s4, s5, s6, s7, s8, s9, s10, s11⟩; go_simp; with_reducible rfl⟩) hHeld ?_
 refine tk (i := 8) (N := some 19) (bz [9, 2, 1, 2, 1, 3, 1, 2, 1, 4, 1, 1, 1, 2, 1, 1, 1, 5]) rfl rfl HT_.out HW_.out (Or.inl ⟨by rfl, by rintro w' ⟨s0, s1, s2, s3, s4, s5, s6, s7, s8, s9, s10, s11⟩; go_simp; with_reducible rfl⟩) hHeld ?_
 refine pz 9 20 [10, 1, 1, 2, 1, 3, 1, 2, 1, 4, 1, 1, 1, 2, 1, 1, 1, 5] HT_.out ?_
 refine tk (i := 12) (N := some 23) (bz [10, 1, 2, 1, 1, 3, 1, 2, 1, 4, 1, 1, 1, 2, 1, 1, 1, 5]) rfl rfl HT_.out HW_.out (Or.inl ⟨by rfl, by rintro w' ⟨s0, s1, s2, s3, s4, s5, s6, s7, s8, s9, s10, s11⟩; go_simp; with_reducible rfl⟩) hHeld ?_
 refine tk (i := 15) (N := some 26) (bz [10, 1, 2, 1, 2, 2, 1, 2, 1, 4, 1, 1, 1, 2, 1, 1, 1, 5]) rfl rfl HT_.out HW_.out (Or.inl ⟨by rfl, by rintro w' ⟨s0, s1, s2, s3, s4, s5, s6, s7, s8, s9, s10, s11⟩; go_simp; with_reducible rfl⟩) hHeld ?_
 refine tk (i := 19) (N := some 30) (bz [10, 1, 2, 1, 2, 2, 2, 1, 1, 4, 1, 1, 1, 2, 1, 1, 1, 5]) rfl rfl HT_.out HW_.out (Or.inl ⟨by rfl, by rintro w' ⟨s0, s1, s2, s3, s4, s5, s6, s7, s8, s9, s10, s11⟩; go_simp; with_reducible rfl⟩) hHeld ?_
 refine tk (i := 22) (N := some 33) (bz [10, 1, 2, 1, 2, 2, 2, 1, 2, 3, 1, 1, 1, 2, 1, 1, 1, 5]) rfl rfl HT_.out HW_.out (Or.inl ⟨by rfl, by rintro w' ⟨s0, s1, s2, s3, s4, s5, s6, s7, s8, s9, s10, s11⟩; go_simp; with_reducible rfl⟩) hHeld ?_
 refine tk (i := 27) (N := some 38) (bz [10, 1, 2, 1, 2, 2, 2, 1, 2, 3, 3, 2, 1, 1, 1, 5]) rfl rfl HT_.out HW_.out (Or.inl ⟨by rfl, by rintro w' ⟨s0, s1, s2, s3, s4, s5, s6, s7, s8, s9, s10, s11⟩; go_simp; with_reducible rfl⟩) hHeld ?_
 refine tk (i := 29) (N := some 40) (bz [10, 1, 2, 1, 2, 2, 2, 1, 2, 3, 4, 1, 1, 1, 1, 5]) rfl rfl HT_.out HW_.out (Or.inl ⟨by rfl, by rintro w' ⟨s0, s1, s2, s3, s4, s5, s6, s7, s8, s9, s10, s11⟩; go_simp; with_reducible rfl⟩) hHeld ?_
 refine tk (i := 32) (N := some 43) (bz [10, 1, 2, 1, 2, 2, 2, 1, 2, 3, 4, 1, 3, 5]) rfl rfl HT_.out HW_.out (Or.inl ⟨by rfl, by rintro w' ⟨s0, s1, s2, s3, s4, s5, s6, s7, s8, s9, s10, s11⟩; go_simp; with_reducible rfl⟩) hHeld ?_
 refine tk (i := 34) (N := some 45) (bz [10, 1, 2, 1, 2, 2, 2, 1, 2, 3, 4, 1, 4, 4]) rfl rfl HT_.out HW_.out (Or.inl ⟨by rfl, by rintro w' ⟨s0, s1, s2, s3, s4, s5, s6, s7, s8, s9, s10, s11⟩; go_simp; with_reducible rfl⟩) hHeld ?_
 refine one_ (i := 10) (N := some 21) (bz [13, 1, 2, 2, 2, 1, 2, 3, 4, 1, 4, 4]) rfl rfl (one_of HT_.out (by kernel_rfl)) (by decide) (fun K hK => ?_)
 refine goes_ Try.func19 (by kernel_rfl) rfl #[.int .i64 (wrap64 (a0_2 * a1_3)), .int .i64 (wrap64 (a1_2 * a0_3))] (by rfl) rfl rfl (by (try simp only [List.map_toArray, List.map_cons, List.map_nil]); first | done | rfl | (simp only [List.length_drop, List.length_take]; rfl)) ?_
 with_reducible refine (cmp_Compare_int.calls (wrap64 (a0_2 * a1_3)) (wrap64 (a1_2 * a0_3)) t105 _ A3.out).mono ?_
 rintro e w' ⟨rfl, ⟨nd, rfl⟩⟩
 refine ⟨_, rfl, ?_⟩
 refine hK.out _ _ (cj4 BK101.out (cj4 BK102.out (cj2 BK103.out (cz2 BK104.out)))) (fun hHeld => ?_)
 clear hK K
 refine norm_ (a' := ?_) ?_ ?_
 rotate_left
 ·
  show Act.put _ (some 21) _ = _
  simp only [sP]
  rfl
 refine one_ (i := 13) (N := some 24) (bz [16, 2, 2, 1, 2, 3, 4, 1, 4, 4]) rfl rfl (one_of HT_.out (by kernel_rfl)) (by decide) (fun K hK => ?_)
 refine goes_ Try.func20 (by kernel_rfl) rfl #[.int .i64 a0_0] (by rfl) rfl rfl (by (try simp only [List.map_toArray, List.map_cons, List.map_nil]); first | done | rfl | (simp only [List.length_drop, List.length_take]; rfl)) ?_
 with_reducible refine (impl_absOf.calls a0_0 t106 _ A4.out).mono ?_
 rintro e w' ⟨rfl, ⟨nd, rfl⟩⟩
 refine ⟨_, rfl, ?_⟩
 refine hK.out _ _ (cj4 BK101.out (cj4 BK102.out (cj2 BK103.out (cz2 BK104.out)))) (fun hHeld => ?_)
 clear hK K
 refine norm_ (a' := ?_) ?_ ?_
 rotate_left
 ·
  show Act.put _ (some 24) _ = _
  simp only [sP]
  rfl
 refine one_ (i := 16) (N := some 27) (bz [17, 1, 2, 1, 2, 3, 4, 1, 4, 4]) rfl rfl (one_of HT_.out (by kernel_rfl)) (by decide) (fun K hK => ?_)
 refine goes_ Try.func20 (by kernel_rfl) rfl #[.int .i64 a0_1] (by rfl) rfl rfl (by (try simp only [List.map_toArray, List.map_cons, List.map_nil]); first | done | rfl | (simp only [List.length_drop, List.length_take]; rfl)) ?_
 with_reducible refine (impl_absOf.calls a0_1 t107 _ A5.out).mono ?_
 rintro e w' ⟨rfl, ⟨nd, rfl⟩⟩
 refine ⟨_, rfl, ?_⟩
 refine hK.out _ _ (cj4 BK101.out (cj4 BK102.out (cj2 BK103.out (cz2 BK104.out)))) (fun hHeld => ?_)
 clear hK K
 refine norm_ (a' := ?_) ?_ ?_
 rotate_left
 ·
  show Act.put _ (some 27) _ = _
  simp only [sP]
  rfl
 refine pz 17 28 [20, 1, 2, 3, 4, 1, 4, 4] HT_.out ?_
 refine one_ (i := 20) (N := some 31) (bz [23, 3, 4, 1, 4, 4]) rfl rfl (one_of HT_.out (by kernel_rfl)) (by decide) (fun K hK => ?_)
 refine goes_ Try.func20 (by kernel_rfl) rfl #[.int .i64 a1_0] (by rfl) rfl rfl (by (try simp only [List.map_toArray, List.map_cons, List.map_nil]); first | done | rfl | (simp only [List.length_drop, List.length_take]; rfl)) ?_
 with_reducible refine (impl_absOf.calls a1_0 t108 _ A6.out).mono ?_
 rintro e w' ⟨rfl, ⟨nd, rfl⟩⟩
 refine ⟨_, rfl, ?_⟩
 refine hK.out _ _ (cj4 BK101.out (cj4 BK102.out (cj2 BK103.out (cz2 BK104.out)))) (fun hHeld => ?_)
 clear hK K
 refine norm_ (a' := ?_) ?_ ?_
 rotate_left
 ·
  show Act.put _ (some 31) _ = _
  simp only [sP]
  rfl
 refine one_ (i := 23) (N := some 34) (bz [24, 2, 4, 1, 4, 4]) rfl rfl (one_of HT_.out (by kernel_rfl)) (by decide) (fun K hK => ?_)
 refine goes_ Try.func20 (by kernel_rfl) rfl #[.int .i64 a1_1] (by rfl) rfl rfl (by (try simp only [List.map_toArray, List.map_cons, List.map_nil]); first | done | rfl | (simp only [List.length_drop, List.length_take]; rfl)) ?_
 with_reducible refine (impl_absOf.calls a1_1 t109 _ A7.out).mono ?_
 rintro e w' ⟨rfl, ⟨nd, rfl⟩⟩
 refine ⟨_, rfl, ?_⟩
 refine hK.out _ _ (cj4 BK101.out (cj4 BK102.out (cj2 BK103.out (cz2 BK104.out)))) (fun hHeld => ?_)
 clear hK K
 refine norm_ (a' := ?_) ?_ ?_
 rotate_left
 ·
  show Act.put _ (some 34) _ = _
  simp only [sP]
  rfl
 refine pz 24 35 [25, 1, 4, 1, 4, 4] HT_.out ?_
 refine one_ (i := 25) (N := some 36) (bz [30, 1, 4, 4]) rfl rfl (one_of HT_.out (by kernel_rfl)) (by decide) (fun K hK => ?_)
 refine goes_ Try.func19 (by kernel_rfl) rfl #[.int .i64 (wrap64 (t106 + t107)), .int .i64 (wrap64 (t108 + t109))] (by rfl) rfl rfl (by (try simp only [List.map_toArray, List.map_cons, List.map_nil]); first | done | rfl | (simp only [List.length_drop, List.length_take]; rfl)) ?_
 with_reducible refine (cmp_Compare_int.calls (wrap64 (t106 + t107)) (wrap64 (t108 + t109)) t110 _ A8.out).mono ?_
 rintro e w' ⟨rfl, ⟨nd, rfl⟩⟩
 refine ⟨_, rfl, ?_⟩
 refine hK.out _ _ (cj4 BK101.out (cj4 BK102.out (cj2 BK103.out (cz2 BK104.out)))) (fun hHeld => ?_)
 clear hK K
 refine norm_ (a' := ?_) ?_ ?_
 rotate_left
 ·
  show Act.put _ (some 36) _ = _
  simp only [sP]
  rfl
 refine one_ (i := 30) (N := some 41) (bz [35, 4]) rfl rfl (one_of HT_.out (by kernel_rfl)) (by decide) (fun K hK => ?_)
 refine goes_ Try.func19 (by kernel_rfl) rfl #[.int .i64 a0_1, .int .i64 a1_1] (by rfl) rfl rfl (by (try simp only [List.map_toArray, List.map_cons, List.map_nil]); first | done | rfl | (simp only [List.length_drop, List.length_take]; rfl)) ?_
 with_reducible refine (cmp_Compare_int.calls a0_1 a1_1 t111 _ A9.out).mono ?_
 rintro e w' ⟨rfl, ⟨nd, rfl⟩⟩
 refine ⟨_, rfl, ?_⟩
 refine hK.out _ _ (cj4 BK101.out (cj4 BK102.out (cj2 BK103.out (cz2 BK104.out)))) (fun hHeld => ?_)
 clear hK K
 refine norm_ (a' := ?_) ?_ ?_
 rotate_left
 ·
  show Act.put _ (some 41) _ = _
  simp only [sP]
  rfl
 refine one_ (i := 35) (N := some 46) (bz [36, 3]) rfl rfl (one_of HT_.out (by kernel_rfl)) (by decide) (fun K hK => ?_)
 refine goes_ Try.func19 (by kernel_rfl) rfl #[.int .i64 a0_0, .int .i64 a1_0] (by rfl) rfl rfl (by (try simp only [List.map_toArray, List.map_cons, List.map_nil]); first | done | rfl | (simp only [List.length_drop, List.length_take]; rfl)) ?_
 with_reducible refine (cmp_Compare_int.calls a0_0 a1_0 t112 _ A10.out).mono ?_
 rintro e w' ⟨rfl, ⟨nd, rfl⟩⟩
 refine ⟨_, rfl, ?_⟩
 refine hK.out _ _ (cj4 BK101.out (cj4 BK102.out (cj2 BK103.out (cz2 BK104.out)))) (fun hHeld => ?_)
 clear hK K
 refine norm_ (a' := ?_) ?_ ?_
 rotate_left
 ·
  show Act.put _ (some 46) _ = _
  simp only [sP]
  rfl
 refine one_ (i := 36) (N := some 47) (bz [37, 2]) rfl rfl (one_of HT_.out (by kernel_rfl)) (by decide) (fun K hK => ?_)
 refine R_lit_stepD (Kd.int .i64) _ 3 ?hg (N := 47) ?hd (xs := ([t105, t110, t111, t112] : List Int)) (inner := [.int .i64 t105, .int .i64 t110, .int .i64 t111, .int .i64 t112]) (ok := fun _ => True) (okp := fun _ => True) ?hr ?hp (fun _ hk => hk) trivial (Below.refl _ _) (Nat.le_refl _) (by simp) ?_; (case hd => rfl); (case hg => rfl); (case hr => first | (go_simp; done) | (go_simp; rfl)); (case hp => exact (Reps.one (show Kd.M (Kd.int .i64) _ _ _ t105 [.int .i64 t105] from rfl) (Reps.one (show Kd.M (Kd.int .i64) _ _ _ t110 [.int .i64 t110] from rfl) (Reps.one (show Kd.M (Kd.int .i64) _ _ _ t111 [.int .i64 t111] from rfl) (Reps.one (show Kd.M (Kd.int .i64) _ _ _ t112 [.int .i64 t112] from rfl) (Reps.none _ _))))))
 intro v114 w24 ho25 hb hg_ hnew_ hd
 replace DR := dD DR hd
 clear hd
 clear hg_ hnew_
 (first | rw [← Ny113.out] at ho25 | (simp only [Int.reduceToNat] at ho25; rw [← Ny113.out] at ho25))
 have HO115 := aK (Kd.R_lower ho25 (below_size (pS HB.out)))
 replace BK101 := bB BK101 hb
 replace BK102 := bB BK102 hb
 replace BK103 := bB BK103 hb
 replace BK104 := bB BK104 hb
 replace HB := bS HB hb
 clear hb ho25
 obtain ⟨Ao26, co26, eo26⟩ := Kd.R_slice HO115.out
 (first | subst eo26 | (obtain ⟨f4_, f5_⟩ := sI eo26; subst f4_; subst f5_))
 refine hK.out _ _ (cj4 BK101.out (cj4 BK102.out (cj2 BK103.out (cz2 BK104.out)))) (fun hHeld => ?_)
 clear hK K
 refine norm_ (a' := ?_) ?_ ?_
 rotate_left
 ·
  show Act.put _ (some 47) _ = _
  simp only [sP]
  rfl
 refine one_ (i := 37) (N := some 48) (bz [38, 1]) rfl rfl (one_of HT_.out (by kernel_rfl)) (by decide) (fun K hK => ?_)
 refine goes_ Try.func18 (by kernel_rfl) rfl #[.slice Ao26 y113.length co26] (by rfl) rfl rfl (by (try simp only [List.map_toArray, List.map_cons, List.map_nil]); first | done | rfl | (simp only [List.length_drop, List.length_take]; rfl)) ?_
 with_reducible refine (cmp_Or_int.calls k _ _ y113 t116 _ ?side1 ?side2 A11.out).mono ?_
 (case side1 => exact pC (Kd.R_reads' HO115.out).2.2)
 (case side2 => exact (Kd.R_reads' HO115.out).2.1)
 rintro e w' ⟨rfl, ⟨nd, rfl⟩⟩
 refine ⟨_, rfl, ?_⟩
 refine hK.out _ _ (cj4 BK101.out (cj4 BK102.out (cj2 BK103.out (cz2 BK104.out)))) (fun hHeld => ?_)
 clear hK K
 refine norm_ (a' := ?_) ?_ ?_
 rotate_left
 ·
  show Act.put _ (some 48) _ = _
  simp only [sP]
  rfl
 refine pz 38 4 [39, 0] HT_.out ?_
 refine done_ (done_of HT_.out (by kernel_rfl)) ?_
 try go_wp2
 go_ret
 exact ⟨er, pT HB.out, (dS DR).out⟩
end Go.Proofs.Ytmkdiliemiobeaa.P
namespace Go.Proofs.Ytmkdiliemiobeaa.P
def rLt (s1 c1 d1 y1 x1 s2 c2 d2 y2 x2 : Int) : Bool := decide (s1 * c2 < s2 * c1 ∨ s1 * c2 = s2 * c1 ∧ (d1 < d2 ∨ d1 = d2 ∧ (y1 < y2 ∨ y1 = y2 ∧ x1 < x2)))
theorem rLt_iff {s1 c1 d1 y1 x1 s2 c2 d2 y2 x2 : Int} : rLt s1 c1 d1 y1 x1 s2 c2 d2 y2 x2 = true ↔ (s1 * c2 < s2 * c1 ∨ s1 * c2 = s2 * c1 ∧ (d1 < d2 ∨ d1 = d2 ∧ (y1 < y2 ∨ y1 = y2 ∧ x1 < x2))) := by
  unfold rLt
  exact decide_eq_true_iff
theorem rLt_not {s1 c1 d1 y1 x1 s2 c2 d2 y2 x2 : Int} : rLt s1 c1 d1 y1 x1 s2 c2 d2 y2 x2 = false ↔ ¬ (s1 * c2 < s2 * c1 ∨ s1 * c2 = s2 * c1 ∧ (d1 < d2 ∨ d1 = d2 ∧ (y1 < y2 ∨ y1 = y2 ∧ x1 < x2))) := by
  unfold rLt
  exact decide_eq_false_iff_not
theorem rLt_irrefl (s c d y x : Int) : rLt s c d y x s c d y x = false := by rw [rLt_not]; omega
theorem ratio3 {a b k : Int} (hk : 0 < k) : (a < b ↔ a * k < b * k) ∧ (a = b ↔ a * k = b * k) :=
  ⟨⟨fun h => Int.mul_lt_mul_of_pos_right h hk, fun h => Int.lt_of_mul_lt_mul_right h (Int.le_of_lt hk)⟩, ⟨fun h => by rw [h], fun h => Int.eq_of_mul_eq_mul_right (by omega) h⟩⟩
theorem ratios {s1 c1 s2 c2 s3 c3 : Int} (h1 : 0 < c1) (h2 : 0 < c2) (h3 : 0 < c3) : ∃ A B C : Int, ((s1 * c2 < s2 * c1 ↔ A < B) ∧ (s1 * c2 = s2 * c1 ↔ A = B)) ∧ ((s2 * c3 < s3 * c2 ↔ B < C) ∧ (s2 * c3 = s3 * c2 ↔ B = C)) ∧ ((s1 * c3 < s3 * c1 ↔ A < C) ∧ (s1 * c3 = s3 * c1 ↔ A = C)) := by
  refine ⟨s1 * c2 * c3, s2 * c1 * c3, s3 * c1 * c2, ratio3 h3, ?_, ?_⟩
  · have h := ratio3 (a := s2 * c3) (b := s3 * c2) h1
    rw [show s2 * c3 * c1 = s2 * c1 * c3 by rw [Int.mul_assoc, Int.mul_comm c3, ← Int.mul_assoc], show s3 * c2 * c1 = s3 * c1 * c2 by rw [Int.mul_assoc, Int.mul_comm c2, ← Int.mul_assoc]] at h
    exact h
  · have h := ratio3 (a := s1 * c3) (b := s3 * c1) h2
    rw [show s1 * c3 * c2 = s1 * c2 * c3 by rw [Int.mul_assoc, Int.mul_comm c3, ← Int.mul_assoc]] at h
    exact h
theorem rLt_trans {s1 c1 d1 y1 x1 s2 c2 d2 y2 x2 s3 c3 d3 y3 x3 : Int} (h1 : 0 < c1) (h2 : 0 < c2) (h3 : 0 < c3) (a : rLt s1 c1 d1 y1 x1 s2 c2 d2 y2 x2 = true) (b : rLt s2 c2 d2 y2 x2 s3 c3 d3 y3 x3 = true) : rLt s1 c1 d1 y1 x1 s3 c3 d3 y3 x3 = true := by
  obtain ⟨A, B, C, ⟨p1, p2⟩, ⟨q1, q2⟩, ⟨r1, r2⟩⟩ := ratios (s1 := s1) (s2 := s2) (s3 := s3) h1 h2 h3
  rw [rLt_iff, p1, p2] at a
  rw [rLt_iff, q1, q2] at b
  rw [rLt_iff, r1, r2]
  omega
theorem rLt_ntrans {s1 c1 d1 y1 x1 s2 c2 d2 y2 x2 s3 c3 d3 y3 x3 : Int} (h1 : 0 < c1) (h2 : 0 < c2) (h3 : 0 < c3) (a : rLt s1 c1 d1 y1 x1 s2 c2 d2 y2 x2 = false) (b : rLt s2 c2 d2 y2 x2 s3 c3 d3 y3 x3 = false) : rLt s1 c1 d1 y1 x1 s3 c3 d3 y3 x3 = false := by
  obtain ⟨A, B, C, ⟨p1, p2⟩, ⟨q1, q2⟩, ⟨r1, r2⟩⟩ := ratios (s1 := s1) (s2 := s2) (s3 := s3) h1 h2 h3
  rw [rLt_not, p1, p2] at a
  rw [rLt_not, q1, q2] at b
  rw [rLt_not, r1, r2]
  omega
theorem rLt_conn {s1 c1 d1 y1 x1 s2 c2 d2 y2 x2 : Int} (a : rLt s1 c1 d1 y1 x1 s2 c2 d2 y2 x2 = false) (b : rLt s2 c2 d2 y2 x2 s1 c1 d1 y1 x1 = false) : y1 = y2 ∧ x1 = x2 := by
  rw [rLt_not] at a b
  omega
end Go.Proofs.Ytmkdiliemiobeaa.P
namespace Go.Proofs.Ytmkdiliemiobeaa.P
set_option linter.unusedVariables false
set_option linter.unusedSimpArgs false
open Go.RowKit Go.Sort Go.Lib Go.Proofs.YtmkdiliemiobeaaW.PrintWords Go.Proofs.YtmkdiliemiobeaaW.PrintLast Go.Proofs.YtmkdiliemiobeaaW.PrintMore
def rkOk (x : S46) : Bool := decide (-2 ≤ x.f0.f0 ∧ x.f0.f0 ≤ 2 ∧ -2 ≤ x.f0.f1 ∧ x.f0.f1 ≤ 2 ∧ 0 ≤ x.f1 ∧ x.f1 ≤ 1000000000 ∧ 1 ≤ x.f2 ∧ x.f2 ≤ 1000000)
def rkEncS (x : S46) : List Value := [.int .i64 x.f0.f0, .int .i64 x.f0.f1, .int .i64 x.f1, .int .i64 x.f2]
def rkA (x : Int) : Int := if x < 0 then -x else x
def rkLt (x y : S46) : Bool := rLt x.f1 x.f2 (rkA x.f0.f0 + rkA x.f0.f1) x.f0.f1 x.f0.f0 y.f1 y.f2 (rkA y.f0.f0 + rkA y.f0.f1) y.f0.f1 y.f0.f0
instance rkInh : Inhabited { x : S46 // rkOk x = true } := ⟨⟨⟨⟨0, 0⟩, 0, 1⟩, by decide⟩⟩
def rkCf (x y : { x : S46 // rkOk x = true }) : Int := if rkLt x.1 y.1 = true then -1 else if rkLt y.1 x.1 = true then 1 else 0
def rkEnc (x : { x : S46 // rkOk x = true }) : List Value := rkEncS x.1
theorem rkOk_iff {x : S46} : rkOk x = true ↔ -2 ≤ x.f0.f0 ∧ x.f0.f0 ≤ 2 ∧ -2 ≤ x.f0.f1 ∧ x.f0.f1 ≤ 2 ∧ 0 ≤ x.f1 ∧ x.f1 ≤ 1000000000 ∧ 1 ≤ x.f2 ∧ x.f2 ≤ 1000000 := by
  unfold rkOk
  exact decide_eq_true_iff
theorem rk_ltOf (x y : { x : S46 // rkOk x = true }) : ltOf rkCf x y = rkLt x.1 y.1 := by
  unfold ltOf rkCf
  cases rkLt x.1 y.1 with
  | true => rfl
  | false => cases rkLt y.1 x.1 <;> rfl
theorem rk_pos (x : { x : S46 // rkOk x = true }) : 0 < x.1.f2 := by
  have := rkOk_iff.1 x.2
  omega
theorem rk_swo : SWO (ltOf rkCf) where
  irrefl x := by rw [rk_ltOf]; exact rLt_irrefl _ _ _ _ _
  trans x y z a b := by rw [rk_ltOf] at *; exact rLt_trans (rk_pos x) (rk_pos y) (rk_pos z) a b
  ntrans x y z a b := by rw [rk_ltOf] at *; exact rLt_ntrans (rk_pos x) (rk_pos y) (rk_pos z) a b
def rkC (a b : Int) : Int := if a < b then -1 else if a > b then 1 else 0
theorem rk_cmp (a b : Int) : cmp_Compare_int.f a b = some (rkC a b) := by
  unfold cmp_Compare_int.f cmp_isNaN_int.f rkC
  simp only [Option.bind_some, bne_self_eq_false, Bool.false_eq_true, if_false]
  by_cases h1 : a < b
  · rw [if_pos h1, if_pos h1]
  · rw [if_neg h1, if_neg h1]
    by_cases h2 : a > b
    · rw [if_pos h2, if_pos h2]
    · rw [if_neg h2, if_neg h2]
theorem rk_or (a b c d : Int) : cmp_Or_int.f 6 [a, b, c, d] = some (if a ≠ 0 then a else if b ≠ 0 then b else if c ≠ 0 then c else d) := by
  have e1 : wrap64 (0 + 1) = 1 := by unfold wrap64; omega
  have e2 : wrap64 (1 + 1) = 2 := by unfold wrap64; omega
  have e3 : wrap64 (2 + 1) = 3 := by unfold wrap64; omega
  have e4 : wrap64 (3 + 1) = 4 := by unfold wrap64; omega
  have r0 : rd [a, b, c, d] 0 = a := rfl
  have r1 : rd [a, b, c, d] 1 = b := rfl
  have r2 : rd [a, b, c, d] 2 = c := rfl
  have r3 : rd [a, b, c, d] 3 = d := rfl
  have hl : (([a, b, c, d] : List Int).length : Int) = 4 := rfl
  unfold cmp_Or_int.f
  simp only [cmp_Or_int.l0, hl, e1, e2, e3, e4, r0, r1, r2, r3]
  by_cases h0 : a = 0
  · by_cases h1 : b = 0
    · by_cases h2 : c = 0
      · by_cases h3 : d = 0 <;> simp [h0, h1, h2, h3]
      · simp [h0, h1, h2]
    · simp [h0, h1]
  · simp [h0]
theorem rk_abs (a : Int) (h : -2 ≤ a ∧ a ≤ 2) : impl_absOf.f a = some (rkA a) := by
  unfold impl_absOf.f rkA
  split
  · rw [show wrap64 (-a) = -a by unfold wrap64; omega]
  · rfl
theorem rk_mul (a b : Int) (h : 0 ≤ a ∧ a ≤ 1000000000) (k : 1 ≤ b ∧ b ≤ 1000000) : wrap64 (a * b) = a * b := by
  have h1 : 0 ≤ a * b := Int.mul_nonneg h.1 (by omega)
  have h2 : a * b ≤ 1000000000 * 1000000 := Int.mul_le_mul h.2 k.2 (by omega) (by omega)
  unfold wrap64
  omega
theorem rk_f (x y : { x : S46 // rkOk x = true }) : impl_RankMotions_1.f 6 x.1.f0.f0 x.1.f0.f1 x.1.f1 x.1.f2 y.1.f0.f0 y.1.f0.f1 y.1.f1 y.1.f2 = some (rkCf x y) := by
  obtain ⟨a1, a2, a3, a4, a5, a6, a7, a8⟩ := rkOk_iff.1 x.2
  obtain ⟨b1, b2, b3, b4, b5, b6, b7, b8⟩ := rkOk_iff.1 y.2
  have hs : ∀ u v : Int, -2 ≤ u ∧ u ≤ 2 → -2 ≤ v ∧ v ≤ 2 → wrap64 (rkA u + rkA v) = rkA u + rkA v := fun u v hu hv => by unfold rkA wrap64; split <;> split <;> omega
  unfold impl_RankMotions_1.f
  rw [rk_mul _ _ ⟨a5, a6⟩ ⟨b7, b8⟩, rk_mul _ _ ⟨b5, b6⟩ ⟨a7, a8⟩, rk_abs _ ⟨a1, a2⟩, rk_abs _ ⟨a3, a4⟩, rk_abs _ ⟨b1, b2⟩, rk_abs _ ⟨b3, b4⟩]
  simp only [Option.bind_some, rk_cmp, rk_or]
  rw [hs _ _ ⟨a1, a2⟩ ⟨a3, a4⟩, hs _ _ ⟨b1, b2⟩ ⟨b3, b4⟩]
  unfold rkCf rkLt
  generalize rkA x.1.f0.f0 + rkA x.1.f0.f1 = d1
  generalize rkA y.1.f0.f0 + rkA y.1.f0.f1 = d2
  simp only [rLt_iff]
  generalize x.1.f1 * y.1.f2 = p
  generalize y.1.f1 * x.1.f2 = q
  generalize x.1.f0.f1 = u1
  generalize x.1.f0.f0 = u0
  generalize y.1.f0.f1 = v1
  generalize y.1.f0.f0 = v0
  congr 1
  unfold rkC
  rcases Int.lt_trichotomy p q with h | h | h
  · simp [h, show p ≠ q by omega]
  · subst h
    rcases Int.lt_trichotomy d1 d2 with h | h | h
    · simp [h]
    · subst h
      rcases Int.lt_trichotomy u1 v1 with h | h | h
      · simp [h]
      · subst h
        rcases Int.lt_trichotomy u0 v0 with h | h | h
        · simp [h]
        · subst h
          simp
        · simp [h, show ¬ u0 < v0 by omega]
      · simp [h, show ¬ u1 < v1 by omega, show u1 ≠ v1 by omega, show v1 ≠ u1 by omega]
    · simp [h, show ¬ d1 < d2 by omega, show d1 ≠ d2 by omega, show d2 ≠ d1 by omega]
  · simp [h, show ¬ p < q by omega, show p ≠ q by omega, show q ≠ p by omega]
theorem below_grow {w w' : World} (hb : Go.RowKit.Below w.heap.size w w') (hd : w.drawn ≤ w'.drawn) : ∃ q os', w' = grow (w.drewN q) os' := by
  refine ⟨w'.drawn - w.drawn, w'.heap.extract w.heap.size w'.heap.size, ?_⟩
  have e1 : w.heap ++ w'.heap.extract w.heap.size w'.heap.size = w'.heap := by
    have hs := hb.size
    refine Array.ext_getElem? (fun i => ?_)
    by_cases hi : i < w.heap.size
    · rw [Array.getElem?_append_left hi]
      exact (hb.block i hi).symm
    · rw [Array.getElem?_append_right (by omega), Array.getElem?_extract]
      by_cases hj : i < w'.heap.size
      · rw [if_pos (by omega), show w.heap.size + (i - w.heap.size) = i by omega]
      · rw [if_neg (by omega), Array.getElem?_eq_none (by omega)]
  have e2 : w.drawn + (w'.drawn - w.drawn) = w'.drawn := by omega
  obtain ⟨h1, t1, d1, o1, u1⟩ := w'
  obtain ⟨h0, t0, d0, o0, u0⟩ := w
  obtain ⟨g1, g2, g3, _, _⟩ := hb
  simp only at g1 g2 g3 e1 e2
  subst g1
  subst g2
  subst g3
  unfold grow World.drewN
  simp only [e1, e2]
theorem rk_lays (blk size : Nat) (w : World) : CmpLays Try.prog 17 #[] rkEnc 4 rkCf blk 0 size w := by
  intro m os dk hs x y
  rw [Array.append_empty]
  refine (impl_RankMotions_1.lays 6 _ _ _ _ _ _ _ _ (rkCf x y) _ (rk_f x y)).mono ?_
  rintro e w' ⟨rfl, hb, hd⟩
  exact ⟨rfl, below_grow hb hd⟩
theorem heap_sortedV {w : World} {g n : Nat} {os : Array Obj} {cur : Array Value} {e : TypeId} {fr : Nat × Nat} (d : Array Value) (hb : w.heap[g]? = some (.cells cur e fr)) :
    (grow (putRow id (Sort.ahead w n) g 0 d) os).heap[g]? = some (.cells (putCells id 0 d cur) e fr) := by
  have hg : g < w.heap.size := (Array.getElem?_eq_some_iff.1 hb).1
  rw [heap_grow_old _ _ (by simpa using hg)]
  simp [putRow, mapBlock, Sort.ahead, Array.getElem?_modify, hb, onCells]
theorem grownBy_sortedV {w : World} {g n : Nat} {os : Array Obj} (d : Array Value) : w.grownBy (grow (putRow id (Sort.ahead w n) g 0 d) os) (some g) := by
  refine ⟨rfl, rfl, rfl, by simp, fun k hk hne => ?_⟩
  rw [heap_grow_old _ _ (by simpa using hk)]
  have : g ≠ k := fun e => hne (by rw [e])
  simp [putRow, mapBlock, Sort.ahead, Array.getElem?_modify, this]
theorem rk_inner {M : S46 → List Value → Prop} {l : List S46} {inner : List Value} (hr : Reps M 4 l inner) (hM : ∀ x cs, M x cs → cs = rkEncS x) (j : Nat) (p : S46) (hp : l[j / 4]? = some p) : inner[j]? = (rkEncS p)[j % 4]? := by
  have h := hM _ _ (hr.2 (j / 4) p hp)
  rw [← h, List.getElem?_take_of_lt (Nat.mod_lt _ (by decide)), List.getElem?_drop, show j / 4 * 4 + j % 4 = j by omega]
theorem rk_reps {M : S46 → List Value → Prop} {l : List S46} {inner : List Value} (hlen : inner.length = l.length * 4) (h : ∀ t p, t < l.length * 4 → l[t / 4]? = some p → inner[t]? = (rkEncS p)[t % 4]?) (hM : ∀ x, M x (rkEncS x)) : Reps M 4 l inner :=
  ⟨hlen, fun j p hp => by
    have hj : j < l.length := (List.getElem?_eq_some_iff.1 hp).1
    have e : (inner.drop (j * 4)).take 4 = rkEncS p := by
      apply List.ext_getElem?
      intro i
      by_cases hi : i < 4
      · rw [List.getElem?_take_of_lt hi, List.getElem?_drop, h (j * 4 + i) p (by omega) (by rw [show (j * 4 + i) / 4 = j by omega]; exact hp), show (j * 4 + i) % 4 = i by omega]
      · rw [List.getElem?_take_eq_none (by omega), List.getElem?_eq_none (by simp [rkEncS]; omega)]
    rw [e]
    exact hM p⟩
def rkSort (l : List S46) : List S46 := if h : ∀ x ∈ l, rkOk x = true then (pdq (ltOf rkCf) (l.pmap Subtype.mk h).toArray 0 l.length (Lib.bitLen l.length) true true).toList.map (fun x => x.1) else l
theorem rk_val (l : List S46) (h : ∀ x ∈ l, rkOk x = true) : (l.pmap Subtype.mk h).map (fun x => x.1) = l := by
  rw [List.map_pmap]
  simp
theorem rk_pdq (l : List S46) (h : ∀ x ∈ l, rkOk x = true) : ∃ d' : Array { x : S46 // rkOk x = true }, pdq (ltOf rkCf) (l.pmap Subtype.mk h).toArray 0 l.length (Lib.bitLen l.length) true true = d' ∧ d'.size = l.length ∧ d'.toList.Perm (l.pmap Subtype.mk h) ∧ (∀ i j, i < j → j < l.length → rkLt (d'[j]!).1 (d'[i]!).1 = false) := by
  have hz : (l.pmap Subtype.mk h).toArray.size = l.length := by simp
  have hp := pdq_sorts (ltOf rkCf) rk_swo (l.pmap Subtype.mk h).toArray 0 l.length (Lib.bitLen l.length) true true (Nat.zero_le _) (by rw [hz]; exact Nat.le_refl _) (Or.inl rfl)
  refine ⟨_, rfl, hp.1.1.trans hz, ?_, fun i j hi hj => ?_⟩
  · have h2 := hp.1.2.2
    have e1 : ∀ a : Array { x : S46 // rkOk x = true }, a.size = l.length → a.extract 0 l.length = a := fun a ha => by rw [← ha]; exact Array.extract_size
    rw [e1 _ (hp.1.1.trans hz), e1 _ hz] at h2
    exact h2
  · have h3 := hp.2 i j (Nat.zero_le _) hi hj
    rw [rk_ltOf] at h3
    exact h3
theorem rkSort_len (l : List S46) : (rkSort l).length = l.length := by
  unfold rkSort
  by_cases h : ∀ x ∈ l, rkOk x = true
  · rw [dif_pos h]
    obtain ⟨d', e, h1, _, _⟩ := rk_pdq l h
    rw [e, List.length_map, Array.length_toList, h1]
  · rw [dif_neg h]
theorem rkSort_perm (l : List S46) : (rkSort l).Perm l := by
  unfold rkSort
  by_cases h : ∀ x ∈ l, rkOk x = true
  · rw [dif_pos h]
    obtain ⟨d', e, _, h2, _⟩ := rk_pdq l h
    rw [e]
    have h3 := h2.map (fun x => x.1)
    rw [rk_val] at h3
    exact h3
  · rw [dif_neg h]
theorem rkSort_srt (l : List S46) (h : ∀ x ∈ l, rkOk x = true) : (rkSort l).Pairwise (fun a b => rkLt b a = false) := by
  unfold rkSort
  rw [dif_pos h]
  obtain ⟨d', e, h1, _, h3⟩ := rk_pdq l h
  rw [e, List.pairwise_map, List.pairwise_iff_getElem]
  intro i j hi hj hij
  have hj' : j < d'.size := by simpa using hj
  have hi' : i < d'.size := by simpa using hi
  have := h3 i j hij (by omega)
  rw [getElem!_pos d' i hi', getElem!_pos d' j hj'] at this
  simpa using this
theorem sortf_own {W : World} {base g cap : Nat} {ok : Nat → Prop} {l : List S46} (h : Kd.R k46 46 W base ok (.slice (some ⟨g, 0, none⟩) l.length cap) l) (hok : ∀ x ∈ l, rkOk x = true) (hsmall : l.length < 4611686018427387904) :
    Calls Try.prog 16 #[.slice (some ⟨g, 0, none⟩) l.length cap, .func (.func 17) #[] #[]] W fun e W' =>
      e = .returned (.tuple #[]) ∧ Kd.R k46 46 W' base ok (.slice (some ⟨g, 0, none⟩) l.length cap) (rkSort l) ∧ W.grownBy W' (some g) := by
  obtain ⟨hpo, inner, ho, hr⟩ := h
  rcases ho.2 with ⟨hn, _⟩ | ⟨g', cap', cur, hv, hg, hb, hn, hcap, hsz, htk⟩
  · cases hn
  cases hv
  have hgs : g < W.heap.size := (Array.getElem?_eq_some_iff.1 hb).1
  have hsz4 : cur.size = cap * 4 := hsz
  have htk4 : cur.toList.take (l.length * 4) = inner := htk
  have hz : (l.pmap Subtype.mk hok).toArray.size = l.length := by simp
  have hH : HoldsK rkEnc 4 W g 0 (l.pmap Subtype.mk hok).toArray := by
    intro j hj
    rw [size_flatK, hz] at hj
    refine ⟨?_, by simp [World.frozen?, hb]⟩
    have hj4 : j / 4 < l.length := by omega
    have h1 := rk_inner hr (fun x cs hx => k46_openM hx) j (l[j / 4]) (List.getElem?_eq_getElem hj4)
    rw [← htk4, List.getElem?_take_of_lt hj] at h1
    simp only [World.cell?, hb, Nat.zero_add]
    simp only [Option.isSome_none, Bool.false_eq_true, if_false]
    rw [← Array.getElem?_toList, h1, get_flatK _ _ _ _ (by rw [hz]; exact hj)]
    rw [getElem!_pos (l.pmap Subtype.mk hok).toArray (j / 4) (by rw [hz]; exact hj4)]
    have hm : j % 4 < 4 := Nat.mod_lt _ (by decide)
    simp only [List.getElem_toArray, List.getElem_pmap, rkEnc, id_eq]
    rw [List.getElem?_eq_getElem (by simp [rkEncS]; omega), getElem!_pos _ _ (by simp [rkEncS]; omega)]
  have hc := Go.Proofs.Try.slices_SortFunc_rk rkEnc (fun _ => rfl) (fun x v hv => by simp [rkEnc, rkEncS] at hv; rcases hv with rfl | rfl | rfl | rfl <;> rfl) rkCf rk_swo 17 #[] g 0 cap (l.pmap Subtype.mk hok).toArray W (enters_of Try.func17 (by kernel_rfl) rfl) (rk_lays g _ W) hH hgs (by rw [hz]; exact hsmall)
  rw [hz] at hc
  obtain ⟨d', e', hd1, hd2, hd3⟩ := rk_pdq l hok
  have hsr : rkSort l = d'.toList.map (fun x => x.1) := by unfold rkSort; rw [dif_pos hok, e']
  rw [e'] at hc
  refine hc.mono ?_
  rintro e W' ⟨rfl, n, os, rfl⟩
  show _ ∧ Kd.R k46 46 (grow (putRow id (Sort.ahead W n) g 0 (flatK rkEnc 4 d')) os) base ok _ (rkSort l) ∧ W.grownBy (grow (putRow id (Sort.ahead W n) g 0 (flatK rkEnc 4 d')) os) (some g)
  refine ⟨rfl, ⟨hpo, (putCells id 0 (flatK rkEnc 4 d') cur).toList.take ((rkSort l).length * 4), ?_, ?_⟩, grownBy_sortedV _⟩
  · rw [rkSort_len]
    refine ⟨?_, .inr ⟨g, cap, _, rfl, hg, heap_sortedV _ hb, hn, hcap, ?_, rfl⟩⟩
    · rw [List.length_take]
      show min _ _ = l.length * 4
      simp [putCells]
      omega
    · show _ = cap * 4
      simp [putCells, hsz4]
  · refine rk_reps ?_ (fun t p ht hp => ?_) (fun x => k46_mkM _ _ _ x)
    · rw [rkSort_len, List.length_take]
      simp [putCells]
      omega
    · rw [List.getElem?_take_of_lt ht]
      rw [rkSort_len] at ht
      have ht4 : t / 4 < d'.size := by omega
      rw [hsr, List.getElem?_map, Array.getElem?_toList, Array.getElem?_eq_getElem ht4] at hp
      obtain rfl := Option.some.inj hp
      have hcs : t < cur.size := by omega
      rw [Array.getElem?_toList]
      unfold putCells
      rw [Array.getElem?_mapIdx, Array.getElem?_eq_getElem hcs]
      simp only [Option.map_some, Nat.zero_le, true_and, Nat.zero_add, size_flatK, Nat.sub_zero, id_eq]
      rw [if_pos (by omega), get_flatK _ _ _ _ (by omega), getElem!_pos d' (t / 4) ht4]
      have hm : t % 4 < 4 := Nat.mod_lt _ (by decide)
      rw [List.getElem?_eq_getElem (by simp [rkEncS]; omega), getElem!_pos _ _ (by simp [rkEnc, rkEncS]; omega)]
      rfl
end Go.Proofs.Ytmkdiliemiobeaa.P
namespace Go.Proofs.Ytmkdiliemiobeaa.P
open Go.RowKit Go.Proofs.YtmkdiliemiobeaaW.PrintWords Go.Proofs.YtmkdiliemiobeaaW.PrintLast Go.Proofs.YtmkdiliemiobeaaW.PrintMore
attribute [local go_sem] max2_int min2_int max_two min_two max_three min_three max_four min_four
set_option linter.unusedVariables false
set_option linter.unusedSimpArgs false
def slices_SortFunc_ranked_at_impl_RankMotions_1.f (l0 : List S46) : Option (List S46) := if l0.length < 4611686018427387904 ∧ l0.all rkOk = true then some (rkSort l0) else none
theorem slices_SortFunc_ranked_at_impl_RankMotions_1.calls (P0_ : Nat → Prop) (u9000_ : Value) (l0 : List S46) (r1 : List S46) (w0 w : World) (hB : Below w0.heap.size w0 w) (ho0 : Kd.R k46 46 w w0.heap.size P0_ u9000_ l0) (h : slices_SortFunc_ranked_at_impl_RankMotions_1.f l0 = some r1) :
    Calls Try.prog 16 #[u9000_, .func (.func 17) #[] #[]] w fun e w' => e = .returned (.tuple #[]) ∧ Kd.R k46 46 w' w0.heap.size (fun k_ => (P0_ k_ ∨ w.heap.size ≤ k_)) u9000_ r1 ∧ Below w0.heap.size w0 w' ∧ Kept w w' (fun k_ => P0_ k_) := by
 unfold slices_SortFunc_ranked_at_impl_RankMotions_1.f at h
 by_cases hg : l0.length < 4611686018427387904 ∧ l0.all rkOk = true
 case neg => rw [if_neg hg] at h; exact absurd h (by simp)
 rw [if_pos hg] at h
 obtain rfl := Option.some.inj h
 have hok : ∀ x ∈ l0, rkOk x = true := List.all_eq_true.1 hg.2
 by_cases h0 : 0 < l0.length
 ·
  obtain ⟨g, cap, rfl, hgb, hgs, _⟩ := Kd.R_form ho0 h0
  have hP : P0_ g := ho0.1 g rfl
  refine (sortf_own ho0 hok hg.1).mono ?_
  rintro e w1 ⟨rfl, hR, hg1⟩
  exact ⟨rfl, Kd.R_mono hR (fun k hk => .inl hk), pw_below_grown hB (some g) hB.size hg1 (fun k hk => by cases hk; exact hgb), Kept.of_grown hg1 (Kept.refl w _) (fun k hk => by cases hk; exact .inl hP)⟩
 obtain rfl := List.length_eq_zero_iff.1 (show l0.length = 0 by omega)
 obtain ⟨A, c, rfl⟩ := Kd.R_slice ho0
 refine (Go.Proofs.Try.slices_SortFunc_none A c _ w).mono ?_
 rintro e w1 ⟨rfl, rfl⟩
 have e0 : rkSort [] = [] := List.length_eq_zero_iff.1 (rkSort_len [])
 rw [e0]
 exact ⟨rfl, Kd.R_mono ho0 (fun k hk => .inl hk), hB, Kept.refl _ _⟩
end Go.Proofs.Ytmkdiliemiobeaa.P
namespace Go.Proofs.Ytmkdiliemiobeaa.P
open Go.RowKit Go.Proofs.YtmkdiliemiobeaaW.PrintWords Go.Proofs.YtmkdiliemiobeaaW.PrintLast Go.Proofs.YtmkdiliemiobeaaW.PrintMore
attribute [local go_sem] max2_int min2_int max_two min_two max_three min_three max_four min_four
set_option linter.unusedVariables false
set_option linter.unusedSimpArgs false
set_option maxHeartbeats 8000000
set_option maxRecDepth 100000
mutual
def impl_RankMotions.l0 : Nat → List (S46) → Int → Int → Int → List Int → Int → Int → List Int → Option ((List (S33)) × Bool)
 | 0, _, _, _, _, _, _, _, _ => none
 | k + 1, x6, x7, x102000, x102001, x102002, x103000, x103001, x103002 => if x7 ≤ 2 then (impl_RankMotions.l1 k x6 x7 (-2) x102000 x102001 x102002 x103000 x103001 x103002) else ((slices_SortFunc_ranked_at_impl_RankMotions_1.f x6).bind fun t112 => (impl_RankMotions.l2 k ([] : List (S33)) t112 (x6.length : Int) 0))
def impl_RankMotions.l1 : Nat → List (S46) → Int → Int → Int → Int → List Int → Int → Int → List Int → Option ((List (S33)) × Bool)
 | 0, _, _, _, _, _, _, _, _, _ => none
 | k + 1, x6, x7, x8, x102000, x102001, x102002, x103000, x103001, x103002 => if x8 ≤ 2 then ((impl_matchOf.f k x102000 x102001 x102002 x103000 x103001 x103002 x8 x7).bind fun bt107 => (if bt107.2 ≥ 1 then (if (wrap64 (2 * bt107.2)) ≥ (x102002.length : Int) then (if x6.length < 4398046511104 then (impl_RankMotions.l1 k (x6 ++ [(⟨(⟨x8, x7⟩ : S33), bt107.1, bt107.2⟩ : S46)]) x7 (wrap64 (x8 + 1)) x102000 x102001 x102002 x103000 x103001 x103002) else (none)) else (impl_RankMotions.l1 k x6 x7 (wrap64 (x8 + 1)) x102000 x102001 x102002 x103000 x103001 x103002)) else (impl_RankMotions.l1 k x6 x7 (wrap64 (x8 + 1)) x102000 x102001 x102002 x103000 x103001 x103002))) else (impl_RankMotions.l0 k x6 (wrap64 (x7 + 1)) x102000 x102001 x102002 x103000 x103001 x103002)
def impl_RankMotions.l2 : Nat → List (S33) → List (S46) → Int → Int → Option ((List (S33)) × Bool)
 | 0, _, _, _, _ => none
 | k + 1, x11, x57, x58, x59 => if x59 < x58 then (if 0 ≤ x59 then (if x59 < (x57.length : Int) then (if x11.length < 8796093022208 then (impl_RankMotions.l2 k (x11 ++ [(⟨(rd_T46 x57 x59).f0.f0, (rd_T46 x57 x59).f0.f1⟩ : S33)]) x57 x58 (wrap64 (x59 + 1))) else (none)) else (none)) else (none)) else (some (x11, true))
end
def impl_RankMotions.f (k : Nat) (a0_0 : Int) (a0_1 : Int) (l0_2 : List Int) (a1_0 : Int) (a1_1 : Int) (l1_2 : List Int) : Option ((List (S33)) × Bool) := (impl_areAlike.f k (([(⟨a0_0, a0_1, l0_2⟩ : S26), (⟨a1_0, a1_1, l1_2⟩ : S26)] : List (S26)))).bind fun t106 => (if t106 = true then (impl_RankMotions.l0 k ([] : List (S46)) (-2) a0_0 a0_1 l0_2 a1_0 a1_1 l1_2) else (some (([] : List (S33)), false)))
theorem impl_RankMotions.calls (k : Nat) (a0_0 : Int) (a0_1 : Int) (P0_2_ : Nat → Prop) (A0_2 : Option Addr) (c0_2 : Nat) (l0_2 : List Int) (a1_0 : Int) (a1_1 : Int) (P1_2_ : Nat → Prop) (A1_2 : Option Addr) (c1_2 : Nat) (l1_2 : List Int) (r1 : List (S33)) (r2 : Bool) (w : World) (hs0_2 : Kd.V (Kd.int .i64) 3 w w.heap.size (fun k_ => P0_2_ k_) (.slice A0_2 l0_2.length c0_2) l0_2) (hs1_2 : Kd.V (Kd.int .i64) 3 w w.heap.size (fun k_ => P1_2_ k_) (.slice A1_2 l1_2.length c1_2) l1_2) (h : impl_RankMotions.f k a0_0 a0_1 l0_2 a1_0 a1_1 l1_2 = some (r1, r2)) :
  Calls Try.prog 6 #[.agg #[.int .i64 a0_0, .int .i64 a0_1, .slice A0_2 l0_2.length c0_2], .agg #[.int .i64 a1_0, .int .i64 a1_1, .slice A1_2 l1_2.length c1_2]] w fun e w' => ∃ v0_ : Value, e = .returned (.tuple #[v0_, .bool r2]) ∧ Kd.R k33 33 w' w.heap.size (fun k_ => (w.heap.size ≤ k_)) v0_ r1 ∧ Below w.heap.size w w' := by
 have hu26 := Try.underlying26
 have hu33 := Try.underlying33
 have hu46 := Try.underlying46
 have HO0_2 := aK (show Kd.V (Kd.int .i64) 3 w w.heap.size (fun k_ => ((P0_2_ k_ ∨ P1_2_ k_) ∨ w.heap.size ≤ k_)) (.slice A0_2 l0_2.length c0_2) l0_2 from Kd.V_mono hs0_2 (fun k_ hk => .inl (.inl hk)))
 have HO1_2 := aK (show Kd.V (Kd.int .i64) 3 w w.heap.size (fun k_ => ((P0_2_ k_ ∨ P1_2_ k_) ∨ w.heap.size ≤ k_)) (.slice A1_2 l1_2.length c1_2) l1_2 from Kd.V_mono hs1_2 (fun k_ hk => .inl (.inr hk)))
 have HB := aK (Below.refl w.heap.size w)
 have H : ((impl_areAlike.f k (([(⟨a0_0, a0_1, l0_2⟩ : S26), (⟨a1_0, a1_1, l1_2⟩ : S26)] : List (S26)))).bind fun t106 => (if t106 = true then (impl_RankMotions.l0 k ([] : List (S46)) (-2) a0_0 a0_1 l0_2 a1_0 a1_1 l1_2) else (some (([] : List (S33)), false)))) = some (r1, r2) := h
 clear h
 obtain ⟨y103, hy103⟩ : ∃ y_ : List (S26), y_ = (([(⟨a0_0, a0_1, l0_2⟩ : S26), (⟨a1_0, a1_1, l1_2⟩ : S26)] : List (S26))) := ⟨_, rfl⟩
 replace H : ((impl_areAlike.f k y103).bind fun t106 => (if t106 = true then (impl_RankMotions.l0 k ([] : List (S46)) (-2) a0_0 a0_1 l0_2 a1_0 a1_1 l1_2) else (some (([] : List (S33)), false)))) = some (r1, r2) := by first | (rw [hy103]; with_reducible exact H) | (have H2_ := (Option.bind_some _ _).symm.trans H; rw [hy103]; with_reducible exact H2_) | (have H2_ := (Option.bind_some _ _).symm.trans H; with_reducible exact H2_) | with_reducible exact H | (rw [hy103]; exact H) | exact H
 have Ny103 := Aside0.mk hy103
 clear hy103
 replace H := Option.bind_eq_some_iff.mp H
 obtain ⟨t106, A30, H⟩ := H
 replace H : (if t106 = true then (impl_RankMotions.l0 k ([] : List (S46)) (-2) a0_0 a0_1 l0_2 a1_0 a1_1 l1_2) else (some (([] : List (S33)), false))) = some (r1, r2) := H
 have A3 := Aside0.mk A30
 clear A30
 by_cases c4 : t106 = true
 rotate_left
 ·
  replace c4 := Bool.eq_false_iff.mpr c4; subst c4
  have H1 : (some (([] : List (S33)), false)) = some (r1, r2) := by rw [if_neg (show ¬ (false = true) by decide)] at H; exact H
  clear H; have H := H1; clear H1
  simp only [Option.some.injEq, Prod.mk.injEq] at H
  obtain ⟨rfl, rfl⟩ := H
  go_enter Try.func6, Try.ntmps6
  go_wp2_with (first | ((with_reducible refine gate_dst (N := 2) rfl ?_); (try (refine gate_guard (by rfl) ?_; dsimp only)); refine bxe (cs := #[.int .i64 a0_0, .int .i64 a0_1, .slice A0_2 l0_2.length c0_2]) (t := 26) ?_; intro gb101 hg w47 hbox hb; replace HO0_2 := aK (Kd.V_below (Kd.V_elderB (by (with_reducible repeat (first | apply Kd.V_alloc | apply Kd.V_drewN | apply Kd.V_drew)); exact HO0_2.out) gb101 (Nat.le_of_eq hg.symm)) hb); replace HO1_2 := aK (Kd.V_below (Kd.V_elderB (by (with_reducible repeat (first | apply Kd.V_alloc | apply Kd.V_drewN | apply Kd.V_drew)); exact HO1_2.out) gb101 (Nat.le_of_eq hg.symm)) hb); have BK101 := aK (hbox); have GW101 := aK (gE hg (pS HB.out)); have GE101 := GW101; replace HB := bS HB hb; clear hb hbox hg) | ((with_reducible refine gate_dst (N := 3) rfl ?_); (try (refine gate_guard (by rfl) ?_; dsimp only)); refine bxe (cs := #[.int .i64 a1_0, .int .i64 a1_1, .slice A1_2 l1_2.length c1_2]) (t := 26) ?_; intro gb102 hg w48 hbox hb; replace HO0_2 := aK (Kd.V_below (Kd.V_elderB (by (with_reducible repeat (first | apply Kd.V_alloc | apply Kd.V_drewN | apply Kd.V_drew)); exact HO0_2.out) gb102 (Nat.le_of_eq hg.symm)) hb); replace HO1_2 := aK (Kd.V_below (Kd.V_elderB (by (with_reducible repeat (first | apply Kd.V_alloc | apply Kd.V_drewN | apply Kd.V_drew)); exact HO1_2.out) gb102 (Nat.le_of_eq hg.symm)) hb); have BK102 := aK (hbox); have GW102 := aK (gE hg (pS HB.out)); have GE102 := GW102; obtain ⟨NB101_102, NB102_101⟩ := nb hg (pB BK101.out); replace BK101 := bB BK101 hb; replace HB := bS HB hb; clear hb hbox hg; obtain ⟨hnb49, hnc49⟩ := nB NB101_102; obtain ⟨z50_0, z50_1, z50_2, y50_0, y50_1, y50_2⟩ := bc3 BK101.out; obtain ⟨z51_0, z51_1, z51_2, y51_0, y51_1, y51_2⟩ := bc3 BK102.out) | ((with_reducible refine gate_dst (N := 16) rfl ?_); (try (refine gate_guard (by rfl) ?_; dsimp only)); refine Kd.N_lit k26 _ 26 ?hg (N' := 16) ?hd (xs := ([(⟨a0_0, a0_1, l0_2⟩ : S26), (⟨a1_0, a1_1, l1_2⟩ : S26)] : List (S26))) (inner := [.int .i64 a0_0, .int .i64 a0_1, .slice A0_2 l0_2.length c0_2, .int .i64 a1_0, .int .i64 a1_1, .slice A1_2 l1_2.length c1_2]) (ok := (fun k_ => ((P0_2_ k_ ∨ P1_2_ k_) ∨ w.heap.size ≤ k_) ∧ k_ ≠ gb101 ∧ k_ ≠ gb102)) (okp := (fun k_ => ((P0_2_ k_ ∨ P1_2_ k_) ∨ w.heap.size ≤ k_) ∧ k_ ≠ gb101 ∧ k_ ≠ gb102)) ?hr ?hp (fun _ hk => hk) ((show ∀ k_, w48.heap.size ≤ k_ → (fun k_ => ((P0_2_ k_ ∨ P1_2_ k_) ∨ w.heap.size ≤ k_) ∧ k_ ≠ gb101 ∧ k_ ≠ gb102) k_ from fun k_ hk => ⟨(.inr (Nat.le_trans (below_size (pS HB.out)) hk)), Kd.freshB (g := gb101) (o := .cells #[.int .i64 a0_0, .int .i64 a0_1, .slice A0_2 l0_2.length c0_2] 26 (0, 0)) (pB BK101.out) k_ hk, Kd.freshB (g := gb102) (o := .cells #[.int .i64 a1_0, .int .i64 a1_1, .slice A1_2 l1_2.length c1_2] 26 (0, 0)) (pB BK102.out) k_ hk⟩) _ (Nat.le_refl _)) (Below.refl _ _) (Nat.le_refl _) (by simp) ?_; (case hd => rfl); (case hg => rfl); (case hr => first | (go_simp; done) | (go_simp; rfl)); (case hp => exact (Reps.c3 (show Kd.FK k26 _ _ (⟨a0_0, a0_1, l0_2⟩ : S26) [.int .i64 a0_0, .int .i64 a0_1, .slice A0_2 l0_2.length c0_2] from (k26_mkF _ _ (⟨a0_0, a0_1, l0_2⟩ : S26) (Kd.V_reads' (Kd.V_mono (ok' := (fun k_ => ((P0_2_ k_ ∨ P1_2_ k_) ∨ w.heap.size ≤ k_) ∧ k_ ≠ gb101 ∧ k_ ≠ gb102)) (HO0_2.out) (fun k_ hk => ⟨hk.1.1, ⟨hk.1.2, hk.2⟩⟩))).2.1 (Kd.V_F (Kd.V_mono (ok' := (fun k_ => ((P0_2_ k_ ∨ P1_2_ k_) ∨ w.heap.size ≤ k_) ∧ k_ ≠ gb101 ∧ k_ ≠ gb102)) (HO0_2.out) (fun k_ hk => ⟨hk.1.1, ⟨hk.1.2, hk.2⟩⟩))))) (Reps.c3 (show Kd.FK k26 _ _ (⟨a1_0, a1_1, l1_2⟩ : S26) [.int .i64 a1_0, .int .i64 a1_1, .slice A1_2 l1_2.length c1_2] from (k26_mkF _ _ (⟨a1_0, a1_1, l1_2⟩ : S26) (Kd.V_reads' (Kd.V_mono (ok' := (fun k_ => ((P0_2_ k_ ∨ P1_2_ k_) ∨ w.heap.size ≤ k_) ∧ k_ ≠ gb101 ∧ k_ ≠ gb102)) (HO1_2.out) (fun k_ hk => ⟨hk.1.1, ⟨hk.1.2, hk.2⟩⟩))).2.1 (Kd.V_F (Kd.V_mono (ok' := (fun k_ => ((P0_2_ k_ ∨ P1_2_ k_) ∨ w.heap.size ≤ k_) ∧ k_ ≠ gb101 ∧ k_ ≠ gb102)) (HO1_2.out) (fun k_ hk => ⟨hk.1.1, ⟨hk.1.2, hk.2⟩⟩))))) (Reps.none _ _)))); intro v104 w52 ho53 hb hg_ hnew_; clear hg_ hnew_; (first | rw [← Ny103.out] at ho53 | (simp only [Int.reduceToNat] at ho53; rw [← Ny103.out] at ho53)); replace HO0_2 := aK (Kd.V_elder' (by (with_reducible repeat (first | apply Kd.V_alloc | apply Kd.V_drewN | apply Kd.V_drew)); exact HO0_2.out) (Kd.N_base ho53) hb); replace HO1_2 := aK (Kd.V_elder' (by (with_reducible repeat (first | apply Kd.V_alloc | apply Kd.V_drewN | apply Kd.V_drew)); exact HO1_2.out) (Kd.N_base ho53) hb); have HO105 := aK (Kd.N_lower ho53 (below_size (pS HB.out))); replace BK101 := bB BK101 hb; replace BK102 := bB BK102 hb; replace HB := bS HB hb; clear hb ho53; obtain ⟨Ao54, co54, eo54⟩ := Kd.N_slice HO105.out; subst eo54) | ((with_reducible refine gate_callee (f := 14) rfl ?_); refine gl (some 17) Try.func14 #[.slice Ao54 y103.length co54] ?_; (with_reducible refine (impl_areAlike.calls k _ _ y103 false _ ?side1 ?side2 A3.out).mono ?_); (case side1 => exact pC (Kd.N_reads' HO105.out).2.2); (case side2 => exact (Kd.N_reads' HO105.out).2.1); rintro e w55 ⟨rfl, hb⟩; refine ⟨_, rfl, ?_⟩; replace HO0_2 := aK (Kd.V_below (by (with_reducible repeat (first | apply Kd.V_alloc | apply Kd.V_drewN | apply Kd.V_drew)); exact HO0_2.out) hb); replace HO1_2 := aK (Kd.V_below (by (with_reducible repeat (first | apply Kd.V_alloc | apply Kd.V_drewN | apply Kd.V_drew)); exact HO1_2.out) hb); replace HO105 := aK (Kd.N_below (by (with_reducible repeat (first | apply Kd.N_alloc | apply Kd.N_drewN | apply Kd.N_drew)); exact HO105.out) hb); replace BK101 := bB BK101 hb; replace BK102 := bB BK102 hb; replace HB := bS HB hb; (try clear hb)))
  go_ret2
  exact ⟨_, er, by first | exact Kd.R_nil _ _ _ _ _ | exact Kd.N_nil _ _ _ _ _ | exact Kd.V_nil _ _ _ _ _ | exact Kd.Q_nil _ _ _ _ _ | exact Kd.S_nil _ _ _ _ _, pT HB.out⟩
 subst c4
 have H1 : (impl_RankMotions.l0 k ([] : List (S46)) (-2) a0_0 a0_1 l0_2 a1_0 a1_1 l1_2) = some (r1, r2) := by rw [if_pos rfl] at H; exact H
 clear H
 have H := H1
 clear H1
 have H' := Aside0.mk H
 clear H
 go_enter Try.func6, Try.ntmps6
 go_wp2_with (first | ((with_reducible refine gate_dst (N := 2) rfl ?_); (try (refine gate_guard (by rfl) ?_; dsimp only)); refine bxe (cs := #[.int .i64 a0_0, .int .i64 a0_1, .slice A0_2 l0_2.length c0_2]) (t := 26) ?_; intro gb101 hg w5 hbox hb; replace HO0_2 := aK (Kd.V_below (Kd.V_elderB (by (with_reducible repeat (first | apply Kd.V_alloc | apply Kd.V_drewN | apply Kd.V_drew)); exact HO0_2.out) gb101 (Nat.le_of_eq hg.symm)) hb); replace HO1_2 := aK (Kd.V_below (Kd.V_elderB (by (with_reducible repeat (first | apply Kd.V_alloc | apply Kd.V_drewN | apply Kd.V_drew)); exact HO1_2.out) gb101 (Nat.le_of_eq hg.symm)) hb); have BK101 := aK (hbox); have GW101 := aK (gE hg (pS HB.out)); have GE101 := GW101; replace HB := bS HB hb; clear hb hbox hg) | ((with_reducible refine gate_dst (N := 3) rfl ?_); (try (refine gate_guard (by rfl) ?_; dsimp only)); refine bxe (cs := #[.int .i64 a1_0, .int .i64 a1_1, .slice A1_2 l1_2.length c1_2]) (t := 26) ?_; intro gb102 hg w6 hbox hb; replace HO0_2 := aK (Kd.V_below (Kd.V_elderB (by (with_reducible repeat (first | apply Kd.V_alloc | apply Kd.V_drewN | apply Kd.V_drew)); exact HO0_2.out) gb102 (Nat.le_of_eq hg.symm)) hb); replace HO1_2 := aK (Kd.V_below (Kd.V_elderB (by (with_reducible repeat (first | apply Kd.V_alloc | apply Kd.V_drewN | apply Kd.V_drew)); exact HO1_2.out) gb102 (Nat.le_of_eq hg.symm)) hb); have BK102 := aK (hbox); have GW102 := aK (gE hg (pS HB.out)); have GE102 := GW102; obtain ⟨NB101_102, NB102_101⟩ := nb hg (pB BK101.out); replace BK101 := bB BK101 hb; replace HB := bS HB hb; clear hb hbox hg; obtain ⟨hnb7, hnc7⟩ := nB NB101_102; obtain ⟨z8_0, z8_1, z8_2, y8_0, y8_1, y8_2⟩ := bc3 BK101.out; obtain ⟨z9_0, z9_1, z9_2, y9_0, y9_1, y9_2⟩ := bc3 BK102.out) | ((with_reducible refine gate_dst (N := 16) rfl ?_); (try (refine gate_guard (by rfl) ?_; dsimp only)); refine Kd.N_lit k26 _ 26 ?hg (N' := 16) ?hd (xs := ([(⟨a0_0, a0_1, l0_2⟩ : S26), (⟨a1_0, a1_1, l1_2⟩ : S26)] : List (S26))) (inner := [.int .i64 a0_0, .int .i64 a0_1, .slice A0_2 l0_2.length c0_2, .int .i64 a1_0, .int .i64 a1_1, .slice A1_2 l1_2.length c1_2]) (ok := (fun k_ => ((P0_2_ k_ ∨ P1_2_ k_) ∨ w.heap.size ≤ k_) ∧ k_ ≠ gb101 ∧ k_ ≠ gb102)) (okp := (fun k_ => ((P0_2_ k_ ∨ P1_2_ k_) ∨ w.heap.size ≤ k_) ∧ k_ ≠ gb101 ∧ k_ ≠ gb102)) ?hr ?hp (fun _ hk => hk) ((show ∀ k_, w6.heap.size ≤ k_ → (fun k_ => ((P0_2_ k_ ∨ P1_2_ k_) ∨ w.heap.size ≤ k_) ∧ k_ ≠ gb101 ∧ k_ ≠ gb102) k_ from fun k_ hk => ⟨(.inr (Nat.le_trans (below_size (pS HB.out)) hk)), Kd.freshB (g := gb101) (o := .cells #[.int .i64 a0_0, .int .i64 a0_1, .slice A0_2 l0_2.length c0_2] 26 (0, 0)) (pB BK101.out) k_ hk, Kd.freshB (g := gb102) (o := .cells #[.int .i64 a1_0, .int .i64 a1_1, .slice A1_2 l1_2.length c1_2] 26 (0, 0)) (pB BK102.out) k_ hk⟩) _ (Nat.le_refl _)) (Below.refl _ _) (Nat.le_refl _) (by simp) ?_; (case hd => rfl); (case hg => rfl); (case hr => first | (go_simp; done) | (go_simp; rfl)); (case hp => exact (Reps.c3 (show Kd.FK k26 _ _ (⟨a0_0, a0_1, l0_2⟩ : S26) [.int .i64 a0_0, .int .i64 a0_1, .slice A0_2 l0_2.length c0_2] from (k26_mkF _ _ (⟨a0_0, a0_1, l0_2⟩ : S26) (Kd.V_reads' (Kd.V_mono (ok' := (fun k_ => ((P0_2_ k_ ∨ P1_2_ k_) ∨ w.heap.size ≤ k_) ∧ k_ ≠ gb101 ∧ k_ ≠ gb102)) (HO0_2.out) (fun k_ hk => ⟨hk.1.1, ⟨hk.1.2, hk.2⟩⟩))).2.1 (Kd.V_F (Kd.V_mono (ok' := (fun k_ => ((P0_2_ k_ ∨ P1_2_ k_) ∨ w.heap.size ≤ k_) ∧ k_ ≠ gb101 ∧ k_ ≠ gb102)) (HO0_2.out) (fun k_ hk => ⟨hk.1.1, ⟨hk.1.2, hk.2⟩⟩))))) (Reps.c3 (show Kd.FK k26 _ _ (⟨a1_0, a1_1, l1_2⟩ : S26) [.int .i64 a1_0, .int .i64 a1_1, .slice A1_2 l1_2.length c1_2] from (k26_mkF _ _ (⟨a1_0, a1_1, l1_2⟩ : S26) (Kd.V_reads' (Kd.V_mono (ok' := (fun k_ => ((P0_2_ k_ ∨ P1_2_ k_) ∨ w.heap.size ≤ k_) ∧ k_ ≠ gb101 ∧ k_ ≠ gb102)) (HO1_2.out) (fun k_ hk => ⟨hk.1.1, ⟨hk.1.2, hk.2⟩⟩))).2.1 (Kd.V_F (Kd.V_mono (ok' := (fun k_ => ((P0_2_ k_ ∨ P1_2_ k_) ∨ w.heap.size ≤ k_) ∧ k_ ≠ gb101 ∧ k_ ≠ gb102)) (HO1_2.out) (fun k_ hk => ⟨hk.1.1, ⟨hk.1.2, hk.2⟩⟩))))) (Reps.none _ _)))); intro v104 w10 ho11 hb hg_ hnew_; clear hg_ hnew_; (first | rw [← Ny103.out] at ho11 | (simp only [Int.reduceToNat] at ho11; rw [← Ny103.out] at ho11)); replace HO0_2 := aK (Kd.V_elder' (by (with_reducible repeat (first | apply Kd.V_alloc | apply Kd.V_drewN | apply Kd.V_drew)); exact HO0_2.out) (Kd.N_base ho11) hb); replace HO1_2 := aK (Kd.V_elder' (by (with_reducible repeat (first | apply Kd.V_alloc | apply Kd.V_drewN | apply Kd.V_drew)); exact HO1_2.out) (Kd.N_base ho11) hb); have HO105 := aK (Kd.N_lower ho11 (below_size (pS HB.out))); replace BK101 := bB BK101 hb; replace BK102 := bB BK102 hb; replace HB := bS HB hb; clear hb ho11; obtain ⟨Ao12, co12, eo12⟩ := Kd.N_slice HO105.out; subst eo12) | ((with_reducible refine gate_callee (f := 14) rfl ?_); refine gl (some 17) Try.func14 #[.slice Ao12 y103.length co12] ?_; (with_reducible refine (impl_areAlike.calls k _ _ y103 true _ ?side1 ?side2 A3.out).mono ?_); (case side1 => exact pC (Kd.N_reads' HO105.out).2.2); (case side2 => exact (Kd.N_reads' HO105.out).2.1); rintro e w13 ⟨rfl, hb⟩; refine ⟨_, rfl, ?_⟩; replace HO0_2 := aK (Kd.V_below (by (with_reducible repeat (first | apply Kd.V_alloc | apply Kd.V_drewN | apply Kd.V_drew)); exact HO0_2.out) hb); replace HO1_2 := aK (Kd.V_below (by (with_reducible repeat (first | apply Kd.V_alloc | apply Kd.V_drewN | apply Kd.V_drew)); exact HO1_2.out) hb); replace HO105 := aK (Kd.N_below (by (with_reducible repeat (first | apply Kd.N_alloc | apply Kd.N_drewN | apply Kd.N_drew)); exact HO105.out) hb); replace BK101 := bB BK101 hb; replace BK102 := bB BK102 hb; replace HB := bS HB hb; (try clear hb)))
 go_loopg [6, 7] k (fun kq v6 v7 w' => ∃ (x6_1 : List (S46)) (x7_1 : Int), v7 = .int .i64 x7_1 ∧ Aside0 (impl_RankMotions.l0 kq x6_1 x7_1 a0_0 a0_1 l0_2 a1_0 a1_1 l1_2 = some (r1, r2)) ∧ Aside0 (kq ≤ k) ∧ Aside0 (Kd.R k46 46 w' w.heap.size (fun k_ => (w.heap.size ≤ k_)) v6 x6_1) ∧ Aside0 (Kd.V (Kd.int .i64) 3 w' w.heap.size (fun k_ => ((P0_2_ k_ ∨ P1_2_ k_) ∨ w.heap.size ≤ k_) ∧ some k_ ≠ (v6 : Value).ownBlock ∧ k_ ≠ gb101 ∧ k_ ≠ gb102) (.slice A0_2 l0_2.length c0_2) l0_2) ∧ Aside0 (Kd.V (Kd.int .i64) 3 w' w.heap.size (fun k_ => ((P0_2_ k_ ∨ P1_2_ k_) ∨ w.heap.size ≤ k_) ∧ some k_ ≠ (v6 : Value).ownBlock ∧ k_ ≠ gb101 ∧ k_ ≠ gb102) (.slice A1_2 l1_2.length c1_2) l1_2) ∧ Aside0 (w'.heap[gb101]? = some (.cells #[.int .i64 a0_0, .int .i64 a0_1, (.slice A0_2 l0_2.length c0_2)] 26 (0, 0))) ∧ Aside0 (w'.heap[gb102]? = some (.cells #[.int .i64 a1_0, .int .i64 a1_1, (.slice A1_2 l1_2.length c1_2)] 26 (0, 0))) ∧ Aside0 (Below w.heap.size w w'))
 case atStart => exact ⟨(([] : List (S46))), ((-2)), (by first | rfl | (simp; done) | (simp [*]; done)), H', ⟨Nat.le_refl _⟩, ⟨by first | exact Kd.R_nil _ _ _ _ _ | exact Kd.N_nil _ _ _ _ _ | exact Kd.V_nil _ _ _ _ _ | exact Kd.Q_nil _ _ _ _ _ | exact Kd.S_nil _ _ _ _ _⟩, ⟨by (with_reducible repeat (first | apply Kd.V_alloc | apply Kd.V_drewN | apply Kd.V_drew)); exact Kd.V_mono HO0_2.out (fun _ hk => ⟨hk.1.1.1, ⟨(by simp [Value.ownBlock]), ⟨hk.1.1.2, hk.1.2⟩⟩⟩)⟩, ⟨by (with_reducible repeat (first | apply Kd.V_alloc | apply Kd.V_drewN | apply Kd.V_drew)); exact Kd.V_mono HO1_2.out (fun _ hk => ⟨hk.1.1.1, ⟨(by simp [Value.ownBlock]), ⟨hk.1.1.2, hk.1.2⟩⟩⟩)⟩, ⟨by refine bk ?_; exact BK101.out⟩, ⟨by refine bk ?_; exact BK102.out⟩, ⟨pT HB.out⟩⟩
 case round =>
  clear H'
  try clear z8_0
  try clear z8_1
  try clear z8_2
  try clear z9_0
  try clear z9_1
  try clear z9_2
  try clear y8_0
  try clear y8_1
  try clear y8_2
  try clear y9_0
  try clear y9_1
  try clear y9_2
  obtain ⟨x6_1, x7_1, rfl, HA, HK1, HO_6, HO_102002, HO_103002, BK101, BK102, HB⟩ := hrel
  cases gk with
  | zero => exact absurd HA.out (by simp [impl_RankMotions.l0])
  | succ k1 =>
   have H := HA.out; clear HA
   simp only [impl_RankMotions.l0] at H
   by_cases c14 : x7_1 ≤ 2
   ·
    rw [if_pos c14] at H
    have c14b0 : decide (x7_1 ≤ 2) = true := decide_eq_true c14
    clear c14; have H' := Aside0.mk H; clear H
    go_wp2
    go_loopg [6, 8] k1 (fun kq v6 v8 w' => ∃ (x6_2 : List (S46)) (x8_2 : Int), v8 = .int .i64 x8_2 ∧ Aside0 (impl_RankMotions.l1 kq x6_2 x7_1 x8_2 a0_0 a0_1 l0_2 a1_0 a1_1 l1_2 = some (r1, r2)) ∧ Aside0 (kq ≤ k1) ∧ Aside0 (Kd.R k46 46 w' w.heap.size (fun k_ => (w.heap.size ≤ k_)) v6 x6_2) ∧ Aside0 (Kd.V (Kd.int .i64) 3 w' w.heap.size (fun k_ => ((P0_2_ k_ ∨ P1_2_ k_) ∨ w.heap.size ≤ k_) ∧ some k_ ≠ (v6 : Value).ownBlock ∧ k_ ≠ gb101 ∧ k_ ≠ gb102) (.slice A0_2 l0_2.length c0_2) l0_2) ∧ Aside0 (Kd.V (Kd.int .i64) 3 w' w.heap.size (fun k_ => ((P0_2_ k_ ∨ P1_2_ k_) ∨ w.heap.size ≤ k_) ∧ some k_ ≠ (v6 : Value).ownBlock ∧ k_ ≠ gb101 ∧ k_ ≠ gb102) (.slice A1_2 l1_2.length c1_2) l1_2) ∧ Aside0 (w'.heap[gb101]? = some (.cells #[.int .i64 a0_0, .int .i64 a0_1, (.slice A0_2 l0_2.length c0_2)] 26 (0, 0))) ∧ Aside0 (w'.heap[gb102]? = some (.cells #[.int .i64 a1_0, .int .i64 a1_1, (.slice A1_2 l1_2.length c1_2)] 26 (0, 0))) ∧ Aside0 (Below w.heap.size w w'))
    case atStart => exact ⟨(x6_1), ((-2)), (by first | rfl | (simp; done) | (simp [*]; done)), H', ⟨Nat.le_refl _⟩, ⟨pR HO_6.out⟩, ⟨by (with_reducible repeat (first | apply Kd.V_alloc | apply Kd.V_drewN | apply Kd.V_drew)); exact HO_102002.out⟩, ⟨by (with_reducible repeat (first | apply Kd.V_alloc | apply Kd.V_drewN | apply Kd.V_drew)); exact HO_103002.out⟩, ⟨by refine bk ?_; exact BK101.out⟩, ⟨by refine bk ?_; exact BK102.out⟩, ⟨pT HB.out⟩⟩
    case round =>
     clear H'
     try clear c14b0
     obtain ⟨x6_2, x8_2, rfl, HA, HK2, HO_6, HO_102002, HO_103002, BK101, BK102, HB⟩ := hrel
     cases gk with
     | zero => exact absurd HA.out (by simp [impl_RankMotions.l1])
     | succ k2 =>
      have H := HA.out; clear HA
      simp only [impl_RankMotions.l1] at H
      by_cases c15 : x8_2 ≤ 2
      rotate_left
      ·
       rw [if_neg c15] at H
       have c15b0 : decide (x8_2 ≤ 2) = false := decide_eq_false c15
       clear c15; have H' := Aside0.mk H; clear H
       go_wp2
       go_roundg k2
       case measure => have := HK1.out; have := HK2.out; omega
       case rel => exact ⟨(x6_2), (wrap64 (x7_1 + 1)), (by first | rfl | (simp; done) | (simp [*]; done)), H', ⟨by have := HK1.out; have := HK2.out; omega⟩, ⟨pR HO_6.out⟩, ⟨by (with_reducible repeat (first | apply Kd.V_alloc | apply Kd.V_drewN | apply Kd.V_drew)); exact HO_102002.out⟩, ⟨by (with_reducible repeat (first | apply Kd.V_alloc | apply Kd.V_drewN | apply Kd.V_drew)); exact HO_103002.out⟩, ⟨by refine bk ?_; exact BK101.out⟩, ⟨by refine bk ?_; exact BK102.out⟩, ⟨pT HB.out⟩⟩
      rw [if_pos c15] at H
      have c15b0 : decide (x8_2 ≤ 2) = true := decide_eq_true c15
      clear c15; replace H := Option.bind_eq_some_iff.mp H
      obtain ⟨⟨t107, t108⟩, A160, H⟩ := H
      replace H : (if t108 ≥ 1 then (if (wrap64 (2 * t108)) ≥ (l0_2.length : Int) then (if x6_2.length < 4398046511104 then (impl_RankMotions.l1 k2 (x6_2 ++ [(⟨(⟨x8_2, x7_1⟩ : S33), t107, t108⟩ : S46)]) x7_1 (wrap64 (x8_2 + 1)) a0_0 a0_1 l0_2 a1_0 a1_1 l1_2) else (none)) else (impl_RankMotions.l1 k2 x6_2 x7_1 (wrap64 (x8_2 + 1)) a0_0 a0_1 l0_2 a1_0 a1_1 l1_2)) else (impl_RankMotions.l1 k2 x6_2 x7_1 (wrap64 (x8_2 + 1)) a0_0 a0_1 l0_2 a1_0 a1_1 l1_2)) = some (r1, r2) := H
      have A16 := Aside0.mk A160; clear A160
      by_cases c17 : t108 ≥ 1
      rotate_left
      ·
       rw [if_neg c17] at H
       have c17b0 : decide (1 ≤ t108) = false := decide_eq_false c17
       clear c17; have H' := Aside0.mk H; clear H; obtain ⟨hnb31, hnc31⟩ := nB NB101_102; obtain ⟨z32_0, z32_1, z32_2, y32_0, y32_1, y32_2⟩ := bc3 BK101.out; obtain ⟨z33_0, z33_1, z33_2, y33_0, y33_1, y33_2⟩ := bc3 BK102.out
       go_wp2_with (first | ((with_reducible refine gate_callee (f := 15) rfl ?_); refine gl (some 33) Try.func15 #[.agg #[.int .i64 a0_0, .int .i64 a0_1, .slice A0_2 l0_2.length c0_2], .agg #[.int .i64 a1_0, .int .i64 a1_1, .slice A1_2 l1_2.length c1_2], .agg #[.int .i64 x8_2, .int .i64 x7_1]] ?_; (with_reducible refine (impl_matchOf.calls k2 a0_0 a0_1 _ _ l0_2 a1_0 a1_1 _ _ l1_2 x8_2 x7_1 t107 t108 _ ?side1 ?side2 ?side3 ?side4 A16.out).mono ?_); (case side1 => exact pC (Kd.V_reads' HO_102002.out).2.2); (case side2 => exact (Kd.V_reads' HO_102002.out).2.1); (case side3 => exact pC (Kd.V_reads' HO_103002.out).2.2); (case side4 => exact (Kd.V_reads' HO_103002.out).2.1); rintro e w34 ⟨rfl, hb⟩; refine ⟨_, rfl, ?_⟩; replace HO_6 := aK (Kd.R_below (pR HO_6.out) hb); replace HO_102002 := aK (Kd.V_below (by (with_reducible repeat (first | apply Kd.V_alloc | apply Kd.V_drewN | apply Kd.V_drew)); exact HO_102002.out) hb); replace HO_103002 := aK (Kd.V_below (by (with_reducible repeat (first | apply Kd.V_alloc | apply Kd.V_drewN | apply Kd.V_drew)); exact HO_103002.out) hb); replace BK101 := bB BK101 hb; replace BK102 := bB BK102 hb; replace HB := bS HB hb; (try clear hb)))
       go_roundg k2
       case measure => have := HK1.out; have := HK2.out; omega
       case rel => exact ⟨(x6_2), (wrap64 (x8_2 + 1)), (by first | rfl | (simp; done) | (simp [*]; done)), H', ⟨by have := HK1.out; have := HK2.out; omega⟩, ⟨pR HO_6.out⟩, ⟨by (with_reducible repeat (first | apply Kd.V_alloc | apply Kd.V_drewN | apply Kd.V_drew)); exact HO_102002.out⟩, ⟨by (with_reducible repeat (first | apply Kd.V_alloc | apply Kd.V_drewN | apply Kd.V_drew)); exact HO_103002.out⟩, ⟨by refine bk ?_; exact BK101.out⟩, ⟨by refine bk ?_; exact BK102.out⟩, ⟨pT HB.out⟩⟩
      rw [if_pos c17] at H
      have c17b0 : decide (1 ≤ t108) = true := decide_eq_true c17
      clear c17
      by_cases c18 : (wrap64 (2 * t108)) ≥ (l0_2.length : Int)
      rotate_left
      ·
       rw [if_neg c18] at H
       have c18b0 : decide ((l0_2.length : Int) ≤ (wrap64 (2 * t108))) = false := decide_eq_false c18
       clear c18; have H' := Aside0.mk H; clear H; obtain ⟨hnb26, hnc26⟩ := nB NB101_102; obtain ⟨z27_0, z27_1, z27_2, y27_0, y27_1, y27_2⟩ := bc3 BK101.out; obtain ⟨z28_0, z28_1, z28_2, y28_0, y28_1, y28_2⟩ := bc3 BK102.out
       go_wp2_with (first | ((with_reducible refine gate_callee (f := 15) rfl ?_); refine gl (some 33) Try.func15 #[.agg #[.int .i64 a0_0, .int .i64 a0_1, .slice A0_2 l0_2.length c0_2], .agg #[.int .i64 a1_0, .int .i64 a1_1, .slice A1_2 l1_2.length c1_2], .agg #[.int .i64 x8_2, .int .i64 x7_1]] ?_; (with_reducible refine (impl_matchOf.calls k2 a0_0 a0_1 _ _ l0_2 a1_0 a1_1 _ _ l1_2 x8_2 x7_1 t107 t108 _ ?side1 ?side2 ?side3 ?side4 A16.out).mono ?_); (case side1 => exact pC (Kd.V_reads' HO_102002.out).2.2); (case side2 => exact (Kd.V_reads' HO_102002.out).2.1); (case side3 => exact pC (Kd.V_reads' HO_103002.out).2.2); (case side4 => exact (Kd.V_reads' HO_103002.out).2.1); rintro e w29 ⟨rfl, hb⟩; refine ⟨_, rfl, ?_⟩; replace HO_6 := aK (Kd.R_below (pR HO_6.out) hb); replace HO_102002 := aK (Kd.V_below (by (with_reducible repeat (first | apply Kd.V_alloc | apply Kd.V_drewN | apply Kd.V_drew)); exact HO_102002.out) hb); replace HO_103002 := aK (Kd.V_below (by (with_reducible repeat (first | apply Kd.V_alloc | apply Kd.V_drewN | apply Kd.V_drew)); exact HO_103002.out) hb); replace BK101 := bB BK101 hb; replace BK102 := bB BK102 hb; replace HB := bS HB hb; (try clear hb); obtain ⟨z30_0, z30_1, z30_2, y30_0, y30_1, y30_2⟩ := bc3 BK101.out))
       go_roundg k2
       case measure => have := HK1.out; have := HK2.out; omega
       case rel => exact ⟨(x6_2), (wrap64 (x8_2 + 1)), (by first | rfl | (simp; done) | (simp [*]; done)), H', ⟨by have := HK1.out; have := HK2.out; omega⟩, ⟨pR HO_6.out⟩, ⟨by (with_reducible repeat (first | apply Kd.V_alloc | apply Kd.V_drewN | apply Kd.V_drew)); exact HO_102002.out⟩, ⟨by (with_reducible repeat (first | apply Kd.V_alloc | apply Kd.V_drewN | apply Kd.V_drew)); exact HO_103002.out⟩, ⟨by refine bk ?_; exact BK101.out⟩, ⟨by refine bk ?_; exact BK102.out⟩, ⟨pT HB.out⟩⟩
      rw [if_pos c18] at H
      have c18b0 : decide ((l0_2.length : Int) ≤ (wrap64 (2 * t108))) = true := decide_eq_true c18
      clear c18
      by_cases c19 : x6_2.length < 4398046511104
      rotate_left
      ·
       rw [if_neg c19] at H
       exact absurd H (by simp)
      rw [if_pos c19] at H; have LMc19 := Aside0.mk c19; clear c19
      obtain ⟨y109, hy109⟩ : ∃ y_ : List (S46), y_ = (x6_2 ++ [(⟨(⟨x8_2, x7_1⟩ : S33), t107, t108⟩ : S46)]) := ⟨_, rfl⟩
      replace H : (impl_RankMotions.l1 k2 y109 x7_1 (wrap64 (x8_2 + 1)) a0_0 a0_1 l0_2 a1_0 a1_1 l1_2) = some (r1, r2) := by first | (rw [hy109]; with_reducible exact H) | (have H2_ := (Option.bind_some _ _).symm.trans H; rw [hy109]; with_reducible exact H2_) | (have H2_ := (Option.bind_some _ _).symm.trans H; with_reducible exact H2_) | with_reducible exact H | (rw [hy109]; exact H) | exact H
      have Ny109 := Aside0.mk hy109; clear hy109; have H' := Aside0.mk H; clear H; obtain ⟨hnb20, hnc20⟩ := nB NB101_102; obtain ⟨z21_0, z21_1, z21_2, y21_0, y21_1, y21_2⟩ := bc3 BK101.out; obtain ⟨z22_0, z22_1, z22_2, y22_0, y22_1, y22_2⟩ := bc3 BK102.out
      go_wp2_with (first | ((with_reducible refine gate_callee (f := 15) rfl ?_); refine gl (some 33) Try.func15 #[.agg #[.int .i64 a0_0, .int .i64 a0_1, .slice A0_2 l0_2.length c0_2], .agg #[.int .i64 a1_0, .int .i64 a1_1, .slice A1_2 l1_2.length c1_2], .agg #[.int .i64 x8_2, .int .i64 x7_1]] ?_; (with_reducible refine (impl_matchOf.calls k2 a0_0 a0_1 _ _ l0_2 a1_0 a1_1 _ _ l1_2 x8_2 x7_1 t107 t108 _ ?side1 ?side2 ?side3 ?side4 A16.out).mono ?_); (case side1 => exact pC (Kd.V_reads' HO_102002.out).2.2); (case side2 => exact (Kd.V_reads' HO_102002.out).2.1); (case side3 => exact pC (Kd.V_reads' HO_103002.out).2.2); (case side4 => exact (Kd.V_reads' HO_103002.out).2.1); rintro e w23 ⟨rfl, hb⟩; refine ⟨_, rfl, ?_⟩; replace HO_6 := aK (Kd.R_below (pR HO_6.out) hb); replace HO_102002 := aK (Kd.V_below (by (with_reducible repeat (first | apply Kd.V_alloc | apply Kd.V_drewN | apply Kd.V_drew)); exact HO_102002.out) hb); replace HO_103002 := aK (Kd.V_below (by (with_reducible repeat (first | apply Kd.V_alloc | apply Kd.V_drewN | apply Kd.V_drew)); exact HO_103002.out) hb); replace BK101 := bB BK101 hb; replace BK102 := bB BK102 hb; replace HB := bS HB hb; (try clear hb); obtain ⟨z24_0, z24_1, z24_2, y24_0, y24_1, y24_2⟩ := bc3 BK101.out) | ((with_reducible refine gate_builtin (b := .append) (xs := #[.tmp 46, .tmp 53]) rfl ?_); (try (refine gate_guard (by rfl) ?_; dsimp only)); at_builtin; refine Kd.R_append k46 (w0 := w) w.heap.size rfl (.tmp 46) (.tmp 53) 42 46 (.agg #[(.int .i64 0), (.int .i64 0), (.int .i64 0), (.int .i64 0)]) 32 rfl Try.underlying42 info46 rfl (by decide) (by omega) u6 x6_2 (⟨(⟨x8_2, x7_1⟩ : S33), t107, t108⟩ : S46) [.int .i64 x8_2, .int .i64 x7_1, .int .i64 t107, .int .i64 t108] (fun k_ => (w.heap.size ≤ k_)) (fun _ => False) rfl rfl ?aP (fun _ hk => hk.elim) ?aF ?aO ?aB ?aS ?aL ?_; (case aP => exact k46_mkM _ _ _ (⟨(⟨x8_2, x7_1⟩ : S33), t107, t108⟩ : S46)); (case aB => exact (pS HB.out)); (case aF => exact (fun k_ hk => (Nat.le_trans (below_size (pS HB.out)) hk))); (case aO => exact (pR HO_6.out)); (case aS => exact (below_size (pS HB.out))); (case aL => have := LMc19.out; omega); intro v110 w25 ho hb hg hat; rw [← Ny109.out] at ho; replace HO_102002 := aK (Kd.V_afterv (ok := (fun k_ => ((P0_2_ k_ ∨ P1_2_ k_) ∨ w.heap.size ≤ k_) ∧ k_ ≠ gb101 ∧ k_ ≠ gb102)) (by (with_reducible repeat (first | apply Kd.V_alloc | apply Kd.V_drewN | apply Kd.V_drew)); exact Kd.V_mono HO_102002.out (fun _ hk => ⟨⟨hk.1, ⟨hk.2.2.1, hk.2.2.2⟩⟩, hk.2.1⟩)) hg hat); replace HO_103002 := aK (Kd.V_afterv (ok := (fun k_ => ((P0_2_ k_ ∨ P1_2_ k_) ∨ w.heap.size ≤ k_) ∧ k_ ≠ gb101 ∧ k_ ≠ gb102)) (by (with_reducible repeat (first | apply Kd.V_alloc | apply Kd.V_drewN | apply Kd.V_drew)); exact Kd.V_mono HO_103002.out (fun _ hk => ⟨⟨hk.1, ⟨hk.2.2.1, hk.2.2.2⟩⟩, hk.2.1⟩)) hg hat); replace BK101 := aK (blk_grown (pB BK101.out) hg (Kd.R_ne HO_6.out BK101.out (by decide))); replace BK102 := aK (blk_grown (pB BK102.out) hg (Kd.R_ne HO_6.out BK102.out (by decide))); replace HB := aK (hb); have HO111 := aK (ho); clear HO_6; clear ho hb hg hat))
      go_roundg k2
      case measure => have := HK1.out; have := HK2.out; omega
      case rel => exact ⟨(y109), (wrap64 (x8_2 + 1)), (by first | rfl | (simp; done) | (simp [*]; done)), H', ⟨by have := HK1.out; have := HK2.out; omega⟩, ⟨pR HO111.out⟩, ⟨by (with_reducible repeat (first | apply Kd.V_alloc | apply Kd.V_drewN | apply Kd.V_drew)); exact Kd.V_mono HO_102002.out (fun _ hk => ⟨hk.1.1, ⟨hk.2, ⟨hk.1.2.1, hk.1.2.2⟩⟩⟩)⟩, ⟨by (with_reducible repeat (first | apply Kd.V_alloc | apply Kd.V_drewN | apply Kd.V_drew)); exact Kd.V_mono HO_103002.out (fun _ hk => ⟨hk.1.1, ⟨hk.2, ⟨hk.1.2.1, hk.1.2.2⟩⟩⟩)⟩, ⟨by refine bk ?_; exact BK101.out⟩, ⟨by refine bk ?_; exact BK102.out⟩, ⟨pT HB.out⟩⟩
   rw [if_neg c14] at H
   have c14b0 : decide (x7_1 ≤ 2) = false := decide_eq_false c14
   clear c14; replace H := Option.bind_eq_some_iff.mp H; obtain ⟨t112, A350, H⟩ := H
   replace H : (impl_RankMotions.l2 k1 ([] : List (S33)) t112 (x6_1.length : Int) 0) = some (r1, r2) := H
   have A35 := Aside0.mk A350; clear A350; have H' := Aside0.mk H; clear H; obtain ⟨Ao36, co36, eo36⟩ := Kd.R_slice HO_6.out; subst eo36
   go_wp2_with (first | ((with_reducible refine gate_callee (f := 16) rfl ?_); refine gl (some 56) Try.func16 #[.slice Ao36 x6_1.length co36, .func (.func 17) #[] #[]] ?_; (with_reducible refine (slices_SortFunc_ranked_at_impl_RankMotions_1.calls (fun k_ => some k_ = (.slice Ao36 x6_1.length co36 : Value).ownBlock) (.slice Ao36 x6_1.length co36) x6_1 t112 w _ ?side1 ?side2 A35.out).mono ?_); (case side1 => exact pT HB.out); (case side2 => exact Kd.R_tight rfl HO_6.out); rintro e w37 ⟨rfl, hy0, hb, hkp⟩; refine ⟨_, rfl, ?_⟩; have n0_ := aK (Kd.R_reok rfl hy0 (fun k_ e_ => HO_6.out.1 k_ e_)); replace HO_102002 := aK (Kd.V_mono (ok' := fun k_ => ((P0_2_ k_ ∨ P1_2_ k_) ∨ w.heap.size ≤ k_) ∧ some k_ ≠ (.slice Ao36 x6_1.length co36 : Value).ownBlock ∧ k_ ≠ gb101 ∧ k_ ≠ gb102) (Kd.V_keptB (HO_102002.out) hkp (fun k_ hk_ hs_ => (hk_.2.1) hs_)) (fun k_ hk_ => ⟨hk_.1.1, hk_.1.2.1, hk_.1.2.2.1, hk_.1.2.2.2⟩)); replace HO_103002 := aK (Kd.V_mono (ok' := fun k_ => ((P0_2_ k_ ∨ P1_2_ k_) ∨ w.heap.size ≤ k_) ∧ some k_ ≠ (.slice Ao36 x6_1.length co36 : Value).ownBlock ∧ k_ ≠ gb101 ∧ k_ ≠ gb102) (Kd.V_keptB (HO_103002.out) hkp (fun k_ hk_ hs_ => (hk_.2.1) hs_)) (fun k_ hk_ => ⟨hk_.1.1, hk_.1.2.1, hk_.1.2.2.1, hk_.1.2.2.2⟩)); replace BK101 := aK (blk_kept (pB BK101.out) hkp (fun hs_ => (fun e_ => (Kd.R_ne HO_6.out BK101.out (by decide)) e_) hs_)); replace BK102 := aK (blk_kept (pB BK102.out) hkp (fun hs_ => (fun e_ => (Kd.R_ne HO_6.out BK102.out (by decide)) e_) hs_)); replace HB := aK (hb); clear HO_6; have HO_6 := n0_; clear n0_; (try clear hb); (try clear hkp); (try clear hy0)))
   go_loopg [11, 59] k1 (fun kq v11 v59 w' => ∃ (x11_2 : List (S33)) (x59_2 : Int), v59 = .int .i64 x59_2 ∧ Aside0 (impl_RankMotions.l2 kq x11_2 t112 (x6_1.length : Int) x59_2 = some (r1, r2)) ∧ Aside0 (kq ≤ k1) ∧ Aside0 (Kd.R k33 33 w' w.heap.size (fun k_ => (w.heap.size ≤ k_)) v11 x11_2) ∧ Aside0 (Kd.R k46 46 w' w.heap.size (fun k_ => (w.heap.size ≤ k_)) (.slice Ao36 x6_1.length co36) t112) ∧ Aside0 (Kd.V (Kd.int .i64) 3 w' w.heap.size (fun k_ => ((P0_2_ k_ ∨ P1_2_ k_) ∨ w.heap.size ≤ k_) ∧ some k_ ≠ (v11 : Value).ownBlock ∧ some k_ ≠ ((.slice Ao36 x6_1.length co36) : Value).ownBlock ∧ k_ ≠ gb101 ∧ k_ ≠ gb102) (.slice A0_2 l0_2.length c0_2) l0_2) ∧ Aside0 (Kd.V (Kd.int .i64) 3 w' w.heap.size (fun k_ => ((P0_2_ k_ ∨ P1_2_ k_) ∨ w.heap.size ≤ k_) ∧ some k_ ≠ (v11 : Value).ownBlock ∧ some k_ ≠ ((.slice Ao36 x6_1.length co36) : Value).ownBlock ∧ k_ ≠ gb101 ∧ k_ ≠ gb102) (.slice A1_2 l1_2.length c1_2) l1_2) ∧ Aside0 (w'.heap[gb101]? = some (.cells #[.int .i64 a0_0, .int .i64 a0_1, (.slice A0_2 l0_2.length c0_2)] 26 (0, 0))) ∧ Aside0 (w'.heap[gb102]? = some (.cells #[.int .i64 a1_0, .int .i64 a1_1, (.slice A1_2 l1_2.length c1_2)] 26 (0, 0))) ∧ Aside0 (Below w.heap.size w w'))
   case atStart => exact ⟨(([] : List (S33))), (0), (by first | rfl | (simp; done) | (simp [*]; done)), H', ⟨Nat.le_refl _⟩, ⟨by first | exact Kd.R_nil _ _ _ _ _ | exact Kd.N_nil _ _ _ _ _ | exact Kd.V_nil _ _ _ _ _ | exact Kd.Q_nil _ _ _ _ _ | exact Kd.S_nil _ _ _ _ _⟩, ⟨pR HO_6.out⟩, ⟨by (with_reducible repeat (first | apply Kd.V_alloc | apply Kd.V_drewN | apply Kd.V_drew)); exact Kd.V_mono HO_102002.out (fun _ hk => ⟨hk.1, ⟨(by simp [Value.ownBlock]), ⟨hk.2.1, ⟨hk.2.2.1, hk.2.2.2⟩⟩⟩⟩)⟩, ⟨by (with_reducible repeat (first | apply Kd.V_alloc | apply Kd.V_drewN | apply Kd.V_drew)); exact Kd.V_mono HO_103002.out (fun _ hk => ⟨hk.1, ⟨(by simp [Value.ownBlock]), ⟨hk.2.1, ⟨hk.2.2.1, hk.2.2.2⟩⟩⟩⟩)⟩, ⟨by refine bk ?_; exact BK101.out⟩, ⟨by refine bk ?_; exact BK102.out⟩, ⟨pT HB.out⟩⟩
   case round =>
    clear H'
    try clear c14b0
    obtain ⟨x11_2, x59_2, rfl, HA, HK2, HO_11, HO_57, HO_102002, HO_103002, BK101, BK102, HB⟩ := hrel; have hl57_2 := (Kd.R_reads' HO_57.out).1; rw [hl57_2] at HO_57
    (try simp only [hl57_2])
    (try simp only [hl57_2] at BK101)
    (try simp only [hl57_2] at BK102)
    (try simp only [hl57_2] at HO_11)
    (try simp only [hl57_2] at HO_102002)
    (try simp only [hl57_2] at HO_103002)
    cases gk with
    | zero => exact absurd HA.out (by simp [impl_RankMotions.l2])
    | succ k2 =>
     have H := HA.out; clear HA
     simp only [impl_RankMotions.l2] at H
     by_cases c38 : x59_2 < (x6_1.length : Int)
     rotate_left
     ·
      rw [if_neg c38] at H
      have c38b0 : decide (x59_2 < (x6_1.length : Int)) = false := decide_eq_false c38
      (try simp only [hl57_2] at c38b0)
      clear c38
      simp only [Option.some.injEq, Prod.mk.injEq] at H
      obtain ⟨rfl, rfl⟩ := H
      go_wp2
      go_ret2
      exact ⟨_, er, by (with_reducible repeat (first | apply Kd.R_alloc | apply Kd.R_drewN | apply Kd.R_drew)); exact HO_11.out, pT HB.out⟩
     rw [if_pos c38] at H
     have c38b0 : decide (x59_2 < (x6_1.length : Int)) = true := decide_eq_true c38
     (try simp only [hl57_2] at c38b0)
     clear c38
     by_cases c39 : 0 ≤ x59_2
     rotate_left
     ·
      rw [if_neg c39] at H
      exact absurd H (by simp)
     rw [if_pos c39] at H
     have c39b0 : decide (0 ≤ x59_2) = true := decide_eq_true c39
     clear c39
     by_cases c40 : x59_2 < (t112.length : Int)
     rotate_left
     ·
      rw [if_neg c40] at H
      exact absurd H (by simp)
     rw [if_pos c40] at H
     have c40b0 : decide (x59_2 < (t112.length : Int)) = true := decide_eq_true c40
     (try simp only [hl57_2] at c40b0)
     clear c40
     by_cases c41 : x11_2.length < 8796093022208
     rotate_left
     ·
      rw [if_neg c41] at H
      exact absurd H (by simp)
     rw [if_pos c41] at H; have LMc41 := Aside0.mk c41; clear c41
     obtain ⟨y115, hy115⟩ : ∃ y_ : List (S33), y_ = (x11_2 ++ [(⟨(rd_T46 t112 x59_2).f0.f0, (rd_T46 t112 x59_2).f0.f1⟩ : S33)]) := ⟨_, rfl⟩
     replace H : (impl_RankMotions.l2 k2 y115 t112 (x6_1.length : Int) (wrap64 (x59_2 + 1))) = some (r1, r2) := by first | (rw [hy115]; with_reducible exact H) | (have H2_ := (Option.bind_some _ _).symm.trans H; rw [hy115]; with_reducible exact H2_) | (have H2_ := (Option.bind_some _ _).symm.trans H; with_reducible exact H2_) | with_reducible exact H | (rw [hy115]; exact H) | exact H
     have Ny115 := Aside0.mk hy115; clear hy115; have H' := Aside0.mk H; clear H
     have p113 : 0 ≤ (x59_2 : Int) := of_decide_eq_true (by first | (with_reducible assumption) | assumption)
     have q113 : x59_2 < (t112.length : Int) := of_decide_eq_true (by first | (with_reducible assumption) | assumption)
     obtain ⟨ad113, e113, hx113_0, hx113_1, hx113_2, hx113_3⟩ := at_T46 (Kd.R_reads' HO_57.out).2.2 x59_2 p113 q113; cases e113; replace p113 := eq_true p113; replace q113 := eq_true q113
     go_wp2_with (first | ((with_reducible refine gate_dst (N := 13) rfl ?_); (try (refine gate_guard (by rfl) ?_; dsimp only)); refine bxe (cs := #[.int .i64 0, .int .i64 0, .int .i64 0, .int .i64 0]) (t := 46) ?_; intro gb114 hg w42 hbox hb; replace HO_11 := aK (Kd.R_below (pR HO_11.out) hb); replace HO_57 := aK (Kd.R_below (Kd.R_elderB (pR HO_57.out) gb114 (Nat.le_of_eq hg.symm)) hb); replace HO_102002 := aK (Kd.V_below (Kd.V_elderB (by (with_reducible repeat (first | apply Kd.V_alloc | apply Kd.V_drewN | apply Kd.V_drew)); exact HO_102002.out) gb114 (Nat.le_of_eq hg.symm)) hb); replace HO_103002 := aK (Kd.V_below (Kd.V_elderB (by (with_reducible repeat (first | apply Kd.V_alloc | apply Kd.V_drewN | apply Kd.V_drew)); exact HO_103002.out) gb114 (Nat.le_of_eq hg.symm)) hb); have BK114 := aK (hbox); have GW114 := aK (gE hg (pS HB.out)); have GE114 := GW114; obtain ⟨NB101_114, NB114_101⟩ := nb hg (pB BK101.out); obtain ⟨NB102_114, NB114_102⟩ := nb hg (pB BK102.out); replace BK101 := bB BK101 hb; replace BK102 := bB BK102 hb; replace HB := bS HB hb; clear hb hbox hg; obtain ⟨hnb43, hnc43⟩ := nB NB114_101; obtain ⟨hnb44, hnc44⟩ := nB NB114_102; obtain ⟨z45_0, z45_1, z45_2, z45_3, y45_0, y45_1, y45_2, y45_3⟩ := bc4 BK114.out) | ((with_reducible refine gate_builtin (b := .append) (xs := #[.tmp 63, .tmp 66]) rfl ?_); (try (refine gate_guard (by rfl) ?_; dsimp only)); at_builtin; refine Kd.R_append k33 (w0 := w) w.heap.size rfl (.tmp 63) (.tmp 66) 29 33 (.agg #[(.int .i64 0), (.int .i64 0)]) 16 rfl Try.underlying29 info33 rfl (by decide) (by omega) u11 x11_2 (⟨(rd_T46 t112 x59_2).f0.f0, (rd_T46 t112 x59_2).f0.f1⟩ : S33) [.int .i64 ((rd_T46 t112 x59_2).f0.f0), .int .i64 ((rd_T46 t112 x59_2).f0.f1)] (fun k_ => (w.heap.size ≤ k_)) (fun _ => False) rfl (by first | (go_simp; done) | (go_simp; rfl)) ?aP (fun _ hk => hk.elim) ?aF ?aO ?aB ?aS ?aL ?_; (case aP => exact k33_mkM _ _ _ (⟨(rd_T46 t112 x59_2).f0.f0, (rd_T46 t112 x59_2).f0.f1⟩ : S33)); (case aB => exact (pS HB.out)); (case aF => exact (fun k_ hk => (Nat.le_trans (below_size (pS HB.out)) hk))); (case aO => exact (pR (Kd.R_mono (Kd.R_far (p := ⟨gb114, 3, none⟩) (Kd.R_far (p := ⟨gb114, 2, none⟩) (Kd.R_far (p := ⟨gb114, 1, none⟩) (Kd.R_far (p := ⟨gb114, 0, none⟩) (Kd.R_types HO_11.out BK114.out (by decide)) (fun _ hk => hk.2) (.int .i64 ((rd_T46 t112 x59_2).f0.f0))) (fun _ hk => hk.2) (.int .i64 ((rd_T46 t112 x59_2).f0.f1))) (fun _ hk => hk.2) (.int .i64 ((rd_T46 t112 x59_2).f1))) (fun _ hk => hk.2) (.int .i64 ((rd_T46 t112 x59_2).f2))) (fun _ hk => hk.1)))); (case aS => exact (below_size (pS HB.out))); (case aL => have := LMc41.out; omega); intro v116 w46 ho hb hg hat; rw [← Ny115.out] at ho; replace HO_57 := aK (Kd.R_over' (pR ((Kd.R_mono (Kd.R_far (p := ⟨gb114, 3, none⟩) (Kd.R_far (p := ⟨gb114, 2, none⟩) (Kd.R_far (p := ⟨gb114, 1, none⟩) (Kd.R_far (p := ⟨gb114, 0, none⟩) (Kd.R_mono HO_57.out (fun k_ hk => (⟨hk, hk.2⟩ : _ ∧ k_ ≠ gb114))) (fun _ hk => hk.2) (.int .i64 ((rd_T46 t112 x59_2).f0.f0))) (fun _ hk => hk.2) (.int .i64 ((rd_T46 t112 x59_2).f0.f1))) (fun _ hk => hk.2) (.int .i64 ((rd_T46 t112 x59_2).f1))) (fun _ hk => hk.2) (.int .i64 ((rd_T46 t112 x59_2).f2))) (fun _ h_ => h_.1)))) (Kd.R_typed (pR ((Kd.R_mono (Kd.R_far (p := ⟨gb114, 3, none⟩) (Kd.R_far (p := ⟨gb114, 2, none⟩) (Kd.R_far (p := ⟨gb114, 1, none⟩) (Kd.R_far (p := ⟨gb114, 0, none⟩) (Kd.R_types HO_11.out BK114.out (by decide)) (fun _ hk => hk.2) (.int .i64 ((rd_T46 t112 x59_2).f0.f0))) (fun _ hk => hk.2) (.int .i64 ((rd_T46 t112 x59_2).f0.f1))) (fun _ hk => hk.2) (.int .i64 ((rd_T46 t112 x59_2).f1))) (fun _ hk => hk.2) (.int .i64 ((rd_T46 t112 x59_2).f2))) (fun _ h_ => h_.1))))) (by decide) hg); replace HO_102002 := aK (Kd.V_afterv (ok := (fun k_ => ((P0_2_ k_ ∨ P1_2_ k_) ∨ w.heap.size ≤ k_) ∧ some k_ ≠ (.slice (some ad113) t112.length co36 : Value).ownBlock ∧ k_ ≠ gb101 ∧ k_ ≠ gb102 ∧ k_ ≠ gb114)) (by (with_reducible repeat (first | apply Kd.V_alloc | apply Kd.V_drewN | apply Kd.V_drew)); exact Kd.V_mono (Kd.V_far (p := ⟨gb114, 3, none⟩) (Kd.V_far (p := ⟨gb114, 2, none⟩) (Kd.V_far (p := ⟨gb114, 1, none⟩) (Kd.V_far (p := ⟨gb114, 0, none⟩) (Kd.V_mono HO_102002.out (fun k_ hk => (⟨hk, hk.2⟩ : _ ∧ k_ ≠ gb114))) (fun _ hk => hk.2) (.int .i64 ((rd_T46 t112 x59_2).f0.f0))) (fun _ hk => hk.2) (.int .i64 ((rd_T46 t112 x59_2).f0.f1))) (fun _ hk => hk.2) (.int .i64 ((rd_T46 t112 x59_2).f1))) (fun _ hk => hk.2) (.int .i64 ((rd_T46 t112 x59_2).f2))) (fun _ hk => ⟨⟨hk.1.1.1, ⟨hk.1.1.2.2.1, ⟨hk.1.1.2.2.2.1, ⟨hk.1.1.2.2.2.2, hk.1.2⟩⟩⟩⟩, hk.1.1.2.1⟩)) hg hat); replace HO_103002 := aK (Kd.V_afterv (ok := (fun k_ => ((P0_2_ k_ ∨ P1_2_ k_) ∨ w.heap.size ≤ k_) ∧ some k_ ≠ (.slice (some ad113) t112.length co36 : Value).ownBlock ∧ k_ ≠ gb101 ∧ k_ ≠ gb102 ∧ k_ ≠ gb114)) (by (with_reducible repeat (first | apply Kd.V_alloc | apply Kd.V_drewN | apply Kd.V_drew)); exact Kd.V_mono (Kd.V_far (p := ⟨gb114, 3, none⟩) (Kd.V_far (p := ⟨gb114, 2, none⟩) (Kd.V_far (p := ⟨gb114, 1, none⟩) (Kd.V_far (p := ⟨gb114, 0, none⟩) (Kd.V_mono HO_103002.out (fun k_ hk => (⟨hk, hk.2⟩ : _ ∧ k_ ≠ gb114))) (fun _ hk => hk.2) (.int .i64 ((rd_T46 t112 x59_2).f0.f0))) (fun _ hk => hk.2) (.int .i64 ((rd_T46 t112 x59_2).f0.f1))) (fun _ hk => hk.2) (.int .i64 ((rd_T46 t112 x59_2).f1))) (fun _ hk => hk.2) (.int .i64 ((rd_T46 t112 x59_2).f2))) (fun _ hk => ⟨⟨hk.1.1.1, ⟨hk.1.1.2.2.1, ⟨hk.1.1.2.2.2.1, ⟨hk.1.1.2.2.2.2, hk.1.2⟩⟩⟩⟩, hk.1.1.2.1⟩)) hg hat); replace BK101 := aK (blk_grown (g := gb101) (o := .cells #[.int .i64 a0_0, .int .i64 a0_1, .slice A0_2 l0_2.length c0_2] 26 (0, 0)) (by refine bk ?_; refine blk_far ?_ NB101_114.out _; refine bk ?_; refine blk_far ?_ NB101_114.out _; refine bk ?_; refine blk_far ?_ NB101_114.out _; refine bk ?_; refine blk_far ?_ NB101_114.out _; refine bk ?_; exact BK101.out) hg (Kd.R_ne HO_11.out BK101.out (by decide))); replace BK102 := aK (blk_grown (g := gb102) (o := .cells #[.int .i64 a1_0, .int .i64 a1_1, .slice A1_2 l1_2.length c1_2] 26 (0, 0)) (by refine bk ?_; refine blk_far ?_ NB102_114.out _; refine bk ?_; refine blk_far ?_ NB102_114.out _; refine bk ?_; refine blk_far ?_ NB102_114.out _; refine bk ?_; refine blk_far ?_ NB102_114.out _; refine bk ?_; exact BK102.out) hg (Kd.R_ne HO_11.out BK102.out (by decide))); replace BK114 := aK (blk_grown (g := gb114) (o := .cells #[.int .i64 ((rd_T46 t112 x59_2).f0.f0), .int .i64 ((rd_T46 t112 x59_2).f0.f1), .int .i64 ((rd_T46 t112 x59_2).f1), .int .i64 ((rd_T46 t112 x59_2).f2)] 46 (0, 0)) (by refine bk ?_; refine blk_put (cs := #[.int .i64 ((rd_T46 t112 x59_2).f0.f0), .int .i64 ((rd_T46 t112 x59_2).f0.f1), .int .i64 ((rd_T46 t112 x59_2).f1), .int .i64 0]) ?_ 3 _ rfl; refine bk ?_; refine blk_put (cs := #[.int .i64 ((rd_T46 t112 x59_2).f0.f0), .int .i64 ((rd_T46 t112 x59_2).f0.f1), .int .i64 0, .int .i64 0]) ?_ 2 _ rfl; refine bk ?_; refine blk_put (cs := #[.int .i64 ((rd_T46 t112 x59_2).f0.f0), .int .i64 0, .int .i64 0, .int .i64 0]) ?_ 1 _ rfl; refine bk ?_; refine blk_put (cs := #[.int .i64 0, .int .i64 0, .int .i64 0, .int .i64 0]) ?_ 0 _ rfl; refine bk ?_; exact BK114.out) hg (Kd.R_ne HO_11.out BK114.out (by decide))); replace HB := aK (hb); have HO117 := aK (ho); clear HO_11; clear ho hb hg hat))
     (try simp only [← hl57_2])
     go_roundg k2
     case measure => have := HK1.out; have := HK2.out; omega
     case rel => exact ⟨(y115), (wrap64 (x59_2 + 1)), (by first | rfl | (simp; done) | (simp [*]; done)), H', ⟨by have := HK1.out; have := HK2.out; omega⟩, ⟨by (try simp only [hl57_2]); (with_reducible repeat (first | apply Kd.R_alloc | apply Kd.R_drewN | apply Kd.R_drew)); exact HO117.out⟩, ⟨by (try simp only [hl57_2]); (with_reducible repeat (first | apply Kd.R_alloc | apply Kd.R_drewN | apply Kd.R_drew)); exact Kd.R_mono HO_57.out (fun _ hk => hk.1)⟩, ⟨by (try simp only [hl57_2]); (with_reducible repeat (first | apply Kd.V_alloc | apply Kd.V_drewN | apply Kd.V_drew)); exact Kd.V_mono HO_102002.out (fun _ hk => ⟨hk.1.1, ⟨hk.2, ⟨hk.1.2.1, ⟨hk.1.2.2.1, hk.1.2.2.2.1⟩⟩⟩⟩)⟩, ⟨by (try simp only [hl57_2]); (with_reducible repeat (first | apply Kd.V_alloc | apply Kd.V_drewN | apply Kd.V_drew)); exact Kd.V_mono HO_103002.out (fun _ hk => ⟨hk.1.1, ⟨hk.2, ⟨hk.1.2.1, ⟨hk.1.2.2.1, hk.1.2.2.2.1⟩⟩⟩⟩)⟩, ⟨by (try simp only [hl57_2]); refine bk ?_; exact BK101.out⟩, ⟨by (try simp only [hl57_2]); refine bk ?_; exact BK102.out⟩, ⟨pT HB.out⟩⟩
def spec_l11Qualifies.f (k : Nat) (a0_0 : Int) (a0_1 : Int) (l0_2 : List Int) (a1_0 : Int) (a1_1 : Int) (l1_2 : List Int) (a2_0 : Int) (a2_1 : Int) : Option (Bool) := (spec_l11Match.f k a0_0 a0_1 l0_2 a1_0 a1_1 l1_2 a2_0 a2_1).bind fun bt104 => (if bt104.2 > 0 then (some (decide ((wrap64 (2 * bt104.2)) ≥ (l0_2.length : Int)))) else (some false))
theorem spec_l11Qualifies.calls (k : Nat) (a0_0 : Int) (a0_1 : Int) (A0_2 : Option Addr) (c0_2 : Nat) (l0_2 : List Int) (a1_0 : Int) (a1_1 : Int) (A1_2 : Option Addr) (c1_2 : Nat) (l1_2 : List Int) (a2_0 : Int) (a2_1 : Int) (r : Bool) (w : World) (hr0_2 : Kd.C (Kd.int .i64) w A0_2 l0_2.length l0_2) (hc0_2 : l0_2.length ≤ c0_2) (hr1_2 : Kd.C (Kd.int .i64) w A1_2 l1_2.length l1_2) (hc1_2 : l1_2.length ≤ c1_2) (h : spec_l11Qualifies.f k a0_0 a0_1 l0_2 a1_0 a1_1 l1_2 a2_0 a2_1 = some r) :
  Calls Try.prog 36 #[.agg #[.int .i64 a0_0, .int .i64 a0_1, .slice A0_2 l0_2.length c0_2], .agg #[.int .i64 a1_0, .int .i64 a1_1, .slice A1_2 l1_2.length c1_2], .agg #[.int .i64 a2_0, .int .i64 a2_1]] w fun e w' => e = .returned (.bool r) ∧ Below w.heap.size w w' := by
 have hu26 := Try.underlying26
 have hu33 := Try.underlying33
 have HR0_2 := Aside0.mk hr0_2
 have HC0_2 := Aside0.mk hc0_2
 clear hr0_2 hc0_2
 have HR1_2 := Aside0.mk hr1_2
 have HC1_2 := Aside0.mk hc1_2
 clear hr1_2 hc1_2
 have HB := aK (Below.refl w.heap.size w)
 have H : ((spec_l11Match.f k a0_0 a0_1 l0_2 a1_0 a1_1 l1_2 a2_0 a2_1).bind fun bt104 => (if bt104.2 > 0 then (some (decide ((wrap64 (2 * bt104.2)) ≥ (l0_2.length : Int)))) else (some false))) = some r := h
 clear h
 replace H := Option.bind_eq_some_iff.mp H
 obtain ⟨⟨t104, t105⟩, A40, H⟩ := H
 replace H : (if t105 > 0 then (some (decide ((wrap64 (2 * t105)) ≥ (l0_2.length : Int)))) else (some false)) = some r := H
 have A4 := Aside0.mk A40
 clear A40
 by_cases c5 : t105 > 0
 ·
  rw [if_pos c5] at H
  have c5b0 : decide (0 < t105) = true := decide_eq_true c5
  clear c5
  obtain rfl := Option.some.inj H
  go_enter Try.func36, Try.ntmps36
  go_wp2_with (first | ((with_reducible refine gate_dst (N := 3) rfl ?_); (try (refine gate_guard (by rfl) ?_; dsimp only)); refine bxe (cs := #[.int .i64 a0_0, .int .i64 a0_1, .slice A0_2 l0_2.length c0_2]) (t := 26) ?_; intro gb101 hg w6 hbox hb; have BK101 := aK (hbox); have GW101 := aK (gE hg (pS HB.out)); have GE101 := GW101; replace HB := bS HB hb; clear hb hbox hg) | ((with_reducible refine gate_dst (N := 4) rfl ?_); (try (refine gate_guard (by rfl) ?_; dsimp only)); refine bxe (cs := #[.int .i64 a1_0, .int .i64 a1_1, .slice A1_2 l1_2.length c1_2]) (t := 26) ?_; intro gb102 hg w7 hbox hb; have BK102 := aK (hbox); have GW102 := aK (gE hg (pS HB.out)); have GE102 := GW102; obtain ⟨NB101_102, NB102_101⟩ := nb hg (pB BK101.out); replace BK101 := bB BK101 hb; replace HB := bS HB hb; clear hb hbox hg) | ((with_reducible refine gate_dst (N := 5) rfl ?_); (try (refine gate_guard (by rfl) ?_; dsimp only)); refine bxe (cs := #[.int .i64 a2_0, .int .i64 a2_1]) (t := 33) ?_; intro gb103 hg w8 hbox hb; have BK103 := aK (hbox); have GW103 := aK (gE hg (pS HB.out)); have GE103 := GW103; obtain ⟨NB101_103, NB103_101⟩ := nb hg (pB BK101.out); obtain ⟨NB102_103, NB103_102⟩ := nb hg (pB BK102.out); replace BK101 := bB BK101 hb; replace BK102 := bB BK102 hb; replace HB := bS HB hb; clear hb hbox hg; obtain ⟨hnb9, hnc9⟩ := nB NB101_102; obtain ⟨hnb10, hnc10⟩ := nB NB101_103; obtain ⟨z11_0, z11_1, z11_2, y11_0, y11_1, y11_2⟩ := bc3 BK101.out; obtain ⟨hnb12, hnc12⟩ := nB NB102_103; obtain ⟨z13_0, z13_1, z13_2, y13_0, y13_1, y13_2⟩ := bc3 BK102.out; obtain ⟨z14_0, z14_1, y14_0, y14_1⟩ := bc2 BK103.out) | ((with_reducible refine gate_callee (f := 27) rfl ?_); refine gl (some 13) Try.func27 #[.agg #[.int .i64 a0_0, .int .i64 a0_1, .slice A0_2 l0_2.length c0_2], .agg #[.int .i64 a1_0, .int .i64 a1_1, .slice A1_2 l1_2.length c1_2], .agg #[.int .i64 a2_0, .int .i64 a2_1]] ?_; (with_reducible refine (spec_l11Match.calls k a0_0 a0_1 _ _ l0_2 a1_0 a1_1 _ _ l1_2 a2_0 a2_1 t104 t105 _ ?side1 ?side2 ?side3 ?side4 A4.out).mono ?_); (case side1 => exact pC (Kd.C_below HR0_2.out HB.out)); (case side2 => exact HC0_2.out); (case side3 => exact pC (Kd.C_below HR1_2.out HB.out)); (case side4 => exact HC1_2.out); rintro e w15 ⟨rfl, hb⟩; refine ⟨_, rfl, ?_⟩; replace BK101 := bB BK101 hb; replace BK102 := bB BK102 hb; replace BK103 := bB BK103 hb; replace HB := bS HB hb; (try clear hb); (try clear hb2); (try clear hk); (try clear hi); obtain ⟨z16_0, z16_1, z16_2, y16_0, y16_1, y16_2⟩ := bc3 BK101.out))
  go_ret
  exact ⟨er, pT HB.out⟩
 rw [if_neg c5] at H
 have c5b0 : decide (0 < t105) = false := decide_eq_false c5
 clear c5
 obtain rfl := Option.some.inj H
 go_enter Try.func36, Try.ntmps36
 go_wp2_with (first | ((with_reducible refine gate_dst (N := 3) rfl ?_); (try (refine gate_guard (by rfl) ?_; dsimp only)); refine bxe (cs := #[.int .i64 a0_0, .int .i64 a0_1, .slice A0_2 l0_2.length c0_2]) (t := 26) ?_; intro gb101 hg w17 hbox hb; have BK101 := aK (hbox); have GW101 := aK (gE hg (pS HB.out)); have GE101 := GW101; replace HB := bS HB hb; clear hb hbox hg) | ((with_reducible refine gate_dst (N := 4) rfl ?_); (try (refine gate_guard (by rfl) ?_; dsimp only)); refine bxe (cs := #[.int .i64 a1_0, .int .i64 a1_1, .slice A1_2 l1_2.length c1_2]) (t := 26) ?_; intro gb102 hg w18 hbox hb; have BK102 := aK (hbox); have GW102 := aK (gE hg (pS HB.out)); have GE102 := GW102; obtain ⟨NB101_102, NB102_101⟩ := nb hg (pB BK101.out); replace BK101 := bB BK101 hb; replace HB := bS HB hb; clear hb hbox hg) | ((with_reducible refine gate_dst (N := 5) rfl ?_); (try (refine gate_guard (by rfl) ?_; dsimp only)); refine bxe (cs := #[.int .i64 a2_0, .int .i64 a2_1]) (t := 33) ?_; intro gb103 hg w19 hbox hb; have BK103 := aK (hbox); have GW103 := aK (gE hg (pS HB.out)); have GE103 := GW103; obtain ⟨NB101_103, NB103_101⟩ := nb hg (pB BK101.out); obtain ⟨NB102_103, NB103_102⟩ := nb hg (pB BK102.out); replace BK101 := bB BK101 hb; replace BK102 := bB BK102 hb; replace HB := bS HB hb; clear hb hbox hg; obtain ⟨hnb20, hnc20⟩ := nB NB101_102; obtain ⟨hnb21, hnc21⟩ := nB NB101_103; obtain ⟨z22_0, z22_1, z22_2, y22_0, y22_1, y22_2⟩ := bc3 BK101.out; obtain ⟨hnb23, hnc23⟩ := nB NB102_103; obtain ⟨z24_0, z24_1, z24_2, y24_0, y24_1, y24_2⟩ := bc3 BK102.out; obtain ⟨z25_0, z25_1, y25_0, y25_1⟩ := bc2 BK103.out) | ((with_reducible refine gate_callee (f := 27) rfl ?_); refine gl (some 13) Try.func27 #[.agg #[.int .i64 a0_0, .int .i64 a0_1, .slice A0_2 l0_2.length c0_2], .agg #[.int .i64 a1_0, .int .i64 a1_1, .slice A1_2 l1_2.length c1_2], .agg #[.int .i64 a2_0, .int .i64 a2_1]] ?_; (with_reducible refine (spec_l11Match.calls k a0_0 a0_1 _ _ l0_2 a1_0 a1_1 _ _ l1_2 a2_0 a2_1 t104 t105 _ ?side1 ?side2 ?side3 ?side4 A4.out).mono ?_); (case side1 => exact pC (Kd.C_below HR0_2.out HB.out)); (case side2 => exact HC0_2.out); (case side3 => exact pC (Kd.C_below HR1_2.out HB.out)); (case side4 => exact HC1_2.out); rintro e w26 ⟨rfl, hb⟩; refine ⟨_, rfl, ?_⟩; replace BK101 := bB BK101 hb; replace BK102 := bB BK102 hb; replace BK103 := bB BK103 hb; replace HB := bS HB hb; (try clear hb); (try clear hb2); (try clear hk); (try clear hi)))
 go_ret
 exact ⟨er, pT HB.out⟩
end Go.Proofs.Ytmkdiliemiobeaa.P
