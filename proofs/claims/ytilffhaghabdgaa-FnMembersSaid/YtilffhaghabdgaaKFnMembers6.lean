/- Texts of the claim FnMembers, merged: part 6 of 13: the program's and the reference's functions as Lean functions, the walks that show it, and plain lemmas; no conditions. -/
import Derived.Test.YtilffhaghabdgaaKFnMembers3
import Derived.Test.YtilffhaghabdgaaKFnMembers4
import Derived.Test.YtilffhaghabdgaaKFnMembers5
namespace Go.Proofs.Ytilffhaghabdgaa.P
open Go.RowKit Go.Proofs.YtilffhaghabdgaaW.PrintWords Go.Proofs.YtilffhaghabdgaaW.PrintLast Go.Proofs.YtilffhaghabdgaaW.PrintMore
attribute [local go_sem] max2_int min2_int max_two min_two max_three min_three max_four min_four
set_option linter.unusedVariables false
set_option linter.unusedSimpArgs false
set_option maxHeartbeats 8000000
set_option maxRecDepth 100000
mutual
def spec_DrawNearestMember.j0 : Nat → List (S29) → Bool → List Int → Int → Int → Option ((List (S29)) × Int × Int × List Int)
 | 0, _, _, _, _, _ => none
 | k + 1, x5, x18, x103000, x103001, x103002 => if x18 = true then ((spec_l1Cur_anyField.f k x103000 x103001 x103002).bind fun bt111 => (some (x5, bt111.1, bt111.2.1, bt111.2.2.1))) else ((spec_l1Cur_pick.f x103000 x103001 x103002 (x5.length : Int)).bind fun bt118 => (if 0 ≤ bt118.1 then (if bt118.1 < (x5.length : Int) then ((spec_l2Own.f ((rd_T29 x5 bt118.1).f0) ((rd_T29 x5 bt118.1).f1) ((rd_T29 x5 bt118.1).f2)).bind fun bt122 => (if (bt122.2.2.length : Int) > 0 then ((spec_l1Cur_one.f x103000 bt118.2.1 bt118.2.2 2).bind fun bt128 => (spec_DrawNearestMember.j1 k x5 bt128.1 x103000 bt128.2.1 bt128.2.2 bt122.1 bt122.2.1 bt122.2.2)) else (spec_DrawNearestMember.j1 k x5 false x103000 bt118.2.1 bt118.2.2 bt122.1 bt122.2.1 bt122.2.2))) else (none)) else (none)))
def spec_DrawNearestMember.j1 : Nat → List (S29) → Bool → List Int → Int → Int → Int → Int → List Int → Option ((List (S29)) × Int × Int × List Int)
 | 0, _, _, _, _, _, _, _, _ => none
 | k + 1, x5, x37, x103000, x103001, x103002, x128000, x128001, x128002 => if x37 = true then ((spec_l1Cur_pick.f x103000 x103001 x103002 (x128002.length : Int)).bind fun bt131 => ((spec_l1Cur_among.f x103000 bt131.2.1 bt131.2.2 (([7, (-9999)] : List Int))).bind fun bt137 => (if 0 ≤ bt131.1 then (if bt131.1 < (x128002.length : Int) then (some (x5, x128000, x128001, (x128002.set (bt131.1 : Int).toNat bt137.1))) else (none)) else (none)))) else (some (x5, x128000, x128001, x128002))
end
def spec_DrawNearestMember.f (k : Nat) (l0 : List Int) : Option ((List (S29)) × Int × Int × List Int) := (spec_l1Cur_ensemble.f k l0 0 0).bind fun bt103 => (if (bt103.1.length : Int) = 0 then (spec_DrawNearestMember.j0 k bt103.1 true l0 bt103.2.1 bt103.2.2) else ((spec_l1Cur_one.f l0 bt103.2.1 bt103.2.2 16).bind fun bt108 => (spec_DrawNearestMember.j0 k bt103.1 bt108.1 l0 bt108.2.1 bt108.2.2)))
def spec_DrawNearestMember.T7 : Bool × List (List Nat × List Nat) := (true, [([], []), ([0], [0]), ([], []), ([], []), ([3], [3]), ([4], [4]), ([2, 5], [2, 5]), ([], []), ([], []), ([7, 8, 6], [7, 8]), ([1, 6, 0, 1, 2, 3, 4, 5, 6, 7, 8, 9], [1, 6]), ([10, 9, 9, 0, 1, 2, 3, 4, 5, 6, 7, 8, 9], [9, 10])])
def spec_DrawNearestMember.B7 : List Nat := [0, 1, 0, 0, 8, 24, 60, 0, 0, 508, 1023, 2047]
theorem spec_DrawNearestMember.tab7 : rtab .any (opsOf Try.f44 7) = spec_DrawNearestMember.T7 := by kernel_rfl
theorem spec_DrawNearestMember.bits7 : waitsOk spec_DrawNearestMember.T7.2 spec_DrawNearestMember.B7 = true := by kernel_rfl
theorem spec_DrawNearestMember.calls (k : Nat) (A0 : Option Addr) (c0 : Nat) (l0 : List Int) (r1 : List (S29)) (r2 : Int) (r3 : Int) (r4 : List Int) (w : World) (hr0 : Kd.C (Kd.int .u8) w A0 l0.length l0) (hc0 : l0.length ≤ c0) (h : spec_DrawNearestMember.f k l0 = some (r1, r2, r3, r4)) :
  Calls Try.prog 44 #[.slice A0 l0.length c0] w fun e w' => ∃ v0_ v3_ : Value, e = .returned (.tuple #[v0_, .agg #[.int .i64 r2, .int .i64 r3, v3_]]) ∧ Kd.V k29 29 w' w.heap.size (fun k_ => (w.heap.size ≤ k_) ∧ some k_ ≠ (v3_ : Value).ownBlock) v0_ r1 ∧ Kd.Q (Kd.int .i64) 3 w' w.heap.size (fun k_ => (w.heap.size ≤ k_)) v3_ r4 ∧ Below w.heap.size w w' := by
 have hu29 := Try.underlying29
 have hu115 := Try.underlying115
 have HR0 := Aside0.mk hr0
 have HC0 := Aside0.mk hc0
 clear hr0 hc0
 have HB := aK (Below.refl w.heap.size w)
 have H : ((spec_l1Cur_ensemble.f k l0 0 0).bind fun bt103 => (if (bt103.1.length : Int) = 0 then (spec_DrawNearestMember.j0 k bt103.1 true l0 bt103.2.1 bt103.2.2) else ((spec_l1Cur_one.f l0 bt103.2.1 bt103.2.2 16).bind fun bt108 => (spec_DrawNearestMember.j0 k bt103.1 bt108.1 l0 bt108.2.1 bt108.2.2)))) = some (r1, r2, r3, r4) := h
 clear h
 replace H := Option.bind_eq_some_iff.mp H
 obtain ⟨⟨t103, t106, t107⟩, A20, H⟩ := H
 replace H : (if (t103.length : Int) = 0 then (spec_DrawNearestMember.j0 k t103 true l0 t106 t107) else ((spec_l1Cur_one.f l0 t106 t107 16).bind fun bt108 => (spec_DrawNearestMember.j0 k t103 bt108.1 l0 bt108.2.1 bt108.2.2))) = some (r1, r2, r3, r4) := H
 have A2 := Aside0.mk A20
 clear A20
 have HC3 := Aside0.mk H
 clear H
 go_enter Try.func44, Try.ntmps44
 go_upto_region 3 with (first | ((with_reducible refine gate_dst (N := 3) rfl ?_); refine bxe (cs := #[.int .i64 0, .int .i64 0, .slice none 0 0]) (t := 29) ?_; intro gb101 hg w4 hbox hb; have BK101 := aK (hbox); have GW101 := aK (gE hg (pS HB.out)); have GE101 := GW101; replace HB := bS HB hb; clear hb hbox hg) | ((with_reducible refine gate_dst (N := 9) rfl ?_); refine bxe (cs := #[.slice A0 l0.length c0, .int .i64 0, .int .u64 0]) (t := 115) ?_; intro gb102 hg w5 hbox hb; have HI102 := aK ((⟨_, _, hbox, (by rw [hg]; exact (below_size (pS HB.out)) : w.heap.size ≤ gb102), HR0.out⟩ : IsS115 w w5 gb102 l0 0 0)); obtain ⟨NB101_102, NB102_101⟩ := nb hg (pB BK101.out); replace BK101 := bB BK101 hb; replace HB := bS HB hb; clear hb hbox hg) | ((with_reducible refine gate_callee (f := 114) rfl ?_); refine gl (some 11) Try.func114 #[.pointer (some ⟨gb102, 0, none⟩)] ?_; (with_reducible refine (spec_l1Cur_ensemble.calls k gb102 l0 0 0 t103 t106 t107 w _ ?side1 ?side2 A2.out).mono ?_); (case side1 => exact pI115 HI102.out); (case side2 => exact pV HB.out (IsS115.ge HI102.out)); rintro e w6 ⟨v104, rfl, ho0, hi, hb, hk⟩; refine ⟨_, rfl, ?_⟩; have n0_ := aK (KeepBut.blk hk (pB BK101.out) NB101_102.out (by simp)); have HO105 := aK (Kd.V_lower (Kd.V_mono (ok' := fun k_ => (w.heap.size ≤ k_) ∧ k_ ≠ gb101 ∧ k_ ≠ gb102) ho0 (fun k_ hk_ => ⟨(Nat.le_trans (below_size ((pV HB.out (IsS115.ge HI102.out)))) hk_), (Kd.freshB (g := gb101) (o := .cells #[.int .i64 0, .int .i64 0, .slice none 0 0] 29 (0, 0)) (pB BK101.out) k_ hk_), (IsS115.fresh (pI115 HI102.out) k_ hk_)⟩)) (below_size ((pV HB.out (IsS115.ge HI102.out))))); have n2_ := aK (hb); have n3_ := aK (hi); clear BK101 HB HI102; have BK101 := n0_; have HB := n2_; have HI102 := n3_; clear n0_ n2_ n3_; (try clear hb); (try clear hb2); (try clear hk); (try clear hi); (try clear ho0)))
 (try simp only [Act.put, List.setIfInBounds_toArray, List.set_cons_zero, List.set_cons_succ])
 go_cut [18] (fun v18 wc => ∃ (kq : Nat) (x18_2 : Bool) (x103001_2 : Int) (x103002_2 : Int), v18 = .bool x18_2 ∧ Aside0 (spec_DrawNearestMember.j0 kq t103 x18_2 l0 x103001_2 x103002_2 = some (r1, r2, r3, r4)) ∧ Aside0 (kq ≤ k) ∧ Aside0 (Kd.V k29 29 wc w.heap.size (fun k_ => (w.heap.size ≤ k_) ∧ k_ ≠ gb101 ∧ k_ ≠ gb102) v104 t103) ∧ Aside0 (wc.heap[gb101]? = some (.cells #[.int .i64 0, .int .i64 0, (.slice none 0 0)] 29 (0, 0))) ∧ Aside0 (IsS115 w wc gb102 l0 x103001_2 x103002_2) ∧ Aside0 (Below w.heap.size w wc))
 case first =>
  have H := HC3.out
  clear HC3
  by_cases c7 : (t103.length : Int) = 0
  ·
   rw [if_pos c7] at H
   have c7b0 : ((t103.length : Int) == 0) = true := beq_iff_eq.mpr c7
   have c7b1 : ((t103.length : Int) != 0) = false := bne_eq_false_iff_eq.mpr c7
   clear c7
   (first | rw [c7b0] | (simp only [i64_w, i32_w]; rw [c7b0]) | skip)
   have H' := Aside0.mk H
   clear H
   obtain ⟨Ao8, co8, eo8⟩ := Kd.V_slice HO105.out
   subst eo8
   go_wp2
   go_meet
   case rel => exact ⟨_, (true), (t106), (t107), (by first | rfl | (simp; done) | (simp [*]; done)), H', ⟨by first | omega | exact Nat.le_refl _⟩, ⟨by (with_reducible repeat (first | apply Kd.V_alloc | apply Kd.V_drewN | apply Kd.V_drew)); exact HO105.out⟩, ⟨by refine bk ?_; exact BK101.out⟩, ⟨pI115 HI102.out⟩, ⟨(pV HB.out (IsS115.ge HI102.out))⟩⟩
  rw [if_neg c7] at H
  have c7b0 : ((t103.length : Int) == 0) = false := beq_eq_false_iff_ne.mpr c7
  have c7b1 : ((t103.length : Int) != 0) = true := bne_iff_ne.mpr c7
  have c7b2 : ¬ (t103 = []) := fun h_ => c7 (by rw [h_]; rfl)
  (first | rw [c7b0] | (simp only [i64_w, i32_w]; rw [c7b0]) | skip)
  replace H := Option.bind_eq_some_iff.mp H
  obtain ⟨⟨t108, t109, t110⟩, A90, H⟩ := H
  replace H : (spec_DrawNearestMember.j0 k t103 t108 l0 t109 t110) = some (r1, r2, r3, r4) := H
  have A9 := Aside0.mk A90
  clear A90
  have H' := Aside0.mk H
  clear H
  obtain ⟨Ao10, co10, eo10⟩ := Kd.V_slice HO105.out
  subst eo10
  go_wp2_with (first | (go_at_call 115; (with_reducible refine (spec_l1Cur_one.calls gb102 l0 t106 t107 16 t108 t109 t110 w _ ?side1 ?side2 A9.out).mono ?_); (case side1 => exact pI115 HI102.out); (case side2 => exact pV HB.out (IsS115.ge HI102.out)); rintro e w11 ⟨rfl, hi, hb, hk⟩; have n0_ := aK (KeepBut.blk hk (pB BK101.out) NB101_102.out (by simp)); have n1_ := aK (Kd.V_mono (Kd.V_keep (Kd.V_mono (ok := fun k_ => (((w.heap.size ≤ k_)) ∧ (k_ ≠ gb101 ∧ k_ ≠ gb102))) (by (with_reducible repeat (first | apply Kd.V_alloc | apply Kd.V_drewN | apply Kd.V_drew)); exact HO105.out) (fun _ h => And.intro h h.2.2)) hk (fun _ h => h.2)) (fun _ h => h.1)); have n2_ := aK (hb); have n3_ := aK (hi); clear BK101 HO105 HB HI102; have BK101 := n0_; have HO105 := n1_; have HB := n2_; have HI102 := n3_; clear n0_ n1_ n2_ n3_; (try clear hb); (try clear hb2); (try clear hk); (try clear hi)))
  go_meet
  case rel => exact ⟨_, (t108), (t109), (t110), (by first | rfl | (simp; done) | (simp [*]; done)), H', ⟨by first | omega | exact Nat.le_refl _⟩, ⟨by (with_reducible repeat (first | apply Kd.V_alloc | apply Kd.V_drewN | apply Kd.V_drew)); exact HO105.out⟩, ⟨by refine bk ?_; exact BK101.out⟩, ⟨pI115 HI102.out⟩, ⟨(pV HB.out (IsS115.ge HI102.out))⟩⟩
 case rest =>
  clear HC3
  try clear c1
  try clear p2
  try clear c4
  try clear c7
  try clear c7b0
  try clear c7b1
  try clear c7b2
  try clear c11
  obtain ⟨kq, x18_2, x103001_2, x103002_2, rfl, HA, HJ2, HO_5, BK101, HI102, HB⟩ := hcut
  cases kq with
  | zero => exact absurd HA.out (by simp [spec_DrawNearestMember.j0])
  | succ kj2 =>
   have H := HA.out
   clear HA
   simp only [spec_DrawNearestMember.j0] at H
   by_cases c12 : x18_2 = true
   ·
    subst c12
    have H1 : ((spec_l1Cur_anyField.f kj2 l0 x103001_2 x103002_2).bind fun bt111 => (some (t103, bt111.1, bt111.2.1, bt111.2.2.1))) = some (r1, r2, r3, r4) := by rw [if_pos rfl] at H; exact H
    clear H
    have H := H1
    clear H1
    replace H := Option.bind_eq_some_iff.mp H
    obtain ⟨⟨t111, t112, t113, t116, t117⟩, A130, H⟩ := H
    replace H : (some (t103, t111, t112, t113)) = some (r1, r2, r3, r4) := H
    have A13 := Aside0.mk A130
    clear A130
    simp only [Option.some.injEq, Prod.mk.injEq] at H
    obtain ⟨rfl, rfl, rfl, rfl⟩ := H
    go_wp2_with (first | ((with_reducible refine gate_callee (f := 108) rfl ?_); refine gl (some 21) Try.func108 #[.pointer (some ⟨gb102, 0, none⟩)] ?_; (with_reducible refine (spec_l1Cur_anyField.calls kj2 gb102 l0 x103001_2 x103002_2 t111 t112 t113 t116 t117 w _ ?side1 ?side2 A13.out).mono ?_); (case side1 => exact pI115 HI102.out); (case side2 => exact pV HB.out (IsS115.ge HI102.out)); rintro e w14 ⟨v114, rfl, ho0, hi, hb, hk⟩; refine ⟨_, rfl, ?_⟩; have n0_ := aK (Kd.V_mono (Kd.V_told (Kd.V_oldK (Kd.V_mono (ok := fun k_ => (((w.heap.size ≤ k_)) ∧ (k_ ≠ gb101 ∧ k_ ≠ gb102))) (by (with_reducible repeat (first | apply Kd.V_alloc | apply Kd.V_drewN | apply Kd.V_drew)); exact HO_5.out) (fun _ h => And.intro h h.2.2)) hk) (Kd.Q_base ho0)) (fun _ h_ => h_.1)); have n1_ := aK (KeepBut.blk hk (pB BK101.out) NB101_102.out (by simp)); have HO115 := aK (Kd.Q_lower (Kd.Q_newM (M := fun k_ => (w.heap.size ≤ k_)) ho0 (below_size ((pV HB.out (IsS115.ge HI102.out)))) (fun k_ h_ => h_)) (below_size ((pV HB.out (IsS115.ge HI102.out))))); have n3_ := aK (hb); have n4_ := aK (hi); clear HO_5 BK101 HB HI102; have HO_5 := n0_; have BK101 := n1_; have HB := n3_; have HI102 := n4_; clear n0_ n1_ n3_ n4_; (try clear hb); (try clear hb2); (try clear hk); (try clear hi); (try clear ho0); have hnb15 := NB101_102.out; have hnc15 := NB102_101.out; obtain ⟨hcz16_0, hcz16_1, hcz16_2, hfz16_0, hfz16_1, hfz16_2⟩ := bc3 BK101.out; obtain ⟨Ao17, co17, eo17, _⟩ := Kd.Q_slice HO115.out; subst eo17))
    refine bodyPost_ret (results_tc rfl _ _ gb101 29 #[.int .i64 t111, .int .i64 t112, .slice Ao17 t113.length co17] (0, 0) _ rfl (by refine bk ?_; refine blk_put (cs := #[.int .i64 t111, .int .i64 t112, .slice none 0 0]) ?_ 2 _ rfl; refine bk ?_; refine blk_put (cs := #[.int .i64 t111, .int .i64 0, .slice none 0 0]) ?_ 1 _ rfl; refine bk ?_; refine blk_put (cs := #[.int .i64 0, .int .i64 0, .slice none 0 0]) ?_ 0 _ rfl; refine bk ?_; exact BK101.out) Try.underlying29 rfl (by kernel_rfl)) rfl ?_
    exact ⟨_, _, er, by (with_reducible repeat (first | apply Kd.V_alloc | apply Kd.V_drewN | apply Kd.V_drew)); exact Kd.V_mono (Kd.V_far (p := ⟨gb101, 2, none⟩) (Kd.V_far (p := ⟨gb101, 1, none⟩) (Kd.V_far (p := ⟨gb101, 0, none⟩) (Kd.V_mono HO_5.out (fun k_ hk => (⟨hk, hk.1.2.1⟩ : _ ∧ k_ ≠ gb101))) (fun _ hk => hk.2) (.int .i64 t111)) (fun _ hk => hk.2) (.int .i64 t112)) (fun _ hk => hk.2) (.slice Ao17 t113.length co17)) (fun _ hk => ⟨hk.1.1.1, hk.1.2⟩), by (with_reducible repeat (first | apply Kd.Q_alloc | apply Kd.Q_drewN | apply Kd.Q_drew)); exact Kd.Q_mono (qF3 HO115.out BK101.out (.int .i64 t111) (.int .i64 t112) (.slice Ao17 t113.length co17)) (fun _ h => h.1), (pV HB.out (IsS115.ge HI102.out))⟩
   replace c12 := Bool.eq_false_iff.mpr c12
   subst c12
   have H1 : ((spec_l1Cur_pick.f l0 x103001_2 x103002_2 (t103.length : Int)).bind fun bt118 => (if 0 ≤ bt118.1 then (if bt118.1 < (t103.length : Int) then ((spec_l2Own.f ((rd_T29 t103 bt118.1).f0) ((rd_T29 t103 bt118.1).f1) ((rd_T29 t103 bt118.1).f2)).bind fun bt122 => (if (bt122.2.2.length : Int) > 0 then ((spec_l1Cur_one.f l0 bt118.2.1 bt118.2.2 2).bind fun bt128 => (spec_DrawNearestMember.j1 kj2 t103 bt128.1 l0 bt128.2.1 bt128.2.2 bt122.1 bt122.2.1 bt122.2.2)) else (spec_DrawNearestMember.j1 kj2 t103 false l0 bt118.2.1 bt118.2.2 bt122.1 bt122.2.1 bt122.2.2))) else (none)) else (none))) = some (r1, r2, r3, r4) := by rw [if_neg (show ¬ (false = true) by decide)] at H; exact H
   clear H
   have H := H1
   clear H1
   replace H := Option.bind_eq_some_iff.mp H
   obtain ⟨⟨t118, t119, t120⟩, A180, H⟩ := H
   replace H : (if 0 ≤ t118 then (if t118 < (t103.length : Int) then ((spec_l2Own.f ((rd_T29 t103 t118).f0) ((rd_T29 t103 t118).f1) ((rd_T29 t103 t118).f2)).bind fun bt122 => (if (bt122.2.2.length : Int) > 0 then ((spec_l1Cur_one.f l0 t119 t120 2).bind fun bt128 => (spec_DrawNearestMember.j1 kj2 t103 bt128.1 l0 bt128.2.1 bt128.2.2 bt122.1 bt122.2.1 bt122.2.2)) else (spec_DrawNearestMember.j1 kj2 t103 false l0 t119 t120 bt122.1 bt122.2.1 bt122.2.2))) else (none)) else (none)) = some (r1, r2, r3, r4) := H
   have A18 := Aside0.mk A180
   clear A180
   by_cases c19 : 0 ≤ t118
   ·
    rw [if_pos c19] at H
    have c19b0 : decide (0 ≤ t118) = true := decide_eq_true c19
    clear c19
    by_cases c20 : t118 < (t103.length : Int)
    ·
     rw [if_pos c20] at H
     have c20b0 : decide (t118 < (t103.length : Int)) = true := decide_eq_true c20
     clear c20
     replace H := Option.bind_eq_some_iff.mp H
     obtain ⟨⟨t122, t123, t124⟩, A210, H⟩ := H
     replace H : (if (t124.length : Int) > 0 then ((spec_l1Cur_one.f l0 t119 t120 2).bind fun bt128 => (spec_DrawNearestMember.j1 kj2 t103 bt128.1 l0 bt128.2.1 bt128.2.2 t122 t123 t124)) else (spec_DrawNearestMember.j1 kj2 t103 false l0 t119 t120 t122 t123 t124)) = some (r1, r2, r3, r4) := H
     have A21 := Aside0.mk A210
     clear A210
     have HC22 := Aside0.mk H
     clear H
     obtain ⟨Ao23, co23, eo23⟩ := Kd.V_slice HO_5.out
     subst eo23
     go_upto_region 6 with (first | ((with_reducible refine gate_callee (f := 117) rfl ?_); refine gl (some 26) Try.func117 #[.pointer (some ⟨gb102, 0, none⟩), .int .i64 (t103.length : Int)] ?_; (with_reducible refine (spec_l1Cur_pick.calls gb102 l0 x103001_2 x103002_2 (t103.length : Int) t118 t119 t120 w _ ?side1 ?side2 A18.out).mono ?_); (case side1 => exact pI115 HI102.out); (case side2 => exact pV HB.out (IsS115.ge HI102.out)); rintro e w24 ⟨rfl, hi, hb, hk⟩; refine ⟨_, rfl, ?_⟩; have n0_ := aK (Kd.V_mono (Kd.V_keep (Kd.V_mono (ok := fun k_ => (((w.heap.size ≤ k_)) ∧ (k_ ≠ gb101 ∧ k_ ≠ gb102))) (by (with_reducible repeat (first | apply Kd.V_alloc | apply Kd.V_drewN | apply Kd.V_drew)); exact HO_5.out) (fun _ h => And.intro h h.2.2)) hk (fun _ h => h.2)) (fun _ h => h.1)); have n1_ := aK (KeepBut.blk hk (pB BK101.out) NB101_102.out (by simp)); have n2_ := aK (hb); have n3_ := aK (hi); clear HO_5 BK101 HB HI102; have HO_5 := n0_; have BK101 := n1_; have HB := n2_; have HI102 := n3_; clear n0_ n1_ n2_ n3_; (try clear hb); (try clear hb2); (try clear hk); (try clear hi); have p121 : 0 ≤ (t118 : Int) := of_decide_eq_true (by first | (with_reducible assumption) | assumption); have q121 : t118 < (t103.length : Int) := of_decide_eq_true (by first | (with_reducible assumption) | assumption); obtain ⟨ad121, A121_2, c121_2, e121, hx121_0, hx121_1, hx121_2, hl121_2, hi121_2⟩ := at_T29 (Kd.V_reads' HO_5.out).2.2 t118 p121 q121; cases e121; obtain ⟨ce121, hce121, hMe121, hcc121⟩ := Kd.V_get HO_5.out z29 t118 p121 (by first | exact q121 | exact of_decide_eq_true (by first | (with_reducible assumption) | assumption) | (have e_ := (Kd.V_reads' HO_5.out).1; omega)); obtain ⟨ua121_2, uc121_2, rfl, ul121_2, ge121_2⟩ := k29_openF hMe121; have hv121_2 := hcc121 2 _ rfl; rw [add_field _ _ 2 (by omega)] at hv121_2; replace hv121_2 := Option.some.inj (hv121_2.symm.trans hx121_2); injection hv121_2 with hva_ hvn_ hvc_; rw [hva_] at ge121_2; rw [hvc_] at ul121_2; have HL121_2 := aK (show Kd.V (Kd.int .i64) 3 _ w.heap.size _ _ ((rd_T29 t103 t118).f2) from Kd.V_mk ul121_2 ge121_2); clear hva_ hvn_ hvc_ ge121_2 ul121_2 hcc121 hce121; have HR121_2 := Aside0.mk hi121_2; have HC121_2 := Aside0.mk hl121_2; clear hi121_2 hl121_2; replace p121 := eq_true p121; replace q121 := eq_true q121) | ((with_reducible refine gate_callee (f := 116) rfl ?_); refine gl (some 29) Try.func116 #[.agg #[.int .i64 ((rd_T29 t103 t118).f0), .int .i64 ((rd_T29 t103 t118).f1), .slice A121_2 ((rd_T29 t103 t118).f2).length c121_2]] ?_; (with_reducible refine (spec_l2Own.calls ((rd_T29 t103 t118).f0) ((rd_T29 t103 t118).f1) _ _ ((rd_T29 t103 t118).f2) t122 t123 t124 _ ?side1 ?side2 A21.out).mono ?_); (case side1 => repeat (first | exact (by repeat (first | (with_reducible exact HR121_2.out) | (with_reducible refine Kd.C_alloc ?_ _) | (with_reducible refine Kd.C_drewN ?_ _) | (with_reducible refine Kd.C_drew ?_) | exact HR121_2.out)) | (with_reducible refine Kd.C_alloc ?_ _) | (with_reducible refine Kd.C_drewN ?_ _) | (with_reducible refine Kd.C_drew ?_))); (case side2 => exact HC121_2.out); rintro e w25 ⟨v125, rfl, ho0, hb⟩; refine ⟨_, rfl, ?_⟩; have n0_ := aK (Kd.V_elder' (by (with_reducible repeat (first | apply Kd.V_alloc | apply Kd.V_drewN | apply Kd.V_drew)); exact HO_5.out) (Kd.R_base ho0) hb); have n1_ := aK (Kd.V_elder' (by (with_reducible repeat (first | apply Kd.V_alloc | apply Kd.V_drewN | apply Kd.V_drew)); exact HL121_2.out) (Kd.R_base ho0) hb); have HO126 := aK (Kd.R_lower (Kd.R_newM (M := fun k_ => (w.heap.size ≤ k_)) ho0 (below_size ((pV HB.out (IsS115.ge HI102.out)))) (fun k_ h_ => h_)) (below_size ((pV HB.out (IsS115.ge HI102.out))))); have n4_ := aK (IsS115.below (pI115 HI102.out) hb); have n5_ := aK (Kd.C_below (by repeat (first | (with_reducible exact HR121_2.out) | (with_reducible refine Kd.C_alloc ?_ _) | (with_reducible refine Kd.C_drewN ?_ _) | (with_reducible refine Kd.C_drew ?_) | exact HR121_2.out)) hb); have n6_ := aK (below_step ((pV HB.out (IsS115.ge HI102.out))) hb); replace BK101 := bB BK101 hb; clear HO_5 HL121_2 HI102 HR121_2 HB; have HO_5 := n0_; have HL121_2 := n1_; have HI102 := n4_; have HR121_2 := n5_; have HB := n6_; clear n0_ n1_ n4_ n5_ n6_; (try clear hb); (try clear hb2); (try clear hk); (try clear hi); (try clear ho0)) | ((with_reducible refine gate_dst (N := 6) rfl ?_); refine bxe (cs := #[.int .i64 0, .int .i64 0, .slice none 0 0]) (t := 29) ?_; intro gb127 hg w26 hbox hb; have n0_ := aK (Kd.V_below (Kd.V_elderB (by (with_reducible repeat (first | apply Kd.V_alloc | apply Kd.V_drewN | apply Kd.V_drew)); exact HO_5.out) gb127 (Nat.le_of_eq hg.symm)) hb); have n1_ := aK (Kd.V_below (Kd.V_elderB (by (with_reducible repeat (first | apply Kd.V_alloc | apply Kd.V_drewN | apply Kd.V_drew)); exact HL121_2.out) gb127 (Nat.le_of_eq hg.symm)) hb); have n2_ := aK (Kd.R_below (pR HO126.out) hb); have n4_ := aK (IsS115.below (pI115 HI102.out) hb); have n5_ := aK (Kd.C_below (by repeat (first | (with_reducible exact HR121_2.out) | (with_reducible refine Kd.C_alloc ?_ _) | (with_reducible refine Kd.C_drewN ?_ _) | (with_reducible refine Kd.C_drew ?_) | exact HR121_2.out)) hb); have n6_ := aK (below_step ((pV HB.out (IsS115.ge HI102.out))) hb); have BK127 := aK (hbox); have GW127 := aK (gE hg ((pV HB.out (IsS115.ge HI102.out)))); have GE127 := aK (gE hg ((pV HB.out (IsS115.ge HI102.out)))); obtain ⟨NB101_127, NB127_101⟩ := nb hg (pB BK101.out); have NB102_127 := aK ((by rw [hg]; exact Nat.ne_of_lt (IsS115.lt (show IsS115 w _ gb102 l0 t119 t120 from pI115 HI102.out)) : gb102 ≠ gb127)); have NB127_102 := aK ((by rw [hg]; exact Nat.ne_of_gt (IsS115.lt (show IsS115 w _ gb102 l0 t119 t120 from pI115 HI102.out)) : gb127 ≠ gb102)); replace BK101 := bB BK101 hb; clear HO_5 HL121_2 HO126 HI102 HR121_2 HB; have HO_5 := n0_; have HL121_2 := n1_; have HO126 := n2_; have HI102 := n4_; have HR121_2 := n5_; have HB := n6_; clear n0_ n1_ n2_ n4_ n5_ n6_ hb hbox hg; have hnb27 := NB127_101.out; have hnc27 := NB101_127.out; have hnb28 := NB127_102.out; have hnc28 := NB102_127.out; obtain ⟨hcz29_0, hcz29_1, hcz29_2, hfz29_0, hfz29_1, hfz29_2⟩ := bc3 BK127.out; obtain ⟨Ao30, co30, eo30⟩ := Kd.R_slice HO126.out; subst eo30))
     (try simp only [Act.put, List.setIfInBounds_toArray, List.set_cons_zero, List.set_cons_succ])
     go_cut [37] (fun v37 wc => ∃ (kq : Nat) (x37_21 : Bool) (x103001_21 : Int) (x103002_21 : Int), v37 = .bool x37_21 ∧ Aside0 (spec_DrawNearestMember.j1 kq t103 x37_21 l0 x103001_21 x103002_21 t122 t123 t124 = some (r1, r2, r3, r4)) ∧ Aside0 (kq ≤ kj2) ∧ Aside0 (Kd.V k29 29 wc w.heap.size (fun k_ => (w.heap.size ≤ k_) ∧ some k_ ≠ ((.slice Ao30 t124.length co30) : Value).ownBlock ∧ k_ ≠ gb101 ∧ k_ ≠ gb127 ∧ k_ ≠ gb102) (.slice (some ad121) t103.length co23) t103) ∧ Aside0 (Kd.Q (Kd.int .i64) 3 wc w.heap.size (fun k_ => (w.heap.size ≤ k_)) (.slice Ao30 t124.length co30) t124) ∧ Aside0 (wc.heap[gb101]? = some (.cells #[.int .i64 0, .int .i64 0, (.slice none 0 0)] 29 (0, 0))) ∧ Aside0 (wc.heap[gb127]? = some (.cells #[.int .i64 t122, .int .i64 t123, (.slice Ao30 t124.length co30)] 29 (0, 0))) ∧ Aside0 (IsS115 w wc gb102 l0 x103001_21 x103002_21) ∧ Aside0 (Below w.heap.size w wc))
     case first =>
      have H := HC22.out
      clear HC22
      by_cases c31 : (t124.length : Int) > 0
      ·
       rw [if_pos c31] at H
       have c31b0 : decide (0 < (t124.length : Int)) = true := decide_eq_true c31
       have c31b1 : decide (0 < t124.length) = true := decide_eq_true (by omega)
       clear c31
       (first | rw [c31b0] | (simp only [i64_w, i32_w]; rw [c31b0]) | skip)
       replace H := Option.bind_eq_some_iff.mp H
       obtain ⟨⟨t128, t129, t130⟩, A320, H⟩ := H
       replace H : (spec_DrawNearestMember.j1 kj2 t103 t128 l0 t129 t130 t122 t123 t124) = some (r1, r2, r3, r4) := H
       have A32 := Aside0.mk A320
       clear A320
       have H' := Aside0.mk H
       clear H
       have hnb33 := NB127_101.out
       have hnc33 := NB101_127.out
       have hnb34 := NB127_102.out
       have hnc34 := NB102_127.out
       obtain ⟨hcz35_0, hcz35_1, hcz35_2, hfz35_0, hfz35_1, hfz35_2⟩ := bc3 BK127.out
       go_wp2_with (first | (go_at_call 115; (with_reducible refine (spec_l1Cur_one.calls gb102 l0 t119 t120 2 t128 t129 t130 w _ ?side1 ?side2 A32.out).mono ?_); (case side1 => exact pI115 HI102.out); (case side2 => exact pV HB.out (IsS115.ge HI102.out)); rintro e w36 ⟨rfl, hi, hb, hk⟩; have n0_ := aK (Kd.V_mono (Kd.V_keep (Kd.V_mono (ok := fun k_ => (((((w.heap.size ≤ k_)) ∧ (k_ ≠ gb101 ∧ k_ ≠ gb102)) ∧ some k_ ≠ (.slice Ao30 t124.length co30 : Value).ownBlock) ∧ k_ ≠ gb127)) (by (with_reducible repeat (first | apply Kd.V_alloc | apply Kd.V_drewN | apply Kd.V_drew)); exact (Kd.V_mono (Kd.V_far (p := ⟨gb127, 2, none⟩) (Kd.V_far (p := ⟨gb127, 1, none⟩) (Kd.V_far (p := ⟨gb127, 0, none⟩) (Kd.V_mono HO_5.out (fun k_ hk => (⟨hk, hk.2⟩ : _ ∧ k_ ≠ gb127))) (fun _ hk => hk.2) (.int .i64 t122)) (fun _ hk => hk.2) (.int .i64 t123)) (fun _ hk => hk.2) (.slice Ao30 t124.length co30)) (fun _ h_ => h_.1))) (fun _ h => And.intro h h.1.1.2.2)) hk (fun _ h => h.2)) (fun _ h => h.1)); have n1_ := aK (KeepBut.blk hk (g' := gb101) (o := .cells #[.int .i64 0, .int .i64 0, .slice none 0 0] 29 (0, 0)) (by refine bk ?_; refine blk_far ?_ NB101_127.out _; refine bk ?_; refine blk_far ?_ NB101_127.out _; refine bk ?_; refine blk_far ?_ NB101_127.out _; refine bk ?_; exact BK101.out) NB101_102.out (by simp)); have n2_ := aK (Kd.V_mono (Kd.V_keep (Kd.V_mono (ok := fun k_ => (((((w.heap.size ≤ k_)) ∧ (k_ ≠ gb101 ∧ k_ ≠ gb102)) ∧ some k_ ≠ (.slice Ao30 t124.length co30 : Value).ownBlock) ∧ k_ ≠ gb127)) (by (with_reducible repeat (first | apply Kd.V_alloc | apply Kd.V_drewN | apply Kd.V_drew)); exact (Kd.V_mono (Kd.V_far (p := ⟨gb127, 2, none⟩) (Kd.V_far (p := ⟨gb127, 1, none⟩) (Kd.V_far (p := ⟨gb127, 0, none⟩) (Kd.V_mono HL121_2.out (fun k_ hk => (⟨hk, hk.2⟩ : _ ∧ k_ ≠ gb127))) (fun _ hk => hk.2) (.int .i64 t122)) (fun _ hk => hk.2) (.int .i64 t123)) (fun _ hk => hk.2) (.slice Ao30 t124.length co30)) (fun _ h_ => h_.1))) (fun _ h => And.intro h h.1.1.2.2)) hk (fun _ h => h.2)) (fun _ h => h.1)); have n3_ := aK (Kd.R_mono (Kd.R_keep (IsS115.apart (show IsS115 w _ gb102 l0 t119 t120 from pI115 HI102.out) (pR (rF3 HO126.out BK127.out (.int .i64 t122) (.int .i64 t123) (.slice Ao30 t124.length co30))) (by decide)) hk (fun _ h => h.2)) (fun _ h => h.1)); have n4_ := aK (KeepBut.blk hk (g' := gb127) (o := .cells #[.int .i64 t122, .int .i64 t123, .slice Ao30 t124.length co30] 29 (0, 0)) (by refine bk ?_; refine blk_put (cs := #[.int .i64 t122, .int .i64 t123, .slice none 0 0]) ?_ 2 _ rfl; refine bk ?_; refine blk_put (cs := #[.int .i64 t122, .int .i64 0, .slice none 0 0]) ?_ 1 _ rfl; refine bk ?_; refine blk_put (cs := #[.int .i64 0, .int .i64 0, .slice none 0 0]) ?_ 0 _ rfl; refine bk ?_; exact BK127.out) NB127_102.out (by simp)); have n5_ := aK (hb); have n6_ := aK (hi); clear HO_5 BK101 HL121_2 HO126 BK127 HB HI102; have HO_5 := n0_; have BK101 := n1_; have HL121_2 := n2_; have HO126 := n3_; have BK127 := n4_; have HB := n5_; have HI102 := n6_; clear n0_ n1_ n2_ n3_ n4_ n5_ n6_; (try clear hb); (try clear hb2); (try clear hk); (try clear hi)))
       go_meet
       case rel => exact ⟨_, (t128), (t129), (t130), (by first | rfl | (simp; done) | (simp [*]; done)), H', ⟨by have := HJ2.out; first | omega | exact Nat.le_refl _⟩, ⟨by (with_reducible repeat (first | apply Kd.V_alloc | apply Kd.V_drewN | apply Kd.V_drew)); exact Kd.V_mono HO_5.out (fun _ hk => ⟨hk.1.1.1, ⟨hk.1.2, ⟨hk.1.1.2.1, ⟨hk.2, hk.1.1.2.2⟩⟩⟩⟩)⟩, ⟨Kd.Q_of_R (pR (Kd.R_mono HO126.out (fun _ hk => hk.1)))⟩, ⟨by refine bk ?_; exact BK101.out⟩, ⟨by refine bk ?_; exact BK127.out⟩, ⟨pI115 HI102.out⟩, ⟨(pV HB.out (IsS115.ge HI102.out))⟩⟩
      rw [if_neg c31] at H
      have c31b0 : decide (0 < (t124.length : Int)) = false := decide_eq_false c31
      have c31b1 : decide (0 < t124.length) = false := decide_eq_false (by omega)
      clear c31
      (first | rw [c31b0] | (simp only [i64_w, i32_w]; rw [c31b0]) | skip)
      have H' := Aside0.mk H
      clear H
      have hnb37 := NB127_101.out
      have hnc37 := NB101_127.out
      have hnb38 := NB127_102.out
      have hnc38 := NB102_127.out
      obtain ⟨hcz39_0, hcz39_1, hcz39_2, hfz39_0, hfz39_1, hfz39_2⟩ := bc3 BK127.out
      go_wp2
      go_meet
      case rel => exact ⟨_, (false), (t119), (t120), (by first | rfl | (simp; done) | (simp [*]; done)), H', ⟨by have := HJ2.out; first | omega | exact Nat.le_refl _⟩, ⟨by (with_reducible repeat (first | apply Kd.V_alloc | apply Kd.V_drewN | apply Kd.V_drew)); exact Kd.V_mono (Kd.V_far (p := ⟨gb127, 2, none⟩) (Kd.V_far (p := ⟨gb127, 1, none⟩) (Kd.V_far (p := ⟨gb127, 0, none⟩) (Kd.V_mono HO_5.out (fun k_ hk => (⟨hk, hk.2⟩ : _ ∧ k_ ≠ gb127))) (fun _ hk => hk.2) (.int .i64 t122)) (fun _ hk => hk.2) (.int .i64 t123)) (fun _ hk => hk.2) (.slice Ao30 t124.length co30)) (fun _ hk => ⟨hk.1.1.1.1, ⟨hk.1.1.2, ⟨hk.1.1.1.2.1, ⟨hk.1.2, hk.1.1.1.2.2⟩⟩⟩⟩)⟩, ⟨Kd.Q_of_R (pR (Kd.R_mono (rF3 HO126.out BK127.out (.int .i64 t122) (.int .i64 t123) (.slice Ao30 t124.length co30)) (fun _ h => h.1)))⟩, ⟨by refine bk ?_; refine blk_far ?_ NB101_127.out _; refine bk ?_; refine blk_far ?_ NB101_127.out _; refine bk ?_; refine blk_far ?_ NB101_127.out _; refine bk ?_; exact BK101.out⟩, ⟨by refine bk ?_; refine blk_put (cs := #[.int .i64 t122, .int .i64 t123, .slice none 0 0]) ?_ 2 _ rfl; refine bk ?_; refine blk_put (cs := #[.int .i64 t122, .int .i64 0, .slice none 0 0]) ?_ 1 _ rfl; refine bk ?_; refine blk_put (cs := #[.int .i64 0, .int .i64 0, .slice none 0 0]) ?_ 0 _ rfl; refine bk ?_; exact BK127.out⟩, ⟨pI115 HI102.out⟩, ⟨(pV HB.out (IsS115.ge HI102.out))⟩⟩
     case rest =>
      clear HC22
      try clear c1
      try clear p1
      try clear q1
      try clear hx1
      try clear c2
      try clear p2
      try clear c3
      try clear c4
      try clear c7
      try clear c7b0
      try clear c7b1
      try clear c7b2
      try clear c10
      try clear c11
      try clear c12
      try clear p12
      try clear q12
      try clear hx12
      try clear c15
      try clear c19
      try clear c19b0
      try clear c20
      try clear c20b0
      try clear c27
      try clear c28
      try clear c31
      try clear c31b0
      try clear c31b1
      try clear c33
      try clear c34
      try clear c37
      try clear c38
      try clear hcz16_0
      try clear hcz16_1
      try clear hcz16_2
      try clear hcz29_0
      try clear hcz29_1
      try clear hcz29_2
      try clear hcz35_0
      try clear hcz35_1
      try clear hcz35_2
      try clear hcz39_0
      try clear hcz39_1
      try clear hcz39_2
      try clear hfz16_0
      try clear hfz16_1
      try clear hfz16_2
      try clear hfz29_0
      try clear hfz29_1
      try clear hfz29_2
      try clear hfz35_0
      try clear hfz35_1
      try clear hfz35_2
      try clear hfz39_0
      try clear hfz39_1
      try clear hfz39_2
      try clear hx121_0
      try clear hx121_1
      try clear hx121_2
      try clear p121
      try clear p2
      try clear q121
      obtain ⟨kq, x37_21, x103001_21, x103002_21, rfl, HA, HJ21, HO_5, HO_128002, BK101, BK127, HI102, HB⟩ := hcut
      cases kq with
      | zero => exact absurd HA.out (by simp [spec_DrawNearestMember.j1])
      | succ kj21 =>
       have H := HA.out
       clear HA
       simp only [spec_DrawNearestMember.j1] at H
       by_cases c40 : x37_21 = true
       ·
        subst c40
        have H1 : ((spec_l1Cur_pick.f l0 x103001_21 x103002_21 (t124.length : Int)).bind fun bt131 => ((spec_l1Cur_among.f l0 bt131.2.1 bt131.2.2 (([7, (-9999)] : List Int))).bind fun bt137 => (if 0 ≤ bt131.1 then (if bt131.1 < (t124.length : Int) then (some (t103, t122, t123, (t124.set (bt131.1 : Int).toNat bt137.1))) else (none)) else (none)))) = some (r1, r2, r3, r4) := by rw [if_pos rfl] at H; exact H
        clear H
        have H := H1
        clear H1
        replace H := Option.bind_eq_some_iff.mp H
        obtain ⟨⟨t131, t132, t133⟩, A410, H⟩ := H
        replace H : ((spec_l1Cur_among.f l0 t132 t133 (([7, (-9999)] : List Int))).bind fun bt137 => (if 0 ≤ t131 then (if t131 < (t124.length : Int) then (some (t103, t122, t123, (t124.set (t131 : Int).toNat bt137.1))) else (none)) else (none))) = some (r1, r2, r3, r4) := H
        have A41 := Aside0.mk A410
        clear A410
        obtain ⟨y134, hy134⟩ : ∃ y_ : List Int, y_ = (([7, (-9999)] : List Int)) := ⟨_, rfl⟩
        replace H : ((spec_l1Cur_among.f l0 t132 t133 y134).bind fun bt137 => (if 0 ≤ t131 then (if t131 < (t124.length : Int) then (some (t103, t122, t123, (t124.set (t131 : Int).toNat bt137.1))) else (none)) else (none))) = some (r1, r2, r3, r4) := by first | (rw [hy134]; with_reducible exact H) | (have H2_ := (Option.bind_some _ _).symm.trans H; rw [hy134]; with_reducible exact H2_) | (have H2_ := (Option.bind_some _ _).symm.trans H; with_reducible exact H2_) | with_reducible exact H | (rw [hy134]; exact H) | exact H
        have Ny134 := Aside0.mk hy134
        clear hy134
        replace H := Option.bind_eq_some_iff.mp H
        obtain ⟨⟨t137, t138, t139⟩, A420, H⟩ := H
        replace H : (if 0 ≤ t131 then (if t131 < (t124.length : Int) then (some (t103, t122, t123, (t124.set (t131 : Int).toNat t137))) else (none)) else (none)) = some (r1, r2, r3, r4) := H
        have A42 := Aside0.mk A420
        clear A420
        by_cases c43 : 0 ≤ t131
        ·
         rw [if_pos c43] at H
         have c43b0 : decide (0 ≤ t131) = true := decide_eq_true c43
         clear c43
         by_cases c44 : t131 < (t124.length : Int)
         ·
          rw [if_pos c44] at H
          have c44b0 : decide (t131 < (t124.length : Int)) = true := decide_eq_true c44
          clear c44
          obtain ⟨y140, hy140⟩ : ∃ y_ : List Int, y_ = (t124.set (t131 : Int).toNat t137) := ⟨_, rfl⟩
          replace H : (some (t103, t122, t123, y140)) = some (r1, r2, r3, r4) := by first | (rw [hy140]; with_reducible exact H) | (have H2_ := (Option.bind_some _ _).symm.trans H; rw [hy140]; with_reducible exact H2_) | (have H2_ := (Option.bind_some _ _).symm.trans H; with_reducible exact H2_) | with_reducible exact H | (rw [hy140]; exact H) | exact H
          have Ny140 := Aside0.mk hy140
          clear hy140
          simp only [Option.some.injEq, Prod.mk.injEq] at H
          obtain ⟨rfl, rfl, rfl, rfl⟩ := H
          try go_wp2
          have n0_ := aK (Kd.V_drew HO_5.out)
          have n1_ := aK (Kd.Q_drew HO_128002.out)
          have n2_ := aK (blk_drew BK101.out)
          have n3_ := aK (blk_drew BK127.out)
          have n4_ := aK (IsS115.drew HI102.out)
          have n5_ := aK (below_drew1 HB.out)
          clear HO_5 HO_128002 BK101 BK127 HI102 HB
          have HO_5 := n0_
          have HO_128002 := n1_
          have BK101 := n2_
          have BK127 := n3_
          have HI102 := n4_
          have HB := n5_
          clear n0_ n1_ n2_ n3_ n4_ n5_
          refine start_ (n := 12) (S := fun w' => w'.cell? ⟨gb127, 0, none⟩ = some (.int .i64 t122) ∧ w'.cell? ⟨gb127, 1, none⟩ = some (.int .i64 t123) ∧ w'.cell? ⟨gb127, 2, none⟩ = some (.slice Ao30 t124.length co30)) (ds := [11]) #[false, false, false, false, false, false, false, false, false, false, false, false] (by kernel_rfl) rfl rfl (cz3 BK127.out) (fun hHeld => ?_); refine with_tabW spec_DrawNearestMember.tab7 spec_DrawNearestMember.bits7 (fun HT_ HW_ => ?_)
          generalize wc.drew = w46 at HO_5 HO_128002 BK101 BK127 HI102 HB hHeld ⊢
          refine pu (i := 0) (N := some 38) #[true, false, false, false, false, false, false, false, false, false, false, false] rfl rfl HT_.out ?_
          refine pu (i := 2) (N := some 40) #[true, false, true, false, false, false, false, false, false, false, false, false] rfl rfl HT_.out ?_
          refine pu (i := 3) (N := some 41) #[true, false, true, true, false, false, false, false, false, false, false, false] rfl rfl HT_.out ?_
          refine pu (i := 7) (N := some 45) #[true, false, true, true, false, false, false, true, false, false, false, false] rfl rfl HT_.out ?_
          refine tk (i := 1) (N := some 39) #[true, true, true, true, false, false, false, true, false, false, false, false] rfl rfl HT_.out HW_.out (Or.inl ⟨by rfl, by rintro w' ⟨s0, s1, s2⟩; go_simp; with_reducible rfl⟩) hHeld ?_
          refine tk (i := 4) (N := some 42) #[true, true, true, true, true, false, false, true, false, false, false, false] rfl rfl HT_.out HW_.out (Or.inl ⟨by rfl, by rintro w' ⟨s0, s1, s2⟩; go_simp; with_reducible rfl⟩) hHeld ?_
          refine pu (i := 5) (N := some 43) #[true, true, true, true, true, true, false, true, false, false, false, false] rfl rfl HT_.out ?_
          refine join_ (σ := Value) 3 #[true, true, true, true, true, true, true, true, true, false, false, false] (fun s_ => [(44, .int .i64 t131), (46, s_)]) (fun s_ w' => (w'.cell? ⟨gb127, 0, none⟩ = some (.int .i64 t122) ∧ w'.cell? ⟨gb127, 1, none⟩ = some (.int .i64 t123) ∧ w'.cell? ⟨gb127, 2, none⟩ = some (.slice Ao30 t124.length co30)) ∧ (Kd.R (Kd.int .i64) 3 w' w.heap.size (fun k_ => (w.heap.size ≤ k_) ∧ some k_ ≠ (.slice Ao30 t124.length co30 : Value).ownBlock) s_ y134) ∧ (Kd.Q (Kd.int .i64) 3 w' w.heap.size (fun k_ => (w.heap.size ≤ k_) ∧ some k_ ≠ (s_ : Value).ownBlock) (.slice Ao30 t124.length co30) t124) ∧ (Kd.V k29 29 w' w.heap.size (fun k_ => (w.heap.size ≤ k_) ∧ some k_ ≠ (s_ : Value).ownBlock ∧ some k_ ≠ (.slice Ao30 t124.length co30 : Value).ownBlock ∧ k_ ≠ gb101 ∧ k_ ≠ gb102 ∧ k_ ≠ gb127) (.slice (some ad121) t103.length co23) t103) ∧ (w'.heap[gb101]? = some (.cells #[.int .i64 0, .int .i64 0, .slice none 0 0] 29 (0, 0))) ∧ (w'.heap[gb127]? = some (.cells #[.int .i64 t122, .int .i64 t123, .slice Ao30 t124.length co30] 29 (0, 0))) ∧ (IsS115 w w' gb102 l0 t132 t133) ∧ (Below w.heap.size w w')) ?_ ?_
          rotate_left
          ·
           intro hCont
           refine two_ (i := 6) (j := 8) (Ni := some 44) (Nj := some 46) #[true, true, true, true, true, true, true, true, false, false, false, false] #[true, true, true, true, true, true, false, true, true, false, false, false] rfl rfl rfl rfl (two_of HT_.out (by kernel_rfl)) (by decide) (by decide) (fun K hK => ?_) (fun K hK => ?_)
           ·
            skip
            refine goes_ Try.func117 (by kernel_rfl) rfl #[.pointer (some ⟨gb102, 0, none⟩), .int .i64 (t124.length : Int)] (by rfl) rfl rfl (by (try simp only [List.map_toArray, List.map_cons, List.map_nil]); first | done | rfl | (simp only [List.length_drop, List.length_take]; rfl)) ?_
            with_reducible refine (spec_l1Cur_pick.calls gb102 l0 x103001_21 x103002_21 (t124.length : Int) t131 t132 t133 w _ ?side1 ?side2 A41.out).mono ?_
            (case side1 => exact pI115 HI102.out)
            (case side2 => exact pV HB.out (IsS115.ge HI102.out))
            rintro e w47 ⟨rfl, hi, hb, hk⟩
            refine ⟨_, rfl, ?_⟩
            have n0_ := aK (Kd.V_mono (Kd.V_keep (Kd.V_mono (ok := fun k_ => (((w.heap.size ≤ k_)) ∧ (some k_ ≠ (.slice Ao30 t124.length co30 : Value).ownBlock ∧ (k_ ≠ gb101 ∧ (k_ ≠ gb127 ∧ k_ ≠ gb102))))) (by (with_reducible repeat (first | apply Kd.V_alloc | apply Kd.V_drewN | apply Kd.V_drew)); exact HO_5.out) (fun _ h => And.intro h h.2.2.2.2)) hk (fun _ h => h.2)) (fun _ h => h.1))
            have n1_ := aK (Kd.Q_mono (Kd.Q_keep (IsS115.apartQ (show IsS115 w _ gb102 l0 x103001_21 x103002_21 from pI115 HI102.out) (pQ HO_128002.out) (by decide)) hk (fun _ h => h.2)) (fun _ h => h.1))
            have n2_ := aK (KeepBut.blk hk (pB BK101.out) NB101_102.out (by simp))
            have n3_ := aK (KeepBut.blk hk (pB BK127.out) NB127_102.out (by simp))
            have n4_ := aK (hb)
            have n5_ := aK (hi)
            clear HO_5 HO_128002 BK101 BK127 HB HI102
            have HO_5 := n0_
            have HO_128002 := n1_
            have BK101 := n2_
            have BK127 := n3_
            have HB := n4_
            have HI102 := n5_
            clear n0_ n1_ n2_ n3_ n4_ n5_
            (try clear hb)
            (try clear hb2)
            (try clear hk)
            (try clear hi)
            refine hK.out _ _ (cz3 BK127.out) (fun hHeld => ?_)
            clear hK K
            refine norm_ (a' := ?_) ?_ ?_
            rotate_left
            ·
             show Act.put _ (some 44) _ = _
             simp only [sP]
             rfl
            refine one_ (i := 8) (N := some 46) #[true, true, true, true, true, true, true, true, true, false, false, false] rfl rfl (one_of HT_.out (by kernel_rfl)) (by decide) (fun K hK => ?_)
            refine Kd.R_lit_step (Kd.int .i64) _ 3 ?hg (N := 46) ?hd (xs := ([7, (-9999)] : List Int)) (inner := [.int .i64 7, .int .i64 (-9999)]) (ok := fun _ => True) (okp := fun _ => True) ?hr ?hp (fun _ hk => hk) trivial (Below.refl _ _) (Nat.le_refl _) (by simp) ?_; (case hd => rfl); (case hg => rfl); (case hr => first | (go_simp; done) | (go_simp; rfl)); (case hp => exact (Reps.one (show Kd.M (Kd.int .i64) _ _ _ 7 [.int .i64 7] from rfl) (Reps.one (show Kd.M (Kd.int .i64) _ _ _ (-9999) [.int .i64 (-9999)] from rfl) (Reps.none _ _))))
            intro v135 w48 ho49 hb hg_ hnew_
            clear hg_ hnew_
            (first | rw [← Ny134.out] at ho49 | (simp only [Int.reduceToNat] at ho49; rw [← Ny134.out] at ho49))
            have n0_ := aK (Kd.V_elder' (by (with_reducible repeat (first | apply Kd.V_alloc | apply Kd.V_drewN | apply Kd.V_drew)); exact HO_5.out) (Kd.R_base ho49) hb)
            have n1_ := aK (Kd.Q_elder' (pQ HO_128002.out) (Kd.R_base ho49) hb)
            have HO136 := aK (Kd.R_lower (Kd.R_new' (Kd.R_newM (M := fun k_ => (w.heap.size ≤ k_)) ho49 (below_size ((pV HB.out (IsS115.ge HI102.out)))) (fun k_ h_ => h_)) (Kd.Q_lt (pQ HO_128002.out))) (below_size ((pV HB.out (IsS115.ge HI102.out)))))
            have n5_ := aK (IsS115.below (pI115 HI102.out) hb)
            have n6_ := aK (below_step ((pV HB.out (IsS115.ge HI102.out))) hb)
            replace BK101 := bB BK101 hb
            replace BK127 := bB BK127 hb
            clear HO_5 HO_128002 HI102 HB
            have HO_5 := n0_
            have HO_128002 := n1_
            have HI102 := n5_
            have HB := n6_
            clear n0_ n1_ n5_ n6_ hb ho49
            refine hK.out _ _ (cz3 BK127.out) (fun hHeld => ?_)
            clear hK K
            refine norm_ (a' := ?_) ?_ ?_
            rotate_left
            ·
             show Act.put _ (some 46) _ = _
             simp only [sP]
             rfl
            exact norm_ (by simp only [putAll, Act.put, List.setIfInBounds_toArray, List.set_cons_zero, List.set_cons_succ]) (hCont (v135) _ ⟨hHeld, (pR (rP HO136.out)), (pQ HO_128002.out), (by (with_reducible repeat (first | apply Kd.V_alloc | apply Kd.V_drewN | apply Kd.V_drew)); exact Kd.V_mono HO_5.out (fun _ hk => ⟨hk.1.1, ⟨hk.2, ⟨hk.1.2.1, ⟨hk.1.2.2.1, ⟨hk.1.2.2.2.2, hk.1.2.2.2.1⟩⟩⟩⟩⟩)), (pB BK101.out), (pB BK127.out), (pI115 HI102.out), ((pV HB.out (IsS115.ge HI102.out)))⟩)
           skip
           refine Kd.R_lit_step (Kd.int .i64) _ 3 ?hg (N := 46) ?hd (xs := ([7, (-9999)] : List Int)) (inner := [.int .i64 7, .int .i64 (-9999)]) (ok := fun _ => True) (okp := fun _ => True) ?hr ?hp (fun _ hk => hk) trivial (Below.refl _ _) (Nat.le_refl _) (by simp) ?_; (case hd => rfl); (case hg => rfl); (case hr => first | (go_simp; done) | (go_simp; rfl)); (case hp => exact (Reps.one (show Kd.M (Kd.int .i64) _ _ _ 7 [.int .i64 7] from rfl) (Reps.one (show Kd.M (Kd.int .i64) _ _ _ (-9999) [.int .i64 (-9999)] from rfl) (Reps.none _ _))))
           intro v135 w47 ho48 hb hg_ hnew_
           clear hg_ hnew_
           (first | rw [← Ny134.out] at ho48 | (simp only [Int.reduceToNat] at ho48; rw [← Ny134.out] at ho48))
           have n0_ := aK (Kd.V_elder' (by (with_reducible repeat (first | apply Kd.V_alloc | apply Kd.V_drewN | apply Kd.V_drew)); exact HO_5.out) (Kd.R_base ho48) hb)
           have n1_ := aK (Kd.Q_elder' (pQ HO_128002.out) (Kd.R_base ho48) hb)
           have HO136 := aK (Kd.R_lower (Kd.R_new' (Kd.R_newM (M := fun k_ => (w.heap.size ≤ k_)) ho48 (below_size ((pV HB.out (IsS115.ge HI102.out)))) (fun k_ h_ => h_)) (Kd.Q_lt (pQ HO_128002.out))) (below_size ((pV HB.out (IsS115.ge HI102.out)))))
           have n5_ := aK (IsS115.below (pI115 HI102.out) hb)
           have n6_ := aK (below_step ((pV HB.out (IsS115.ge HI102.out))) hb)
           replace BK101 := bB BK101 hb
           replace BK127 := bB BK127 hb
           clear HO_5 HO_128002 HI102 HB
           have HO_5 := n0_
           have HO_128002 := n1_
           have HI102 := n5_
           have HB := n6_
           clear n0_ n1_ n5_ n6_ hb ho48
           refine hK.out _ _ (cz3 BK127.out) (fun hHeld => ?_)
           clear hK K
           refine norm_ (a' := ?_) ?_ ?_
           rotate_left
           ·
            show Act.put _ (some 46) _ = _
            simp only [sP]
            rfl
           refine one_ (i := 6) (N := some 44) #[true, true, true, true, true, true, true, true, true, false, false, false] rfl rfl (one_of HT_.out (by kernel_rfl)) (by decide) (fun K hK => ?_)
           refine goes_ Try.func117 (by kernel_rfl) rfl #[.pointer (some ⟨gb102, 0, none⟩), .int .i64 (t124.length : Int)] (by rfl) rfl rfl (by (try simp only [List.map_toArray, List.map_cons, List.map_nil]); first | done | rfl | (simp only [List.length_drop, List.length_take]; rfl)) ?_
           with_reducible refine (spec_l1Cur_pick.calls gb102 l0 x103001_21 x103002_21 (t124.length : Int) t131 t132 t133 w _ ?side1 ?side2 A41.out).mono ?_
           (case side1 => exact pI115 HI102.out)
           (case side2 => exact pV HB.out (IsS115.ge HI102.out))
           rintro e w49 ⟨rfl, hi, hb, hk⟩
           refine ⟨_, rfl, ?_⟩
           have n0_ := aK (Kd.V_mono (Kd.V_keep (Kd.V_mono (ok := fun k_ => ((((w.heap.size ≤ k_)) ∧ (some k_ ≠ (.slice Ao30 t124.length co30 : Value).ownBlock ∧ (k_ ≠ gb101 ∧ (k_ ≠ gb127 ∧ k_ ≠ gb102)))) ∧ some k_ ≠ (v135 : Value).ownBlock)) (by (with_reducible repeat (first | apply Kd.V_alloc | apply Kd.V_drewN | apply Kd.V_drew)); exact HO_5.out) (fun _ h => And.intro h h.1.2.2.2.2)) hk (fun _ h => h.2)) (fun _ h => h.1))
           have n1_ := aK (Kd.Q_mono (Kd.Q_keep (IsS115.apartQ (show IsS115 w _ gb102 l0 x103001_21 x103002_21 from pI115 HI102.out) (pQ HO_128002.out) (by decide)) hk (fun _ h => h.2)) (fun _ h => h.1))
           have n2_ := aK (KeepBut.blk hk (pB BK101.out) NB101_102.out (by simp))
           have n3_ := aK (KeepBut.blk hk (pB BK127.out) NB127_102.out (by simp))
           have n4_ := aK (Kd.R_mono (Kd.R_keep (IsS115.apart (show IsS115 w _ gb102 l0 x103001_21 x103002_21 from pI115 HI102.out) (pR HO136.out) (by decide)) hk (fun _ h => h.2)) (fun _ h => h.1))
           have n5_ := aK (hb)
           have n6_ := aK (hi)
           clear HO_5 HO_128002 BK101 BK127 HO136 HB HI102
           have HO_5 := n0_
           have HO_128002 := n1_
           have BK101 := n2_
           have BK127 := n3_
           have HO136 := n4_
           have HB := n5_
           have HI102 := n6_
           clear n0_ n1_ n2_ n3_ n4_ n5_ n6_
           (try clear hb)
           (try clear hb2)
           (try clear hk)
           (try clear hi)
           refine hK.out _ _ (cz3 BK127.out) (fun hHeld => ?_)
           clear hK K
           refine norm_ (a' := ?_) ?_ ?_
           rotate_left
           ·
            show Act.put _ (some 44) _ = _
            simp only [sP]
            rfl
           exact norm_ (by simp only [putAll, Act.put, List.setIfInBounds_toArray, List.set_cons_zero, List.set_cons_succ]) (hCont (v135) _ ⟨hHeld, (pR (rP HO136.out)), (pQ HO_128002.out), (by (with_reducible repeat (first | apply Kd.V_alloc | apply Kd.V_drewN | apply Kd.V_drew)); exact Kd.V_mono HO_5.out (fun _ hk => ⟨hk.1.1, ⟨hk.2, ⟨hk.1.2.1, ⟨hk.1.2.2.1, ⟨hk.1.2.2.2.2, hk.1.2.2.2.1⟩⟩⟩⟩⟩)), (pB BK101.out), (pB BK127.out), (pI115 HI102.out), ((pV HB.out (IsS115.ge HI102.out)))⟩)
          rintro v135 w50 ⟨hS_, h0_, h1_, h2_, h3_, h4_, h5_, h6_⟩
          have n0_ : Aside0 (Kd.R (Kd.int .i64) 3 w50 w.heap.size (fun k_ => (w.heap.size ≤ k_) ∧ some k_ ≠ (.slice Ao30 t124.length co30 : Value).ownBlock) v135 y134) := ⟨h0_⟩
          have n1_ : Aside0 (Kd.Q (Kd.int .i64) 3 w50 w.heap.size (fun k_ => (w.heap.size ≤ k_) ∧ some k_ ≠ (v135 : Value).ownBlock) (.slice Ao30 t124.length co30) t124) := ⟨h1_⟩
          have n2_ : Aside0 (Kd.V k29 29 w50 w.heap.size (fun k_ => (w.heap.size ≤ k_) ∧ some k_ ≠ (v135 : Value).ownBlock ∧ some k_ ≠ (.slice Ao30 t124.length co30 : Value).ownBlock ∧ k_ ≠ gb101 ∧ k_ ≠ gb102 ∧ k_ ≠ gb127) (.slice (some ad121) t103.length co23) t103) := ⟨h2_⟩
          have n3_ : Aside0 (w50.heap[gb101]? = some (.cells #[.int .i64 0, .int .i64 0, .slice none 0 0] 29 (0, 0))) := ⟨h3_⟩
          have n4_ : Aside0 (w50.heap[gb127]? = some (.cells #[.int .i64 t122, .int .i64 t123, .slice Ao30 t124.length co30] 29 (0, 0))) := ⟨h4_⟩
          have n5_ : Aside0 (IsS115 w w50 gb102 l0 t132 t133) := ⟨h5_⟩
          have n6_ : Aside0 (Below w.heap.size w w50) := ⟨h6_⟩
          clear HO_5 HO_128002 BK101 BK127 HI102 HB h0_ h1_ h2_ h3_ h4_ h5_ h6_
          have HO136 := n0_
          have HO_128002 := n1_
          have HO_5 := n2_
          have BK101 := n3_
          have BK127 := n4_
          have HI102 := n5_
          have HB := n6_
          clear n0_ n1_ n2_ n3_ n4_ n5_ n6_
          have hHeld : w50.cell? ⟨gb127, 0, none⟩ = some (.int .i64 t122) ∧ w50.cell? ⟨gb127, 1, none⟩ = some (.int .i64 t123) ∧ w50.cell? ⟨gb127, 2, none⟩ = some (.slice Ao30 t124.length co30) := hS_
          obtain ⟨Ao51, co51, eo51⟩ := Kd.R_slice HO136.out
          (first | subst eo51 | (obtain ⟨f4_, f5_⟩ := sI eo51; subst f4_; subst f5_))
          refine norm_ (a' := ?_) ?_ ?_
          rotate_left
          ·
           simp only [putAll, Act.put, List.setIfInBounds_toArray, List.set_cons_zero, List.set_cons_succ]
           rfl
          refine one_ (i := 9) (N := some 47) #[true, true, true, true, true, true, true, true, true, true, false, false] rfl rfl (one_of HT_.out (by kernel_rfl)) (by decide) (fun K hK => ?_)
          refine goes_ Try.func112 (by kernel_rfl) rfl #[.pointer (some ⟨gb102, 0, none⟩), .slice Ao51 y134.length co51] (by rfl) rfl rfl (by (try simp only [List.map_toArray, List.map_cons, List.map_nil]); first | done | rfl | (simp only [List.length_drop, List.length_take]; rfl)) ?_
          with_reducible refine (spec_l1Cur_among.calls gb102 l0 t132 t133 _ _ y134 t137 t138 t139 w _ ?side1 ?side2 ?side3 ?side4 ?side5 A42.out).mono ?_
          (case side1 => exact pI115 HI102.out)
          (case side2 => exact pV HB.out (IsS115.ge HI102.out))
          (case side3 => exact pC (Kd.R_reads' HO136.out).2.2)
          (case side4 => exact (Kd.R_reads' HO136.out).2.1)
          (case side5 => exact far_slice (IsS115.own_ne HI102.out HO136.out (by decide)))
          rintro e w52 ⟨rfl, hi, hb, hk⟩
          refine ⟨_, rfl, ?_⟩
          have n0_ := aK (Kd.V_mono (Kd.V_keep (Kd.V_mono (ok := fun k_ => (((w.heap.size ≤ k_)) ∧ (some k_ ≠ (.slice Ao51 y134.length co51 : Value).ownBlock ∧ (some k_ ≠ (.slice Ao30 t124.length co30 : Value).ownBlock ∧ (k_ ≠ gb101 ∧ (k_ ≠ gb102 ∧ k_ ≠ gb127)))))) (by (with_reducible repeat (first | apply Kd.V_alloc | apply Kd.V_drewN | apply Kd.V_drew)); exact HO_5.out) (fun _ h => And.intro h h.2.2.2.2.1)) hk (fun _ h => h.2)) (fun _ h => h.1))
          have n1_ := aK (Kd.Q_mono (Kd.Q_keep (IsS115.apartQ (show IsS115 w _ gb102 l0 t132 t133 from pI115 HI102.out) (pQ HO_128002.out) (by decide)) hk (fun _ h => h.2)) (fun _ h => h.1))
          have n2_ := aK (KeepBut.blk hk (pB BK101.out) NB101_102.out (by simp))
          have n3_ := aK (KeepBut.blk hk (pB BK127.out) NB127_102.out (by simp))
          have n4_ := aK (Kd.R_mono (Kd.R_keep (IsS115.apart (show IsS115 w _ gb102 l0 t132 t133 from pI115 HI102.out) (pR HO136.out) (by decide)) hk (fun _ h => h.2)) (fun _ h => h.1))
          have n5_ := aK (hb)
          have n6_ := aK (hi)
          clear HO_5 HO_128002 BK101 BK127 HO136 HB HI102
          have HO_5 := n0_
          have HO_128002 := n1_
          have BK101 := n2_
          have BK127 := n3_
          have HO136 := n4_
          have HB := n5_
          have HI102 := n6_
          clear n0_ n1_ n2_ n3_ n4_ n5_ n6_
          (try clear hb)
          (try clear hb2)
          (try clear hk)
          (try clear hi)
          have p45 : 0 ≤ (t131 : Int) := of_decide_eq_true (by first | (with_reducible assumption) | assumption)
          have q45 : (t131 : Int) < ((t124.length : Int) : Int) := of_decide_eq_true (by first | (with_reducible assumption) | assumption)
          obtain ⟨go45, oo45, co45, eo45, gb45, gl45, cl45, HG45⟩ := Kd.Q_form HO_128002.out (by omega)
          (first | cases eo45 | (injection eo45 with ea_ en_ ec_; (first | subst ea_ | (injection ea_ with ea_; subst ea_)); subst ec_; clear en_))
          have GB45 := Aside0.mk gb45
          have GG45 := Aside0.mk HG45
          clear gb45 gl45 HG45
          obtain ⟨hx45_0, hf45_0⟩ := Kd.Q_cell 0 HO_128002.out (t131 : Int) p45 q45
          replace p45 := eq_true p45
          replace q45 := eq_true q45
          have HN102_go45 := aK (show gb102 ≠ go45 from by have h_ := IsS115.own_neQ HI102.out HO_128002.out (by decide); intro e_; exact h_ (by rw [e_]; rfl))
          have HP53 := (Kd.Q_putg HO_128002.out (t131 : Int) (of_decide_eq_true (by first | (with_reducible assumption) | assumption)) (by have h_ : (t131 : Int) < ((t124.length : Int) : Int) := of_decide_eq_true (by first | (with_reducible assumption) | assumption); first | exact h_ | (have e_ := (Kd.Q_reads' HO_128002.out).1; omega) | simpa using h_) t137).1
          rw [← Ny140.out] at HP53
          have HQ53 := Aside0.mk HP53
          clear HP53
          refine hK.out _ _ (cz3 BK127.out) (fun hHeld => ?_)
          clear hK K
          refine norm_ (a' := ?_) ?_ ?_
          rotate_left
          ·
           show Act.put _ (some 47) _ = _
           simp only [sP]
           rfl
          refine pu (i := 10) (N := some 48) #[true, true, true, true, true, true, true, true, true, true, true, false] rfl rfl HT_.out ?_
          refine last_ (i := 11) (N := none) #[true, true, true, true, true, true, true, true, true, true, true, true] rfl rfl (one_of HT_.out (by kernel_rfl)) (by decide) (fun K hK => ?_)
          refine skip_ (w1 := ?_) (by rfl) rfl ?_ ?_
          rotate_left
          ·
           go_simp
           rfl
          refine hK.out _ _ ?_
          clear hK K
          refine done_ (done_of HT_.out (by kernel_rfl)) ?_
          have n0_ : Aside0 (Kd.V k29 29 (w52.setCell ⟨go45, oo45 + (t131 : Int).toNat, none⟩ (.int .i64 t137)) w.heap.size (fun k_ => (w.heap.size ≤ k_) ∧ some k_ ≠ (.slice (some ⟨go45, oo45, none⟩) t124.length co30 : Value).ownBlock ∧ some k_ ≠ (.slice Ao51 y134.length co51 : Value).ownBlock ∧ k_ ≠ gb101 ∧ k_ ≠ gb102 ∧ k_ ≠ gb127) (.slice (some ad121) t103.length co23) t103) := ⟨by (with_reducible repeat (first | apply Kd.V_alloc | apply Kd.V_drewN | apply Kd.V_drew)); exact Kd.V_mono (Kd.V_far (p := ⟨go45, oo45 + (t131 : Int).toNat, none⟩) (Kd.V_mono HO_5.out (fun k_ hk => (⟨hk, fun e_ => hk.2.2.1 (by rw [e_]; rfl)⟩ : _ ∧ k_ ≠ go45))) (fun _ hk => hk.2) (.int .i64 t137)) (fun _ hk => ⟨hk.1.1, ⟨hk.1.2.2.1, ⟨hk.1.2.1, ⟨hk.1.2.2.2.1, ⟨hk.1.2.2.2.2.1, hk.1.2.2.2.2.2⟩⟩⟩⟩⟩)⟩
          have n1_ : Aside0 (Kd.Q (Kd.int .i64) 3 (w52.setCell ⟨go45, oo45 + (t131 : Int).toNat, none⟩ (.int .i64 t137)) w.heap.size (fun k_ => (w.heap.size ≤ k_) ∧ some k_ ≠ (.slice Ao51 y134.length co51 : Value).ownBlock) (.slice (some ⟨go45, oo45, none⟩) t124.length co30) y140) := ⟨pQ HQ53.out⟩
          have n2_ : Aside0 (Kd.R (Kd.int .i64) 3 (w52.setCell ⟨go45, oo45 + (t131 : Int).toNat, none⟩ (.int .i64 t137)) w.heap.size (fun k_ => (w.heap.size ≤ k_) ∧ some k_ ≠ (.slice (some ⟨go45, oo45, none⟩) t124.length co30 : Value).ownBlock) (.slice Ao51 y134.length co51) y134) := ⟨by (with_reducible repeat (first | apply Kd.R_alloc | apply Kd.R_drewN | apply Kd.R_drew)); exact Kd.R_mono (Kd.R_far (p := ⟨go45, oo45 + (t131 : Int).toNat, none⟩) (Kd.R_mono HO136.out (fun k_ hk => (⟨hk, fun e_ => hk.2 (by rw [e_]; rfl)⟩ : _ ∧ k_ ≠ go45))) (fun _ hk => hk.2) (.int .i64 t137)) (fun _ hk => ⟨hk.1.1, hk.1.2⟩)⟩
          have n3_ : Aside0 ((w52.setCell ⟨go45, oo45 + (t131 : Int).toNat, none⟩ (.int .i64 t137)).heap[gb101]? = some (.cells #[.int .i64 0, .int .i64 0, .slice none 0 0] 29 (0, 0))) := ⟨by refine bk ?_; refine blk_far ?_ (by have h_ := Kd.Q_ne HO_128002.out BK101.out (by decide); intro e_; exact h_ (by rw [e_]; rfl)) _; refine bk ?_; exact BK101.out⟩
          have n4_ : Aside0 ((w52.setCell ⟨go45, oo45 + (t131 : Int).toNat, none⟩ (.int .i64 t137)).heap[gb127]? = some (.cells #[.int .i64 t122, .int .i64 t123, .slice (some ⟨go45, oo45, none⟩) t124.length co30] 29 (0, 0))) := ⟨by refine bk ?_; refine blk_far ?_ (by have h_ := Kd.Q_ne HO_128002.out BK127.out (by decide); intro e_; exact h_ (by rw [e_]; rfl)) _; refine bk ?_; exact BK127.out⟩
          have n5_ : Aside0 (IsS115 w (w52.setCell ⟨go45, oo45 + (t131 : Int).toNat, none⟩ (.int .i64 t137)) gb102 l0 t138 t139) := ⟨by repeat (first | (with_reducible first | exact HI102.out | apply IsS115.alloc | apply IsS115.drewN | apply IsS115.drew | apply IsS115.set_1 | apply IsS115.set_2 | refine IsS115.far ?_ HN102_go45.out _ | refine IsS115.far ?_ NB102_101.out _ | refine IsS115.far ?_ NB102_127.out _) | exact HI102.out)⟩
          have n6_ : Aside0 (Below w.heap.size w (w52.setCell ⟨go45, oo45 + (t131 : Int).toNat, none⟩ (.int .i64 t137))) := ⟨by repeat (first | (with_reducible first | exact HB.out | apply below_alloc | apply pw_below_drewN | apply below_drew1 | refine below_set ?_ GB45.out | refine below_set ?_ (IsS115.ge HI102.out) | refine below_set ?_ GE101.out | refine below_set ?_ GE127.out) | exact HB.out)⟩
          (try clear HO_5)
          (try clear HO_128002)
          (try clear HO136)
          (try clear BK101)
          (try clear BK127)
          (try clear HI102)
          (try clear HB)
          generalize (w52.setCell ⟨go45, oo45 + (t131 : Int).toNat, none⟩ (.int .i64 t137)) = w54 at n0_ n1_ n2_ n3_ n4_ n5_ n6_ ⊢
          have HO_5 := n0_
          have HO_128002 := n1_
          have HO136 := n2_
          have BK101 := n3_
          have BK127 := n4_
          have HI102 := n5_
          have HB := n6_
          clear n0_ n1_ n2_ n3_ n4_ n5_ n6_
          try go_wp2
          have n0_ := aK (Kd.V_drew HO_5.out)
          have n1_ := aK (Kd.Q_drew HO_128002.out)
          have n2_ := aK (Kd.R_drew HO136.out)
          have n3_ := aK (blk_drew BK101.out)
          have n4_ := aK (blk_drew BK127.out)
          have n5_ := aK (IsS115.drew HI102.out)
          have n6_ := aK (below_drew1 HB.out)
          clear HO_5 HO_128002 HO136 BK101 BK127 HI102 HB
          have HO_5 := n0_
          have HO_128002 := n1_
          have HO136 := n2_
          have BK101 := n3_
          have BK127 := n4_
          have HI102 := n5_
          have HB := n6_
          clear n0_ n1_ n2_ n3_ n4_ n5_ n6_
          refine start_ (n := 4) (S := fun w' => w'.cell? ⟨gb127, 0, none⟩ = some (.int .i64 t122) ∧ w'.cell? ⟨gb127, 1, none⟩ = some (.int .i64 t123) ∧ w'.cell? ⟨gb127, 2, none⟩ = some (.slice (some ⟨go45, oo45, none⟩) t124.length co30)) (ds := []) #[false, false, false, false] (by kernel_rfl) rfl rfl (cz3 BK127.out) (fun hHeld => ?_)
          generalize w54.drew = w55 at HO_5 HO_128002 HO136 BK101 BK127 HI102 HB hHeld ⊢
          refine pure_ (i := 0) (N := some 49) (v := ?_) (a' := ?_) #[true, false, false, false] rfl rfl (by kernel_rfl) (fun _ _ _ h => h) (Or.inl ⟨by rfl, ?_⟩) ?_ ?_
          rotate_left
          ·
           intro w'
           go_simp
           with_reducible rfl
          rotate_left
          ·
           simp only [sP]
           rfl
          refine pure_ (i := 2) (N := some 2) (v := ?_) (a' := ?_) #[true, false, true, false] rfl rfl (by kernel_rfl) (fun _ _ _ h => h) (Or.inl ⟨by rfl, ?_⟩) ?_ ?_
          rotate_left
          ·
           intro w'
           go_simp
           with_reducible rfl
          rotate_left
          ·
           simp only [sP]
           rfl
          refine take_ (i := 1) (N := some 50) (v := ?_) (a' := ?_) #[true, true, true, false] rfl rfl (by kernel_rfl) (fun _ _ _ h => h) (Or.inl ⟨by rfl, ?_⟩) hHeld ?_ ?_
          rotate_left
          ·
           rintro w' ⟨s0, s1, s2⟩
           go_simp
           with_reducible rfl
          rotate_left
          ·
           simp only [sP]
           rfl
          refine one_ (i := 3) (N := none) #[true, true, true, true] rfl rfl (by kernel_rfl) (by decide) (fun K hK => ?_)
          have hs56 : w55.cell? ⟨gb101, 0, none⟩ = some (.int .i64 0) := (blk_cell BK101.out 0).trans rfl
          have hfs56 := blk_frozen BK101.out 0
          have hns56_1 := NB127_101.out
          have hms56_1 := NB101_127.out
          have hs57 : w55.cell? ⟨gb101, 1, none⟩ = some (.int .i64 0) := (blk_cell BK101.out 1).trans rfl
          have hfs57 := blk_frozen BK101.out 1
          have hns57_1 := NB127_101.out
          have hms57_1 := NB101_127.out
          have hs58 : w55.cell? ⟨gb101, 2, none⟩ = some (.slice none 0 0) := (blk_cell BK101.out 2).trans rfl
          have hfs58 := blk_frozen BK101.out 2
          have hns58_1 := NB127_101.out
          have hms58_1 := NB101_127.out
          refine skip_ (w1 := ?_) (by rfl) rfl ?_ ?_
          rotate_left
          ·
           go_simp
           rfl
          refine hK.out _ _ ⟨((cell_far (p := ⟨gb101, _, none⟩) NB127_101.out _).trans (((cell_far (p := ⟨gb101, _, none⟩) NB127_101.out _).trans (((cell_far (p := ⟨gb101, _, none⟩) NB127_101.out _).trans (hHeld.1)))))), ((cell_far (p := ⟨gb101, _, none⟩) NB127_101.out _).trans (((cell_far (p := ⟨gb101, _, none⟩) NB127_101.out _).trans (((cell_far (p := ⟨gb101, _, none⟩) NB127_101.out _).trans (hHeld.2.1)))))), ((cell_far (p := ⟨gb101, _, none⟩) NB127_101.out _).trans (((cell_far (p := ⟨gb101, _, none⟩) NB127_101.out _).trans (((cell_far (p := ⟨gb101, _, none⟩) NB127_101.out _).trans (hHeld.2.2))))))⟩ (fun hHeld => ?_)
          clear hK K
          refine done_ (by kernel_rfl) ?_
          try go_wp2
          refine bodyPost_ret (results_tc rfl _ _ gb101 29 #[.int .i64 t122, .int .i64 t123, .slice (some ⟨go45, oo45, none⟩) t124.length co30] (0, 0) _ rfl (by refine bk ?_; refine blk_put (cs := #[.int .i64 t122, .int .i64 t123, .slice none 0 0]) ?_ 2 _ rfl; refine bk ?_; refine blk_put (cs := #[.int .i64 t122, .int .i64 0, .slice none 0 0]) ?_ 1 _ rfl; refine bk ?_; refine blk_put (cs := #[.int .i64 0, .int .i64 0, .slice none 0 0]) ?_ 0 _ rfl; refine bk ?_; exact BK101.out) Try.underlying29 rfl (by kernel_rfl)) rfl ?_
          exact ⟨_, _, er, by (with_reducible repeat (first | apply Kd.V_alloc | apply Kd.V_drewN | apply Kd.V_drew)); exact Kd.V_mono (Kd.V_far (p := ⟨gb101, 2, none⟩) (Kd.V_far (p := ⟨gb101, 1, none⟩) (Kd.V_far (p := ⟨gb101, 0, none⟩) (Kd.V_mono HO_5.out (fun k_ hk => (⟨hk, hk.2.2.2.1⟩ : _ ∧ k_ ≠ gb101))) (fun _ hk => hk.2) (.int .i64 t122)) (fun _ hk => hk.2) (.int .i64 t123)) (fun _ hk => hk.2) (.slice (some ⟨go45, oo45, none⟩) t124.length co30)) (fun _ hk => ⟨hk.1.1, hk.1.2.1⟩), by (with_reducible repeat (first | apply Kd.Q_alloc | apply Kd.Q_drewN | apply Kd.Q_drew)); exact Kd.Q_mono (qF3 HO_128002.out BK101.out (.int .i64 t122) (.int .i64 t123) (.slice (some ⟨go45, oo45, none⟩) t124.length co30)) (fun _ h => h.1), (pV HB.out (IsS115.ge HI102.out))⟩
         rw [if_neg c44] at H
         exact absurd H (by simp)
        rw [if_neg c43] at H
        exact absurd H (by simp)
       replace c40 := Bool.eq_false_iff.mpr c40
       subst c40
       have H1 : (some (t103, t122, t123, t124)) = some (r1, r2, r3, r4) := by rw [if_neg (show ¬ (false = true) by decide)] at H; exact H
       clear H
       have H := H1
       clear H1
       simp only [Option.some.injEq, Prod.mk.injEq] at H
       obtain ⟨rfl, rfl, rfl, rfl⟩ := H
       try go_wp2
       have n0_ := aK (Kd.V_drew HO_5.out)
       have n1_ := aK (Kd.Q_drew HO_128002.out)
       have n2_ := aK (blk_drew BK101.out)
       have n3_ := aK (blk_drew BK127.out)
       have n4_ := aK (IsS115.drew HI102.out)
       have n5_ := aK (below_drew1 HB.out)
       clear HO_5 HO_128002 BK101 BK127 HI102 HB
       have HO_5 := n0_
       have HO_128002 := n1_
       have BK101 := n2_
       have BK127 := n3_
       have HI102 := n4_
       have HB := n5_
       clear n0_ n1_ n2_ n3_ n4_ n5_
       refine start_ (n := 4) (S := fun w' => w'.cell? ⟨gb127, 0, none⟩ = some (.int .i64 t122) ∧ w'.cell? ⟨gb127, 1, none⟩ = some (.int .i64 t123) ∧ w'.cell? ⟨gb127, 2, none⟩ = some (.slice Ao30 t124.length co30)) (ds := []) #[false, false, false, false] (by kernel_rfl) rfl rfl (cz3 BK127.out) (fun hHeld => ?_)
       generalize wc.drew = w59 at HO_5 HO_128002 BK101 BK127 HI102 HB hHeld ⊢
       refine pure_ (i := 0) (N := some 49) (v := ?_) (a' := ?_) #[true, false, false, false] rfl rfl (by kernel_rfl) (fun _ _ _ h => h) (Or.inl ⟨by rfl, ?_⟩) ?_ ?_
       rotate_left
       ·
        intro w'
        go_simp
        with_reducible rfl
       rotate_left
       ·
        simp only [sP]
        rfl
       refine pure_ (i := 2) (N := some 2) (v := ?_) (a' := ?_) #[true, false, true, false] rfl rfl (by kernel_rfl) (fun _ _ _ h => h) (Or.inl ⟨by rfl, ?_⟩) ?_ ?_
       rotate_left
       ·
        intro w'
        go_simp
        with_reducible rfl
       rotate_left
       ·
        simp only [sP]
        rfl
       refine take_ (i := 1) (N := some 50) (v := ?_) (a' := ?_) #[true, true, true, false] rfl rfl (by kernel_rfl) (fun _ _ _ h => h) (Or.inl ⟨by rfl, ?_⟩) hHeld ?_ ?_
       rotate_left
       ·
        rintro w' ⟨s0, s1, s2⟩
        go_simp
        with_reducible rfl
       rotate_left
       ·
        simp only [sP]
        rfl
       refine one_ (i := 3) (N := none) #[true, true, true, true] rfl rfl (by kernel_rfl) (by decide) (fun K hK => ?_)
       have hs60 : w59.cell? ⟨gb101, 0, none⟩ = some (.int .i64 0) := (blk_cell BK101.out 0).trans rfl
       have hfs60 := blk_frozen BK101.out 0
       have hns60_1 := NB127_101.out
       have hms60_1 := NB101_127.out
       have hs61 : w59.cell? ⟨gb101, 1, none⟩ = some (.int .i64 0) := (blk_cell BK101.out 1).trans rfl
       have hfs61 := blk_frozen BK101.out 1
       have hns61_1 := NB127_101.out
       have hms61_1 := NB101_127.out
       have hs62 : w59.cell? ⟨gb101, 2, none⟩ = some (.slice none 0 0) := (blk_cell BK101.out 2).trans rfl
       have hfs62 := blk_frozen BK101.out 2
       have hns62_1 := NB127_101.out
       have hms62_1 := NB101_127.out
       refine skip_ (w1 := ?_) (by rfl) rfl ?_ ?_
       rotate_left
       ·
        go_simp
        rfl
       refine hK.out _ _ ⟨((cell_far (p := ⟨gb101, _, none⟩) NB127_101.out _).trans (((cell_far (p := ⟨gb101, _, none⟩) NB127_101.out _).trans (((cell_far (p := ⟨gb101, _, none⟩) NB127_101.out _).trans (hHeld.1)))))), ((cell_far (p := ⟨gb101, _, none⟩) NB127_101.out _).trans (((cell_far (p := ⟨gb101, _, none⟩) NB127_101.out _).trans (((cell_far (p := ⟨gb101, _, none⟩) NB127_101.out _).trans (hHeld.2.1)))))), ((cell_far (p := ⟨gb101, _, none⟩) NB127_101.out _).trans (((cell_far (p := ⟨gb101, _, none⟩) NB127_101.out _).trans (((cell_far (p := ⟨gb101, _, none⟩) NB127_101.out _).trans (hHeld.2.2))))))⟩ (fun hHeld => ?_)
       clear hK K
       refine done_ (by kernel_rfl) ?_
       try go_wp2
       refine bodyPost_ret (results_tc rfl _ _ gb101 29 #[.int .i64 t122, .int .i64 t123, .slice Ao30 t124.length co30] (0, 0) _ rfl (by refine bk ?_; refine blk_put (cs := #[.int .i64 t122, .int .i64 t123, .slice none 0 0]) ?_ 2 _ rfl; refine bk ?_; refine blk_put (cs := #[.int .i64 t122, .int .i64 0, .slice none 0 0]) ?_ 1 _ rfl; refine bk ?_; refine blk_put (cs := #[.int .i64 0, .int .i64 0, .slice none 0 0]) ?_ 0 _ rfl; refine bk ?_; exact BK101.out) Try.underlying29 rfl (by kernel_rfl)) rfl ?_
       exact ⟨_, _, er, by (with_reducible repeat (first | apply Kd.V_alloc | apply Kd.V_drewN | apply Kd.V_drew)); exact Kd.V_mono (Kd.V_far (p := ⟨gb101, 2, none⟩) (Kd.V_far (p := ⟨gb101, 1, none⟩) (Kd.V_far (p := ⟨gb101, 0, none⟩) (Kd.V_mono HO_5.out (fun k_ hk => (⟨hk, hk.2.2.1⟩ : _ ∧ k_ ≠ gb101))) (fun _ hk => hk.2) (.int .i64 t122)) (fun _ hk => hk.2) (.int .i64 t123)) (fun _ hk => hk.2) (.slice Ao30 t124.length co30)) (fun _ hk => ⟨hk.1.1, hk.1.2.1⟩), by (with_reducible repeat (first | apply Kd.Q_alloc | apply Kd.Q_drewN | apply Kd.Q_drew)); exact qF3 HO_128002.out BK101.out (.int .i64 t122) (.int .i64 t123) (.slice Ao30 t124.length co30), (pV HB.out (IsS115.ge HI102.out))⟩
    rw [if_neg c20] at H
    exact absurd H (by simp)
   rw [if_neg c19] at H
   exact absurd H (by simp)
def impl_absOf.f (a0 : Int) : Option (Int) := if a0 < 0 then (some (wrap64 (-a0))) else (some a0)
theorem impl_absOf.calls (a0 : Int) (r : Int) (w : World) (h : impl_absOf.f a0 = some r) :
  Calls Try.prog 96 #[.int .i64 a0] w fun e w' => e = .returned (.int .i64 r) ∧ Drawn0 w w' := by
 have H : (if a0 < 0 then (some (wrap64 (-a0))) else (some a0)) = some r := h
 clear h
 by_cases c2 : a0 < 0
 ·
  rw [if_pos c2] at H
  have c2b0 : decide (a0 < 0) = true := decide_eq_true c2
  clear c2
  obtain rfl := Option.some.inj H
  go_enter Try.func96, Try.ntmps96
  go_wp2
  go_ret
  exact ⟨by first | rfl | (simp; done) | (simp [*]; done), by repeat (first | exact Drawn0.refl _ | apply Drawn0.step)⟩
 rw [if_neg c2] at H
 have c2b0 : decide (a0 < 0) = false := decide_eq_false c2
 clear c2
 obtain rfl := Option.some.inj H
 go_enter Try.func96, Try.ntmps96
 go_wp2
 go_ret
 exact ⟨by first | rfl | (simp; done) | (simp [*]; done), by repeat (first | exact Drawn0.refl _ | apply Drawn0.step)⟩
def impl_differences.l0 : Nat → Int → Int → List Int → Int → Int → Int → Int → List Int → Option (Int × Int)
 | 0, _, _, _, _, _, _, _, _ => none
 | k + 1, x6, x7, x12, x13, x14, x103000, x103001, x103002 => if x14 < x13 then (if 0 ≤ x14 then (if x14 < (x12.length : Int) then (if x14 < (x103002.length : Int) then (if (rd x12 x14) = (-9999) then (impl_differences.l0 k x6 x7 x12 x13 (wrap64 (x14 + 1)) x103000 x103001 x103002) else (if (rd x103002 x14) = (-9999) then (impl_differences.l0 k x6 x7 x12 x13 (wrap64 (x14 + 1)) x103000 x103001 x103002) else ((impl_absOf.f (wrap64 ((rd x12 x14) - (rd x103002 x14)))).bind fun t105 => (impl_differences.l0 k (wrap64 (x6 + t105)) (wrap64 (x7 + 1)) x12 x13 (wrap64 (x14 + 1)) x103000 x103001 x103002)))) else (none)) else (none)) else (none)) else (some (x6, x7))
def impl_differences.f (k : Nat) (a0_0 : Int) (a0_1 : Int) (l0_2 : List Int) (a1_0 : Int) (a1_1 : Int) (l1_2 : List Int) : Option (Int × Int) := impl_differences.l0 k 0 0 l0_2 (l0_2.length : Int) 0 a1_0 a1_1 l1_2
theorem impl_differences.calls (k : Nat) (a0_0 : Int) (a0_1 : Int) (A0_2 : Option Addr) (c0_2 : Nat) (l0_2 : List Int) (a1_0 : Int) (a1_1 : Int) (A1_2 : Option Addr) (c1_2 : Nat) (l1_2 : List Int) (r1 : Int) (r2 : Int) (w : World) (hr0_2 : Kd.C (Kd.int .i64) w A0_2 l0_2.length l0_2) (hc0_2 : l0_2.length ≤ c0_2) (hr1_2 : Kd.C (Kd.int .i64) w A1_2 l1_2.length l1_2) (hc1_2 : l1_2.length ≤ c1_2) (h : impl_differences.f k a0_0 a0_1 l0_2 a1_0 a1_1 l1_2 = some (r1, r2)) :
  Calls Try.prog 113 #[.agg #[.int .i64 a0_0, .int .i64 a0_1, .slice A0_2 l0_2.length c0_2], .agg #[.int .i64 a1_0, .int .i64 a1_1, .slice A1_2 l1_2.length c1_2]] w fun e w' => e = .returned (.tuple #[.int .i64 r1, .int .i64 r2]) ∧ Below w.heap.size w w' := by
 have hu29 := Try.underlying29
 have HR0_2 := Aside0.mk hr0_2
 have HC0_2 := Aside0.mk hc0_2
 clear hr0_2 hc0_2
 have HR1_2 := Aside0.mk hr1_2
 have HC1_2 := Aside0.mk hc1_2
 clear hr1_2 hc1_2
 have HB := aK (Below.refl w.heap.size w)
 have H : (impl_differences.l0 k 0 0 l0_2 (l0_2.length : Int) 0 a1_0 a1_1 l1_2) = some (r1, r2) := h
 clear h
 have H' := Aside0.mk H
 clear H
 go_enter Try.func113, Try.ntmps113
 go_wp2_with (first | ((with_reducible refine gate_dst (N := 2) rfl ?_); refine bxe (cs := #[.int .i64 a0_0, .int .i64 a0_1, .slice A0_2 l0_2.length c0_2]) (t := 29) ?_; intro gb101 hg w3 hbox hb; have BK101 := aK (hbox); have GW101 := aK (gE hg (pS HB.out)); have GE101 := GW101; replace HB := bS HB hb; clear hb hbox hg) | ((with_reducible refine gate_dst (N := 3) rfl ?_); refine bxe (cs := #[.int .i64 a1_0, .int .i64 a1_1, .slice A1_2 l1_2.length c1_2]) (t := 29) ?_; intro gb102 hg w4 hbox hb; have BK102 := aK (hbox); have GW102 := aK (gE hg (pS HB.out)); have GE102 := GW102; obtain ⟨NB101_102, NB102_101⟩ := nb hg (pB BK101.out); replace BK101 := bB BK101 hb; replace HB := bS HB hb; clear hb hbox hg; have hnb5 := NB101_102.out; have hnc5 := NB102_101.out; obtain ⟨hcz6_0, hcz6_1, hcz6_2, hfz6_0, hfz6_1, hfz6_2⟩ := bc3 BK101.out))
 go_loopg [6, 7, 14] k (fun kq v6 v7 v14 w' => ∃ (x6_1 : Int) (x7_1 : Int) (x14_1 : Int), v6 = .int .i64 x6_1 ∧ v7 = .int .i64 x7_1 ∧ v14 = .int .i64 x14_1 ∧ Aside0 (impl_differences.l0 kq x6_1 x7_1 l0_2 (l0_2.length : Int) x14_1 a1_0 a1_1 l1_2 = some (r1, r2)) ∧ Aside0 (kq ≤ k) ∧ Aside0 (w'.heap[gb101]? = some (.cells #[.int .i64 a0_0, .int .i64 a0_1, (.slice A0_2 l0_2.length c0_2)] 29 (0, 0))) ∧ Aside0 (w'.heap[gb102]? = some (.cells #[.int .i64 a1_0, .int .i64 a1_1, (.slice A1_2 l1_2.length c1_2)] 29 (0, 0))) ∧ Aside0 (Below w.heap.size w w'))
 case atStart => exact ⟨(0), (0), (0), (by first | rfl | (simp; done) | (simp [*]; done)), (by first | rfl | (simp; done) | (simp [*]; done)), (by first | rfl | (simp; done) | (simp [*]; done)), H', ⟨Nat.le_refl _⟩, ⟨by refine bk ?_; exact BK101.out⟩, ⟨by refine bk ?_; exact BK102.out⟩, ⟨pT HB.out⟩⟩
 case round =>
  clear H'
  try clear c1
  try clear p2
  try clear c5
  try clear hcz6_0
  try clear hcz6_1
  try clear hcz6_2
  try clear hfz6_0
  try clear hfz6_1
  try clear hfz6_2
  obtain ⟨x6_1, x7_1, x14_1, rfl, rfl, rfl, HA, HK1, BK101, BK102, HB⟩ := hrel
  cases gk with
  | zero => exact absurd HA.out (by simp [impl_differences.l0])
  | succ k1 =>
   have H := HA.out
   clear HA
   simp only [impl_differences.l0] at H
   by_cases c7 : x14_1 < (l0_2.length : Int)
   ·
    rw [if_pos c7] at H
    have c7b0 : decide (x14_1 < (l0_2.length : Int)) = true := decide_eq_true c7
    clear c7
    by_cases c8 : 0 ≤ x14_1
    ·
     rw [if_pos c8] at H
     have c8b0 : decide (0 ≤ x14_1) = true := decide_eq_true c8
     clear c8
     by_cases c9 : x14_1 < (l0_2.length : Int)
     ·
      rw [if_pos c9] at H
      have c9b0 : decide (x14_1 < (l0_2.length : Int)) = true := decide_eq_true c9
      clear c9
      by_cases c10 : x14_1 < (l1_2.length : Int)
      ·
       rw [if_pos c10] at H
       have c10b0 : decide (x14_1 < (l1_2.length : Int)) = true := decide_eq_true c10
       clear c10
       by_cases c11 : (rd l0_2 x14_1) = (-9999)
       ·
        rw [if_pos c11] at H
        have c11b0 : ((rd l0_2 x14_1) == (-9999)) = true := beq_iff_eq.mpr c11
        have c11b1 : ((rd l0_2 x14_1) != (-9999)) = false := bne_eq_false_iff_eq.mpr c11
        clear c11
        have H' := Aside0.mk H
        clear H
        have p103 : 0 ≤ (x14_1 : Int) := of_decide_eq_true (by first | (with_reducible assumption) | assumption)
        have q103 : x14_1 < (l0_2.length : Int) := of_decide_eq_true (by first | (with_reducible assumption) | assumption)
        obtain ⟨ad103, e103, hx103_0⟩ := Kd.at_int HR0_2.out x14_1 p103 q103
        cases e103
        replace hx103_0 := (HB.out.cell (World.block_lt_of_cell? w _ hx103_0)).trans hx103_0
        replace p103 := eq_true p103
        replace q103 := eq_true q103
        have hnb12 := NB102_101.out
        have hnc12 := NB101_102.out
        obtain ⟨hcz13_0, hcz13_1, hcz13_2, hfz13_0, hfz13_1, hfz13_2⟩ := bc3 BK102.out
        have p104 : 0 ≤ (x14_1 : Int) := of_decide_eq_true (by first | (with_reducible assumption) | assumption)
        have q104 : x14_1 < (l1_2.length : Int) := of_decide_eq_true (by first | (with_reducible assumption) | assumption)
        obtain ⟨ad104, e104, hx104_0⟩ := Kd.at_int HR1_2.out x14_1 p104 q104
        cases e104
        replace hx104_0 := (HB.out.cell (World.block_lt_of_cell? w _ hx104_0)).trans hx104_0
        replace p104 := eq_true p104
        replace q104 := eq_true q104
        go_wp2
        go_roundg k1
        case measure => have := HK1.out; omega
        case rel => exact ⟨(x6_1), (x7_1), (wrap64 (x14_1 + 1)), (by first | rfl | (simp; done) | (simp [*]; done)), (by first | rfl | (simp; done) | (simp [*]; done)), (by first | rfl | (simp; done) | (simp [*]; done)), H', ⟨by have := HK1.out; omega⟩, ⟨by refine bk ?_; exact BK101.out⟩, ⟨by refine bk ?_; exact BK102.out⟩, ⟨pT HB.out⟩⟩
       rw [if_neg c11] at H
       have c11b0 : ((rd l0_2 x14_1) == (-9999)) = false := beq_eq_false_iff_ne.mpr c11
       have c11b1 : ((rd l0_2 x14_1) != (-9999)) = true := bne_iff_ne.mpr c11
       by_cases c14 : (rd l1_2 x14_1) = (-9999)
       ·
        rw [if_pos c14] at H
        have c14b0 : ((rd l1_2 x14_1) == (-9999)) = true := beq_iff_eq.mpr c14
        have c14b1 : ((rd l1_2 x14_1) != (-9999)) = false := bne_eq_false_iff_eq.mpr c14
        clear c14
        have H' := Aside0.mk H
        clear H
        have p103 : 0 ≤ (x14_1 : Int) := of_decide_eq_true (by first | (with_reducible assumption) | assumption)
        have q103 : x14_1 < (l0_2.length : Int) := of_decide_eq_true (by first | (with_reducible assumption) | assumption)
        obtain ⟨ad103, e103, hx103_0⟩ := Kd.at_int HR0_2.out x14_1 p103 q103
        cases e103
        replace hx103_0 := (HB.out.cell (World.block_lt_of_cell? w _ hx103_0)).trans hx103_0
        replace p103 := eq_true p103
        replace q103 := eq_true q103
        have hnb15 := NB102_101.out
        have hnc15 := NB101_102.out
        obtain ⟨hcz16_0, hcz16_1, hcz16_2, hfz16_0, hfz16_1, hfz16_2⟩ := bc3 BK102.out
        have p104 : 0 ≤ (x14_1 : Int) := of_decide_eq_true (by first | (with_reducible assumption) | assumption)
        have q104 : x14_1 < (l1_2.length : Int) := of_decide_eq_true (by first | (with_reducible assumption) | assumption)
        obtain ⟨ad104, e104, hx104_0⟩ := Kd.at_int HR1_2.out x14_1 p104 q104
        cases e104
        replace hx104_0 := (HB.out.cell (World.block_lt_of_cell? w _ hx104_0)).trans hx104_0
        replace p104 := eq_true p104
        replace q104 := eq_true q104
        go_wp2
        go_roundg k1
        case measure => have := HK1.out; omega
        case rel => exact ⟨(x6_1), (x7_1), (wrap64 (x14_1 + 1)), (by first | rfl | (simp; done) | (simp [*]; done)), (by first | rfl | (simp; done) | (simp [*]; done)), (by first | rfl | (simp; done) | (simp [*]; done)), H', ⟨by have := HK1.out; omega⟩, ⟨by refine bk ?_; exact BK101.out⟩, ⟨by refine bk ?_; exact BK102.out⟩, ⟨pT HB.out⟩⟩
       rw [if_neg c14] at H
       have c14b0 : ((rd l1_2 x14_1) == (-9999)) = false := beq_eq_false_iff_ne.mpr c14
       have c14b1 : ((rd l1_2 x14_1) != (-9999)) = true := bne_iff_ne.mpr c14
       replace H := Option.bind_eq_some_iff.mp H
       obtain ⟨t105, A170, H⟩ := H
       replace H : (impl_differences.l0 k1 (wrap64 (x6_1 + t105)) (wrap64 (x7_1 + 1)) l0_2 (l0_2.length : Int) (wrap64 (x14_1 + 1)) a1_0 a1_1 l1_2) = some (r1, r2) := H
       have A17 := Aside0.mk A170
       clear A170
       have H' := Aside0.mk H
       clear H
       have p103 : 0 ≤ (x14_1 : Int) := of_decide_eq_true (by first | (with_reducible assumption) | assumption)
       have q103 : x14_1 < (l0_2.length : Int) := of_decide_eq_true (by first | (with_reducible assumption) | assumption)
       obtain ⟨ad103, e103, hx103_0⟩ := Kd.at_int HR0_2.out x14_1 p103 q103
       cases e103
       replace hx103_0 := (HB.out.cell (World.block_lt_of_cell? w _ hx103_0)).trans hx103_0
       replace p103 := eq_true p103
       replace q103 := eq_true q103
       have hnb18 := NB102_101.out
       have hnc18 := NB101_102.out
       obtain ⟨hcz19_0, hcz19_1, hcz19_2, hfz19_0, hfz19_1, hfz19_2⟩ := bc3 BK102.out
       have p104 : 0 ≤ (x14_1 : Int) := of_decide_eq_true (by first | (with_reducible assumption) | assumption)
       have q104 : x14_1 < (l1_2.length : Int) := of_decide_eq_true (by first | (with_reducible assumption) | assumption)
       obtain ⟨ad104, e104, hx104_0⟩ := Kd.at_int HR1_2.out x14_1 p104 q104
       cases e104
       replace hx104_0 := (HB.out.cell (World.block_lt_of_cell? w _ hx104_0)).trans hx104_0
       replace p104 := eq_true p104
       replace q104 := eq_true q104
       go_wp2_with (first | ((with_reducible refine gate_callee (f := 96) rfl ?_); refine gl (some 34) Try.func96 #[.int .i64 (wrap64 ((rd l0_2 x14_1) - (rd l1_2 x14_1)))] ?_; (with_reducible refine (impl_absOf.calls (wrap64 ((rd l0_2 x14_1) - (rd l1_2 x14_1))) t105 _ A17.out).mono ?_); rintro e w' ⟨rfl, ⟨nd, rfl⟩⟩; refine ⟨_, rfl, ?_⟩))
       go_roundg k1
       case measure => have := HK1.out; omega
       case rel => exact ⟨(wrap64 (x6_1 + t105)), (wrap64 (x7_1 + 1)), (wrap64 (x14_1 + 1)), (by first | rfl | (simp; done) | (simp [*]; done)), (by first | rfl | (simp; done) | (simp [*]; done)), (by first | rfl | (simp; done) | (simp [*]; done)), H', ⟨by have := HK1.out; omega⟩, ⟨by refine bk ?_; exact BK101.out⟩, ⟨by refine bk ?_; exact BK102.out⟩, ⟨pT HB.out⟩⟩
      rw [if_neg c10] at H
      exact absurd H (by simp)
     rw [if_neg c9] at H
     exact absurd H (by simp)
    rw [if_neg c8] at H
    exact absurd H (by simp)
   rw [if_neg c7] at H
   have c7b0 : decide (x14_1 < (l0_2.length : Int)) = false := decide_eq_false c7
   clear c7
   simp only [Option.some.injEq, Prod.mk.injEq] at H
   obtain ⟨rfl, rfl⟩ := H
   go_wp2
   go_ret2
   exact ⟨er, pT HB.out⟩
def impl_within.f (a0 : Int) (a1 : Int) (a2 : Int) : Option (Bool) := if a0 ≥ a1 then (some (decide (a0 ≤ a2))) else (some false)
theorem impl_within.calls (a0 : Int) (a1 : Int) (a2 : Int) (r : Bool) (w : World) (h : impl_within.f a0 a1 a2 = some r) :
  Calls Try.prog 105 #[.int .i64 a0, .int .i64 a1, .int .i64 a2] w fun e w' => e = .returned (.bool r) ∧ Drawn0 w w' := by
 have H : (if a0 ≥ a1 then (some (decide (a0 ≤ a2))) else (some false)) = some r := h
 clear h
 by_cases c4 : a0 ≥ a1
 ·
  rw [if_pos c4] at H
  have c4b0 : decide (a1 ≤ a0) = true := decide_eq_true c4
  clear c4
  obtain rfl := Option.some.inj H
  go_enter Try.func105, Try.ntmps105
  go_wp2
  go_ret
  exact ⟨by first | rfl | (simp; done) | (simp [*]; done), by repeat (first | exact Drawn0.refl _ | apply Drawn0.step)⟩
 rw [if_neg c4] at H
 have c4b0 : decide (a1 ≤ a0) = false := decide_eq_false c4
 clear c4
 obtain rfl := Option.some.inj H
 go_enter Try.func105, Try.ntmps105
 go_wp2
 go_ret
 exact ⟨by first | rfl | (simp; done) | (simp [*]; done), by repeat (first | exact Drawn0.refl _ | apply Drawn0.step)⟩
end Go.Proofs.Ytilffhaghabdgaa.P
namespace Go.Proofs.Ytilffhaghabdgaa.P
open Go.RowKit Go.Proofs.YtilffhaghabdgaaW.PrintWords Go.Proofs.YtilffhaghabdgaaW.PrintLast Go.Proofs.YtilffhaghabdgaaW.PrintMore
attribute [local go_sem] max2_int min2_int max_two min_two max_three min_three max_four min_four
set_option linter.unusedVariables false
set_option linter.unusedSimpArgs false
def PredOK {α : Type} (g : Nat) (lb : Array Value) (enc : α → Value) (p : α → Bool) (w : World) : Prop :=
  ∀ (x : α) (W : World), Below w.heap.size w W → Calls Try.prog g (#[enc x] ++ lb) W fun e W' => e = .returned (.bool (p x)) ∧ Below W.heap.size W W'
def idxFrom {α : Type} (p : α → Bool) : Nat → List α → Int
  | _, [] => -1
  | i, x :: xs => if p x = true then (i : Int) else idxFrom p (i + 1) xs
theorem idxFrom_hit {α : Type} (p : α → Bool) (z : α) : ∀ (xs : List α) (i k : Nat), k < xs.length → p (xs.getD k z) = true → (∀ j, j < k → p (xs.getD j z) = false) → idxFrom p i xs = ((i + k : Nat) : Int)
  | [], _, k, h, _, _ => by simp at h
  | x :: xs, i, 0, _, h, _ => by simp only [List.getD_cons_zero] at h; simp [idxFrom, h]
  | x :: xs, i, k + 1, hk, h, hb => by
    have h0 : p x = false := by simpa using hb 0 (by omega)
    simp only [idxFrom, h0, Bool.false_eq_true, if_false]
    rw [idxFrom_hit p z xs (i + 1) k (by simpa using hk) (by simpa using h) (fun j hj => by simpa using hb (j + 1) (by omega))]
    congr 1
    omega
theorem idxFrom_miss {α : Type} (p : α → Bool) (z : α) : ∀ (xs : List α) (i : Nat), (∀ j, j < xs.length → p (xs.getD j z) = false) → idxFrom p i xs = -1
  | [], _, _ => rfl
  | x :: xs, i, hb => by
    have h0 : p x = false := by simpa using hb 0 (by simp)
    simp only [idxFrom, h0, Bool.false_eq_true, if_false]
    exact idxFrom_miss p z xs (i + 1) (fun j hj => by simpa using hb (j + 1) (by simpa using hj))
theorem idxFrom_any {α : Type} (p : α → Bool) : ∀ (xs : List α) (i : Nat), decide (idxFrom p i xs ≥ 0) = xs.any p
  | [], _ => rfl
  | x :: xs, i => by
    simp only [idxFrom, List.any_cons]
    by_cases h : p x = true
    · simp [h]
    · rw [Bool.not_eq_true] at h
      simp only [h, Bool.false_eq_true, if_false, Bool.false_or]
      exact idxFrom_any p xs (i + 1)
set_option maxHeartbeats 2000000 in
set_option maxRecDepth 100000 in
theorem indexFunc_int (g : Nat) (lb : Array Value) (p : Int → Bool) (eg : ∀ args w, (callFunc g args).run Try.prog w = .ok (.enter g args) w) (A : Option Addr) (c : Nat) (xs : List Int) (w : World)
    (hr : Kd.C (Kd.int .i64) w A xs.length xs) (hp : PredOK g lb (Value.int .i64) p w) :
    Calls Try.prog 193 #[.slice A xs.length c, .func (.func g) #[] lb] w fun e w' => e = .returned (.int .i64 (idxFrom p 0 xs)) ∧ Below w.heap.size w w' := by
 have hn : xs.length ≤ 9223372036854775807 := hr.2.1
 have HR := Aside0.mk hr
 clear hr
 go_enter Try.func193, Try.ntmps193
 go_wp2
 go_loopg [5, 8] xs.length (fun gg _ s8 wr => ∃ x : Int, s8 = .int .i64 x ∧ Aside0 (0 ≤ x ∧ x ≤ (xs.length : Int) ∧ (xs.length : Int) - x ≤ (gg : Int) ∧ ∀ j : Nat, (j : Int) < x → p (xs.getD j 0) = false) ∧ Below w.heap.size w wr)
 case atStart => exact ⟨0, rfl, ⟨by omega, by omega, by omega, fun j hj => by omega⟩, Below.refl _ _⟩
 case round =>
  obtain ⟨x, rfl, AA, hb⟩ := hrel
  have HB := Aside0.mk hb
  clear hb
  by_cases hlt : x < (xs.length : Int)
  ·
   have c4b0 : decide (x < (xs.length : Int)) = true := decide_eq_true hlt
   obtain ⟨ad, e0, hcell⟩ := Kd.at_int (Kd.C_below HR.out HB.out) x AA.out.1 hlt
   cases e0
   have hcall := hp (rd xs x) _ HB.out
   have BB : Aside0 (xs.getD x.toNat 0 = rd xs x) := ⟨rfl⟩
   have p101 := eq_true AA.out.1
   have q101 := eq_true hlt
   have LT := Aside0.mk hlt
   clear hlt
   cases hq : p (rd xs x) with
   | true =>
    rw [hq] at hcall
    have HC := Aside0.mk hcall
    have HQ := Aside0.mk hq
    clear hcall hq
    go_wp2_with fail
    refine HC.out.mono ?_
    rintro e w' ⟨rfl, hb'⟩
    have HB2 := Aside0.mk hb'
    clear hb'
    go_wp2_with fail
    go_ret
    have hA := AA.out
    have hl := LT.out
    refine ⟨?_, below_then HB.out HB.out.size HB2.out⟩
    rw [idxFrom_hit p 0 xs 0 x.toNat (by omega) (by rw [BB.out]; exact HQ.out) (fun j hj => hA.2.2.2 j (by omega))]
    rw [show ((0 + x.toNat : Nat) : Int) = x by omega]
    rfl
   | false =>
    rw [hq] at hcall
    have HC := Aside0.mk hcall
    have HQ := Aside0.mk hq
    clear hcall hq
    go_wp2_with fail
    refine HC.out.mono ?_
    rintro e w' ⟨rfl, hb'⟩
    have HB2 := Aside0.mk hb'
    clear hb'
    go_wp2_with fail
    go_roundg (xs.length - (x.toNat + 1))
    case measure => have hA := AA.out; have hl := LT.out; omega
    case rel =>
     have hA := AA.out
     have hl := LT.out
     refine ⟨x + 1, by (first | rfl | (congr 1; unfold wrap64; omega)), ⟨by omega, by omega, by omega, fun j hj => ?_⟩, below_then HB.out HB.out.size HB2.out⟩
     by_cases e : (j : Int) = x
     ·
      have e2 : j = x.toNat := by omega
      rw [e2, BB.out]; exact HQ.out
     exact hA.2.2.2 j (by omega)
  have c4b0 : decide (x < (xs.length : Int)) = false := decide_eq_false hlt
  have LT := Aside0.mk hlt
  clear hlt
  go_wp2_with fail
  go_ret
  have hA := AA.out
  have hl := LT.out
  refine ⟨?_, HB.out⟩
  rw [idxFrom_miss p 0 xs 0 (fun j hj => hA.2.2.2 j (by omega))]
  rfl
set_option maxHeartbeats 2000000 in
set_option maxRecDepth 100000 in
theorem containsFunc_int (g : Nat) (lb : Array Value) (p : Int → Bool) (eg : ∀ args w, (callFunc g args).run Try.prog w = .ok (.enter g args) w) (A : Option Addr) (c : Nat) (xs : List Int) (w : World)
    (hr : Kd.C (Kd.int .i64) w A xs.length xs) (hp : PredOK g lb (Value.int .i64) p w) :
    Calls Try.prog 151 #[.slice A xs.length c, .func (.func g) #[] lb] w fun e w' => e = .returned (.bool (xs.any p)) ∧ Below w.heap.size w w' := by
 rw [← idxFrom_any p xs 0]
 go_enter Try.func151, Try.ntmps151
 go_wp2_with (go_at_call 193; refine (indexFunc_int g lb p eg A c xs _ hr hp).mono ?_; rintro e w' ⟨rfl, hb'⟩)
 go_ret
 exact ⟨rfl, by assumption⟩
end Go.Proofs.Ytilffhaghabdgaa.P
namespace Go.Proofs.Ytilffhaghabdgaa.P
open Go.RowKit Go.Proofs.YtilffhaghabdgaaW.PrintWords Go.Proofs.YtilffhaghabdgaaW.PrintLast Go.Proofs.YtilffhaghabdgaaW.PrintMore
attribute [local go_sem] max2_int min2_int max_two min_two max_three min_three max_four min_four
set_option linter.unusedVariables false
set_option linter.unusedSimpArgs false
set_option maxHeartbeats 8000000
set_option maxRecDepth 100000
def impl_isCell.f (a0 : Int) : Option (Bool) := if a0 = (-9999) then (some true) else ((impl_within.f a0 (-9000) 9000).bind fun t101 => (some t101))
theorem impl_isCell.calls (a0 : Int) (r : Bool) (w : World) (h : impl_isCell.f a0 = some r) :
  Calls Try.prog 172 #[.int .i64 a0] w fun e w' => e = .returned (.bool r) ∧ Drawn0 w w' := by
 have H : (if a0 = (-9999) then (some true) else ((impl_within.f a0 (-9000) 9000).bind fun t101 => (some t101))) = some r := h
 clear h
 by_cases c2 : a0 = (-9999)
 ·
  rw [if_pos c2] at H
  have c2b0 : (a0 == (-9999)) = true := beq_iff_eq.mpr c2
  have c2b1 : (a0 != (-9999)) = false := bne_eq_false_iff_eq.mpr c2
  clear c2
  obtain rfl := Option.some.inj H
  go_enter Try.func172, Try.ntmps172
  go_wp2
  go_ret
  exact ⟨by first | rfl | (simp; done) | (simp [*]; done), by repeat (first | exact Drawn0.refl _ | apply Drawn0.step)⟩
 rw [if_neg c2] at H
 have c2b0 : (a0 == (-9999)) = false := beq_eq_false_iff_ne.mpr c2
 have c2b1 : (a0 != (-9999)) = true := bne_iff_ne.mpr c2
 replace H := Option.bind_eq_some_iff.mp H
 obtain ⟨t101, A30, H⟩ := H
 replace H : (some t101) = some r := H
 have A3 := Aside0.mk A30
 clear A30
 obtain rfl := Option.some.inj H
 go_enter Try.func172, Try.ntmps172
 go_wp2_with (first | (go_at_call 105; (with_reducible refine (impl_within.calls a0 (-9000) 9000 t101 _ A3.out).mono ?_); rintro e w' ⟨rfl, ⟨nd, rfl⟩⟩))
 go_ret
 exact ⟨by first | rfl | (simp; done) | (simp [*]; done), by repeat (first | exact Drawn0.refl _ | apply Drawn0.step)⟩
def impl_IsValidField_1.f (a0 : Int) : Option (Bool) := (impl_isCell.f a0).bind fun t101 => (some (!t101))
theorem impl_IsValidField_1.calls (a0 : Int) (r : Bool) (w : World) (h : impl_IsValidField_1.f a0 = some r) :
  Calls Try.prog 171 #[.int .i64 a0] w fun e w' => e = .returned (.bool r) ∧ Drawn0 w w' := by
 have H : ((impl_isCell.f a0).bind fun t101 => (some (!t101))) = some r := h
 clear h
 replace H := Option.bind_eq_some_iff.mp H
 obtain ⟨t101, A20, H⟩ := H
 replace H : (some (!t101)) = some r := H
 have A2 := Aside0.mk A20
 clear A20
 obtain rfl := Option.some.inj H
 go_enter Try.func171, Try.ntmps171
 go_wp2_with (first | ((with_reducible refine gate_callee (f := 172) rfl ?_); refine gl (some 4) Try.func172 #[.int .i64 a0] ?_; (with_reducible refine (impl_isCell.calls a0 t101 _ A2.out).mono ?_); rintro e w' ⟨rfl, ⟨nd, rfl⟩⟩; refine ⟨_, rfl, ?_⟩))
 go_ret
 exact ⟨by first | rfl | (simp; done) | (simp [*]; done), by repeat (first | exact Drawn0.refl _ | apply Drawn0.step)⟩
end Go.Proofs.Ytilffhaghabdgaa.P
namespace Go.Proofs.Ytilffhaghabdgaa.P
open Go.RowKit Go.Proofs.YtilffhaghabdgaaW.PrintWords Go.Proofs.YtilffhaghabdgaaW.PrintLast Go.Proofs.YtilffhaghabdgaaW.PrintMore
attribute [local go_sem] max2_int min2_int max_two min_two max_three min_three max_four min_four
set_option linter.unusedVariables false
set_option linter.unusedSimpArgs false
def slices_ContainsFunc_int_at_impl_IsValidField_1.p (x : Int) : Bool := !(decide (x = -9999) || (decide (-9000 ≤ x) && decide (x ≤ 9000)))
def slices_ContainsFunc_int_at_impl_IsValidField_1.f (l0 : List Int) : Option Bool := some (l0.any slices_ContainsFunc_int_at_impl_IsValidField_1.p)
theorem slices_ContainsFunc_int_at_impl_IsValidField_1.one (x : Int) : impl_IsValidField_1.f x = some (slices_ContainsFunc_int_at_impl_IsValidField_1.p x) := by
 unfold impl_IsValidField_1.f impl_isCell.f impl_within.f slices_ContainsFunc_int_at_impl_IsValidField_1.p
 by_cases h : x = -9999
 ·
  simp [h]
 by_cases h1 : -9000 ≤ x <;> simp [h, h1]
theorem slices_ContainsFunc_int_at_impl_IsValidField_1.calls (A0 : Option Addr) (c0 : Nat) (l0 : List Int) (r : Bool) (w : World) (hr0 : Kd.C (Kd.int .i64) w A0 l0.length l0) (_hc0 : l0.length ≤ c0) (h : slices_ContainsFunc_int_at_impl_IsValidField_1.f l0 = some r) :
    Calls Try.prog 151 #[.slice A0 l0.length c0, .func (.func 171) #[] #[]] w fun e w' => e = .returned (.bool r) ∧ Below w.heap.size w w' := by
 obtain rfl := Option.some.inj h
 refine containsFunc_int 171 #[] _ (fun args w => enters_ Try.func171 (by kernel_rfl) rfl args w) A0 c0 l0 w hr0 (fun x W _ => ?_)
 refine (impl_IsValidField_1.calls x _ W (slices_ContainsFunc_int_at_impl_IsValidField_1.one x)).mono ?_
 rintro e w' ⟨rfl, hd⟩
 exact ⟨rfl, hd.below⟩
end Go.Proofs.Ytilffhaghabdgaa.P
namespace Go.Proofs.Ytilffhaghabdgaa.P
open Go.RowKit Go.Proofs.YtilffhaghabdgaaW.PrintWords Go.Proofs.YtilffhaghabdgaaW.PrintLast Go.Proofs.YtilffhaghabdgaaW.PrintMore
attribute [local go_sem] max2_int min2_int max_two min_two max_three min_three max_four min_four
set_option linter.unusedVariables false
set_option linter.unusedSimpArgs false
set_option maxHeartbeats 8000000
set_option maxRecDepth 100000
def impl_IsValidField.f (a0_0 : Int) (a0_1 : Int) (l0_2 : List Int) : Option (Bool) := (impl_within.f a0_0 1 8).bind fun t102 => (if t102 = true then ((impl_within.f a0_1 1 8).bind fun t103 => (if t103 = true then (if (l0_2.length : Int) = (wrap64 (a0_0 * a0_1)) then ((slices_ContainsFunc_int_at_impl_IsValidField_1.f l0_2).bind fun t104 => (some (!t104))) else (some false)) else (some false))) else (some false))
theorem impl_IsValidField.calls (a0_0 : Int) (a0_1 : Int) (A0_2 : Option Addr) (c0_2 : Nat) (l0_2 : List Int) (r : Bool) (w : World) (hr0_2 : Kd.C (Kd.int .i64) w A0_2 l0_2.length l0_2) (hc0_2 : l0_2.length ≤ c0_2) (h : impl_IsValidField.f a0_0 a0_1 l0_2 = some r) :
  Calls Try.prog 109 #[.agg #[.int .i64 a0_0, .int .i64 a0_1, .slice A0_2 l0_2.length c0_2]] w fun e w' => e = .returned (.bool r) ∧ Below w.heap.size w w' := by
 have hu29 := Try.underlying29
 have HR0_2 := Aside0.mk hr0_2
 have HC0_2 := Aside0.mk hc0_2
 clear hr0_2 hc0_2
 have HB := aK (Below.refl w.heap.size w)
 have H : ((impl_within.f a0_0 1 8).bind fun t102 => (if t102 = true then ((impl_within.f a0_1 1 8).bind fun t103 => (if t103 = true then (if (l0_2.length : Int) = (wrap64 (a0_0 * a0_1)) then ((slices_ContainsFunc_int_at_impl_IsValidField_1.f l0_2).bind fun t104 => (some (!t104))) else (some false)) else (some false))) else (some false))) = some r := h
 clear h
 replace H := Option.bind_eq_some_iff.mp H
 obtain ⟨t102, A20, H⟩ := H
 replace H : (if t102 = true then ((impl_within.f a0_1 1 8).bind fun t103 => (if t103 = true then (if (l0_2.length : Int) = (wrap64 (a0_0 * a0_1)) then ((slices_ContainsFunc_int_at_impl_IsValidField_1.f l0_2).bind fun t104 => (some (!t104))) else (some false)) else (some false))) else (some false)) = some r := H
 have A2 := Aside0.mk A20
 clear A20
 by_cases c3 : t102 = true
 ·
  subst c3
  have H1 : ((impl_within.f a0_1 1 8).bind fun t103 => (if t103 = true then (if (l0_2.length : Int) = (wrap64 (a0_0 * a0_1)) then ((slices_ContainsFunc_int_at_impl_IsValidField_1.f l0_2).bind fun t104 => (some (!t104))) else (some false)) else (some false))) = some r := by rw [if_pos rfl] at H; exact H
  clear H
  have H := H1
  clear H1
  replace H := Option.bind_eq_some_iff.mp H
  obtain ⟨t103, A40, H⟩ := H
  replace H : (if t103 = true then (if (l0_2.length : Int) = (wrap64 (a0_0 * a0_1)) then ((slices_ContainsFunc_int_at_impl_IsValidField_1.f l0_2).bind fun t104 => (some (!t104))) else (some false)) else (some false)) = some r := H
  have A4 := Aside0.mk A40
  clear A40
  by_cases c5 : t103 = true
  ·
   subst c5
   have H1 : (if (l0_2.length : Int) = (wrap64 (a0_0 * a0_1)) then ((slices_ContainsFunc_int_at_impl_IsValidField_1.f l0_2).bind fun t104 => (some (!t104))) else (some false)) = some r := by rw [if_pos rfl] at H; exact H
   clear H
   have H := H1
   clear H1
   by_cases c6 : (l0_2.length : Int) = (wrap64 (a0_0 * a0_1))
   ·
    rw [if_pos c6] at H
    have c6b0 : ((l0_2.length : Int) == (wrap64 (a0_0 * a0_1))) = true := beq_iff_eq.mpr c6
    have c6b1 : ((l0_2.length : Int) != (wrap64 (a0_0 * a0_1))) = false := bne_eq_false_iff_eq.mpr c6
    clear c6
    replace H := Option.bind_eq_some_iff.mp H
    obtain ⟨t104, A70, H⟩ := H
    replace H : (some (!t104)) = some r := H
    have A7 := Aside0.mk A70
    clear A70
    obtain rfl := Option.some.inj H
    go_enter Try.func109, Try.ntmps109
    go_wp2_with (first | ((with_reducible refine gate_dst (N := 1) rfl ?_); (try (refine gate_guard (by rfl) ?_; dsimp only)); refine bxe (cs := #[.int .i64 a0_0, .int .i64 a0_1, .slice A0_2 l0_2.length c0_2]) (t := 29) ?_; intro gb101 hg w8 hbox hb; have BK101 := aK (hbox); have GW101 := aK (gE hg (pS HB.out)); have GE101 := GW101; replace HB := bS HB hb; clear hb hbox hg; obtain ⟨hcz9_0, hcz9_1, hcz9_2, hfz9_0, hfz9_1, hfz9_2⟩ := bc3 BK101.out) | ((with_reducible refine gate_callee (f := 105) rfl ?_); refine gl (some 5) Try.func105 #[.int .i64 a0_0, .int .i64 1, .int .i64 8] ?_; (with_reducible refine (impl_within.calls a0_0 1 8 true _ A2.out).mono ?_); rintro e w' ⟨rfl, ⟨nd, rfl⟩⟩; refine ⟨_, rfl, ?_⟩) | (go_at_call 105; (with_reducible refine (impl_within.calls a0_1 1 8 true _ A4.out).mono ?_); rintro e w' ⟨rfl, ⟨nd, rfl⟩⟩) | (go_at_call 151; (with_reducible refine (slices_ContainsFunc_int_at_impl_IsValidField_1.calls _ _ l0_2 t104 _ ?side1 ?side2 A7.out).mono ?_); (case side1 => exact pC (Kd.C_below HR0_2.out (pS HB.out))); (case side2 => exact HC0_2.out); rintro e w10 ⟨rfl, hb⟩; replace BK101 := bB BK101 hb; replace HB := bS HB hb; (try clear hb); (try clear hb2); (try clear hk); (try clear hi)))
    go_ret
    exact ⟨er, pT HB.out⟩
   rw [if_neg c6] at H
   have c6b0 : ((l0_2.length : Int) == (wrap64 (a0_0 * a0_1))) = false := beq_eq_false_iff_ne.mpr c6
   have c6b1 : ((l0_2.length : Int) != (wrap64 (a0_0 * a0_1))) = true := bne_iff_ne.mpr c6
   obtain rfl := Option.some.inj H
   go_enter Try.func109, Try.ntmps109
   go_wp2_with (first | ((with_reducible refine gate_dst (N := 1) rfl ?_); (try (refine gate_guard (by rfl) ?_; dsimp only)); refine bxe (cs := #[.int .i64 a0_0, .int .i64 a0_1, .slice A0_2 l0_2.length c0_2]) (t := 29) ?_; intro gb101 hg w11 hbox hb; have BK101 := aK (hbox); have GW101 := aK (gE hg (pS HB.out)); have GE101 := GW101; replace HB := bS HB hb; clear hb hbox hg; obtain ⟨hcz12_0, hcz12_1, hcz12_2, hfz12_0, hfz12_1, hfz12_2⟩ := bc3 BK101.out) | ((with_reducible refine gate_callee (f := 105) rfl ?_); refine gl (some 5) Try.func105 #[.int .i64 a0_0, .int .i64 1, .int .i64 8] ?_; (with_reducible refine (impl_within.calls a0_0 1 8 true _ A2.out).mono ?_); rintro e w' ⟨rfl, ⟨nd, rfl⟩⟩; refine ⟨_, rfl, ?_⟩) | (go_at_call 105; (with_reducible refine (impl_within.calls a0_1 1 8 true _ A4.out).mono ?_); rintro e w' ⟨rfl, ⟨nd, rfl⟩⟩))
   go_ret
   exact ⟨er, pT HB.out⟩
  replace c5 := Bool.eq_false_iff.mpr c5
  subst c5
  have H1 : (some false) = some r := by rw [if_neg (show ¬ (false = true) by decide)] at H; exact H
  clear H
  have H := H1
  clear H1
  obtain rfl := Option.some.inj H
  go_enter Try.func109, Try.ntmps109
  go_wp2_with (first | ((with_reducible refine gate_dst (N := 1) rfl ?_); (try (refine gate_guard (by rfl) ?_; dsimp only)); refine bxe (cs := #[.int .i64 a0_0, .int .i64 a0_1, .slice A0_2 l0_2.length c0_2]) (t := 29) ?_; intro gb101 hg w13 hbox hb; have BK101 := aK (hbox); have GW101 := aK (gE hg (pS HB.out)); have GE101 := GW101; replace HB := bS HB hb; clear hb hbox hg; obtain ⟨hcz14_0, hcz14_1, hcz14_2, hfz14_0, hfz14_1, hfz14_2⟩ := bc3 BK101.out) | ((with_reducible refine gate_callee (f := 105) rfl ?_); refine gl (some 5) Try.func105 #[.int .i64 a0_0, .int .i64 1, .int .i64 8] ?_; (with_reducible refine (impl_within.calls a0_0 1 8 true _ A2.out).mono ?_); rintro e w' ⟨rfl, ⟨nd, rfl⟩⟩; refine ⟨_, rfl, ?_⟩) | (go_at_call 105; (with_reducible refine (impl_within.calls a0_1 1 8 false _ A4.out).mono ?_); rintro e w' ⟨rfl, ⟨nd, rfl⟩⟩))
  go_ret
  exact ⟨er, pT HB.out⟩
 replace c3 := Bool.eq_false_iff.mpr c3
 subst c3
 have H1 : (some false) = some r := by rw [if_neg (show ¬ (false = true) by decide)] at H; exact H
 clear H
 have H := H1
 clear H1
 obtain rfl := Option.some.inj H
 go_enter Try.func109, Try.ntmps109
 go_wp2_with (first | ((with_reducible refine gate_dst (N := 1) rfl ?_); (try (refine gate_guard (by rfl) ?_; dsimp only)); refine bxe (cs := #[.int .i64 a0_0, .int .i64 a0_1, .slice A0_2 l0_2.length c0_2]) (t := 29) ?_; intro gb101 hg w15 hbox hb; have BK101 := aK (hbox); have GW101 := aK (gE hg (pS HB.out)); have GE101 := GW101; replace HB := bS HB hb; clear hb hbox hg; obtain ⟨hcz16_0, hcz16_1, hcz16_2, hfz16_0, hfz16_1, hfz16_2⟩ := bc3 BK101.out) | ((with_reducible refine gate_callee (f := 105) rfl ?_); refine gl (some 5) Try.func105 #[.int .i64 a0_0, .int .i64 1, .int .i64 8] ?_; (with_reducible refine (impl_within.calls a0_0 1 8 false _ A2.out).mono ?_); rintro e w' ⟨rfl, ⟨nd, rfl⟩⟩; refine ⟨_, rfl, ?_⟩))
 go_ret
 exact ⟨er, pT HB.out⟩
def impl_sameShape.f (a0_0 : Int) (a0_1 : Int) (l0_2 : List Int) (a1_0 : Int) (a1_1 : Int) (l1_2 : List Int) : Option (Bool) := if a0_0 = a1_0 then (some (a0_1 == a1_1)) else (some false)
theorem impl_sameShape.calls (a0_0 : Int) (a0_1 : Int) (A0_2 : Option Addr) (c0_2 : Nat) (l0_2 : List Int) (a1_0 : Int) (a1_1 : Int) (A1_2 : Option Addr) (c1_2 : Nat) (l1_2 : List Int) (r : Bool) (w : World) (hr0_2 : Kd.C (Kd.int .i64) w A0_2 l0_2.length l0_2) (hc0_2 : l0_2.length ≤ c0_2) (hr1_2 : Kd.C (Kd.int .i64) w A1_2 l1_2.length l1_2) (hc1_2 : l1_2.length ≤ c1_2) (h : impl_sameShape.f a0_0 a0_1 l0_2 a1_0 a1_1 l1_2 = some r) :
  Calls Try.prog 159 #[.agg #[.int .i64 a0_0, .int .i64 a0_1, .slice A0_2 l0_2.length c0_2], .agg #[.int .i64 a1_0, .int .i64 a1_1, .slice A1_2 l1_2.length c1_2]] w fun e w' => e = .returned (.bool r) ∧ Below w.heap.size w w' := by
 have hu29 := Try.underlying29
 have HR0_2 := Aside0.mk hr0_2
 have HC0_2 := Aside0.mk hc0_2
 clear hr0_2 hc0_2
 have HR1_2 := Aside0.mk hr1_2
 have HC1_2 := Aside0.mk hc1_2
 clear hr1_2 hc1_2
 have HB := aK (Below.refl w.heap.size w)
 have H : (if a0_0 = a1_0 then (some (a0_1 == a1_1)) else (some false)) = some r := h
 clear h
 by_cases c3 : a0_0 = a1_0
 ·
  rw [if_pos c3] at H
  have c3b0 : (a0_0 == a1_0) = true := beq_iff_eq.mpr c3
  have c3b1 : (a0_0 != a1_0) = false := bne_eq_false_iff_eq.mpr c3
  clear c3
  obtain rfl := Option.some.inj H
  go_enter Try.func159, Try.ntmps159
  go_wp2_with (first | ((with_reducible refine gate_dst (N := 2) rfl ?_); refine bxe (cs := #[.int .i64 a0_0, .int .i64 a0_1, .slice A0_2 l0_2.length c0_2]) (t := 29) ?_; intro gb101 hg w4 hbox hb; have BK101 := aK (hbox); have GW101 := aK (gE hg (pS HB.out)); have GE101 := GW101; replace HB := bS HB hb; clear hb hbox hg) | ((with_reducible refine gate_dst (N := 3) rfl ?_); refine bxe (cs := #[.int .i64 a1_0, .int .i64 a1_1, .slice A1_2 l1_2.length c1_2]) (t := 29) ?_; intro gb102 hg w5 hbox hb; have BK102 := aK (hbox); have GW102 := aK (gE hg (pS HB.out)); have GE102 := GW102; obtain ⟨NB101_102, NB102_101⟩ := nb hg (pB BK101.out); replace BK101 := bB BK101 hb; replace HB := bS HB hb; clear hb hbox hg; have hnb6 := NB101_102.out; have hnc6 := NB102_101.out; obtain ⟨hcz7_0, hcz7_1, hcz7_2, hfz7_0, hfz7_1, hfz7_2⟩ := bc3 BK101.out; obtain ⟨hcz8_0, hcz8_1, hcz8_2, hfz8_0, hfz8_1, hfz8_2⟩ := bc3 BK102.out))
  go_ret
  exact ⟨er, pT HB.out⟩
 rw [if_neg c3] at H
 have c3b0 : (a0_0 == a1_0) = false := beq_eq_false_iff_ne.mpr c3
 have c3b1 : (a0_0 != a1_0) = true := bne_iff_ne.mpr c3
 obtain rfl := Option.some.inj H
 go_enter Try.func159, Try.ntmps159
 go_wp2_with (first | ((with_reducible refine gate_dst (N := 2) rfl ?_); refine bxe (cs := #[.int .i64 a0_0, .int .i64 a0_1, .slice A0_2 l0_2.length c0_2]) (t := 29) ?_; intro gb101 hg w9 hbox hb; have BK101 := aK (hbox); have GW101 := aK (gE hg (pS HB.out)); have GE101 := GW101; replace HB := bS HB hb; clear hb hbox hg) | ((with_reducible refine gate_dst (N := 3) rfl ?_); refine bxe (cs := #[.int .i64 a1_0, .int .i64 a1_1, .slice A1_2 l1_2.length c1_2]) (t := 29) ?_; intro gb102 hg w10 hbox hb; have BK102 := aK (hbox); have GW102 := aK (gE hg (pS HB.out)); have GE102 := GW102; obtain ⟨NB101_102, NB102_101⟩ := nb hg (pB BK101.out); replace BK101 := bB BK101 hb; replace HB := bS HB hb; clear hb hbox hg; have hnb11 := NB101_102.out; have hnc11 := NB102_101.out; obtain ⟨hcz12_0, hcz12_1, hcz12_2, hfz12_0, hfz12_1, hfz12_2⟩ := bc3 BK101.out; obtain ⟨hcz13_0, hcz13_1, hcz13_2, hfz13_0, hfz13_1, hfz13_2⟩ := bc3 BK102.out))
 go_ret
 exact ⟨er, pT HB.out⟩
def impl_areAlike.l0 : Nat → List (S29) → List (S29) → Int → Int → Option (Bool)
 | 0, _, _, _, _ => none
 | k + 1, x0, x5, x6, x7 => if x7 < x6 then (if 0 ≤ x7 then (if x7 < (x5.length : Int) then ((impl_IsValidField.f ((rd_T29 x5 x7).f0) ((rd_T29 x5 x7).f1) ((rd_T29 x5 x7).f2)).bind fun t103 => (if t103 = true then (if 0 < (x0.length : Int) then ((impl_sameShape.f ((rd_T29 x5 x7).f0) ((rd_T29 x5 x7).f1) ((rd_T29 x5 x7).f2) ((rd_T29 x0 0).f0) ((rd_T29 x0 0).f1) ((rd_T29 x0 0).f2)).bind fun t105 => (if t105 = true then (impl_areAlike.l0 k x0 x5 x6 (wrap64 (x7 + 1))) else (some false))) else (none)) else (some false))) else (none)) else (none)) else (some true)
def impl_areAlike.f (k : Nat) (l0 : List (S29)) : Option (Bool) := impl_areAlike.l0 k l0 l0 (l0.length : Int) 0
def impl_areAlike.T4 : Bool × List (List Nat × List Nat) := (true, [([], []), ([0], [0]), ([1], [1]), ([2, 1], [2]), ([3], [3]), ([3], [3]), ([5, 3], [3, 5]), ([6, 3], [3, 6]), ([4, 7, 3, 3], [3, 4, 7]), ([8, 3], [3, 8]), ([3, 9], [3, 9])])
def impl_areAlike.B4 : List Nat := [0, 1, 3, 7, 15, 15, 47, 111, 255, 511, 1023]
theorem impl_areAlike.tab4 : rtab .any (opsOf Try.f90 4) = impl_areAlike.T4 := by kernel_rfl
theorem impl_areAlike.bits4 : waitsOk impl_areAlike.T4.2 impl_areAlike.B4 = true := by kernel_rfl
theorem impl_areAlike.calls (k : Nat) (A0 : Option Addr) (c0 : Nat) (l0 : List (S29)) (r : Bool) (w : World) (hr0 : Kd.C k29 w A0 l0.length l0) (hc0 : l0.length ≤ c0) (h : impl_areAlike.f k l0 = some r) :
  Calls Try.prog 90 #[.slice A0 l0.length c0] w fun e w' => e = .returned (.bool r) ∧ Below w.heap.size w w' := by
 have hu29 := Try.underlying29
 have HR0 := Aside0.mk hr0
 have HC0 := Aside0.mk hc0
 clear hr0 hc0
 have HB := aK (Below.refl w.heap.size w)
 have H : (impl_areAlike.l0 k l0 l0 (l0.length : Int) 0) = some r := h
 clear h
 have H' := Aside0.mk H
 clear H
 go_enter Try.func90, Try.ntmps90
 go_wp2
 go_loopg [7] k (fun kq v7 w' => ∃ (x7_1 : Int), v7 = .int .i64 x7_1 ∧ Aside0 (impl_areAlike.l0 kq l0 l0 (l0.length : Int) x7_1 = some r) ∧ Aside0 (kq ≤ k) ∧ Aside0 (Below w.heap.size w w'))
 case atStart => exact ⟨(0), (by first | rfl | (simp; done) | (simp [*]; done)), H', ⟨Nat.le_refl _⟩, ⟨pT HB.out⟩⟩
 case round =>
  clear H'
  obtain ⟨x7_1, rfl, HA, HK1, HB⟩ := hrel
  cases gk with
  | zero => exact absurd HA.out (by simp [impl_areAlike.l0])
  | succ k1 =>
   have H := HA.out
   clear HA
   simp only [impl_areAlike.l0] at H
   by_cases c2 : x7_1 < (l0.length : Int)
   ·
    rw [if_pos c2] at H
    have c2b0 : decide (x7_1 < (l0.length : Int)) = true := decide_eq_true c2
    clear c2
    by_cases c3 : 0 ≤ x7_1
    ·
     rw [if_pos c3] at H
     have c3b0 : decide (0 ≤ x7_1) = true := decide_eq_true c3
     clear c3
     by_cases c4 : x7_1 < (l0.length : Int)
     ·
      rw [if_pos c4] at H
      have c4b0 : decide (x7_1 < (l0.length : Int)) = true := decide_eq_true c4
      clear c4
      replace H := Option.bind_eq_some_iff.mp H
      obtain ⟨t103, A50, H⟩ := H
      replace H : (if t103 = true then (if 0 < (l0.length : Int) then ((impl_sameShape.f ((rd_T29 l0 x7_1).f0) ((rd_T29 l0 x7_1).f1) ((rd_T29 l0 x7_1).f2) ((rd_T29 l0 0).f0) ((rd_T29 l0 0).f1) ((rd_T29 l0 0).f2)).bind fun t105 => (if t105 = true then (impl_areAlike.l0 k1 l0 l0 (l0.length : Int) (wrap64 (x7_1 + 1))) else (some false))) else (none)) else (some false)) = some r := H
      have A5 := Aside0.mk A50
      clear A50
      by_cases c6 : t103 = true
      ·
       subst c6
       have H1 : (if 0 < (l0.length : Int) then ((impl_sameShape.f ((rd_T29 l0 x7_1).f0) ((rd_T29 l0 x7_1).f1) ((rd_T29 l0 x7_1).f2) ((rd_T29 l0 0).f0) ((rd_T29 l0 0).f1) ((rd_T29 l0 0).f2)).bind fun t105 => (if t105 = true then (impl_areAlike.l0 k1 l0 l0 (l0.length : Int) (wrap64 (x7_1 + 1))) else (some false))) else (none)) = some r := by rw [if_pos rfl] at H; exact H
       clear H
       have H := H1
       clear H1
       by_cases c7 : 0 < (l0.length : Int)
       ·
        rw [if_pos c7] at H
        have c7b0 : decide (0 < (l0.length : Int)) = true := decide_eq_true c7
        have c7b1 : decide (0 < l0.length) = true := decide_eq_true (by omega)
        clear c7
        replace H := Option.bind_eq_some_iff.mp H
        obtain ⟨t105, A80, H⟩ := H
        replace H : (if t105 = true then (impl_areAlike.l0 k1 l0 l0 (l0.length : Int) (wrap64 (x7_1 + 1))) else (some false)) = some r := H
        have A8 := Aside0.mk A80
        clear A80
        by_cases c9 : t105 = true
        ·
         subst c9
         have H1 : (impl_areAlike.l0 k1 l0 l0 (l0.length : Int) (wrap64 (x7_1 + 1))) = some r := by rw [if_pos rfl] at H; exact H
         clear H
         have H := H1
         clear H1
         have H' := Aside0.mk H
         clear H
         have p101 : 0 ≤ (x7_1 : Int) := of_decide_eq_true (by first | (with_reducible assumption) | assumption)
         have q101 : x7_1 < (l0.length : Int) := of_decide_eq_true (by first | (with_reducible assumption) | assumption)
         obtain ⟨ad101, A101_2, c101_2, e101, hx101_0, hx101_1, hx101_2, hl101_2, hi101_2⟩ := at_T29 HR0.out x7_1 p101 q101
         cases e101
         replace hx101_0 := (HB.out.cell (World.block_lt_of_cell? w _ hx101_0)).trans hx101_0
         replace hx101_1 := (HB.out.cell (World.block_lt_of_cell? w _ hx101_1)).trans hx101_1
         replace hx101_2 := (HB.out.cell (World.block_lt_of_cell? w _ hx101_2)).trans hx101_2
         have HR101_2 := Aside0.mk hi101_2
         have HC101_2 := Aside0.mk hl101_2
         clear hi101_2 hl101_2
         replace p101 := eq_true p101
         replace q101 := eq_true q101
         try go_wp2_with (first | ((with_reducible refine gate_dst (N := 4) rfl ?_); refine bxe (cs := #[.int .i64 0, .int .i64 0, .slice none 0 0]) (t := 29) ?_; intro gb102 hg w10 hbox hb; have BK102 := aK (hbox); have GW102 := aK (gE hg (pS HB.out)); have GE102 := GW102; replace HB := bS HB hb; clear hb hbox hg; obtain ⟨hcz11_0, hcz11_1, hcz11_2, hfz11_0, hfz11_1, hfz11_2⟩ := bc3 BK102.out))
         have n0_ : Aside0 ((((w10.setCell ⟨gb102, 0, none⟩ (.int .i64 ((rd_T29 l0 x7_1).f0))).setCell ⟨gb102, 1, none⟩ (.int .i64 ((rd_T29 l0 x7_1).f1))).setCell ⟨gb102, 2, none⟩ (.slice A101_2 ((rd_T29 l0 x7_1).f2).length c101_2)).heap[gb102]? = some (.cells #[.int .i64 ((rd_T29 l0 x7_1).f0), .int .i64 ((rd_T29 l0 x7_1).f1), .slice A101_2 ((rd_T29 l0 x7_1).f2).length c101_2] 29 (0, 0))) := ⟨by refine bk ?_; refine blk_put (cs := #[.int .i64 ((rd_T29 l0 x7_1).f0), .int .i64 ((rd_T29 l0 x7_1).f1), .slice none 0 0]) ?_ 2 _ rfl; refine bk ?_; refine blk_put (cs := #[.int .i64 ((rd_T29 l0 x7_1).f0), .int .i64 0, .slice none 0 0]) ?_ 1 _ rfl; refine bk ?_; refine blk_put (cs := #[.int .i64 0, .int .i64 0, .slice none 0 0]) ?_ 0 _ rfl; refine bk ?_; exact BK102.out⟩
         have n1_ : Aside0 (Below w.heap.size w (((w10.setCell ⟨gb102, 0, none⟩ (.int .i64 ((rd_T29 l0 x7_1).f0))).setCell ⟨gb102, 1, none⟩ (.int .i64 ((rd_T29 l0 x7_1).f1))).setCell ⟨gb102, 2, none⟩ (.slice A101_2 ((rd_T29 l0 x7_1).f2).length c101_2))) := ⟨pT HB.out⟩
         (try clear BK102)
         (try clear HB)
         generalize (((w10.setCell ⟨gb102, 0, none⟩ (.int .i64 ((rd_T29 l0 x7_1).f0))).setCell ⟨gb102, 1, none⟩ (.int .i64 ((rd_T29 l0 x7_1).f1))).setCell ⟨gb102, 2, none⟩ (.slice A101_2 ((rd_T29 l0 x7_1).f2).length c101_2)) = w12 at n0_ n1_ ⊢
         have BK102 := n0_
         have HB := n1_
         clear n0_ n1_
         have n0_ := aK (blk_drew BK102.out)
         have n1_ := aK (below_drew1 HB.out)
         clear BK102 HB
         have BK102 := n0_
         have HB := n1_
         clear n0_ n1_
         have p104 : 0 ≤ (0 : Int) := (by omega)
         have q104 : 0 < (l0.length : Int) := of_decide_eq_true (by first | (with_reducible assumption) | assumption)
         obtain ⟨ad104, A104_2, c104_2, e104, hx104_0, hx104_1, hx104_2, hl104_2, hi104_2⟩ := at_T29 HR0.out 0 p104 q104
         have hw104_2 := hx104_2
         (try rw [show ((0 : Int)).toNat = 0 from rfl] at hw104_2)
         (try rw [show 0 * 3 = 0 from rfl] at hw104_2)
         (try rw [Addr.add_zero'] at hw104_2)
         have hw104_1 := hx104_1
         (try rw [show ((0 : Int)).toNat = 0 from rfl] at hw104_1)
         (try rw [show 0 * 3 = 0 from rfl] at hw104_1)
         (try rw [Addr.add_zero'] at hw104_1)
         have hw104_0 := hx104_0
         (try rw [show ((0 : Int)).toNat = 0 from rfl] at hw104_0)
         (try rw [show 0 * 3 = 0 from rfl] at hw104_0)
         (try rw [Addr.add_zero'] at hw104_0)
         obtain rfl : ad101 = ad104 := (by injection e104)
         have qi104 : (0 < l0.length) = True := eq_true (by omega)
         (try rw [show ((0 : Int)).toNat = 0 from rfl] at hx104_0)
         (try rw [show 0 * 3 = 0 from rfl] at hx104_0)
         (try rw [Addr.add_zero'] at hx104_0)
         (try rw [show ((0 : Int)).toNat = 0 from rfl] at hx104_1)
         (try rw [show 0 * 3 = 0 from rfl] at hx104_1)
         (try rw [Addr.add_zero'] at hx104_1)
         (try rw [show ((0 : Int)).toNat = 0 from rfl] at hx104_2)
         (try rw [show 0 * 3 = 0 from rfl] at hx104_2)
         (try rw [Addr.add_zero'] at hx104_2)
         replace hx104_0 := (HB.out.cell (World.block_lt_of_cell? w _ hx104_0)).trans hx104_0
         replace hx104_1 := (HB.out.cell (World.block_lt_of_cell? w _ hx104_1)).trans hx104_1
         replace hx104_2 := (HB.out.cell (World.block_lt_of_cell? w _ hx104_2)).trans hx104_2
         have HR104_2 := Aside0.mk hi104_2
         have HC104_2 := Aside0.mk hl104_2
         clear hi104_2 hl104_2
         replace p104 := eq_true p104
         replace q104 := eq_true q104
         refine start_ (n := 11) (S := fun w' => w'.cell? ⟨gb102, 0, none⟩ = some (.int .i64 ((rd_T29 l0 x7_1).f0)) ∧ w'.cell? ⟨gb102, 1, none⟩ = some (.int .i64 ((rd_T29 l0 x7_1).f1)) ∧ w'.cell? ⟨gb102, 2, none⟩ = some (.slice A101_2 ((rd_T29 l0 x7_1).f2).length c101_2) ∧ w'.cell? ad101 = some (.int .i64 ((rd_T29 l0 0).f0)) ∧ w'.cell? ⟨ad101.block, ad101.off + 1, none⟩ = some (.int .i64 ((rd_T29 l0 0).f1)) ∧ w'.cell? ⟨ad101.block, ad101.off + 2, none⟩ = some (.slice A104_2 ((rd_T29 l0 0).f2).length c104_2)) (ds := []) #[false, false, false, false, false, false, false, false, false, false, false] (by kernel_rfl) rfl rfl ⟨(blk_cell BK102.out 0).trans rfl, (blk_cell BK102.out 1).trans rfl, (blk_cell BK102.out 2).trans rfl, ((HB.out.cell (World.block_lt_of_cell? w _ hw104_0)).trans hw104_0), ((HB.out.cell (World.block_lt_of_cell? w _ hw104_1)).trans hw104_1), ((HB.out.cell (World.block_lt_of_cell? w _ hw104_2)).trans hw104_2)⟩ (fun hHeld => ?_); refine with_tabW impl_areAlike.tab4 impl_areAlike.bits4 (fun HT_ HW_ => ?_)
         generalize w12.drew = w13 at BK102 HB HR104_2 hx104_0 hx104_1 hx104_2 hHeld ⊢
         refine tk (i := 0) (N := some 11) #[true, false, false, false, false, false, false, false, false, false, false] rfl rfl HT_.out HW_.out (Or.inl ⟨by rfl, by rintro w' ⟨s0, s1, s2, s3, s4, s5⟩; go_simp; with_reducible rfl⟩) hHeld ?_
         refine one_ (i := 1) (N := some 12) #[true, true, false, false, false, false, false, false, false, false, false] rfl rfl (one_of HT_.out (by kernel_rfl)) (by decide) (fun K hK => ?_)
         refine goes_ Try.func109 (by kernel_rfl) rfl #[.agg #[.int .i64 ((rd_T29 l0 x7_1).f0), .int .i64 ((rd_T29 l0 x7_1).f1), .slice A101_2 ((rd_T29 l0 x7_1).f2).length c101_2]] (by rfl) rfl rfl (by (try simp only [List.map_toArray, List.map_cons, List.map_nil]); first | done | rfl | (simp only [List.length_drop, List.length_take]; rfl)) ?_
         with_reducible refine (impl_IsValidField.calls ((rd_T29 l0 x7_1).f0) ((rd_T29 l0 x7_1).f1) _ _ ((rd_T29 l0 x7_1).f2) true _ ?side1 ?side2 A5.out).mono ?_
         (case side1 => exact pC (Kd.C_below HR101_2.out HB.out))
         (case side2 => exact HC101_2.out)
         rintro e w14 ⟨rfl, hb⟩
         refine ⟨_, rfl, ?_⟩
         replace BK102 := bB BK102 hb
         replace HB := bS HB hb
         (try clear hb)
         (try clear hb2)
         (try clear hk)
         (try clear hi)
         refine hK.out _ _ ⟨(blk_cell BK102.out 0).trans rfl, (blk_cell BK102.out 1).trans rfl, (blk_cell BK102.out 2).trans rfl, ((HB.out.cell (World.block_lt_of_cell? w _ hw104_0)).trans hw104_0), ((HB.out.cell (World.block_lt_of_cell? w _ hw104_1)).trans hw104_1), ((HB.out.cell (World.block_lt_of_cell? w _ hw104_2)).trans hw104_2)⟩ (fun hHeld => ?_)
         clear hK K
         refine norm_ (a' := ?_) ?_ ?_
         rotate_left
         ·
          show Act.put _ (some 12) _ = _
          simp only [sP]
          rfl
         refine pu (i := 2) (N := some 13) #[true, true, true, false, false, false, false, false, false, false, false] rfl rfl HT_.out ?_
         refine pu (i := 3) (N := some 14) #[true, true, true, true, false, false, false, false, false, false, false] rfl rfl HT_.out ?_
         refine pu (i := 5) (N := some 16) #[true, true, true, true, false, true, false, false, false, false, false] rfl rfl HT_.out ?_
         refine pu (i := 6) (N := some 17) #[true, true, true, true, false, true, true, false, false, false, false] rfl rfl HT_.out ?_
         refine tk (i := 4) (N := some 15) #[true, true, true, true, true, true, true, false, false, false, false] rfl rfl HT_.out HW_.out (Or.inl ⟨by rfl, by rintro w' ⟨s0, s1, s2, s3, s4, s5⟩; go_simp; with_reducible rfl⟩) hHeld ?_
         refine tk (i := 7) (N := some 18) #[true, true, true, true, true, true, true, true, false, false, false] rfl rfl HT_.out HW_.out (Or.inl ⟨by rfl, by rintro w' ⟨s0, s1, s2, s3, s4, s5⟩; go_simp; with_reducible rfl⟩) hHeld ?_
         refine one_ (i := 8) (N := some 19) #[true, true, true, true, true, true, true, true, true, false, false] rfl rfl (one_of HT_.out (by kernel_rfl)) (by decide) (fun K hK => ?_)
         refine goes_ Try.func159 (by kernel_rfl) rfl #[.agg #[.int .i64 ((rd_T29 l0 x7_1).f0), .int .i64 ((rd_T29 l0 x7_1).f1), .slice A101_2 ((rd_T29 l0 x7_1).f2).length c101_2], .agg #[.int .i64 ((rd_T29 l0 0).f0), .int .i64 ((rd_T29 l0 0).f1), .slice A104_2 ((rd_T29 l0 0).f2).length c104_2]] (by rfl) rfl rfl (by (try simp only [List.map_toArray, List.map_cons, List.map_nil]); first | done | rfl | (simp only [List.length_drop, List.length_take]; rfl)) ?_
         with_reducible refine (impl_sameShape.calls ((rd_T29 l0 x7_1).f0) ((rd_T29 l0 x7_1).f1) _ _ ((rd_T29 l0 x7_1).f2) ((rd_T29 l0 0).f0) ((rd_T29 l0 0).f1) _ _ ((rd_T29 l0 0).f2) true _ ?side1 ?side2 ?side3 ?side4 A8.out).mono ?_
         (case side1 => exact pC (Kd.C_below HR101_2.out HB.out))
         (case side2 => exact HC101_2.out)
         (case side3 => exact pC (Kd.C_below HR104_2.out HB.out))
         (case side4 => exact HC104_2.out)
         rintro e w15 ⟨rfl, hb⟩
         refine ⟨_, rfl, ?_⟩
         replace BK102 := bB BK102 hb
         replace HB := bS HB hb
         (try clear hb)
         (try clear hb2)
         (try clear hk)
         (try clear hi)
         refine hK.out _ _ ⟨(blk_cell BK102.out 0).trans rfl, (blk_cell BK102.out 1).trans rfl, (blk_cell BK102.out 2).trans rfl, ((HB.out.cell (World.block_lt_of_cell? w _ hw104_0)).trans hw104_0), ((HB.out.cell (World.block_lt_of_cell? w _ hw104_1)).trans hw104_1), ((HB.out.cell (World.block_lt_of_cell? w _ hw104_2)).trans hw104_2)⟩ (fun hHeld => ?_)
         clear hK K
         refine norm_ (a' := ?_) ?_ ?_
         rotate_left
         ·
          show Act.put _ (some 19) _ = _
          simp only [sP]
          rfl
         refine pu (i := 9) (N := some 20) #[true, true, true, true, true, true, true, true, true, true, false] rfl rfl HT_.out ?_
         refine pu (i := 10) (N := some 21) #[true, true, true, true, true, true, true, true, true, true, true] rfl rfl HT_.out ?_
         refine done_ (done_of HT_.out (by kernel_rfl)) ?_
         try go_wp2
         go_roundg k1
         case measure => have := HK1.out; omega
         case rel => exact ⟨(wrap64 (x7_1 + 1)), (by first | rfl | (simp; done) | (simp [*]; done)), H', ⟨by have := HK1.out; omega⟩, ⟨pT HB.out⟩⟩
        replace c9 := Bool.eq_false_iff.mpr c9
        subst c9
        have H1 : (some false) = some r := by rw [if_neg (show ¬ (false = true) by decide)] at H; exact H
        clear H
        have H := H1
        clear H1
        obtain rfl := Option.some.inj H
        have p101 : 0 ≤ (x7_1 : Int) := of_decide_eq_true (by first | (with_reducible assumption) | assumption)
        have q101 : x7_1 < (l0.length : Int) := of_decide_eq_true (by first | (with_reducible assumption) | assumption)
        obtain ⟨ad101, A101_2, c101_2, e101, hx101_0, hx101_1, hx101_2, hl101_2, hi101_2⟩ := at_T29 HR0.out x7_1 p101 q101
        cases e101
        replace hx101_0 := (HB.out.cell (World.block_lt_of_cell? w _ hx101_0)).trans hx101_0
        replace hx101_1 := (HB.out.cell (World.block_lt_of_cell? w _ hx101_1)).trans hx101_1
        replace hx101_2 := (HB.out.cell (World.block_lt_of_cell? w _ hx101_2)).trans hx101_2
        have HR101_2 := Aside0.mk hi101_2
        have HC101_2 := Aside0.mk hl101_2
        clear hi101_2 hl101_2
        replace p101 := eq_true p101
        replace q101 := eq_true q101
        try go_wp2_with (first | ((with_reducible refine gate_dst (N := 4) rfl ?_); refine bxe (cs := #[.int .i64 0, .int .i64 0, .slice none 0 0]) (t := 29) ?_; intro gb102 hg w16 hbox hb; have BK102 := aK (hbox); have GW102 := aK (gE hg (pS HB.out)); have GE102 := GW102; replace HB := bS HB hb; clear hb hbox hg; obtain ⟨hcz17_0, hcz17_1, hcz17_2, hfz17_0, hfz17_1, hfz17_2⟩ := bc3 BK102.out))
        have n0_ : Aside0 ((((w16.setCell ⟨gb102, 0, none⟩ (.int .i64 ((rd_T29 l0 x7_1).f0))).setCell ⟨gb102, 1, none⟩ (.int .i64 ((rd_T29 l0 x7_1).f1))).setCell ⟨gb102, 2, none⟩ (.slice A101_2 ((rd_T29 l0 x7_1).f2).length c101_2)).heap[gb102]? = some (.cells #[.int .i64 ((rd_T29 l0 x7_1).f0), .int .i64 ((rd_T29 l0 x7_1).f1), .slice A101_2 ((rd_T29 l0 x7_1).f2).length c101_2] 29 (0, 0))) := ⟨by refine bk ?_; refine blk_put (cs := #[.int .i64 ((rd_T29 l0 x7_1).f0), .int .i64 ((rd_T29 l0 x7_1).f1), .slice none 0 0]) ?_ 2 _ rfl; refine bk ?_; refine blk_put (cs := #[.int .i64 ((rd_T29 l0 x7_1).f0), .int .i64 0, .slice none 0 0]) ?_ 1 _ rfl; refine bk ?_; refine blk_put (cs := #[.int .i64 0, .int .i64 0, .slice none 0 0]) ?_ 0 _ rfl; refine bk ?_; exact BK102.out⟩
        have n1_ : Aside0 (Below w.heap.size w (((w16.setCell ⟨gb102, 0, none⟩ (.int .i64 ((rd_T29 l0 x7_1).f0))).setCell ⟨gb102, 1, none⟩ (.int .i64 ((rd_T29 l0 x7_1).f1))).setCell ⟨gb102, 2, none⟩ (.slice A101_2 ((rd_T29 l0 x7_1).f2).length c101_2))) := ⟨pT HB.out⟩
        (try clear BK102)
        (try clear HB)
        generalize (((w16.setCell ⟨gb102, 0, none⟩ (.int .i64 ((rd_T29 l0 x7_1).f0))).setCell ⟨gb102, 1, none⟩ (.int .i64 ((rd_T29 l0 x7_1).f1))).setCell ⟨gb102, 2, none⟩ (.slice A101_2 ((rd_T29 l0 x7_1).f2).length c101_2)) = w18 at n0_ n1_ ⊢
        have BK102 := n0_
        have HB := n1_
        clear n0_ n1_
        have n0_ := aK (blk_drew BK102.out)
        have n1_ := aK (below_drew1 HB.out)
        clear BK102 HB
        have BK102 := n0_
        have HB := n1_
        clear n0_ n1_
        have p104 : 0 ≤ (0 : Int) := (by omega)
        have q104 : 0 < (l0.length : Int) := of_decide_eq_true (by first | (with_reducible assumption) | assumption)
        obtain ⟨ad104, A104_2, c104_2, e104, hx104_0, hx104_1, hx104_2, hl104_2, hi104_2⟩ := at_T29 HR0.out 0 p104 q104
        have hw104_2 := hx104_2
        (try rw [show ((0 : Int)).toNat = 0 from rfl] at hw104_2)
        (try rw [show 0 * 3 = 0 from rfl] at hw104_2)
        (try rw [Addr.add_zero'] at hw104_2)
        have hw104_1 := hx104_1
        (try rw [show ((0 : Int)).toNat = 0 from rfl] at hw104_1)
        (try rw [show 0 * 3 = 0 from rfl] at hw104_1)
        (try rw [Addr.add_zero'] at hw104_1)
        have hw104_0 := hx104_0
        (try rw [show ((0 : Int)).toNat = 0 from rfl] at hw104_0)
        (try rw [show 0 * 3 = 0 from rfl] at hw104_0)
        (try rw [Addr.add_zero'] at hw104_0)
        obtain rfl : ad101 = ad104 := (by injection e104)
        have qi104 : (0 < l0.length) = True := eq_true (by omega)
        (try rw [show ((0 : Int)).toNat = 0 from rfl] at hx104_0)
        (try rw [show 0 * 3 = 0 from rfl] at hx104_0)
        (try rw [Addr.add_zero'] at hx104_0)
        (try rw [show ((0 : Int)).toNat = 0 from rfl] at hx104_1)
        (try rw [show 0 * 3 = 0 from rfl] at hx104_1)
        (try rw [Addr.add_zero'] at hx104_1)
        (try rw [show ((0 : Int)).toNat = 0 from rfl] at hx104_2)
        (try rw [show 0 * 3 = 0 from rfl] at hx104_2)
        (try rw [Addr.add_zero'] at hx104_2)
        replace hx104_0 := (HB.out.cell (World.block_lt_of_cell? w _ hx104_0)).trans hx104_0
        replace hx104_1 := (HB.out.cell (World.block_lt_of_cell? w _ hx104_1)).trans hx104_1
        replace hx104_2 := (HB.out.cell (World.block_lt_of_cell? w _ hx104_2)).trans hx104_2
        have HR104_2 := Aside0.mk hi104_2
        have HC104_2 := Aside0.mk hl104_2
        clear hi104_2 hl104_2
        replace p104 := eq_true p104
        replace q104 := eq_true q104
        refine start_ (n := 11) (S := fun w' => w'.cell? ⟨gb102, 0, none⟩ = some (.int .i64 ((rd_T29 l0 x7_1).f0)) ∧ w'.cell? ⟨gb102, 1, none⟩ = some (.int .i64 ((rd_T29 l0 x7_1).f1)) ∧ w'.cell? ⟨gb102, 2, none⟩ = some (.slice A101_2 ((rd_T29 l0 x7_1).f2).length c101_2) ∧ w'.cell? ad101 = some (.int .i64 ((rd_T29 l0 0).f0)) ∧ w'.cell? ⟨ad101.block, ad101.off + 1, none⟩ = some (.int .i64 ((rd_T29 l0 0).f1)) ∧ w'.cell? ⟨ad101.block, ad101.off + 2, none⟩ = some (.slice A104_2 ((rd_T29 l0 0).f2).length c104_2)) (ds := []) #[false, false, false, false, false, false, false, false, false, false, false] (by kernel_rfl) rfl rfl ⟨(blk_cell BK102.out 0).trans rfl, (blk_cell BK102.out 1).trans rfl, (blk_cell BK102.out 2).trans rfl, ((HB.out.cell (World.block_lt_of_cell? w _ hw104_0)).trans hw104_0), ((HB.out.cell (World.block_lt_of_cell? w _ hw104_1)).trans hw104_1), ((HB.out.cell (World.block_lt_of_cell? w _ hw104_2)).trans hw104_2)⟩ (fun hHeld => ?_); refine with_tabW impl_areAlike.tab4 impl_areAlike.bits4 (fun HT_ HW_ => ?_)
        generalize w18.drew = w19 at BK102 HB HR104_2 hx104_0 hx104_1 hx104_2 hHeld ⊢
        refine tk (i := 0) (N := some 11) #[true, false, false, false, false, false, false, false, false, false, false] rfl rfl HT_.out HW_.out (Or.inl ⟨by rfl, by rintro w' ⟨s0, s1, s2, s3, s4, s5⟩; go_simp; with_reducible rfl⟩) hHeld ?_
        refine one_ (i := 1) (N := some 12) #[true, true, false, false, false, false, false, false, false, false, false] rfl rfl (one_of HT_.out (by kernel_rfl)) (by decide) (fun K hK => ?_)
        refine goes_ Try.func109 (by kernel_rfl) rfl #[.agg #[.int .i64 ((rd_T29 l0 x7_1).f0), .int .i64 ((rd_T29 l0 x7_1).f1), .slice A101_2 ((rd_T29 l0 x7_1).f2).length c101_2]] (by rfl) rfl rfl (by (try simp only [List.map_toArray, List.map_cons, List.map_nil]); first | done | rfl | (simp only [List.length_drop, List.length_take]; rfl)) ?_
        with_reducible refine (impl_IsValidField.calls ((rd_T29 l0 x7_1).f0) ((rd_T29 l0 x7_1).f1) _ _ ((rd_T29 l0 x7_1).f2) true _ ?side1 ?side2 A5.out).mono ?_
        (case side1 => exact pC (Kd.C_below HR101_2.out HB.out))
        (case side2 => exact HC101_2.out)
        rintro e w20 ⟨rfl, hb⟩
        refine ⟨_, rfl, ?_⟩
        replace BK102 := bB BK102 hb
        replace HB := bS HB hb
        (try clear hb)
        (try clear hb2)
        (try clear hk)
        (try clear hi)
        refine hK.out _ _ ⟨(blk_cell BK102.out 0).trans rfl, (blk_cell BK102.out 1).trans rfl, (blk_cell BK102.out 2).trans rfl, ((HB.out.cell (World.block_lt_of_cell? w _ hw104_0)).trans hw104_0), ((HB.out.cell (World.block_lt_of_cell? w _ hw104_1)).trans hw104_1), ((HB.out.cell (World.block_lt_of_cell? w _ hw104_2)).trans hw104_2)⟩ (fun hHeld => ?_)
        clear hK K
        refine norm_ (a' := ?_) ?_ ?_
        rotate_left
        ·
         show Act.put _ (some 12) _ = _
         simp only [sP]
         rfl
        refine pu (i := 2) (N := some 13) #[true, true, true, false, false, false, false, false, false, false, false] rfl rfl HT_.out ?_
        refine pu (i := 3) (N := some 14) #[true, true, true, true, false, false, false, false, false, false, false] rfl rfl HT_.out ?_
        refine pu (i := 5) (N := some 16) #[true, true, true, true, false, true, false, false, false, false, false] rfl rfl HT_.out ?_
        refine pu (i := 6) (N := some 17) #[true, true, true, true, false, true, true, false, false, false, false] rfl rfl HT_.out ?_
        refine tk (i := 4) (N := some 15) #[true, true, true, true, true, true, true, false, false, false, false] rfl rfl HT_.out HW_.out (Or.inl ⟨by rfl, by rintro w' ⟨s0, s1, s2, s3, s4, s5⟩; go_simp; with_reducible rfl⟩) hHeld ?_
        refine tk (i := 7) (N := some 18) #[true, true, true, true, true, true, true, true, false, false, false] rfl rfl HT_.out HW_.out (Or.inl ⟨by rfl, by rintro w' ⟨s0, s1, s2, s3, s4, s5⟩; go_simp; with_reducible rfl⟩) hHeld ?_
        refine one_ (i := 8) (N := some 19) #[true, true, true, true, true, true, true, true, true, false, false] rfl rfl (one_of HT_.out (by kernel_rfl)) (by decide) (fun K hK => ?_)
        refine goes_ Try.func159 (by kernel_rfl) rfl #[.agg #[.int .i64 ((rd_T29 l0 x7_1).f0), .int .i64 ((rd_T29 l0 x7_1).f1), .slice A101_2 ((rd_T29 l0 x7_1).f2).length c101_2], .agg #[.int .i64 ((rd_T29 l0 0).f0), .int .i64 ((rd_T29 l0 0).f1), .slice A104_2 ((rd_T29 l0 0).f2).length c104_2]] (by rfl) rfl rfl (by (try simp only [List.map_toArray, List.map_cons, List.map_nil]); first | done | rfl | (simp only [List.length_drop, List.length_take]; rfl)) ?_
        with_reducible refine (impl_sameShape.calls ((rd_T29 l0 x7_1).f0) ((rd_T29 l0 x7_1).f1) _ _ ((rd_T29 l0 x7_1).f2) ((rd_T29 l0 0).f0) ((rd_T29 l0 0).f1) _ _ ((rd_T29 l0 0).f2) false _ ?side1 ?side2 ?side3 ?side4 A8.out).mono ?_
        (case side1 => exact pC (Kd.C_below HR101_2.out HB.out))
        (case side2 => exact HC101_2.out)
        (case side3 => exact pC (Kd.C_below HR104_2.out HB.out))
        (case side4 => exact HC104_2.out)
        rintro e w21 ⟨rfl, hb⟩
        refine ⟨_, rfl, ?_⟩
        replace BK102 := bB BK102 hb
        replace HB := bS HB hb
        (try clear hb)
        (try clear hb2)
        (try clear hk)
        (try clear hi)
        refine hK.out _ _ ⟨(blk_cell BK102.out 0).trans rfl, (blk_cell BK102.out 1).trans rfl, (blk_cell BK102.out 2).trans rfl, ((HB.out.cell (World.block_lt_of_cell? w _ hw104_0)).trans hw104_0), ((HB.out.cell (World.block_lt_of_cell? w _ hw104_1)).trans hw104_1), ((HB.out.cell (World.block_lt_of_cell? w _ hw104_2)).trans hw104_2)⟩ (fun hHeld => ?_)
        clear hK K
        refine norm_ (a' := ?_) ?_ ?_
        rotate_left
        ·
         show Act.put _ (some 19) _ = _
         simp only [sP]
         rfl
        refine pu (i := 9) (N := some 20) #[true, true, true, true, true, true, true, true, true, true, false] rfl rfl HT_.out ?_
        refine pu (i := 10) (N := some 21) #[true, true, true, true, true, true, true, true, true, true, true] rfl rfl HT_.out ?_
        refine done_ (done_of HT_.out (by kernel_rfl)) ?_
        try go_wp2
        go_ret
        exact ⟨er, pT HB.out⟩
       rw [if_neg c7] at H
       exact absurd H (by simp)
      replace c6 := Bool.eq_false_iff.mpr c6
      subst c6
      have H1 : (some false) = some r := by rw [if_neg (show ¬ (false = true) by decide)] at H; exact H
      clear H
      have H := H1
      clear H1
      obtain rfl := Option.some.inj H
      have p101 : 0 ≤ (x7_1 : Int) := of_decide_eq_true (by first | (with_reducible assumption) | assumption)
      have q101 : x7_1 < (l0.length : Int) := of_decide_eq_true (by first | (with_reducible assumption) | assumption)
      obtain ⟨ad101, A101_2, c101_2, e101, hx101_0, hx101_1, hx101_2, hl101_2, hi101_2⟩ := at_T29 HR0.out x7_1 p101 q101
      cases e101
      replace hx101_0 := (HB.out.cell (World.block_lt_of_cell? w _ hx101_0)).trans hx101_0
      replace hx101_1 := (HB.out.cell (World.block_lt_of_cell? w _ hx101_1)).trans hx101_1
      replace hx101_2 := (HB.out.cell (World.block_lt_of_cell? w _ hx101_2)).trans hx101_2
      have HR101_2 := Aside0.mk hi101_2
      have HC101_2 := Aside0.mk hl101_2
      clear hi101_2 hl101_2
      replace p101 := eq_true p101
      replace q101 := eq_true q101
      try go_wp2_with (first | ((with_reducible refine gate_dst (N := 4) rfl ?_); refine bxe (cs := #[.int .i64 0, .int .i64 0, .slice none 0 0]) (t := 29) ?_; intro gb102 hg w22 hbox hb; have BK102 := aK (hbox); have GW102 := aK (gE hg (pS HB.out)); have GE102 := GW102; replace HB := bS HB hb; clear hb hbox hg; obtain ⟨hcz23_0, hcz23_1, hcz23_2, hfz23_0, hfz23_1, hfz23_2⟩ := bc3 BK102.out))
      have n0_ : Aside0 ((((w22.setCell ⟨gb102, 0, none⟩ (.int .i64 ((rd_T29 l0 x7_1).f0))).setCell ⟨gb102, 1, none⟩ (.int .i64 ((rd_T29 l0 x7_1).f1))).setCell ⟨gb102, 2, none⟩ (.slice A101_2 ((rd_T29 l0 x7_1).f2).length c101_2)).heap[gb102]? = some (.cells #[.int .i64 ((rd_T29 l0 x7_1).f0), .int .i64 ((rd_T29 l0 x7_1).f1), .slice A101_2 ((rd_T29 l0 x7_1).f2).length c101_2] 29 (0, 0))) := ⟨by refine bk ?_; refine blk_put (cs := #[.int .i64 ((rd_T29 l0 x7_1).f0), .int .i64 ((rd_T29 l0 x7_1).f1), .slice none 0 0]) ?_ 2 _ rfl; refine bk ?_; refine blk_put (cs := #[.int .i64 ((rd_T29 l0 x7_1).f0), .int .i64 0, .slice none 0 0]) ?_ 1 _ rfl; refine bk ?_; refine blk_put (cs := #[.int .i64 0, .int .i64 0, .slice none 0 0]) ?_ 0 _ rfl; refine bk ?_; exact BK102.out⟩
      have n1_ : Aside0 (Below w.heap.size w (((w22.setCell ⟨gb102, 0, none⟩ (.int .i64 ((rd_T29 l0 x7_1).f0))).setCell ⟨gb102, 1, none⟩ (.int .i64 ((rd_T29 l0 x7_1).f1))).setCell ⟨gb102, 2, none⟩ (.slice A101_2 ((rd_T29 l0 x7_1).f2).length c101_2))) := ⟨pT HB.out⟩
      (try clear BK102)
      (try clear HB)
      generalize (((w22.setCell ⟨gb102, 0, none⟩ (.int .i64 ((rd_T29 l0 x7_1).f0))).setCell ⟨gb102, 1, none⟩ (.int .i64 ((rd_T29 l0 x7_1).f1))).setCell ⟨gb102, 2, none⟩ (.slice A101_2 ((rd_T29 l0 x7_1).f2).length c101_2)) = w24 at n0_ n1_ ⊢
      have BK102 := n0_
      have HB := n1_
      clear n0_ n1_
      have n0_ := aK (blk_drew BK102.out)
      have n1_ := aK (below_drew1 HB.out)
      clear BK102 HB
      have BK102 := n0_
      have HB := n1_
      clear n0_ n1_
      refine start_ (n := 11) (S := fun w' => w'.cell? ⟨gb102, 0, none⟩ = some (.int .i64 ((rd_T29 l0 x7_1).f0)) ∧ w'.cell? ⟨gb102, 1, none⟩ = some (.int .i64 ((rd_T29 l0 x7_1).f1)) ∧ w'.cell? ⟨gb102, 2, none⟩ = some (.slice A101_2 ((rd_T29 l0 x7_1).f2).length c101_2)) (ds := []) #[false, false, false, false, false, false, false, false, false, false, false] (by kernel_rfl) rfl rfl (cz3 BK102.out) (fun hHeld => ?_); refine with_tabW impl_areAlike.tab4 impl_areAlike.bits4 (fun HT_ HW_ => ?_)
      generalize w24.drew = w25 at BK102 HB hHeld ⊢
      refine tk (i := 0) (N := some 11) #[true, false, false, false, false, false, false, false, false, false, false] rfl rfl HT_.out HW_.out (Or.inl ⟨by rfl, by rintro w' ⟨s0, s1, s2⟩; go_simp; with_reducible rfl⟩) hHeld ?_
      refine one_ (i := 1) (N := some 12) #[true, true, false, false, false, false, false, false, false, false, false] rfl rfl (one_of HT_.out (by kernel_rfl)) (by decide) (fun K hK => ?_)
      refine goes_ Try.func109 (by kernel_rfl) rfl #[.agg #[.int .i64 ((rd_T29 l0 x7_1).f0), .int .i64 ((rd_T29 l0 x7_1).f1), .slice A101_2 ((rd_T29 l0 x7_1).f2).length c101_2]] (by rfl) rfl rfl (by (try simp only [List.map_toArray, List.map_cons, List.map_nil]); first | done | rfl | (simp only [List.length_drop, List.length_take]; rfl)) ?_
      with_reducible refine (impl_IsValidField.calls ((rd_T29 l0 x7_1).f0) ((rd_T29 l0 x7_1).f1) _ _ ((rd_T29 l0 x7_1).f2) false _ ?side1 ?side2 A5.out).mono ?_
      (case side1 => exact pC (Kd.C_below HR101_2.out HB.out))
      (case side2 => exact HC101_2.out)
      rintro e w26 ⟨rfl, hb⟩
      refine ⟨_, rfl, ?_⟩
      replace BK102 := bB BK102 hb
      replace HB := bS HB hb
      (try clear hb)
      (try clear hb2)
      (try clear hk)
      (try clear hi)
      refine hK.out _ _ (cz3 BK102.out) (fun hHeld => ?_)
      clear hK K
      refine norm_ (a' := ?_) ?_ ?_
      rotate_left
      ·
       show Act.put _ (some 12) _ = _
       simp only [sP]
       rfl
      refine pu (i := 2) (N := some 13) #[true, true, true, false, false, false, false, false, false, false, false] rfl rfl HT_.out ?_
      refine pu (i := 3) (N := some 14) #[true, true, true, true, false, false, false, false, false, false, false] rfl rfl HT_.out ?_
      refine pure_ (i := 4) (N := some 15) (v := undef) (a' := ?_) #[true, true, true, true, true, false, false, false, false, false, false] rfl rfl (any_of HT_.out (by kernel_rfl)) (fun _ _ _ h => h) (Or.inr ⟨by rfl, rfl⟩) ?_ ?_
      rotate_left
      ·
       simp only [sP]
       rfl
      refine pure_ (i := 5) (N := some 16) (v := undef) (a' := ?_) #[true, true, true, true, true, true, false, false, false, false, false] rfl rfl (any_of HT_.out (by kernel_rfl)) (fun _ _ _ h => h) (Or.inr ⟨by rfl, rfl⟩) ?_ ?_
      rotate_left
      ·
       simp only [sP]
       rfl
      refine pure_ (i := 6) (N := some 17) (v := undef) (a' := ?_) #[true, true, true, true, true, true, true, false, false, false, false] rfl rfl (any_of HT_.out (by kernel_rfl)) (fun _ _ _ h => h) (Or.inr ⟨by rfl, rfl⟩) ?_ ?_
      rotate_left
      ·
       simp only [sP]
       rfl
      refine pure_ (i := 7) (N := some 18) (v := undef) (a' := ?_) #[true, true, true, true, true, true, true, true, false, false, false] rfl rfl (any_of HT_.out (by kernel_rfl)) (fun _ _ _ h => h) (Or.inr ⟨by rfl, rfl⟩) ?_ ?_
      rotate_left
      ·
       simp only [sP]
       rfl
      refine pure_ (i := 8) (N := some 19) (v := undef) (a' := ?_) #[true, true, true, true, true, true, true, true, true, false, false] rfl rfl (any_of HT_.out (by kernel_rfl)) (fun _ _ _ h => h) (Or.inr ⟨by rfl, rfl⟩) ?_ ?_
      rotate_left
      ·
       simp only [sP]
       rfl
      refine pure_ (i := 9) (N := some 20) (v := undef) (a' := ?_) #[true, true, true, true, true, true, true, true, true, true, false] rfl rfl (any_of HT_.out (by kernel_rfl)) (fun _ _ _ h => h) (Or.inr ⟨by rfl, rfl⟩) ?_ ?_
      rotate_left
      ·
       simp only [sP]
       rfl
      refine pu (i := 10) (N := some 21) #[true, true, true, true, true, true, true, true, true, true, true] rfl rfl HT_.out ?_
      refine done_ (done_of HT_.out (by kernel_rfl)) ?_
      try go_wp2
      go_ret
      exact ⟨er, pT HB.out⟩
     rw [if_neg c4] at H
     exact absurd H (by simp)
    rw [if_neg c3] at H
    exact absurd H (by simp)
   rw [if_neg c2] at H
   have c2b0 : decide (x7_1 < (l0.length : Int)) = false := decide_eq_false c2
   clear c2
   obtain rfl := Option.some.inj H
   go_wp2
   go_ret
   exact ⟨er, pT HB.out⟩
end Go.Proofs.Ytilffhaghabdgaa.P
