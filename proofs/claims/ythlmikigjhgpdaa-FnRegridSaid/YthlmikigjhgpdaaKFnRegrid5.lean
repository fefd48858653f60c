/- Texts of the claim FnRegrid, merged: part 5 of 13: the program's and the reference's functions as Lean functions, the walks that show it, and plain lemmas; no conditions. -/
import Derived.Test.YthlmikigjhgpdaaKFnRegrid3
import Derived.Test.YthlmikigjhgpdaaKFnRegrid4
namespace Go.Proofs.Ythlmikigjhgpdaa.P
open Go.RowKit Go.Proofs.YthlmikigjhgpdaaW.PrintWords Go.Proofs.YthlmikigjhgpdaaW.PrintLast Go.Proofs.YthlmikigjhgpdaaW.PrintMore
attribute [local go_sem] max2_int min2_int max_two min_two max_three min_three max_four min_four
set_option linter.unusedVariables false
set_option linter.unusedSimpArgs false
set_option maxHeartbeats 8000000
set_option maxRecDepth 100000
def spec_DrawCoarsenSum.l0 : Nat → Int → List Int → Int → Int → Int → Int → List Int → Option (Int × Int × List Int × Int × Int)
 | 0, _, _, _, _, _, _, _ => none
 | k + 1, x7, x103000, x103001, x103002, x111000, x111001, x111002 => if x7 < 24 then ((spec_l1Cur_pick.f x103000 x103001 x103002 60).bind fun bt114 => (if x111002.length < 17592186044416 then (spec_DrawCoarsenSum.l0 k (wrap64 (x7 + 1)) x103000 bt114.2.1 bt114.2.2 x111000 x111001 (x111002 ++ [wrap64 (bt114.1 - 20)])) else (none))) else ((spec_l1Cur_one.f x103000 x103001 x103002 8).bind fun bt120 => (if bt120.1 = true then (if 0 < (x111002.length : Int) then ((spec_l1Cur_among.f x103000 bt120.2.1 bt120.2.2 (([1, 2, 4, 3, 0] : List Int))).bind fun bt127 => ((spec_l1Cur_among.f x103000 bt127.2.1 bt127.2.2 (([1, 2, 3, 6, 5, (-1)] : List Int))).bind fun bt133 => (some (x111000, x111001, (x111002.set (0 : Int).toNat 9000), bt127.1, bt133.1)))) else (none)) else ((spec_l1Cur_among.f x103000 bt120.2.1 bt120.2.2 (([1, 2, 4, 3, 0] : List Int))).bind fun bt139 => ((spec_l1Cur_among.f x103000 bt139.2.1 bt139.2.2 (([1, 2, 3, 6, 5, (-1)] : List Int))).bind fun bt145 => (some (x111000, x111001, x111002, bt139.1, bt145.1))))))
def spec_DrawCoarsenSum.f (k : Nat) (l0 : List Int) : Option (Int × Int × List Int × Int × Int) := (spec_l1Cur_full.f k l0 0 0).bind fun bt103 => ((spec_l1Cur_one.f l0 bt103.2.2.2.1 bt103.2.2.2.2 2).bind fun bt111 => (if bt111.1 = true then (spec_DrawCoarsenSum.l0 k 0 l0 bt111.2.1 bt111.2.2 4 6 ([] : List Int)) else ((spec_l1Cur_among.f l0 bt111.2.1 bt111.2.2 (([1, 2, 4, 3, 0] : List Int))).bind fun bt151 => ((spec_l1Cur_among.f l0 bt151.2.1 bt151.2.2 (([1, 2, 3, 6, 5, (-1)] : List Int))).bind fun bt157 => (some (bt103.1, bt103.2.1, bt103.2.2.1, bt151.1, bt157.1))))))
def spec_DrawCoarsenSum.T8 : Bool × List (List Nat × List Nat) := (true, [([], []), ([0], [0]), ([], []), ([2], [2]), ([3], [3]), ([4], [4]), ([1, 5, 3], [1, 5]), ([0, 1, 2, 3, 4, 5, 6], []), ([7, 6, 6, 0, 1, 2, 3, 4, 5, 6], [6, 7])])
def spec_DrawCoarsenSum.B8 : List Nat := [0, 1, 0, 4, 12, 28, 63, 127, 255]
theorem spec_DrawCoarsenSum.tab8 : rtab .any (opsOf Try.f10 8) = spec_DrawCoarsenSum.T8 := by kernel_rfl
theorem spec_DrawCoarsenSum.bits8 : waitsOk spec_DrawCoarsenSum.T8.2 spec_DrawCoarsenSum.B8 = true := by kernel_rfl
def spec_DrawCoarsenSum.T11 : Bool × List (List Nat × List Nat) := (true, [([], []), ([], []), ([], []), ([1, 2], [1, 2]), ([], []), ([], []), ([4, 5, 3], [4, 5]), ([0, 6, 0], [0]), ([3, 7, 0, 1, 2, 3, 7], [3]), ([6, 8, 0, 1, 2, 3, 4, 5, 6, 7, 8], [6])])
def spec_DrawCoarsenSum.B11 : List Nat := [0, 0, 0, 6, 0, 0, 62, 127, 255, 511]
theorem spec_DrawCoarsenSum.tab11 : rtab .any (opsOf Try.f10 11) = spec_DrawCoarsenSum.T11 := by kernel_rfl
theorem spec_DrawCoarsenSum.bits11 : waitsOk spec_DrawCoarsenSum.T11.2 spec_DrawCoarsenSum.B11 = true := by kernel_rfl
theorem spec_DrawCoarsenSum.calls (k : Nat) (A0 : Option Addr) (c0 : Nat) (l0 : List Int) (r1 : Int) (r2 : Int) (r3 : List Int) (r4 : Int) (r5 : Int) (w : World) (hr0 : Kd.C (Kd.int .u8) w A0 l0.length l0) (hc0 : l0.length ≤ c0) (h : spec_DrawCoarsenSum.f k l0 = some (r1, r2, r3, r4, r5)) :
  Calls Try.prog 10 #[.slice A0 l0.length c0] w fun e w' => ∃ v2_ : Value, e = .returned (.tuple #[.agg #[.int .i64 r1, .int .i64 r2, v2_], .int .i64 r4, .int .i64 r5]) ∧ Kd.Q (Kd.int .i64) 3 w' w.heap.size (fun _ => True) v2_ r3 ∧ Below w.heap.size w w' := by
 have hu26 := Try.underlying26
 have hu42 := Try.underlying42
 have HR0 := Aside0.mk hr0
 have HC0 := Aside0.mk hc0
 clear hr0 hc0
 have HB := aK (Below.refl w.heap.size w)
 have H : ((spec_l1Cur_full.f k l0 0 0).bind fun bt103 => ((spec_l1Cur_one.f l0 bt103.2.2.2.1 bt103.2.2.2.2 2).bind fun bt111 => (if bt111.1 = true then (spec_DrawCoarsenSum.l0 k 0 l0 bt111.2.1 bt111.2.2 4 6 ([] : List Int)) else ((spec_l1Cur_among.f l0 bt111.2.1 bt111.2.2 (([1, 2, 4, 3, 0] : List Int))).bind fun bt151 => ((spec_l1Cur_among.f l0 bt151.2.1 bt151.2.2 (([1, 2, 3, 6, 5, (-1)] : List Int))).bind fun bt157 => (some (bt103.1, bt103.2.1, bt103.2.2.1, bt151.1, bt157.1))))))) = some (r1, r2, r3, r4, r5) := h
 clear h
 replace H := Option.bind_eq_some_iff.mp H
 obtain ⟨⟨t103, t104, t105, t108, t109⟩, A20, H⟩ := H
 replace H : ((spec_l1Cur_one.f l0 t108 t109 2).bind fun bt111 => (if bt111.1 = true then (spec_DrawCoarsenSum.l0 k 0 l0 bt111.2.1 bt111.2.2 4 6 ([] : List Int)) else ((spec_l1Cur_among.f l0 bt111.2.1 bt111.2.2 (([1, 2, 4, 3, 0] : List Int))).bind fun bt151 => ((spec_l1Cur_among.f l0 bt151.2.1 bt151.2.2 (([1, 2, 3, 6, 5, (-1)] : List Int))).bind fun bt157 => (some (t103, t104, t105, bt151.1, bt157.1)))))) = some (r1, r2, r3, r4, r5) := H
 have A2 := Aside0.mk A20
 clear A20
 replace H := Option.bind_eq_some_iff.mp H
 obtain ⟨⟨t111, t112, t113⟩, A30, H⟩ := H
 replace H : (if t111 = true then (spec_DrawCoarsenSum.l0 k 0 l0 t112 t113 4 6 ([] : List Int)) else ((spec_l1Cur_among.f l0 t112 t113 (([1, 2, 4, 3, 0] : List Int))).bind fun bt151 => ((spec_l1Cur_among.f l0 bt151.2.1 bt151.2.2 (([1, 2, 3, 6, 5, (-1)] : List Int))).bind fun bt157 => (some (t103, t104, t105, bt151.1, bt157.1))))) = some (r1, r2, r3, r4, r5) := H
 have A3 := Aside0.mk A30
 clear A30
 by_cases c4 : t111 = true
 ·
  subst c4
  have H1 : (spec_DrawCoarsenSum.l0 k 0 l0 t112 t113 4 6 ([] : List Int)) = some (r1, r2, r3, r4, r5) := by rw [if_pos rfl] at H; exact H
  clear H; have H := H1; clear H1; have H' := Aside0.mk H; clear H
  go_enter Try.func10, Try.ntmps10
  go_wp2_with (first | ((with_reducible refine gate_dst (N := 2) rfl ?_); refine bxe (cs := #[.int .i64 0, .int .i64 0, .slice none 0 0]) (t := 26) ?_; intro gb101 hg w5 hbox hb; have BK101 := aK (hbox); have GW101 := aK (gE hg (pS HB.out)); have GE101 := GW101; replace HB := bS HB hb; clear hb hbox hg) | ((with_reducible refine gate_dst (N := 10) rfl ?_); refine bxe (cs := #[.slice A0 l0.length c0, .int .i64 0, .int .u64 0]) (t := 42) ?_; intro gb102 hg w6 hbox hb; have HI102 := aK ((⟨_, _, hbox, (by rw [hg]; exact (below_size (pS HB.out)) : w.heap.size ≤ gb102), HR0.out⟩ : IsS42 w w6 gb102 l0 0 0)); obtain ⟨NB101_102, NB102_101⟩ := nb hg (pB BK101.out); replace BK101 := bB BK101 hb; replace HB := bS HB hb; clear hb hbox hg) | ((with_reducible refine gate_callee (f := 19) rfl ?_); refine gl (some 12) Try.func19 #[.pointer (some ⟨gb102, 0, none⟩)] ?_; (with_reducible refine (spec_l1Cur_full.calls k gb102 l0 0 0 t103 t104 t105 t108 t109 w _ ?side1 ?side2 A2.out).mono ?_); (case side1 => exact pI42 HI102.out); (case side2 => exact pV HB.out (IsS42.ge HI102.out)); rintro e w7 ⟨v106, rfl, ho0, hi, hb, hk⟩; refine ⟨_, rfl, ?_⟩; have n0_ := aK (KeepBut.blk hk (pB BK101.out) NB101_102.out (by simp)); have HO107 := aK (Kd.Q_lower ho0 (below_size ((pV HB.out (IsS42.ge HI102.out))))); have n2_ := aK (hb); have n3_ := aK (hi); clear BK101 HB HI102; have BK101 := n0_; have HB := n2_; have HI102 := n3_; clear n0_ n2_ n3_; (try clear hb); (try clear hk); (try clear hi); (try clear ho0)) | ((with_reducible refine gate_dst (N := 6) rfl ?_); refine bxe (cs := #[.int .i64 0, .int .i64 0, .slice none 0 0]) (t := 26) ?_; intro gb110 hg w8 hbox hb; have n0_ := aK (Kd.Q_below (pQ HO107.out) hb); have n2_ := aK (IsS42.below (pI42 HI102.out) hb); have n3_ := aK (below_step ((pV HB.out (IsS42.ge HI102.out))) hb); have BK110 := aK (hbox); have GW110 := aK (gE hg ((pV HB.out (IsS42.ge HI102.out)))); have GE110 := aK (gE hg ((pV HB.out (IsS42.ge HI102.out)))); obtain ⟨NB101_110, NB110_101⟩ := nb hg (pB BK101.out); have NB102_110 := aK ((by rw [hg]; exact Nat.ne_of_lt (IsS42.lt (show IsS42 w _ gb102 l0 t108 t109 from pI42 HI102.out)) : gb102 ≠ gb110)); have NB110_102 := aK ((by rw [hg]; exact Nat.ne_of_gt (IsS42.lt (show IsS42 w _ gb102 l0 t108 t109 from pI42 HI102.out)) : gb110 ≠ gb102)); replace BK101 := bB BK101 hb; clear HO107 HI102 HB; have HO107 := n0_; have HI102 := n2_; have HB := n3_; clear n0_ n2_ n3_ hb hbox hg; have hnb9 := NB110_101.out; have hnc9 := NB101_110.out; have hnb10 := NB110_102.out; have hnc10 := NB102_110.out; obtain ⟨hcz11_0, hcz11_1, hcz11_2, hfz11_0, hfz11_1, hfz11_2⟩ := bc3 BK110.out; obtain ⟨Ao12, co12, eo12, _⟩ := Kd.Q_slice HO107.out; subst eo12) | ((with_reducible refine gate_callee (f := 36) rfl ?_); refine gl (some 14) Try.func36 #[.pointer (some ⟨gb102, 0, none⟩), .int .i64 2] ?_; (with_reducible refine (spec_l1Cur_one.calls gb102 l0 t108 t109 2 true t112 t113 w _ ?side1 ?side2 A3.out).mono ?_); (case side1 => exact pI42 HI102.out); (case side2 => exact pV HB.out (IsS42.ge HI102.out)); rintro e w13 ⟨rfl, hi, hb, hk⟩; refine ⟨_, rfl, ?_⟩; have n0_ := aK (KeepBut.blk hk (g' := gb101) (o := .cells #[.int .i64 0, .int .i64 0, .slice none 0 0] 26 (0, 0)) (by refine bk ?_; refine blk_far ?_ NB101_110.out _; refine bk ?_; refine blk_far ?_ NB101_110.out _; refine bk ?_; refine blk_far ?_ NB101_110.out _; refine bk ?_; exact BK101.out) NB101_102.out (by simp)); have n1_ := aK (Kd.Q_mono (Kd.Q_keep (IsS42.apartQ (show IsS42 w _ gb102 l0 t108 t109 from pI42 HI102.out) (pQ (qF3 HO107.out BK110.out (.int .i64 t103) (.int .i64 t104) (.slice Ao12 t105.length co12))) (by decide)) hk (fun _ h => h.2)) (fun _ h => h.1)); have n2_ := aK (KeepBut.blk hk (g' := gb110) (o := .cells #[.int .i64 t103, .int .i64 t104, .slice Ao12 t105.length co12] 26 (0, 0)) (by refine bk ?_; refine blk_put (cs := #[.int .i64 t103, .int .i64 t104, .slice none 0 0]) ?_ 2 _ rfl; refine bk ?_; refine blk_put (cs := #[.int .i64 t103, .int .i64 0, .slice none 0 0]) ?_ 1 _ rfl; refine bk ?_; refine blk_put (cs := #[.int .i64 0, .int .i64 0, .slice none 0 0]) ?_ 0 _ rfl; refine bk ?_; exact BK110.out) NB110_102.out (by simp)); have n3_ := aK (hb); have n4_ := aK (hi); clear BK101 HO107 BK110 HB HI102; have BK101 := n0_; have HO107 := n1_; have BK110 := n2_; have HB := n3_; have HI102 := n4_; clear n0_ n1_ n2_ n3_ n4_; (try clear hb); (try clear hk); (try clear hi); obtain ⟨hcz14_0, hcz14_1, hcz14_2, hfz14_0, hfz14_1, hfz14_2⟩ := bc3 BK110.out))
  go_loopg [7] k (fun kq v7 w' => ∃ (x7_1 : Int) (x103001_1 : Int) (x103002_1 : Int) (x111002_1 : List Int) (u111002 : Value), v7 = .int .i64 x7_1 ∧ Aside0 (spec_DrawCoarsenSum.l0 kq x7_1 l0 x103001_1 x103002_1 4 6 x111002_1 = some (r1, r2, r3, r4, r5)) ∧ Aside0 (kq ≤ k) ∧ Aside0 (Kd.Q (Kd.int .i64) 3 w' w.heap.size (fun _ => True) u111002 x111002_1) ∧ Aside0 (w'.heap[gb101]? = some (.cells #[.int .i64 0, .int .i64 0, (.slice none 0 0)] 26 (0, 0))) ∧ Aside0 (w'.heap[gb110]? = some (.cells #[.int .i64 4, .int .i64 6, u111002] 26 (0, 0))) ∧ Aside0 (IsS42 w w' gb102 l0 x103001_1 x103002_1) ∧ Aside0 (Below w.heap.size w w'))
  case atStart => exact ⟨(0), (t112), (t113), (([] : List Int)), (.slice none 0 0), (by first | rfl | (simp; done) | (simp [*]; done)), H', ⟨Nat.le_refl _⟩, ⟨Kd.Q_of_R (by first | exact Kd.R_nil _ _ _ _ _ | exact Kd.N_nil _ _ _ _ _ | exact Kd.V_nil _ _ _ _ _ | exact Kd.Q_nil _ _ _ _ _ | exact Kd.S_nil _ _ _ _ _)⟩, ⟨by refine bk ?_; refine blk_far ?_ NB101_110.out _; refine bk ?_; refine blk_far ?_ NB101_110.out _; refine bk ?_; refine blk_far ?_ NB101_110.out _; refine bk ?_; exact BK101.out⟩, ⟨by refine bk ?_; refine blk_put (cs := #[.int .i64 4, .int .i64 6, .slice Ao12 t105.length co12]) ?_ 2 _ rfl; refine bk ?_; refine blk_put (cs := #[.int .i64 4, .int .i64 t104, .slice Ao12 t105.length co12]) ?_ 1 _ rfl; refine bk ?_; refine blk_put (cs := #[.int .i64 t103, .int .i64 t104, .slice Ao12 t105.length co12]) ?_ 0 _ rfl; refine bk ?_; exact BK110.out⟩, ⟨pI42 HI102.out⟩, ⟨(pV HB.out (IsS42.ge HI102.out))⟩⟩
  case round =>
   clear H'
   try clear hcz11_0
   try clear hcz11_1
   try clear hcz11_2
   try clear hcz14_0
   try clear hcz14_1
   try clear hcz14_2
   try clear hfz11_0
   try clear hfz11_1
   try clear hfz11_2
   try clear hfz14_0
   try clear hfz14_1
   try clear hfz14_2
   obtain ⟨x7_1, x103001_1, x103002_1, x111002_1, u111002, rfl, HA, HK1, HO_111002, BK101, BK110, HI102, HB⟩ := hrel
   cases gk with
   | zero => exact absurd HA.out (by simp [spec_DrawCoarsenSum.l0])
   | succ k1 =>
    have H := HA.out; clear HA
    simp only [spec_DrawCoarsenSum.l0] at H
    by_cases c15 : x7_1 < 24
    ·
     rw [if_pos c15] at H
     have c15b0 : decide (x7_1 < 24) = true := decide_eq_true c15
     clear c15; replace H := Option.bind_eq_some_iff.mp H
     obtain ⟨⟨t114, t115, t116⟩, A160, H⟩ := H
     replace H : (if x111002_1.length < 17592186044416 then (spec_DrawCoarsenSum.l0 k1 (wrap64 (x7_1 + 1)) l0 t115 t116 4 6 (x111002_1 ++ [wrap64 (t114 - 20)])) else (none)) = some (r1, r2, r3, r4, r5) := H
     have A16 := Aside0.mk A160; clear A160
     by_cases c17 : x111002_1.length < 17592186044416
     ·
      rw [if_pos c17] at H; have LMc17 := Aside0.mk c17; clear c17
      obtain ⟨y117, hy117⟩ : ∃ y_ : List Int, y_ = (x111002_1 ++ [wrap64 (t114 - 20)]) := ⟨_, rfl⟩
      replace H : (spec_DrawCoarsenSum.l0 k1 (wrap64 (x7_1 + 1)) l0 t115 t116 4 6 y117) = some (r1, r2, r3, r4, r5) := by first | (rw [hy117]; with_reducible exact H) | (have H2_ := (Option.bind_some _ _).symm.trans H; rw [hy117]; with_reducible exact H2_) | (have H2_ := (Option.bind_some _ _).symm.trans H; with_reducible exact H2_) | with_reducible exact H | (rw [hy117]; exact H) | exact H
      have Ny117 := Aside0.mk hy117; clear hy117; have H' := Aside0.mk H; clear H
      try go_wp2
      have n0_ := aK (Kd.Q_drew HO_111002.out); have n1_ := aK (blk_drew BK101.out); have n2_ := aK (blk_drew BK110.out); have n3_ := aK (IsS42.drew HI102.out); have n4_ := aK (below_drew1 HB.out); clear HO_111002 BK101 BK110 HI102 HB; have HO_111002 := n0_; have BK101 := n1_; have BK110 := n2_; have HI102 := n3_; have HB := n4_; clear n0_ n1_ n2_ n3_ n4_
      refine start_ (n := 9) (S := fun w' => w'.cell? ⟨gb110, 0, none⟩ = some (.int .i64 4) ∧ w'.cell? ⟨gb110, 1, none⟩ = some (.int .i64 6) ∧ w'.cell? ⟨gb110, 2, none⟩ = some (u111002)) (ds := [8]) #[false, false, false, false, false, false, false, false, false] (by kernel_rfl) rfl rfl (cz3 BK110.out) (fun hHeld => ?_); refine with_tabW spec_DrawCoarsenSum.tab8 spec_DrawCoarsenSum.bits8 (fun HT_ HW_ => ?_)
      generalize wr.drew = w18 at HO_111002 BK101 BK110 HI102 HB hHeld ⊢
      refine pu (i := 0) (N := some 20) #[true, false, false, false, false, false, false, false, false] rfl rfl HT_.out ?_
      refine pu (i := 2) (N := some 22) #[true, false, true, false, false, false, false, false, false] rfl rfl HT_.out ?_
      refine tk (i := 1) (N := some 21) #[true, true, true, false, false, false, false, false, false] rfl rfl HT_.out HW_.out (Or.inl ⟨by rfl, by rintro w' ⟨s0, s1, s2⟩; go_simp; with_reducible rfl⟩) hHeld ?_
      refine one_ (i := 3) (N := some 23) #[true, true, true, true, false, false, false, false, false] rfl rfl (one_of HT_.out (by kernel_rfl)) (by decide) (fun K hK => ?_)
      refine goes_ Try.func20 (by kernel_rfl) rfl #[.pointer (some ⟨gb102, 0, none⟩), .int .i64 60] (by rfl) rfl rfl (by (try simp only [List.map_toArray, List.map_cons, List.map_nil]); first | done | rfl | (simp only [List.length_drop, List.length_take]; rfl)) ?_
      with_reducible refine (spec_l1Cur_pick.calls gb102 l0 x103001_1 x103002_1 60 t114 t115 t116 w _ ?side1 ?side2 A16.out).mono ?_
      (case side1 => exact pI42 HI102.out)
      (case side2 => exact pV HB.out (IsS42.ge HI102.out))
      rintro e w19 ⟨rfl, hi, hb, hk⟩
      refine ⟨_, rfl, ?_⟩
      have n0_ := aK (Kd.Q_mono (Kd.Q_keep (IsS42.apartQ (show IsS42 w _ gb102 l0 x103001_1 x103002_1 from pI42 HI102.out) (pQ HO_111002.out) (by decide)) hk (fun _ h => h.2)) (fun _ h => h.1))
      have n1_ := aK (KeepBut.blk hk (pB BK101.out) NB101_102.out (by simp))
      have n2_ := aK (KeepBut.blk hk (pB BK110.out) NB110_102.out (by simp))
      have n3_ := aK (hb); have n4_ := aK (hi); clear HO_111002 BK101 BK110 HB HI102; have HO_111002 := n0_; have BK101 := n1_; have BK110 := n2_; have HB := n3_; have HI102 := n4_; clear n0_ n1_ n2_ n3_ n4_
      (try clear hb)
      (try clear hb2)
      (try clear hk)
      (try clear hi)
      refine hK.out _ _ (cz3 BK110.out) (fun hHeld => ?_)
      clear hK K
      refine norm_ (a' := ?_) ?_ ?_
      rotate_left
      ·
       show Act.put _ (some 23) _ = _
       simp only [sP]
       rfl
      refine pu (i := 4) (N := some 24) #[true, true, true, true, true, false, false, false, false] rfl rfl HT_.out ?_
      refine one_ (i := 5) (N := some 25) #[true, true, true, true, true, true, false, false, false] rfl rfl (one_of HT_.out (by kernel_rfl)) (by decide) (fun K hK => ?_)
      refine value_ (w1 := ?_) (v := ?_) (by rfl) rfl ?_ ?_
      rotate_left 2
      ·
       go_simp
       constructor
       ·
        rfl
       rfl
      refine hK.out _ _ ⟨(blk_cell (blk_alloc BK110.out _) 0).trans rfl, (blk_cell (blk_alloc BK110.out _) 1).trans rfl, (blk_cell (blk_alloc BK110.out _) 2).trans rfl⟩ (fun hHeld => ?_)
      clear hK K
      refine norm_ (a' := ?_) ?_ ?_
      rotate_left
      ·
       show Act.put _ (some 25) _ = _
       simp only [sP]
       rfl
      refine one_ (i := 6) (N := some 26) #[true, true, true, true, true, true, true, false, false] rfl rfl (one_of HT_.out (by kernel_rfl)) (by decide) (fun K hK => ?_)
      refine Kd.Q_append_step (Kd.int .i64) (w0 := w) w.heap.size (by rfl) (.tmp 21) (.tmp 25) 24 3 (.int .i64 0) 8 rfl Try.underlying24 info3 rfl (by decide) (by omega) u111002 x111002_1 (wrap64 (t114 - 20)) [.int .i64 (wrap64 (t114 - 20))] (fun _ => True) (fun _ => False) rfl rfl ?aP (fun _ hk => hk.elim) ?aF ?aO ?aB ?aS ?aL ?_
      (case aP => exact rfl)
      (case aB => exact ((pV HB.out (IsS42.ge HI102.out))))
      (case aF => exact (fun _ _ => trivial))
      (case aO => exact (pQ HO_111002.out))
      (case aS => exact (below_size ((pV HB.out (IsS42.ge HI102.out)))))
      (case aL => have := LMc17.out; omega)
      intro v118 w20 ho hb hg hat
      rw [← Ny117.out] at ho
      have n0_ := aK (blk_grown (pB BK101.out) hg (Kd.Q_ne HO_111002.out BK101.out (by decide)))
      have n1_ := aK (blk_grown (pB BK110.out) hg (Kd.Q_ne HO_111002.out BK110.out (by decide)))
      have n2_ := aK (IsS42.grown (pI42 HI102.out) hg (IsS42.own_neQ HI102.out HO_111002.out (by decide)))
      have n3_ := aK (hb); have HO119 := aK (ho); clear BK101 BK110 HI102 HB HO_111002; have BK101 := n0_; have BK110 := n1_; have HI102 := n2_; have HB := n3_; clear n0_ n1_ n2_ n3_ ho hb hg hat; obtain ⟨Ao21, co21, eo21, _⟩ := Kd.Q_slice HO119.out
      (first | subst eo21 | (obtain ⟨f4_, f5_⟩ := sI eo21; subst f4_; subst f5_))
      refine hK.out _ _ (cz3 BK110.out) (fun hHeld => ?_)
      clear hK K
      refine norm_ (a' := ?_) ?_ ?_
      rotate_left
      ·
       show Act.put _ (some 26) _ = _
       simp only [sP]
       rfl
      refine pu (i := 7) (N := some 27) #[true, true, true, true, true, true, true, true, false] rfl rfl HT_.out ?_
      refine last_ (i := 8) (N := none) #[true, true, true, true, true, true, true, true, true] rfl rfl (one_of HT_.out (by kernel_rfl)) (by decide) (fun K hK => ?_)
      have hs22 : w20.cell? ⟨gb110, 2, none⟩ = some (u111002) := (blk_cell BK110.out 2).trans rfl
      have hfs22 := blk_frozen BK110.out 2; have hns22_0 := NB101_110.out; have hms22_0 := NB110_101.out
      refine skip_ (w1 := ?_) (by rfl) rfl ?_ ?_
      rotate_left
      ·
       go_simp
       rfl
      refine hK.out _ _ ?_
      clear hK K
      refine done_ (done_of HT_.out (by kernel_rfl)) ?_
      try go_wp2
      go_roundg k1
      case measure => have := HK1.out; omega
      case rel => exact ⟨(wrap64 (x7_1 + 1)), (t115), (t116), (y117), (.slice Ao21 y117.length co21), (by first | rfl | (simp; done) | (simp [*]; done)), H', ⟨by have := HK1.out; omega⟩, ⟨by (with_reducible repeat (first | apply Kd.Q_alloc | apply Kd.Q_drewN | apply Kd.Q_drew)); exact Kd.Q_mono (Kd.Q_far (p := ⟨gb110, 2, none⟩) (Kd.Q_types HO119.out BK110.out (by decide)) (fun _ hk => hk.2) (.slice Ao21 y117.length co21)) (fun _ hk => trivial)⟩, ⟨by refine bk ?_; refine blk_far ?_ NB101_110.out _; refine bk ?_; exact BK101.out⟩, ⟨by refine bk ?_; refine blk_put (cs := #[.int .i64 4, .int .i64 6, u111002]) ?_ 2 _ rfl; refine bk ?_; exact BK110.out⟩, ⟨pI42 HI102.out⟩, ⟨(pV HB.out (IsS42.ge HI102.out))⟩⟩
     rw [if_neg c17] at H
     exact absurd H (by simp)
    rw [if_neg c15] at H
    have c15b0 : decide (x7_1 < 24) = false := decide_eq_false c15
    clear c15; replace H := Option.bind_eq_some_iff.mp H
    obtain ⟨⟨t120, t121, t122⟩, A230, H⟩ := H
    replace H : (if t120 = true then (if 0 < (x111002_1.length : Int) then ((spec_l1Cur_among.f l0 t121 t122 (([1, 2, 4, 3, 0] : List Int))).bind fun bt127 => ((spec_l1Cur_among.f l0 bt127.2.1 bt127.2.2 (([1, 2, 3, 6, 5, (-1)] : List Int))).bind fun bt133 => (some (4, 6, (x111002_1.set (0 : Int).toNat 9000), bt127.1, bt133.1)))) else (none)) else ((spec_l1Cur_among.f l0 t121 t122 (([1, 2, 4, 3, 0] : List Int))).bind fun bt139 => ((spec_l1Cur_among.f l0 bt139.2.1 bt139.2.2 (([1, 2, 3, 6, 5, (-1)] : List Int))).bind fun bt145 => (some (4, 6, x111002_1, bt139.1, bt145.1))))) = some (r1, r2, r3, r4, r5) := H
    have A23 := Aside0.mk A230; clear A230
    by_cases c24 : t120 = true
    ·
     subst c24
     have H1 : (if 0 < (x111002_1.length : Int) then ((spec_l1Cur_among.f l0 t121 t122 (([1, 2, 4, 3, 0] : List Int))).bind fun bt127 => ((spec_l1Cur_among.f l0 bt127.2.1 bt127.2.2 (([1, 2, 3, 6, 5, (-1)] : List Int))).bind fun bt133 => (some (4, 6, (x111002_1.set (0 : Int).toNat 9000), bt127.1, bt133.1)))) else (none)) = some (r1, r2, r3, r4, r5) := by rw [if_pos rfl] at H; exact H
     clear H; have H := H1; clear H1
     by_cases c25 : 0 < (x111002_1.length : Int)
     ·
      rw [if_pos c25] at H
      have c25b0 : decide (0 < (x111002_1.length : Int)) = true := decide_eq_true c25
      have c25b1 : decide (0 < x111002_1.length) = true := decide_eq_true (by omega)
      clear c25
      obtain ⟨y123, hy123⟩ : ∃ y_ : List Int, y_ = (x111002_1.set (0 : Int).toNat 9000) := ⟨_, rfl⟩
      replace H : ((spec_l1Cur_among.f l0 t121 t122 (([1, 2, 4, 3, 0] : List Int))).bind fun bt127 => ((spec_l1Cur_among.f l0 bt127.2.1 bt127.2.2 (([1, 2, 3, 6, 5, (-1)] : List Int))).bind fun bt133 => (some (4, 6, y123, bt127.1, bt133.1)))) = some (r1, r2, r3, r4, r5) := by first | (rw [hy123]; with_reducible exact H) | (have H2_ := (Option.bind_some _ _).symm.trans H; rw [hy123]; with_reducible exact H2_) | (have H2_ := (Option.bind_some _ _).symm.trans H; with_reducible exact H2_) | with_reducible exact H | (rw [hy123]; exact H) | exact H
      have Ny123 := Aside0.mk hy123; clear hy123
      obtain ⟨y124, hy124⟩ : ∃ y_ : List Int, y_ = (([1, 2, 4, 3, 0] : List Int)) := ⟨_, rfl⟩
      replace H : ((spec_l1Cur_among.f l0 t121 t122 y124).bind fun bt127 => ((spec_l1Cur_among.f l0 bt127.2.1 bt127.2.2 (([1, 2, 3, 6, 5, (-1)] : List Int))).bind fun bt133 => (some (4, 6, y123, bt127.1, bt133.1)))) = some (r1, r2, r3, r4, r5) := by first | (rw [hy124]; with_reducible exact H) | (have H2_ := (Option.bind_some _ _).symm.trans H; rw [hy124]; with_reducible exact H2_) | (have H2_ := (Option.bind_some _ _).symm.trans H; with_reducible exact H2_) | with_reducible exact H | (rw [hy124]; exact H) | exact H
      have Ny124 := Aside0.mk hy124; clear hy124; replace H := Option.bind_eq_some_iff.mp H
      obtain ⟨⟨t127, t128, t129⟩, A270, H⟩ := H
      replace H : ((spec_l1Cur_among.f l0 t128 t129 (([1, 2, 3, 6, 5, (-1)] : List Int))).bind fun bt133 => (some (4, 6, y123, t127, bt133.1))) = some (r1, r2, r3, r4, r5) := H
      have A27 := Aside0.mk A270; clear A270
      obtain ⟨y130, hy130⟩ : ∃ y_ : List Int, y_ = (([1, 2, 3, 6, 5, (-1)] : List Int)) := ⟨_, rfl⟩
      replace H : ((spec_l1Cur_among.f l0 t128 t129 y130).bind fun bt133 => (some (4, 6, y123, t127, bt133.1))) = some (r1, r2, r3, r4, r5) := by first | (rw [hy130]; with_reducible exact H) | (have H2_ := (Option.bind_some _ _).symm.trans H; rw [hy130]; with_reducible exact H2_) | (have H2_ := (Option.bind_some _ _).symm.trans H; with_reducible exact H2_) | with_reducible exact H | (rw [hy130]; exact H) | exact H
      have Ny130 := Aside0.mk hy130; clear hy130; replace H := Option.bind_eq_some_iff.mp H
      obtain ⟨⟨t133, t134, t135⟩, A280, H⟩ := H
      replace H : (some (4, 6, y123, t127, t133)) = some (r1, r2, r3, r4, r5) := H
      have A28 := Aside0.mk A280; clear A280
      simp only [Option.some.injEq, Prod.mk.injEq] at H
      obtain ⟨rfl, rfl, rfl, rfl, rfl⟩ := H
      try go_wp2_with (first | ((with_reducible refine gate_callee (f := 36) rfl ?_); refine gl (some 29) Try.func36 #[.pointer (some ⟨gb102, 0, none⟩), .int .i64 8] ?_; (with_reducible refine (spec_l1Cur_one.calls gb102 l0 x103001_1 x103002_1 8 true t121 t122 w _ ?side1 ?side2 A23.out).mono ?_); (case side1 => exact pI42 HI102.out); (case side2 => exact pV HB.out (IsS42.ge HI102.out)); rintro e w29 ⟨rfl, hi, hb, hk⟩; refine ⟨_, rfl, ?_⟩; have n0_ := aK (Kd.Q_mono (Kd.Q_keep (IsS42.apartQ (show IsS42 w _ gb102 l0 x103001_1 x103002_1 from pI42 HI102.out) (pQ HO_111002.out) (by decide)) hk (fun _ h => h.2)) (fun _ h => h.1)); have n1_ := aK (KeepBut.blk hk (pB BK101.out) NB101_102.out (by simp)); have n2_ := aK (KeepBut.blk hk (pB BK110.out) NB110_102.out (by simp)); have n3_ := aK (hb); have n4_ := aK (hi); clear HO_111002 BK101 BK110 HB HI102; have HO_111002 := n0_; have BK101 := n1_; have BK110 := n2_; have HB := n3_; have HI102 := n4_; clear n0_ n1_ n2_ n3_ n4_; (try clear hb); (try clear hk); (try clear hi); have hnb30 := NB110_101.out; have hnc30 := NB101_110.out; have hnb31 := NB110_102.out; have hnc31 := NB102_110.out; obtain ⟨hcz32_0, hcz32_1, hcz32_2, hfz32_0, hfz32_1, hfz32_2⟩ := bc3 BK110.out; have p26 : 0 ≤ (0 : Int) := (by omega); have q26 : (0 : Int) < ((x111002_1.length : Int) : Int) := of_decide_eq_true (by first | (with_reducible assumption) | assumption); have qi26 : (0 < x111002_1.length) = True := eq_true (by omega); obtain ⟨go26, oo26, co26, eo26, gb26, gl26, cl26, HG26⟩ := Kd.Q_form HO_111002.out (by omega); (first | cases eo26 | (injection eo26 with ea_ en_ ec_; (first | subst ea_ | (injection ea_ with ea_; subst ea_)); subst ec_; clear en_)); have GB26 := Aside0.mk gb26; have GG26 := Aside0.mk HG26; clear gb26 gl26 HG26; obtain ⟨hx26_0, hf26_0⟩ := Kd.Q_cell 0 HO_111002.out (0 : Int) p26 q26; (try rw [show ((0 : Int)).toNat = 0 from rfl] at hx26_0); (try simp only [Nat.reduceMul, Nat.zero_mul, Nat.zero_add, Nat.reduceAdd] at hx26_0); (try rw [show ((0 : Int)).toNat = 0 from rfl] at hf26_0); (try simp only [Nat.reduceMul, Nat.zero_mul, Nat.zero_add, Nat.reduceAdd] at hf26_0); replace p26 := eq_true p26; replace q26 := eq_true q26; obtain ⟨hy33_, hz33_⟩ := Kd.Q_cell 0 HO_111002.out (0 : Int) (by omega) (of_decide_eq_true (by first | (with_reducible assumption) | assumption)); (try simp only [Int.reduceToNat, Int.toNat_zero, Int.toNat_ofNat, Nat.reduceMul, Nat.zero_mul, Nat.zero_add] at hy33_ hz33_); (try rw [show ((0 : Int)).toNat = 0 from rfl] at hy33_); (try rw [show ((0 : Int)).toNat = 0 from rfl] at hz33_); (try simp only [Nat.add_zero] at hy33_ hz33_); have HP33 := Kd.Q_putg HO_111002.out (0 : Int) (by omega) (by have h_ : (0 : Int) < ((x111002_1.length : Int) : Int) := of_decide_eq_true (by first | (with_reducible assumption) | assumption); first | exact h_ | (have e_ := (Kd.Q_reads' HO_111002.out).1; omega) | simpa using h_) 9000) | ((with_reducible refine gate_store (t := 3) (p := 32) rfl ?_); refine store_event (t := 3) (p := 32) (v := ?vo_w34) (w1 := (w29.setCell ⟨go26, oo26 + (0 : Int).toNat, none⟩ (.int .i64 9000))) ?hg ?ho ?hn ?hr ?_; (case ho => rfl); (case hg => rfl); (case hn => rfl); (case hr => first | (go_simp; done) | (go_simp; rfl)); intro w34 hw; have hg : w29.grownBy w34 (some go26) := (by rw [hw]; exact HP33.2); have hp_ : Kd.Q (Kd.int .i64) 3 w34 w.heap.size (fun _ => True) (.slice (some ⟨go26, oo26, none⟩) x111002_1.length co26) y123 := (by rw [hw, Ny123.out]; exact HP33.1); clear HP33; have n0_ := aK (hp_); have n1_ := aK (blk_grown (pB BK101.out) hg (Kd.Q_ne HO_111002.out BK101.out (by decide))); have n2_ := aK (blk_grown (pB BK110.out) hg (Kd.Q_ne HO_111002.out BK110.out (by decide))); have n3_ := aK (IsS42.grown (pI42 HI102.out) hg (IsS42.own_neQ HI102.out HO_111002.out (by decide))); have n4_ := aK ((by rw [hw]; exact below_set (HB.out) GB26.out : Below w.heap.size w w34)); clear HO_111002 BK101 BK110 HI102 HB; have HO_111002 := n0_; have BK101 := n1_; have BK110 := n2_; have HI102 := n3_; have HB := n4_; clear n0_ n1_ n2_ n3_ n4_; clear hg hw hp_))
      have n0_ := aK (Kd.Q_drew HO_111002.out); have n1_ := aK (blk_drew BK101.out); have n2_ := aK (blk_drew BK110.out); have n3_ := aK (IsS42.drew HI102.out); have n4_ := aK (below_drew1 HB.out); clear HO_111002 BK101 BK110 HI102 HB; have HO_111002 := n0_; have BK101 := n1_; have BK110 := n2_; have HI102 := n3_; have HB := n4_; clear n0_ n1_ n2_ n3_ n4_
      refine start_ (n := 10) (S := fun w' => True) (ds := []) #[false, false, false, false, false, false, false, false, false, false] (by kernel_rfl) rfl rfl trivial (fun hHeld => ?_); refine with_tabW spec_DrawCoarsenSum.tab11 spec_DrawCoarsenSum.bits11 (fun HT_ HW_ => ?_)
      generalize w34.drew = w35 at HO_111002 BK101 BK110 HI102 HB hHeld ⊢
      refine pu (i := 1) (N := some 34) #[false, true, false, false, false, false, false, false, false, false] rfl rfl HT_.out ?_
      refine pu (i := 4) (N := some 37) #[false, true, false, false, true, false, false, false, false, false] rfl rfl HT_.out ?_
      refine inv_at [0, 2, 3, 5, 6, 7, 8, 9] (fun a0_ b a w' => ∃ (v125 : Value) (v131 : Value), a = putSel a0_ b [(0, 33, .agg #[.int .i64 4, .int .i64 6, .slice (some ⟨go26, oo26, none⟩) x111002_1.length co26]), (2, 35, v125), (3, 36, .int .i64 t127), (5, 38, v131), (6, 39, .int .i64 t133), (8, 3, .int .i64 t127), (9, 4, .int .i64 t133)] ∧ (Kd.Q (Kd.int .i64) 3 w' w.heap.size (fun _ => True) (.slice (some ⟨go26, oo26, none⟩) x111002_1.length co26) y123) ∧ (b 7 = false → w'.heap[gb101]? = some (.cells #[.int .i64 0, .int .i64 0, .slice none 0 0] 26 (0, 0))) ∧ (w'.heap[gb110]? = some (.cells #[.int .i64 4, .int .i64 6, .slice (some ⟨go26, oo26, none⟩) x111002_1.length co26] 26 (0, 0))) ∧ (b 3 = false → IsS42 w w' gb102 l0 t121 t122) ∧ (Below w.heap.size w w') ∧ (b 2 = true → Kd.R (Kd.int .i64) 3 w' w.heap.size (fun k_ => some k_ ≠ (.slice (some ⟨go26, oo26, none⟩) x111002_1.length co26 : Value).ownBlock) v125 y124) ∧ (b 3 = true → b 6 = false → IsS42 w w' gb102 l0 t128 t129) ∧ (b 5 = true → Kd.R (Kd.int .i64) 3 w' w.heap.size (fun k_ => some k_ ≠ (.slice (some ⟨go26, oo26, none⟩) x111002_1.length co26 : Value).ownBlock) v131 y130) ∧ (b 6 = true → IsS42 w w' gb102 l0 t134 t135) ∧ (b 7 = true → w'.heap[gb101]? = some (.cells #[.int .i64 4, .int .i64 6, .slice (some ⟨go26, oo26, none⟩) x111002_1.length co26] 26 (0, 0)))) HT_.out HW_.out (by kernel_rfl) (by kernel_rfl) ?_ ?_ ?_
      ·
       exact ⟨.bool false, .bool false, by simp only [putSel, Bool.false_eq_true, if_false], HO_111002.out, fun _ => BK101.out, BK110.out, fun _ => HI102.out, HB.out, fun h_ => absurd h_ (by decide), fun h_ => absurd h_ (by decide), fun h_ => absurd h_ (by decide), fun h_ => absurd h_ (by decide), fun h_ => absurd h_ (by decide)⟩
      ·
       skip
       clear BK101 BK110 HB HI102 HO_111002
       refine steps_cons ?_ ?_
       ·
        rintro b a w' ⟨v125, v131, ha, Q_HO_111002, Q_BK101, Q_BK110, Q_HI102, Q_HB, Q_HO126, Q_HI102_e3, Q_HO132, Q_HI102_e6, Q_BK101_e7⟩ hb_ hon hoff
        refine ⟨_, rfl, fun K hK => ?_⟩
        have e6 : a.tmps[6]? = some (.pointer (some ⟨gb110, 0, none⟩)) := by rw [ha]; exact (putSel_off rfl).trans rfl
        replace ha := Aside0.mk ha; have HO_111002 := Aside0.mk Q_HO_111002
        have BK101 := aK (Q_BK101 (hoff 7 (by kernel_rfl)))
        have BK110 := Aside0.mk Q_BK110; have HB := Aside0.mk Q_HB
        have hc0_ : w'.cell? ⟨gb110, 0, none⟩ = some (.int .i64 4) := (blk_cell BK110.out 0).trans rfl
        have hc1_ : w'.cell? ⟨gb110, 1, none⟩ = some (.int .i64 6) := (blk_cell BK110.out 1).trans rfl
        have hc2_ : w'.cell? ⟨gb110, 2, none⟩ = some (.slice (some ⟨go26, oo26, none⟩) x111002_1.length co26) := (blk_cell BK110.out 2).trans rfl
        refine value_ (w1 := w') (v := .agg #[.int .i64 4, .int .i64 6, .slice (some ⟨go26, oo26, none⟩) x111002_1.length co26]) (by rfl) rfl ?_ ?_
        ·
         go_simp
         (try simp only [i64_w])
         try rfl
        refine hK.out _ _ ⟨v125, v131, (by rw [ha.out]; exact putSel_upk 0 hb_ rfl rfl rfl), Q_HO_111002, Q_BK101, Q_BK110, Q_HI102, Q_HB, Q_HO126, Q_HI102_e3, Q_HO132, Q_HI102_e6, fun h0_ => absurd ((hoff 7 (by kernel_rfl)).symm.trans h0_) (by decide)⟩
       refine steps_cons ?_ ?_
       ·
        rintro b a w' ⟨v125, v131, ha, Q_HO_111002, Q_BK101, Q_BK110, Q_HI102, Q_HB, Q_HO126, Q_HI102_e3, Q_HO132, Q_HI102_e6, Q_BK101_e7⟩ hb_ hon hoff
        refine ⟨_, rfl, fun K hK => ?_⟩
        replace ha := Aside0.mk ha; have HO_111002 := Aside0.mk Q_HO_111002
        have BK101 := aK (Q_BK101 (hoff 7 (by kernel_rfl)))
        have BK110 := Aside0.mk Q_BK110
        have HI102 := aK (Q_HI102 (hoff 3 (by kernel_rfl)))
        have HB := Aside0.mk Q_HB
        refine Kd.R_lit_step (Kd.int .i64) _ 3 ?hg (N := 35) ?hd (xs := ([1, 2, 4, 3, 0] : List Int)) (inner := [.int .i64 1, .int .i64 2, .int .i64 4, .int .i64 3, .int .i64 0]) (ok := fun _ => True) (okp := fun _ => True) ?hr ?hp (fun _ hk => hk) trivial (Below.refl _ _) (Nat.le_refl _) (by simp) ?_; (case hd => rfl); (case hg => rfl); (case hr => first | (go_simp; done) | (go_simp; rfl)); (case hp => exact (Reps.one (show Kd.M (Kd.int .i64) _ _ _ 1 [.int .i64 1] from rfl) (Reps.one (show Kd.M (Kd.int .i64) _ _ _ 2 [.int .i64 2] from rfl) (Reps.one (show Kd.M (Kd.int .i64) _ _ _ 4 [.int .i64 4] from rfl) (Reps.one (show Kd.M (Kd.int .i64) _ _ _ 3 [.int .i64 3] from rfl) (Reps.one (show Kd.M (Kd.int .i64) _ _ _ 0 [.int .i64 0] from rfl) (Reps.none _ _)))))))
        intro v125 w36 ho37 hb hg_ hnew_
        clear hg_ hnew_
        (first | rw [← Ny124.out] at ho37 | (simp only [Int.reduceToNat] at ho37; rw [← Ny124.out] at ho37))
        have n0_ := aK (Kd.Q_elder' (pQ HO_111002.out) (Kd.R_base ho37) hb); have n1_ := aK (Kd.R_lower (Kd.R_new' ho37 (Kd.Q_lt (pQ HO_111002.out))) (below_size ((pV HB.out (IsS42.ge HI102.out))))); have n2_ := aK (blk_below (pB BK101.out) hb); have n3_ := aK (blk_below (pB BK110.out) hb); have n4_ := aK (IsS42.below (pI42 HI102.out) hb); have n5_ := aK (below_step ((pV HB.out (IsS42.ge HI102.out))) hb)
        have z_HO132 := fun (h0_ : b 5 = true) => (show Kd.R (Kd.int .i64) 3 w36 w.heap.size (fun k_ => some k_ ≠ (.slice (some ⟨go26, oo26, none⟩) x111002_1.length co26 : Value).ownBlock) v131 y130 from by first | exact (Kd.R_elder' (pR ((Q_HO132 h0_))) (Kd.R_base ho37) hb) | exact Kd.R_mono (Kd.R_elder' (pR ((Q_HO132 h0_))) (Kd.R_base ho37) hb) (fun _ h_ => by first | trivial | exact h_ | exact h_.1))
        clear HO_111002 BK101 BK110 HI102 HB; have HO_111002 := n0_; have HO126 := n1_; have BK101 := n2_; have BK110 := n3_; have HI102 := n4_; have HB := n5_; clear n0_ n1_ n2_ n3_ n4_ n5_ hb ho37
        refine hK.out _ _ ⟨v125, v131, (by rw [ha.out]; exact putSel_upk 1 hb_ rfl rfl rfl), (pQ (Kd.Q_mono HO_111002.out (fun _ hk => by first | trivial | exact hk.2))), fun _ => (pB BK101.out), (pB BK110.out), fun _ => (pI42 HI102.out), ((pV HB.out (IsS42.ge HI102.out))), fun _ => (pR (Kd.R_mono HO126.out (fun _ hk => hk.2))), fun h0_ _ => absurd ((hoff 3 (by kernel_rfl)).symm.trans h0_) (by decide), z_HO132, fun h0_ => absurd ((hoff 6 (by kernel_rfl)).symm.trans h0_) (by decide), fun h0_ => absurd ((hoff 7 (by kernel_rfl)).symm.trans h0_) (by decide)⟩
       refine steps_cons ?_ ?_
       ·
        rintro b a w' ⟨v125, v131, ha, Q_HO_111002, Q_BK101, Q_BK110, Q_HI102, Q_HB, Q_HO126, Q_HI102_e3, Q_HO132, Q_HI102_e6, Q_BK101_e7⟩ hb_ hon hoff
        refine ⟨_, rfl, fun K hK => ?_⟩
        have e34 : a.tmps[34]? = some (.pointer (some ⟨gb102, 0, none⟩)) := by rw [ha]; exact (putSel_off rfl).trans rfl
        have e35 : a.tmps[35]? = some (v125) := by rw [ha]; exact putSel_on (e := (2, 35, v125)) 1 rfl rfl (hon 2 (by kernel_rfl)) rfl
        replace ha := Aside0.mk ha; have HO_111002 := Aside0.mk Q_HO_111002
        have BK101 := aK (Q_BK101 (hoff 7 (by kernel_rfl)))
        have BK110 := Aside0.mk Q_BK110; have HI102 := aK (Q_HI102 hb_); have HB := Aside0.mk Q_HB
        have HO126 := aK (Q_HO126 (hon 2 (by kernel_rfl)))
        obtain ⟨Ao39, co39, eo39⟩ := Kd.R_slice HO126.out
        (first | subst eo39 | (obtain ⟨f4_, f5_⟩ := sI eo39; subst f4_; subst f5_))
        refine goes_ Try.func37 (by kernel_rfl) rfl #[.pointer (some ⟨gb102, 0, none⟩), .slice Ao39 y124.length co39] (by rfl) rfl rfl (by first | (simp only [List.map_toArray, List.map_cons, List.map_nil, Act.eval, Array.getD_eq_getD_getElem?, Option.getD_some, e34, e35]; done) | (simp only [List.map_toArray, List.map_cons, List.map_nil, Act.eval, Array.getD_eq_getD_getElem?, Option.getD_some, e34, e35]; rfl)) ?_
        with_reducible refine (spec_l1Cur_among.calls gb102 l0 t121 t122 _ _ y124 t127 t128 t129 w _ ?side1 ?side2 ?side3 ?side4 ?side5 A27.out).mono ?_
        (case side1 => exact pI42 HI102.out)
        (case side2 => exact pV HB.out (IsS42.ge HI102.out))
        (case side3 => exact pC (Kd.R_reads' HO126.out).2.2)
        (case side4 => exact (Kd.R_reads' HO126.out).2.1)
        (case side5 => exact far_slice (IsS42.own_ne HI102.out HO126.out (by decide)))
        rintro e w40 ⟨rfl, hi, hb, hk⟩
        refine ⟨_, rfl, ?_⟩
        have n0_ := aK (Kd.Q_mono (Kd.Q_keep (IsS42.apartQ (show IsS42 w _ gb102 l0 t121 t122 from pI42 HI102.out) (pQ HO_111002.out) (by decide)) hk (fun _ h => h.2)) (fun _ h => h.1))
        have n1_ := aK (KeepBut.blk hk (pB BK101.out) NB101_102.out (by simp))
        have n2_ := aK (KeepBut.blk hk (pB BK110.out) NB110_102.out (by simp))
        have n3_ := aK (Kd.R_mono (Kd.R_keep (IsS42.apart (show IsS42 w _ gb102 l0 t121 t122 from pI42 HI102.out) (pR HO126.out) (by decide)) hk (fun _ h => h.2)) (fun _ h => h.1))
        have n4_ := aK (hb); have n5_ := aK (hi)
        have z_HO132 := fun (h0_ : b 5 = true) => (show Kd.R (Kd.int .i64) 3 w40 w.heap.size (fun k_ => some k_ ≠ (.slice (some ⟨go26, oo26, none⟩) x111002_1.length co26 : Value).ownBlock) v131 y130 from by first | exact (Kd.R_mono (Kd.R_keep (IsS42.apart (show IsS42 w _ gb102 l0 t121 t122 from pI42 HI102.out) (pR ((Q_HO132 h0_))) (by decide)) hk (fun _ h => h.2)) (fun _ h => h.1)) | exact Kd.R_mono (Kd.R_mono (Kd.R_keep (IsS42.apart (show IsS42 w _ gb102 l0 t121 t122 from pI42 HI102.out) (pR ((Q_HO132 h0_))) (by decide)) hk (fun _ h => h.2)) (fun _ h => h.1)) (fun _ h_ => by first | trivial | exact h_ | exact h_.1))
        clear HO_111002 BK101 BK110 HO126 HB HI102; have HO_111002 := n0_; have BK101 := n1_; have BK110 := n2_; have HO126 := n3_; have HB := n4_; have HI102 := n5_; clear n0_ n1_ n2_ n3_ n4_ n5_
        (try clear hb)
        (try clear hb2)
        (try clear hk)
        (try clear hi)
        refine hK.out _ _ ⟨.slice Ao39 y124.length co39, v131, (by rw [ha.out]; exact putSel_upk 2 hb_ rfl rfl rfl), (pQ HO_111002.out), fun _ => (pB BK101.out), (pB BK110.out), fun h0_ => absurd ((up_self b 3).symm.trans h0_) (by decide), ((pV HB.out (IsS42.ge HI102.out))), fun _ => (pR HO126.out), fun _ _ => (pI42 HI102.out), z_HO132, fun h0_ => absurd ((hoff 6 (by kernel_rfl)).symm.trans h0_) (by decide), fun h0_ => absurd ((hoff 7 (by kernel_rfl)).symm.trans h0_) (by decide)⟩
       refine steps_cons ?_ ?_
       ·
        rintro b a w' ⟨v125, v131, ha, Q_HO_111002, Q_BK101, Q_BK110, Q_HI102, Q_HB, Q_HO126, Q_HI102_e3, Q_HO132, Q_HI102_e6, Q_BK101_e7⟩ hb_ hon hoff
        refine ⟨_, rfl, fun K hK => ?_⟩
        replace ha := Aside0.mk ha; have HO_111002 := Aside0.mk Q_HO_111002
        have BK101 := aK (Q_BK101 (hoff 7 (by kernel_rfl)))
        have BK110 := Aside0.mk Q_BK110; have HB := Aside0.mk Q_HB
        refine Kd.R_lit_step (Kd.int .i64) _ 3 ?hg (N := 38) ?hd (xs := ([1, 2, 3, 6, 5, (-1)] : List Int)) (inner := [.int .i64 1, .int .i64 2, .int .i64 3, .int .i64 6, .int .i64 5, .int .i64 (-1)]) (ok := fun _ => True) (okp := fun _ => True) ?hr ?hp (fun _ hk => hk) trivial (Below.refl _ _) (Nat.le_refl _) (by simp) ?_; (case hd => rfl); (case hg => rfl); (case hr => first | (go_simp; done) | (go_simp; rfl)); (case hp => exact (Reps.one (show Kd.M (Kd.int .i64) _ _ _ 1 [.int .i64 1] from rfl) (Reps.one (show Kd.M (Kd.int .i64) _ _ _ 2 [.int .i64 2] from rfl) (Reps.one (show Kd.M (Kd.int .i64) _ _ _ 3 [.int .i64 3] from rfl) (Reps.one (show Kd.M (Kd.int .i64) _ _ _ 6 [.int .i64 6] from rfl) (Reps.one (show Kd.M (Kd.int .i64) _ _ _ 5 [.int .i64 5] from rfl) (Reps.one (show Kd.M (Kd.int .i64) _ _ _ (-1) [.int .i64 (-1)] from rfl) (Reps.none _ _))))))))
        intro v131 w36 ho37 hb hg_ hnew_
        clear hg_ hnew_
        (first | rw [← Ny130.out] at ho37 | (simp only [Int.reduceToNat] at ho37; rw [← Ny130.out] at ho37))
        have n0_ := aK (Kd.Q_elder' (pQ HO_111002.out) (Kd.R_base ho37) hb); have n1_ := aK (Kd.R_lower (Kd.R_new' ho37 (Kd.Q_lt (pQ HO_111002.out))) (below_size (pS HB.out))); have n2_ := aK (blk_below (pB BK101.out) hb); have n3_ := aK (blk_below (pB BK110.out) hb); have n5_ := aK (below_step (pS HB.out) hb)
        have z_HI102 := fun (h0_ : b 3 = false) => (show IsS42 w w36 gb102 l0 t121 t122 from by first | exact (IsS42.below (by repeat (first | (with_reducible first | exact (Q_HI102 h0_) | apply IsS42.alloc | apply IsS42.drewN | apply IsS42.drew | apply IsS42.set_1 | apply IsS42.set_2 | refine IsS42.far ?_ NB102_101.out _ | refine IsS42.far ?_ NB102_110.out _) | exact (Q_HI102 h0_))) hb))
        have z_HO126 := fun (h0_ : b 2 = true) => (show Kd.R (Kd.int .i64) 3 w36 w.heap.size (fun k_ => some k_ ≠ (.slice (some ⟨go26, oo26, none⟩) x111002_1.length co26 : Value).ownBlock) v125 y124 from by first | exact (Kd.R_elder' (pR ((Q_HO126 h0_))) (Kd.R_base ho37) hb) | exact Kd.R_mono (Kd.R_elder' (pR ((Q_HO126 h0_))) (Kd.R_base ho37) hb) (fun _ h_ => by first | trivial | exact h_ | exact h_.1))
        have z_HI102_e3 := fun (h0_ : b 3 = true) (h1_ : b 6 = false) => (show IsS42 w w36 gb102 l0 t128 t129 from by first | exact (IsS42.below (by repeat (first | (with_reducible first | exact (Q_HI102_e3 h0_ h1_) | apply IsS42.alloc | apply IsS42.drewN | apply IsS42.drew | apply IsS42.set_1 | apply IsS42.set_2 | refine IsS42.far ?_ NB102_101.out _ | refine IsS42.far ?_ NB102_110.out _) | exact (Q_HI102_e3 h0_ h1_))) hb))
        clear HO_111002 BK101 BK110 HB; have HO_111002 := n0_; have HO132 := n1_; have BK101 := n2_; have BK110 := n3_; have HB := n5_; clear n0_ n1_ n2_ n3_ n5_ hb ho37
        refine hK.out _ _ ⟨v125, v131, (by rw [ha.out]; exact putSel_upk 3 hb_ rfl rfl rfl), (pQ (Kd.Q_mono HO_111002.out (fun _ hk => by first | trivial | exact hk.2))), fun _ => (pB BK101.out), (pB BK110.out), z_HI102, (pS HB.out), z_HO126, z_HI102_e3, fun _ => (pR (Kd.R_mono HO132.out (fun _ hk => hk.2))), fun h0_ => absurd ((hoff 6 (by kernel_rfl)).symm.trans h0_) (by decide), fun h0_ => absurd ((hoff 7 (by kernel_rfl)).symm.trans h0_) (by decide)⟩
       refine steps_cons ?_ ?_
       ·
        rintro b a w' ⟨v125, v131, ha, Q_HO_111002, Q_BK101, Q_BK110, Q_HI102, Q_HB, Q_HO126, Q_HI102_e3, Q_HO132, Q_HI102_e6, Q_BK101_e7⟩ hb_ hon hoff
        refine ⟨_, rfl, fun K hK => ?_⟩
        have e37 : a.tmps[37]? = some (.pointer (some ⟨gb102, 0, none⟩)) := by rw [ha]; exact (putSel_off rfl).trans rfl
        have e38 : a.tmps[38]? = some (v131) := by rw [ha]; exact putSel_on (e := (5, 38, v131)) 3 rfl rfl (hon 5 (by kernel_rfl)) rfl
        replace ha := Aside0.mk ha; have HO_111002 := Aside0.mk Q_HO_111002
        have BK101 := aK (Q_BK101 (hoff 7 (by kernel_rfl)))
        have BK110 := Aside0.mk Q_BK110; have HB := Aside0.mk Q_HB
        have HO126 := aK (Q_HO126 (hon 2 (by kernel_rfl)))
        have HI102 := aK (Q_HI102_e3 (hon 3 (by kernel_rfl)) hb_)
        have HO132 := aK (Q_HO132 (hon 5 (by kernel_rfl)))
        obtain ⟨Ao43, co43, eo43⟩ := Kd.R_slice HO132.out
        (first | subst eo43 | (obtain ⟨f4_, f5_⟩ := sI eo43; subst f4_; subst f5_))
        refine goes_ Try.func37 (by kernel_rfl) rfl #[.pointer (some ⟨gb102, 0, none⟩), .slice Ao43 y130.length co43] (by rfl) rfl rfl (by first | (simp only [List.map_toArray, List.map_cons, List.map_nil, Act.eval, Array.getD_eq_getD_getElem?, Option.getD_some, e37, e38]; done) | (simp only [List.map_toArray, List.map_cons, List.map_nil, Act.eval, Array.getD_eq_getD_getElem?, Option.getD_some, e37, e38]; rfl)) ?_
        with_reducible refine (spec_l1Cur_among.calls gb102 l0 t128 t129 _ _ y130 t133 t134 t135 w _ ?side1 ?side2 ?side3 ?side4 ?side5 A28.out).mono ?_
        (case side1 => exact pI42 HI102.out)
        (case side2 => exact pV HB.out (IsS42.ge HI102.out))
        (case side3 => exact pC (Kd.R_reads' HO132.out).2.2)
        (case side4 => exact (Kd.R_reads' HO132.out).2.1)
        (case side5 => exact far_slice (IsS42.own_ne HI102.out HO132.out (by decide)))
        rintro e w44 ⟨rfl, hi, hb, hk⟩
        refine ⟨_, rfl, ?_⟩
        have n0_ := aK (Kd.Q_mono (Kd.Q_keep (IsS42.apartQ (show IsS42 w _ gb102 l0 t128 t129 from pI42 HI102.out) (pQ HO_111002.out) (by decide)) hk (fun _ h => h.2)) (fun _ h => h.1))
        have n1_ := aK (KeepBut.blk hk (pB BK101.out) NB101_102.out (by simp))
        have n2_ := aK (KeepBut.blk hk (pB BK110.out) NB110_102.out (by simp))
        have n3_ := aK (Kd.R_mono (Kd.R_keep (IsS42.apart (show IsS42 w _ gb102 l0 t128 t129 from pI42 HI102.out) (pR HO126.out) (by decide)) hk (fun _ h => h.2)) (fun _ h => h.1))
        have n4_ := aK (Kd.R_mono (Kd.R_keep (IsS42.apart (show IsS42 w _ gb102 l0 t128 t129 from pI42 HI102.out) (pR HO132.out) (by decide)) hk (fun _ h => h.2)) (fun _ h => h.1))
        have n5_ := aK (hb); have n6_ := aK (hi); clear HO_111002 BK101 BK110 HO126 HO132 HB HI102; have HO_111002 := n0_; have BK101 := n1_; have BK110 := n2_; have HO126 := n3_; have HO132 := n4_; have HB := n5_; have HI102 := n6_; clear n0_ n1_ n2_ n3_ n4_ n5_ n6_
        (try clear hb)
        (try clear hb2)
        (try clear hk)
        (try clear hi)
        refine hK.out _ _ ⟨v125, .slice Ao43 y130.length co43, (by rw [ha.out]; exact putSel_upk 4 hb_ rfl rfl rfl), (pQ HO_111002.out), fun _ => (pB BK101.out), (pB BK110.out), fun h0_ => absurd ((hon 3 (by kernel_rfl)).symm.trans h0_) (by decide), ((pV HB.out (IsS42.ge HI102.out))), fun _ => (pR HO126.out), fun _ h1_ => absurd ((up_self b 6).symm.trans h1_) (by decide), fun _ => (pR HO132.out), fun _ => (pI42 HI102.out), fun h0_ => absurd ((hoff 7 (by kernel_rfl)).symm.trans h0_) (by decide)⟩
       refine steps_cons ?_ ?_
       ·
        rintro b a w' ⟨v125, v131, ha, Q_HO_111002, Q_BK101, Q_BK110, Q_HI102, Q_HB, Q_HO126, Q_HI102_e3, Q_HO132, Q_HI102_e6, Q_BK101_e7⟩ hb_ hon hoff
        refine ⟨_, rfl, fun K hK => ?_⟩
        have e2 : a.tmps[2]? = some (.pointer (some ⟨gb101, 0, none⟩)) := by rw [ha]; exact (putSel_off rfl).trans rfl
        have e33 : a.tmps[33]? = some (.agg #[.int .i64 4, .int .i64 6, .slice (some ⟨go26, oo26, none⟩) x111002_1.length co26]) := by rw [ha]; exact putSel_on (e := (0, 33, .agg #[.int .i64 4, .int .i64 6, .slice (some ⟨go26, oo26, none⟩) x111002_1.length co26])) 0 rfl rfl (hon 0 (by kernel_rfl)) rfl
        replace ha := Aside0.mk ha; have HO_111002 := Aside0.mk Q_HO_111002; have BK101 := aK (Q_BK101 hb_); have BK110 := Aside0.mk Q_BK110; have HB := Aside0.mk Q_HB
        have HO126 := aK (Q_HO126 (hon 2 (by kernel_rfl)))
        have HO132 := aK (Q_HO132 (hon 5 (by kernel_rfl)))
        have HI102 := aK (Q_HI102_e6 (hon 6 (by kernel_rfl)))
        have hs45 : w'.cell? ⟨gb101, 0, none⟩ = some (.int .i64 0) := (blk_cell BK101.out 0).trans rfl
        have hfs45 := blk_frozen BK101.out 0; have hns45_1 := NB110_101.out; have hms45_1 := NB101_110.out
        have hs46 : w'.cell? ⟨gb101, 1, none⟩ = some (.int .i64 0) := (blk_cell BK101.out 1).trans rfl
        have hfs46 := blk_frozen BK101.out 1; have hns46_1 := NB110_101.out; have hms46_1 := NB101_110.out
        have hs47 : w'.cell? ⟨gb101, 2, none⟩ = some (.slice none 0 0) := (blk_cell BK101.out 2).trans rfl
        have hfs47 := blk_frozen BK101.out 2; have hns47_1 := NB110_101.out; have hms47_1 := NB101_110.out
        refine skip_ (w1 := ?_) (by rfl) rfl ?_ ?_
        rotate_left
        ·
         go_simp
         rfl
        refine hK.out _ _ ⟨v125, v131, (by rw [ha.out]; exact putSel_none (v := undef) rfl), (pQ (Kd.Q_mono (Kd.Q_far (p := ⟨gb101, 2, none⟩) (Kd.Q_far (p := ⟨gb101, 1, none⟩) (Kd.Q_far (p := ⟨gb101, 0, none⟩) (Kd.Q_types HO_111002.out BK101.out (by decide)) (fun _ hk => hk.2) (.int .i64 4)) (fun _ hk => hk.2) (.int .i64 6)) (fun _ hk => hk.2) (.slice (some ⟨go26, oo26, none⟩) x111002_1.length co26)) (fun _ hk => by first | trivial | exact hk.1.1 | exact hk.1 | exact hk.1.2 | exact hk.2 | exact hk.1.1.1 | exact hk.1.1.2 | exact ⟨hk.1.1, hk.1.2⟩))), fun h0_ => absurd ((up_self b 7).symm.trans h0_) (by decide), (by refine bk ?_; refine blk_far ?_ NB110_101.out _; refine bk ?_; refine blk_far ?_ NB110_101.out _; refine bk ?_; refine blk_far ?_ NB110_101.out _; refine bk ?_; exact BK110.out), fun h0_ => absurd ((hon 3 (by kernel_rfl)).symm.trans h0_) (by decide), ((pV HB.out (IsS42.ge HI102.out))), fun _ => (pR (Kd.R_mono (Kd.R_far (p := ⟨gb101, 2, none⟩) (Kd.R_far (p := ⟨gb101, 1, none⟩) (Kd.R_far (p := ⟨gb101, 0, none⟩) (Kd.R_types HO126.out BK101.out (by decide)) (fun _ hk => hk.2) (.int .i64 4)) (fun _ hk => hk.2) (.int .i64 6)) (fun _ hk => hk.2) (.slice (some ⟨go26, oo26, none⟩) x111002_1.length co26)) (fun _ hk => by first | trivial | exact hk.1.1 | exact hk.1 | exact hk.1.2 | exact hk.2 | exact hk.1.1.1 | exact hk.1.1.2 | exact ⟨hk.1.1, hk.1.2⟩))), fun _ h1_ => absurd ((hon 6 (by kernel_rfl)).symm.trans h1_) (by decide), fun _ => (pR (Kd.R_mono (Kd.R_far (p := ⟨gb101, 2, none⟩) (Kd.R_far (p := ⟨gb101, 1, none⟩) (Kd.R_far (p := ⟨gb101, 0, none⟩) (Kd.R_types HO132.out BK101.out (by decide)) (fun _ hk => hk.2) (.int .i64 4)) (fun _ hk => hk.2) (.int .i64 6)) (fun _ hk => hk.2) (.slice (some ⟨go26, oo26, none⟩) x111002_1.length co26)) (fun _ hk => by first | trivial | exact hk.1.1 | exact hk.1 | exact hk.1.2 | exact hk.2 | exact hk.1.1.1 | exact hk.1.1.2 | exact ⟨hk.1.1, hk.1.2⟩))), fun _ => (pI42 HI102.out), fun _ => (by refine bk ?_; refine blk_put (cs := #[.int .i64 4, .int .i64 6, .slice none 0 0]) ?_ 2 _ rfl; refine bk ?_; refine blk_put (cs := #[.int .i64 4, .int .i64 0, .slice none 0 0]) ?_ 1 _ rfl; refine bk ?_; refine blk_put (cs := #[.int .i64 0, .int .i64 0, .slice none 0 0]) ?_ 0 _ rfl; refine bk ?_; exact BK101.out)⟩
       refine steps_cons ?_ ?_
       ·
        rintro b a w' ⟨v125, v131, ha, Q_HO_111002, Q_BK101, Q_BK110, Q_HI102, Q_HB, Q_HO126, Q_HI102_e3, Q_HO132, Q_HI102_e6, Q_BK101_e7⟩ hb_ hon hoff
        refine ⟨_, rfl, fun K hK => ?_⟩
        have e36 : a.tmps[36]? = some (.int .i64 t127) := by rw [ha]; exact putSel_on (e := (3, 36, .int .i64 t127)) 2 rfl rfl (hon 3 (by kernel_rfl)) rfl
        replace ha := Aside0.mk ha; have HO_111002 := Aside0.mk Q_HO_111002; have BK110 := Aside0.mk Q_BK110; have HB := Aside0.mk Q_HB
        have HO126 := aK (Q_HO126 (hon 2 (by kernel_rfl)))
        have HO132 := aK (Q_HO132 (hon 5 (by kernel_rfl)))
        have HI102 := aK (Q_HI102_e6 (hon 6 (by kernel_rfl)))
        have BK101 := aK (Q_BK101_e7 (hon 7 (by kernel_rfl)))
        refine value_ (w1 := w') (v := .int .i64 t127) (by rfl) rfl ?_ ?_
        ·
         go_simp
         (try simp only [i64_w])
         try rfl
        refine hK.out _ _ ⟨v125, v131, (by rw [ha.out]; exact putSel_upk 5 hb_ rfl rfl rfl), Q_HO_111002, fun h0_ => absurd ((hon 7 (by kernel_rfl)).symm.trans h0_) (by decide), Q_BK110, fun h0_ => absurd ((hon 3 (by kernel_rfl)).symm.trans h0_) (by decide), Q_HB, Q_HO126, fun _ h1_ => absurd ((hon 6 (by kernel_rfl)).symm.trans h1_) (by decide), Q_HO132, Q_HI102_e6, Q_BK101_e7⟩
       refine steps_cons ?_ ?_
       ·
        rintro b a w' ⟨v125, v131, ha, Q_HO_111002, Q_BK101, Q_BK110, Q_HI102, Q_HB, Q_HO126, Q_HI102_e3, Q_HO132, Q_HI102_e6, Q_BK101_e7⟩ hb_ hon hoff
        refine ⟨_, rfl, fun K hK => ?_⟩
        have e39 : a.tmps[39]? = some (.int .i64 t133) := by rw [ha]; exact putSel_on (e := (6, 39, .int .i64 t133)) 4 rfl rfl (hon 6 (by kernel_rfl)) rfl
        replace ha := Aside0.mk ha; have HO_111002 := Aside0.mk Q_HO_111002; have BK110 := Aside0.mk Q_BK110; have HB := Aside0.mk Q_HB
        have HO126 := aK (Q_HO126 (hon 2 (by kernel_rfl)))
        have HO132 := aK (Q_HO132 (hon 5 (by kernel_rfl)))
        have HI102 := aK (Q_HI102_e6 (hon 6 (by kernel_rfl)))
        have BK101 := aK (Q_BK101_e7 (hon 7 (by kernel_rfl)))
        refine value_ (w1 := w') (v := .int .i64 t133) (by rfl) rfl ?_ ?_
        ·
         go_simp
         (try simp only [i64_w])
         try rfl
        refine hK.out _ _ ⟨v125, v131, (by rw [ha.out]; exact putSel_upk 6 hb_ rfl rfl rfl), Q_HO_111002, fun h0_ => absurd ((hon 7 (by kernel_rfl)).symm.trans h0_) (by decide), Q_BK110, fun h0_ => absurd ((hon 3 (by kernel_rfl)).symm.trans h0_) (by decide), Q_HB, Q_HO126, fun _ h1_ => absurd ((hon 6 (by kernel_rfl)).symm.trans h1_) (by decide), Q_HO132, Q_HI102_e6, Q_BK101_e7⟩
       exact steps_nil
      rintro b a w47 hall ⟨v125, v131, ha, Q_HO_111002, Q_BK101, Q_BK110, Q_HI102, Q_HB, Q_HO126, Q_HI102_e3, Q_HO132, Q_HI102_e6, Q_BK101_e7⟩
      clear BK101 BK110 HB HI102 HO_111002
      have hb0_ := hall 0 (by kernel_rfl)
      have hb2_ := hall 2 (by kernel_rfl)
      have hb3_ := hall 3 (by kernel_rfl)
      have hb5_ := hall 5 (by kernel_rfl)
      have hb6_ := hall 6 (by kernel_rfl)
      have hb7_ := hall 7 (by kernel_rfl)
      have hb8_ := hall 8 (by kernel_rfl)
      have hb9_ := hall 9 (by kernel_rfl)
      subst ha
      simp only [putSel, hb0_, hb2_, hb3_, hb5_, hb6_, hb7_, hb8_, hb9_, if_true, Act.put, List.setIfInBounds_toArray, List.set_cons_zero, List.set_cons_succ]
      have HO_111002 := Aside0.mk Q_HO_111002; clear Q_HO_111002 Q_BK101; have BK110 := Aside0.mk Q_BK110; clear Q_BK110 Q_HI102; have HB := Aside0.mk Q_HB; clear Q_HB; have HO126 := aK (Q_HO126 hb2_); clear Q_HO126 Q_HI102_e3; have HO132 := aK (Q_HO132 hb5_); clear Q_HO132; have HI102 := aK (Q_HI102_e6 hb6_); clear Q_HI102_e6; have BK101 := aK (Q_BK101_e7 hb7_); clear Q_BK101_e7 hall hb0_ hb2_ hb3_ hb5_ hb6_ hb7_ hb8_ hb9_
      try go_wp2
      refine bodyPost_ret (results_ctt rfl _ _ gb101 26 #[.int .i64 4, .int .i64 6, .slice (some ⟨go26, oo26, none⟩) x111002_1.length co26] (0, 0) _ rfl (pB BK101.out) Try.underlying26 rfl (by kernel_rfl)) rfl ?_
      exact ⟨_, er, by (with_reducible repeat (first | apply Kd.Q_alloc | apply Kd.Q_drewN | apply Kd.Q_drew)); exact Kd.Q_mono HO_111002.out (fun _ hk => trivial), (pV HB.out (IsS42.ge HI102.out))⟩
     rw [if_neg c25] at H
     exact absurd H (by simp)
    replace c24 := Bool.eq_false_iff.mpr c24; subst c24
    have H1 : ((spec_l1Cur_among.f l0 t121 t122 (([1, 2, 4, 3, 0] : List Int))).bind fun bt139 => ((spec_l1Cur_among.f l0 bt139.2.1 bt139.2.2 (([1, 2, 3, 6, 5, (-1)] : List Int))).bind fun bt145 => (some (4, 6, x111002_1, bt139.1, bt145.1)))) = some (r1, r2, r3, r4, r5) := by rw [if_neg (show ¬ (false = true) by decide)] at H; exact H
    clear H; have H := H1; clear H1
    obtain ⟨y136, hy136⟩ : ∃ y_ : List Int, y_ = (([1, 2, 4, 3, 0] : List Int)) := ⟨_, rfl⟩
    replace H : ((spec_l1Cur_among.f l0 t121 t122 y136).bind fun bt139 => ((spec_l1Cur_among.f l0 bt139.2.1 bt139.2.2 (([1, 2, 3, 6, 5, (-1)] : List Int))).bind fun bt145 => (some (4, 6, x111002_1, bt139.1, bt145.1)))) = some (r1, r2, r3, r4, r5) := by first | (rw [hy136]; with_reducible exact H) | (have H2_ := (Option.bind_some _ _).symm.trans H; rw [hy136]; with_reducible exact H2_) | (have H2_ := (Option.bind_some _ _).symm.trans H; with_reducible exact H2_) | with_reducible exact H | (rw [hy136]; exact H) | exact H
    have Ny136 := Aside0.mk hy136; clear hy136; replace H := Option.bind_eq_some_iff.mp H
    obtain ⟨⟨t139, t140, t141⟩, A480, H⟩ := H
    replace H : ((spec_l1Cur_among.f l0 t140 t141 (([1, 2, 3, 6, 5, (-1)] : List Int))).bind fun bt145 => (some (4, 6, x111002_1, t139, bt145.1))) = some (r1, r2, r3, r4, r5) := H
    have A48 := Aside0.mk A480; clear A480
    obtain ⟨y142, hy142⟩ : ∃ y_ : List Int, y_ = (([1, 2, 3, 6, 5, (-1)] : List Int)) := ⟨_, rfl⟩
    replace H : ((spec_l1Cur_among.f l0 t140 t141 y142).bind fun bt145 => (some (4, 6, x111002_1, t139, bt145.1))) = some (r1, r2, r3, r4, r5) := by first | (rw [hy142]; with_reducible exact H) | (have H2_ := (Option.bind_some _ _).symm.trans H; rw [hy142]; with_reducible exact H2_) | (have H2_ := (Option.bind_some _ _).symm.trans H; with_reducible exact H2_) | with_reducible exact H | (rw [hy142]; exact H) | exact H
    have Ny142 := Aside0.mk hy142; clear hy142; replace H := Option.bind_eq_some_iff.mp H
    obtain ⟨⟨t145, t146, t147⟩, A490, H⟩ := H
    replace H : (some (4, 6, x111002_1, t139, t145)) = some (r1, r2, r3, r4, r5) := H
    have A49 := Aside0.mk A490; clear A490
    simp only [Option.some.injEq, Prod.mk.injEq] at H
    obtain ⟨rfl, rfl, rfl, rfl, rfl⟩ := H
    try go_wp2_with (first | ((with_reducible refine gate_callee (f := 36) rfl ?_); refine gl (some 29) Try.func36 #[.pointer (some ⟨gb102, 0, none⟩), .int .i64 8] ?_; (with_reducible refine (spec_l1Cur_one.calls gb102 l0 x103001_1 x103002_1 8 false t121 t122 w _ ?side1 ?side2 A23.out).mono ?_); (case side1 => exact pI42 HI102.out); (case side2 => exact pV HB.out (IsS42.ge HI102.out)); rintro e w50 ⟨rfl, hi, hb, hk⟩; refine ⟨_, rfl, ?_⟩; have n0_ := aK (Kd.Q_mono (Kd.Q_keep (IsS42.apartQ (show IsS42 w _ gb102 l0 x103001_1 x103002_1 from pI42 HI102.out) (pQ HO_111002.out) (by decide)) hk (fun _ h => h.2)) (fun _ h => h.1)); have n1_ := aK (KeepBut.blk hk (pB BK101.out) NB101_102.out (by simp)); have n2_ := aK (KeepBut.blk hk (pB BK110.out) NB110_102.out (by simp)); have n3_ := aK (hb); have n4_ := aK (hi); clear HO_111002 BK101 BK110 HB HI102; have HO_111002 := n0_; have BK101 := n1_; have BK110 := n2_; have HB := n3_; have HI102 := n4_; clear n0_ n1_ n2_ n3_ n4_; (try clear hb); (try clear hk); (try clear hi)))
    have n0_ := aK (Kd.Q_drew HO_111002.out); have n1_ := aK (blk_drew BK101.out); have n2_ := aK (blk_drew BK110.out); have n3_ := aK (IsS42.drew HI102.out); have n4_ := aK (below_drew1 HB.out); clear HO_111002 BK101 BK110 HI102 HB; have HO_111002 := n0_; have BK101 := n1_; have BK110 := n2_; have HI102 := n3_; have HB := n4_; clear n0_ n1_ n2_ n3_ n4_; obtain ⟨Ao62, co62, eo_, _⟩ := Kd.Q_slice HO_111002.out
    (first | subst eo_ | (injection eo_ with f1_ f2_ f3_; have f4_ := f1_.symm; have f5_ := f3_.symm; clear f1_ f2_ f3_; subst f4_; subst f5_))
    refine start_ (n := 10) (S := fun w' => True) (ds := []) #[false, false, false, false, false, false, false, false, false, false] (by kernel_rfl) rfl rfl trivial (fun hHeld => ?_); refine with_tabW spec_DrawCoarsenSum.tab11 spec_DrawCoarsenSum.bits11 (fun HT_ HW_ => ?_)
    generalize w50.drew = w51 at HO_111002 BK101 BK110 HI102 HB hHeld ⊢
    refine pu (i := 1) (N := some 34) #[false, true, false, false, false, false, false, false, false, false] rfl rfl HT_.out ?_
    refine pu (i := 4) (N := some 37) #[false, true, false, false, true, false, false, false, false, false] rfl rfl HT_.out ?_
    refine inv_at [0, 2, 3, 5, 6, 7, 8, 9] (fun a0_ b a w' => ∃ (v137 : Value) (v143 : Value), a = putSel a0_ b [(0, 33, .agg #[.int .i64 4, .int .i64 6, .slice Ao62 x111002_1.length co62]), (2, 35, v137), (3, 36, .int .i64 t139), (5, 38, v143), (6, 39, .int .i64 t145), (8, 3, .int .i64 t139), (9, 4, .int .i64 t145)] ∧ (b 7 = false → Kd.Q (Kd.int .i64) 3 w' w.heap.size (fun _ => True) (.slice Ao62 x111002_1.length co62) x111002_1) ∧ (b 7 = false → w'.heap[gb101]? = some (.cells #[.int .i64 0, .int .i64 0, .slice none 0 0] 26 (0, 0))) ∧ (b 7 = false → w'.heap[gb110]? = some (.cells #[.int .i64 4, .int .i64 6, (.slice Ao62 x111002_1.length co62)] 26 (0, 0))) ∧ (b 3 = false → IsS42 w w' gb102 l0 t121 t122) ∧ (Below w.heap.size w w') ∧ (b 2 = true → b 7 = false → Kd.R (Kd.int .i64) 3 w' w.heap.size (fun k_ => some k_ ≠ ((.slice Ao62 x111002_1.length co62) : Value).ownBlock) v137 y136) ∧ (b 3 = true → b 6 = false → IsS42 w w' gb102 l0 t140 t141) ∧ (b 5 = true → b 7 = false → Kd.R (Kd.int .i64) 3 w' w.heap.size (fun k_ => some k_ ≠ ((.slice Ao62 x111002_1.length co62) : Value).ownBlock) v143 y142) ∧ (b 6 = true → IsS42 w w' gb102 l0 t146 t147) ∧ (b 7 = true → Kd.R (Kd.int .i64) 3 w' w.heap.size (fun k_ => some k_ ≠ (.slice Ao62 x111002_1.length co62 : Value).ownBlock) v137 y136) ∧ (b 7 = true → Kd.R (Kd.int .i64) 3 w' w.heap.size (fun k_ => some k_ ≠ (.slice Ao62 x111002_1.length co62 : Value).ownBlock) v143 y142) ∧ (b 7 = true → Kd.Q (Kd.int .i64) 3 w' w.heap.size (fun _ => True) (.slice Ao62 x111002_1.length co62) x111002_1) ∧ (b 7 = true → w'.heap[gb101]? = some (.cells #[.int .i64 4, .int .i64 6, .slice Ao62 x111002_1.length co62] 26 (0, 0))) ∧ (b 7 = true → w'.heap[gb110]? = some (.cells #[.int .i64 4, .int .i64 6, .slice Ao62 x111002_1.length co62] 26 (0, 0)))) HT_.out HW_.out (by kernel_rfl) (by kernel_rfl) ?_ ?_ ?_
    ·
     exact ⟨.bool false, .bool false, by simp only [putSel, Bool.false_eq_true, if_false], fun _ => HO_111002.out, fun _ => BK101.out, fun _ => BK110.out, fun _ => HI102.out, HB.out, fun h_ => absurd h_ (by decide), fun h_ => absurd h_ (by decide), fun h_ => absurd h_ (by decide), fun h_ => absurd h_ (by decide), fun h_ => absurd h_ (by decide), fun h_ => absurd h_ (by decide), fun h_ => absurd h_ (by decide), fun h_ => absurd h_ (by decide), fun h_ => absurd h_ (by decide)⟩
    ·
     skip
     clear BK101 BK110 HB HI102 HO_111002
     refine steps_cons ?_ ?_
     ·
      rintro b a w' ⟨v137, v143, ha, Q_HO_111002, Q_BK101, Q_BK110, Q_HI102, Q_HB, Q_HO138, Q_HI102_e3, Q_HO144, Q_HI102_e6, Q_HO138_e7, Q_HO144_e7, Q_HO_111002_e7, Q_BK101_e7, Q_BK110_e7⟩ hb_ hon hoff
      refine ⟨_, rfl, fun K hK => ?_⟩
      have e6 : a.tmps[6]? = some (.pointer (some ⟨gb110, 0, none⟩)) := by rw [ha]; exact (putSel_off rfl).trans rfl
      replace ha := Aside0.mk ha
      have HO_111002 := aK (Q_HO_111002 (hoff 7 (by kernel_rfl)))
      have BK101 := aK (Q_BK101 (hoff 7 (by kernel_rfl)))
      have BK110 := aK (Q_BK110 (hoff 7 (by kernel_rfl)))
      have HB := Aside0.mk Q_HB
      have hc0_ : w'.cell? ⟨gb110, 0, none⟩ = some (.int .i64 4) := (blk_cell BK110.out 0).trans rfl
      have hc1_ : w'.cell? ⟨gb110, 1, none⟩ = some (.int .i64 6) := (blk_cell BK110.out 1).trans rfl
      have hc2_ : w'.cell? ⟨gb110, 2, none⟩ = some ((.slice Ao62 x111002_1.length co62)) := (blk_cell BK110.out 2).trans rfl
      refine value_ (w1 := w') (v := .agg #[.int .i64 4, .int .i64 6, .slice Ao62 x111002_1.length co62]) (by rfl) rfl ?_ ?_
      ·
       go_simp
       (try simp only [i64_w])
       try rfl
      refine hK.out _ _ ⟨v137, v143, (by rw [ha.out]; exact putSel_upk 0 hb_ rfl rfl rfl), Q_HO_111002, Q_BK101, Q_BK110, Q_HI102, Q_HB, Q_HO138, Q_HI102_e3, Q_HO144, Q_HI102_e6, fun h0_ => absurd ((hoff 7 (by kernel_rfl)).symm.trans h0_) (by decide), fun h0_ => absurd ((hoff 7 (by kernel_rfl)).symm.trans h0_) (by decide), fun h0_ => absurd ((hoff 7 (by kernel_rfl)).symm.trans h0_) (by decide), fun h0_ => absurd ((hoff 7 (by kernel_rfl)).symm.trans h0_) (by decide), fun h0_ => absurd ((hoff 7 (by kernel_rfl)).symm.trans h0_) (by decide)⟩
     refine steps_cons ?_ ?_
     ·
      rintro b a w' ⟨v137, v143, ha, Q_HO_111002, Q_BK101, Q_BK110, Q_HI102, Q_HB, Q_HO138, Q_HI102_e3, Q_HO144, Q_HI102_e6, Q_HO138_e7, Q_HO144_e7, Q_HO_111002_e7, Q_BK101_e7, Q_BK110_e7⟩ hb_ hon hoff
      refine ⟨_, rfl, fun K hK => ?_⟩
      replace ha := Aside0.mk ha
      have HO_111002 := aK (Q_HO_111002 (hoff 7 (by kernel_rfl)))
      have BK101 := aK (Q_BK101 (hoff 7 (by kernel_rfl)))
      have BK110 := aK (Q_BK110 (hoff 7 (by kernel_rfl)))
      have HI102 := aK (Q_HI102 (hoff 3 (by kernel_rfl)))
      have HB := Aside0.mk Q_HB
      refine Kd.R_lit_step (Kd.int .i64) _ 3 ?hg (N := 35) ?hd (xs := ([1, 2, 4, 3, 0] : List Int)) (inner := [.int .i64 1, .int .i64 2, .int .i64 4, .int .i64 3, .int .i64 0]) (ok := fun _ => True) (okp := fun _ => True) ?hr ?hp (fun _ hk => hk) trivial (Below.refl _ _) (Nat.le_refl _) (by simp) ?_; (case hd => rfl); (case hg => rfl); (case hr => first | (go_simp; done) | (go_simp; rfl)); (case hp => exact (Reps.one (show Kd.M (Kd.int .i64) _ _ _ 1 [.int .i64 1] from rfl) (Reps.one (show Kd.M (Kd.int .i64) _ _ _ 2 [.int .i64 2] from rfl) (Reps.one (show Kd.M (Kd.int .i64) _ _ _ 4 [.int .i64 4] from rfl) (Reps.one (show Kd.M (Kd.int .i64) _ _ _ 3 [.int .i64 3] from rfl) (Reps.one (show Kd.M (Kd.int .i64) _ _ _ 0 [.int .i64 0] from rfl) (Reps.none _ _)))))))
      intro v137 w52 ho53 hb hg_ hnew_
      clear hg_ hnew_
      (first | rw [← Ny136.out] at ho53 | (simp only [Int.reduceToNat] at ho53; rw [← Ny136.out] at ho53))
      have n0_ := aK (Kd.Q_elder' (pQ HO_111002.out) (Kd.R_base ho53) hb); have n1_ := aK (Kd.R_lower (Kd.R_new' ho53 (Kd.Q_lt (pQ HO_111002.out))) (below_size ((pV HB.out (IsS42.ge HI102.out))))); have n2_ := aK (blk_below (pB BK101.out) hb); have n3_ := aK (blk_below (pB BK110.out) hb); have n4_ := aK (IsS42.below (pI42 HI102.out) hb); have n5_ := aK (below_step ((pV HB.out (IsS42.ge HI102.out))) hb)
      have z_HO144 := fun (h0_ : b 5 = true) (h1_ : b 7 = false) => (show Kd.R (Kd.int .i64) 3 w52 w.heap.size (fun k_ => some k_ ≠ ((.slice Ao62 x111002_1.length co62) : Value).ownBlock) v143 y142 from by first | exact (Kd.R_elder' (pR ((Q_HO144 h0_ h1_))) (Kd.R_base ho53) hb) | exact Kd.R_mono (Kd.R_elder' (pR ((Q_HO144 h0_ h1_))) (Kd.R_base ho53) hb) (fun _ h_ => by first | trivial | exact h_ | exact h_.1))
      clear HO_111002 BK101 BK110 HI102 HB; have HO_111002 := n0_; have HO138 := n1_; have BK101 := n2_; have BK110 := n3_; have HI102 := n4_; have HB := n5_; clear n0_ n1_ n2_ n3_ n4_ n5_ hb ho53
      refine hK.out _ _ ⟨v137, v143, (by rw [ha.out]; exact putSel_upk 1 hb_ rfl rfl rfl), fun _ => (pQ (Kd.Q_mono HO_111002.out (fun _ hk => by first | trivial | exact hk.2))), fun _ => (pB BK101.out), fun _ => (pB BK110.out), fun _ => (pI42 HI102.out), ((pV HB.out (IsS42.ge HI102.out))), fun _ _ => (pR (Kd.R_mono HO138.out (fun _ hk => hk.2))), fun h0_ _ => absurd ((hoff 3 (by kernel_rfl)).symm.trans h0_) (by decide), z_HO144, fun h0_ => absurd ((hoff 6 (by kernel_rfl)).symm.trans h0_) (by decide), fun h0_ => absurd ((hoff 7 (by kernel_rfl)).symm.trans h0_) (by decide), fun h0_ => absurd ((hoff 7 (by kernel_rfl)).symm.trans h0_) (by decide), fun h0_ => absurd ((hoff 7 (by kernel_rfl)).symm.trans h0_) (by decide), fun h0_ => absurd ((hoff 7 (by kernel_rfl)).symm.trans h0_) (by decide), fun h0_ => absurd ((hoff 7 (by kernel_rfl)).symm.trans h0_) (by decide)⟩
     refine steps_cons ?_ ?_
     ·
      rintro b a w' ⟨v137, v143, ha, Q_HO_111002, Q_BK101, Q_BK110, Q_HI102, Q_HB, Q_HO138, Q_HI102_e3, Q_HO144, Q_HI102_e6, Q_HO138_e7, Q_HO144_e7, Q_HO_111002_e7, Q_BK101_e7, Q_BK110_e7⟩ hb_ hon hoff
      refine ⟨_, rfl, fun K hK => ?_⟩
      have e34 : a.tmps[34]? = some (.pointer (some ⟨gb102, 0, none⟩)) := by rw [ha]; exact (putSel_off rfl).trans rfl
      have e35 : a.tmps[35]? = some (v137) := by rw [ha]; exact putSel_on (e := (2, 35, v137)) 1 rfl rfl (hon 2 (by kernel_rfl)) rfl
      replace ha := Aside0.mk ha
      have HO_111002 := aK (Q_HO_111002 (hoff 7 (by kernel_rfl)))
      have BK101 := aK (Q_BK101 (hoff 7 (by kernel_rfl)))
      have BK110 := aK (Q_BK110 (hoff 7 (by kernel_rfl)))
      have HI102 := aK (Q_HI102 hb_); have HB := Aside0.mk Q_HB
      have HO138 := aK (Q_HO138 (hon 2 (by kernel_rfl)) (hoff 7 (by kernel_rfl)))
      obtain ⟨Ao55, co55, eo55⟩ := Kd.R_slice HO138.out
      (first | subst eo55 | (obtain ⟨f4_, f5_⟩ := sI eo55; subst f4_; subst f5_))
      refine goes_ Try.func37 (by kernel_rfl) rfl #[.pointer (some ⟨gb102, 0, none⟩), .slice Ao55 y136.length co55] (by rfl) rfl rfl (by first | (simp only [List.map_toArray, List.map_cons, List.map_nil, Act.eval, Array.getD_eq_getD_getElem?, Option.getD_some, e34, e35]; done) | (simp only [List.map_toArray, List.map_cons, List.map_nil, Act.eval, Array.getD_eq_getD_getElem?, Option.getD_some, e34, e35]; rfl)) ?_
      with_reducible refine (spec_l1Cur_among.calls gb102 l0 t121 t122 _ _ y136 t139 t140 t141 w _ ?side1 ?side2 ?side3 ?side4 ?side5 A48.out).mono ?_
      (case side1 => exact pI42 HI102.out)
      (case side2 => exact pV HB.out (IsS42.ge HI102.out))
      (case side3 => exact pC (Kd.R_reads' HO138.out).2.2)
      (case side4 => exact (Kd.R_reads' HO138.out).2.1)
      (case side5 => exact far_slice (IsS42.own_ne HI102.out HO138.out (by decide)))
      rintro e w56 ⟨rfl, hi, hb, hk⟩
      refine ⟨_, rfl, ?_⟩
      have n0_ := aK (Kd.Q_mono (Kd.Q_keep (IsS42.apartQ (show IsS42 w _ gb102 l0 t121 t122 from pI42 HI102.out) (pQ HO_111002.out) (by decide)) hk (fun _ h => h.2)) (fun _ h => h.1))
      have n1_ := aK (KeepBut.blk hk (pB BK101.out) NB101_102.out (by simp))
      have n2_ := aK (KeepBut.blk hk (pB BK110.out) NB110_102.out (by simp))
      have n3_ := aK (Kd.R_mono (Kd.R_keep (IsS42.apart (show IsS42 w _ gb102 l0 t121 t122 from pI42 HI102.out) (pR HO138.out) (by decide)) hk (fun _ h => h.2)) (fun _ h => h.1))
      have n4_ := aK (hb); have n5_ := aK (hi)
      have z_HO144 := fun (h0_ : b 5 = true) (h1_ : b 7 = false) => (show Kd.R (Kd.int .i64) 3 w56 w.heap.size (fun k_ => some k_ ≠ ((.slice Ao62 x111002_1.length co62) : Value).ownBlock) v143 y142 from by first | exact (Kd.R_mono (Kd.R_keep (IsS42.apart (show IsS42 w _ gb102 l0 t121 t122 from pI42 HI102.out) (pR ((Q_HO144 h0_ h1_))) (by decide)) hk (fun _ h => h.2)) (fun _ h => h.1)) | exact Kd.R_mono (Kd.R_mono (Kd.R_keep (IsS42.apart (show IsS42 w _ gb102 l0 t121 t122 from pI42 HI102.out) (pR ((Q_HO144 h0_ h1_))) (by decide)) hk (fun _ h => h.2)) (fun _ h => h.1)) (fun _ h_ => by first | trivial | exact h_ | exact h_.1))
      clear HO_111002 BK101 BK110 HO138 HB HI102; have HO_111002 := n0_; have BK101 := n1_; have BK110 := n2_; have HO138 := n3_; have HB := n4_; have HI102 := n5_; clear n0_ n1_ n2_ n3_ n4_ n5_
      (try clear hb)
      (try clear hb2)
      (try clear hk)
      (try clear hi)
      refine hK.out _ _ ⟨.slice Ao55 y136.length co55, v143, (by rw [ha.out]; exact putSel_upk 2 hb_ rfl rfl rfl), fun _ => (pQ HO_111002.out), fun _ => (pB BK101.out), fun _ => (pB BK110.out), fun h0_ => absurd ((up_self b 3).symm.trans h0_) (by decide), ((pV HB.out (IsS42.ge HI102.out))), fun _ _ => (pR HO138.out), fun _ _ => (pI42 HI102.out), z_HO144, fun h0_ => absurd ((hoff 6 (by kernel_rfl)).symm.trans h0_) (by decide), fun h0_ => absurd ((hoff 7 (by kernel_rfl)).symm.trans h0_) (by decide), fun h0_ => absurd ((hoff 7 (by kernel_rfl)).symm.trans h0_) (by decide), fun h0_ => absurd ((hoff 7 (by kernel_rfl)).symm.trans h0_) (by decide), fun h0_ => absurd ((hoff 7 (by kernel_rfl)).symm.trans h0_) (by decide), fun h0_ => absurd ((hoff 7 (by kernel_rfl)).symm.trans h0_) (by decide)⟩
     refine steps_cons ?_ ?_
     ·
      rintro b a w' ⟨v137, v143, ha, Q_HO_111002, Q_BK101, Q_BK110, Q_HI102, Q_HB, Q_HO138, Q_HI102_e3, Q_HO144, Q_HI102_e6, Q_HO138_e7, Q_HO144_e7, Q_HO_111002_e7, Q_BK101_e7, Q_BK110_e7⟩ hb_ hon hoff
      refine ⟨_, rfl, fun K hK => ?_⟩
      replace ha := Aside0.mk ha
      have HO_111002 := aK (Q_HO_111002 (hoff 7 (by kernel_rfl)))
      have BK101 := aK (Q_BK101 (hoff 7 (by kernel_rfl)))
      have BK110 := aK (Q_BK110 (hoff 7 (by kernel_rfl)))
      have HB := Aside0.mk Q_HB
      refine Kd.R_lit_step (Kd.int .i64) _ 3 ?hg (N := 38) ?hd (xs := ([1, 2, 3, 6, 5, (-1)] : List Int)) (inner := [.int .i64 1, .int .i64 2, .int .i64 3, .int .i64 6, .int .i64 5, .int .i64 (-1)]) (ok := fun _ => True) (okp := fun _ => True) ?hr ?hp (fun _ hk => hk) trivial (Below.refl _ _) (Nat.le_refl _) (by simp) ?_; (case hd => rfl); (case hg => rfl); (case hr => first | (go_simp; done) | (go_simp; rfl)); (case hp => exact (Reps.one (show Kd.M (Kd.int .i64) _ _ _ 1 [.int .i64 1] from rfl) (Reps.one (show Kd.M (Kd.int .i64) _ _ _ 2 [.int .i64 2] from rfl) (Reps.one (show Kd.M (Kd.int .i64) _ _ _ 3 [.int .i64 3] from rfl) (Reps.one (show Kd.M (Kd.int .i64) _ _ _ 6 [.int .i64 6] from rfl) (Reps.one (show Kd.M (Kd.int .i64) _ _ _ 5 [.int .i64 5] from rfl) (Reps.one (show Kd.M (Kd.int .i64) _ _ _ (-1) [.int .i64 (-1)] from rfl) (Reps.none _ _))))))))
      intro v143 w52 ho53 hb hg_ hnew_
      clear hg_ hnew_
      (first | rw [← Ny142.out] at ho53 | (simp only [Int.reduceToNat] at ho53; rw [← Ny142.out] at ho53))
      have n0_ := aK (Kd.Q_elder' (pQ HO_111002.out) (Kd.R_base ho53) hb); have n1_ := aK (Kd.R_lower (Kd.R_new' ho53 (Kd.Q_lt (pQ HO_111002.out))) (below_size (pS HB.out))); have n2_ := aK (blk_below (pB BK101.out) hb); have n3_ := aK (blk_below (pB BK110.out) hb); have n5_ := aK (below_step (pS HB.out) hb)
      have z_HI102 := fun (h0_ : b 3 = false) => (show IsS42 w w52 gb102 l0 t121 t122 from by first | exact (IsS42.below (by repeat (first | (with_reducible first | exact (Q_HI102 h0_) | apply IsS42.alloc | apply IsS42.drewN | apply IsS42.drew | apply IsS42.set_1 | apply IsS42.set_2 | refine IsS42.far ?_ NB102_101.out _ | refine IsS42.far ?_ NB102_110.out _) | exact (Q_HI102 h0_))) hb))
      have z_HO138 := fun (h0_ : b 2 = true) (h1_ : b 7 = false) => (show Kd.R (Kd.int .i64) 3 w52 w.heap.size (fun k_ => some k_ ≠ ((.slice Ao62 x111002_1.length co62) : Value).ownBlock) v137 y136 from by first | exact (Kd.R_elder' (pR ((Q_HO138 h0_ h1_))) (Kd.R_base ho53) hb) | exact Kd.R_mono (Kd.R_elder' (pR ((Q_HO138 h0_ h1_))) (Kd.R_base ho53) hb) (fun _ h_ => by first | trivial | exact h_ | exact h_.1))
      have z_HI102_e3 := fun (h0_ : b 3 = true) (h1_ : b 6 = false) => (show IsS42 w w52 gb102 l0 t140 t141 from by first | exact (IsS42.below (by repeat (first | (with_reducible first | exact (Q_HI102_e3 h0_ h1_) | apply IsS42.alloc | apply IsS42.drewN | apply IsS42.drew | apply IsS42.set_1 | apply IsS42.set_2 | refine IsS42.far ?_ NB102_101.out _ | refine IsS42.far ?_ NB102_110.out _) | exact (Q_HI102_e3 h0_ h1_))) hb))
      clear HO_111002 BK101 BK110 HB; have HO_111002 := n0_; have HO144 := n1_; have BK101 := n2_; have BK110 := n3_; have HB := n5_; clear n0_ n1_ n2_ n3_ n5_ hb ho53
      refine hK.out _ _ ⟨v137, v143, (by rw [ha.out]; exact putSel_upk 3 hb_ rfl rfl rfl), fun _ => (pQ (Kd.Q_mono HO_111002.out (fun _ hk => by first | trivial | exact hk.2))), fun _ => (pB BK101.out), fun _ => (pB BK110.out), z_HI102, (pS HB.out), z_HO138, z_HI102_e3, fun _ _ => (pR (Kd.R_mono HO144.out (fun _ hk => hk.2))), fun h0_ => absurd ((hoff 6 (by kernel_rfl)).symm.trans h0_) (by decide), fun h0_ => absurd ((hoff 7 (by kernel_rfl)).symm.trans h0_) (by decide), fun h0_ => absurd ((hoff 7 (by kernel_rfl)).symm.trans h0_) (by decide), fun h0_ => absurd ((hoff 7 (by kernel_rfl)).symm.trans h0_) (by decide), fun h0_ => absurd ((hoff 7 (by kernel_rfl)).symm.trans h0_) (by decide), fun h0_ => absurd ((hoff 7 (by kernel_rfl)).symm.trans h0_) (by decide)⟩
     refine steps_cons ?_ ?_
     ·
      rintro b a w' ⟨v137, v143, ha, Q_HO_111002, Q_BK101, Q_BK110, Q_HI102, Q_HB, Q_HO138, Q_HI102_e3, Q_HO144, Q_HI102_e6, Q_HO138_e7, Q_HO144_e7, Q_HO_111002_e7, Q_BK101_e7, Q_BK110_e7⟩ hb_ hon hoff
      refine ⟨_, rfl, fun K hK => ?_⟩
      have e37 : a.tmps[37]? = some (.pointer (some ⟨gb102, 0, none⟩)) := by rw [ha]; exact (putSel_off rfl).trans rfl
      have e38 : a.tmps[38]? = some (v143) := by rw [ha]; exact putSel_on (e := (5, 38, v143)) 3 rfl rfl (hon 5 (by kernel_rfl)) rfl
      replace ha := Aside0.mk ha
      have HO_111002 := aK (Q_HO_111002 (hoff 7 (by kernel_rfl)))
      have BK101 := aK (Q_BK101 (hoff 7 (by kernel_rfl)))
      have BK110 := aK (Q_BK110 (hoff 7 (by kernel_rfl)))
      have HB := Aside0.mk Q_HB
      have HO138 := aK (Q_HO138 (hon 2 (by kernel_rfl)) (hoff 7 (by kernel_rfl)))
      have HI102 := aK (Q_HI102_e3 (hon 3 (by kernel_rfl)) hb_)
      have HO144 := aK (Q_HO144 (hon 5 (by kernel_rfl)) (hoff 7 (by kernel_rfl)))
      obtain ⟨Ao59, co59, eo59⟩ := Kd.R_slice HO144.out
      (first | subst eo59 | (obtain ⟨f4_, f5_⟩ := sI eo59; subst f4_; subst f5_))
      refine goes_ Try.func37 (by kernel_rfl) rfl #[.pointer (some ⟨gb102, 0, none⟩), .slice Ao59 y142.length co59] (by rfl) rfl rfl (by first | (simp only [List.map_toArray, List.map_cons, List.map_nil, Act.eval, Array.getD_eq_getD_getElem?, Option.getD_some, e37, e38]; done) | (simp only [List.map_toArray, List.map_cons, List.map_nil, Act.eval, Array.getD_eq_getD_getElem?, Option.getD_some, e37, e38]; rfl)) ?_
      with_reducible refine (spec_l1Cur_among.calls gb102 l0 t140 t141 _ _ y142 t145 t146 t147 w _ ?side1 ?side2 ?side3 ?side4 ?side5 A49.out).mono ?_
      (case side1 => exact pI42 HI102.out)
      (case side2 => exact pV HB.out (IsS42.ge HI102.out))
      (case side3 => exact pC (Kd.R_reads' HO144.out).2.2)
      (case side4 => exact (Kd.R_reads' HO144.out).2.1)
      (case side5 => exact far_slice (IsS42.own_ne HI102.out HO144.out (by decide)))
      rintro e w60 ⟨rfl, hi, hb, hk⟩
      refine ⟨_, rfl, ?_⟩
      have n0_ := aK (Kd.Q_mono (Kd.Q_keep (IsS42.apartQ (show IsS42 w _ gb102 l0 t140 t141 from pI42 HI102.out) (pQ HO_111002.out) (by decide)) hk (fun _ h => h.2)) (fun _ h => h.1))
      have n1_ := aK (KeepBut.blk hk (pB BK101.out) NB101_102.out (by simp))
      have n2_ := aK (KeepBut.blk hk (pB BK110.out) NB110_102.out (by simp))
      have n3_ := aK (Kd.R_mono (Kd.R_keep (IsS42.apart (show IsS42 w _ gb102 l0 t140 t141 from pI42 HI102.out) (pR HO138.out) (by decide)) hk (fun _ h => h.2)) (fun _ h => h.1))
      have n4_ := aK (Kd.R_mono (Kd.R_keep (IsS42.apart (show IsS42 w _ gb102 l0 t140 t141 from pI42 HI102.out) (pR HO144.out) (by decide)) hk (fun _ h => h.2)) (fun _ h => h.1))
      have n5_ := aK (hb); have n6_ := aK (hi); clear HO_111002 BK101 BK110 HO138 HO144 HB HI102; have HO_111002 := n0_; have BK101 := n1_; have BK110 := n2_; have HO138 := n3_; have HO144 := n4_; have HB := n5_; have HI102 := n6_; clear n0_ n1_ n2_ n3_ n4_ n5_ n6_
      (try clear hb)
      (try clear hb2)
      (try clear hk)
      (try clear hi)
      refine hK.out _ _ ⟨v137, .slice Ao59 y142.length co59, (by rw [ha.out]; exact putSel_upk 4 hb_ rfl rfl rfl), fun _ => (pQ HO_111002.out), fun _ => (pB BK101.out), fun _ => (pB BK110.out), fun h0_ => absurd ((hon 3 (by kernel_rfl)).symm.trans h0_) (by decide), ((pV HB.out (IsS42.ge HI102.out))), fun _ _ => (pR HO138.out), fun _ h1_ => absurd ((up_self b 6).symm.trans h1_) (by decide), fun _ _ => (pR HO144.out), fun _ => (pI42 HI102.out), fun h0_ => absurd ((hoff 7 (by kernel_rfl)).symm.trans h0_) (by decide), fun h0_ => absurd ((hoff 7 (by kernel_rfl)).symm.trans h0_) (by decide), fun h0_ => absurd ((hoff 7 (by kernel_rfl)).symm.trans h0_) (by decide), fun h0_ => absurd ((hoff 7 (by kernel_rfl)).symm.trans h0_) (by decide), fun h0_ => absurd ((hoff 7 (by kernel_rfl)).symm.trans h0_) (by decide)⟩
     refine steps_cons ?_ ?_
     ·
      rintro b a w' ⟨v137, v143, ha, Q_HO_111002, Q_BK101, Q_BK110, Q_HI102, Q_HB, Q_HO138, Q_HI102_e3, Q_HO144, Q_HI102_e6, Q_HO138_e7, Q_HO144_e7, Q_HO_111002_e7, Q_BK101_e7, Q_BK110_e7⟩ hb_ hon hoff
      refine ⟨_, rfl, fun K hK => ?_⟩
      have e2 : a.tmps[2]? = some (.pointer (some ⟨gb101, 0, none⟩)) := by rw [ha]; exact (putSel_off rfl).trans rfl
      have e33 : a.tmps[33]? = some (.agg #[.int .i64 4, .int .i64 6, .slice Ao62 x111002_1.length co62]) := by rw [ha]; exact putSel_on (e := (0, 33, .agg #[.int .i64 4, .int .i64 6, .slice Ao62 x111002_1.length co62])) 0 rfl rfl (hon 0 (by kernel_rfl)) rfl
      replace ha := Aside0.mk ha; have HO_111002 := aK (Q_HO_111002 hb_); have BK101 := aK (Q_BK101 hb_); have BK110 := aK (Q_BK110 hb_); have HB := Aside0.mk Q_HB
      have HO138 := aK (Q_HO138 (hon 2 (by kernel_rfl)) hb_)
      have HO144 := aK (Q_HO144 (hon 5 (by kernel_rfl)) hb_)
      have HI102 := aK (Q_HI102_e6 (hon 6 (by kernel_rfl)))
      have hs61 : w'.cell? ⟨gb101, 0, none⟩ = some (.int .i64 0) := (blk_cell BK101.out 0).trans rfl
      have hfs61 := blk_frozen BK101.out 0; have hns61_1 := NB110_101.out; have hms61_1 := NB101_110.out
      have hs62 : w'.cell? ⟨gb101, 1, none⟩ = some (.int .i64 0) := (blk_cell BK101.out 1).trans rfl
      have hfs62 := blk_frozen BK101.out 1; have hns62_1 := NB110_101.out; have hms62_1 := NB101_110.out
      have hs64 : w'.cell? ⟨gb101, 2, none⟩ = some (.slice none 0 0) := (blk_cell BK101.out 2).trans rfl
      have hfs64 := blk_frozen BK101.out 2; have hns64_1 := NB110_101.out; have hms64_1 := NB101_110.out
      refine skip_ (w1 := ?_) (by rfl) rfl ?_ ?_
      rotate_left
      ·
       go_simp
       rfl
      refine hK.out _ _ ⟨v137, v143, (by rw [ha.out]; exact putSel_none (v := undef) rfl), fun h0_ => absurd ((up_self b 7).symm.trans h0_) (by decide), fun h0_ => absurd ((up_self b 7).symm.trans h0_) (by decide), fun h0_ => absurd ((up_self b 7).symm.trans h0_) (by decide), fun h0_ => absurd ((hon 3 (by kernel_rfl)).symm.trans h0_) (by decide), ((pV HB.out (IsS42.ge HI102.out))), fun _ h1_ => absurd ((up_self b 7).symm.trans h1_) (by decide), fun _ h1_ => absurd ((hon 6 (by kernel_rfl)).symm.trans h1_) (by decide), fun _ h1_ => absurd ((up_self b 7).symm.trans h1_) (by decide), fun _ => (pI42 HI102.out), fun _ => (pR (Kd.R_mono (Kd.R_far (p := ⟨gb101, 2, none⟩) (Kd.R_far (p := ⟨gb101, 1, none⟩) (Kd.R_far (p := ⟨gb101, 0, none⟩) (Kd.R_types HO138.out BK101.out (by decide)) (fun _ hk => hk.2) (.int .i64 4)) (fun _ hk => hk.2) (.int .i64 6)) (fun _ hk => hk.2) (.slice Ao62 x111002_1.length co62)) (fun _ hk => by first | trivial | exact hk.1.1 | exact hk.1 | exact hk.1.2 | exact hk.2 | exact hk.1.1.1 | exact hk.1.1.2 | exact ⟨hk.1.1, hk.1.2⟩))), fun _ => (pR (Kd.R_mono (Kd.R_far (p := ⟨gb101, 2, none⟩) (Kd.R_far (p := ⟨gb101, 1, none⟩) (Kd.R_far (p := ⟨gb101, 0, none⟩) (Kd.R_types HO144.out BK101.out (by decide)) (fun _ hk => hk.2) (.int .i64 4)) (fun _ hk => hk.2) (.int .i64 6)) (fun _ hk => hk.2) (.slice Ao62 x111002_1.length co62)) (fun _ hk => by first | trivial | exact hk.1.1 | exact hk.1 | exact hk.1.2 | exact hk.2 | exact hk.1.1.1 | exact hk.1.1.2 | exact ⟨hk.1.1, hk.1.2⟩))), fun _ => (pQ (Kd.Q_mono (Kd.Q_far (p := ⟨gb101, 2, none⟩) (Kd.Q_far (p := ⟨gb101, 1, none⟩) (Kd.Q_far (p := ⟨gb101, 0, none⟩) (Kd.Q_types HO_111002.out BK101.out (by decide)) (fun _ hk => hk.2) (.int .i64 4)) (fun _ hk => hk.2) (.int .i64 6)) (fun _ hk => hk.2) (.slice Ao62 x111002_1.length co62)) (fun _ hk => by first | trivial | exact hk.1.1 | exact hk.1 | exact hk.1.2 | exact hk.2 | exact hk.1.1.1 | exact hk.1.1.2 | exact ⟨hk.1.1, hk.1.2⟩))), fun _ => (by refine bk ?_; refine blk_put (cs := #[.int .i64 4, .int .i64 6, .slice none 0 0]) ?_ 2 _ rfl; refine bk ?_; refine blk_put (cs := #[.int .i64 4, .int .i64 0, .slice none 0 0]) ?_ 1 _ rfl; refine bk ?_; refine blk_put (cs := #[.int .i64 0, .int .i64 0, .slice none 0 0]) ?_ 0 _ rfl; refine bk ?_; exact BK101.out), fun _ => (by refine bk ?_; refine blk_far ?_ NB110_101.out _; refine bk ?_; refine blk_far ?_ NB110_101.out _; refine bk ?_; refine blk_far ?_ NB110_101.out _; refine bk ?_; exact BK110.out)⟩
     refine steps_cons ?_ ?_
     ·
      rintro b a w' ⟨v137, v143, ha, Q_HO_111002, Q_BK101, Q_BK110, Q_HI102, Q_HB, Q_HO138, Q_HI102_e3, Q_HO144, Q_HI102_e6, Q_HO138_e7, Q_HO144_e7, Q_HO_111002_e7, Q_BK101_e7, Q_BK110_e7⟩ hb_ hon hoff
      refine ⟨_, rfl, fun K hK => ?_⟩
      have e36 : a.tmps[36]? = some (.int .i64 t139) := by rw [ha]; exact putSel_on (e := (3, 36, .int .i64 t139)) 2 rfl rfl (hon 3 (by kernel_rfl)) rfl
      replace ha := Aside0.mk ha; have HB := Aside0.mk Q_HB
      have HI102 := aK (Q_HI102_e6 (hon 6 (by kernel_rfl)))
      have HO138 := aK (Q_HO138_e7 (hon 7 (by kernel_rfl)))
      have HO144 := aK (Q_HO144_e7 (hon 7 (by kernel_rfl)))
      have HO_111002 := aK (Q_HO_111002_e7 (hon 7 (by kernel_rfl)))
      have BK101 := aK (Q_BK101_e7 (hon 7 (by kernel_rfl)))
      have BK110 := aK (Q_BK110_e7 (hon 7 (by kernel_rfl)))
      refine value_ (w1 := w') (v := .int .i64 t139) (by rfl) rfl ?_ ?_
      ·
       go_simp
       (try simp only [i64_w])
       try rfl
      refine hK.out _ _ ⟨v137, v143, (by rw [ha.out]; exact putSel_upk 5 hb_ rfl rfl rfl), fun h0_ => absurd ((hon 7 (by kernel_rfl)).symm.trans h0_) (by decide), fun h0_ => absurd ((hon 7 (by kernel_rfl)).symm.trans h0_) (by decide), fun h0_ => absurd ((hon 7 (by kernel_rfl)).symm.trans h0_) (by decide), fun h0_ => absurd ((hon 3 (by kernel_rfl)).symm.trans h0_) (by decide), Q_HB, fun _ h1_ => absurd ((hon 7 (by kernel_rfl)).symm.trans h1_) (by decide), fun _ h1_ => absurd ((hon 6 (by kernel_rfl)).symm.trans h1_) (by decide), fun _ h1_ => absurd ((hon 7 (by kernel_rfl)).symm.trans h1_) (by decide), Q_HI102_e6, Q_HO138_e7, Q_HO144_e7, Q_HO_111002_e7, Q_BK101_e7, Q_BK110_e7⟩
     refine steps_cons ?_ ?_
     ·
      rintro b a w' ⟨v137, v143, ha, Q_HO_111002, Q_BK101, Q_BK110, Q_HI102, Q_HB, Q_HO138, Q_HI102_e3, Q_HO144, Q_HI102_e6, Q_HO138_e7, Q_HO144_e7, Q_HO_111002_e7, Q_BK101_e7, Q_BK110_e7⟩ hb_ hon hoff
      refine ⟨_, rfl, fun K hK => ?_⟩
      have e39 : a.tmps[39]? = some (.int .i64 t145) := by rw [ha]; exact putSel_on (e := (6, 39, .int .i64 t145)) 4 rfl rfl (hon 6 (by kernel_rfl)) rfl
      replace ha := Aside0.mk ha; have HB := Aside0.mk Q_HB
      have HI102 := aK (Q_HI102_e6 (hon 6 (by kernel_rfl)))
      have HO138 := aK (Q_HO138_e7 (hon 7 (by kernel_rfl)))
      have HO144 := aK (Q_HO144_e7 (hon 7 (by kernel_rfl)))
      have HO_111002 := aK (Q_HO_111002_e7 (hon 7 (by kernel_rfl)))
      have BK101 := aK (Q_BK101_e7 (hon 7 (by kernel_rfl)))
      have BK110 := aK (Q_BK110_e7 (hon 7 (by kernel_rfl)))
      refine value_ (w1 := w') (v := .int .i64 t145) (by rfl) rfl ?_ ?_
      ·
       go_simp
       (try simp only [i64_w])
       try rfl
      refine hK.out _ _ ⟨v137, v143, (by rw [ha.out]; exact putSel_upk 6 hb_ rfl rfl rfl), fun h0_ => absurd ((hon 7 (by kernel_rfl)).symm.trans h0_) (by decide), fun h0_ => absurd ((hon 7 (by kernel_rfl)).symm.trans h0_) (by decide), fun h0_ => absurd ((hon 7 (by kernel_rfl)).symm.trans h0_) (by decide), fun h0_ => absurd ((hon 3 (by kernel_rfl)).symm.trans h0_) (by decide), Q_HB, fun _ h1_ => absurd ((hon 7 (by kernel_rfl)).symm.trans h1_) (by decide), fun _ h1_ => absurd ((hon 6 (by kernel_rfl)).symm.trans h1_) (by decide), fun _ h1_ => absurd ((hon 7 (by kernel_rfl)).symm.trans h1_) (by decide), Q_HI102_e6, Q_HO138_e7, Q_HO144_e7, Q_HO_111002_e7, Q_BK101_e7, Q_BK110_e7⟩
     exact steps_nil
    rintro b a w64 hall ⟨v137, v143, ha, Q_HO_111002, Q_BK101, Q_BK110, Q_HI102, Q_HB, Q_HO138, Q_HI102_e3, Q_HO144, Q_HI102_e6, Q_HO138_e7, Q_HO144_e7, Q_HO_111002_e7, Q_BK101_e7, Q_BK110_e7⟩
    clear BK101 BK110 HB HI102 HO_111002
    have hb0_ := hall 0 (by kernel_rfl)
    have hb2_ := hall 2 (by kernel_rfl)
    have hb3_ := hall 3 (by kernel_rfl)
    have hb5_ := hall 5 (by kernel_rfl)
    have hb6_ := hall 6 (by kernel_rfl)
    have hb7_ := hall 7 (by kernel_rfl)
    have hb8_ := hall 8 (by kernel_rfl)
    have hb9_ := hall 9 (by kernel_rfl)
    subst ha
    simp only [putSel, hb0_, hb2_, hb3_, hb5_, hb6_, hb7_, hb8_, hb9_, if_true, Act.put, List.setIfInBounds_toArray, List.set_cons_zero, List.set_cons_succ]
    clear Q_HO_111002 Q_BK101 Q_BK110 Q_HI102; have HB := Aside0.mk Q_HB; clear Q_HB Q_HO138 Q_HI102_e3 Q_HO144; have HI102 := aK (Q_HI102_e6 hb6_); clear Q_HI102_e6; have HO138 := aK (Q_HO138_e7 hb7_); clear Q_HO138_e7; have HO144 := aK (Q_HO144_e7 hb7_); clear Q_HO144_e7; have HO_111002 := aK (Q_HO_111002_e7 hb7_); clear Q_HO_111002_e7; have BK101 := aK (Q_BK101_e7 hb7_); clear Q_BK101_e7; have BK110 := aK (Q_BK110_e7 hb7_); clear Q_BK110_e7 hall hb0_ hb2_ hb3_ hb5_ hb6_ hb7_ hb8_ hb9_
    try go_wp2
    refine bodyPost_ret (results_ctt rfl _ _ gb101 26 #[.int .i64 4, .int .i64 6, .slice Ao62 x111002_1.length co62] (0, 0) _ rfl (pB BK101.out) Try.underlying26 rfl (by kernel_rfl)) rfl ?_
    exact ⟨_, er, by (with_reducible repeat (first | apply Kd.Q_alloc | apply Kd.Q_drewN | apply Kd.Q_drew)); exact Kd.Q_mono HO_111002.out (fun _ hk => trivial), (pV HB.out (IsS42.ge HI102.out))⟩
 replace c4 := Bool.eq_false_iff.mpr c4
 subst c4
 have H1 : ((spec_l1Cur_among.f l0 t112 t113 (([1, 2, 4, 3, 0] : List Int))).bind fun bt151 => ((spec_l1Cur_among.f l0 bt151.2.1 bt151.2.2 (([1, 2, 3, 6, 5, (-1)] : List Int))).bind fun bt157 => (some (t103, t104, t105, bt151.1, bt157.1)))) = some (r1, r2, r3, r4, r5) := by rw [if_neg (show ¬ (false = true) by decide)] at H; exact H
 clear H
 have H := H1
 clear H1
 obtain ⟨y148, hy148⟩ : ∃ y_ : List Int, y_ = (([1, 2, 4, 3, 0] : List Int)) := ⟨_, rfl⟩
 replace H : ((spec_l1Cur_among.f l0 t112 t113 y148).bind fun bt151 => ((spec_l1Cur_among.f l0 bt151.2.1 bt151.2.2 (([1, 2, 3, 6, 5, (-1)] : List Int))).bind fun bt157 => (some (t103, t104, t105, bt151.1, bt157.1)))) = some (r1, r2, r3, r4, r5) := by first | (rw [hy148]; with_reducible exact H) | (have H2_ := (Option.bind_some _ _).symm.trans H; rw [hy148]; with_reducible exact H2_) | (have H2_ := (Option.bind_some _ _).symm.trans H; with_reducible exact H2_) | with_reducible exact H | (rw [hy148]; exact H) | exact H
 have Ny148 := Aside0.mk hy148
 clear hy148
 replace H := Option.bind_eq_some_iff.mp H
 obtain ⟨⟨t151, t152, t153⟩, A650, H⟩ := H
 replace H : ((spec_l1Cur_among.f l0 t152 t153 (([1, 2, 3, 6, 5, (-1)] : List Int))).bind fun bt157 => (some (t103, t104, t105, t151, bt157.1))) = some (r1, r2, r3, r4, r5) := H
 have A65 := Aside0.mk A650
 clear A650
 obtain ⟨y154, hy154⟩ : ∃ y_ : List Int, y_ = (([1, 2, 3, 6, 5, (-1)] : List Int)) := ⟨_, rfl⟩
 replace H : ((spec_l1Cur_among.f l0 t152 t153 y154).bind fun bt157 => (some (t103, t104, t105, t151, bt157.1))) = some (r1, r2, r3, r4, r5) := by first | (rw [hy154]; with_reducible exact H) | (have H2_ := (Option.bind_some _ _).symm.trans H; rw [hy154]; with_reducible exact H2_) | (have H2_ := (Option.bind_some _ _).symm.trans H; with_reducible exact H2_) | with_reducible exact H | (rw [hy154]; exact H) | exact H
 have Ny154 := Aside0.mk hy154
 clear hy154
 replace H := Option.bind_eq_some_iff.mp H
 obtain ⟨⟨t157, t158, t159⟩, A660, H⟩ := H
 replace H : (some (t103, t104, t105, t151, t157)) = some (r1, r2, r3, r4, r5) := H
 have A66 := Aside0.mk A660
 clear A660
 simp only [Option.some.injEq, Prod.mk.injEq] at H
 obtain ⟨rfl, rfl, rfl, rfl, rfl⟩ := H
 go_enter Try.func10, Try.ntmps10
 try go_wp2_with (first | ((with_reducible refine gate_dst (N := 2) rfl ?_); refine bxe (cs := #[.int .i64 0, .int .i64 0, .slice none 0 0]) (t := 26) ?_; intro gb101 hg w67 hbox hb; have BK101 := aK (hbox); have GW101 := aK (gE hg (pS HB.out)); have GE101 := GW101; replace HB := bS HB hb; clear hb hbox hg) | ((with_reducible refine gate_dst (N := 10) rfl ?_); refine bxe (cs := #[.slice A0 l0.length c0, .int .i64 0, .int .u64 0]) (t := 42) ?_; intro gb102 hg w68 hbox hb; have HI102 := aK ((⟨_, _, hbox, (by rw [hg]; exact (below_size (pS HB.out)) : w.heap.size ≤ gb102), HR0.out⟩ : IsS42 w w68 gb102 l0 0 0)); obtain ⟨NB101_102, NB102_101⟩ := nb hg (pB BK101.out); replace BK101 := bB BK101 hb; replace HB := bS HB hb; clear hb hbox hg) | ((with_reducible refine gate_callee (f := 19) rfl ?_); refine gl (some 12) Try.func19 #[.pointer (some ⟨gb102, 0, none⟩)] ?_; (with_reducible refine (spec_l1Cur_full.calls k gb102 l0 0 0 t103 t104 t105 t108 t109 w _ ?side1 ?side2 A2.out).mono ?_); (case side1 => exact pI42 HI102.out); (case side2 => exact pV HB.out (IsS42.ge HI102.out)); rintro e w69 ⟨v106, rfl, ho0, hi, hb, hk⟩; refine ⟨_, rfl, ?_⟩; have n0_ := aK (KeepBut.blk hk (pB BK101.out) NB101_102.out (by simp)); have HO107 := aK (Kd.Q_lower ho0 (below_size ((pV HB.out (IsS42.ge HI102.out))))); have n2_ := aK (hb); have n3_ := aK (hi); clear BK101 HB HI102; have BK101 := n0_; have HB := n2_; have HI102 := n3_; clear n0_ n2_ n3_; (try clear hb); (try clear hk); (try clear hi); (try clear ho0)) | ((with_reducible refine gate_dst (N := 6) rfl ?_); refine bxe (cs := #[.int .i64 0, .int .i64 0, .slice none 0 0]) (t := 26) ?_; intro gb110 hg w70 hbox hb; have n0_ := aK (Kd.Q_below (pQ HO107.out) hb); have n2_ := aK (IsS42.below (pI42 HI102.out) hb); have n3_ := aK (below_step ((pV HB.out (IsS42.ge HI102.out))) hb); have BK110 := aK (hbox); have GW110 := aK (gE hg ((pV HB.out (IsS42.ge HI102.out)))); have GE110 := aK (gE hg ((pV HB.out (IsS42.ge HI102.out)))); obtain ⟨NB101_110, NB110_101⟩ := nb hg (pB BK101.out); have NB102_110 := aK ((by rw [hg]; exact Nat.ne_of_lt (IsS42.lt (show IsS42 w _ gb102 l0 t108 t109 from pI42 HI102.out)) : gb102 ≠ gb110)); have NB110_102 := aK ((by rw [hg]; exact Nat.ne_of_gt (IsS42.lt (show IsS42 w _ gb102 l0 t108 t109 from pI42 HI102.out)) : gb110 ≠ gb102)); replace BK101 := bB BK101 hb; clear HO107 HI102 HB; have HO107 := n0_; have HI102 := n2_; have HB := n3_; clear n0_ n2_ n3_ hb hbox hg; have hnb71 := NB110_101.out; have hnc71 := NB101_110.out; have hnb72 := NB110_102.out; have hnc72 := NB102_110.out; obtain ⟨hcz73_0, hcz73_1, hcz73_2, hfz73_0, hfz73_1, hfz73_2⟩ := bc3 BK110.out; obtain ⟨Ao74, co74, eo74, _⟩ := Kd.Q_slice HO107.out; subst eo74) | ((with_reducible refine gate_callee (f := 36) rfl ?_); refine gl (some 14) Try.func36 #[.pointer (some ⟨gb102, 0, none⟩), .int .i64 2] ?_; (with_reducible refine (spec_l1Cur_one.calls gb102 l0 t108 t109 2 false t112 t113 w _ ?side1 ?side2 A3.out).mono ?_); (case side1 => exact pI42 HI102.out); (case side2 => exact pV HB.out (IsS42.ge HI102.out)); rintro e w75 ⟨rfl, hi, hb, hk⟩; refine ⟨_, rfl, ?_⟩; have n0_ := aK (KeepBut.blk hk (g' := gb101) (o := .cells #[.int .i64 0, .int .i64 0, .slice none 0 0] 26 (0, 0)) (by refine bk ?_; refine blk_far ?_ NB101_110.out _; refine bk ?_; refine blk_far ?_ NB101_110.out _; refine bk ?_; refine blk_far ?_ NB101_110.out _; refine bk ?_; exact BK101.out) NB101_102.out (by simp)); have n1_ := aK (Kd.Q_mono (Kd.Q_keep (IsS42.apartQ (show IsS42 w _ gb102 l0 t108 t109 from pI42 HI102.out) (pQ (qF3 HO107.out BK110.out (.int .i64 t103) (.int .i64 t104) (.slice Ao74 t105.length co74))) (by decide)) hk (fun _ h => h.2)) (fun _ h => h.1)); have n2_ := aK (KeepBut.blk hk (g' := gb110) (o := .cells #[.int .i64 t103, .int .i64 t104, .slice Ao74 t105.length co74] 26 (0, 0)) (by refine bk ?_; refine blk_put (cs := #[.int .i64 t103, .int .i64 t104, .slice none 0 0]) ?_ 2 _ rfl; refine bk ?_; refine blk_put (cs := #[.int .i64 t103, .int .i64 0, .slice none 0 0]) ?_ 1 _ rfl; refine bk ?_; refine blk_put (cs := #[.int .i64 0, .int .i64 0, .slice none 0 0]) ?_ 0 _ rfl; refine bk ?_; exact BK110.out) NB110_102.out (by simp)); have n3_ := aK (hb); have n4_ := aK (hi); clear BK101 HO107 BK110 HB HI102; have BK101 := n0_; have HO107 := n1_; have BK110 := n2_; have HB := n3_; have HI102 := n4_; clear n0_ n1_ n2_ n3_ n4_; (try clear hb); (try clear hk); (try clear hi)))
 have n0_ := aK (Kd.Q_drew HO107.out)
 have n1_ := aK (blk_drew BK101.out)
 have n2_ := aK (blk_drew BK110.out)
 have n3_ := aK (IsS42.drew HI102.out)
 have n4_ := aK (below_drew1 HB.out)
 clear HO107 BK101 BK110 HI102 HB
 have HO107 := n0_
 have BK101 := n1_
 have BK110 := n2_
 have HI102 := n3_
 have HB := n4_
 clear n0_ n1_ n2_ n3_ n4_
 refine start_ (n := 10) (S := fun w' => True) (ds := []) #[false, false, false, false, false, false, false, false, false, false] (by kernel_rfl) rfl rfl trivial (fun hHeld => ?_); refine with_tabW spec_DrawCoarsenSum.tab11 spec_DrawCoarsenSum.bits11 (fun HT_ HW_ => ?_)
 generalize w75.drew = w76 at HO107 BK101 BK110 HI102 HB hHeld ⊢
 refine pu (i := 1) (N := some 34) #[false, true, false, false, false, false, false, false, false, false] rfl rfl HT_.out ?_
 refine pu (i := 4) (N := some 37) #[false, true, false, false, true, false, false, false, false, false] rfl rfl HT_.out ?_
 refine inv_at [0, 2, 3, 5, 6, 7, 8, 9] (fun a0_ b a w' => ∃ (v149 : Value) (v155 : Value), a = putSel a0_ b [(0, 33, .agg #[.int .i64 t103, .int .i64 t104, .slice Ao74 t105.length co74]), (2, 35, v149), (3, 36, .int .i64 t151), (5, 38, v155), (6, 39, .int .i64 t157), (8, 3, .int .i64 t151), (9, 4, .int .i64 t157)] ∧ (Kd.Q (Kd.int .i64) 3 w' w.heap.size (fun _ => True) (.slice Ao74 t105.length co74) t105) ∧ (b 7 = false → w'.heap[gb101]? = some (.cells #[.int .i64 0, .int .i64 0, .slice none 0 0] 26 (0, 0))) ∧ (w'.heap[gb110]? = some (.cells #[.int .i64 t103, .int .i64 t104, .slice Ao74 t105.length co74] 26 (0, 0))) ∧ (b 3 = false → IsS42 w w' gb102 l0 t112 t113) ∧ (Below w.heap.size w w') ∧ (b 2 = true → Kd.R (Kd.int .i64) 3 w' w.heap.size (fun k_ => some k_ ≠ (.slice Ao74 t105.length co74 : Value).ownBlock) v149 y148) ∧ (b 3 = true → b 6 = false → IsS42 w w' gb102 l0 t152 t153) ∧ (b 5 = true → Kd.R (Kd.int .i64) 3 w' w.heap.size (fun k_ => some k_ ≠ (.slice Ao74 t105.length co74 : Value).ownBlock) v155 y154) ∧ (b 6 = true → IsS42 w w' gb102 l0 t158 t159) ∧ (b 7 = true → w'.heap[gb101]? = some (.cells #[.int .i64 t103, .int .i64 t104, .slice Ao74 t105.length co74] 26 (0, 0)))) HT_.out HW_.out (by kernel_rfl) (by kernel_rfl) ?_ ?_ ?_
 ·
  exact ⟨.bool false, .bool false, by simp only [putSel, Bool.false_eq_true, if_false], HO107.out, fun _ => BK101.out, BK110.out, fun _ => HI102.out, HB.out, fun h_ => absurd h_ (by decide), fun h_ => absurd h_ (by decide), fun h_ => absurd h_ (by decide), fun h_ => absurd h_ (by decide), fun h_ => absurd h_ (by decide)⟩
 ·
  skip
  clear BK101 BK110 HB HI102 HO107
  refine steps_cons ?_ ?_
  ·
   rintro b a w' ⟨v149, v155, ha, Q_HO107, Q_BK101, Q_BK110, Q_HI102, Q_HB, Q_HO150, Q_HI102_e3, Q_HO156, Q_HI102_e6, Q_BK101_e7⟩ hb_ hon hoff
   refine ⟨_, rfl, fun K hK => ?_⟩
   have e6 : a.tmps[6]? = some (.pointer (some ⟨gb110, 0, none⟩)) := by rw [ha]; exact (putSel_off rfl).trans rfl
   replace ha := Aside0.mk ha; have HO107 := Aside0.mk Q_HO107
   have BK101 := aK (Q_BK101 (hoff 7 (by kernel_rfl)))
   have BK110 := Aside0.mk Q_BK110; have HB := Aside0.mk Q_HB
   have hc0_ : w'.cell? ⟨gb110, 0, none⟩ = some (.int .i64 t103) := (blk_cell BK110.out 0).trans rfl
   have hc1_ : w'.cell? ⟨gb110, 1, none⟩ = some (.int .i64 t104) := (blk_cell BK110.out 1).trans rfl
   have hc2_ : w'.cell? ⟨gb110, 2, none⟩ = some (.slice Ao74 t105.length co74) := (blk_cell BK110.out 2).trans rfl
   refine value_ (w1 := w') (v := .agg #[.int .i64 t103, .int .i64 t104, .slice Ao74 t105.length co74]) (by rfl) rfl ?_ ?_
   ·
    go_simp
    (try simp only [i64_w])
    try rfl
   refine hK.out _ _ ⟨v149, v155, (by rw [ha.out]; exact putSel_upk 0 hb_ rfl rfl rfl), Q_HO107, Q_BK101, Q_BK110, Q_HI102, Q_HB, Q_HO150, Q_HI102_e3, Q_HO156, Q_HI102_e6, fun h0_ => absurd ((hoff 7 (by kernel_rfl)).symm.trans h0_) (by decide)⟩
  refine steps_cons ?_ ?_
  ·
   rintro b a w' ⟨v149, v155, ha, Q_HO107, Q_BK101, Q_BK110, Q_HI102, Q_HB, Q_HO150, Q_HI102_e3, Q_HO156, Q_HI102_e6, Q_BK101_e7⟩ hb_ hon hoff
   refine ⟨_, rfl, fun K hK => ?_⟩
   replace ha := Aside0.mk ha; have HO107 := Aside0.mk Q_HO107
   have BK101 := aK (Q_BK101 (hoff 7 (by kernel_rfl)))
   have BK110 := Aside0.mk Q_BK110
   have HI102 := aK (Q_HI102 (hoff 3 (by kernel_rfl)))
   have HB := Aside0.mk Q_HB
   refine Kd.R_lit_step (Kd.int .i64) _ 3 ?hg (N := 35) ?hd (xs := ([1, 2, 4, 3, 0] : List Int)) (inner := [.int .i64 1, .int .i64 2, .int .i64 4, .int .i64 3, .int .i64 0]) (ok := fun _ => True) (okp := fun _ => True) ?hr ?hp (fun _ hk => hk) trivial (Below.refl _ _) (Nat.le_refl _) (by simp) ?_; (case hd => rfl); (case hg => rfl); (case hr => first | (go_simp; done) | (go_simp; rfl)); (case hp => exact (Reps.one (show Kd.M (Kd.int .i64) _ _ _ 1 [.int .i64 1] from rfl) (Reps.one (show Kd.M (Kd.int .i64) _ _ _ 2 [.int .i64 2] from rfl) (Reps.one (show Kd.M (Kd.int .i64) _ _ _ 4 [.int .i64 4] from rfl) (Reps.one (show Kd.M (Kd.int .i64) _ _ _ 3 [.int .i64 3] from rfl) (Reps.one (show Kd.M (Kd.int .i64) _ _ _ 0 [.int .i64 0] from rfl) (Reps.none _ _)))))))
   intro v149 w77 ho78 hb hg_ hnew_
   clear hg_ hnew_
   (first | rw [← Ny148.out] at ho78 | (simp only [Int.reduceToNat] at ho78; rw [← Ny148.out] at ho78))
   have n0_ := aK (Kd.Q_elder' (pQ HO107.out) (Kd.R_base ho78) hb); have n1_ := aK (Kd.R_lower (Kd.R_new' ho78 (Kd.Q_lt (pQ HO107.out))) (below_size ((pV HB.out (IsS42.ge HI102.out))))); have n2_ := aK (blk_below (pB BK101.out) hb); have n3_ := aK (IsS42.below (pI42 HI102.out) hb); have n4_ := aK (blk_below (pB BK110.out) hb); have n5_ := aK (below_step ((pV HB.out (IsS42.ge HI102.out))) hb)
   have z_HO156 := fun (h0_ : b 5 = true) => (show Kd.R (Kd.int .i64) 3 w77 w.heap.size (fun k_ => some k_ ≠ (.slice Ao74 t105.length co74 : Value).ownBlock) v155 y154 from by first | exact (Kd.R_elder' (pR ((Q_HO156 h0_))) (Kd.R_base ho78) hb) | exact Kd.R_mono (Kd.R_elder' (pR ((Q_HO156 h0_))) (Kd.R_base ho78) hb) (fun _ h_ => by first | trivial | exact h_ | exact h_.1))
   clear HO107 BK101 HI102 BK110 HB; have HO107 := n0_; have HO150 := n1_; have BK101 := n2_; have HI102 := n3_; have BK110 := n4_; have HB := n5_; clear n0_ n1_ n2_ n3_ n4_ n5_ hb ho78
   refine hK.out _ _ ⟨v149, v155, (by rw [ha.out]; exact putSel_upk 1 hb_ rfl rfl rfl), (pQ (Kd.Q_mono HO107.out (fun _ hk => by first | trivial | exact hk.2))), fun _ => (pB BK101.out), (pB BK110.out), fun _ => (pI42 HI102.out), ((pV HB.out (IsS42.ge HI102.out))), fun _ => (pR (Kd.R_mono HO150.out (fun _ hk => hk.2))), fun h0_ _ => absurd ((hoff 3 (by kernel_rfl)).symm.trans h0_) (by decide), z_HO156, fun h0_ => absurd ((hoff 6 (by kernel_rfl)).symm.trans h0_) (by decide), fun h0_ => absurd ((hoff 7 (by kernel_rfl)).symm.trans h0_) (by decide)⟩
  refine steps_cons ?_ ?_
  ·
   rintro b a w' ⟨v149, v155, ha, Q_HO107, Q_BK101, Q_BK110, Q_HI102, Q_HB, Q_HO150, Q_HI102_e3, Q_HO156, Q_HI102_e6, Q_BK101_e7⟩ hb_ hon hoff
   refine ⟨_, rfl, fun K hK => ?_⟩
   have e34 : a.tmps[34]? = some (.pointer (some ⟨gb102, 0, none⟩)) := by rw [ha]; exact (putSel_off rfl).trans rfl
   have e35 : a.tmps[35]? = some (v149) := by rw [ha]; exact putSel_on (e := (2, 35, v149)) 1 rfl rfl (hon 2 (by kernel_rfl)) rfl
   replace ha := Aside0.mk ha; have HO107 := Aside0.mk Q_HO107
   have BK101 := aK (Q_BK101 (hoff 7 (by kernel_rfl)))
   have BK110 := Aside0.mk Q_BK110; have HI102 := aK (Q_HI102 hb_); have HB := Aside0.mk Q_HB
   have HO150 := aK (Q_HO150 (hon 2 (by kernel_rfl)))
   obtain ⟨Ao80, co80, eo80⟩ := Kd.R_slice HO150.out
   (first | subst eo80 | (obtain ⟨f4_, f5_⟩ := sI eo80; subst f4_; subst f5_))
   refine goes_ Try.func37 (by kernel_rfl) rfl #[.pointer (some ⟨gb102, 0, none⟩), .slice Ao80 y148.length co80] (by rfl) rfl rfl (by first | (simp only [List.map_toArray, List.map_cons, List.map_nil, Act.eval, Array.getD_eq_getD_getElem?, Option.getD_some, e34, e35]; done) | (simp only [List.map_toArray, List.map_cons, List.map_nil, Act.eval, Array.getD_eq_getD_getElem?, Option.getD_some, e34, e35]; rfl)) ?_
   with_reducible refine (spec_l1Cur_among.calls gb102 l0 t112 t113 _ _ y148 t151 t152 t153 w _ ?side1 ?side2 ?side3 ?side4 ?side5 A65.out).mono ?_
   (case side1 => exact pI42 HI102.out)
   (case side2 => exact pV HB.out (IsS42.ge HI102.out))
   (case side3 => exact pC (Kd.R_reads' HO150.out).2.2)
   (case side4 => exact (Kd.R_reads' HO150.out).2.1)
   (case side5 => exact far_slice (IsS42.own_ne HI102.out HO150.out (by decide)))
   rintro e w81 ⟨rfl, hi, hb, hk⟩
   refine ⟨_, rfl, ?_⟩
   have n0_ := aK (KeepBut.blk hk (pB BK101.out) NB101_102.out (by simp))
   have n1_ := aK (Kd.Q_mono (Kd.Q_keep (IsS42.apartQ (show IsS42 w _ gb102 l0 t112 t113 from pI42 HI102.out) (pQ HO107.out) (by decide)) hk (fun _ h => h.2)) (fun _ h => h.1))
   have n2_ := aK (KeepBut.blk hk (pB BK110.out) NB110_102.out (by simp))
   have n3_ := aK (Kd.R_mono (Kd.R_keep (IsS42.apart (show IsS42 w _ gb102 l0 t112 t113 from pI42 HI102.out) (pR HO150.out) (by decide)) hk (fun _ h => h.2)) (fun _ h => h.1))
   have n4_ := aK (hb); have n5_ := aK (hi)
   have z_HO156 := fun (h0_ : b 5 = true) => (show Kd.R (Kd.int .i64) 3 w81 w.heap.size (fun k_ => some k_ ≠ (.slice Ao74 t105.length co74 : Value).ownBlock) v155 y154 from by first | exact (Kd.R_mono (Kd.R_keep (IsS42.apart (show IsS42 w _ gb102 l0 t112 t113 from pI42 HI102.out) (pR ((Q_HO156 h0_))) (by decide)) hk (fun _ h => h.2)) (fun _ h => h.1)) | exact Kd.R_mono (Kd.R_mono (Kd.R_keep (IsS42.apart (show IsS42 w _ gb102 l0 t112 t113 from pI42 HI102.out) (pR ((Q_HO156 h0_))) (by decide)) hk (fun _ h => h.2)) (fun _ h => h.1)) (fun _ h_ => by first | trivial | exact h_ | exact h_.1))
   clear BK101 HO107 BK110 HO150 HB HI102; have BK101 := n0_; have HO107 := n1_; have BK110 := n2_; have HO150 := n3_; have HB := n4_; have HI102 := n5_; clear n0_ n1_ n2_ n3_ n4_ n5_
   (try clear hb)
   (try clear hb2)
   (try clear hk)
   (try clear hi)
   refine hK.out _ _ ⟨.slice Ao80 y148.length co80, v155, (by rw [ha.out]; exact putSel_upk 2 hb_ rfl rfl rfl), (pQ HO107.out), fun _ => (pB BK101.out), (pB BK110.out), fun h0_ => absurd ((up_self b 3).symm.trans h0_) (by decide), ((pV HB.out (IsS42.ge HI102.out))), fun _ => (pR HO150.out), fun _ _ => (pI42 HI102.out), z_HO156, fun h0_ => absurd ((hoff 6 (by kernel_rfl)).symm.trans h0_) (by decide), fun h0_ => absurd ((hoff 7 (by kernel_rfl)).symm.trans h0_) (by decide)⟩
  refine steps_cons ?_ ?_
  ·
   rintro b a w' ⟨v149, v155, ha, Q_HO107, Q_BK101, Q_BK110, Q_HI102, Q_HB, Q_HO150, Q_HI102_e3, Q_HO156, Q_HI102_e6, Q_BK101_e7⟩ hb_ hon hoff
   refine ⟨_, rfl, fun K hK => ?_⟩
   replace ha := Aside0.mk ha; have HO107 := Aside0.mk Q_HO107
   have BK101 := aK (Q_BK101 (hoff 7 (by kernel_rfl)))
   have BK110 := Aside0.mk Q_BK110; have HB := Aside0.mk Q_HB
   refine Kd.R_lit_step (Kd.int .i64) _ 3 ?hg (N := 38) ?hd (xs := ([1, 2, 3, 6, 5, (-1)] : List Int)) (inner := [.int .i64 1, .int .i64 2, .int .i64 3, .int .i64 6, .int .i64 5, .int .i64 (-1)]) (ok := fun _ => True) (okp := fun _ => True) ?hr ?hp (fun _ hk => hk) trivial (Below.refl _ _) (Nat.le_refl _) (by simp) ?_; (case hd => rfl); (case hg => rfl); (case hr => first | (go_simp; done) | (go_simp; rfl)); (case hp => exact (Reps.one (show Kd.M (Kd.int .i64) _ _ _ 1 [.int .i64 1] from rfl) (Reps.one (show Kd.M (Kd.int .i64) _ _ _ 2 [.int .i64 2] from rfl) (Reps.one (show Kd.M (Kd.int .i64) _ _ _ 3 [.int .i64 3] from rfl) (Reps.one (show Kd.M (Kd.int .i64) _ _ _ 6 [.int .i64 6] from rfl) (Reps.one (show Kd.M (Kd.int .i64) _ _ _ 5 [.int .i64 5] from rfl) (Reps.one (show Kd.M (Kd.int .i64) _ _ _ (-1) [.int .i64 (-1)] from rfl) (Reps.none _ _))))))))
   intro v155 w77 ho78 hb hg_ hnew_
   clear hg_ hnew_
   (first | rw [← Ny154.out] at ho78 | (simp only [Int.reduceToNat] at ho78; rw [← Ny154.out] at ho78))
   have n0_ := aK (Kd.Q_elder' (pQ HO107.out) (Kd.R_base ho78) hb); have n1_ := aK (Kd.R_lower (Kd.R_new' ho78 (Kd.Q_lt (pQ HO107.out))) (below_size (pS HB.out))); have n2_ := aK (blk_below (pB BK101.out) hb); have n4_ := aK (blk_below (pB BK110.out) hb); have n5_ := aK (below_step (pS HB.out) hb)
   have z_HI102 := fun (h0_ : b 3 = false) => (show IsS42 w w77 gb102 l0 t112 t113 from by first | exact (IsS42.below (by repeat (first | (with_reducible first | exact (Q_HI102 h0_) | apply IsS42.alloc | apply IsS42.drewN | apply IsS42.drew | apply IsS42.set_1 | apply IsS42.set_2 | refine IsS42.far ?_ NB102_101.out _ | refine IsS42.far ?_ NB102_110.out _) | exact (Q_HI102 h0_))) hb))
   have z_HO150 := fun (h0_ : b 2 = true) => (show Kd.R (Kd.int .i64) 3 w77 w.heap.size (fun k_ => some k_ ≠ (.slice Ao74 t105.length co74 : Value).ownBlock) v149 y148 from by first | exact (Kd.R_elder' (pR ((Q_HO150 h0_))) (Kd.R_base ho78) hb) | exact Kd.R_mono (Kd.R_elder' (pR ((Q_HO150 h0_))) (Kd.R_base ho78) hb) (fun _ h_ => by first | trivial | exact h_ | exact h_.1))
   have z_HI102_e3 := fun (h0_ : b 3 = true) (h1_ : b 6 = false) => (show IsS42 w w77 gb102 l0 t152 t153 from by first | exact (IsS42.below (by repeat (first | (with_reducible first | exact (Q_HI102_e3 h0_ h1_) | apply IsS42.alloc | apply IsS42.drewN | apply IsS42.drew | apply IsS42.set_1 | apply IsS42.set_2 | refine IsS42.far ?_ NB102_101.out _ | refine IsS42.far ?_ NB102_110.out _) | exact (Q_HI102_e3 h0_ h1_))) hb))
   clear HO107 BK101 BK110 HB; have HO107 := n0_; have HO156 := n1_; have BK101 := n2_; have BK110 := n4_; have HB := n5_; clear n0_ n1_ n2_ n4_ n5_ hb ho78
   refine hK.out _ _ ⟨v149, v155, (by rw [ha.out]; exact putSel_upk 3 hb_ rfl rfl rfl), (pQ (Kd.Q_mono HO107.out (fun _ hk => by first | trivial | exact hk.2))), fun _ => (pB BK101.out), (pB BK110.out), z_HI102, (pS HB.out), z_HO150, z_HI102_e3, fun _ => (pR (Kd.R_mono HO156.out (fun _ hk => hk.2))), fun h0_ => absurd ((hoff 6 (by kernel_rfl)).symm.trans h0_) (by decide), fun h0_ => absurd ((hoff 7 (by kernel_rfl)).symm.trans h0_) (by decide)⟩
  refine steps_cons ?_ ?_
  ·
   rintro b a w' ⟨v149, v155, ha, Q_HO107, Q_BK101, Q_BK110, Q_HI102, Q_HB, Q_HO150, Q_HI102_e3, Q_HO156, Q_HI102_e6, Q_BK101_e7⟩ hb_ hon hoff
   refine ⟨_, rfl, fun K hK => ?_⟩
   have e37 : a.tmps[37]? = some (.pointer (some ⟨gb102, 0, none⟩)) := by rw [ha]; exact (putSel_off rfl).trans rfl
   have e38 : a.tmps[38]? = some (v155) := by rw [ha]; exact putSel_on (e := (5, 38, v155)) 3 rfl rfl (hon 5 (by kernel_rfl)) rfl
   replace ha := Aside0.mk ha; have HO107 := Aside0.mk Q_HO107
   have BK101 := aK (Q_BK101 (hoff 7 (by kernel_rfl)))
   have BK110 := Aside0.mk Q_BK110; have HB := Aside0.mk Q_HB
   have HO150 := aK (Q_HO150 (hon 2 (by kernel_rfl)))
   have HI102 := aK (Q_HI102_e3 (hon 3 (by kernel_rfl)) hb_)
   have HO156 := aK (Q_HO156 (hon 5 (by kernel_rfl)))
   obtain ⟨Ao84, co84, eo84⟩ := Kd.R_slice HO156.out
   (first | subst eo84 | (obtain ⟨f4_, f5_⟩ := sI eo84; subst f4_; subst f5_))
   refine goes_ Try.func37 (by kernel_rfl) rfl #[.pointer (some ⟨gb102, 0, none⟩), .slice Ao84 y154.length co84] (by rfl) rfl rfl (by first | (simp only [List.map_toArray, List.map_cons, List.map_nil, Act.eval, Array.getD_eq_getD_getElem?, Option.getD_some, e37, e38]; done) | (simp only [List.map_toArray, List.map_cons, List.map_nil, Act.eval, Array.getD_eq_getD_getElem?, Option.getD_some, e37, e38]; rfl)) ?_
   with_reducible refine (spec_l1Cur_among.calls gb102 l0 t152 t153 _ _ y154 t157 t158 t159 w _ ?side1 ?side2 ?side3 ?side4 ?side5 A66.out).mono ?_
   (case side1 => exact pI42 HI102.out)
   (case side2 => exact pV HB.out (IsS42.ge HI102.out))
   (case side3 => exact pC (Kd.R_reads' HO156.out).2.2)
   (case side4 => exact (Kd.R_reads' HO156.out).2.1)
   (case side5 => exact far_slice (IsS42.own_ne HI102.out HO156.out (by decide)))
   rintro e w85 ⟨rfl, hi, hb, hk⟩
   refine ⟨_, rfl, ?_⟩
   have n0_ := aK (KeepBut.blk hk (pB BK101.out) NB101_102.out (by simp))
   have n1_ := aK (Kd.Q_mono (Kd.Q_keep (IsS42.apartQ (show IsS42 w _ gb102 l0 t152 t153 from pI42 HI102.out) (pQ HO107.out) (by decide)) hk (fun _ h => h.2)) (fun _ h => h.1))
   have n2_ := aK (KeepBut.blk hk (pB BK110.out) NB110_102.out (by simp))
   have n3_ := aK (Kd.R_mono (Kd.R_keep (IsS42.apart (show IsS42 w _ gb102 l0 t152 t153 from pI42 HI102.out) (pR HO150.out) (by decide)) hk (fun _ h => h.2)) (fun _ h => h.1))
   have n4_ := aK (Kd.R_mono (Kd.R_keep (IsS42.apart (show IsS42 w _ gb102 l0 t152 t153 from pI42 HI102.out) (pR HO156.out) (by decide)) hk (fun _ h => h.2)) (fun _ h => h.1))
   have n5_ := aK (hb); have n6_ := aK (hi); clear BK101 HO107 BK110 HO150 HO156 HB HI102; have BK101 := n0_; have HO107 := n1_; have BK110 := n2_; have HO150 := n3_; have HO156 := n4_; have HB := n5_; have HI102 := n6_; clear n0_ n1_ n2_ n3_ n4_ n5_ n6_
   (try clear hb)
   (try clear hb2)
   (try clear hk)
   (try clear hi)
   refine hK.out _ _ ⟨v149, .slice Ao84 y154.length co84, (by rw [ha.out]; exact putSel_upk 4 hb_ rfl rfl rfl), (pQ HO107.out), fun _ => (pB BK101.out), (pB BK110.out), fun h0_ => absurd ((hon 3 (by kernel_rfl)).symm.trans h0_) (by decide), ((pV HB.out (IsS42.ge HI102.out))), fun _ => (pR HO150.out), fun _ h1_ => absurd ((up_self b 6).symm.trans h1_) (by decide), fun _ => (pR HO156.out), fun _ => (pI42 HI102.out), fun h0_ => absurd ((hoff 7 (by kernel_rfl)).symm.trans h0_) (by decide)⟩
  refine steps_cons ?_ ?_
  ·
   rintro b a w' ⟨v149, v155, ha, Q_HO107, Q_BK101, Q_BK110, Q_HI102, Q_HB, Q_HO150, Q_HI102_e3, Q_HO156, Q_HI102_e6, Q_BK101_e7⟩ hb_ hon hoff
   refine ⟨_, rfl, fun K hK => ?_⟩
   have e2 : a.tmps[2]? = some (.pointer (some ⟨gb101, 0, none⟩)) := by rw [ha]; exact (putSel_off rfl).trans rfl
   have e33 : a.tmps[33]? = some (.agg #[.int .i64 t103, .int .i64 t104, .slice Ao74 t105.length co74]) := by rw [ha]; exact putSel_on (e := (0, 33, .agg #[.int .i64 t103, .int .i64 t104, .slice Ao74 t105.length co74])) 0 rfl rfl (hon 0 (by kernel_rfl)) rfl
   replace ha := Aside0.mk ha; have HO107 := Aside0.mk Q_HO107; have BK101 := aK (Q_BK101 hb_); have BK110 := Aside0.mk Q_BK110; have HB := Aside0.mk Q_HB
   have HO150 := aK (Q_HO150 (hon 2 (by kernel_rfl)))
   have HO156 := aK (Q_HO156 (hon 5 (by kernel_rfl)))
   have HI102 := aK (Q_HI102_e6 (hon 6 (by kernel_rfl)))
   have hs86 : w'.cell? ⟨gb101, 0, none⟩ = some (.int .i64 0) := (blk_cell BK101.out 0).trans rfl
   have hfs86 := blk_frozen BK101.out 0; have hns86_1 := NB110_101.out; have hms86_1 := NB101_110.out
   have hs87 : w'.cell? ⟨gb101, 1, none⟩ = some (.int .i64 0) := (blk_cell BK101.out 1).trans rfl
   have hfs87 := blk_frozen BK101.out 1; have hns87_1 := NB110_101.out; have hms87_1 := NB101_110.out
   have hs88 : w'.cell? ⟨gb101, 2, none⟩ = some (.slice none 0 0) := (blk_cell BK101.out 2).trans rfl
   have hfs88 := blk_frozen BK101.out 2; have hns88_1 := NB110_101.out; have hms88_1 := NB101_110.out
   refine skip_ (w1 := ?_) (by rfl) rfl ?_ ?_
   rotate_left
   ·
    go_simp
    rfl
   refine hK.out _ _ ⟨v149, v155, (by rw [ha.out]; exact putSel_none (v := undef) rfl), (pQ (Kd.Q_mono (Kd.Q_far (p := ⟨gb101, 2, none⟩) (Kd.Q_far (p := ⟨gb101, 1, none⟩) (Kd.Q_far (p := ⟨gb101, 0, none⟩) (Kd.Q_types HO107.out BK101.out (by decide)) (fun _ hk => hk.2) (.int .i64 t103)) (fun _ hk => hk.2) (.int .i64 t104)) (fun _ hk => hk.2) (.slice Ao74 t105.length co74)) (fun _ hk => by first | trivial | exact hk.1.1 | exact hk.1 | exact hk.1.2 | exact hk.2 | exact hk.1.1.1 | exact hk.1.1.2 | exact ⟨hk.1.1, hk.1.2⟩))), fun h0_ => absurd ((up_self b 7).symm.trans h0_) (by decide), (by refine bk ?_; refine blk_far ?_ NB110_101.out _; refine bk ?_; refine blk_far ?_ NB110_101.out _; refine bk ?_; refine blk_far ?_ NB110_101.out _; refine bk ?_; exact BK110.out), fun h0_ => absurd ((hon 3 (by kernel_rfl)).symm.trans h0_) (by decide), ((pV HB.out (IsS42.ge HI102.out))), fun _ => (pR (Kd.R_mono (Kd.R_far (p := ⟨gb101, 2, none⟩) (Kd.R_far (p := ⟨gb101, 1, none⟩) (Kd.R_far (p := ⟨gb101, 0, none⟩) (Kd.R_types HO150.out BK101.out (by decide)) (fun _ hk => hk.2) (.int .i64 t103)) (fun _ hk => hk.2) (.int .i64 t104)) (fun _ hk => hk.2) (.slice Ao74 t105.length co74)) (fun _ hk => by first | trivial | exact hk.1.1 | exact hk.1 | exact hk.1.2 | exact hk.2 | exact hk.1.1.1 | exact hk.1.1.2 | exact ⟨hk.1.1, hk.1.2⟩))), fun _ h1_ => absurd ((hon 6 (by kernel_rfl)).symm.trans h1_) (by decide), fun _ => (pR (Kd.R_mono (Kd.R_far (p := ⟨gb101, 2, none⟩) (Kd.R_far (p := ⟨gb101, 1, none⟩) (Kd.R_far (p := ⟨gb101, 0, none⟩) (Kd.R_types HO156.out BK101.out (by decide)) (fun _ hk => hk.2) (.int .i64 t103)) (fun _ hk => hk.2) (.int .i64 t104)) (fun _ hk => hk.2) (.slice Ao74 t105.length co74)) (fun _ hk => by first | trivial | exact hk.1.1 | exact hk.1 | exact hk.1.2 | exact hk.2 | exact hk.1.1.1 | exact hk.1.1.2 | exact ⟨hk.1.1, hk.1.2⟩))), fun _ => (pI42 HI102.out), fun _ => (by refine bk ?_; refine blk_put (cs := #[.int .i64 t103, .int .i64 t104, .slice none 0 0]) ?_ 2 _ rfl; refine bk ?_; refine blk_put (cs := #[.int .i64 t103, .int .i64 0, .slice none 0 0]) ?_ 1 _ rfl; refine bk ?_; refine blk_put (cs := #[.int .i64 0, .int .i64 0, .slice none 0 0]) ?_ 0 _ rfl; refine bk ?_; exact BK101.out)⟩
  refine steps_cons ?_ ?_
  ·
   rintro b a w' ⟨v149, v155, ha, Q_HO107, Q_BK101, Q_BK110, Q_HI102, Q_HB, Q_HO150, Q_HI102_e3, Q_HO156, Q_HI102_e6, Q_BK101_e7⟩ hb_ hon hoff
   refine ⟨_, rfl, fun K hK => ?_⟩
   have e36 : a.tmps[36]? = some (.int .i64 t151) := by rw [ha]; exact putSel_on (e := (3, 36, .int .i64 t151)) 2 rfl rfl (hon 3 (by kernel_rfl)) rfl
   replace ha := Aside0.mk ha; have HO107 := Aside0.mk Q_HO107; have BK110 := Aside0.mk Q_BK110; have HB := Aside0.mk Q_HB
   have HO150 := aK (Q_HO150 (hon 2 (by kernel_rfl)))
   have HO156 := aK (Q_HO156 (hon 5 (by kernel_rfl)))
   have HI102 := aK (Q_HI102_e6 (hon 6 (by kernel_rfl)))
   have BK101 := aK (Q_BK101_e7 (hon 7 (by kernel_rfl)))
   refine value_ (w1 := w') (v := .int .i64 t151) (by rfl) rfl ?_ ?_
   ·
    go_simp
    (try simp only [i64_w])
    try rfl
   refine hK.out _ _ ⟨v149, v155, (by rw [ha.out]; exact putSel_upk 5 hb_ rfl rfl rfl), Q_HO107, fun h0_ => absurd ((hon 7 (by kernel_rfl)).symm.trans h0_) (by decide), Q_BK110, fun h0_ => absurd ((hon 3 (by kernel_rfl)).symm.trans h0_) (by decide), Q_HB, Q_HO150, fun _ h1_ => absurd ((hon 6 (by kernel_rfl)).symm.trans h1_) (by decide), Q_HO156, Q_HI102_e6, Q_BK101_e7⟩
  refine steps_cons ?_ ?_
  ·
   rintro b a w' ⟨v149, v155, ha, Q_HO107, Q_BK101, Q_BK110, Q_HI102, Q_HB, Q_HO150, Q_HI102_e3, Q_HO156, Q_HI102_e6, Q_BK101_e7⟩ hb_ hon hoff
   refine ⟨_, rfl, fun K hK => ?_⟩
   have e39 : a.tmps[39]? = some (.int .i64 t157) := by rw [ha]; exact putSel_on (e := (6, 39, .int .i64 t157)) 4 rfl rfl (hon 6 (by kernel_rfl)) rfl
   replace ha := Aside0.mk ha; have HO107 := Aside0.mk Q_HO107; have BK110 := Aside0.mk Q_BK110; have HB := Aside0.mk Q_HB
   have HO150 := aK (Q_HO150 (hon 2 (by kernel_rfl)))
   have HO156 := aK (Q_HO156 (hon 5 (by kernel_rfl)))
   have HI102 := aK (Q_HI102_e6 (hon 6 (by kernel_rfl)))
   have BK101 := aK (Q_BK101_e7 (hon 7 (by kernel_rfl)))
   refine value_ (w1 := w') (v := .int .i64 t157) (by rfl) rfl ?_ ?_
   ·
    go_simp
    (try simp only [i64_w])
    try rfl
   refine hK.out _ _ ⟨v149, v155, (by rw [ha.out]; exact putSel_upk 6 hb_ rfl rfl rfl), Q_HO107, fun h0_ => absurd ((hon 7 (by kernel_rfl)).symm.trans h0_) (by decide), Q_BK110, fun h0_ => absurd ((hon 3 (by kernel_rfl)).symm.trans h0_) (by decide), Q_HB, Q_HO150, fun _ h1_ => absurd ((hon 6 (by kernel_rfl)).symm.trans h1_) (by decide), Q_HO156, Q_HI102_e6, Q_BK101_e7⟩
  exact steps_nil
 rintro b a w88 hall ⟨v149, v155, ha, Q_HO107, Q_BK101, Q_BK110, Q_HI102, Q_HB, Q_HO150, Q_HI102_e3, Q_HO156, Q_HI102_e6, Q_BK101_e7⟩
 clear BK101 BK110 HB HI102 HO107
 have hb0_ := hall 0 (by kernel_rfl)
 have hb2_ := hall 2 (by kernel_rfl)
 have hb3_ := hall 3 (by kernel_rfl)
 have hb5_ := hall 5 (by kernel_rfl)
 have hb6_ := hall 6 (by kernel_rfl)
 have hb7_ := hall 7 (by kernel_rfl)
 have hb8_ := hall 8 (by kernel_rfl)
 have hb9_ := hall 9 (by kernel_rfl)
 subst ha
 simp only [putSel, hb0_, hb2_, hb3_, hb5_, hb6_, hb7_, hb8_, hb9_, if_true, Act.put, List.setIfInBounds_toArray, List.set_cons_zero, List.set_cons_succ]
 have HO107 := Aside0.mk Q_HO107
 clear Q_HO107 Q_BK101
 have BK110 := Aside0.mk Q_BK110
 clear Q_BK110 Q_HI102
 have HB := Aside0.mk Q_HB
 clear Q_HB
 have HO150 := aK (Q_HO150 hb2_)
 clear Q_HO150 Q_HI102_e3
 have HO156 := aK (Q_HO156 hb5_)
 clear Q_HO156
 have HI102 := aK (Q_HI102_e6 hb6_)
 clear Q_HI102_e6
 have BK101 := aK (Q_BK101_e7 hb7_)
 clear Q_BK101_e7 hall hb0_ hb2_ hb3_ hb5_ hb6_ hb7_ hb8_ hb9_
 try go_wp2
 refine bodyPost_ret (results_ctt rfl _ _ gb101 26 #[.int .i64 t103, .int .i64 t104, .slice Ao74 t105.length co74] (0, 0) _ rfl (pB BK101.out) Try.underlying26 rfl (by kernel_rfl)) rfl ?_
 exact ⟨_, er, by (with_reducible repeat (first | apply Kd.Q_alloc | apply Kd.Q_drewN | apply Kd.Q_drew)); exact Kd.Q_mono HO107.out (fun _ hk => trivial), (pV HB.out (IsS42.ge HI102.out))⟩
def impl_within.f (a0 : Int) (a1 : Int) (a2 : Int) : Option (Bool) := if a0 ≥ a1 then (some (decide (a0 ≤ a2))) else (some false)
theorem impl_within.calls (a0 : Int) (a1 : Int) (a2 : Int) (r : Bool) (w : World) (h : impl_within.f a0 a1 a2 = some r) :
  Calls Try.prog 44 #[.int .i64 a0, .int .i64 a1, .int .i64 a2] w fun e w' => e = .returned (.bool r) ∧ Drawn0 w w' := by
 have H : (if a0 ≥ a1 then (some (decide (a0 ≤ a2))) else (some false)) = some r := h
 clear h
 by_cases c4 : a0 ≥ a1
 ·
  rw [if_pos c4] at H
  have c4b0 : decide (a1 ≤ a0) = true := decide_eq_true c4
  clear c4
  obtain rfl := Option.some.inj H
  go_enter Try.func44, Try.ntmps44
  go_wp2
  go_ret
  exact ⟨by first | rfl | (simp; done) | (simp [*]; done), by repeat (first | exact Drawn0.refl _ | apply Drawn0.step)⟩
 rw [if_neg c4] at H
 have c4b0 : decide (a1 ≤ a0) = false := decide_eq_false c4
 clear c4
 obtain rfl := Option.some.inj H
 go_enter Try.func44, Try.ntmps44
 go_wp2
 go_ret
 exact ⟨by first | rfl | (simp; done) | (simp [*]; done), by repeat (first | exact Drawn0.refl _ | apply Drawn0.step)⟩
end Go.Proofs.Ythlmikigjhgpdaa.P
namespace Go.Proofs.Ythlmikigjhgpdaa.P
open Go.RowKit Go.Proofs.YthlmikigjhgpdaaW.PrintWords Go.Proofs.YthlmikigjhgpdaaW.PrintLast Go.Proofs.YthlmikigjhgpdaaW.PrintMore
attribute [local go_sem] max2_int min2_int max_two min_two max_three min_three max_four min_four
set_option linter.unusedVariables false
set_option linter.unusedSimpArgs false
def PredOK {α : Type} (g : Nat) (lb : Array Value) (enc : α → Value) (p : α → Bool) (w : World) : Prop :=
  ∀ (x : α) (W : World), Below w.heap.size w W → Calls Try.prog g (#[enc x] ++ lb) W fun e W' => e = .returned (.bool (p x)) ∧ Below W.heap.size W W'
def idxFrom {α : Type} (p : α → Bool) : Nat → List α → Int
  | _, [] => -1
  | i, x :: xs => if p x = true then (i : Int) else idxFrom p (i + 1) xs
theorem idxFrom_hit {α : Type} (p : α → Bool) (z : α) : ∀ (xs : List α) (i k : Nat), k < xs.length → p (xs.getD k z) = true → (∀ j, j < k → p (xs.getD j z) = false) → idxFrom p i xs = ((i + k : Nat) : Int)
  | [], _, k, h, _, _ => by simp at h
  | x :: xs, i, 0, _, h, _ => by simp only [List.getD_cons_zero] at h; simp [idxFrom, h]
  | x :: xs, i, k + 1, hk, h, hb => by
    have h0 : p x = false := by simpa using hb 0 (by omega)
    simp only [idxFrom, h0, Bool.false_eq_true, if_false]
    rw [idxFrom_hit p z xs (i + 1) k (by simpa using hk) (by simpa using h) (fun j hj => by simpa using hb (j + 1) (by omega))]
    congr 1
    omega
theorem idxFrom_miss {α : Type} (p : α → Bool) (z : α) : ∀ (xs : List α) (i : Nat), (∀ j, j < xs.length → p (xs.getD j z) = false) → idxFrom p i xs = -1
  | [], _, _ => rfl
  | x :: xs, i, hb => by
    have h0 : p x = false := by simpa using hb 0 (by simp)
    simp only [idxFrom, h0, Bool.false_eq_true, if_false]
    exact idxFrom_miss p z xs (i + 1) (fun j hj => by simpa using hb (j + 1) (by simpa using hj))
theorem idxFrom_any {α : Type} (p : α → Bool) : ∀ (xs : List α) (i : Nat), decide (idxFrom p i xs ≥ 0) = xs.any p
  | [], _ => rfl
  | x :: xs, i => by
    simp only [idxFrom, List.any_cons]
    by_cases h : p x = true
    · simp [h]
    · rw [Bool.not_eq_true] at h
      simp only [h, Bool.false_eq_true, if_false, Bool.false_or]
      exact idxFrom_any p xs (i + 1)
set_option maxHeartbeats 2000000 in
set_option maxRecDepth 100000 in
theorem indexFunc_int (g : Nat) (lb : Array Value) (p : Int → Bool) (eg : ∀ args w, (callFunc g args).run Try.prog w = .ok (.enter g args) w) (A : Option Addr) (c : Nat) (xs : List Int) (w : World)
    (hr : Kd.C (Kd.int .i64) w A xs.length xs) (hp : PredOK g lb (Value.int .i64) p w) :
    Calls Try.prog 68 #[.slice A xs.length c, .func (.func g) #[] lb] w fun e w' => e = .returned (.int .i64 (idxFrom p 0 xs)) ∧ Below w.heap.size w w' := by
 have hn : xs.length ≤ 9223372036854775807 := hr.2.1
 have HR := Aside0.mk hr
 clear hr
 go_enter Try.func68, Try.ntmps68
 go_wp2
 go_loopg [5, 8] xs.length (fun gg _ s8 wr => ∃ x : Int, s8 = .int .i64 x ∧ Aside0 (0 ≤ x ∧ x ≤ (xs.length : Int) ∧ (xs.length : Int) - x ≤ (gg : Int) ∧ ∀ j : Nat, (j : Int) < x → p (xs.getD j 0) = false) ∧ Below w.heap.size w wr)
 case atStart => exact ⟨0, rfl, ⟨by omega, by omega, by omega, fun j hj => by omega⟩, Below.refl _ _⟩
 case round =>
  obtain ⟨x, rfl, AA, hb⟩ := hrel; have HB := Aside0.mk hb; clear hb
  by_cases hlt : x < (xs.length : Int)
  ·
   have c4b0 : decide (x < (xs.length : Int)) = true := decide_eq_true hlt
   obtain ⟨ad, e0, hcell⟩ := Kd.at_int (Kd.C_below HR.out HB.out) x AA.out.1 hlt; cases e0; have hcall := hp (rd xs x) _ HB.out
   have BB : Aside0 (xs.getD x.toNat 0 = rd xs x) := ⟨rfl⟩
   have p101 := eq_true AA.out.1; have q101 := eq_true hlt; have LT := Aside0.mk hlt; clear hlt
   cases hq : p (rd xs x) with
   | true =>
    rw [hq] at hcall; have HC := Aside0.mk hcall; have HQ := Aside0.mk hq; clear hcall hq
    go_wp2_with fail
    refine HC.out.mono ?_
    rintro e w' ⟨rfl, hb'⟩
    have HB2 := Aside0.mk hb'; clear hb'
    go_wp2_with fail
    go_ret
    have hA := AA.out; have hl := LT.out
    refine ⟨?_, below_then HB.out HB.out.size HB2.out⟩
    rw [idxFrom_hit p 0 xs 0 x.toNat (by omega) (by rw [BB.out]; exact HQ.out) (fun j hj => hA.2.2.2 j (by omega))]
    rw [show ((0 + x.toNat : Nat) : Int) = x by omega]
    rfl
   | false =>
    rw [hq] at hcall; have HC := Aside0.mk hcall; have HQ := Aside0.mk hq; clear hcall hq
    go_wp2_with fail
    refine HC.out.mono ?_
    rintro e w' ⟨rfl, hb'⟩
    have HB2 := Aside0.mk hb'; clear hb'
    go_wp2_with fail
    go_roundg (xs.length - (x.toNat + 1))
    case measure => have hA := AA.out; have hl := LT.out; omega
    case rel =>
     have hA := AA.out; have hl := LT.out
     refine ⟨x + 1, by (first | rfl | (congr 1; unfold wrap64; omega)), ⟨by omega, by omega, by omega, fun j hj => ?_⟩, below_then HB.out HB.out.size HB2.out⟩
     by_cases e : (j : Int) = x
     ·
      have e2 : j = x.toNat := by omega
      rw [e2, BB.out]; exact HQ.out
     exact hA.2.2.2 j (by omega)
  have c4b0 : decide (x < (xs.length : Int)) = false := decide_eq_false hlt
  have LT := Aside0.mk hlt; clear hlt
  go_wp2_with fail
  go_ret
  have hA := AA.out; have hl := LT.out
  refine ⟨?_, HB.out⟩
  rw [idxFrom_miss p 0 xs 0 (fun j hj => hA.2.2.2 j (by omega))]
  rfl
set_option maxHeartbeats 2000000 in
set_option maxRecDepth 100000 in
theorem containsFunc_int (g : Nat) (lb : Array Value) (p : Int → Bool) (eg : ∀ args w, (callFunc g args).run Try.prog w = .ok (.enter g args) w) (A : Option Addr) (c : Nat) (xs : List Int) (w : World)
    (hr : Kd.C (Kd.int .i64) w A xs.length xs) (hp : PredOK g lb (Value.int .i64) p w) :
    Calls Try.prog 60 #[.slice A xs.length c, .func (.func g) #[] lb] w fun e w' => e = .returned (.bool (xs.any p)) ∧ Below w.heap.size w w' := by
 rw [← idxFrom_any p xs 0]
 go_enter Try.func60, Try.ntmps60
 go_wp2_with (go_at_call 68; refine (indexFunc_int g lb p eg A c xs _ hr hp).mono ?_; rintro e w' ⟨rfl, hb'⟩)
 go_ret
 exact ⟨rfl, by assumption⟩
end Go.Proofs.Ythlmikigjhgpdaa.P
namespace Go.Proofs.Ythlmikigjhgpdaa.P
open Go.RowKit Go.Proofs.YthlmikigjhgpdaaW.PrintWords Go.Proofs.YthlmikigjhgpdaaW.PrintLast Go.Proofs.YthlmikigjhgpdaaW.PrintMore
attribute [local go_sem] max2_int min2_int max_two min_two max_three min_three max_four min_four
set_option linter.unusedVariables false
set_option linter.unusedSimpArgs false
set_option maxHeartbeats 8000000
set_option maxRecDepth 100000
def impl_isCell.f (a0 : Int) : Option (Bool) := if a0 = (-9999) then (some true) else ((impl_within.f a0 (-9000) 9000).bind fun t101 => (some t101))
theorem impl_isCell.calls (a0 : Int) (r : Bool) (w : World) (h : impl_isCell.f a0 = some r) :
  Calls Try.prog 62 #[.int .i64 a0] w fun e w' => e = .returned (.bool r) ∧ Drawn0 w w' := by
 have H : (if a0 = (-9999) then (some true) else ((impl_within.f a0 (-9000) 9000).bind fun t101 => (some t101))) = some r := h
 clear h
 by_cases c2 : a0 = (-9999)
 ·
  rw [if_pos c2] at H
  have c2b0 : (a0 == (-9999)) = true := beq_iff_eq.mpr c2
  have c2b1 : (a0 != (-9999)) = false := bne_eq_false_iff_eq.mpr c2
  clear c2
  obtain rfl := Option.some.inj H
  go_enter Try.func62, Try.ntmps62
  go_wp2
  go_ret
  exact ⟨by first | rfl | (simp; done) | (simp [*]; done), by repeat (first | exact Drawn0.refl _ | apply Drawn0.step)⟩
 rw [if_neg c2] at H
 have c2b0 : (a0 == (-9999)) = false := beq_eq_false_iff_ne.mpr c2
 have c2b1 : (a0 != (-9999)) = true := bne_iff_ne.mpr c2
 replace H := Option.bind_eq_some_iff.mp H
 obtain ⟨t101, A30, H⟩ := H
 replace H : (some t101) = some r := H
 have A3 := Aside0.mk A30
 clear A30
 obtain rfl := Option.some.inj H
 go_enter Try.func62, Try.ntmps62
 go_wp2_with (first | (go_at_call 44; (with_reducible refine (impl_within.calls a0 (-9000) 9000 t101 _ A3.out).mono ?_); rintro e w' ⟨rfl, ⟨nd, rfl⟩⟩))
 go_ret
 exact ⟨by first | rfl | (simp; done) | (simp [*]; done), by repeat (first | exact Drawn0.refl _ | apply Drawn0.step)⟩
def impl_IsValidField_1.f (a0 : Int) : Option (Bool) := (impl_isCell.f a0).bind fun t101 => (some (!t101))
theorem impl_IsValidField_1.calls (a0 : Int) (r : Bool) (w : World) (h : impl_IsValidField_1.f a0 = some r) :
  Calls Try.prog 61 #[.int .i64 a0] w fun e w' => e = .returned (.bool r) ∧ Drawn0 w w' := by
 have H : ((impl_isCell.f a0).bind fun t101 => (some (!t101))) = some r := h
 clear h
 replace H := Option.bind_eq_some_iff.mp H
 obtain ⟨t101, A20, H⟩ := H
 replace H : (some (!t101)) = some r := H
 have A2 := Aside0.mk A20
 clear A20
 obtain rfl := Option.some.inj H
 go_enter Try.func61, Try.ntmps61
 go_wp2_with (first | ((with_reducible refine gate_callee (f := 62) rfl ?_); refine gl (some 4) Try.func62 #[.int .i64 a0] ?_; (with_reducible refine (impl_isCell.calls a0 t101 _ A2.out).mono ?_); rintro e w' ⟨rfl, ⟨nd, rfl⟩⟩; refine ⟨_, rfl, ?_⟩))
 go_ret
 exact ⟨by first | rfl | (simp; done) | (simp [*]; done), by repeat (first | exact Drawn0.refl _ | apply Drawn0.step)⟩
end Go.Proofs.Ythlmikigjhgpdaa.P
namespace Go.Proofs.Ythlmikigjhgpdaa.P
open Go.RowKit Go.Proofs.YthlmikigjhgpdaaW.PrintWords Go.Proofs.YthlmikigjhgpdaaW.PrintLast Go.Proofs.YthlmikigjhgpdaaW.PrintMore
attribute [local go_sem] max2_int min2_int max_two min_two max_three min_three max_four min_four
set_option linter.unusedVariables false
set_option linter.unusedSimpArgs false
def slices_ContainsFunc_int_at_impl_IsValidField_1.p (x : Int) : Bool := !(decide (x = -9999) || (decide (-9000 ≤ x) && decide (x ≤ 9000)))
def slices_ContainsFunc_int_at_impl_IsValidField_1.f (l0 : List Int) : Option Bool := some (l0.any slices_ContainsFunc_int_at_impl_IsValidField_1.p)
theorem slices_ContainsFunc_int_at_impl_IsValidField_1.one (x : Int) : impl_IsValidField_1.f x = some (slices_ContainsFunc_int_at_impl_IsValidField_1.p x) := by
 unfold impl_IsValidField_1.f impl_isCell.f impl_within.f slices_ContainsFunc_int_at_impl_IsValidField_1.p
 by_cases h : x = -9999
 ·
  simp [h]
 by_cases h1 : -9000 ≤ x <;> simp [h, h1]
theorem slices_ContainsFunc_int_at_impl_IsValidField_1.calls (A0 : Option Addr) (c0 : Nat) (l0 : List Int) (r : Bool) (w : World) (hr0 : Kd.C (Kd.int .i64) w A0 l0.length l0) (_hc0 : l0.length ≤ c0) (h : slices_ContainsFunc_int_at_impl_IsValidField_1.f l0 = some r) :
    Calls Try.prog 60 #[.slice A0 l0.length c0, .func (.func 61) #[] #[]] w fun e w' => e = .returned (.bool r) ∧ Below w.heap.size w w' := by
 obtain rfl := Option.some.inj h
 refine containsFunc_int 61 #[] _ (fun args w => enters_ Try.func61 (by kernel_rfl) rfl args w) A0 c0 l0 w hr0 (fun x W _ => ?_)
 refine (impl_IsValidField_1.calls x _ W (slices_ContainsFunc_int_at_impl_IsValidField_1.one x)).mono ?_
 rintro e w' ⟨rfl, hd⟩
 exact ⟨rfl, hd.below⟩
end Go.Proofs.Ythlmikigjhgpdaa.P
namespace Go.Proofs.Ythlmikigjhgpdaa.P
open Go.RowKit Go.Proofs.YthlmikigjhgpdaaW.PrintWords Go.Proofs.YthlmikigjhgpdaaW.PrintLast Go.Proofs.YthlmikigjhgpdaaW.PrintMore
attribute [local go_sem] max2_int min2_int max_two min_two max_three min_three max_four min_four
set_option linter.unusedVariables false
set_option linter.unusedSimpArgs false
set_option maxHeartbeats 8000000
set_option maxRecDepth 100000
def impl_IsValidField.f (a0_0 : Int) (a0_1 : Int) (l0_2 : List Int) : Option (Bool) := (impl_within.f a0_0 1 8).bind fun t102 => (if t102 = true then ((impl_within.f a0_1 1 8).bind fun t103 => (if t103 = true then (if (l0_2.length : Int) = (wrap64 (a0_0 * a0_1)) then ((slices_ContainsFunc_int_at_impl_IsValidField_1.f l0_2).bind fun t104 => (some (!t104))) else (some false)) else (some false))) else (some false))
theorem impl_IsValidField.calls (a0_0 : Int) (a0_1 : Int) (A0_2 : Option Addr) (c0_2 : Nat) (l0_2 : List Int) (r : Bool) (w : World) (hr0_2 : Kd.C (Kd.int .i64) w A0_2 l0_2.length l0_2) (hc0_2 : l0_2.length ≤ c0_2) (h : impl_IsValidField.f a0_0 a0_1 l0_2 = some r) :
  Calls Try.prog 50 #[.agg #[.int .i64 a0_0, .int .i64 a0_1, .slice A0_2 l0_2.length c0_2]] w fun e w' => e = .returned (.bool r) ∧ Below w.heap.size w w' := by
 have hu26 := Try.underlying26
 have HR0_2 := Aside0.mk hr0_2
 have HC0_2 := Aside0.mk hc0_2
 clear hr0_2 hc0_2
 have HB := aK (Below.refl w.heap.size w)
 have H : ((impl_within.f a0_0 1 8).bind fun t102 => (if t102 = true then ((impl_within.f a0_1 1 8).bind fun t103 => (if t103 = true then (if (l0_2.length : Int) = (wrap64 (a0_0 * a0_1)) then ((slices_ContainsFunc_int_at_impl_IsValidField_1.f l0_2).bind fun t104 => (some (!t104))) else (some false)) else (some false))) else (some false))) = some r := h
 clear h
 replace H := Option.bind_eq_some_iff.mp H
 obtain ⟨t102, A20, H⟩ := H
 replace H : (if t102 = true then ((impl_within.f a0_1 1 8).bind fun t103 => (if t103 = true then (if (l0_2.length : Int) = (wrap64 (a0_0 * a0_1)) then ((slices_ContainsFunc_int_at_impl_IsValidField_1.f l0_2).bind fun t104 => (some (!t104))) else (some false)) else (some false))) else (some false)) = some r := H
 have A2 := Aside0.mk A20
 clear A20
 by_cases c3 : t102 = true
 ·
  subst c3
  have H1 : ((impl_within.f a0_1 1 8).bind fun t103 => (if t103 = true then (if (l0_2.length : Int) = (wrap64 (a0_0 * a0_1)) then ((slices_ContainsFunc_int_at_impl_IsValidField_1.f l0_2).bind fun t104 => (some (!t104))) else (some false)) else (some false))) = some r := by rw [if_pos rfl] at H; exact H
  clear H; have H := H1; clear H1; replace H := Option.bind_eq_some_iff.mp H; obtain ⟨t103, A40, H⟩ := H
  replace H : (if t103 = true then (if (l0_2.length : Int) = (wrap64 (a0_0 * a0_1)) then ((slices_ContainsFunc_int_at_impl_IsValidField_1.f l0_2).bind fun t104 => (some (!t104))) else (some false)) else (some false)) = some r := H
  have A4 := Aside0.mk A40; clear A40
  by_cases c5 : t103 = true
  ·
   subst c5
   have H1 : (if (l0_2.length : Int) = (wrap64 (a0_0 * a0_1)) then ((slices_ContainsFunc_int_at_impl_IsValidField_1.f l0_2).bind fun t104 => (some (!t104))) else (some false)) = some r := by rw [if_pos rfl] at H; exact H
   clear H; have H := H1; clear H1
   by_cases c6 : (l0_2.length : Int) = (wrap64 (a0_0 * a0_1))
   ·
    rw [if_pos c6] at H
    have c6b0 : ((l0_2.length : Int) == (wrap64 (a0_0 * a0_1))) = true := beq_iff_eq.mpr c6
    have c6b1 : ((l0_2.length : Int) != (wrap64 (a0_0 * a0_1))) = false := bne_eq_false_iff_eq.mpr c6
    clear c6; replace H := Option.bind_eq_some_iff.mp H; obtain ⟨t104, A70, H⟩ := H
    replace H : (some (!t104)) = some r := H
    have A7 := Aside0.mk A70; clear A70
    obtain rfl := Option.some.inj H
    go_enter Try.func50, Try.ntmps50
    go_wp2_with (first | ((with_reducible refine gate_dst (N := 1) rfl ?_); (try (refine gate_guard (by rfl) ?_; dsimp only)); refine bxe (cs := #[.int .i64 a0_0, .int .i64 a0_1, .slice A0_2 l0_2.length c0_2]) (t := 26) ?_; intro gb101 hg w8 hbox hb; have BK101 := aK (hbox); have GW101 := aK (gE hg (pS HB.out)); have GE101 := GW101; replace HB := bS HB hb; clear hb hbox hg; obtain ⟨hcz9_0, hcz9_1, hcz9_2, hfz9_0, hfz9_1, hfz9_2⟩ := bc3 BK101.out) | ((with_reducible refine gate_callee (f := 44) rfl ?_); refine gl (some 5) Try.func44 #[.int .i64 a0_0, .int .i64 1, .int .i64 8] ?_; (with_reducible refine (impl_within.calls a0_0 1 8 true _ A2.out).mono ?_); rintro e w' ⟨rfl, ⟨nd, rfl⟩⟩; refine ⟨_, rfl, ?_⟩) | (go_at_call 44; (with_reducible refine (impl_within.calls a0_1 1 8 true _ A4.out).mono ?_); rintro e w' ⟨rfl, ⟨nd, rfl⟩⟩) | (go_at_call 60; (with_reducible refine (slices_ContainsFunc_int_at_impl_IsValidField_1.calls _ _ l0_2 t104 _ ?side1 ?side2 A7.out).mono ?_); (case side1 => exact pC (Kd.C_below HR0_2.out (pS HB.out))); (case side2 => exact HC0_2.out); rintro e w10 ⟨rfl, hb⟩; replace BK101 := bB BK101 hb; replace HB := bS HB hb; (try clear hb); (try clear hb2); (try clear hk); (try clear hi)))
    go_ret
    exact ⟨er, pT HB.out⟩
   rw [if_neg c6] at H
   have c6b0 : ((l0_2.length : Int) == (wrap64 (a0_0 * a0_1))) = false := beq_eq_false_iff_ne.mpr c6
   have c6b1 : ((l0_2.length : Int) != (wrap64 (a0_0 * a0_1))) = true := bne_iff_ne.mpr c6
   obtain rfl := Option.some.inj H
   go_enter Try.func50, Try.ntmps50
   go_wp2_with (first | ((with_reducible refine gate_dst (N := 1) rfl ?_); (try (refine gate_guard (by rfl) ?_; dsimp only)); refine bxe (cs := #[.int .i64 a0_0, .int .i64 a0_1, .slice A0_2 l0_2.length c0_2]) (t := 26) ?_; intro gb101 hg w11 hbox hb; have BK101 := aK (hbox); have GW101 := aK (gE hg (pS HB.out)); have GE101 := GW101; replace HB := bS HB hb; clear hb hbox hg; obtain ⟨hcz12_0, hcz12_1, hcz12_2, hfz12_0, hfz12_1, hfz12_2⟩ := bc3 BK101.out) | ((with_reducible refine gate_callee (f := 44) rfl ?_); refine gl (some 5) Try.func44 #[.int .i64 a0_0, .int .i64 1, .int .i64 8] ?_; (with_reducible refine (impl_within.calls a0_0 1 8 true _ A2.out).mono ?_); rintro e w' ⟨rfl, ⟨nd, rfl⟩⟩; refine ⟨_, rfl, ?_⟩) | (go_at_call 44; (with_reducible refine (impl_within.calls a0_1 1 8 true _ A4.out).mono ?_); rintro e w' ⟨rfl, ⟨nd, rfl⟩⟩))
   go_ret
   exact ⟨er, pT HB.out⟩
  replace c5 := Bool.eq_false_iff.mpr c5; subst c5
  have H1 : (some false) = some r := by rw [if_neg (show ¬ (false = true) by decide)] at H; exact H
  clear H; have H := H1; clear H1
  obtain rfl := Option.some.inj H
  go_enter Try.func50, Try.ntmps50
  go_wp2_with (first | ((with_reducible refine gate_dst (N := 1) rfl ?_); (try (refine gate_guard (by rfl) ?_; dsimp only)); refine bxe (cs := #[.int .i64 a0_0, .int .i64 a0_1, .slice A0_2 l0_2.length c0_2]) (t := 26) ?_; intro gb101 hg w13 hbox hb; have BK101 := aK (hbox); have GW101 := aK (gE hg (pS HB.out)); have GE101 := GW101; replace HB := bS HB hb; clear hb hbox hg; obtain ⟨hcz14_0, hcz14_1, hcz14_2, hfz14_0, hfz14_1, hfz14_2⟩ := bc3 BK101.out) | ((with_reducible refine gate_callee (f := 44) rfl ?_); refine gl (some 5) Try.func44 #[.int .i64 a0_0, .int .i64 1, .int .i64 8] ?_; (with_reducible refine (impl_within.calls a0_0 1 8 true _ A2.out).mono ?_); rintro e w' ⟨rfl, ⟨nd, rfl⟩⟩; refine ⟨_, rfl, ?_⟩) | (go_at_call 44; (with_reducible refine (impl_within.calls a0_1 1 8 false _ A4.out).mono ?_); rintro e w' ⟨rfl, ⟨nd, rfl⟩⟩))
  go_ret
  exact ⟨er, pT HB.out⟩
 replace c3 := Bool.eq_false_iff.mpr c3
 subst c3
 have H1 : (some false) = some r := by rw [if_neg (show ¬ (false = true) by decide)] at H; exact H
 clear H
 have H := H1
 clear H1
 obtain rfl := Option.some.inj H
 go_enter Try.func50, Try.ntmps50
 go_wp2_with (first | ((with_reducible refine gate_dst (N := 1) rfl ?_); (try (refine gate_guard (by rfl) ?_; dsimp only)); refine bxe (cs := #[.int .i64 a0_0, .int .i64 a0_1, .slice A0_2 l0_2.length c0_2]) (t := 26) ?_; intro gb101 hg w15 hbox hb; have BK101 := aK (hbox); have GW101 := aK (gE hg (pS HB.out)); have GE101 := GW101; replace HB := bS HB hb; clear hb hbox hg; obtain ⟨hcz16_0, hcz16_1, hcz16_2, hfz16_0, hfz16_1, hfz16_2⟩ := bc3 BK101.out) | ((with_reducible refine gate_callee (f := 44) rfl ?_); refine gl (some 5) Try.func44 #[.int .i64 a0_0, .int .i64 1, .int .i64 8] ?_; (with_reducible refine (impl_within.calls a0_0 1 8 false _ A2.out).mono ?_); rintro e w' ⟨rfl, ⟨nd, rfl⟩⟩; refine ⟨_, rfl, ?_⟩))
 go_ret
 exact ⟨er, pT HB.out⟩
def slices_Index_int_int.l0 : Nat → List Int → Int → Int → Int → Option (Int)
 | 0, _, _, _, _ => none
 | k + 1, x0, x1, x7, x8 => if x8 < x7 then (if 0 ≤ x8 then (if x8 < (x0.length : Int) then (if x1 = (rd x0 x8) then (some x8) else (slices_Index_int_int.l0 k x0 x1 x7 (wrap64 (x8 + 1)))) else (none)) else (none)) else (some (-1))
def slices_Index_int_int.f (k : Nat) (l0 : List Int) (a1 : Int) : Option (Int) := slices_Index_int_int.l0 k l0 a1 (l0.length : Int) 0
theorem slices_Index_int_int.calls (k : Nat) (A0 : Option Addr) (c0 : Nat) (l0 : List Int) (a1 : Int) (r : Int) (w : World) (hr0 : Kd.C (Kd.int .i64) w A0 l0.length l0) (hc0 : l0.length ≤ c0) (h : slices_Index_int_int.f k l0 a1 = some r) :
  Calls Try.prog 53 #[.slice A0 l0.length c0, .int .i64 a1] w fun e w' => e = .returned (.int .i64 r) ∧ Drawn0 w w' := by
 have HR0 := Aside0.mk hr0
 have HC0 := Aside0.mk hc0
 clear hr0 hc0
 have H : (slices_Index_int_int.l0 k l0 a1 (l0.length : Int) 0) = some r := h
 clear h
 have H' := Aside0.mk H
 clear H
 go_enter Try.func53, Try.ntmps53
 go_wp2
 go_loopg [8] k (fun kq v8 w' => ∃ (x8_1 : Int), v8 = .int .i64 x8_1 ∧ Aside0 (slices_Index_int_int.l0 kq l0 a1 (l0.length : Int) x8_1 = some r) ∧ Aside0 (kq ≤ k) ∧ Drawn0 w w')
 case atStart => exact ⟨(0), (by first | rfl | (simp; done) | (simp [*]; done)), H', ⟨Nat.le_refl _⟩, by repeat (first | exact Drawn0.refl _ | apply Drawn0.step)⟩
 case round =>
  clear H'
  try clear p2
  obtain ⟨x8_1, rfl, HA, HK1, ⟨m1, rfl⟩⟩ := hrel
  cases gk with
  | zero => exact absurd HA.out (by simp [slices_Index_int_int.l0])
  | succ k1 =>
   have H := HA.out; clear HA
   simp only [slices_Index_int_int.l0] at H
   by_cases c3 : x8_1 < (l0.length : Int)
   ·
    rw [if_pos c3] at H
    have c3b0 : decide (x8_1 < (l0.length : Int)) = true := decide_eq_true c3
    clear c3
    by_cases c4 : 0 ≤ x8_1
    ·
     rw [if_pos c4] at H
     have c4b0 : decide (0 ≤ x8_1) = true := decide_eq_true c4
     clear c4
     by_cases c5 : x8_1 < (l0.length : Int)
     ·
      rw [if_pos c5] at H
      have c5b0 : decide (x8_1 < (l0.length : Int)) = true := decide_eq_true c5
      clear c5
      by_cases c6 : a1 = (rd l0 x8_1)
      ·
       rw [if_pos c6] at H
       have c6b0 : (a1 == (rd l0 x8_1)) = true := beq_iff_eq.mpr c6
       have c6b1 : (a1 != (rd l0 x8_1)) = false := bne_eq_false_iff_eq.mpr c6
       clear c6
       obtain rfl := Option.some.inj H
       have p101 : 0 ≤ (x8_1 : Int) := of_decide_eq_true (by first | (with_reducible assumption) | assumption)
       have q101 : x8_1 < (l0.length : Int) := of_decide_eq_true (by first | (with_reducible assumption) | assumption)
       obtain ⟨ad101, e101, hx101_0⟩ := Kd.at_int HR0.out x8_1 p101 q101; cases e101; replace p101 := eq_true p101; replace q101 := eq_true q101
       go_wp2
       go_ret
       exact ⟨by first | rfl | (simp; done) | (simp [*]; done), by repeat (first | exact Drawn0.refl _ | apply Drawn0.step)⟩
      rw [if_neg c6] at H
      have c6b0 : (a1 == (rd l0 x8_1)) = false := beq_eq_false_iff_ne.mpr c6
      have c6b1 : (a1 != (rd l0 x8_1)) = true := bne_iff_ne.mpr c6
      have H' := Aside0.mk H; clear H
      have p101 : 0 ≤ (x8_1 : Int) := of_decide_eq_true (by first | (with_reducible assumption) | assumption)
      have q101 : x8_1 < (l0.length : Int) := of_decide_eq_true (by first | (with_reducible assumption) | assumption)
      obtain ⟨ad101, e101, hx101_0⟩ := Kd.at_int HR0.out x8_1 p101 q101; cases e101; replace p101 := eq_true p101; replace q101 := eq_true q101
      go_wp2
      go_roundg k1
      case measure => have := HK1.out; omega
      case rel => exact ⟨(wrap64 (x8_1 + 1)), (by first | rfl | (simp; done) | (simp [*]; done)), H', ⟨by have := HK1.out; omega⟩, by repeat (first | exact Drawn0.refl _ | apply Drawn0.step)⟩
     rw [if_neg c5] at H
     exact absurd H (by simp)
    rw [if_neg c4] at H
    exact absurd H (by simp)
   rw [if_neg c3] at H
   have c3b0 : decide (x8_1 < (l0.length : Int)) = false := decide_eq_false c3
   clear c3
   obtain rfl := Option.some.inj H
   go_wp2
   go_ret
   exact ⟨by first | rfl | (simp; done) | (simp [*]; done), by repeat (first | exact Drawn0.refl _ | apply Drawn0.step)⟩
end Go.Proofs.Ythlmikigjhgpdaa.P
