/- Texts of the claim FnExactNowcast, merged: part 7 of 11: the program's and the reference's functions as Lean functions, the walks that show it, and plain lemmas; no conditions. -/
import Derived.Test.YtilffhaghabdgaaKFnExactNowcast3
import Derived.Test.YtilffhaghabdgaaKFnExactNowcast6
import Derived.Shelf.SlSortCmp.NoneTotal
import Derived.Ground.SlsfProg
import Derived.Test.YtilffhaghabdgaaProg
namespace Go.Proofs.Ytilffhaghabdgaa.P
open Go.RowKit Go.Proofs.YtilffhaghabdgaaW.PrintWords Go.Proofs.YtilffhaghabdgaaW.PrintLast Go.Proofs.YtilffhaghabdgaaW.PrintMore
attribute [local go_sem] max2_int min2_int max_two min_two max_three min_three max_four min_four
set_option linter.unusedVariables false
set_option linter.unusedSimpArgs false
set_option maxHeartbeats 8000000
set_option maxRecDepth 100000
def impl_areAlike.l0 : Nat → List (S29) → List (S29) → Int → Int → Option (Bool)
 | 0, _, _, _, _ => none
 | k + 1, x0, x5, x6, x7 => if x7 < x6 then (if 0 ≤ x7 then (if x7 < (x5.length : Int) then ((impl_IsValidField.f ((rd_T29 x5 x7).f0) ((rd_T29 x5 x7).f1) ((rd_T29 x5 x7).f2)).bind fun t103 => (if t103 = true then (if 0 < (x0.length : Int) then ((impl_sameShape.f ((rd_T29 x5 x7).f0) ((rd_T29 x5 x7).f1) ((rd_T29 x5 x7).f2) ((rd_T29 x0 0).f0) ((rd_T29 x0 0).f1) ((rd_T29 x0 0).f2)).bind fun t105 => (if t105 = true then (impl_areAlike.l0 k x0 x5 x6 (wrap64 (x7 + 1))) else (some false))) else (none)) else (some false))) else (none)) else (none)) else (some true)
def impl_areAlike.f (k : Nat) (l0 : List (S29)) : Option (Bool) := impl_areAlike.l0 k l0 l0 (l0.length : Int) 0
def impl_areAlike.T4 : Bool × List (List Nat × List Nat) := (true, [([], []), ([0], [0]), ([1], [1]), ([2, 1], [2]), ([3], [3]), ([3], [3]), ([5, 3], [3, 5]), ([6, 3], [3, 6]), ([4, 7, 3, 3], [3, 4, 7]), ([8, 3], [3, 8]), ([3, 9], [3, 9])])
def impl_areAlike.B4 : List Nat := [0, 1, 3, 7, 15, 15, 47, 111, 255, 511, 1023]
theorem impl_areAlike.tab4 : rtab .any (opsOf Try.f90 4) = impl_areAlike.T4 := by kernel_rfl
theorem impl_areAlike.bits4 : waitsOk impl_areAlike.T4.2 impl_areAlike.B4 = true := by kernel_rfl
theorem impl_areAlike.calls (k : Nat) (A0 : Option Addr) (c0 : Nat) (l0 : List (S29)) (r : Bool) (w : World) (hr0 : Kd.C k29 w A0 l0.length l0) (hc0 : l0.length ≤ c0) (h : impl_areAlike.f k l0 = some r) :
  Calls Try.prog 90 #[.slice A0 l0.length c0] w fun e w' => e = .returned (.bool r) ∧ Below w.heap.size w w' := by
 have hu29 := Try.underlying29
 have HR0 := Aside0.mk hr0
 have HC0 := Aside0.mk hc0
 clear hr0 hc0
 have HB := aK (Below.refl w.heap.size w)
 have H : (impl_areAlike.l0 k l0 l0 (l0.length : Int) 0) = some r := h
 clear h
 have H' := Aside0.mk H
 clear H
 go_enter Try.func90, Try.ntmps90
 go_wp2
 go_loopg [7] k (fun kq v7 w' => ∃ (x7_1 : Int), v7 = .int .i64 x7_1 ∧ Aside0 (impl_areAlike.l0 kq l0 l0 (l0.length : Int) x7_1 = some r) ∧ Aside0 (kq ≤ k) ∧ Aside0 (Below w.heap.size w w'))
 case atStart => exact ⟨(0), (by first | rfl | (simp; done) | (simp [*]; done)), H', ⟨Nat.le_refl _⟩, ⟨pT HB.out⟩⟩
 case round =>
  clear H'
  obtain ⟨x7_1, rfl, HA, HK1, HB⟩ := hrel
  cases gk with
  | zero => exact absurd HA.out (by simp [impl_areAlike.l0])
  | succ k1 =>
   have H := HA.out
   clear HA
   simp only [impl_areAlike.l0] at H
   by_cases c2 : x7_1 < (l0.length : Int)
   ·
    rw [if_pos c2] at H
    have c2b0 : decide (x7_1 < (l0.length : Int)) = true := decide_eq_true c2
    clear c2
    by_cases c3 : 0 ≤ x7_1
    ·
     rw [if_pos c3] at H
     have c3b0 : decide (0 ≤ x7_1) = true := decide_eq_true c3
     clear c3
     by_cases c4 : x7_1 < (l0.length : Int)
     ·
      rw [if_pos c4] at H
      have c4b0 : decide (x7_1 < (l0.length : Int)) = true := decide_eq_true c4
      clear c4
      replace H := Option.bind_eq_some_iff.mp H
      obtain ⟨t103, A50, H⟩ := H
      replace H : (if t103 = true then (if 0 < (l0.length : Int) then ((impl_sameShape.f ((rd_T29 l0 x7_1).f0) ((rd_T29 l0 x7_1).f1) ((rd_T29 l0 x7_1).f2) ((rd_T29 l0 0).f0) ((rd_T29 l0 0).f1) ((rd_T29 l0 0).f2)).bind fun t105 => (if t105 = true then (impl_areAlike.l0 k1 l0 l0 (l0.length : Int) (wrap64 (x7_1 + 1))) else (some false))) else (none)) else (some false)) = some r := H
      have A5 := Aside0.mk A50
      clear A50
      by_cases c6 : t103 = true
      ·
       subst c6
       have H1 : (if 0 < (l0.length : Int) then ((impl_sameShape.f ((rd_T29 l0 x7_1).f0) ((rd_T29 l0 x7_1).f1) ((rd_T29 l0 x7_1).f2) ((rd_T29 l0 0).f0) ((rd_T29 l0 0).f1) ((rd_T29 l0 0).f2)).bind fun t105 => (if t105 = true then (impl_areAlike.l0 k1 l0 l0 (l0.length : Int) (wrap64 (x7_1 + 1))) else (some false))) else (none)) = some r := by rw [if_pos rfl] at H; exact H
       clear H
       have H := H1
       clear H1
       by_cases c7 : 0 < (l0.length : Int)
       ·
        rw [if_pos c7] at H
        have c7b0 : decide (0 < (l0.length : Int)) = true := decide_eq_true c7
        have c7b1 : decide (0 < l0.length) = true := decide_eq_true (by omega)
        clear c7
        replace H := Option.bind_eq_some_iff.mp H
        obtain ⟨t105, A80, H⟩ := H
        replace H : (if t105 = true then (impl_areAlike.l0 k1 l0 l0 (l0.length : Int) (wrap64 (x7_1 + 1))) else (some false)) = some r := H
        have A8 := Aside0.mk A80
        clear A80
        by_cases c9 : t105 = true
        ·
         subst c9
         have H1 : (impl_areAlike.l0 k1 l0 l0 (l0.length : Int) (wrap64 (x7_1 + 1))) = some r := by rw [if_pos rfl] at H; exact H
         clear H
         have H := H1
         clear H1
         have H' := Aside0.mk H
         clear H
         have p101 : 0 ≤ (x7_1 : Int) := of_decide_eq_true (by first | (with_reducible assumption) | assumption)
         have q101 : x7_1 < (l0.length : Int) := of_decide_eq_true (by first | (with_reducible assumption) | assumption)
         obtain ⟨ad101, A101_2, c101_2, e101, hx101_0, hx101_1, hx101_2, hl101_2, hi101_2⟩ := at_T29 HR0.out x7_1 p101 q101
         cases e101
         replace hx101_0 := (HB.out.cell (World.block_lt_of_cell? w _ hx101_0)).trans hx101_0
         replace hx101_1 := (HB.out.cell (World.block_lt_of_cell? w _ hx101_1)).trans hx101_1
         replace hx101_2 := (HB.out.cell (World.block_lt_of_cell? w _ hx101_2)).trans hx101_2
         have HR101_2 := Aside0.mk hi101_2
         have HC101_2 := Aside0.mk hl101_2
         clear hi101_2 hl101_2
         replace p101 := eq_true p101
         replace q101 := eq_true q101
         try go_wp2_with (first | ((with_reducible refine gate_dst (N := 4) rfl ?_); refine bxe (cs := #[.int .i64 0, .int .i64 0, .slice none 0 0]) (t := 29) ?_; intro gb102 hg w10 hbox hb; have BK102 := aK (hbox); have GW102 := aK (gE hg (pS HB.out)); have GE102 := GW102; replace HB := bS HB hb; clear hb hbox hg; obtain ⟨hcz11_0, hcz11_1, hcz11_2, hfz11_0, hfz11_1, hfz11_2⟩ := bc3 BK102.out))
         have n0_ : Aside0 ((((w10.setCell ⟨gb102, 0, none⟩ (.int .i64 ((rd_T29 l0 x7_1).f0))).setCell ⟨gb102, 1, none⟩ (.int .i64 ((rd_T29 l0 x7_1).f1))).setCell ⟨gb102, 2, none⟩ (.slice A101_2 ((rd_T29 l0 x7_1).f2).length c101_2)).heap[gb102]? = some (.cells #[.int .i64 ((rd_T29 l0 x7_1).f0), .int .i64 ((rd_T29 l0 x7_1).f1), .slice A101_2 ((rd_T29 l0 x7_1).f2).length c101_2] 29 (0, 0))) := ⟨by refine bk ?_; refine blk_put (cs := #[.int .i64 ((rd_T29 l0 x7_1).f0), .int .i64 ((rd_T29 l0 x7_1).f1), .slice none 0 0]) ?_ 2 _ rfl; refine bk ?_; refine blk_put (cs := #[.int .i64 ((rd_T29 l0 x7_1).f0), .int .i64 0, .slice none 0 0]) ?_ 1 _ rfl; refine bk ?_; refine blk_put (cs := #[.int .i64 0, .int .i64 0, .slice none 0 0]) ?_ 0 _ rfl; refine bk ?_; exact BK102.out⟩
         have n1_ : Aside0 (Below w.heap.size w (((w10.setCell ⟨gb102, 0, none⟩ (.int .i64 ((rd_T29 l0 x7_1).f0))).setCell ⟨gb102, 1, none⟩ (.int .i64 ((rd_T29 l0 x7_1).f1))).setCell ⟨gb102, 2, none⟩ (.slice A101_2 ((rd_T29 l0 x7_1).f2).length c101_2))) := ⟨pT HB.out⟩
         (try clear BK102)
         (try clear HB)
         generalize (((w10.setCell ⟨gb102, 0, none⟩ (.int .i64 ((rd_T29 l0 x7_1).f0))).setCell ⟨gb102, 1, none⟩ (.int .i64 ((rd_T29 l0 x7_1).f1))).setCell ⟨gb102, 2, none⟩ (.slice A101_2 ((rd_T29 l0 x7_1).f2).length c101_2)) = w12 at n0_ n1_ ⊢
         have BK102 := n0_
         have HB := n1_
         clear n0_ n1_
         have n0_ := aK (blk_drew BK102.out)
         have n1_ := aK (below_drew1 HB.out)
         clear BK102 HB
         have BK102 := n0_
         have HB := n1_
         clear n0_ n1_
         have p104 : 0 ≤ (0 : Int) := (by omega)
         have q104 : 0 < (l0.length : Int) := of_decide_eq_true (by first | (with_reducible assumption) | assumption)
         obtain ⟨ad104, A104_2, c104_2, e104, hx104_0, hx104_1, hx104_2, hl104_2, hi104_2⟩ := at_T29 HR0.out 0 p104 q104
         have hw104_2 := hx104_2
         (try rw [show ((0 : Int)).toNat = 0 from rfl] at hw104_2)
         (try rw [show 0 * 3 = 0 from rfl] at hw104_2)
         (try rw [Addr.add_zero'] at hw104_2)
         have hw104_1 := hx104_1
         (try rw [show ((0 : Int)).toNat = 0 from rfl] at hw104_1)
         (try rw [show 0 * 3 = 0 from rfl] at hw104_1)
         (try rw [Addr.add_zero'] at hw104_1)
         have hw104_0 := hx104_0
         (try rw [show ((0 : Int)).toNat = 0 from rfl] at hw104_0)
         (try rw [show 0 * 3 = 0 from rfl] at hw104_0)
         (try rw [Addr.add_zero'] at hw104_0)
         obtain rfl : ad101 = ad104 := (by injection e104)
         have qi104 : (0 < l0.length) = True := eq_true (by omega)
         (try rw [show ((0 : Int)).toNat = 0 from rfl] at hx104_0)
         (try rw [show 0 * 3 = 0 from rfl] at hx104_0)
         (try rw [Addr.add_zero'] at hx104_0)
         (try rw [show ((0 : Int)).toNat = 0 from rfl] at hx104_1)
         (try rw [show 0 * 3 = 0 from rfl] at hx104_1)
         (try rw [Addr.add_zero'] at hx104_1)
         (try rw [show ((0 : Int)).toNat = 0 from rfl] at hx104_2)
         (try rw [show 0 * 3 = 0 from rfl] at hx104_2)
         (try rw [Addr.add_zero'] at hx104_2)
         replace hx104_0 := (HB.out.cell (World.block_lt_of_cell? w _ hx104_0)).trans hx104_0
         replace hx104_1 := (HB.out.cell (World.block_lt_of_cell? w _ hx104_1)).trans hx104_1
         replace hx104_2 := (HB.out.cell (World.block_lt_of_cell? w _ hx104_2)).trans hx104_2
         have HR104_2 := Aside0.mk hi104_2
         have HC104_2 := Aside0.mk hl104_2
         clear hi104_2 hl104_2
         replace p104 := eq_true p104
         replace q104 := eq_true q104
         refine start_ (n := 11) (S := fun w' => w'.cell? ⟨gb102, 0, none⟩ = some (.int .i64 ((rd_T29 l0 x7_1).f0)) ∧ w'.cell? ⟨gb102, 1, none⟩ = some (.int .i64 ((rd_T29 l0 x7_1).f1)) ∧ w'.cell? ⟨gb102, 2, none⟩ = some (.slice A101_2 ((rd_T29 l0 x7_1).f2).length c101_2) ∧ w'.cell? ad101 = some (.int .i64 ((rd_T29 l0 0).f0)) ∧ w'.cell? ⟨ad101.block, ad101.off + 1, none⟩ = some (.int .i64 ((rd_T29 l0 0).f1)) ∧ w'.cell? ⟨ad101.block, ad101.off + 2, none⟩ = some (.slice A104_2 ((rd_T29 l0 0).f2).length c104_2)) (ds := []) #[false, false, false, false, false, false, false, false, false, false, false] (by kernel_rfl) rfl rfl ⟨(blk_cell BK102.out 0).trans rfl, (blk_cell BK102.out 1).trans rfl, (blk_cell BK102.out 2).trans rfl, ((HB.out.cell (World.block_lt_of_cell? w _ hw104_0)).trans hw104_0), ((HB.out.cell (World.block_lt_of_cell? w _ hw104_1)).trans hw104_1), ((HB.out.cell (World.block_lt_of_cell? w _ hw104_2)).trans hw104_2)⟩ (fun hHeld => ?_); refine with_tabW impl_areAlike.tab4 impl_areAlike.bits4 (fun HT_ HW_ => ?_)
         generalize w12.drew = w13 at BK102 HB HR104_2 hx104_0 hx104_1 hx104_2 hHeld ⊢
         refine tk (i := 0) (N := some 11) #[true, false, false, false, false, false, false, false, false, false, false] rfl rfl HT_.out HW_.out (Or.inl ⟨by rfl, by rintro w' ⟨s0, s1, s2, s3, s4, s5⟩; go_simp; with_reducible rfl⟩) hHeld ?_
         refine one_ (i := 1) (N := some 12) #[true, true, false, false, false, false, false, false, false, false, false] rfl rfl (one_of HT_.out (by kernel_rfl)) (by decide) (fun K hK => ?_)
         refine goes_ Try.func109 (by kernel_rfl) rfl #[.agg #[.int .i64 ((rd_T29 l0 x7_1).f0), .int .i64 ((rd_T29 l0 x7_1).f1), .slice A101_2 ((rd_T29 l0 x7_1).f2).length c101_2]] (by rfl) rfl rfl (by (try simp only [List.map_toArray, List.map_cons, List.map_nil]); first | done | rfl | (simp only [List.length_drop, List.length_take]; rfl)) ?_
         with_reducible refine (impl_IsValidField.calls ((rd_T29 l0 x7_1).f0) ((rd_T29 l0 x7_1).f1) _ _ ((rd_T29 l0 x7_1).f2) true _ ?side1 ?side2 A5.out).mono ?_
         (case side1 => exact pC (Kd.C_below HR101_2.out HB.out))
         (case side2 => exact HC101_2.out)
         rintro e w14 ⟨rfl, hb⟩
         refine ⟨_, rfl, ?_⟩
         replace BK102 := bB BK102 hb
         replace HB := bS HB hb
         (try clear hb)
         (try clear hb2)
         (try clear hk)
         (try clear hi)
         refine hK.out _ _ ⟨(blk_cell BK102.out 0).trans rfl, (blk_cell BK102.out 1).trans rfl, (blk_cell BK102.out 2).trans rfl, ((HB.out.cell (World.block_lt_of_cell? w _ hw104_0)).trans hw104_0), ((HB.out.cell (World.block_lt_of_cell? w _ hw104_1)).trans hw104_1), ((HB.out.cell (World.block_lt_of_cell? w _ hw104_2)).trans hw104_2)⟩ (fun hHeld => ?_)
         clear hK K
         refine norm_ (a' := ?_) ?_ ?_
         rotate_left
         ·
          show Act.put _ (some 12) _ = _
          simp only [sP]
          rfl
         refine pu (i := 2) (N := some 13) #[true, true, true, false, false, false, false, false, false, false, false] rfl rfl HT_.out ?_
         refine pu (i := 3) (N := some 14) #[true, true, true, true, false, false, false, false, false, false, false] rfl rfl HT_.out ?_
         refine pu (i := 5) (N := some 16) #[true, true, true, true, false, true, false, false, false, false, false] rfl rfl HT_.out ?_
         refine pu (i := 6) (N := some 17) #[true, true, true, true, false, true, true, false, false, false, false] rfl rfl HT_.out ?_
         refine tk (i := 4) (N := some 15) #[true, true, true, true, true, true, true, false, false, false, false] rfl rfl HT_.out HW_.out (Or.inl ⟨by rfl, by rintro w' ⟨s0, s1, s2, s3, s4, s5⟩; go_simp; with_reducible rfl⟩) hHeld ?_
         refine tk (i := 7) (N := some 18) #[true, true, true, true, true, true, true, true, false, false, false] rfl rfl HT_.out HW_.out (Or.inl ⟨by rfl, by rintro w' ⟨s0, s1, s2, s3, s4, s5⟩; go_simp; with_reducible rfl⟩) hHeld ?_
         refine one_ (i := 8) (N := some 19) #[true, true, true, true, true, true, true, true, true, false, false] rfl rfl (one_of HT_.out (by kernel_rfl)) (by decide) (fun K hK => ?_)
         refine goes_ Try.func159 (by kernel_rfl) rfl #[.agg #[.int .i64 ((rd_T29 l0 x7_1).f0), .int .i64 ((rd_T29 l0 x7_1).f1), .slice A101_2 ((rd_T29 l0 x7_1).f2).length c101_2], .agg #[.int .i64 ((rd_T29 l0 0).f0), .int .i64 ((rd_T29 l0 0).f1), .slice A104_2 ((rd_T29 l0 0).f2).length c104_2]] (by rfl) rfl rfl (by (try simp only [List.map_toArray, List.map_cons, List.map_nil]); first | done | rfl | (simp only [List.length_drop, List.length_take]; rfl)) ?_
         with_reducible refine (impl_sameShape.calls ((rd_T29 l0 x7_1).f0) ((rd_T29 l0 x7_1).f1) _ _ ((rd_T29 l0 x7_1).f2) ((rd_T29 l0 0).f0) ((rd_T29 l0 0).f1) _ _ ((rd_T29 l0 0).f2) true _ ?side1 ?side2 ?side3 ?side4 A8.out).mono ?_
         (case side1 => exact pC (Kd.C_below HR101_2.out HB.out))
         (case side2 => exact HC101_2.out)
         (case side3 => exact pC (Kd.C_below HR104_2.out HB.out))
         (case side4 => exact HC104_2.out)
         rintro e w15 ⟨rfl, hb⟩
         refine ⟨_, rfl, ?_⟩
         replace BK102 := bB BK102 hb
         replace HB := bS HB hb
         (try clear hb)
         (try clear hb2)
         (try clear hk)
         (try clear hi)
         refine hK.out _ _ ⟨(blk_cell BK102.out 0).trans rfl, (blk_cell BK102.out 1).trans rfl, (blk_cell BK102.out 2).trans rfl, ((HB.out.cell (World.block_lt_of_cell? w _ hw104_0)).trans hw104_0), ((HB.out.cell (World.block_lt_of_cell? w _ hw104_1)).trans hw104_1), ((HB.out.cell (World.block_lt_of_cell? w _ hw104_2)).trans hw104_2)⟩ (fun hHeld => ?_)
         clear hK K
         refine norm_ (a' := ?_) ?_ ?_
         rotate_left
         ·
          show Act.put _ (some 19) _ = _
          simp only [sP]
          rfl
         refine pu (i := 9) (N := some 20) #[true, true, true, true, true, true, true, true, true, true, false] rfl rfl HT_.out ?_
         refine pu (i := 10) (N := some 21) #[true, true, true, true, true, true, true, true, true, true, true] rfl rfl HT_.out ?_
         refine done_ (done_of HT_.out (by kernel_rfl)) ?_
         try go_wp2
         go_roundg k1
         case measure => have := HK1.out; omega
         case rel => exact ⟨(wrap64 (x7_1 + 1)), (by first | rfl | (simp; done) | (simp [*]; done)), H', ⟨by have := HK1.out; omega⟩, ⟨pT HB.out⟩⟩
        replace c9 := Bool.eq_false_iff.mpr c9
        subst c9
        have H1 : (some false) = some r := by rw [if_neg (show ¬ (false = true) by decide)] at H; exact H
        clear H
        have H := H1
        clear H1
        obtain rfl := Option.some.inj H
        have p101 : 0 ≤ (x7_1 : Int) := of_decide_eq_true (by first | (with_reducible assumption) | assumption)
        have q101 : x7_1 < (l0.length : Int) := of_decide_eq_true (by first | (with_reducible assumption) | assumption)
        obtain ⟨ad101, A101_2, c101_2, e101, hx101_0, hx101_1, hx101_2, hl101_2, hi101_2⟩ := at_T29 HR0.out x7_1 p101 q101
        cases e101
        replace hx101_0 := (HB.out.cell (World.block_lt_of_cell? w _ hx101_0)).trans hx101_0
        replace hx101_1 := (HB.out.cell (World.block_lt_of_cell? w _ hx101_1)).trans hx101_1
        replace hx101_2 := (HB.out.cell (World.block_lt_of_cell? w _ hx101_2)).trans hx101_2
        have HR101_2 := Aside0.mk hi101_2
        have HC101_2 := Aside0.mk hl101_2
        clear hi101_2 hl101_2
        replace p101 := eq_true p101
        replace q101 := eq_true q101
        try go_wp2_with (first | ((with_reducible refine gate_dst (N := 4) rfl ?_); refine bxe (cs := #[.int .i64 0, .int .i64 0, .slice none 0 0]) (t := 29) ?_; intro gb102 hg w16 hbox hb; have BK102 := aK (hbox); have GW102 := aK (gE hg (pS HB.out)); have GE102 := GW102; replace HB := bS HB hb; clear hb hbox hg; obtain ⟨hcz17_0, hcz17_1, hcz17_2, hfz17_0, hfz17_1, hfz17_2⟩ := bc3 BK102.out))
        have n0_ : Aside0 ((((w16.setCell ⟨gb102, 0, none⟩ (.int .i64 ((rd_T29 l0 x7_1).f0))).setCell ⟨gb102, 1, none⟩ (.int .i64 ((rd_T29 l0 x7_1).f1))).setCell ⟨gb102, 2, none⟩ (.slice A101_2 ((rd_T29 l0 x7_1).f2).length c101_2)).heap[gb102]? = some (.cells #[.int .i64 ((rd_T29 l0 x7_1).f0), .int .i64 ((rd_T29 l0 x7_1).f1), .slice A101_2 ((rd_T29 l0 x7_1).f2).length c101_2] 29 (0, 0))) := ⟨by refine bk ?_; refine blk_put (cs := #[.int .i64 ((rd_T29 l0 x7_1).f0), .int .i64 ((rd_T29 l0 x7_1).f1), .slice none 0 0]) ?_ 2 _ rfl; refine bk ?_; refine blk_put (cs := #[.int .i64 ((rd_T29 l0 x7_1).f0), .int .i64 0, .slice none 0 0]) ?_ 1 _ rfl; refine bk ?_; refine blk_put (cs := #[.int .i64 0, .int .i64 0, .slice none 0 0]) ?_ 0 _ rfl; refine bk ?_; exact BK102.out⟩
        have n1_ : Aside0 (Below w.heap.size w (((w16.setCell ⟨gb102, 0, none⟩ (.int .i64 ((rd_T29 l0 x7_1).f0))).setCell ⟨gb102, 1, none⟩ (.int .i64 ((rd_T29 l0 x7_1).f1))).setCell ⟨gb102, 2, none⟩ (.slice A101_2 ((rd_T29 l0 x7_1).f2).length c101_2))) := ⟨pT HB.out⟩
        (try clear BK102)
        (try clear HB)
        generalize (((w16.setCell ⟨gb102, 0, none⟩ (.int .i64 ((rd_T29 l0 x7_1).f0))).setCell ⟨gb102, 1, none⟩ (.int .i64 ((rd_T29 l0 x7_1).f1))).setCell ⟨gb102, 2, none⟩ (.slice A101_2 ((rd_T29 l0 x7_1).f2).length c101_2)) = w18 at n0_ n1_ ⊢
        have BK102 := n0_
        have HB := n1_
        clear n0_ n1_
        have n0_ := aK (blk_drew BK102.out)
        have n1_ := aK (below_drew1 HB.out)
        clear BK102 HB
        have BK102 := n0_
        have HB := n1_
        clear n0_ n1_
        have p104 : 0 ≤ (0 : Int) := (by omega)
        have q104 : 0 < (l0.length : Int) := of_decide_eq_true (by first | (with_reducible assumption) | assumption)
        obtain ⟨ad104, A104_2, c104_2, e104, hx104_0, hx104_1, hx104_2, hl104_2, hi104_2⟩ := at_T29 HR0.out 0 p104 q104
        have hw104_2 := hx104_2
        (try rw [show ((0 : Int)).toNat = 0 from rfl] at hw104_2)
        (try rw [show 0 * 3 = 0 from rfl] at hw104_2)
        (try rw [Addr.add_zero'] at hw104_2)
        have hw104_1 := hx104_1
        (try rw [show ((0 : Int)).toNat = 0 from rfl] at hw104_1)
        (try rw [show 0 * 3 = 0 from rfl] at hw104_1)
        (try rw [Addr.add_zero'] at hw104_1)
        have hw104_0 := hx104_0
        (try rw [show ((0 : Int)).toNat = 0 from rfl] at hw104_0)
        (try rw [show 0 * 3 = 0 from rfl] at hw104_0)
        (try rw [Addr.add_zero'] at hw104_0)
        obtain rfl : ad101 = ad104 := (by injection e104)
        have qi104 : (0 < l0.length) = True := eq_true (by omega)
        (try rw [show ((0 : Int)).toNat = 0 from rfl] at hx104_0)
        (try rw [show 0 * 3 = 0 from rfl] at hx104_0)
        (try rw [Addr.add_zero'] at hx104_0)
        (try rw [show ((0 : Int)).toNat = 0 from rfl] at hx104_1)
        (try rw [show 0 * 3 = 0 from rfl] at hx104_1)
        (try rw [Addr.add_zero'] at hx104_1)
        (try rw [show ((0 : Int)).toNat = 0 from rfl] at hx104_2)
        (try rw [show 0 * 3 = 0 from rfl] at hx104_2)
        (try rw [Addr.add_zero'] at hx104_2)
        replace hx104_0 := (HB.out.cell (World.block_lt_of_cell? w _ hx104_0)).trans hx104_0
        replace hx104_1 := (HB.out.cell (World.block_lt_of_cell? w _ hx104_1)).trans hx104_1
        replace hx104_2 := (HB.out.cell (World.block_lt_of_cell? w _ hx104_2)).trans hx104_2
        have HR104_2 := Aside0.mk hi104_2
        have HC104_2 := Aside0.mk hl104_2
        clear hi104_2 hl104_2
        replace p104 := eq_true p104
        replace q104 := eq_true q104
        refine start_ (n := 11) (S := fun w' => w'.cell? ⟨gb102, 0, none⟩ = some (.int .i64 ((rd_T29 l0 x7_1).f0)) ∧ w'.cell? ⟨gb102, 1, none⟩ = some (.int .i64 ((rd_T29 l0 x7_1).f1)) ∧ w'.cell? ⟨gb102, 2, none⟩ = some (.slice A101_2 ((rd_T29 l0 x7_1).f2).length c101_2) ∧ w'.cell? ad101 = some (.int .i64 ((rd_T29 l0 0).f0)) ∧ w'.cell? ⟨ad101.block, ad101.off + 1, none⟩ = some (.int .i64 ((rd_T29 l0 0).f1)) ∧ w'.cell? ⟨ad101.block, ad101.off + 2, none⟩ = some (.slice A104_2 ((rd_T29 l0 0).f2).length c104_2)) (ds := []) #[false, false, false, false, false, false, false, false, false, false, false] (by kernel_rfl) rfl rfl ⟨(blk_cell BK102.out 0).trans rfl, (blk_cell BK102.out 1).trans rfl, (blk_cell BK102.out 2).trans rfl, ((HB.out.cell (World.block_lt_of_cell? w _ hw104_0)).trans hw104_0), ((HB.out.cell (World.block_lt_of_cell? w _ hw104_1)).trans hw104_1), ((HB.out.cell (World.block_lt_of_cell? w _ hw104_2)).trans hw104_2)⟩ (fun hHeld => ?_); refine with_tabW impl_areAlike.tab4 impl_areAlike.bits4 (fun HT_ HW_ => ?_)
        generalize w18.drew = w19 at BK102 HB HR104_2 hx104_0 hx104_1 hx104_2 hHeld ⊢
        refine tk (i := 0) (N := some 11) #[true, false, false, false, false, false, false, false, false, false, false] rfl rfl HT_.out HW_.out (Or.inl ⟨by rfl, by rintro w' ⟨s0, s1, s2, s3, s4, s5⟩; go_simp; with_reducible rfl⟩) hHeld ?_
        refine one_ (i := 1) (N := some 12) #[true, true, false, false, false, false, false, false, false, false, false] rfl rfl (one_of HT_.out (by kernel_rfl)) (by decide) (fun K hK => ?_)
        refine goes_ Try.func109 (by kernel_rfl) rfl #[.agg #[.int .i64 ((rd_T29 l0 x7_1).f0), .int .i64 ((rd_T29 l0 x7_1).f1), .slice A101_2 ((rd_T29 l0 x7_1).f2).length c101_2]] (by rfl) rfl rfl (by (try simp only [List.map_toArray, List.map_cons, List.map_nil]); first | done | rfl | (simp only [List.length_drop, List.length_take]; rfl)) ?_
        with_reducible refine (impl_IsValidField.calls ((rd_T29 l0 x7_1).f0) ((rd_T29 l0 x7_1).f1) _ _ ((rd_T29 l0 x7_1).f2) true _ ?side1 ?side2 A5.out).mono ?_
        (case side1 => exact pC (Kd.C_below HR101_2.out HB.out))
        (case side2 => exact HC101_2.out)
        rintro e w20 ⟨rfl, hb⟩
        refine ⟨_, rfl, ?_⟩
        replace BK102 := bB BK102 hb
        replace HB := bS HB hb
        (try clear hb)
        (try clear hb2)
        (try clear hk)
        (try clear hi)
        refine hK.out _ _ ⟨(blk_cell BK102.out 0).trans rfl, (blk_cell BK102.out 1).trans rfl, (blk_cell BK102.out 2).trans rfl, ((HB.out.cell (World.block_lt_of_cell? w _ hw104_0)).trans hw104_0), ((HB.out.cell (World.block_lt_of_cell? w _ hw104_1)).trans hw104_1), ((HB.out.cell (World.block_lt_of_cell? w _ hw104_2)).trans hw104_2)⟩ (fun hHeld => ?_)
        clear hK K
        refine norm_ (a' := ?_) ?_ ?_
        rotate_left
        ·
         show Act.put _ (some 12) _ = _
         simp only [sP]
         rfl
        refine pu (i := 2) (N := some 13) #[true, true, true, false, false, false, false, false, false, false, false] rfl rfl HT_.out ?_
        refine pu (i := 3) (N := some 14) #[true, true, true, true, false, false, false, false, false, false, false] rfl rfl HT_.out ?_
        refine pu (i := 5) (N := some 16) #[true, true, true, true, false, true, false, false, false, false, false] rfl rfl HT_.out ?_
        refine pu (i := 6) (N := some 17) #[true, true, true, true, false, true, true, false, false, false, false] rfl rfl HT_.out ?_
        refine tk (i := 4) (N := some 15) #[true, true, true, true, true, true, true, false, false, false, false] rfl rfl HT_.out HW_.out (Or.inl ⟨by rfl, by rintro w' ⟨s0, s1, s2, s3, s4, s5⟩; go_simp; with_reducible rfl⟩) hHeld ?_
        refine tk (i := 7) (N := some 18) #[true, true, true, true, true, true, true, true, false, false, false] rfl rfl HT_.out HW_.out (Or.inl ⟨by rfl, by rintro w' ⟨s0, s1, s2, s3, s4, s5⟩; go_simp; with_reducible rfl⟩) hHeld ?_
        refine one_ (i := 8) (N := some 19) #[true, true, true, true, true, true, true, true, true, false, false] rfl rfl (one_of HT_.out (by kernel_rfl)) (by decide) (fun K hK => ?_)
        refine goes_ Try.func159 (by kernel_rfl) rfl #[.agg #[.int .i64 ((rd_T29 l0 x7_1).f0), .int .i64 ((rd_T29 l0 x7_1).f1), .slice A101_2 ((rd_T29 l0 x7_1).f2).length c101_2], .agg #[.int .i64 ((rd_T29 l0 0).f0), .int .i64 ((rd_T29 l0 0).f1), .slice A104_2 ((rd_T29 l0 0).f2).length c104_2]] (by rfl) rfl rfl (by (try simp only [List.map_toArray, List.map_cons, List.map_nil]); first | done | rfl | (simp only [List.length_drop, List.length_take]; rfl)) ?_
        with_reducible refine (impl_sameShape.calls ((rd_T29 l0 x7_1).f0) ((rd_T29 l0 x7_1).f1) _ _ ((rd_T29 l0 x7_1).f2) ((rd_T29 l0 0).f0) ((rd_T29 l0 0).f1) _ _ ((rd_T29 l0 0).f2) false _ ?side1 ?side2 ?side3 ?side4 A8.out).mono ?_
        (case side1 => exact pC (Kd.C_below HR101_2.out HB.out))
        (case side2 => exact HC101_2.out)
        (case side3 => exact pC (Kd.C_below HR104_2.out HB.out))
        (case side4 => exact HC104_2.out)
        rintro e w21 ⟨rfl, hb⟩
        refine ⟨_, rfl, ?_⟩
        replace BK102 := bB BK102 hb
        replace HB := bS HB hb
        (try clear hb)
        (try clear hb2)
        (try clear hk)
        (try clear hi)
        refine hK.out _ _ ⟨(blk_cell BK102.out 0).trans rfl, (blk_cell BK102.out 1).trans rfl, (blk_cell BK102.out 2).trans rfl, ((HB.out.cell (World.block_lt_of_cell? w _ hw104_0)).trans hw104_0), ((HB.out.cell (World.block_lt_of_cell? w _ hw104_1)).trans hw104_1), ((HB.out.cell (World.block_lt_of_cell? w _ hw104_2)).trans hw104_2)⟩ (fun hHeld => ?_)
        clear hK K
        refine norm_ (a' := ?_) ?_ ?_
        rotate_left
        ·
         show Act.put _ (some 19) _ = _
         simp only [sP]
         rfl
        refine pu (i := 9) (N := some 20) #[true, true, true, true, true, true, true, true, true, true, false] rfl rfl HT_.out ?_
        refine pu (i := 10) (N := some 21) #[true, true, true, true, true, true, true, true, true, true, true] rfl rfl HT_.out ?_
        refine done_ (done_of HT_.out (by kernel_rfl)) ?_
        try go_wp2
        go_ret
        exact ⟨er, pT HB.out⟩
       rw [if_neg c7] at H
       exact absurd H (by simp)
      replace c6 := Bool.eq_false_iff.mpr c6
      subst c6
      have H1 : (some false) = some r := by rw [if_neg (show ¬ (false = true) by decide)] at H; exact H
      clear H
      have H := H1
      clear H1
      obtain rfl := Option.some.inj H
      have p101 : 0 ≤ (x7_1 : Int) := of_decide_eq_true (by first | (with_reducible assumption) | assumption)
      have q101 : x7_1 < (l0.length : Int) := of_decide_eq_true (by first | (with_reducible assumption) | assumption)
      obtain ⟨ad101, A101_2, c101_2, e101, hx101_0, hx101_1, hx101_2, hl101_2, hi101_2⟩ := at_T29 HR0.out x7_1 p101 q101
      cases e101
      replace hx101_0 := (HB.out.cell (World.block_lt_of_cell? w _ hx101_0)).trans hx101_0
      replace hx101_1 := (HB.out.cell (World.block_lt_of_cell? w _ hx101_1)).trans hx101_1
      replace hx101_2 := (HB.out.cell (World.block_lt_of_cell? w _ hx101_2)).trans hx101_2
      have HR101_2 := Aside0.mk hi101_2
      have HC101_2 := Aside0.mk hl101_2
      clear hi101_2 hl101_2
      replace p101 := eq_true p101
      replace q101 := eq_true q101
      try go_wp2_with (first | ((with_reducible refine gate_dst (N := 4) rfl ?_); refine bxe (cs := #[.int .i64 0, .int .i64 0, .slice none 0 0]) (t := 29) ?_; intro gb102 hg w22 hbox hb; have BK102 := aK (hbox); have GW102 := aK (gE hg (pS HB.out)); have GE102 := GW102; replace HB := bS HB hb; clear hb hbox hg; obtain ⟨hcz23_0, hcz23_1, hcz23_2, hfz23_0, hfz23_1, hfz23_2⟩ := bc3 BK102.out))
      have n0_ : Aside0 ((((w22.setCell ⟨gb102, 0, none⟩ (.int .i64 ((rd_T29 l0 x7_1).f0))).setCell ⟨gb102, 1, none⟩ (.int .i64 ((rd_T29 l0 x7_1).f1))).setCell ⟨gb102, 2, none⟩ (.slice A101_2 ((rd_T29 l0 x7_1).f2).length c101_2)).heap[gb102]? = some (.cells #[.int .i64 ((rd_T29 l0 x7_1).f0), .int .i64 ((rd_T29 l0 x7_1).f1), .slice A101_2 ((rd_T29 l0 x7_1).f2).length c101_2] 29 (0, 0))) := ⟨by refine bk ?_; refine blk_put (cs := #[.int .i64 ((rd_T29 l0 x7_1).f0), .int .i64 ((rd_T29 l0 x7_1).f1), .slice none 0 0]) ?_ 2 _ rfl; refine bk ?_; refine blk_put (cs := #[.int .i64 ((rd_T29 l0 x7_1).f0), .int .i64 0, .slice none 0 0]) ?_ 1 _ rfl; refine bk ?_; refine blk_put (cs := #[.int .i64 0, .int .i64 0, .slice none 0 0]) ?_ 0 _ rfl; refine bk ?_; exact BK102.out⟩
      have n1_ : Aside0 (Below w.heap.size w (((w22.setCell ⟨gb102, 0, none⟩ (.int .i64 ((rd_T29 l0 x7_1).f0))).setCell ⟨gb102, 1, none⟩ (.int .i64 ((rd_T29 l0 x7_1).f1))).setCell ⟨gb102, 2, none⟩ (.slice A101_2 ((rd_T29 l0 x7_1).f2).length c101_2))) := ⟨pT HB.out⟩
      (try clear BK102)
      (try clear HB)
      generalize (((w22.setCell ⟨gb102, 0, none⟩ (.int .i64 ((rd_T29 l0 x7_1).f0))).setCell ⟨gb102, 1, none⟩ (.int .i64 ((rd_T29 l0 x7_1).f1))).setCell ⟨gb102, 2, none⟩ (.slice A101_2 ((rd_T29 l0 x7_1).f2).length c101_2)) = w24 at n0_ n1_ ⊢
      have BK102 := n0_
      have HB := n1_
      clear n0_ n1_
      have n0_ := aK (blk_drew BK102.out)
      have n1_ := aK (below_drew1 HB.out)
      clear BK102 HB
      have BK102 := n0_
      have HB := n1_
      clear n0_ n1_
      refine start_ (n := 11) (S := fun w' => w'.cell? ⟨gb102, 0, none⟩ = some (.int .i64 ((rd_T29 l0 x7_1).f0)) ∧ w'.cell? ⟨gb102, 1, none⟩ = some (.int .i64 ((rd_T29 l0 x7_1).f1)) ∧ w'.cell? ⟨gb102, 2, none⟩ = some (.slice A101_2 ((rd_T29 l0 x7_1).f2).length c101_2)) (ds := []) #[false, false, false, false, false, false, false, false, false, false, false] (by kernel_rfl) rfl rfl (cz3 BK102.out) (fun hHeld => ?_); refine with_tabW impl_areAlike.tab4 impl_areAlike.bits4 (fun HT_ HW_ => ?_)
      generalize w24.drew = w25 at BK102 HB hHeld ⊢
      refine tk (i := 0) (N := some 11) #[true, false, false, false, false, false, false, false, false, false, false] rfl rfl HT_.out HW_.out (Or.inl ⟨by rfl, by rintro w' ⟨s0, s1, s2⟩; go_simp; with_reducible rfl⟩) hHeld ?_
      refine one_ (i := 1) (N := some 12) #[true, true, false, false, false, false, false, false, false, false, false] rfl rfl (one_of HT_.out (by kernel_rfl)) (by decide) (fun K hK => ?_)
      refine goes_ Try.func109 (by kernel_rfl) rfl #[.agg #[.int .i64 ((rd_T29 l0 x7_1).f0), .int .i64 ((rd_T29 l0 x7_1).f1), .slice A101_2 ((rd_T29 l0 x7_1).f2).length c101_2]] (by rfl) rfl rfl (by (try simp only [List.map_toArray, List.map_cons, List.map_nil]); first | done | rfl | (simp only [List.length_drop, List.length_take]; rfl)) ?_
      with_reducible refine (impl_IsValidField.calls ((rd_T29 l0 x7_1).f0) ((rd_T29 l0 x7_1).f1) _ _ ((rd_T29 l0 x7_1).f2) false _ ?side1 ?side2 A5.out).mono ?_
      (case side1 => exact pC (Kd.C_below HR101_2.out HB.out))
      (case side2 => exact HC101_2.out)
      rintro e w26 ⟨rfl, hb⟩
      refine ⟨_, rfl, ?_⟩
      replace BK102 := bB BK102 hb
      replace HB := bS HB hb
      (try clear hb)
      (try clear hb2)
      (try clear hk)
      (try clear hi)
      refine hK.out _ _ (cz3 BK102.out) (fun hHeld => ?_)
      clear hK K
      refine norm_ (a' := ?_) ?_ ?_
      rotate_left
      ·
       show Act.put _ (some 12) _ = _
       simp only [sP]
       rfl
      refine pu (i := 2) (N := some 13) #[true, true, true, false, false, false, false, false, false, false, false] rfl rfl HT_.out ?_
      refine pu (i := 3) (N := some 14) #[true, true, true, true, false, false, false, false, false, false, false] rfl rfl HT_.out ?_
      refine pure_ (i := 4) (N := some 15) (v := undef) (a' := ?_) #[true, true, true, true, true, false, false, false, false, false, false] rfl rfl (any_of HT_.out (by kernel_rfl)) (fun _ _ _ h => h) (Or.inr ⟨by rfl, rfl⟩) ?_ ?_
      rotate_left
      ·
       simp only [sP]
       rfl
      refine pure_ (i := 5) (N := some 16) (v := undef) (a' := ?_) #[true, true, true, true, true, true, false, false, false, false, false] rfl rfl (any_of HT_.out (by kernel_rfl)) (fun _ _ _ h => h) (Or.inr ⟨by rfl, rfl⟩) ?_ ?_
      rotate_left
      ·
       simp only [sP]
       rfl
      refine pure_ (i := 6) (N := some 17) (v := undef) (a' := ?_) #[true, true, true, true, true, true, true, false, false, false, false] rfl rfl (any_of HT_.out (by kernel_rfl)) (fun _ _ _ h => h) (Or.inr ⟨by rfl, rfl⟩) ?_ ?_
      rotate_left
      ·
       simp only [sP]
       rfl
      refine pure_ (i := 7) (N := some 18) (v := undef) (a' := ?_) #[true, true, true, true, true, true, true, true, false, false, false] rfl rfl (any_of HT_.out (by kernel_rfl)) (fun _ _ _ h => h) (Or.inr ⟨by rfl, rfl⟩) ?_ ?_
      rotate_left
      ·
       simp only [sP]
       rfl
      refine pure_ (i := 8) (N := some 19) (v := undef) (a' := ?_) #[true, true, true, true, true, true, true, true, true, false, false] rfl rfl (any_of HT_.out (by kernel_rfl)) (fun _ _ _ h => h) (Or.inr ⟨by rfl, rfl⟩) ?_ ?_
      rotate_left
      ·
       simp only [sP]
       rfl
      refine pure_ (i := 9) (N := some 20) (v := undef) (a' := ?_) #[true, true, true, true, true, true, true, true, true, true, false] rfl rfl (any_of HT_.out (by kernel_rfl)) (fun _ _ _ h => h) (Or.inr ⟨by rfl, rfl⟩) ?_ ?_
      rotate_left
      ·
       simp only [sP]
       rfl
      refine pu (i := 10) (N := some 21) #[true, true, true, true, true, true, true, true, true, true, true] rfl rfl HT_.out ?_
      refine done_ (done_of HT_.out (by kernel_rfl)) ?_
      try go_wp2
      go_ret
      exact ⟨er, pT HB.out⟩
     rw [if_neg c4] at H
     exact absurd H (by simp)
    rw [if_neg c3] at H
    exact absurd H (by simp)
   rw [if_neg c2] at H
   have c2b0 : decide (x7_1 < (l0.length : Int)) = false := decide_eq_false c2
   clear c2
   obtain rfl := Option.some.inj H
   go_wp2
   go_ret
   exact ⟨er, pT HB.out⟩
def impl_absOf.f (a0 : Int) : Option (Int) := if a0 < 0 then (some (wrap64 (-a0))) else (some a0)
theorem impl_absOf.calls (a0 : Int) (r : Int) (w : World) (h : impl_absOf.f a0 = some r) :
  Calls Try.prog 96 #[.int .i64 a0] w fun e w' => e = .returned (.int .i64 r) ∧ Drawn0 w w' := by
 have H : (if a0 < 0 then (some (wrap64 (-a0))) else (some a0)) = some r := h
 clear h
 by_cases c2 : a0 < 0
 ·
  rw [if_pos c2] at H
  have c2b0 : decide (a0 < 0) = true := decide_eq_true c2
  clear c2
  obtain rfl := Option.some.inj H
  go_enter Try.func96, Try.ntmps96
  go_wp2
  go_ret
  exact ⟨by first | rfl | (simp; done) | (simp [*]; done), by repeat (first | exact Drawn0.refl _ | apply Drawn0.step)⟩
 rw [if_neg c2] at H
 have c2b0 : decide (a0 < 0) = false := decide_eq_false c2
 clear c2
 obtain rfl := Option.some.inj H
 go_enter Try.func96, Try.ntmps96
 go_wp2
 go_ret
 exact ⟨by first | rfl | (simp; done) | (simp [*]; done), by repeat (first | exact Drawn0.refl _ | apply Drawn0.step)⟩
def impl_differences.l0 : Nat → Int → Int → List Int → Int → Int → Int → Int → List Int → Option (Int × Int)
 | 0, _, _, _, _, _, _, _, _ => none
 | k + 1, x6, x7, x12, x13, x14, x103000, x103001, x103002 => if x14 < x13 then (if 0 ≤ x14 then (if x14 < (x12.length : Int) then (if x14 < (x103002.length : Int) then (if (rd x12 x14) = (-9999) then (impl_differences.l0 k x6 x7 x12 x13 (wrap64 (x14 + 1)) x103000 x103001 x103002) else (if (rd x103002 x14) = (-9999) then (impl_differences.l0 k x6 x7 x12 x13 (wrap64 (x14 + 1)) x103000 x103001 x103002) else ((impl_absOf.f (wrap64 ((rd x12 x14) - (rd x103002 x14)))).bind fun t105 => (impl_differences.l0 k (wrap64 (x6 + t105)) (wrap64 (x7 + 1)) x12 x13 (wrap64 (x14 + 1)) x103000 x103001 x103002)))) else (none)) else (none)) else (none)) else (some (x6, x7))
def impl_differences.f (k : Nat) (a0_0 : Int) (a0_1 : Int) (l0_2 : List Int) (a1_0 : Int) (a1_1 : Int) (l1_2 : List Int) : Option (Int × Int) := impl_differences.l0 k 0 0 l0_2 (l0_2.length : Int) 0 a1_0 a1_1 l1_2
theorem impl_differences.calls (k : Nat) (a0_0 : Int) (a0_1 : Int) (A0_2 : Option Addr) (c0_2 : Nat) (l0_2 : List Int) (a1_0 : Int) (a1_1 : Int) (A1_2 : Option Addr) (c1_2 : Nat) (l1_2 : List Int) (r1 : Int) (r2 : Int) (w : World) (hr0_2 : Kd.C (Kd.int .i64) w A0_2 l0_2.length l0_2) (hc0_2 : l0_2.length ≤ c0_2) (hr1_2 : Kd.C (Kd.int .i64) w A1_2 l1_2.length l1_2) (hc1_2 : l1_2.length ≤ c1_2) (h : impl_differences.f k a0_0 a0_1 l0_2 a1_0 a1_1 l1_2 = some (r1, r2)) :
  Calls Try.prog 113 #[.agg #[.int .i64 a0_0, .int .i64 a0_1, .slice A0_2 l0_2.length c0_2], .agg #[.int .i64 a1_0, .int .i64 a1_1, .slice A1_2 l1_2.length c1_2]] w fun e w' => e = .returned (.tuple #[.int .i64 r1, .int .i64 r2]) ∧ Below w.heap.size w w' := by
 have hu29 := Try.underlying29
 have HR0_2 := Aside0.mk hr0_2
 have HC0_2 := Aside0.mk hc0_2
 clear hr0_2 hc0_2
 have HR1_2 := Aside0.mk hr1_2
 have HC1_2 := Aside0.mk hc1_2
 clear hr1_2 hc1_2
 have HB := aK (Below.refl w.heap.size w)
 have H : (impl_differences.l0 k 0 0 l0_2 (l0_2.length : Int) 0 a1_0 a1_1 l1_2) = some (r1, r2) := h
 clear h
 have H' := Aside0.mk H
 clear H
 go_enter Try.func113, Try.ntmps113
 go_wp2_with (first | ((with_reducible refine gate_dst (N := 2) rfl ?_); refine bxe (cs := #[.int .i64 a0_0, .int .i64 a0_1, .slice A0_2 l0_2.length c0_2]) (t := 29) ?_; intro gb101 hg w3 hbox hb; have BK101 := aK (hbox); have GW101 := aK (gE hg (pS HB.out)); have GE101 := GW101; replace HB := bS HB hb; clear hb hbox hg) | ((with_reducible refine gate_dst (N := 3) rfl ?_); refine bxe (cs := #[.int .i64 a1_0, .int .i64 a1_1, .slice A1_2 l1_2.length c1_2]) (t := 29) ?_; intro gb102 hg w4 hbox hb; have BK102 := aK (hbox); have GW102 := aK (gE hg (pS HB.out)); have GE102 := GW102; obtain ⟨NB101_102, NB102_101⟩ := nb hg (pB BK101.out); replace BK101 := bB BK101 hb; replace HB := bS HB hb; clear hb hbox hg; have hnb5 := NB101_102.out; have hnc5 := NB102_101.out; obtain ⟨hcz6_0, hcz6_1, hcz6_2, hfz6_0, hfz6_1, hfz6_2⟩ := bc3 BK101.out))
 go_loopg [6, 7, 14] k (fun kq v6 v7 v14 w' => ∃ (x6_1 : Int) (x7_1 : Int) (x14_1 : Int), v6 = .int .i64 x6_1 ∧ v7 = .int .i64 x7_1 ∧ v14 = .int .i64 x14_1 ∧ Aside0 (impl_differences.l0 kq x6_1 x7_1 l0_2 (l0_2.length : Int) x14_1 a1_0 a1_1 l1_2 = some (r1, r2)) ∧ Aside0 (kq ≤ k) ∧ Aside0 (w'.heap[gb101]? = some (.cells #[.int .i64 a0_0, .int .i64 a0_1, (.slice A0_2 l0_2.length c0_2)] 29 (0, 0))) ∧ Aside0 (w'.heap[gb102]? = some (.cells #[.int .i64 a1_0, .int .i64 a1_1, (.slice A1_2 l1_2.length c1_2)] 29 (0, 0))) ∧ Aside0 (Below w.heap.size w w'))
 case atStart => exact ⟨(0), (0), (0), (by first | rfl | (simp; done) | (simp [*]; done)), (by first | rfl | (simp; done) | (simp [*]; done)), (by first | rfl | (simp; done) | (simp [*]; done)), H', ⟨Nat.le_refl _⟩, ⟨by refine bk ?_; exact BK101.out⟩, ⟨by refine bk ?_; exact BK102.out⟩, ⟨pT HB.out⟩⟩
 case round =>
  clear H'
  try clear c1
  try clear p2
  try clear c5
  try clear hcz6_0
  try clear hcz6_1
  try clear hcz6_2
  try clear hfz6_0
  try clear hfz6_1
  try clear hfz6_2
  obtain ⟨x6_1, x7_1, x14_1, rfl, rfl, rfl, HA, HK1, BK101, BK102, HB⟩ := hrel
  cases gk with
  | zero => exact absurd HA.out (by simp [impl_differences.l0])
  | succ k1 =>
   have H := HA.out
   clear HA
   simp only [impl_differences.l0] at H
   by_cases c7 : x14_1 < (l0_2.length : Int)
   ·
    rw [if_pos c7] at H
    have c7b0 : decide (x14_1 < (l0_2.length : Int)) = true := decide_eq_true c7
    clear c7
    by_cases c8 : 0 ≤ x14_1
    ·
     rw [if_pos c8] at H
     have c8b0 : decide (0 ≤ x14_1) = true := decide_eq_true c8
     clear c8
     by_cases c9 : x14_1 < (l0_2.length : Int)
     ·
      rw [if_pos c9] at H
      have c9b0 : decide (x14_1 < (l0_2.length : Int)) = true := decide_eq_true c9
      clear c9
      by_cases c10 : x14_1 < (l1_2.length : Int)
      ·
       rw [if_pos c10] at H
       have c10b0 : decide (x14_1 < (l1_2.length : Int)) = true := decide_eq_true c10
       clear c10
       by_cases c11 : (rd l0_2 x14_1) = (-9999)
       ·
        rw [if_pos c11] at H
        have c11b0 : ((rd l0_2 x14_1) == (-9999)) = true := beq_iff_eq.mpr c11
        have c11b1 : ((rd l0_2 x14_1) != (-9999)) = false := bne_eq_false_iff_eq.mpr c11
        clear c11
        have H' := Aside0.mk H
        clear H
        have p103 : 0 ≤ (x14_1 : Int) := of_decide_eq_true (by first | (with_reducible assumption) | assumption)
        have q103 : x14_1 < (l0_2.length : Int) := of_decide_eq_true (by first | (with_reducible assumption) | assumption)
        obtain ⟨ad103, e103, hx103_0⟩ := Kd.at_int HR0_2.out x14_1 p103 q103
        cases e103
        replace hx103_0 := (HB.out.cell (World.block_lt_of_cell? w _ hx103_0)).trans hx103_0
        replace p103 := eq_true p103
        replace q103 := eq_true q103
        have hnb12 := NB102_101.out
        have hnc12 := NB101_102.out
        obtain ⟨hcz13_0, hcz13_1, hcz13_2, hfz13_0, hfz13_1, hfz13_2⟩ := bc3 BK102.out
        have p104 : 0 ≤ (x14_1 : Int) := of_decide_eq_true (by first | (with_reducible assumption) | assumption)
        have q104 : x14_1 < (l1_2.length : Int) := of_decide_eq_true (by first | (with_reducible assumption) | assumption)
        obtain ⟨ad104, e104, hx104_0⟩ := Kd.at_int HR1_2.out x14_1 p104 q104
        cases e104
        replace hx104_0 := (HB.out.cell (World.block_lt_of_cell? w _ hx104_0)).trans hx104_0
        replace p104 := eq_true p104
        replace q104 := eq_true q104
        go_wp2
        go_roundg k1
        case measure => have := HK1.out; omega
        case rel => exact ⟨(x6_1), (x7_1), (wrap64 (x14_1 + 1)), (by first | rfl | (simp; done) | (simp [*]; done)), (by first | rfl | (simp; done) | (simp [*]; done)), (by first | rfl | (simp; done) | (simp [*]; done)), H', ⟨by have := HK1.out; omega⟩, ⟨by refine bk ?_; exact BK101.out⟩, ⟨by refine bk ?_; exact BK102.out⟩, ⟨pT HB.out⟩⟩
       rw [if_neg c11] at H
       have c11b0 : ((rd l0_2 x14_1) == (-9999)) = false := beq_eq_false_iff_ne.mpr c11
       have c11b1 : ((rd l0_2 x14_1) != (-9999)) = true := bne_iff_ne.mpr c11
       by_cases c14 : (rd l1_2 x14_1) = (-9999)
       ·
        rw [if_pos c14] at H
        have c14b0 : ((rd l1_2 x14_1) == (-9999)) = true := beq_iff_eq.mpr c14
        have c14b1 : ((rd l1_2 x14_1) != (-9999)) = false := bne_eq_false_iff_eq.mpr c14
        clear c14
        have H' := Aside0.mk H
        clear H
        have p103 : 0 ≤ (x14_1 : Int) := of_decide_eq_true (by first | (with_reducible assumption) | assumption)
        have q103 : x14_1 < (l0_2.length : Int) := of_decide_eq_true (by first | (with_reducible assumption) | assumption)
        obtain ⟨ad103, e103, hx103_0⟩ := Kd.at_int HR0_2.out x14_1 p103 q103
        cases e103
        replace hx103_0 := (HB.out.cell (World.block_lt_of_cell? w _ hx103_0)).trans hx103_0
        replace p103 := eq_true p103
        replace q103 := eq_true q103
        have hnb15 := NB102_101.out
        have hnc15 := NB101_102.out
        obtain ⟨hcz16_0, hcz16_1, hcz16_2, hfz16_0, hfz16_1, hfz16_2⟩ := bc3 BK102.out
        have p104 : 0 ≤ (x14_1 : Int) := of_decide_eq_true (by first | (with_reducible assumption) | assumption)
        have q104 : x14_1 < (l1_2.length : Int) := of_decide_eq_true (by first | (with_reducible assumption) | assumption)
        obtain ⟨ad104, e104, hx104_0⟩ := Kd.at_int HR1_2.out x14_1 p104 q104
        cases e104
        replace hx104_0 := (HB.out.cell (World.block_lt_of_cell? w _ hx104_0)).trans hx104_0
        replace p104 := eq_true p104
        replace q104 := eq_true q104
        go_wp2
        go_roundg k1
        case measure => have := HK1.out; omega
        case rel => exact ⟨(x6_1), (x7_1), (wrap64 (x14_1 + 1)), (by first | rfl | (simp; done) | (simp [*]; done)), (by first | rfl | (simp; done) | (simp [*]; done)), (by first | rfl | (simp; done) | (simp [*]; done)), H', ⟨by have := HK1.out; omega⟩, ⟨by refine bk ?_; exact BK101.out⟩, ⟨by refine bk ?_; exact BK102.out⟩, ⟨pT HB.out⟩⟩
       rw [if_neg c14] at H
       have c14b0 : ((rd l1_2 x14_1) == (-9999)) = false := beq_eq_false_iff_ne.mpr c14
       have c14b1 : ((rd l1_2 x14_1) != (-9999)) = true := bne_iff_ne.mpr c14
       replace H := Option.bind_eq_some_iff.mp H
       obtain ⟨t105, A170, H⟩ := H
       replace H : (impl_differences.l0 k1 (wrap64 (x6_1 + t105)) (wrap64 (x7_1 + 1)) l0_2 (l0_2.length : Int) (wrap64 (x14_1 + 1)) a1_0 a1_1 l1_2) = some (r1, r2) := H
       have A17 := Aside0.mk A170
       clear A170
       have H' := Aside0.mk H
       clear H
       have p103 : 0 ≤ (x14_1 : Int) := of_decide_eq_true (by first | (with_reducible assumption) | assumption)
       have q103 : x14_1 < (l0_2.length : Int) := of_decide_eq_true (by first | (with_reducible assumption) | assumption)
       obtain ⟨ad103, e103, hx103_0⟩ := Kd.at_int HR0_2.out x14_1 p103 q103
       cases e103
       replace hx103_0 := (HB.out.cell (World.block_lt_of_cell? w _ hx103_0)).trans hx103_0
       replace p103 := eq_true p103
       replace q103 := eq_true q103
       have hnb18 := NB102_101.out
       have hnc18 := NB101_102.out
       obtain ⟨hcz19_0, hcz19_1, hcz19_2, hfz19_0, hfz19_1, hfz19_2⟩ := bc3 BK102.out
       have p104 : 0 ≤ (x14_1 : Int) := of_decide_eq_true (by first | (with_reducible assumption) | assumption)
       have q104 : x14_1 < (l1_2.length : Int) := of_decide_eq_true (by first | (with_reducible assumption) | assumption)
       obtain ⟨ad104, e104, hx104_0⟩ := Kd.at_int HR1_2.out x14_1 p104 q104
       cases e104
       replace hx104_0 := (HB.out.cell (World.block_lt_of_cell? w _ hx104_0)).trans hx104_0
       replace p104 := eq_true p104
       replace q104 := eq_true q104
       go_wp2_with (first | ((with_reducible refine gate_callee (f := 96) rfl ?_); refine gl (some 34) Try.func96 #[.int .i64 (wrap64 ((rd l0_2 x14_1) - (rd l1_2 x14_1)))] ?_; (with_reducible refine (impl_absOf.calls (wrap64 ((rd l0_2 x14_1) - (rd l1_2 x14_1))) t105 _ A17.out).mono ?_); rintro e w' ⟨rfl, ⟨nd, rfl⟩⟩; refine ⟨_, rfl, ?_⟩))
       go_roundg k1
       case measure => have := HK1.out; omega
       case rel => exact ⟨(wrap64 (x6_1 + t105)), (wrap64 (x7_1 + 1)), (wrap64 (x14_1 + 1)), (by first | rfl | (simp; done) | (simp [*]; done)), (by first | rfl | (simp; done) | (simp [*]; done)), (by first | rfl | (simp; done) | (simp [*]; done)), H', ⟨by have := HK1.out; omega⟩, ⟨by refine bk ?_; exact BK101.out⟩, ⟨by refine bk ?_; exact BK102.out⟩, ⟨pT HB.out⟩⟩
      rw [if_neg c10] at H
      exact absurd H (by simp)
     rw [if_neg c9] at H
     exact absurd H (by simp)
    rw [if_neg c8] at H
    exact absurd H (by simp)
   rw [if_neg c7] at H
   have c7b0 : decide (x14_1 < (l0_2.length : Int)) = false := decide_eq_false c7
   clear c7
   simp only [Option.some.injEq, Prod.mk.injEq] at H
   obtain ⟨rfl, rfl⟩ := H
   go_wp2
   go_ret2
   exact ⟨er, pT HB.out⟩
def impl_matchOf.f (k : Nat) (a0_0 : Int) (a0_1 : Int) (l0_2 : List Int) (a1_0 : Int) (a1_1 : Int) (l1_2 : List Int) (a2_0 : Int) (a2_1 : Int) : Option (Int × Int) := (impl_moveField.f k a0_0 a0_1 l0_2 a2_0 a2_1).bind fun bt104 => ((impl_differences.f k bt104.1 bt104.2.1 bt104.2.2 a1_0 a1_1 l1_2).bind fun bt109 => (some (bt109.1, bt109.2)))
def impl_matchOf.T1 : Bool × List (List Nat × List Nat) := (true, [([], []), ([], []), ([0, 1], [0, 1]), ([], []), ([2, 3, 2], [2, 3]), ([4], [4]), ([4], [4]), ([5, 4, 0, 1, 2, 3, 4, 5, 6], [5]), ([6, 7, 0, 1, 2, 3, 4, 5, 6, 7], [6])])
def impl_matchOf.B1 : List Nat := [0, 0, 3, 0, 15, 31, 31, 127, 255]
theorem impl_matchOf.tab1 : rtab .any (opsOf Try.f91 1) = impl_matchOf.T1 := by kernel_rfl
theorem impl_matchOf.bits1 : waitsOk impl_matchOf.T1.2 impl_matchOf.B1 = true := by kernel_rfl
theorem impl_matchOf.calls (k : Nat) (a0_0 : Int) (a0_1 : Int) (A0_2 : Option Addr) (c0_2 : Nat) (l0_2 : List Int) (a1_0 : Int) (a1_1 : Int) (A1_2 : Option Addr) (c1_2 : Nat) (l1_2 : List Int) (a2_0 : Int) (a2_1 : Int) (r1 : Int) (r2 : Int) (w : World) (hr0_2 : Kd.C (Kd.int .i64) w A0_2 l0_2.length l0_2) (hc0_2 : l0_2.length ≤ c0_2) (hr1_2 : Kd.C (Kd.int .i64) w A1_2 l1_2.length l1_2) (hc1_2 : l1_2.length ≤ c1_2) (h : impl_matchOf.f k a0_0 a0_1 l0_2 a1_0 a1_1 l1_2 a2_0 a2_1 = some (r1, r2)) :
  Calls Try.prog 91 #[.agg #[.int .i64 a0_0, .int .i64 a0_1, .slice A0_2 l0_2.length c0_2], .agg #[.int .i64 a1_0, .int .i64 a1_1, .slice A1_2 l1_2.length c1_2], .agg #[.int .i64 a2_0, .int .i64 a2_1]] w fun e w' => e = .returned (.tuple #[.int .i64 r1, .int .i64 r2]) ∧ Below w.heap.size w w' := by
 have hu29 := Try.underlying29
 have hu37 := Try.underlying37
 have HR0_2 := Aside0.mk hr0_2
 have HC0_2 := Aside0.mk hc0_2
 clear hr0_2 hc0_2
 have HR1_2 := Aside0.mk hr1_2
 have HC1_2 := Aside0.mk hc1_2
 clear hr1_2 hc1_2
 have HB := aK (Below.refl w.heap.size w)
 have H : ((impl_moveField.f k a0_0 a0_1 l0_2 a2_0 a2_1).bind fun bt104 => ((impl_differences.f k bt104.1 bt104.2.1 bt104.2.2 a1_0 a1_1 l1_2).bind fun bt109 => (some (bt109.1, bt109.2)))) = some (r1, r2) := h
 clear h
 replace H := Option.bind_eq_some_iff.mp H
 obtain ⟨⟨t104, t105, t106⟩, A40, H⟩ := H
 replace H : ((impl_differences.f k t104 t105 t106 a1_0 a1_1 l1_2).bind fun bt109 => (some (bt109.1, bt109.2))) = some (r1, r2) := H
 have A4 := Aside0.mk A40
 clear A40
 replace H := Option.bind_eq_some_iff.mp H
 obtain ⟨⟨t109, t110⟩, A50, H⟩ := H
 replace H : (some (t109, t110)) = some (r1, r2) := H
 have A5 := Aside0.mk A50
 clear A50
 simp only [Option.some.injEq, Prod.mk.injEq] at H
 obtain ⟨rfl, rfl⟩ := H
 go_enter Try.func91, Try.ntmps91
 try go_wp2_with (first | ((with_reducible refine gate_dst (N := 3) rfl ?_); refine bxe (cs := #[.int .i64 a0_0, .int .i64 a0_1, .slice A0_2 l0_2.length c0_2]) (t := 29) ?_; intro gb101 hg w6 hbox hb; have BK101 := aK (hbox); have GW101 := aK (gE hg (pS HB.out)); have GE101 := GW101; replace HB := bS HB hb; clear hb hbox hg) | ((with_reducible refine gate_dst (N := 4) rfl ?_); refine bxe (cs := #[.int .i64 a1_0, .int .i64 a1_1, .slice A1_2 l1_2.length c1_2]) (t := 29) ?_; intro gb102 hg w7 hbox hb; have BK102 := aK (hbox); have GW102 := aK (gE hg (pS HB.out)); have GE102 := GW102; obtain ⟨NB101_102, NB102_101⟩ := nb hg (pB BK101.out); replace BK101 := bB BK101 hb; replace HB := bS HB hb; clear hb hbox hg) | ((with_reducible refine gate_dst (N := 5) rfl ?_); refine bxe (cs := #[.int .i64 a2_0, .int .i64 a2_1]) (t := 37) ?_; intro gb103 hg w8 hbox hb; have BK103 := aK (hbox); have GW103 := aK (gE hg (pS HB.out)); have GE103 := GW103; obtain ⟨NB101_103, NB103_101⟩ := nb hg (pB BK101.out); obtain ⟨NB102_103, NB103_102⟩ := nb hg (pB BK102.out); replace BK101 := bB BK101 hb; replace BK102 := bB BK102 hb; replace HB := bS HB hb; clear hb hbox hg))
 have n0_ := aK (blk_drew BK101.out)
 have n1_ := aK (blk_drew BK102.out)
 have n2_ := aK (blk_drew BK103.out)
 have n3_ := aK (below_drew1 HB.out)
 clear BK101 BK102 BK103 HB
 have BK101 := n0_
 have BK102 := n1_
 have BK103 := n2_
 have HB := n3_
 clear n0_ n1_ n2_ n3_
 refine start_ (n := 9) (S := fun w' => w'.cell? ⟨gb101, 0, none⟩ = some (.int .i64 a0_0) ∧ w'.cell? ⟨gb101, 1, none⟩ = some (.int .i64 a0_1) ∧ w'.cell? ⟨gb101, 2, none⟩ = some (.slice A0_2 l0_2.length c0_2) ∧ w'.cell? ⟨gb103, 0, none⟩ = some (.int .i64 a2_0) ∧ w'.cell? ⟨gb103, 1, none⟩ = some (.int .i64 a2_1) ∧ w'.cell? ⟨gb102, 0, none⟩ = some (.int .i64 a1_0) ∧ w'.cell? ⟨gb102, 1, none⟩ = some (.int .i64 a1_1) ∧ w'.cell? ⟨gb102, 2, none⟩ = some (.slice A1_2 l1_2.length c1_2)) (ds := []) #[false, false, false, false, false, false, false, false, false] (by kernel_rfl) rfl rfl (cj3 BK101.out (cj2 BK103.out (cz3 BK102.out))) (fun hHeld => ?_); refine with_tabW impl_matchOf.tab1 impl_matchOf.bits1 (fun HT_ HW_ => ?_)
 generalize w8.drew = w9 at BK101 BK102 BK103 HB hHeld ⊢
 refine tk (i := 0) (N := some 8) #[true, false, false, false, false, false, false, false, false] rfl rfl HT_.out HW_.out (Or.inl ⟨by rfl, by rintro w' ⟨s0, s1, s2, s3, s4, s5, s6, s7⟩; go_simp; with_reducible rfl⟩) hHeld ?_
 refine tk (i := 1) (N := some 9) #[true, true, false, false, false, false, false, false, false] rfl rfl HT_.out HW_.out (Or.inl ⟨by rfl, by rintro w' ⟨s0, s1, s2, s3, s4, s5, s6, s7⟩; go_simp; with_reducible rfl⟩) hHeld ?_
 refine tk (i := 3) (N := some 11) #[true, true, false, true, false, false, false, false, false] rfl rfl HT_.out HW_.out (Or.inl ⟨by rfl, by rintro w' ⟨s0, s1, s2, s3, s4, s5, s6, s7⟩; go_simp; with_reducible rfl⟩) hHeld ?_
 refine one_ (i := 2) (N := some 10) #[true, true, true, true, false, false, false, false, false] rfl rfl (one_of HT_.out (by kernel_rfl)) (by decide) (fun K hK => ?_)
 refine goes_ Try.func106 (by kernel_rfl) rfl #[.agg #[.int .i64 a0_0, .int .i64 a0_1, .slice A0_2 l0_2.length c0_2], .agg #[.int .i64 a2_0, .int .i64 a2_1]] (by rfl) rfl rfl (by (try simp only [List.map_toArray, List.map_cons, List.map_nil]); first | done | rfl | (simp only [List.length_drop, List.length_take]; rfl)) ?_
 with_reducible refine (impl_moveField.calls k a0_0 a0_1 _ _ l0_2 a2_0 a2_1 t104 t105 t106 _ ?side1 ?side2 A4.out).mono ?_
 (case side1 => exact pC (Kd.C_below HR0_2.out HB.out))
 (case side2 => exact HC0_2.out)
 rintro e w10 ⟨v107, rfl, ho0, hb⟩
 refine ⟨_, rfl, ?_⟩
 have HO108 := aK (Kd.R_lower ho0 (below_size (pS HB.out)))
 replace BK101 := bB BK101 hb
 replace BK102 := bB BK102 hb
 replace BK103 := bB BK103 hb
 replace HB := bS HB hb
 (try clear hb)
 (try clear hb2)
 (try clear hk)
 (try clear hi)
 (try clear ho0)
 obtain ⟨Ao11, co11, eo11⟩ := Kd.R_slice HO108.out
 (first | subst eo11 | (obtain ⟨f4_, f5_⟩ := sI eo11; subst f4_; subst f5_))
 refine hK.out _ _ (cj3 BK101.out (cj2 BK103.out (cz3 BK102.out))) (fun hHeld => ?_)
 clear hK K
 refine norm_ (a' := ?_) ?_ ?_
 rotate_left
 ·
  show Act.put _ (some 10) _ = _
  simp only [sP]
  rfl
 refine one_ (i := 4) (N := some 12) #[true, true, true, true, true, false, false, false, false] rfl rfl (one_of HT_.out (by kernel_rfl)) (by decide) (fun K hK => ?_)
 refine goes_ Try.func113 (by kernel_rfl) rfl #[.agg #[.int .i64 t104, .int .i64 t105, .slice Ao11 t106.length co11], .agg #[.int .i64 a1_0, .int .i64 a1_1, .slice A1_2 l1_2.length c1_2]] (by rfl) rfl rfl (by (try simp only [List.map_toArray, List.map_cons, List.map_nil]); first | done | rfl | (simp only [List.length_drop, List.length_take]; rfl)) ?_
 with_reducible refine (impl_differences.calls k t104 t105 _ _ t106 a1_0 a1_1 _ _ l1_2 t109 t110 _ ?side1 ?side2 ?side3 ?side4 A5.out).mono ?_
 (case side1 => exact pC (Kd.R_reads' HO108.out).2.2)
 (case side2 => exact (Kd.R_reads' HO108.out).2.1)
 (case side3 => exact pC (Kd.C_below HR1_2.out HB.out))
 (case side4 => exact HC1_2.out)
 rintro e w12 ⟨rfl, hb⟩
 refine ⟨_, rfl, ?_⟩
 have n0_ := aK (Kd.R_below (pR HO108.out) hb)
 replace BK101 := bB BK101 hb
 replace BK102 := bB BK102 hb
 replace BK103 := bB BK103 hb
 replace HB := bS HB hb
 clear HO108
 have HO108 := n0_
 clear n0_
 (try clear hb)
 (try clear hb2)
 (try clear hk)
 (try clear hi)
 refine hK.out _ _ (cj3 BK101.out (cj2 BK103.out (cz3 BK102.out))) (fun hHeld => ?_)
 clear hK K
 refine norm_ (a' := ?_) ?_ ?_
 rotate_left
 ·
  show Act.put _ (some 12) _ = _
  simp only [sP]
  rfl
 refine pu (i := 5) (N := some 13) #[true, true, true, true, true, true, false, false, false] rfl rfl HT_.out ?_
 refine pu (i := 6) (N := some 14) #[true, true, true, true, true, true, true, false, false] rfl rfl HT_.out ?_
 refine pu (i := 7) (N := some 6) #[true, true, true, true, true, true, true, true, false] rfl rfl HT_.out ?_
 refine pu (i := 8) (N := some 7) #[true, true, true, true, true, true, true, true, true] rfl rfl HT_.out ?_
 refine done_ (done_of HT_.out (by kernel_rfl)) ?_
 try go_wp2
 go_ret2
 exact ⟨er, pT HB.out⟩
end Go.Proofs.Ytilffhaghabdgaa.P
namespace Go.Proofs
open Go.Shelf
def Try.sortf6_ren : Go.Shelf.Ren := ⟨fun | 6 => 92 | 15 => 161 | 14 => 160 | 28 => 202 | 29 => 203 | 20 => 194 | 21 => 195 | 22 => 196 | 23 => 197 | 24 => 198 | 25 => 199 | 26 => 200 | 27 => 201 | 46 => 216 | 47 => 217 | 48 => 218 | 49 => 219 | 50 => 220 | 57 => 226 | n => n, fun | 22 => 101 | 24 => 105 | 25 => 110 | 3 => 3 | 39 => 148 | 0 => 0 | 53 => 175 | 55 => 113 | 4 => 4 | 46 => 169 | 45 => 168 | 50 => 60 | 5 => 5 | 9 => 9 | 66 => 183 | 70 => 187 | 76 => 195 | 77 => 102 | n => n, fun | n => n⟩
theorem Try.sortf6 : Go.Proofs.SlLaysF0.n6 Try.prog Try.sortf6_ren := {
  mixed := by kernel_rfl
  f6 := ⟨Try.f92.name, by decide, Try.func92.trans (congrArg some (by kernel_rfl))⟩
  f14 := ⟨Try.f160.name, by decide, Try.func160.trans (congrArg some (by kernel_rfl))⟩
  f15 := Try.func161.trans (congrArg some (by kernel_rfl))
  f20 := ⟨Try.f194.name, by decide, Try.func194.trans (congrArg some (by kernel_rfl))⟩
  f21 := ⟨Try.f195.name, by decide, Try.func195.trans (congrArg some (by kernel_rfl))⟩
  f22 := ⟨Try.f196.name, by decide, Try.func196.trans (congrArg some (by kernel_rfl))⟩
  f23 := ⟨Try.f197.name, by decide, Try.func197.trans (congrArg some (by kernel_rfl))⟩
  f24 := ⟨Try.f198.name, by decide, Try.func198.trans (congrArg some (by kernel_rfl))⟩
  f25 := ⟨Try.f199.name, by decide, Try.func199.trans (congrArg some (by kernel_rfl))⟩
  f26 := ⟨Try.f200.name, by decide, Try.func200.trans (congrArg some (by kernel_rfl))⟩
  f27 := ⟨Try.f201.name, by decide, Try.func201.trans (congrArg some (by kernel_rfl))⟩
  f28 := Try.func202.trans (congrArg some (by kernel_rfl))
  f29 := Try.func203.trans (congrArg some (by kernel_rfl))
  f46 := ⟨Try.f216.name, by decide, Try.func216.trans (congrArg some (by kernel_rfl))⟩
  f47 := Try.func217.trans (congrArg some (by kernel_rfl))
  f48 := Try.func218.trans (congrArg some (by kernel_rfl))
  f49 := ⟨Try.f219.name, by decide, Try.func219.trans (congrArg some (by kernel_rfl))⟩
  f50 := ⟨Try.f220.name, by decide, Try.func220.trans (congrArg some (by kernel_rfl))⟩
  f57 := ⟨Try.f226.name, by decide, Try.func226.trans (congrArg some (by kernel_rfl))⟩
  t0 := Try.underlying0
  a0 := Try.isAgg0
  z0 := Try.sizeOf0
  v0 := Try.zeroValue0
  t3 := Try.underlying3
  a3 := Try.isAgg3
  z3 := Try.sizeOf3
  v3 := Try.zeroValue3
  t4 := Try.underlying4
  a4 := Try.isAgg4
  z4 := Try.sizeOf4
  v4 := Try.zeroValue4
  t5 := Try.underlying5
  a5 := Try.isAgg5
  z5 := Try.sizeOf5
  v5 := Try.zeroValue5
  t9 := Try.underlying9
  a9 := Try.isAgg9
  z9 := Try.sizeOf9
  v9 := Try.zeroValue9
  t22 := Try.underlying101
  a22 := Try.isAgg101
  z22 := Try.sizeOf101
  v22 := Try.zeroValue101
  t25 := Try.underlying110
  a25 := Try.isAgg110
  z25 := Try.sizeOf110
  v25 := Try.zeroValue110
  t39 := Try.underlying148
  a39 := Try.isAgg148
  z39 := Try.sizeOf148
  v39 := Try.zeroValue148
  t45 := Try.underlying168
  a45 := Try.isAgg168
  z45 := Try.sizeOf168
  v45 := Try.zeroValue168
  t46 := Try.underlying169
  a46 := Try.isAgg169
  z46 := Try.sizeOf169
  v46 := Try.zeroValue169
  t50 := Try.underlying60
  a50 := Try.isAgg60
  z50 := Try.sizeOf60
  v50 := Try.zeroValue60
  t53 := Try.underlying175
  a53 := Try.isAgg175
  z53 := Try.sizeOf175
  v53 := Try.zeroValue175
  t55 := Try.underlying113
  a55 := Try.isAgg113
  z55 := Try.sizeOf113
  v55 := Try.zeroValue113
  t66 := Try.underlying183
  a66 := Try.isAgg183
  z66 := Try.sizeOf183
  v66 := Try.zeroValue183
  t70 := Try.underlying187
  a70 := Try.isAgg187
  z70 := Try.sizeOf187
  v70 := Try.zeroValue187
  t76 := Try.underlying195
  a76 := Try.isAgg195
  z76 := Try.sizeOf195
  v76 := Try.zeroValue195
  t77 := Try.underlying102
  a77 := Try.isAgg102
  z77 := Try.sizeOf102
  v77 := Try.zeroValue102 }
open Go.Sort Go.RowKit Go.Lib in
theorem Try.slices_SortFunc_rk {α : Type} [Inhabited α] (enc : α → List Value) (hk : ∀ x, (enc x).length = 4) (h1 : ∀ x, ∀ v ∈ enc x, v.oneCell' = true) (cf : α → α → Int) (hO : SWO (ltOf cf)) (g : Nat) (cb : Array Value) (blk off cap : Nat) (d : Array α) (w : World)
    (eg : ∀ args w, (callFunc g args).run Try.prog w = .ok (.enter g args) w) (hcmp : CmpLays Try.prog g cb enc 4 cf blk off d.size w) (hH : HoldsK enc 4 w blk off d) (hblk : blk < w.heap.size) (hsz : d.size < 4611686018427387904) :
    Calls Try.prog 92 #[.slice (some ⟨blk, off, none⟩) d.size cap, .func (.func g) #[] cb] w fun e w' =>
      e = .returned (.tuple #[]) ∧ ∃ n os, w' = sortWorldK enc 4 w blk off n (pdq (ltOf cf) d 0 d.size (Lib.bitLen d.size) true true) os := AnyQ.slices_SortFunc_eq Try.sortf6 4 Try.isAgg105 Try.sizeOf105 enc hk h1 cf hO g cb blk off cap d w eg hcmp hH hblk hsz
open Go.Sort Go.RowKit Go.Lib in
theorem Try.slices_SortFunc_none (p : Option Addr) (cap : Nat) (fv : Value) (w : World) :
    Calls Try.prog 92 #[.slice p 0 cap, fv] w fun e w' => e = .returned (.tuple #[]) ∧ w' = w := AnyF.slices_SortFunc_none Try.sortf6 p cap fv w
end Go.Proofs
namespace Go.Proofs.Ytilffhaghabdgaa.P
open Go.RowKit Go.Proofs.YtilffhaghabdgaaW.PrintWords Go.Proofs.YtilffhaghabdgaaW.PrintLast Go.Proofs.YtilffhaghabdgaaW.PrintMore
attribute [local go_sem] max2_int min2_int max_two min_two max_three min_three max_four min_four
set_option linter.unusedVariables false
set_option linter.unusedSimpArgs false
set_option maxHeartbeats 8000000
set_option maxRecDepth 100000
def cmp_Or_int.l0 : Nat → Int → List Int → Int → Int → Option (Int)
 | 0, _, _, _, _ => none
 | k + 1, x3, x6, x7, x8 => if x8 < x7 then (if 0 ≤ x8 then (if x8 < (x6.length : Int) then (if (rd x6 x8) = x3 then (cmp_Or_int.l0 k x3 x6 x7 (wrap64 (x8 + 1))) else (some (rd x6 x8))) else (none)) else (none)) else (some x3)
def cmp_Or_int.f (k : Nat) (l0 : List Int) : Option (Int) := cmp_Or_int.l0 k 0 l0 (l0.length : Int) 0
theorem cmp_Or_int.calls (k : Nat) (A0 : Option Addr) (c0 : Nat) (l0 : List Int) (r : Int) (w : World) (hr0 : Kd.C (Kd.int .i64) w A0 l0.length l0) (hc0 : l0.length ≤ c0) (h : cmp_Or_int.f k l0 = some r) :
  Calls Try.prog 94 #[.slice A0 l0.length c0] w fun e w' => e = .returned (.int .i64 r) ∧ Drawn0 w w' := by
 have HR0 := Aside0.mk hr0
 have HC0 := Aside0.mk hc0
 clear hr0 hc0
 have H : (cmp_Or_int.l0 k 0 l0 (l0.length : Int) 0) = some r := h
 clear h
 have H' := Aside0.mk H
 clear H
 go_enter Try.func94, Try.ntmps94
 go_wp2
 go_loopg [8] k (fun kq v8 w' => ∃ (x8_1 : Int), v8 = .int .i64 x8_1 ∧ Aside0 (cmp_Or_int.l0 kq 0 l0 (l0.length : Int) x8_1 = some r) ∧ Aside0 (kq ≤ k) ∧ Drawn0 w w')
 case atStart => exact ⟨(0), (by first | rfl | (simp; done) | (simp [*]; done)), H', ⟨Nat.le_refl _⟩, by repeat (first | exact Drawn0.refl _ | apply Drawn0.step)⟩
 case round =>
  clear H'
  obtain ⟨x8_1, rfl, HA, HK1, ⟨m1, rfl⟩⟩ := hrel
  cases gk with
  | zero => exact absurd HA.out (by simp [cmp_Or_int.l0])
  | succ k1 =>
   have H := HA.out
   clear HA
   simp only [cmp_Or_int.l0] at H
   by_cases c2 : x8_1 < (l0.length : Int)
   ·
    rw [if_pos c2] at H
    have c2b0 : decide (x8_1 < (l0.length : Int)) = true := decide_eq_true c2
    clear c2
    by_cases c3 : 0 ≤ x8_1
    ·
     rw [if_pos c3] at H
     have c3b0 : decide (0 ≤ x8_1) = true := decide_eq_true c3
     clear c3
     by_cases c4 : x8_1 < (l0.length : Int)
     ·
      rw [if_pos c4] at H
      have c4b0 : decide (x8_1 < (l0.length : Int)) = true := decide_eq_true c4
      clear c4
      by_cases c5 : (rd l0 x8_1) = 0
      ·
       rw [if_pos c5] at H
       have c5b0 : ((rd l0 x8_1) == 0) = true := beq_iff_eq.mpr c5
       have c5b1 : ((rd l0 x8_1) != 0) = false := bne_eq_false_iff_eq.mpr c5
       clear c5
       have H' := Aside0.mk H
       clear H
       have p101 : 0 ≤ (x8_1 : Int) := of_decide_eq_true (by first | (with_reducible assumption) | assumption)
       have q101 : x8_1 < (l0.length : Int) := of_decide_eq_true (by first | (with_reducible assumption) | assumption)
       obtain ⟨ad101, e101, hx101_0⟩ := Kd.at_int HR0.out x8_1 p101 q101
       cases e101
       replace p101 := eq_true p101
       replace q101 := eq_true q101
       go_wp2
       go_roundg k1
       case measure => have := HK1.out; omega
       case rel => exact ⟨(wrap64 (x8_1 + 1)), (by first | rfl | (simp; done) | (simp [*]; done)), H', ⟨by have := HK1.out; omega⟩, by repeat (first | exact Drawn0.refl _ | apply Drawn0.step)⟩
      rw [if_neg c5] at H
      have c5b0 : ((rd l0 x8_1) == 0) = false := beq_eq_false_iff_ne.mpr c5
      have c5b1 : ((rd l0 x8_1) != 0) = true := bne_iff_ne.mpr c5
      obtain rfl := Option.some.inj H
      have p101 : 0 ≤ (x8_1 : Int) := of_decide_eq_true (by first | (with_reducible assumption) | assumption)
      have q101 : x8_1 < (l0.length : Int) := of_decide_eq_true (by first | (with_reducible assumption) | assumption)
      obtain ⟨ad101, e101, hx101_0⟩ := Kd.at_int HR0.out x8_1 p101 q101
      cases e101
      replace p101 := eq_true p101
      replace q101 := eq_true q101
      go_wp2
      go_ret
      exact ⟨by first | rfl | (simp; done) | (simp [*]; done), by repeat (first | exact Drawn0.refl _ | apply Drawn0.step)⟩
     rw [if_neg c4] at H
     exact absurd H (by simp)
    rw [if_neg c3] at H
    exact absurd H (by simp)
   rw [if_neg c2] at H
   have c2b0 : decide (x8_1 < (l0.length : Int)) = false := decide_eq_false c2
   clear c2
   obtain rfl := Option.some.inj H
   go_wp2
   go_ret
   exact ⟨by first | rfl | (simp; done) | (simp [*]; done), by repeat (first | exact Drawn0.refl _ | apply Drawn0.step)⟩
def cmp_isNaN_int.f (a0 : Int) : Option (Bool) := some (a0 != a0)
theorem cmp_isNaN_int.calls (a0 : Int) (r : Bool) (w : World) (h : cmp_isNaN_int.f a0 = some r) :
  Calls Try.prog 162 #[.int .i64 a0] w fun e w' => e = .returned (.bool r) ∧ Drawn0 w w' := by
 have H : (some (a0 != a0)) = some r := h
 clear h
 obtain rfl := Option.some.inj H
 go_enter Try.func162, Try.ntmps162
 go_wp2
 go_ret
 exact ⟨by first | rfl | (simp; done) | (simp [*]; done), by repeat (first | exact Drawn0.refl _ | apply Drawn0.step)⟩
def cmp_Compare_int.f (a0 : Int) (a1 : Int) : Option (Int) := (cmp_isNaN_int.f a0).bind fun t101 => ((cmp_isNaN_int.f a1).bind fun t102 => (if t101 = true then (if t102 = true then (some 0) else (some (-1))) else (if t102 = true then (some 1) else (if a0 < a1 then (some (-1)) else (if a0 > a1 then (some 1) else (some 0))))))
theorem cmp_Compare_int.calls (a0 : Int) (a1 : Int) (r : Int) (w : World) (h : cmp_Compare_int.f a0 a1 = some r) :
  Calls Try.prog 95 #[.int .i64 a0, .int .i64 a1] w fun e w' => e = .returned (.int .i64 r) ∧ Drawn0 w w' := by
 have H : ((cmp_isNaN_int.f a0).bind fun t101 => ((cmp_isNaN_int.f a1).bind fun t102 => (if t101 = true then (if t102 = true then (some 0) else (some (-1))) else (if t102 = true then (some 1) else (if a0 < a1 then (some (-1)) else (if a0 > a1 then (some 1) else (some 0))))))) = some r := h
 clear h
 replace H := Option.bind_eq_some_iff.mp H
 obtain ⟨t101, A30, H⟩ := H
 replace H : ((cmp_isNaN_int.f a1).bind fun t102 => (if t101 = true then (if t102 = true then (some 0) else (some (-1))) else (if t102 = true then (some 1) else (if a0 < a1 then (some (-1)) else (if a0 > a1 then (some 1) else (some 0)))))) = some r := H
 have A3 := Aside0.mk A30
 clear A30
 replace H := Option.bind_eq_some_iff.mp H
 obtain ⟨t102, A40, H⟩ := H
 replace H : (if t101 = true then (if t102 = true then (some 0) else (some (-1))) else (if t102 = true then (some 1) else (if a0 < a1 then (some (-1)) else (if a0 > a1 then (some 1) else (some 0))))) = some r := H
 have A4 := Aside0.mk A40
 clear A40
 by_cases c5 : t101 = true
 ·
  subst c5
  have H1 : (if t102 = true then (some 0) else (some (-1))) = some r := by rw [if_pos rfl] at H; exact H
  clear H
  have H := H1
  clear H1
  by_cases c6 : t102 = true
  ·
   subst c6
   have H1 : (some 0) = some r := by rw [if_pos rfl] at H; exact H
   clear H
   have H := H1
   clear H1
   obtain rfl := Option.some.inj H
   go_enter Try.func95, Try.ntmps95
   go_wp2_with (first | ((with_reducible refine gate_callee (f := 162) rfl ?_); refine gl (some 8) Try.func162 #[.int .i64 a0] ?_; (with_reducible refine (cmp_isNaN_int.calls a0 true _ A3.out).mono ?_); rintro e w' ⟨rfl, ⟨nd, rfl⟩⟩; refine ⟨_, rfl, ?_⟩) | ((with_reducible refine gate_callee (f := 162) rfl ?_); refine gl (some 10) Try.func162 #[.int .i64 a1] ?_; (with_reducible refine (cmp_isNaN_int.calls a1 true _ A4.out).mono ?_); rintro e w' ⟨rfl, ⟨nd, rfl⟩⟩; refine ⟨_, rfl, ?_⟩))
   go_ret
   exact ⟨by first | rfl | (simp; done) | (simp [*]; done), by repeat (first | exact Drawn0.refl _ | apply Drawn0.step)⟩
  replace c6 := Bool.eq_false_iff.mpr c6
  subst c6
  have H1 : (some (-1)) = some r := by rw [if_neg (show ¬ (false = true) by decide)] at H; exact H
  clear H
  have H := H1
  clear H1
  obtain rfl := Option.some.inj H
  go_enter Try.func95, Try.ntmps95
  go_wp2_with (first | ((with_reducible refine gate_callee (f := 162) rfl ?_); refine gl (some 8) Try.func162 #[.int .i64 a0] ?_; (with_reducible refine (cmp_isNaN_int.calls a0 true _ A3.out).mono ?_); rintro e w' ⟨rfl, ⟨nd, rfl⟩⟩; refine ⟨_, rfl, ?_⟩) | ((with_reducible refine gate_callee (f := 162) rfl ?_); refine gl (some 10) Try.func162 #[.int .i64 a1] ?_; (with_reducible refine (cmp_isNaN_int.calls a1 false _ A4.out).mono ?_); rintro e w' ⟨rfl, ⟨nd, rfl⟩⟩; refine ⟨_, rfl, ?_⟩))
  go_ret
  exact ⟨by first | rfl | (simp; done) | (simp [*]; done), by repeat (first | exact Drawn0.refl _ | apply Drawn0.step)⟩
 replace c5 := Bool.eq_false_iff.mpr c5
 subst c5
 have H1 : (if t102 = true then (some 1) else (if a0 < a1 then (some (-1)) else (if a0 > a1 then (some 1) else (some 0)))) = some r := by rw [if_neg (show ¬ (false = true) by decide)] at H; exact H
 clear H
 have H := H1
 clear H1
 by_cases c7 : t102 = true
 ·
  subst c7
  have H1 : (some 1) = some r := by rw [if_pos rfl] at H; exact H
  clear H
  have H := H1
  clear H1
  obtain rfl := Option.some.inj H
  go_enter Try.func95, Try.ntmps95
  go_wp2_with (first | ((with_reducible refine gate_callee (f := 162) rfl ?_); refine gl (some 8) Try.func162 #[.int .i64 a0] ?_; (with_reducible refine (cmp_isNaN_int.calls a0 false _ A3.out).mono ?_); rintro e w' ⟨rfl, ⟨nd, rfl⟩⟩; refine ⟨_, rfl, ?_⟩) | ((with_reducible refine gate_callee (f := 162) rfl ?_); refine gl (some 10) Try.func162 #[.int .i64 a1] ?_; (with_reducible refine (cmp_isNaN_int.calls a1 true _ A4.out).mono ?_); rintro e w' ⟨rfl, ⟨nd, rfl⟩⟩; refine ⟨_, rfl, ?_⟩))
  go_ret
  exact ⟨by first | rfl | (simp; done) | (simp [*]; done), by repeat (first | exact Drawn0.refl _ | apply Drawn0.step)⟩
 replace c7 := Bool.eq_false_iff.mpr c7
 subst c7
 have H1 : (if a0 < a1 then (some (-1)) else (if a0 > a1 then (some 1) else (some 0))) = some r := by rw [if_neg (show ¬ (false = true) by decide)] at H; exact H
 clear H
 have H := H1
 clear H1
 by_cases c8 : a0 < a1
 ·
  rw [if_pos c8] at H
  have c8b0 : decide (a0 < a1) = true := decide_eq_true c8
  clear c8
  obtain rfl := Option.some.inj H
  go_enter Try.func95, Try.ntmps95
  go_wp2_with (first | ((with_reducible refine gate_callee (f := 162) rfl ?_); refine gl (some 8) Try.func162 #[.int .i64 a0] ?_; (with_reducible refine (cmp_isNaN_int.calls a0 false _ A3.out).mono ?_); rintro e w' ⟨rfl, ⟨nd, rfl⟩⟩; refine ⟨_, rfl, ?_⟩) | ((with_reducible refine gate_callee (f := 162) rfl ?_); refine gl (some 10) Try.func162 #[.int .i64 a1] ?_; (with_reducible refine (cmp_isNaN_int.calls a1 false _ A4.out).mono ?_); rintro e w' ⟨rfl, ⟨nd, rfl⟩⟩; refine ⟨_, rfl, ?_⟩))
  go_ret
  exact ⟨by first | rfl | (simp; done) | (simp [*]; done), by repeat (first | exact Drawn0.refl _ | apply Drawn0.step)⟩
 rw [if_neg c8] at H
 have c8b0 : decide (a0 < a1) = false := decide_eq_false c8
 clear c8
 by_cases c9 : a0 > a1
 ·
  rw [if_pos c9] at H
  have c9b0 : decide (a1 < a0) = true := decide_eq_true c9
  clear c9
  obtain rfl := Option.some.inj H
  go_enter Try.func95, Try.ntmps95
  go_wp2_with (first | ((with_reducible refine gate_callee (f := 162) rfl ?_); refine gl (some 8) Try.func162 #[.int .i64 a0] ?_; (with_reducible refine (cmp_isNaN_int.calls a0 false _ A3.out).mono ?_); rintro e w' ⟨rfl, ⟨nd, rfl⟩⟩; refine ⟨_, rfl, ?_⟩) | ((with_reducible refine gate_callee (f := 162) rfl ?_); refine gl (some 10) Try.func162 #[.int .i64 a1] ?_; (with_reducible refine (cmp_isNaN_int.calls a1 false _ A4.out).mono ?_); rintro e w' ⟨rfl, ⟨nd, rfl⟩⟩; refine ⟨_, rfl, ?_⟩))
  go_ret
  exact ⟨by first | rfl | (simp; done) | (simp [*]; done), by repeat (first | exact Drawn0.refl _ | apply Drawn0.step)⟩
 rw [if_neg c9] at H
 have c9b0 : decide (a1 < a0) = false := decide_eq_false c9
 clear c9
 obtain rfl := Option.some.inj H
 go_enter Try.func95, Try.ntmps95
 go_wp2_with (first | ((with_reducible refine gate_callee (f := 162) rfl ?_); refine gl (some 8) Try.func162 #[.int .i64 a0] ?_; (with_reducible refine (cmp_isNaN_int.calls a0 false _ A3.out).mono ?_); rintro e w' ⟨rfl, ⟨nd, rfl⟩⟩; refine ⟨_, rfl, ?_⟩) | ((with_reducible refine gate_callee (f := 162) rfl ?_); refine gl (some 10) Try.func162 #[.int .i64 a1] ?_; (with_reducible refine (cmp_isNaN_int.calls a1 false _ A4.out).mono ?_); rintro e w' ⟨rfl, ⟨nd, rfl⟩⟩; refine ⟨_, rfl, ?_⟩))
 go_ret
 exact ⟨by first | rfl | (simp; done) | (simp [*]; done), by repeat (first | exact Drawn0.refl _ | apply Drawn0.step)⟩
def impl_RankMotions_1.f (k : Nat) (a0_0 : Int) (a0_1 : Int) (a0_2 : Int) (a0_3 : Int) (a1_0 : Int) (a1_1 : Int) (a1_2 : Int) (a1_3 : Int) : Option (Int) := (cmp_Compare_int.f (wrap64 (a0_2 * a1_3)) (wrap64 (a1_2 * a0_3))).bind fun t105 => ((impl_absOf.f a0_0).bind fun t106 => ((impl_absOf.f a0_1).bind fun t107 => ((impl_absOf.f a1_0).bind fun t108 => ((impl_absOf.f a1_1).bind fun t109 => ((cmp_Compare_int.f (wrap64 (t106 + t107)) (wrap64 (t108 + t109))).bind fun t110 => ((cmp_Compare_int.f a0_1 a1_1).bind fun t111 => ((cmp_Compare_int.f a0_0 a1_0).bind fun t112 => ((cmp_Or_int.f k (([t105, t110, t111, t112] : List Int))).bind fun t116 => (some t116)))))))))
def impl_RankMotions_1.T1 : Bool × List (List Nat × List Nat) := (true, [([], []), ([0], [0]), ([], []), ([2], [2]), ([], []), ([], []), ([4, 1, 0, 1, 4, 5], [1, 4]), ([5, 3, 6, 0, 1, 2, 3, 4, 5, 6], [3, 5])])
def impl_RankMotions_1.B1 : List Nat := [0, 1, 0, 4, 0, 0, 51, 127]
theorem impl_RankMotions_1.tab1 : rtab .any (opsOf Try.f93 1) = impl_RankMotions_1.T1 := by kernel_rfl
theorem impl_RankMotions_1.bits1 : waitsOk impl_RankMotions_1.T1.2 impl_RankMotions_1.B1 = true := by kernel_rfl
def impl_RankMotions_1.T2 : Bool × List (List Nat × List Nat) := (true, [([], []), ([0], [0]), ([], []), ([2], [2]), ([1, 3], [1, 3]), ([], []), ([5], [5]), ([], []), ([7], [7]), ([6, 8], [6, 8]), ([4, 9], [4, 9]), ([], []), ([11], [11]), ([12, 10], [12]), ([], []), ([14], [14]), ([15, 13], [15]), ([13, 16], [13, 16]), ([], []), ([18], [18]), ([19, 16], [19]), ([], []), ([21], [21]), ([22, 20], [22]), ([20, 23], [20, 23]), ([17, 24, 23], [17, 24]), ([], []), ([26], [26]), ([], []), ([28], [28]), ([27, 29, 25], [27, 29]), ([], []), ([31], [31]), ([], []), ([33], [33]), ([32, 34, 30], [32, 34]), ([10, 25, 30, 35], [10, 25, 30, 35]), ([36, 35], [36]), ([37, 37, 0, 1, 2, 3, 4, 5, 6, 7, 8, 9, 10, 11, 12, 13, 14, 15, 16, 17, 18, 19, 20, 21, 22, 23, 24, 25, 26, 27, 28, 29, 30, 31, 32, 33, 34, 35, 36, 37], [37])])
def impl_RankMotions_1.B2 : List Nat := [0, 1, 0, 4, 15, 0, 32, 0, 128, 480, 1023, 0, 2048, 8191, 0, 16384, 65535, 131071, 0, 262144, 917503, 0, 2097152, 8257535, 16646143, 33554431, 0, 67108864, 0, 268435456, 1073741823, 0, 2147483648, 0, 8589934592, 34359738367, 68719476735, 137438953471, 274877906943]
theorem impl_RankMotions_1.tab2 : rtab .any (opsOf Try.f93 2) = impl_RankMotions_1.T2 := by kernel_rfl
theorem impl_RankMotions_1.bits2 : waitsOk impl_RankMotions_1.T2.2 impl_RankMotions_1.B2 = true := by kernel_rfl
end Go.Proofs.Ytilffhaghabdgaa.P
