/- Texts of the claim FnExactGroupsOf, merged: part 6 of 8: the program's and the reference's functions as Lean functions, the walks that show it, and plain lemmas; no conditions. -/
import Derived.Test.YtjicgmcogadleaaKFnExactGroupsOf3
import Derived.Test.YtjicgmcogadleaaKFnExactGroupsOf5
namespace Go.Proofs.Ytjicgmcogadleaa.P
open Go.RowKit Go.Proofs.YtjicgmcogadleaaW.PrintWords Go.Proofs.YtjicgmcogadleaaW.PrintLast Go.Proofs.YtjicgmcogadleaaW.PrintMore
attribute [local go_sem] max2_int min2_int max_two min_two max_three min_three max_four min_four
set_option linter.unusedVariables false
set_option linter.unusedSimpArgs false
set_option maxHeartbeats 8000000
set_option maxRecDepth 100000
mutual
def impl_calibrationOf.l0 : Nat → List (S93) → List Int → Int → Int → List Int → List Int → Option ((List (S33)) × Bool)
 | 0, _, _, _, _, _, _ => none
 | k + 1, x4, x16, x17, x18, x102000, x102001 => if x18 < x17 then (if 0 ≤ x18 then (if x18 < (x16.length : Int) then (if (rd x16 x18) = 0 then (impl_calibrationOf.l0 k x4 x16 x17 (wrap64 (x18 + 1)) x102000 x102001) else (if x18 < (x102001.length : Int) then (impl_calibrationOf.l1 k x4 (x4.length : Int) x16 x17 x18 x102000 x102001 x18 (rd x16 x18) (rd x102001 x18)) else (none))) else (none)) else (none)) else (if (x4.length : Int) = 0 then (some (([] : List (S33)), false)) else (if 11 ≤ 17592186044416 then ((some (List.replicate 11 z33 : List (S33))).bind fun y116 => (impl_calibrationOf.l2 k x4 y116 (y116.length : Int) 0)) else (none)))
def impl_calibrationOf.l1 : Nat → List (S93) → Int → List Int → Int → Int → List Int → List Int → Int → Int → Int → Option ((List (S33)) × Bool)
 | 0, _, _, _, _, _, _, _, _, _, _ => none
 | k + 1, x4, x8, x16, x17, x18, x102000, x102001, x105000, x105001, x105002 => if x8 > 0 then (if 0 ≤ (wrap64 (x8 - 1)) then (if (wrap64 (x8 - 1)) < (x4.length : Int) then (if (wrap64 (((rd_T93 x4 (wrap64 (x8 - 1))).f2) * x105001)) ≤ (wrap64 (x105002 * ((rd_T93 x4 (wrap64 (x8 - 1))).f1))) then (if x4.length < 5864062014805 then (impl_calibrationOf.l0 k (x4 ++ [(⟨x105000, x105001, x105002⟩ : S93)]) x16 x17 (wrap64 (x18 + 1)) x102000 x102001) else (none)) else (if (wrap64 (x8 - 1)) ≤ (x4.length : Int) then ((some (x4.take ((wrap64 (x8 - 1)) : Int).toNat : List (S93))).bind fun y110 => (impl_calibrationOf.l1 k y110 (y110.length : Int) x16 x17 x18 x102000 x102001 ((rd_T93 x4 (wrap64 (x8 - 1))).f0) (wrap64 (((rd_T93 x4 (wrap64 (x8 - 1))).f1) + x105001)) (wrap64 (((rd_T93 x4 (wrap64 (x8 - 1))).f2) + x105002)))) else (none))) else (none)) else (none)) else (if x4.length < 5864062014805 then (impl_calibrationOf.l0 k (x4 ++ [(⟨x105000, x105001, x105002⟩ : S93)]) x16 x17 (wrap64 (x18 + 1)) x102000 x102001) else (none))
def impl_calibrationOf.l2 : Nat → List (S93) → List (S33) → Int → Int → Option ((List (S33)) × Bool)
 | 0, _, _, _, _ => none
 | k + 1, x4, x10, x82, x83 => if x83 < x82 then (impl_calibrationOf.l3 k x4 x10 x83 0 x82 x83 x4 (x4.length : Int) 0) else (some (x10, true))
def impl_calibrationOf.l3 : Nat → List (S93) → List (S33) → Int → Int → Int → Int → List (S93) → Int → Int → Option ((List (S33)) × Bool)
 | 0, _, _, _, _, _, _, _, _, _ => none
 | k + 1, x4, x10, x11, x12, x82, x83, x86, x87, x88 => if x88 < x87 then (if 0 ≤ x88 then (if x88 < (x86.length : Int) then (if ((rd_T93 x86 x88).f0) ≤ x11 then (impl_calibrationOf.l3 k x4 x10 x11 x88 x82 x83 x86 x87 (wrap64 (x88 + 1))) else (impl_calibrationOf.l3 k x4 x10 x11 x12 x82 x83 x86 x87 (wrap64 (x88 + 1)))) else (none)) else (none)) else (if 0 ≤ x12 then (if x12 < (x4.length : Int) then ((impl_shareOf.f k ((rd_T93 x4 x12).f2) ((rd_T93 x4 x12).f1)).bind fun bt123 => (if 0 ≤ x11 then (if x11 < (x10.length : Int) then (impl_calibrationOf.l2 k x4 (x10.set (x11 : Int).toNat (⟨bt123.1, bt123.2⟩ : S33)) x82 (wrap64 (x83 + 1))) else (none)) else (none))) else (none)) else (none))
end
def impl_calibrationOf.f (k : Nat) (l0_0 : List Int) (l0_1 : List Int) : Option ((List (S33)) × Bool) := impl_calibrationOf.l0 k ([] : List (S93)) l0_0 (l0_0.length : Int) 0 l0_0 l0_1
def impl_calibrationOf.T29 : Bool × List (List Nat × List Nat) := (true, [([], []), ([], []), ([], []), ([], []), ([2, 3], [2, 3]), ([4], [4]), ([5], [5]), ([], []), ([], []), ([7, 8], [7, 8]), ([9], [9]), ([10], [10]), ([6, 11], [6, 11]), ([0, 1, 0, 1, 2, 3, 4, 5, 6, 7, 8, 9, 10, 11, 12], [0, 1]), ([13, 12, 12, 0, 1, 2, 3, 4, 5, 6, 7, 8, 9, 10, 11, 12], [12, 13])])
def impl_calibrationOf.B29 : List Nat := [0, 0, 0, 0, 12, 28, 60, 0, 0, 384, 896, 1920, 4092, 8191, 16383]
theorem impl_calibrationOf.tab29 : rtab .any (opsOf Try.f52 29) = impl_calibrationOf.T29 := by kernel_rfl
theorem impl_calibrationOf.bits29 : waitsOk impl_calibrationOf.T29.2 impl_calibrationOf.B29 = true := by kernel_rfl
theorem impl_calibrationOf.calls (k : Nat) (A0_0 : Option Addr) (c0_0 : Nat) (l0_0 : List Int) (A0_1 : Option Addr) (c0_1 : Nat) (l0_1 : List Int) (r1 : List (S33)) (r2 : Bool) (w : World) (hr0_0 : Kd.C (Kd.int .i64) w A0_0 l0_0.length l0_0) (hc0_0 : l0_0.length ≤ c0_0) (hr0_1 : Kd.C (Kd.int .i64) w A0_1 l0_1.length l0_1) (hc0_1 : l0_1.length ≤ c0_1) (h : impl_calibrationOf.f k l0_0 l0_1 = some (r1, r2)) :
  Calls Try.prog 52 #[.agg #[.slice A0_0 l0_0.length c0_0, .slice A0_1 l0_1.length c0_1]] w fun e w' => ∃ v0_ : Value, e = .returned (.tuple #[v0_, .bool r2]) ∧ Kd.R k33 33 w' w.heap.size (fun _ => True) v0_ r1 ∧ Below w.heap.size w w' := by
 have hu26 := Try.underlying26
 have hu93 := Try.underlying93
 have hu33 := Try.underlying33
 have HR0_0 := Aside0.mk hr0_0
 have HC0_0 := Aside0.mk hc0_0
 clear hr0_0 hc0_0
 have HR0_1 := Aside0.mk hr0_1
 have HC0_1 := Aside0.mk hc0_1
 clear hr0_1 hc0_1
 have HB := aK (Below.refl w.heap.size w)
 have H : (impl_calibrationOf.l0 k ([] : List (S93)) l0_0 (l0_0.length : Int) 0 l0_0 l0_1) = some (r1, r2) := h
 clear h
 have H' := Aside0.mk H
 clear H
 go_enter Try.func52, Try.ntmps52
 go_wp2_with (first | ((with_reducible refine gate_dst (N := 1) rfl ?_); refine bxe (cs := #[.slice A0_0 l0_0.length c0_0, .slice A0_1 l0_1.length c0_1]) (t := 26) ?_; intro gb101 hg w2 hbox hb; have BK101 := aK (hbox); have GW101 := aK (gE hg (pS HB.out)); have GE101 := GW101; replace HB := bS HB hb; clear hb hbox hg; obtain ⟨hcz3_0, hcz3_1, hfz3_0, hfz3_1⟩ := bc2 BK101.out))
 go_loopg [4, 18] k (fun kq v4 v18 w' => ∃ (x4_1 : List (S93)) (x18_1 : Int), v18 = .int .i64 x18_1 ∧ Aside0 (impl_calibrationOf.l0 kq x4_1 l0_0 (l0_0.length : Int) x18_1 l0_0 l0_1 = some (r1, r2)) ∧ Aside0 (kq ≤ k) ∧ Aside0 (Kd.R k93 93 w' w.heap.size (fun _ => True) v4 x4_1) ∧ Aside0 (w'.heap[gb101]? = some (.cells #[(.slice A0_0 l0_0.length c0_0), (.slice A0_1 l0_1.length c0_1)] 26 (0, 0))) ∧ Aside0 (Below w.heap.size w w'))
 case atStart => exact ⟨(([] : List (S93))), (0), (by first | rfl | (simp; done) | (simp [*]; done)), H', ⟨Nat.le_refl _⟩, ⟨by first | exact Kd.R_nil _ _ _ _ _ | exact Kd.N_nil _ _ _ _ _ | exact Kd.V_nil _ _ _ _ _ | exact Kd.Q_nil _ _ _ _ _ | exact Kd.S_nil _ _ _ _ _⟩, ⟨by refine bk ?_; exact BK101.out⟩, ⟨pT HB.out⟩⟩
 case round =>
  clear H'
  try clear p2
  try clear hcz3_0
  try clear hcz3_1
  try clear hfz3_0
  try clear hfz3_1
  obtain ⟨x4_1, x18_1, rfl, HA, HK1, HO_4, BK101, HB⟩ := hrel
  cases gk with
  | zero => exact absurd HA.out (by simp [impl_calibrationOf.l0])
  | succ k1 =>
   have H := HA.out
   clear HA
   simp only [impl_calibrationOf.l0] at H
   by_cases c4 : x18_1 < (l0_0.length : Int)
   ·
    rw [if_pos c4] at H
    have c4b0 : decide (x18_1 < (l0_0.length : Int)) = true := decide_eq_true c4
    clear c4
    by_cases c5 : 0 ≤ x18_1
    ·
     rw [if_pos c5] at H
     have c5b0 : decide (0 ≤ x18_1) = true := decide_eq_true c5
     clear c5
     by_cases c6 : x18_1 < (l0_0.length : Int)
     ·
      rw [if_pos c6] at H
      have c6b0 : decide (x18_1 < (l0_0.length : Int)) = true := decide_eq_true c6
      clear c6
      by_cases c7 : (rd l0_0 x18_1) = 0
      ·
       rw [if_pos c7] at H
       have c7b0 : ((rd l0_0 x18_1) == 0) = true := beq_iff_eq.mpr c7
       have c7b1 : ((rd l0_0 x18_1) != 0) = false := bne_eq_false_iff_eq.mpr c7
       clear c7
       have H' := Aside0.mk H
       clear H
       have p102 : 0 ≤ (x18_1 : Int) := of_decide_eq_true (by first | (with_reducible assumption) | assumption)
       have q102 : x18_1 < (l0_0.length : Int) := of_decide_eq_true (by first | (with_reducible assumption) | assumption)
       obtain ⟨ad102, e102, hx102_0⟩ := Kd.at_int HR0_0.out x18_1 p102 q102
       cases e102
       replace hx102_0 := (HB.out.cell (World.block_lt_of_cell? w _ hx102_0)).trans hx102_0
       replace p102 := eq_true p102
       replace q102 := eq_true q102
       go_wp2
       go_roundg k1
       case measure => have := HK1.out; omega
       case rel => exact ⟨(x4_1), (wrap64 (x18_1 + 1)), (by first | rfl | (simp; done) | (simp [*]; done)), H', ⟨by have := HK1.out; omega⟩, ⟨pR HO_4.out⟩, ⟨by refine bk ?_; exact BK101.out⟩, ⟨pT HB.out⟩⟩
      rw [if_neg c7] at H
      have c7b0 : ((rd l0_0 x18_1) == 0) = false := beq_eq_false_iff_ne.mpr c7
      have c7b1 : ((rd l0_0 x18_1) != 0) = true := bne_iff_ne.mpr c7
      by_cases c8 : x18_1 < (l0_1.length : Int)
      ·
       rw [if_pos c8] at H
       have c8b0 : decide (x18_1 < (l0_1.length : Int)) = true := decide_eq_true c8
       clear c8
       have H' := Aside0.mk H
       clear H
       have p102 : 0 ≤ (x18_1 : Int) := of_decide_eq_true (by first | (with_reducible assumption) | assumption)
       have q102 : x18_1 < (l0_0.length : Int) := of_decide_eq_true (by first | (with_reducible assumption) | assumption)
       obtain ⟨ad102, e102, hx102_0⟩ := Kd.at_int HR0_0.out x18_1 p102 q102
       cases e102
       replace hx102_0 := (HB.out.cell (World.block_lt_of_cell? w _ hx102_0)).trans hx102_0
       replace p102 := eq_true p102
       replace q102 := eq_true q102
       obtain ⟨hcz9_0, hcz9_1, hfz9_0, hfz9_1⟩ := bc2 BK101.out
       have p103 : 0 ≤ (x18_1 : Int) := of_decide_eq_true (by first | (with_reducible assumption) | assumption)
       have q103 : x18_1 < (l0_1.length : Int) := of_decide_eq_true (by first | (with_reducible assumption) | assumption)
       obtain ⟨ad103, e103, hx103_0⟩ := Kd.at_int HR0_1.out x18_1 p103 q103
       cases e103
       replace hx103_0 := (HB.out.cell (World.block_lt_of_cell? w _ hx103_0)).trans hx103_0
       replace p103 := eq_true p103
       replace q103 := eq_true q103
       go_wp2_with (first | ((with_reducible refine gate_dst (N := 7) rfl ?_); refine bxe (cs := #[.int .i64 0, .int .i64 0, .int .i64 0]) (t := 93) ?_; intro gb104 hg w10 hbox hb; have n0_ := aK (Kd.R_below (Kd.R_elderB (pR HO_4.out) gb104 (Nat.le_of_eq hg.symm)) hb); have BK104 := aK (hbox); have GW104 := aK (gE hg (pS HB.out)); have GE104 := GW104; obtain ⟨NB101_104, NB104_101⟩ := nb hg (pB BK101.out); replace BK101 := bB BK101 hb; replace HB := bS HB hb; clear HO_4; have HO_4 := n0_; clear n0_ hb hbox hg; have hnb11 := NB104_101.out; have hnc11 := NB101_104.out; obtain ⟨hcz12_0, hcz12_1, hcz12_2, hfz12_0, hfz12_1, hfz12_2⟩ := bc3 BK104.out; obtain ⟨Ao13, co13, eo13⟩ := Kd.R_slice HO_4.out; subst eo13))
       go_loopg [4, 8] k1 (fun kq v4 v8 w' => ∃ (x4_2 : List (S93)) (x8_2 : Int) (x105000_2 : Int) (x105001_2 : Int) (x105002_2 : Int), v8 = .int .i64 x8_2 ∧ Aside0 (impl_calibrationOf.l1 kq x4_2 x8_2 l0_0 (l0_0.length : Int) x18_1 l0_0 l0_1 x105000_2 x105001_2 x105002_2 = some (r1, r2)) ∧ Aside0 (kq ≤ k1) ∧ Aside0 (Kd.R k93 93 w' w.heap.size (fun k_ => k_ ≠ gb104) v4 x4_2) ∧ Aside0 (w'.heap[gb101]? = some (.cells #[(.slice (some ad102) l0_0.length c0_0), (.slice (some ad103) l0_1.length c0_1)] 26 (0, 0))) ∧ Aside0 (w'.heap[gb104]? = some (.cells #[.int .i64 x105000_2, .int .i64 x105001_2, .int .i64 x105002_2] 93 (0, 0))) ∧ Aside0 (Below w.heap.size w w'))
       case atStart => exact ⟨(x4_1), ((x4_1.length : Int)), (x18_1), (rd l0_0 x18_1), (rd l0_1 x18_1), (by first | rfl | (simp; done) | (simp [*]; done)), H', ⟨Nat.le_refl _⟩, ⟨pR (Kd.R_mono (Kd.R_far (p := ⟨gb104, 2, none⟩) (Kd.R_far (p := ⟨gb104, 1, none⟩) (Kd.R_far (p := ⟨gb104, 0, none⟩) (Kd.R_mono HO_4.out (fun k_ hk => (⟨hk, hk.2⟩ : _ ∧ k_ ≠ gb104))) (fun _ hk => hk.2) (.int .i64 x18_1)) (fun _ hk => hk.2) (.int .i64 (rd l0_0 x18_1))) (fun _ hk => hk.2) (.int .i64 (rd l0_1 x18_1))) (fun _ hk => hk.1.2))⟩, ⟨by refine bk ?_; refine blk_far ?_ NB101_104.out _; refine bk ?_; refine blk_far ?_ NB101_104.out _; refine bk ?_; refine blk_far ?_ NB101_104.out _; refine bk ?_; exact BK101.out⟩, ⟨by refine bk ?_; refine blk_put (cs := #[.int .i64 x18_1, .int .i64 (rd l0_0 x18_1), .int .i64 0]) ?_ 2 _ rfl; refine bk ?_; refine blk_put (cs := #[.int .i64 x18_1, .int .i64 0, .int .i64 0]) ?_ 1 _ rfl; refine bk ?_; refine blk_put (cs := #[.int .i64 0, .int .i64 0, .int .i64 0]) ?_ 0 _ rfl; refine bk ?_; exact BK104.out⟩, ⟨pT HB.out⟩⟩
       case round =>
        clear H'
        try clear c1
        try clear p1
        try clear q1
        try clear hx1
        try clear p2
        try clear c4
        try clear c4b0
        try clear c5
        try clear c5b0
        try clear c6
        try clear c6b0
        try clear p6
        try clear c7
        try clear c7b0
        try clear c7b1
        try clear c8
        try clear c8b0
        try clear p10
        try clear q10
        try clear hx10
        try clear c11
        try clear hcz12_0
        try clear hcz12_1
        try clear hcz12_2
        try clear hcz3_0
        try clear hcz3_1
        try clear hcz9_0
        try clear hcz9_1
        try clear hfz12_0
        try clear hfz12_1
        try clear hfz12_2
        try clear hfz3_0
        try clear hfz3_1
        try clear hfz9_0
        try clear hfz9_1
        try clear hx102_0
        try clear hx103_0
        try clear p102
        try clear p103
        try clear p2
        try clear q102
        try clear q103
        obtain ⟨x4_2, x8_2, x105000_2, x105001_2, x105002_2, rfl, HA, HK2, HO_4, BK101, BK104, HB⟩ := hrel
        cases gk with
        | zero => exact absurd HA.out (by simp [impl_calibrationOf.l1])
        | succ k2 =>
         have H := HA.out
         clear HA
         simp only [impl_calibrationOf.l1] at H
         by_cases c14 : x8_2 > 0
         ·
          rw [if_pos c14] at H
          have c14b0 : decide (0 < x8_2) = true := decide_eq_true c14
          clear c14
          obtain ⟨ji15, hji15⟩ : ∃ j_ : Int, (wrap64 (x8_2 - 1)) = j_ := ⟨_, rfl⟩
          replace H : (if 0 ≤ (ji15) then (if (ji15) < (x4_2.length : Int) then (if (wrap64 (((rd_T93 x4_2 (ji15)).f2) * x105001_2)) ≤ (wrap64 (x105002_2 * ((rd_T93 x4_2 (ji15)).f1))) then (if x4_2.length < 5864062014805 then (impl_calibrationOf.l0 k2 (x4_2 ++ [(⟨x105000_2, x105001_2, x105002_2⟩ : S93)]) l0_0 (l0_0.length : Int) (wrap64 (x18_1 + 1)) l0_0 l0_1) else (none)) else (if (ji15) ≤ (x4_2.length : Int) then ((some (x4_2.take ((ji15) : Int).toNat : List (S93))).bind fun y110 => (impl_calibrationOf.l1 k2 y110 (y110.length : Int) l0_0 (l0_0.length : Int) x18_1 l0_0 l0_1 ((rd_T93 x4_2 (ji15)).f0) (wrap64 (((rd_T93 x4_2 (ji15)).f1) + x105001_2)) (wrap64 (((rd_T93 x4_2 (ji15)).f2) + x105002_2)))) else (none))) else (none)) else (none)) = some (r1, r2) := by first | (rw [hji15] at H; exact H) | (simp only [hji15] at H ⊢; exact H)
          have hji15w : (IntKind.i64.wrap (x8_2 - 1)) = ji15 := (i64_w _).trans hji15
          by_cases c16 : 0 ≤ (ji15)
          ·
           rw [if_pos c16] at H
           have c16b0 : decide (0 ≤ (ji15)) = true := decide_eq_true c16
           clear c16
           by_cases c17 : (ji15) < (x4_2.length : Int)
           ·
            rw [if_pos c17] at H
            have c17b0 : decide ((ji15) < (x4_2.length : Int)) = true := decide_eq_true c17
            clear c17
            by_cases c18 : (wrap64 (((rd_T93 x4_2 (ji15)).f2) * x105001_2)) ≤ (wrap64 (x105002_2 * ((rd_T93 x4_2 (ji15)).f1)))
            ·
             rw [if_pos c18] at H
             have c18b0 : decide ((wrap64 (((rd_T93 x4_2 (ji15)).f2) * x105001_2)) ≤ (wrap64 (x105002_2 * ((rd_T93 x4_2 (ji15)).f1)))) = true := decide_eq_true c18
             clear c18
             by_cases c19 : x4_2.length < 5864062014805
             ·
              rw [if_pos c19] at H
              have LMc19 := Aside0.mk c19
              clear c19
              obtain ⟨y107, hy107⟩ : ∃ y_ : List (S93), y_ = (x4_2 ++ [(⟨x105000_2, x105001_2, x105002_2⟩ : S93)]) := ⟨_, rfl⟩
              replace H : (impl_calibrationOf.l0 k2 y107 l0_0 (l0_0.length : Int) (wrap64 (x18_1 + 1)) l0_0 l0_1) = some (r1, r2) := by first | (rw [hy107]; with_reducible exact H) | (have H2_ := (Option.bind_some _ _).symm.trans H; rw [hy107]; with_reducible exact H2_) | (have H2_ := (Option.bind_some _ _).symm.trans H; with_reducible exact H2_) | with_reducible exact H | (rw [hy107]; exact H) | exact H
              have Ny107 := Aside0.mk hy107
              clear hy107
              have H' := Aside0.mk H
              clear H
              obtain ⟨Ao20, co20, eo20⟩ := Kd.R_slice HO_4.out
              subst eo20
              have p105 : 0 ≤ ((ji15) : Int) := of_decide_eq_true (by first | (with_reducible assumption) | assumption)
              have q105 : (ji15) < (x4_2.length : Int) := of_decide_eq_true (by first | (with_reducible assumption) | assumption)
              obtain ⟨ad105, e105, hx105_0, hx105_1, hx105_2⟩ := at_T93 (Kd.R_reads' HO_4.out).2.2 (ji15) p105 q105
              cases e105
              replace p105 := eq_true p105
              replace q105 := eq_true q105
              go_wp2_with (first | ((with_reducible refine gate_dst (N := 9) rfl ?_); refine bxe (cs := #[.int .i64 0, .int .i64 0, .int .i64 0]) (t := 93) ?_; intro gb106 hg w21 hbox hb; have n0_ := aK (Kd.R_below (Kd.R_elderB (pR HO_4.out) gb106 (Nat.le_of_eq hg.symm)) hb); have BK106 := aK (hbox); have GW106 := aK (gE hg (pS HB.out)); have GE106 := GW106; obtain ⟨NB101_106, NB106_101⟩ := nb hg (pB BK101.out); obtain ⟨NB104_106, NB106_104⟩ := nb hg (pB BK104.out); replace BK101 := bB BK101 hb; replace BK104 := bB BK104 hb; replace HB := bS HB hb; clear HO_4; have HO_4 := n0_; clear n0_ hb hbox hg; have hnb22 := NB106_101.out; have hnc22 := NB101_106.out; have hnb23 := NB106_104.out; have hnc23 := NB104_106.out; obtain ⟨hcz24_0, hcz24_1, hcz24_2, hfz24_0, hfz24_1, hfz24_2⟩ := bc3 BK106.out; have hnb25 := NB104_101.out; have hnc25 := NB101_104.out; obtain ⟨hcz26_0, hcz26_1, hcz26_2, hfz26_0, hfz26_1, hfz26_2⟩ := bc3 BK104.out) | ((with_reducible refine gate_builtin (b := .append) (xs := #[.tmp 72, .tmp 74]) rfl ?_); at_builtin; refine Kd.R_append k93 (w0 := w) w.heap.size rfl (.tmp 72) (.tmp 74) 91 93 (.agg #[(.int .i64 0), (.int .i64 0), (.int .i64 0)]) 24 rfl Try.underlying91 info93 rfl (by decide) (by omega) (.slice (some ad105) x4_2.length co20) x4_2 (⟨x105000_2, x105001_2, x105002_2⟩ : S93) [.int .i64 x105000_2, .int .i64 x105001_2, .int .i64 x105002_2] (fun k_ => k_ ≠ gb104 ∧ k_ ≠ gb106) (fun _ => False) rfl (by first | (go_simp; done) | (go_simp; rfl)) ?aP (fun _ hk => hk.elim) ?aF ?aO ?aB ?aS ?aL ?_; (case aP => exact k93_mkM _ _ _ (⟨x105000_2, x105001_2, x105002_2⟩ : S93)); (case aB => exact (pS HB.out)); (case aF => exact (fun k_ hk => ⟨Kd.freshB (g := gb104) (o := .cells #[.int .i64 x105000_2, .int .i64 x105001_2, .int .i64 x105002_2] 93 (0, 0)) (by refine bk ?_; refine blk_far ?_ NB104_106.out _; refine bk ?_; refine blk_far ?_ NB104_106.out _; refine bk ?_; refine blk_far ?_ NB104_106.out _; refine bk ?_; exact BK104.out) k_ hk, Kd.freshB (g := gb106) (o := .cells #[.int .i64 ((rd_T93 x4_2 (ji15)).f0), .int .i64 ((rd_T93 x4_2 (ji15)).f1), .int .i64 ((rd_T93 x4_2 (ji15)).f2)] 93 (0, 0)) (by refine bk ?_; refine blk_put (cs := #[.int .i64 ((rd_T93 x4_2 (ji15)).f0), .int .i64 ((rd_T93 x4_2 (ji15)).f1), .int .i64 0]) ?_ 2 _ rfl; refine bk ?_; refine blk_put (cs := #[.int .i64 ((rd_T93 x4_2 (ji15)).f0), .int .i64 0, .int .i64 0]) ?_ 1 _ rfl; refine bk ?_; refine blk_put (cs := #[.int .i64 0, .int .i64 0, .int .i64 0]) ?_ 0 _ rfl; refine bk ?_; exact BK106.out) k_ hk⟩)); (case aO => exact (pR (Kd.R_mono (Kd.R_far (p := ⟨gb106, 2, none⟩) (Kd.R_far (p := ⟨gb106, 1, none⟩) (Kd.R_far (p := ⟨gb106, 0, none⟩) (Kd.R_mono HO_4.out (fun k_ hk => (⟨hk, hk.2⟩ : _ ∧ k_ ≠ gb106))) (fun _ hk => hk.2) (.int .i64 ((rd_T93 x4_2 (ji15)).f0))) (fun _ hk => hk.2) (.int .i64 ((rd_T93 x4_2 (ji15)).f1))) (fun _ hk => hk.2) (.int .i64 ((rd_T93 x4_2 (ji15)).f2))) (fun _ hk => ⟨hk.1.1, hk.1.2⟩)))); (case aS => exact (below_size (pS HB.out))); (case aL => have := LMc19.out; omega); intro v108 w27 ho hb hg hat; rw [← Ny107.out] at ho; have n0_ := aK (blk_grown (g := gb101) (o := .cells #[.slice (some ad102) l0_0.length c0_0, .slice (some ad103) l0_1.length c0_1] 26 (0, 0)) (by refine bk ?_; refine blk_far ?_ NB101_106.out _; refine bk ?_; refine blk_far ?_ NB101_106.out _; refine bk ?_; refine blk_far ?_ NB101_106.out _; refine bk ?_; exact BK101.out) hg (Kd.R_ne HO_4.out BK101.out (by decide))); have n1_ := aK (blk_grown (g := gb104) (o := .cells #[.int .i64 x105000_2, .int .i64 x105001_2, .int .i64 x105002_2] 93 (0, 0)) (by refine bk ?_; refine blk_far ?_ NB104_106.out _; refine bk ?_; refine blk_far ?_ NB104_106.out _; refine bk ?_; refine blk_far ?_ NB104_106.out _; refine bk ?_; exact BK104.out) hg (Kd.R_away HO_4.out (fun _ hk => hk.1))); have n2_ := aK (blk_grown (g := gb106) (o := .cells #[.int .i64 ((rd_T93 x4_2 (ji15)).f0), .int .i64 ((rd_T93 x4_2 (ji15)).f1), .int .i64 ((rd_T93 x4_2 (ji15)).f2)] 93 (0, 0)) (by refine bk ?_; refine blk_put (cs := #[.int .i64 ((rd_T93 x4_2 (ji15)).f0), .int .i64 ((rd_T93 x4_2 (ji15)).f1), .int .i64 0]) ?_ 2 _ rfl; refine bk ?_; refine blk_put (cs := #[.int .i64 ((rd_T93 x4_2 (ji15)).f0), .int .i64 0, .int .i64 0]) ?_ 1 _ rfl; refine bk ?_; refine blk_put (cs := #[.int .i64 0, .int .i64 0, .int .i64 0]) ?_ 0 _ rfl; refine bk ?_; exact BK106.out) hg (Kd.R_away HO_4.out (fun _ hk => hk.2))); have n3_ := aK (hb); have HO109 := aK (ho); clear BK101 BK104 BK106 HB HO_4; have BK101 := n0_; have BK104 := n1_; have BK106 := n2_; have HB := n3_; clear n0_ n1_ n2_ n3_; clear ho hb hg hat))
              go_roundg k2
              case measure => have := HK1.out; have := HK2.out; omega
              case rel => exact ⟨(y107), (wrap64 (x18_1 + 1)), (by first | rfl | (simp; done) | (simp [*]; done)), H', ⟨by have := HK1.out; have := HK2.out; omega⟩, ⟨pR (Kd.R_mono HO109.out (fun _ hk => trivial))⟩, ⟨by refine bk ?_; exact BK101.out⟩, ⟨pT HB.out⟩⟩
             rw [if_neg c19] at H
             exact absurd H (by simp)
            rw [if_neg c18] at H
            have c18b0 : decide ((wrap64 (((rd_T93 x4_2 (ji15)).f2) * x105001_2)) ≤ (wrap64 (x105002_2 * ((rd_T93 x4_2 (ji15)).f1)))) = false := decide_eq_false c18
            clear c18
            by_cases c28 : (ji15) ≤ (x4_2.length : Int)
            ·
             rw [if_pos c28] at H
             have c28b0 := eq_true c28
             have c28b1 : decide ((ji15) ≤ (x4_2.length : Int)) = true := decide_eq_true c28
             clear c28
             obtain ⟨y110, hy110⟩ : ∃ y_ : List (S93), y_ = (x4_2.take ((ji15) : Int).toNat) := ⟨_, rfl⟩
             replace H : (impl_calibrationOf.l1 k2 y110 (y110.length : Int) l0_0 (l0_0.length : Int) x18_1 l0_0 l0_1 ((rd_T93 x4_2 (ji15)).f0) (wrap64 (((rd_T93 x4_2 (ji15)).f1) + x105001_2)) (wrap64 (((rd_T93 x4_2 (ji15)).f2) + x105002_2))) = some (r1, r2) := by first | (rw [hy110]; with_reducible exact H) | (have H2_ := (Option.bind_some _ _).symm.trans H; rw [hy110]; with_reducible exact H2_) | (have H2_ := (Option.bind_some _ _).symm.trans H; with_reducible exact H2_) | with_reducible exact H | (rw [hy110]; exact H) | exact H
             have Ny110 := Aside0.mk hy110
             clear hy110
             have H' := Aside0.mk H
             clear H
             obtain ⟨Ao29, co29, eo29⟩ := Kd.R_slice HO_4.out
             subst eo29
             have p105 : 0 ≤ ((ji15) : Int) := of_decide_eq_true (by first | (with_reducible assumption) | assumption)
             have q105 : (ji15) < (x4_2.length : Int) := of_decide_eq_true (by first | (with_reducible assumption) | assumption)
             obtain ⟨ad105, e105, hx105_0, hx105_1, hx105_2⟩ := at_T93 (Kd.R_reads' HO_4.out).2.2 (ji15) p105 q105
             cases e105
             replace p105 := eq_true p105
             replace q105 := eq_true q105
             go_wp2_with (first | ((with_reducible refine gate_dst (N := 9) rfl ?_); refine bxe (cs := #[.int .i64 0, .int .i64 0, .int .i64 0]) (t := 93) ?_; intro gb106 hg w30 hbox hb; have n0_ := aK (Kd.R_below (Kd.R_elderB (pR HO_4.out) gb106 (Nat.le_of_eq hg.symm)) hb); have BK106 := aK (hbox); have GW106 := aK (gE hg (pS HB.out)); have GE106 := GW106; obtain ⟨NB101_106, NB106_101⟩ := nb hg (pB BK101.out); obtain ⟨NB104_106, NB106_104⟩ := nb hg (pB BK104.out); replace BK101 := bB BK101 hb; replace BK104 := bB BK104 hb; replace HB := bS HB hb; clear HO_4; have HO_4 := n0_; clear n0_ hb hbox hg; have hnb31 := NB106_101.out; have hnc31 := NB101_106.out; have hnb32 := NB106_104.out; have hnc32 := NB104_106.out; obtain ⟨hcz33_0, hcz33_1, hcz33_2, hfz33_0, hfz33_1, hfz33_2⟩ := bc3 BK106.out) | ((with_reducible refine gate_store (t := 93) (p := 9) rfl ?_); refine store_event (t := 93) (p := 9) (v := ?vo_w34) (w1 := (((w30.setCell ⟨gb106, 0, none⟩ (.int .i64 ((rd_T93 x4_2 (ji15)).f0))).setCell ⟨gb106, 1, none⟩ (.int .i64 ((rd_T93 x4_2 (ji15)).f1))).setCell ⟨gb106, 2, none⟩ (.int .i64 ((rd_T93 x4_2 (ji15)).f2)))) ?hg ?ho ?hn ?hr ?_; (case ho => rfl); (case hg => rfl); (case hn => rfl); (case hr => first | (go_simp; done) | (go_simp; rfl)); intro w34 hw; have n0_ : Aside0 (Kd.R k93 93 w34 w.heap.size (fun k_ => k_ ≠ gb104 ∧ k_ ≠ gb106) (.slice (some ad105) x4_2.length co29) x4_2) := ⟨(by rw [hw]; exact (pR (Kd.R_mono (Kd.R_far (p := ⟨gb106, 2, none⟩) (Kd.R_far (p := ⟨gb106, 1, none⟩) (Kd.R_far (p := ⟨gb106, 0, none⟩) (Kd.R_mono HO_4.out (fun k_ hk => (⟨hk, hk.2⟩ : _ ∧ k_ ≠ gb106))) (fun _ hk => hk.2) (.int .i64 ((rd_T93 x4_2 (ji15)).f0))) (fun _ hk => hk.2) (.int .i64 ((rd_T93 x4_2 (ji15)).f1))) (fun _ hk => hk.2) (.int .i64 ((rd_T93 x4_2 (ji15)).f2))) (fun _ hk => ⟨hk.1.1, hk.1.2⟩))))⟩; have n1_ : Aside0 (w34.heap[gb101]? = some (.cells #[.slice (some ad102) l0_0.length c0_0, .slice (some ad103) l0_1.length c0_1] 26 (0, 0))) := ⟨(by rw [hw]; exact (by refine bk ?_; refine blk_far ?_ NB101_106.out _; refine bk ?_; refine blk_far ?_ NB101_106.out _; refine bk ?_; refine blk_far ?_ NB101_106.out _; refine bk ?_; exact BK101.out))⟩; have n2_ : Aside0 (w34.heap[gb104]? = some (.cells #[.int .i64 x105000_2, .int .i64 x105001_2, .int .i64 x105002_2] 93 (0, 0))) := ⟨(by rw [hw]; exact (by refine bk ?_; refine blk_far ?_ NB104_106.out _; refine bk ?_; refine blk_far ?_ NB104_106.out _; refine bk ?_; refine blk_far ?_ NB104_106.out _; refine bk ?_; exact BK104.out))⟩; have n3_ : Aside0 (w34.heap[gb106]? = some (.cells #[.int .i64 ((rd_T93 x4_2 (ji15)).f0), .int .i64 ((rd_T93 x4_2 (ji15)).f1), .int .i64 ((rd_T93 x4_2 (ji15)).f2)] 93 (0, 0))) := ⟨(by rw [hw]; exact (by refine bk ?_; refine blk_put (cs := #[.int .i64 ((rd_T93 x4_2 (ji15)).f0), .int .i64 ((rd_T93 x4_2 (ji15)).f1), .int .i64 0]) ?_ 2 _ rfl; refine bk ?_; refine blk_put (cs := #[.int .i64 ((rd_T93 x4_2 (ji15)).f0), .int .i64 0, .int .i64 0]) ?_ 1 _ rfl; refine bk ?_; refine blk_put (cs := #[.int .i64 0, .int .i64 0, .int .i64 0]) ?_ 0 _ rfl; refine bk ?_; exact BK106.out))⟩; have n4_ : Aside0 (Below w.heap.size w w34) := ⟨(by rw [hw]; exact (pS HB.out))⟩; clear hw HO_4 BK101 BK104 BK106 HB; have HO_4 := n0_; have BK101 := n1_; have BK104 := n2_; have BK106 := n3_; have HB := n4_; clear n0_ n1_ n2_ n3_ n4_; obtain ⟨hcz35_0, hcz35_1, hcz35_2, hfz35_0, hfz35_1, hfz35_2⟩ := bc3 BK106.out; have hnb36 := NB104_101.out; have hnc36 := NB101_104.out; obtain ⟨hcz37_0, hcz37_1, hcz37_2, hfz37_0, hfz37_1, hfz37_2⟩ := bc3 BK104.out) | ((with_reducible refine gate_store (t := 93) (p := 7) rfl ?_); refine store_event (t := 93) (p := 7) (v := ?vo_w38) (w1 := (((w34.setCell ⟨gb104, 0, none⟩ (.int .i64 ((rd_T93 x4_2 (ji15)).f0))).setCell ⟨gb104, 1, none⟩ (.int .i64 (wrap64 (((rd_T93 x4_2 (ji15)).f1) + x105001_2)))).setCell ⟨gb104, 2, none⟩ (.int .i64 (wrap64 (((rd_T93 x4_2 (ji15)).f2) + x105002_2))))) ?hg ?ho ?hn ?hr ?_; (case ho => rfl); (case hg => rfl); (case hn => rfl); (case hr => first | (go_simp; done) | (go_simp; rfl)); intro w38 hw; have n0_ : Aside0 (Kd.R k93 93 w38 w.heap.size (fun k_ => k_ ≠ gb104 ∧ k_ ≠ gb106) (.slice (some ad105) x4_2.length co29) x4_2) := ⟨(by rw [hw]; exact (pR (Kd.R_mono (Kd.R_far (p := ⟨gb104, 2, none⟩) (Kd.R_far (p := ⟨gb104, 1, none⟩) (Kd.R_far (p := ⟨gb104, 0, none⟩) (Kd.R_mono HO_4.out (fun k_ hk => (⟨hk, hk.1⟩ : _ ∧ k_ ≠ gb104))) (fun _ hk => hk.2) (.int .i64 ((rd_T93 x4_2 (ji15)).f0))) (fun _ hk => hk.2) (.int .i64 (wrap64 (((rd_T93 x4_2 (ji15)).f1) + x105001_2)))) (fun _ hk => hk.2) (.int .i64 (wrap64 (((rd_T93 x4_2 (ji15)).f2) + x105002_2)))) (fun _ hk => ⟨hk.1.1, hk.1.2⟩))))⟩; have n1_ : Aside0 (w38.heap[gb101]? = some (.cells #[.slice (some ad102) l0_0.length c0_0, .slice (some ad103) l0_1.length c0_1] 26 (0, 0))) := ⟨(by rw [hw]; exact (by refine bk ?_; refine blk_far ?_ NB101_104.out _; refine bk ?_; refine blk_far ?_ NB101_104.out _; refine bk ?_; refine blk_far ?_ NB101_104.out _; refine bk ?_; exact BK101.out))⟩; have n2_ : Aside0 (w38.heap[gb104]? = some (.cells #[.int .i64 ((rd_T93 x4_2 (ji15)).f0), .int .i64 (wrap64 (((rd_T93 x4_2 (ji15)).f1) + x105001_2)), .int .i64 (wrap64 (((rd_T93 x4_2 (ji15)).f2) + x105002_2))] 93 (0, 0))) := ⟨(by rw [hw]; exact (by refine bk ?_; refine blk_put (cs := #[.int .i64 ((rd_T93 x4_2 (ji15)).f0), .int .i64 (wrap64 (((rd_T93 x4_2 (ji15)).f1) + x105001_2)), .int .i64 x105002_2]) ?_ 2 _ rfl; refine bk ?_; refine blk_put (cs := #[.int .i64 ((rd_T93 x4_2 (ji15)).f0), .int .i64 x105001_2, .int .i64 x105002_2]) ?_ 1 _ rfl; refine bk ?_; refine blk_put (cs := #[.int .i64 x105000_2, .int .i64 x105001_2, .int .i64 x105002_2]) ?_ 0 _ rfl; refine bk ?_; exact BK104.out))⟩; have n3_ : Aside0 (w38.heap[gb106]? = some (.cells #[.int .i64 ((rd_T93 x4_2 (ji15)).f0), .int .i64 ((rd_T93 x4_2 (ji15)).f1), .int .i64 ((rd_T93 x4_2 (ji15)).f2)] 93 (0, 0))) := ⟨(by rw [hw]; exact (by refine bk ?_; refine blk_far ?_ NB106_104.out _; refine bk ?_; refine blk_far ?_ NB106_104.out _; refine bk ?_; refine blk_far ?_ NB106_104.out _; refine bk ?_; exact BK106.out))⟩; have n4_ : Aside0 (Below w.heap.size w w38) := ⟨(by rw [hw]; exact (pS HB.out))⟩; clear hw HO_4 BK101 BK104 BK106 HB; have HO_4 := n0_; have BK101 := n1_; have BK104 := n2_; have BK106 := n3_; have HB := n4_; clear n0_ n1_ n2_ n3_ n4_; have q39 : ((ji15) : Int) ≤ ((x4_2.length : Int) : Int) := of_decide_eq_true (by first | (with_reducible assumption) | assumption); obtain ⟨i039, hi039, _, hsz39, _⟩ := info_parts info93; have hcut39 := cut_to (P := Try.prog) 91 93 .i64 Try.underlying91 hi039 (some ad105) x4_2.length co29 (ji15) (of_decide_eq_true (by first | (with_reducible assumption) | assumption)) q39 (Kd.R_reads' HO_4.out).2.1; have hr39 := Kd.R_take (m := ((ji15) : Int).toNat) HO_4.out (by omega); have hy39 : y110.length = ((ji15) : Int).toNat := (by rw [Ny110.out, List.length_take]; omega); rw [← Ny110.out] at hr39; rw [← hy39] at hr39 hcut39; clear hy39 hi039 hsz39 HO_4; have HO112 := Aside0.mk hr39; clear hr39; replace q39 := eq_true q39))
             go_roundg k2
             case measure => have := HK1.out; have := HK2.out; omega
             case rel => exact ⟨(y110), ((y110.length : Int)), ((rd_T93 x4_2 (ji15)).f0), (wrap64 (((rd_T93 x4_2 (ji15)).f1) + x105001_2)), (wrap64 (((rd_T93 x4_2 (ji15)).f2) + x105002_2)), (by first | rfl | (simp; done) | (simp [*]; done)), H', ⟨by have := HK1.out; have := HK2.out; omega⟩, ⟨pR (Kd.R_mono HO112.out (fun _ hk => hk.1))⟩, ⟨by refine bk ?_; exact BK101.out⟩, ⟨by refine bk ?_; exact BK104.out⟩, ⟨pT HB.out⟩⟩
            rw [if_neg c28] at H
            exact absurd H (by simp)
           rw [if_neg c17] at H
           exact absurd H (by simp)
          rw [if_neg c16] at H
          exact absurd H (by simp)
         rw [if_neg c14] at H
         have c14b0 : decide (0 < x8_2) = false := decide_eq_false c14
         clear c14
         by_cases c40 : x4_2.length < 5864062014805
         ·
          rw [if_pos c40] at H
          have LMc40 := Aside0.mk c40
          clear c40
          obtain ⟨y113, hy113⟩ : ∃ y_ : List (S93), y_ = (x4_2 ++ [(⟨x105000_2, x105001_2, x105002_2⟩ : S93)]) := ⟨_, rfl⟩
          replace H : (impl_calibrationOf.l0 k2 y113 l0_0 (l0_0.length : Int) (wrap64 (x18_1 + 1)) l0_0 l0_1) = some (r1, r2) := by first | (rw [hy113]; with_reducible exact H) | (have H2_ := (Option.bind_some _ _).symm.trans H; rw [hy113]; with_reducible exact H2_) | (have H2_ := (Option.bind_some _ _).symm.trans H; with_reducible exact H2_) | with_reducible exact H | (rw [hy113]; exact H) | exact H
          have Ny113 := Aside0.mk hy113
          clear hy113
          have H' := Aside0.mk H
          clear H
          have hnb41 := NB104_101.out
          have hnc41 := NB101_104.out
          obtain ⟨hcz42_0, hcz42_1, hcz42_2, hfz42_0, hfz42_1, hfz42_2⟩ := bc3 BK104.out
          go_wp2_with (first | ((with_reducible refine gate_builtin (b := .append) (xs := #[.tmp 72, .tmp 74]) rfl ?_); at_builtin; refine Kd.R_append k93 (w0 := w) w.heap.size rfl (.tmp 72) (.tmp 74) 91 93 (.agg #[(.int .i64 0), (.int .i64 0), (.int .i64 0)]) 24 rfl Try.underlying91 info93 rfl (by decide) (by omega) u4 x4_2 (⟨x105000_2, x105001_2, x105002_2⟩ : S93) [.int .i64 x105000_2, .int .i64 x105001_2, .int .i64 x105002_2] (fun k_ => k_ ≠ gb104) (fun _ => False) rfl rfl ?aP (fun _ hk => hk.elim) ?aF ?aO ?aB ?aS ?aL ?_; (case aP => exact k93_mkM _ _ _ (⟨x105000_2, x105001_2, x105002_2⟩ : S93)); (case aB => exact (pS HB.out)); (case aF => exact (fun k_ hk => Kd.freshB (g := gb104) (o := .cells #[.int .i64 x105000_2, .int .i64 x105001_2, .int .i64 x105002_2] 93 (0, 0)) (pB BK104.out) k_ hk)); (case aO => exact (pR HO_4.out)); (case aS => exact (below_size (pS HB.out))); (case aL => have := LMc40.out; omega); intro v114 w43 ho hb hg hat; rw [← Ny113.out] at ho; have n0_ := aK (blk_grown (pB BK101.out) hg (Kd.R_ne HO_4.out BK101.out (by decide))); have n1_ := aK (blk_grown (pB BK104.out) hg (Kd.R_away HO_4.out (fun _ hk => hk))); have n2_ := aK (hb); have HO115 := aK (ho); clear BK101 BK104 HB HO_4; have BK101 := n0_; have BK104 := n1_; have HB := n2_; clear n0_ n1_ n2_; clear ho hb hg hat))
          go_roundg k2
          case measure => have := HK1.out; have := HK2.out; omega
          case rel => exact ⟨(y113), (wrap64 (x18_1 + 1)), (by first | rfl | (simp; done) | (simp [*]; done)), H', ⟨by have := HK1.out; have := HK2.out; omega⟩, ⟨pR (Kd.R_mono HO115.out (fun _ hk => trivial))⟩, ⟨by refine bk ?_; exact BK101.out⟩, ⟨pT HB.out⟩⟩
         rw [if_neg c40] at H
         exact absurd H (by simp)
      rw [if_neg c8] at H
      exact absurd H (by simp)
     rw [if_neg c6] at H
     exact absurd H (by simp)
    rw [if_neg c5] at H
    exact absurd H (by simp)
   rw [if_neg c4] at H
   have c4b0 : decide (x18_1 < (l0_0.length : Int)) = false := decide_eq_false c4
   clear c4
   by_cases c44 : (x4_1.length : Int) = 0
   ·
    rw [if_pos c44] at H
    have c44b0 : ((x4_1.length : Int) == 0) = true := beq_iff_eq.mpr c44
    have c44b1 : ((x4_1.length : Int) != 0) = false := bne_eq_false_iff_eq.mpr c44
    clear c44
    simp only [Option.some.injEq, Prod.mk.injEq] at H
    obtain ⟨rfl, rfl⟩ := H
    obtain ⟨Ao45, co45, eo45⟩ := Kd.R_slice HO_4.out
    subst eo45
    go_wp2
    go_ret2
    exact ⟨_, er, by first | exact Kd.R_nil _ _ _ _ _ | exact Kd.N_nil _ _ _ _ _ | exact Kd.V_nil _ _ _ _ _ | exact Kd.Q_nil _ _ _ _ _ | exact Kd.S_nil _ _ _ _ _, pT HB.out⟩
   rw [if_neg c44] at H
   have c44b0 : ((x4_1.length : Int) == 0) = false := beq_eq_false_iff_ne.mpr c44
   have c44b1 : ((x4_1.length : Int) != 0) = true := bne_iff_ne.mpr c44
   have c44b2 : ¬ (x4_1 = []) := fun h_ => c44 (by rw [h_]; rfl)
   by_cases c46 : 11 ≤ 17592186044416
   ·
    rw [if_pos c46] at H
    have c46b0 := eq_true c46
    have c46b1 : decide (11 ≤ 17592186044416) = true := decide_eq_true c46
    clear c46
    obtain ⟨y116, hy116⟩ : ∃ y_ : List (S33), y_ = (List.replicate 11 z33) := ⟨_, rfl⟩
    replace H : (impl_calibrationOf.l2 k1 x4_1 y116 (y116.length : Int) 0) = some (r1, r2) := by first | (rw [hy116]; with_reducible exact H) | (have H2_ := (Option.bind_some _ _).symm.trans H; rw [hy116]; with_reducible exact H2_) | (have H2_ := (Option.bind_some _ _).symm.trans H; with_reducible exact H2_) | with_reducible exact H | (rw [hy116]; exact H) | exact H
    have Ny116 := Aside0.mk hy116
    clear hy116
    have H' := Aside0.mk H
    clear H
    obtain ⟨Ao47, co47, eo47⟩ := Kd.R_slice HO_4.out
    subst eo47
    go_wp2_with (first | ((with_reducible refine gate_dst (N := 80) rfl ?_); refine Kd.R_make k33 _ 33 rfl (N := 80) rfl 43 _ _ rfl 11 rfl rfl Try.underlying43 (.agg #[(.int .i64 0), (.int .i64 0)]) 16 info33 rfl (by decide) (by omega) z33 (ok := fun _ => True) (okp := fun _ => True) (k33_mkM _ _ _ z33 ) (fun _ hk => hk) trivial (by omega) (by omega) (Below.refl _ _) (Nat.le_refl _) ?_; intro v117 w48 ho49 hb hg_ hnew_; clear hg_ hnew_; (first | rw [← Ny116.out] at ho49 | (simp only [Int.reduceToNat] at ho49; rw [← Ny116.out] at ho49)); have n0_ := aK (Kd.R_below (pR HO_4.out) hb); have HO118 := aK (Kd.R_lower ho49 (below_size (pS HB.out))); replace BK101 := bB BK101 hb; replace HB := bS HB hb; clear HO_4; have HO_4 := n0_; clear n0_ hb ho49; obtain ⟨Ao50, co50, eo50⟩ := Kd.R_slice HO118.out; subst eo50))
    go_loopg [83] k1 (fun kq v83 w' => ∃ (x10_2 : List (S33)) (x83_2 : Int), v83 = .int .i64 x83_2 ∧ Aside0 (impl_calibrationOf.l2 kq x4_1 x10_2 (y116.length : Int) x83_2 = some (r1, r2)) ∧ Aside0 (kq ≤ k1) ∧ Aside0 (Kd.R k93 93 w' w.heap.size (fun _ => True) (.slice Ao47 x4_1.length co47) x4_1) ∧ Aside0 (Kd.R k33 33 w' w.heap.size (fun _ => True) (.slice Ao50 y116.length co50) x10_2) ∧ Aside0 (w'.heap[gb101]? = some (.cells #[(.slice A0_0 l0_0.length c0_0), (.slice A0_1 l0_1.length c0_1)] 26 (0, 0))) ∧ Aside0 (Below w.heap.size w w'))
    case atStart => exact ⟨(y116), (0), (by first | rfl | (simp; done) | (simp [*]; done)), H', ⟨Nat.le_refl _⟩, ⟨pR HO_4.out⟩, ⟨pR HO118.out⟩, ⟨by refine bk ?_; exact BK101.out⟩, ⟨pT HB.out⟩⟩
    case round =>
     clear H'
     try clear c1
     try clear p1
     try clear q1
     try clear hx1
     try clear c2
     try clear p2
     try clear c3
     try clear q3
     try clear c4
     try clear c4b0
     try clear c5
     try clear c5b0
     try clear c6
     try clear c6b0
     try clear p6
     try clear c7
     try clear c7b0
     try clear c7b1
     try clear c8
     try clear c8b0
     try clear p10
     try clear q10
     try clear hx10
     try clear c11
     try clear c14
     try clear c14b0
     try clear c16
     try clear c16b0
     try clear c17
     try clear c17b0
     try clear c18
     try clear c18b0
     try clear c19
     try clear c22
     try clear c23
     try clear c25
     try clear c28
     try clear c28b0
     try clear c28b1
     try clear c31
     try clear c32
     try clear c36
     try clear q39
     try clear c40
     try clear c41
     try clear c44
     try clear c44b0
     try clear c44b1
     try clear c44b2
     try clear c46
     try clear c46b0
     try clear c46b1
     try clear hcz12_0
     try clear hcz12_1
     try clear hcz12_2
     try clear hcz24_0
     try clear hcz24_1
     try clear hcz24_2
     try clear hcz26_0
     try clear hcz26_1
     try clear hcz26_2
     try clear hcz33_0
     try clear hcz33_1
     try clear hcz33_2
     try clear hcz35_0
     try clear hcz35_1
     try clear hcz35_2
     try clear hcz37_0
     try clear hcz37_1
     try clear hcz37_2
     try clear hcz3_0
     try clear hcz3_1
     try clear hcz42_0
     try clear hcz42_1
     try clear hcz42_2
     try clear hcz9_0
     try clear hcz9_1
     try clear hfz12_0
     try clear hfz12_1
     try clear hfz12_2
     try clear hfz24_0
     try clear hfz24_1
     try clear hfz24_2
     try clear hfz26_0
     try clear hfz26_1
     try clear hfz26_2
     try clear hfz33_0
     try clear hfz33_1
     try clear hfz33_2
     try clear hfz35_0
     try clear hfz35_1
     try clear hfz35_2
     try clear hfz37_0
     try clear hfz37_1
     try clear hfz37_2
     try clear hfz3_0
     try clear hfz3_1
     try clear hfz42_0
     try clear hfz42_1
     try clear hfz42_2
     try clear hfz9_0
     try clear hfz9_1
     try clear hx102_0
     try clear hx103_0
     try clear hx105_0
     try clear hx105_1
     try clear hx105_2
     try clear p1
     try clear p10
     try clear p102
     try clear p103
     try clear p105
     try clear p2
     try clear p6
     try clear q1
     try clear q10
     try clear q102
     try clear q103
     try clear q105
     try clear q39
     obtain ⟨x10_2, x83_2, rfl, HA, HK2, HO_4, HO_10, BK101, HB⟩ := hrel
     have hl10_2 := (Kd.R_reads' HO_10.out).1
     rw [hl10_2] at HO_10
     (try simp only [hl10_2])
     (try simp only [hl10_2] at BK101)
     (try simp only [hl10_2] at HO_4)
     cases gk with
     | zero => exact absurd HA.out (by simp [impl_calibrationOf.l2])
     | succ k2 =>
      have H := HA.out
      clear HA
      simp only [impl_calibrationOf.l2] at H
      by_cases c51 : x83_2 < (y116.length : Int)
      ·
       rw [if_pos c51] at H
       have c51b0 : decide (x83_2 < (y116.length : Int)) = true := decide_eq_true c51
       (try simp only [hl10_2] at c51b0)
       clear c51
       have H' := Aside0.mk H
       clear H
       go_wp2
       go_loopg [12, 88] k2 (fun kq v12 v88 w' => ∃ (x12_3 : Int) (x88_3 : Int), v12 = .int .i64 x12_3 ∧ v88 = .int .i64 x88_3 ∧ Aside0 (impl_calibrationOf.l3 kq x4_1 x10_2 x83_2 x12_3 (y116.length : Int) x83_2 x4_1 (x4_1.length : Int) x88_3 = some (r1, r2)) ∧ Aside0 (kq ≤ k2) ∧ Aside0 (Kd.R k93 93 w' w.heap.size (fun _ => True) (.slice Ao47 x4_1.length co47) x4_1) ∧ Aside0 (Kd.R k33 33 w' w.heap.size (fun _ => True) (.slice Ao50 x10_2.length co50) x10_2) ∧ Aside0 (Kd.R k93 93 w' w.heap.size (fun _ => True) (.slice Ao47 x4_1.length co47) x4_1) ∧ Aside0 (w'.heap[gb101]? = some (.cells #[(.slice A0_0 l0_0.length c0_0), (.slice A0_1 l0_1.length c0_1)] 26 (0, 0))) ∧ Aside0 (Below w.heap.size w w'))
       case atStart => exact ⟨(0), (0), (by first | rfl | (simp; done) | (simp [*]; done)), (by first | rfl | (simp; done) | (simp [*]; done)), H', ⟨Nat.le_refl _⟩, ⟨by (try simp only [hl10_2]); (with_reducible repeat (first | apply Kd.R_alloc | apply Kd.R_drewN | apply Kd.R_drew)); exact HO_4.out⟩, ⟨by (try simp only [hl10_2]); (with_reducible repeat (first | apply Kd.R_alloc | apply Kd.R_drewN | apply Kd.R_drew)); exact HO_10.out⟩, ⟨by (try simp only [hl10_2]); (with_reducible repeat (first | apply Kd.R_alloc | apply Kd.R_drewN | apply Kd.R_drew)); exact HO_4.out⟩, ⟨by (try simp only [hl10_2]); refine bk ?_; exact BK101.out⟩, ⟨pT HB.out⟩⟩
       case round =>
        clear H'
        try clear c1
        try clear p1
        try clear q1
        try clear hx1
        try clear c2
        try clear p2
        try clear c3
        try clear q3
        try clear c4
        try clear c4b0
        try clear c5
        try clear c5b0
        try clear c6
        try clear c6b0
        try clear p6
        try clear c7
        try clear c7b0
        try clear c7b1
        try clear c8
        try clear c8b0
        try clear p10
        try clear q10
        try clear hx10
        try clear c11
        try clear c14
        try clear c14b0
        try clear c16
        try clear c16b0
        try clear c17
        try clear c17b0
        try clear c18
        try clear c18b0
        try clear c19
        try clear c22
        try clear c23
        try clear c25
        try clear c28
        try clear c28b0
        try clear c28b1
        try clear c31
        try clear c32
        try clear c36
        try clear q39
        try clear c40
        try clear c41
        try clear c44
        try clear c44b0
        try clear c44b1
        try clear c44b2
        try clear c46
        try clear c46b0
        try clear c46b1
        try clear c51
        try clear c51b0
        try clear hcz12_0
        try clear hcz12_1
        try clear hcz12_2
        try clear hcz24_0
        try clear hcz24_1
        try clear hcz24_2
        try clear hcz26_0
        try clear hcz26_1
        try clear hcz26_2
        try clear hcz33_0
        try clear hcz33_1
        try clear hcz33_2
        try clear hcz35_0
        try clear hcz35_1
        try clear hcz35_2
        try clear hcz37_0
        try clear hcz37_1
        try clear hcz37_2
        try clear hcz3_0
        try clear hcz3_1
        try clear hcz42_0
        try clear hcz42_1
        try clear hcz42_2
        try clear hcz9_0
        try clear hcz9_1
        try clear hfz12_0
        try clear hfz12_1
        try clear hfz12_2
        try clear hfz24_0
        try clear hfz24_1
        try clear hfz24_2
        try clear hfz26_0
        try clear hfz26_1
        try clear hfz26_2
        try clear hfz33_0
        try clear hfz33_1
        try clear hfz33_2
        try clear hfz35_0
        try clear hfz35_1
        try clear hfz35_2
        try clear hfz37_0
        try clear hfz37_1
        try clear hfz37_2
        try clear hfz3_0
        try clear hfz3_1
        try clear hfz42_0
        try clear hfz42_1
        try clear hfz42_2
        try clear hfz9_0
        try clear hfz9_1
        try clear hx102_0
        try clear hx103_0
        try clear hx105_0
        try clear hx105_1
        try clear hx105_2
        try clear p1
        try clear p10
        try clear p102
        try clear p103
        try clear p105
        try clear p2
        try clear p6
        try clear q1
        try clear q10
        try clear q102
        try clear q103
        try clear q105
        try clear q3
        try clear q39
        obtain ⟨x12_3, x88_3, rfl, rfl, HA, HK3, HO_4, HO_10, HO_86, BK101, HB⟩ := hrel
        cases gk with
        | zero => exact absurd HA.out (by simp [impl_calibrationOf.l3])
        | succ k3 =>
         have H := HA.out
         clear HA
         simp only [impl_calibrationOf.l3] at H
         by_cases c52 : x88_3 < (x4_1.length : Int)
         ·
          rw [if_pos c52] at H
          have c52b0 : decide (x88_3 < (x4_1.length : Int)) = true := decide_eq_true c52
          (try simp only [hl10_2] at c52b0)
          clear c52
          by_cases c53 : 0 ≤ x88_3
          ·
           rw [if_pos c53] at H
           have c53b0 : decide (0 ≤ x88_3) = true := decide_eq_true c53
           clear c53
           by_cases c54 : x88_3 < (x4_1.length : Int)
           ·
            rw [if_pos c54] at H
            have c54b0 : decide (x88_3 < (x4_1.length : Int)) = true := decide_eq_true c54
            (try simp only [hl10_2] at c54b0)
            clear c54
            by_cases c55 : ((rd_T93 x4_1 x88_3).f0) ≤ x83_2
            ·
             rw [if_pos c55] at H
             have c55b0 : decide (((rd_T93 x4_1 x88_3).f0) ≤ x83_2) = true := decide_eq_true c55
             clear c55
             have H' := Aside0.mk H
             clear H
             have p119 : 0 ≤ (x88_3 : Int) := of_decide_eq_true (by first | (with_reducible assumption) | assumption)
             have q119 : x88_3 < (x4_1.length : Int) := of_decide_eq_true (by first | (with_reducible assumption) | assumption)
             obtain ⟨ad119, e119, hx119_0, hx119_1, hx119_2⟩ := at_T93 (Kd.R_reads' HO_86.out).2.2 x88_3 p119 q119
             cases e119
             replace p119 := eq_true p119
             replace q119 := eq_true q119
             go_wp2_with (first | ((with_reducible refine gate_dst (N := 14) rfl ?_); refine bxe (cs := #[.int .i64 0, .int .i64 0, .int .i64 0]) (t := 93) ?_; intro gb120 hg w56 hbox hb; have n0_ := aK (Kd.R_below (Kd.R_elderB (pR HO_4.out) gb120 (Nat.le_of_eq hg.symm)) hb); have n1_ := aK (Kd.R_below (pR HO_10.out) hb); have n2_ := aK (Kd.R_below (Kd.R_elderB (pR HO_86.out) gb120 (Nat.le_of_eq hg.symm)) hb); have BK120 := aK (hbox); have GW120 := aK (gE hg (pS HB.out)); have GE120 := GW120; obtain ⟨NB101_120, NB120_101⟩ := nb hg (pB BK101.out); replace BK101 := bB BK101 hb; replace HB := bS HB hb; clear HO_4 HO_10 HO_86; have HO_4 := n0_; have HO_10 := n1_; have HO_86 := n2_; clear n0_ n1_ n2_ hb hbox hg; have hnb57 := NB120_101.out; have hnc57 := NB101_120.out; obtain ⟨hcz58_0, hcz58_1, hcz58_2, hfz58_0, hfz58_1, hfz58_2⟩ := bc3 BK120.out))
             go_roundg k3
             case measure => have := HK1.out; have := HK2.out; have := HK3.out; omega
             case rel => exact ⟨(x88_3), (wrap64 (x88_3 + 1)), (by first | rfl | (simp; done) | (simp [*]; done)), (by first | rfl | (simp; done) | (simp [*]; done)), H', ⟨by have := HK1.out; have := HK2.out; have := HK3.out; omega⟩, ⟨by (try simp only [hl10_2]); (with_reducible repeat (first | apply Kd.R_alloc | apply Kd.R_drewN | apply Kd.R_drew)); exact Kd.R_mono (Kd.R_far (p := ⟨gb120, 2, none⟩) (Kd.R_far (p := ⟨gb120, 1, none⟩) (Kd.R_far (p := ⟨gb120, 0, none⟩) (Kd.R_mono HO_4.out (fun k_ hk => (⟨hk, hk.2⟩ : _ ∧ k_ ≠ gb120))) (fun _ hk => hk.2) (.int .i64 ((rd_T93 x4_1 x88_3).f0))) (fun _ hk => hk.2) (.int .i64 ((rd_T93 x4_1 x88_3).f1))) (fun _ hk => hk.2) (.int .i64 ((rd_T93 x4_1 x88_3).f2))) (fun _ hk => trivial)⟩, ⟨by (try simp only [hl10_2]); (with_reducible repeat (first | apply Kd.R_alloc | apply Kd.R_drewN | apply Kd.R_drew)); exact Kd.R_mono (rF3 HO_10.out BK120.out (.int .i64 ((rd_T93 x4_1 x88_3).f0)) (.int .i64 ((rd_T93 x4_1 x88_3).f1)) (.int .i64 ((rd_T93 x4_1 x88_3).f2))) (fun _ h => trivial)⟩, ⟨by (try simp only [hl10_2]); (with_reducible repeat (first | apply Kd.R_alloc | apply Kd.R_drewN | apply Kd.R_drew)); exact Kd.R_mono (Kd.R_far (p := ⟨gb120, 2, none⟩) (Kd.R_far (p := ⟨gb120, 1, none⟩) (Kd.R_far (p := ⟨gb120, 0, none⟩) (Kd.R_mono HO_86.out (fun k_ hk => (⟨hk, hk.2⟩ : _ ∧ k_ ≠ gb120))) (fun _ hk => hk.2) (.int .i64 ((rd_T93 x4_1 x88_3).f0))) (fun _ hk => hk.2) (.int .i64 ((rd_T93 x4_1 x88_3).f1))) (fun _ hk => hk.2) (.int .i64 ((rd_T93 x4_1 x88_3).f2))) (fun _ hk => trivial)⟩, ⟨by (try simp only [hl10_2]); refine bk ?_; refine blk_far ?_ NB101_120.out _; refine bk ?_; refine blk_far ?_ NB101_120.out _; refine bk ?_; refine blk_far ?_ NB101_120.out _; refine bk ?_; exact BK101.out⟩, ⟨pT HB.out⟩⟩
            rw [if_neg c55] at H
            have c55b0 : decide (((rd_T93 x4_1 x88_3).f0) ≤ x83_2) = false := decide_eq_false c55
            clear c55
            have H' := Aside0.mk H
            clear H
            have p119 : 0 ≤ (x88_3 : Int) := of_decide_eq_true (by first | (with_reducible assumption) | assumption)
            have q119 : x88_3 < (x4_1.length : Int) := of_decide_eq_true (by first | (with_reducible assumption) | assumption)
            obtain ⟨ad119, e119, hx119_0, hx119_1, hx119_2⟩ := at_T93 (Kd.R_reads' HO_86.out).2.2 x88_3 p119 q119
            cases e119
            replace p119 := eq_true p119
            replace q119 := eq_true q119
            go_wp2_with (first | ((with_reducible refine gate_dst (N := 14) rfl ?_); refine bxe (cs := #[.int .i64 0, .int .i64 0, .int .i64 0]) (t := 93) ?_; intro gb120 hg w59 hbox hb; have n0_ := aK (Kd.R_below (Kd.R_elderB (pR HO_4.out) gb120 (Nat.le_of_eq hg.symm)) hb); have n1_ := aK (Kd.R_below (pR HO_10.out) hb); have n2_ := aK (Kd.R_below (Kd.R_elderB (pR HO_86.out) gb120 (Nat.le_of_eq hg.symm)) hb); have BK120 := aK (hbox); have GW120 := aK (gE hg (pS HB.out)); have GE120 := GW120; obtain ⟨NB101_120, NB120_101⟩ := nb hg (pB BK101.out); replace BK101 := bB BK101 hb; replace HB := bS HB hb; clear HO_4 HO_10 HO_86; have HO_4 := n0_; have HO_10 := n1_; have HO_86 := n2_; clear n0_ n1_ n2_ hb hbox hg; have hnb60 := NB120_101.out; have hnc60 := NB101_120.out; obtain ⟨hcz61_0, hcz61_1, hcz61_2, hfz61_0, hfz61_1, hfz61_2⟩ := bc3 BK120.out))
            go_roundg k3
            case measure => have := HK1.out; have := HK2.out; have := HK3.out; omega
            case rel => exact ⟨(x12_3), (wrap64 (x88_3 + 1)), (by first | rfl | (simp; done) | (simp [*]; done)), (by first | rfl | (simp; done) | (simp [*]; done)), H', ⟨by have := HK1.out; have := HK2.out; have := HK3.out; omega⟩, ⟨by (try simp only [hl10_2]); (with_reducible repeat (first | apply Kd.R_alloc | apply Kd.R_drewN | apply Kd.R_drew)); exact Kd.R_mono (Kd.R_far (p := ⟨gb120, 2, none⟩) (Kd.R_far (p := ⟨gb120, 1, none⟩) (Kd.R_far (p := ⟨gb120, 0, none⟩) (Kd.R_mono HO_4.out (fun k_ hk => (⟨hk, hk.2⟩ : _ ∧ k_ ≠ gb120))) (fun _ hk => hk.2) (.int .i64 ((rd_T93 x4_1 x88_3).f0))) (fun _ hk => hk.2) (.int .i64 ((rd_T93 x4_1 x88_3).f1))) (fun _ hk => hk.2) (.int .i64 ((rd_T93 x4_1 x88_3).f2))) (fun _ hk => trivial)⟩, ⟨by (try simp only [hl10_2]); (with_reducible repeat (first | apply Kd.R_alloc | apply Kd.R_drewN | apply Kd.R_drew)); exact Kd.R_mono (rF3 HO_10.out BK120.out (.int .i64 ((rd_T93 x4_1 x88_3).f0)) (.int .i64 ((rd_T93 x4_1 x88_3).f1)) (.int .i64 ((rd_T93 x4_1 x88_3).f2))) (fun _ h => trivial)⟩, ⟨by (try simp only [hl10_2]); (with_reducible repeat (first | apply Kd.R_alloc | apply Kd.R_drewN | apply Kd.R_drew)); exact Kd.R_mono (Kd.R_far (p := ⟨gb120, 2, none⟩) (Kd.R_far (p := ⟨gb120, 1, none⟩) (Kd.R_far (p := ⟨gb120, 0, none⟩) (Kd.R_mono HO_86.out (fun k_ hk => (⟨hk, hk.2⟩ : _ ∧ k_ ≠ gb120))) (fun _ hk => hk.2) (.int .i64 ((rd_T93 x4_1 x88_3).f0))) (fun _ hk => hk.2) (.int .i64 ((rd_T93 x4_1 x88_3).f1))) (fun _ hk => hk.2) (.int .i64 ((rd_T93 x4_1 x88_3).f2))) (fun _ hk => trivial)⟩, ⟨by (try simp only [hl10_2]); refine bk ?_; refine blk_far ?_ NB101_120.out _; refine bk ?_; refine blk_far ?_ NB101_120.out _; refine bk ?_; refine blk_far ?_ NB101_120.out _; refine bk ?_; exact BK101.out⟩, ⟨pT HB.out⟩⟩
           rw [if_neg c54] at H
           exact absurd H (by simp)
          rw [if_neg c53] at H
          exact absurd H (by simp)
         rw [if_neg c52] at H
         have c52b0 : decide (x88_3 < (x4_1.length : Int)) = false := decide_eq_false c52
         (try simp only [hl10_2] at c52b0)
         clear c52
         by_cases c62 : 0 ≤ x12_3
         ·
          rw [if_pos c62] at H
          have c62b0 : decide (0 ≤ x12_3) = true := decide_eq_true c62
          clear c62
          by_cases c63 : x12_3 < (x4_1.length : Int)
          ·
           rw [if_pos c63] at H
           have c63b0 : decide (x12_3 < (x4_1.length : Int)) = true := decide_eq_true c63
           (try simp only [hl10_2] at c63b0)
           clear c63
           replace H := Option.bind_eq_some_iff.mp H
           obtain ⟨⟨t123, t124⟩, A640, H⟩ := H
           replace H : (if 0 ≤ x83_2 then (if x83_2 < (x10_2.length : Int) then (impl_calibrationOf.l2 k3 x4_1 (x10_2.set (x83_2 : Int).toNat (⟨t123, t124⟩ : S33)) (y116.length : Int) (wrap64 (x83_2 + 1))) else (none)) else (none)) = some (r1, r2) := H
           have A64 := Aside0.mk A640
           clear A640
           by_cases c65 : 0 ≤ x83_2
           ·
            rw [if_pos c65] at H
            have c65b0 : decide (0 ≤ x83_2) = true := decide_eq_true c65
            clear c65
            by_cases c66 : x83_2 < (x10_2.length : Int)
            ·
             rw [if_pos c66] at H
             have c66b0 : decide (x83_2 < (x10_2.length : Int)) = true := decide_eq_true c66
             (try simp only [hl10_2] at c66b0)
             clear c66
             obtain ⟨y125, hy125⟩ : ∃ y_ : List (S33), y_ = (x10_2.set (x83_2 : Int).toNat (⟨t123, t124⟩ : S33)) := ⟨_, rfl⟩
             replace H : (impl_calibrationOf.l2 k3 x4_1 y125 (y116.length : Int) (wrap64 (x83_2 + 1))) = some (r1, r2) := by first | (rw [hy125]; with_reducible exact H) | (have H2_ := (Option.bind_some _ _).symm.trans H; rw [hy125]; with_reducible exact H2_) | (have H2_ := (Option.bind_some _ _).symm.trans H; with_reducible exact H2_) | with_reducible exact H | (rw [hy125]; exact H) | exact H
             have Ny125 := Aside0.mk hy125
             clear hy125
             have H' := Aside0.mk H
             clear H
             try go_wp2
             have n0_ := aK (Kd.R_drew HO_4.out)
             have n1_ := aK (Kd.R_drew HO_10.out)
             have n2_ := aK (Kd.R_drew HO_86.out)
             have n3_ := aK (blk_drew BK101.out)
             have n4_ := aK (below_drew1 HB.out)
             clear HO_4 HO_10 HO_86 BK101 HB
             have HO_4 := n0_
             have HO_10 := n1_
             have HO_86 := n2_
             have BK101 := n3_
             have HB := n4_
             clear n0_ n1_ n2_ n3_ n4_
             have p121 : 0 ≤ (x12_3 : Int) := of_decide_eq_true (by first | (with_reducible assumption) | assumption)
             have q121 : x12_3 < (x4_1.length : Int) := of_decide_eq_true (by first | (with_reducible assumption) | assumption)
             obtain ⟨ad121, e121, hx121_0, hx121_1, hx121_2⟩ := at_T93 (Kd.R_reads' HO_4.out).2.2 x12_3 p121 q121
             cases e121
             replace p121 := eq_true p121
             replace q121 := eq_true q121
             have p122 : 0 ≤ (x12_3 : Int) := of_decide_eq_true (by first | (with_reducible assumption) | assumption)
             have q122 : x12_3 < (x4_1.length : Int) := of_decide_eq_true (by first | (with_reducible assumption) | assumption)
             obtain ⟨ad122, e122, hx122_0, hx122_1, hx122_2⟩ := at_T93 (Kd.R_reads' HO_4.out).2.2 x12_3 p122 q122
             obtain rfl : ad121 = ad122 := (by injection e122)
             replace p122 := eq_true p122
             replace q122 := eq_true q122
             refine start_ (n := 15) (S := fun w' => w'.cell? (ad121.add ((x12_3).toNat * 3)) = some (.int .i64 ((rd_T93 x4_1 x12_3).f0)) ∧ w'.cell? ⟨(ad121.add ((x12_3).toNat * 3)).block, (ad121.add ((x12_3).toNat * 3)).off + 1, none⟩ = some (.int .i64 ((rd_T93 x4_1 x12_3).f1)) ∧ w'.cell? ⟨(ad121.add ((x12_3).toNat * 3)).block, (ad121.add ((x12_3).toNat * 3)).off + 2, none⟩ = some (.int .i64 ((rd_T93 x4_1 x12_3).f2)) ∧ w'.cell? (ad121.add ((x12_3).toNat * 3)) = some (.int .i64 ((rd_T93 x4_1 x12_3).f0)) ∧ w'.cell? ⟨(ad121.add ((x12_3).toNat * 3)).block, (ad121.add ((x12_3).toNat * 3)).off + 1, none⟩ = some (.int .i64 ((rd_T93 x4_1 x12_3).f1)) ∧ w'.cell? ⟨(ad121.add ((x12_3).toNat * 3)).block, (ad121.add ((x12_3).toNat * 3)).off + 2, none⟩ = some (.int .i64 ((rd_T93 x4_1 x12_3).f2))) (ds := [14]) #[false, false, false, false, false, false, false, false, false, false, false, false, false, false, false] (by kernel_rfl) rfl rfl ⟨hx121_0, hx121_1, hx121_2, hx122_0, hx122_1, hx122_2⟩ (fun hHeld => ?_); refine with_tabW impl_calibrationOf.tab29 impl_calibrationOf.bits29 (fun HT_ HW_ => ?_)
             generalize wr.drew = w68 at HO_4 HO_10 HO_86 BK101 HB hx121_0 hx121_1 hx121_2 hx122_0 hx122_1 hx122_2 hHeld ⊢
             refine pu (i := 0) (N := some 99) #[true, false, false, false, false, false, false, false, false, false, false, false, false, false, false] rfl rfl HT_.out ?_
             refine pu (i := 1) (N := some 100) #[true, true, false, false, false, false, false, false, false, false, false, false, false, false, false] rfl rfl HT_.out ?_
             refine pu (i := 2) (N := some 101) #[true, true, true, false, false, false, false, false, false, false, false, false, false, false, false] rfl rfl HT_.out ?_
             refine pu (i := 3) (N := some 102) #[true, true, true, true, false, false, false, false, false, false, false, false, false, false, false] rfl rfl HT_.out ?_
             refine pu (i := 4) (N := some 103) #[true, true, true, true, true, false, false, false, false, false, false, false, false, false, false] rfl rfl HT_.out ?_
             refine pu (i := 5) (N := some 104) #[true, true, true, true, true, true, false, false, false, false, false, false, false, false, false] rfl rfl HT_.out ?_
             refine pu (i := 7) (N := some 106) #[true, true, true, true, true, true, false, true, false, false, false, false, false, false, false] rfl rfl HT_.out ?_
             refine pu (i := 8) (N := some 107) #[true, true, true, true, true, true, false, true, true, false, false, false, false, false, false] rfl rfl HT_.out ?_
             refine pu (i := 9) (N := some 108) #[true, true, true, true, true, true, false, true, true, true, false, false, false, false, false] rfl rfl HT_.out ?_
             refine pu (i := 10) (N := some 109) #[true, true, true, true, true, true, false, true, true, true, true, false, false, false, false] rfl rfl HT_.out ?_
             refine tk (i := 6) (N := some 105) #[true, true, true, true, true, true, true, true, true, true, true, false, false, false, false] rfl rfl HT_.out HW_.out (Or.inl ⟨by rfl, by rintro w' ⟨s0, s1, s2, s3, s4, s5⟩; go_simp; with_reducible rfl⟩) hHeld ?_
             refine tk (i := 11) (N := some 110) #[true, true, true, true, true, true, true, true, true, true, true, true, false, false, false] rfl rfl HT_.out HW_.out (Or.inl ⟨by rfl, by rintro w' ⟨s0, s1, s2, s3, s4, s5⟩; go_simp; with_reducible rfl⟩) hHeld ?_
             refine one_ (i := 12) (N := some 111) #[true, true, true, true, true, true, true, true, true, true, true, true, true, false, false] rfl rfl (one_of HT_.out (by kernel_rfl)) (by decide) (fun K hK => ?_)
             refine goes_ Try.func48 (by kernel_rfl) rfl #[.int .i64 ((rd_T93 x4_1 x12_3).f2), .int .i64 ((rd_T93 x4_1 x12_3).f1)] (by rfl) rfl rfl (by (try simp only [List.map_toArray, List.map_cons, List.map_nil]); first | done | rfl | (simp only [List.length_drop, List.length_take]; rfl)) ?_
             with_reducible refine (impl_shareOf.calls k3 ((rd_T93 x4_1 x12_3).f2) ((rd_T93 x4_1 x12_3).f1) t123 t124 _ A64.out).mono ?_
             rintro e w69 ⟨rfl, hb⟩
             have HS0_ := (hb.cell (World.block_lt_of_cell? _ _ (hHeld.1))).trans (hHeld.1)
             have HS1_ := (hb.cell (World.block_lt_of_cell? _ _ (hHeld.2.1))).trans (hHeld.2.1)
             have HS2_ := (hb.cell (World.block_lt_of_cell? _ _ (hHeld.2.2.1))).trans (hHeld.2.2.1)
             have HS3_ := (hb.cell (World.block_lt_of_cell? _ _ (hHeld.2.2.2.1))).trans (hHeld.2.2.2.1)
             have HS4_ := (hb.cell (World.block_lt_of_cell? _ _ (hHeld.2.2.2.2.1))).trans (hHeld.2.2.2.2.1)
             have HS5_ := (hb.cell (World.block_lt_of_cell? _ _ (hHeld.2.2.2.2.2))).trans (hHeld.2.2.2.2.2)
             refine ⟨_, rfl, ?_⟩
             have n0_ := aK (Kd.R_below (pR HO_4.out) hb)
             have n1_ := aK (Kd.R_below (pR HO_10.out) hb)
             have n2_ := aK (Kd.R_below (pR HO_86.out) hb)
             replace BK101 := bB BK101 hb
             replace HB := bS HB hb
             clear HO_4 HO_10 HO_86
             have HO_4 := n0_
             have HO_10 := n1_
             have HO_86 := n2_
             clear n0_ n1_ n2_
             (try clear hb)
             (try clear hb2)
             (try clear hk)
             (try clear hi)
             have p67 : 0 ≤ (x83_2 : Int) := of_decide_eq_true (by first | (with_reducible assumption) | assumption)
             have q67 : (x83_2 : Int) < ((x10_2.length : Int) : Int) := of_decide_eq_true (by first | (with_reducible assumption) | assumption)
             obtain ⟨go67, co67, eo67, gb67, gl67, cl67, HG67⟩ := Kd.R_form HO_10.out (by omega)
             (first | cases eo67 | (injection eo67 with ea_ en_ ec_; (first | subst ea_ | (injection ea_ with ea_; subst ea_)); subst ec_; clear en_))
             have GB67 := Aside0.mk gb67
             have GG67 := Aside0.mk HG67
             clear gb67 gl67 HG67
             obtain ⟨ce67, hcl67, hM67, hcc67, hfr67⟩ := Kd.R_elem HO_10.out z33 (x83_2 : Int) p67 q67
             obtain rfl := k33_openM hM67
             have hx67_0 : World.cell? _ ⟨go67, (x83_2 : Int).toNat * 2, none⟩ = some (.int .i64 ((rd_T33 x10_2 x83_2).f0)) := hcc67 0 _ rfl
             have hx67_1 : World.cell? _ ⟨go67, (x83_2 : Int).toNat * 2 + 1, none⟩ = some (.int .i64 ((rd_T33 x10_2 x83_2).f1)) := hcc67 1 _ rfl
             have hf67_0 : World.frozen? _ ⟨go67, (x83_2 : Int).toNat * 2, none⟩ = false := hfr67 0
             have hf67_1 : World.frozen? _ ⟨go67, (x83_2 : Int).toNat * 2 + 1, none⟩ = false := hfr67 1
             clear hcl67 hcc67 hfr67 hM67
             replace p67 := eq_true p67
             replace q67 := eq_true q67
             obtain ⟨ce70, hcl70, hM70, hcc70, hfr70⟩ := Kd.R_elem HO_10.out z33 (x83_2 : Int) (of_decide_eq_true (by first | (with_reducible assumption) | assumption)) (by have h_ : (x83_2 : Int) < ((x10_2.length : Int) : Int) := of_decide_eq_true (by first | (with_reducible assumption) | assumption); first | exact h_ | (have e_ := (Kd.R_reads' HO_10.out).1; omega) | simpa using h_)
             obtain rfl := k33_openM hM70
             have HP70 := (Kd.R_seg HO_10.out (x83_2 : Int) (of_decide_eq_true (by first | (with_reducible assumption) | assumption)) (by have h_ : (x83_2 : Int) < ((x10_2.length : Int) : Int) := of_decide_eq_true (by first | (with_reducible assumption) | assumption); first | exact h_ | (have e_ := (Kd.R_reads' HO_10.out).1; omega) | simpa using h_) (seg := [.int .i64 t123, .int .i64 t124]) (j := 0) hcl70 hcc70 (show 2 ≤ 2 from by decide) (x' := (⟨t123, t124⟩ : S33)) (k33_mkM _ _ _ (⟨t123, t124⟩ : S33) ) (fun _ hk => hk)).1
             rw [← Ny125.out] at HP70
             have HQ70 := Aside0.mk HP70
             clear hcl70 hcc70 hfr70 hM70 HP70
             refine hK.out _ _ ⟨HS0_, HS1_, HS2_, HS3_, HS4_, HS5_⟩ (fun hHeld => ?_)
             clear hK K
             refine norm_ (a' := ?_) ?_ ?_
             rotate_left
             ·
              show Act.put _ (some 111) _ = _
              simp only [sP]
              rfl
             refine pu (i := 13) (N := some 112) #[true, true, true, true, true, true, true, true, true, true, true, true, true, true, false] rfl rfl HT_.out ?_
             refine last_ (i := 14) (N := none) #[true, true, true, true, true, true, true, true, true, true, true, true, true, true, true] rfl rfl (one_of HT_.out (by kernel_rfl)) (by decide) (fun K hK => ?_)
             refine skip_ (w1 := ?_) (by rfl) rfl ?_ ?_
             rotate_left
             ·
              go_simp
              rfl
             refine hK.out _ _ ?_
             clear hK K
             refine done_ (done_of HT_.out (by kernel_rfl)) ?_
             try go_wp2
             (try simp only [← hl10_2])
             go_roundg k3
             case measure => have := HK1.out; have := HK2.out; have := HK3.out; omega
             case rel => exact ⟨(y125), (wrap64 (x83_2 + 1)), (by first | rfl | (simp; done) | (simp [*]; done)), H', ⟨by have := HK1.out; have := HK2.out; have := HK3.out; omega⟩, ⟨by (try simp only [hl10_2]); (with_reducible repeat (first | apply Kd.R_alloc | apply Kd.R_drewN | apply Kd.R_drew)); exact Kd.R_mono (Kd.R_far (p := ⟨go67, (x83_2 : Int).toNat * 2 + 1, none⟩) (Kd.R_far (p := ⟨go67, (x83_2 : Int).toNat * 2, none⟩) (Kd.R_types HO_4.out GG67.out (by decide)) (fun _ hk => hk.2) (.int .i64 t123)) (fun _ hk => hk.2) (.int .i64 t124)) (fun _ hk => trivial)⟩, ⟨by (try simp only [hl10_2]); (with_reducible repeat (first | apply Kd.R_alloc | apply Kd.R_drewN | apply Kd.R_drew)); exact HQ70.out⟩, ⟨by (try simp only [hl10_2]); refine bk ?_; refine blk_far ?_ (by have h_ := Kd.R_ne HO_10.out BK101.out (by decide); intro e_; exact h_ (by rw [e_]; rfl)) _; refine bk ?_; refine blk_far ?_ (by have h_ := Kd.R_ne HO_10.out BK101.out (by decide); intro e_; exact h_ (by rw [e_]; rfl)) _; refine bk ?_; exact BK101.out⟩, ⟨by repeat (first | (with_reducible first | exact HB.out | apply below_alloc | apply pw_below_drewN | apply below_drew1 | refine below_set ?_ GB67.out | refine below_set ?_ GB67.out | refine below_set ?_ GE101.out) | exact HB.out)⟩⟩
            rw [if_neg c66] at H
            exact absurd H (by simp)
           rw [if_neg c65] at H
           exact absurd H (by simp)
          rw [if_neg c63] at H
          exact absurd H (by simp)
         rw [if_neg c62] at H
         exact absurd H (by simp)
      rw [if_neg c51] at H
      have c51b0 : decide (x83_2 < (y116.length : Int)) = false := decide_eq_false c51
      (try simp only [hl10_2] at c51b0)
      clear c51
      simp only [Option.some.injEq, Prod.mk.injEq] at H
      obtain ⟨rfl, rfl⟩ := H
      go_wp2
      go_ret2
      exact ⟨_, er, by (with_reducible repeat (first | apply Kd.R_alloc | apply Kd.R_drewN | apply Kd.R_drew)); exact HO_10.out, pT HB.out⟩
   rw [if_neg c46] at H
   exact absurd H (by simp)
end Go.Proofs.Ytjicgmcogadleaa.P
namespace Go.Proofs.Ytjicgmcogadleaa.P
open Go.RowKit Go.Proofs.YtjicgmcogadleaaW.PrintWords Go.Proofs.YtjicgmcogadleaaW.PrintLast Go.Proofs.YtjicgmcogadleaaW.PrintMore
attribute [local go_sem] max2_int min2_int max_two min_two max_three min_three max_four min_four
set_option linter.unusedVariables false
set_option linter.unusedSimpArgs false
set_option maxHeartbeats 8000000
set_option maxRecDepth 100000
attribute [local go_sem high] eqA33
def impl_GroupsOf.l0 : Nat → List (List Int) → List (S33) → Int → Int → List Int → List Int → Int → Int → Option ((List (List Int)) × Bool)
 | 0, _, _, _, _, _, _, _, _ => none
 | k + 1, x6, x22, x23, x24, x102000, x102001, x108000, x108001 => if x24 < x23 then (if 0 ≤ x24 then (if x24 < (x22.length : Int) then (if x24 < (x102000.length : Int) then (if (rd x102000 x24) = 0 then (impl_GroupsOf.l0 k x6 x22 x23 (wrap64 (x24 + 1)) x102000 x102001 x108000 x108001) else (if (x6.length : Int) > 0 then (if (((rd_T33 x22 x24).f0) == x108000 && (((rd_T33 x22 x24).f1) == x108001)) = true then (if 0 ≤ (wrap64 ((x6.length : Int) - 1)) then (if (wrap64 ((x6.length : Int) - 1)) < (x6.length : Int) then (if (rd_L3 x6 (wrap64 ((x6.length : Int) - 1))).length < 17592186044416 then (impl_GroupsOf.l0 k (x6.set ((wrap64 ((x6.length : Int) - 1)) : Int).toNat ((rd_L3 x6 (wrap64 ((x6.length : Int) - 1))) ++ [x24])) x22 x23 (wrap64 (x24 + 1)) x102000 x102001 ((rd_T33 x22 x24).f0) ((rd_T33 x22 x24).f1)) else (none)) else (none)) else (none)) else (if x6.length < 5864062014805 then (impl_GroupsOf.l0 k (x6 ++ [(([x24] : List Int))]) x22 x23 (wrap64 (x24 + 1)) x102000 x102001 ((rd_T33 x22 x24).f0) ((rd_T33 x22 x24).f1)) else (none))) else (if x6.length < 5864062014805 then (impl_GroupsOf.l0 k (x6 ++ [(([x24] : List Int))]) x22 x23 (wrap64 (x24 + 1)) x102000 x102001 ((rd_T33 x22 x24).f0) ((rd_T33 x22 x24).f1)) else (none)))) else (none)) else (none)) else (none)) else (some (x6, true))
def impl_GroupsOf.f (k : Nat) (l0_0 : List Int) (l0_1 : List Int) : Option ((List (List Int)) × Bool) := (impl_IsValidTally.f k l0_0 l0_1).bind fun t102 => (if t102 = true then ((impl_calibrationOf.f k l0_0 l0_1).bind fun bt103 => (if bt103.2 = true then (impl_GroupsOf.l0 k ([] : List (List Int)) bt103.1 (bt103.1.length : Int) 0 l0_0 l0_1 0 0) else (some (([] : List (List Int)), true)))) else (some (([] : List (List Int)), false)))
theorem impl_GroupsOf.calls (k : Nat) (A0_0 : Option Addr) (c0_0 : Nat) (l0_0 : List Int) (A0_1 : Option Addr) (c0_1 : Nat) (l0_1 : List Int) (r1 : List (List Int)) (r2 : Bool) (w : World) (hr0_0 : Kd.C (Kd.int .i64) w A0_0 l0_0.length l0_0) (hc0_0 : l0_0.length ≤ c0_0) (hr0_1 : Kd.C (Kd.int .i64) w A0_1 l0_1.length l0_1) (hc0_1 : l0_1.length ≤ c0_1) (h : impl_GroupsOf.f k l0_0 l0_1 = some (r1, r2)) :
  Calls Try.prog 26 #[.agg #[.slice A0_0 l0_0.length c0_0, .slice A0_1 l0_1.length c0_1]] w fun e w' => ∃ v0_ : Value, e = .returned (.tuple #[v0_, .bool r2]) ∧ Kd.S (Kd.slice 3 (Kd.int .i64)) 24 w' w.heap.size (fun _ => True) v0_ r1 ∧ Below w.heap.size w w' := by
 have hu26 := Try.underlying26
 have hu33 := Try.underlying33
 have HR0_0 := Aside0.mk hr0_0
 have HC0_0 := Aside0.mk hc0_0
 clear hr0_0 hc0_0
 have HR0_1 := Aside0.mk hr0_1
 have HC0_1 := Aside0.mk hc0_1
 clear hr0_1 hc0_1
 have HB := aK (Below.refl w.heap.size w)
 have H : ((impl_IsValidTally.f k l0_0 l0_1).bind fun t102 => (if t102 = true then ((impl_calibrationOf.f k l0_0 l0_1).bind fun bt103 => (if bt103.2 = true then (impl_GroupsOf.l0 k ([] : List (List Int)) bt103.1 (bt103.1.length : Int) 0 l0_0 l0_1 0 0) else (some (([] : List (List Int)), true)))) else (some (([] : List (List Int)), false)))) = some (r1, r2) := h
 clear h
 replace H := Option.bind_eq_some_iff.mp H
 obtain ⟨t102, A20, H⟩ := H
 replace H : (if t102 = true then ((impl_calibrationOf.f k l0_0 l0_1).bind fun bt103 => (if bt103.2 = true then (impl_GroupsOf.l0 k ([] : List (List Int)) bt103.1 (bt103.1.length : Int) 0 l0_0 l0_1 0 0) else (some (([] : List (List Int)), true)))) else (some (([] : List (List Int)), false))) = some (r1, r2) := H
 have A2 := Aside0.mk A20
 clear A20
 by_cases c3 : t102 = true
 ·
  subst c3
  have H1 : ((impl_calibrationOf.f k l0_0 l0_1).bind fun bt103 => (if bt103.2 = true then (impl_GroupsOf.l0 k ([] : List (List Int)) bt103.1 (bt103.1.length : Int) 0 l0_0 l0_1 0 0) else (some (([] : List (List Int)), true)))) = some (r1, r2) := by rw [if_pos rfl] at H; exact H
  clear H
  have H := H1
  clear H1
  replace H := Option.bind_eq_some_iff.mp H
  obtain ⟨⟨t103, t106⟩, A40, H⟩ := H
  replace H : (if t106 = true then (impl_GroupsOf.l0 k ([] : List (List Int)) t103 (t103.length : Int) 0 l0_0 l0_1 0 0) else (some (([] : List (List Int)), true))) = some (r1, r2) := H
  have A4 := Aside0.mk A40
  clear A40
  by_cases c5 : t106 = true
  ·
   subst c5
   have H1 : (impl_GroupsOf.l0 k ([] : List (List Int)) t103 (t103.length : Int) 0 l0_0 l0_1 0 0) = some (r1, r2) := by rw [if_pos rfl] at H; exact H
   clear H
   have H := H1
   clear H1
   have H' := Aside0.mk H
   clear H
   go_enter Try.func26, Try.ntmps26
   go_wp2_with (first | ((with_reducible refine gate_dst (N := 1) rfl ?_); refine bxe (cs := #[.slice A0_0 l0_0.length c0_0, .slice A0_1 l0_1.length c0_1]) (t := 26) ?_; intro gb101 hg w6 hbox hb; have BK101 := aK (hbox); have GW101 := aK (gE hg (pS HB.out)); have GE101 := GW101; replace HB := bS HB hb; clear hb hbox hg; obtain ⟨hcz7_0, hcz7_1, hfz7_0, hfz7_1⟩ := bc2 BK101.out) | ((with_reducible refine gate_callee (f := 35) rfl ?_); refine gl (some 12) Try.func35 #[.agg #[.slice A0_0 l0_0.length c0_0, .slice A0_1 l0_1.length c0_1]] ?_; (with_reducible refine (impl_IsValidTally.calls k _ _ l0_0 _ _ l0_1 true _ ?side1 ?side2 ?side3 ?side4 A2.out).mono ?_); (case side1 => exact pC (Kd.C_below HR0_0.out HB.out)); (case side2 => exact HC0_0.out); (case side3 => exact pC (Kd.C_below HR0_1.out HB.out)); (case side4 => exact HC0_1.out); rintro e w8 ⟨rfl, hb⟩; refine ⟨_, rfl, ?_⟩; replace BK101 := bB BK101 hb; replace HB := bS HB hb; (try clear hb); (try clear hb2); (try clear hk); (try clear hi); obtain ⟨hcz9_0, hcz9_1, hfz9_0, hfz9_1⟩ := bc2 BK101.out) | ((with_reducible refine gate_callee (f := 52) rfl ?_); refine gl (some 16) Try.func52 #[.agg #[.slice A0_0 l0_0.length c0_0, .slice A0_1 l0_1.length c0_1]] ?_; (with_reducible refine (impl_calibrationOf.calls k _ _ l0_0 _ _ l0_1 t103 true _ ?side1 ?side2 ?side3 ?side4 A4.out).mono ?_); (case side1 => exact pC (Kd.C_below HR0_0.out HB.out)); (case side2 => exact HC0_0.out); (case side3 => exact pC (Kd.C_below HR0_1.out HB.out)); (case side4 => exact HC0_1.out); rintro e w10 ⟨v104, rfl, ho0, hb⟩; refine ⟨_, rfl, ?_⟩; have HO105 := aK (Kd.R_lower ho0 (below_size (pS HB.out))); replace BK101 := bB BK101 hb; replace HB := bS HB hb; (try clear hb); (try clear hb2); (try clear hk); (try clear hi); (try clear ho0)) | ((with_reducible refine gate_dst (N := 7) rfl ?_); refine bxe (cs := #[.int .i64 0, .int .i64 0]) (t := 33) ?_; intro gb107 hg w11 hbox hb; have n0_ := aK (Kd.R_below (Kd.R_elderB (pR HO105.out) gb107 (Nat.le_of_eq hg.symm)) hb); have BK107 := aK (hbox); have GW107 := aK (gE hg (pS HB.out)); have GE107 := GW107; obtain ⟨NB101_107, NB107_101⟩ := nb hg (pB BK101.out); replace BK101 := bB BK101 hb; replace HB := bS HB hb; clear HO105; have HO105 := n0_; clear n0_ hb hbox hg; have hnb12 := NB107_101.out; have hnc12 := NB101_107.out; obtain ⟨hcz13_0, hcz13_1, hfz13_0, hfz13_1⟩ := bc2 BK107.out; obtain ⟨Ao14, co14, eo14⟩ := Kd.R_slice HO105.out; subst eo14))
   go_loopg [6, 24] k (fun kq v6 v24 w' => ∃ (x6_1 : List (List Int)) (x24_1 : Int) (x108000_1 : Int) (x108001_1 : Int), v24 = .int .i64 x24_1 ∧ Aside0 (impl_GroupsOf.l0 kq x6_1 t103 (t103.length : Int) x24_1 l0_0 l0_1 x108000_1 x108001_1 = some (r1, r2)) ∧ Aside0 (kq ≤ k) ∧ Aside0 (Kd.S (Kd.slice 3 (Kd.int .i64)) 24 w' w.heap.size (fun _ => True) v6 x6_1) ∧ Aside0 (Kd.R k33 33 w' w.heap.size (fun k_ => k_ ≠ gb107) (.slice Ao14 t103.length co14) t103) ∧ Aside0 (w'.heap[gb101]? = some (.cells #[(.slice A0_0 l0_0.length c0_0), (.slice A0_1 l0_1.length c0_1)] 26 (0, 0))) ∧ Aside0 (w'.heap[gb107]? = some (.cells #[.int .i64 x108000_1, .int .i64 x108001_1] 33 (0, 0))) ∧ Aside0 (Below w.heap.size w w'))
   case atStart => exact ⟨(([] : List (List Int))), (0), (0), (0), (by first | rfl | (simp; done) | (simp [*]; done)), H', ⟨Nat.le_refl _⟩, ⟨by first | exact Kd.S_nil _ _ _ _ _ | exact Kd.N_nil _ _ _ _ _ | exact Kd.V_nil _ _ _ _ _ | exact Kd.Q_nil _ _ _ _ _ | exact Kd.R_nil _ _ _ _ _⟩, ⟨pR (Kd.R_mono (Kd.R_far (p := ⟨gb107, 1, none⟩) (Kd.R_far (p := ⟨gb107, 0, none⟩) (Kd.R_mono HO105.out (fun k_ hk => (⟨hk, hk.2⟩ : _ ∧ k_ ≠ gb107))) (fun _ hk => hk.2) (.int .i64 0)) (fun _ hk => hk.2) (.int .i64 0)) (fun _ hk => hk.1.2))⟩, ⟨by refine bk ?_; refine blk_far ?_ NB101_107.out _; refine bk ?_; refine blk_far ?_ NB101_107.out _; refine bk ?_; exact BK101.out⟩, ⟨by refine bk ?_; refine blk_put (cs := #[.int .i64 0, .int .i64 0]) ?_ 1 _ rfl; refine bk ?_; refine blk_put (cs := #[.int .i64 0, .int .i64 0]) ?_ 0 _ rfl; refine bk ?_; exact BK107.out⟩, ⟨pT HB.out⟩⟩
   case round =>
    clear H'
    try clear c1
    try clear c2
    try clear p2
    try clear c3
    try clear c5
    try clear c12
    try clear hcz13_0
    try clear hcz13_1
    try clear hcz7_0
    try clear hcz7_1
    try clear hcz9_0
    try clear hcz9_1
    try clear hfz13_0
    try clear hfz13_1
    try clear hfz7_0
    try clear hfz7_1
    try clear hfz9_0
    try clear hfz9_1
    obtain ⟨x6_1, x24_1, x108000_1, x108001_1, rfl, HA, HK1, HO_6, HO_22, BK101, BK107, HB⟩ := hrel
    cases gk with
    | zero => exact absurd HA.out (by simp [impl_GroupsOf.l0])
    | succ k1 =>
     have H := HA.out
     clear HA
     simp only [impl_GroupsOf.l0] at H
     by_cases c15 : x24_1 < (t103.length : Int)
     ·
      rw [if_pos c15] at H
      have c15b0 : decide (x24_1 < (t103.length : Int)) = true := decide_eq_true c15
      clear c15
      by_cases c16 : 0 ≤ x24_1
      ·
       rw [if_pos c16] at H
       have c16b0 : decide (0 ≤ x24_1) = true := decide_eq_true c16
       clear c16
       by_cases c17 : x24_1 < (t103.length : Int)
       ·
        rw [if_pos c17] at H
        have c17b0 : decide (x24_1 < (t103.length : Int)) = true := decide_eq_true c17
        clear c17
        by_cases c18 : x24_1 < (l0_0.length : Int)
        ·
         rw [if_pos c18] at H
         have c18b0 : decide (x24_1 < (l0_0.length : Int)) = true := decide_eq_true c18
         clear c18
         by_cases c19 : (rd l0_0 x24_1) = 0
         ·
          rw [if_pos c19] at H
          have c19b0 : ((rd l0_0 x24_1) == 0) = true := beq_iff_eq.mpr c19
          have c19b1 : ((rd l0_0 x24_1) != 0) = false := bne_eq_false_iff_eq.mpr c19
          clear c19
          have H' := Aside0.mk H
          clear H
          have p108 : 0 ≤ (x24_1 : Int) := of_decide_eq_true (by first | (with_reducible assumption) | assumption)
          have q108 : x24_1 < (t103.length : Int) := of_decide_eq_true (by first | (with_reducible assumption) | assumption)
          obtain ⟨ad108, e108, hx108_0, hx108_1⟩ := at_T33 (Kd.R_reads' HO_22.out).2.2 x24_1 p108 q108
          cases e108
          replace p108 := eq_true p108
          replace q108 := eq_true q108
          go_wp2_with (first | ((with_reducible refine gate_dst (N := 9) rfl ?_); refine bxe (cs := #[.int .i64 0, .int .i64 0]) (t := 33) ?_; intro gb109 hg w20 hbox hb; have n0_ := aK (Kd.S_below (by (with_reducible repeat (first | apply Kd.S_alloc | apply Kd.S_drewN | apply Kd.S_drew)); exact HO_6.out) hb); have n1_ := aK (Kd.R_below (Kd.R_elderB (pR HO_22.out) gb109 (Nat.le_of_eq hg.symm)) hb); have BK109 := aK (hbox); have GW109 := aK (gE hg (pS HB.out)); have GE109 := GW109; obtain ⟨NB101_109, NB109_101⟩ := nb hg (pB BK101.out); obtain ⟨NB107_109, NB109_107⟩ := nb hg (pB BK107.out); replace BK101 := bB BK101 hb; replace BK107 := bB BK107 hb; replace HB := bS HB hb; clear HO_6 HO_22; have HO_6 := n0_; have HO_22 := n1_; clear n0_ n1_ hb hbox hg; have hnb21 := NB109_101.out; have hnc21 := NB101_109.out; have hnb22 := NB109_107.out; have hnc22 := NB107_109.out; obtain ⟨hcz23_0, hcz23_1, hfz23_0, hfz23_1⟩ := bc2 BK109.out; have hnb24 := NB101_107.out; have hnc24 := NB107_101.out; obtain ⟨hcz25_0, hcz25_1, hfz25_0, hfz25_1⟩ := bc2 BK101.out; have p110 : 0 ≤ (x24_1 : Int) := of_decide_eq_true (by first | (with_reducible assumption) | assumption); have q110 : x24_1 < (l0_0.length : Int) := of_decide_eq_true (by first | (with_reducible assumption) | assumption); obtain ⟨ad110, e110, hx110_0⟩ := Kd.at_int HR0_0.out x24_1 p110 q110; cases e110; have hn110_0 : ad110.block ≠ gb109 := Nat.ne_of_lt (Nat.lt_of_lt_of_le (by have := World.block_lt_of_cell? _ _ hx110_0; first | rwa [add_block] at this | exact this) GW109.out); have hn110_1 : ad110.block ≠ gb109 := Nat.ne_of_lt (Nat.lt_of_lt_of_le (by have := World.block_lt_of_cell? _ _ hx110_0; first | rwa [add_block] at this | exact this) GW109.out); replace hx110_0 := (HB.out.cell (World.block_lt_of_cell? w _ hx110_0)).trans hx110_0; replace hx110_0 := (cell_far (p := ⟨gb109, 0, none⟩) (by first | (rw [add_block]; exact hn110_0) | (show (Addr.add _ _).block ≠ _; rw [add_block]; exact hn110_0) | exact hn110_0) (.int .i64 ((rd_T33 t103 x24_1).f0))).trans hx110_0; replace hx110_0 := (cell_far (p := ⟨gb109, 1, none⟩) (by first | (rw [add_block]; exact hn110_1) | (show (Addr.add _ _).block ≠ _; rw [add_block]; exact hn110_1) | exact hn110_1) (.int .i64 ((rd_T33 t103 x24_1).f1))).trans hx110_0; clear hn110_0 hn110_1; replace p110 := eq_true p110; replace q110 := eq_true q110))
          go_roundg k1
          case measure => have := HK1.out; omega
          case rel => exact ⟨(x6_1), (wrap64 (x24_1 + 1)), (x108000_1), (x108001_1), (by first | rfl | (simp; done) | (simp [*]; done)), H', ⟨by have := HK1.out; omega⟩, ⟨by (with_reducible repeat (first | apply Kd.S_alloc | apply Kd.S_drewN | apply Kd.S_drew)); exact Kd.S_mono (Kd.S_far (p := ⟨gb109, 1, none⟩) (Kd.S_far (p := ⟨gb109, 0, none⟩) (Kd.S_types HO_6.out BK109.out (by decide)) (fun _ hk => hk.2) (.int .i64 ((rd_T33 t103 x24_1).f0))) (fun _ hk => hk.2) (.int .i64 ((rd_T33 t103 x24_1).f1))) (fun _ hk => trivial)⟩, ⟨pR (Kd.R_mono (Kd.R_far (p := ⟨gb109, 1, none⟩) (Kd.R_far (p := ⟨gb109, 0, none⟩) (Kd.R_mono HO_22.out (fun k_ hk => (⟨hk, hk.2⟩ : _ ∧ k_ ≠ gb109))) (fun _ hk => hk.2) (.int .i64 ((rd_T33 t103 x24_1).f0))) (fun _ hk => hk.2) (.int .i64 ((rd_T33 t103 x24_1).f1))) (fun _ hk => hk.1.1))⟩, ⟨by refine bk ?_; refine blk_far ?_ NB101_109.out _; refine bk ?_; refine blk_far ?_ NB101_109.out _; refine bk ?_; exact BK101.out⟩, ⟨by refine bk ?_; refine blk_far ?_ NB107_109.out _; refine bk ?_; refine blk_far ?_ NB107_109.out _; refine bk ?_; exact BK107.out⟩, ⟨pT HB.out⟩⟩
         rw [if_neg c19] at H
         have c19b0 : ((rd l0_0 x24_1) == 0) = false := beq_eq_false_iff_ne.mpr c19
         have c19b1 : ((rd l0_0 x24_1) != 0) = true := bne_iff_ne.mpr c19
         by_cases c26 : (x6_1.length : Int) > 0
         ·
          rw [if_pos c26] at H
          have c26b0 : decide (0 < (x6_1.length : Int)) = true := decide_eq_true c26
          have c26b1 : decide (0 < x6_1.length) = true := decide_eq_true (by omega)
          clear c26
          by_cases c27 : (((rd_T33 t103 x24_1).f0) == x108000_1 && (((rd_T33 t103 x24_1).f1) == x108001_1)) = true
          ·
           rw [if_pos c27] at H
           have c27b0 : (((rd_T33 t103 x24_1).f0) == x108000_1 && (((rd_T33 t103 x24_1).f1) == x108001_1)) = true := c27
           (try (have c27b1 : decide (((rd_T33 t103 x24_1).f0) = x108000_1 && (((rd_T33 t103 x24_1).f1) == x108001_1)) = true := by simpa using c27))
           (try (have c27b2 : (((rd_T33 t103 x24_1).f0) == x108000_1 && (((rd_T33 t103 x24_1).f1) == x108001_1)) = true := by simpa using c27))
           clear c27
           obtain ⟨ji28, hji28⟩ : ∃ j_ : Int, (wrap64 ((x6_1.length : Int) - 1)) = j_ := ⟨_, rfl⟩
           replace H : (if 0 ≤ (ji28) then (if (ji28) < (x6_1.length : Int) then (if (rd_L3 x6_1 (ji28)).length < 17592186044416 then (impl_GroupsOf.l0 k1 (x6_1.set ((ji28) : Int).toNat ((rd_L3 x6_1 (ji28)) ++ [x24_1])) t103 (t103.length : Int) (wrap64 (x24_1 + 1)) l0_0 l0_1 ((rd_T33 t103 x24_1).f0) ((rd_T33 t103 x24_1).f1)) else (none)) else (none)) else (none)) = some (r1, r2) := by first | (rw [hji28] at H; exact H) | (simp only [hji28] at H ⊢; exact H)
           have hji28w : (IntKind.i64.wrap ((x6_1.length : Int) - 1)) = ji28 := (i64_w _).trans hji28
           by_cases c29 : 0 ≤ (ji28)
           ·
            rw [if_pos c29] at H
            have c29b0 : decide (0 ≤ (ji28)) = true := decide_eq_true c29
            clear c29
            by_cases c30 : (ji28) < (x6_1.length : Int)
            ·
             rw [if_pos c30] at H
             have c30b0 : decide ((ji28) < (x6_1.length : Int)) = true := decide_eq_true c30
             clear c30
             by_cases c31 : (rd_L3 x6_1 (ji28)).length < 17592186044416
             ·
              rw [if_pos c31] at H
              have LMc31 := Aside0.mk c31
              clear c31
              obtain ⟨y112, hy112⟩ : ∃ y_ : List Int, y_ = ((rd_L3 x6_1 (ji28)) ++ [x24_1]) := ⟨_, rfl⟩
              replace H : (impl_GroupsOf.l0 k1 (x6_1.set ((ji28) : Int).toNat y112) t103 (t103.length : Int) (wrap64 (x24_1 + 1)) l0_0 l0_1 ((rd_T33 t103 x24_1).f0) ((rd_T33 t103 x24_1).f1)) = some (r1, r2) := by first | (rw [hy112]; with_reducible exact H) | (have H2_ := (Option.bind_some _ _).symm.trans H; rw [hy112]; with_reducible exact H2_) | (have H2_ := (Option.bind_some _ _).symm.trans H; with_reducible exact H2_) | with_reducible exact H | (rw [hy112]; exact H) | exact H
              have Ny112 := Aside0.mk hy112
              clear hy112
              obtain ⟨y115, hy115⟩ : ∃ y_ : List (List Int), y_ = (x6_1.set ((ji28) : Int).toNat y112) := ⟨_, rfl⟩
              replace H : (impl_GroupsOf.l0 k1 y115 t103 (t103.length : Int) (wrap64 (x24_1 + 1)) l0_0 l0_1 ((rd_T33 t103 x24_1).f0) ((rd_T33 t103 x24_1).f1)) = some (r1, r2) := by first | (rw [hy115]; with_reducible exact H) | (have H2_ := (Option.bind_some _ _).symm.trans H; rw [hy115]; with_reducible exact H2_) | (have H2_ := (Option.bind_some _ _).symm.trans H; with_reducible exact H2_) | with_reducible exact H | (rw [hy115]; exact H) | exact H
              have Ny115 := Aside0.mk hy115
              clear hy115
              have H' := Aside0.mk H
              clear H
              have p108 : 0 ≤ (x24_1 : Int) := of_decide_eq_true (by first | (with_reducible assumption) | assumption)
              have q108 : x24_1 < (t103.length : Int) := of_decide_eq_true (by first | (with_reducible assumption) | assumption)
              obtain ⟨ad108, e108, hx108_0, hx108_1⟩ := at_T33 (Kd.R_reads' HO_22.out).2.2 x24_1 p108 q108
              cases e108
              replace p108 := eq_true p108
              replace q108 := eq_true q108
              go_wp2_with (first | ((with_reducible refine gate_dst (N := 9) rfl ?_); refine bxe (cs := #[.int .i64 0, .int .i64 0]) (t := 33) ?_; intro gb109 hg w33 hbox hb; have n0_ := aK (Kd.S_below (by (with_reducible repeat (first | apply Kd.S_alloc | apply Kd.S_drewN | apply Kd.S_drew)); exact HO_6.out) hb); have n1_ := aK (Kd.R_below (Kd.R_elderB (pR HO_22.out) gb109 (Nat.le_of_eq hg.symm)) hb); have BK109 := aK (hbox); have GW109 := aK (gE hg (pS HB.out)); have GE109 := GW109; obtain ⟨NB101_109, NB109_101⟩ := nb hg (pB BK101.out); obtain ⟨NB107_109, NB109_107⟩ := nb hg (pB BK107.out); replace BK101 := bB BK101 hb; replace BK107 := bB BK107 hb; replace HB := bS HB hb; clear HO_6 HO_22; have HO_6 := n0_; have HO_22 := n1_; clear n0_ n1_ hb hbox hg; have hnb34 := NB109_101.out; have hnc34 := NB101_109.out; have hnb35 := NB109_107.out; have hnc35 := NB107_109.out; obtain ⟨hcz36_0, hcz36_1, hfz36_0, hfz36_1⟩ := bc2 BK109.out) | ((with_reducible refine gate_store (t := 33) (p := 9) rfl ?_); refine store_event (t := 33) (p := 9) (v := ?vo_w37) (w1 := ((w33.setCell ⟨gb109, 0, none⟩ (.int .i64 ((rd_T33 t103 x24_1).f0))).setCell ⟨gb109, 1, none⟩ (.int .i64 ((rd_T33 t103 x24_1).f1)))) ?hg ?ho ?hn ?hr ?_; (case ho => rfl); (case hg => rfl); (case hn => rfl); (case hr => first | (go_simp; done) | (go_simp; rfl)); intro w37 hw; have n0_ : Aside0 (Kd.S (Kd.slice 3 (Kd.int .i64)) 24 w37 w.heap.size (fun _ => True) u6 x6_1) := ⟨(by rw [hw]; exact (by (with_reducible repeat (first | apply Kd.S_alloc | apply Kd.S_drewN | apply Kd.S_drew)); exact Kd.S_mono (Kd.S_far (p := ⟨gb109, 1, none⟩) (Kd.S_far (p := ⟨gb109, 0, none⟩) (Kd.S_types HO_6.out BK109.out (by decide)) (fun _ hk => hk.2) (.int .i64 ((rd_T33 t103 x24_1).f0))) (fun _ hk => hk.2) (.int .i64 ((rd_T33 t103 x24_1).f1))) (fun _ hk => trivial)))⟩; have n1_ : Aside0 (Kd.R k33 33 w37 w.heap.size (fun k_ => k_ ≠ gb107 ∧ k_ ≠ gb109) (.slice (some ad108) t103.length co14) t103) := ⟨(by rw [hw]; exact (pR (Kd.R_mono (Kd.R_far (p := ⟨gb109, 1, none⟩) (Kd.R_far (p := ⟨gb109, 0, none⟩) (Kd.R_mono HO_22.out (fun k_ hk => (⟨hk, hk.2⟩ : _ ∧ k_ ≠ gb109))) (fun _ hk => hk.2) (.int .i64 ((rd_T33 t103 x24_1).f0))) (fun _ hk => hk.2) (.int .i64 ((rd_T33 t103 x24_1).f1))) (fun _ hk => ⟨hk.1.1, hk.1.2⟩))))⟩; have n2_ : Aside0 (w37.heap[gb101]? = some (.cells #[.slice A0_0 l0_0.length c0_0, .slice A0_1 l0_1.length c0_1] 26 (0, 0))) := ⟨(by rw [hw]; exact (by refine bk ?_; refine blk_far ?_ NB101_109.out _; refine bk ?_; refine blk_far ?_ NB101_109.out _; refine bk ?_; exact BK101.out))⟩; have n3_ : Aside0 (w37.heap[gb107]? = some (.cells #[.int .i64 x108000_1, .int .i64 x108001_1] 33 (0, 0))) := ⟨(by rw [hw]; exact (by refine bk ?_; refine blk_far ?_ NB107_109.out _; refine bk ?_; refine blk_far ?_ NB107_109.out _; refine bk ?_; exact BK107.out))⟩; have n4_ : Aside0 (w37.heap[gb109]? = some (.cells #[.int .i64 ((rd_T33 t103 x24_1).f0), .int .i64 ((rd_T33 t103 x24_1).f1)] 33 (0, 0))) := ⟨(by rw [hw]; exact (by refine bk ?_; refine blk_put (cs := #[.int .i64 ((rd_T33 t103 x24_1).f0), .int .i64 0]) ?_ 1 _ rfl; refine bk ?_; refine blk_put (cs := #[.int .i64 0, .int .i64 0]) ?_ 0 _ rfl; refine bk ?_; exact BK109.out))⟩; have n5_ : Aside0 (Below w.heap.size w w37) := ⟨(by rw [hw]; exact (pS HB.out))⟩; clear hw HO_6 HO_22 BK101 BK107 BK109 HB; have HO_6 := n0_; have HO_22 := n1_; have BK101 := n2_; have BK107 := n3_; have BK109 := n4_; have HB := n5_; clear n0_ n1_ n2_ n3_ n4_ n5_; have hnb38 := NB101_107.out; have hnc38 := NB107_101.out; obtain ⟨hcz39_0, hcz39_1, hfz39_0, hfz39_1⟩ := bc2 BK101.out; have p110 : 0 ≤ (x24_1 : Int) := of_decide_eq_true (by first | (with_reducible assumption) | assumption); have q110 : x24_1 < (l0_0.length : Int) := of_decide_eq_true (by first | (with_reducible assumption) | assumption); obtain ⟨ad110, e110, hx110_0⟩ := Kd.at_int HR0_0.out x24_1 p110 q110; cases e110; replace hx110_0 := (HB.out.cell (World.block_lt_of_cell? w _ hx110_0)).trans hx110_0; replace p110 := eq_true p110; replace q110 := eq_true q110; obtain ⟨Ao40, co40, eo40⟩ := Kd.S_slice HO_6.out; subst eo40; obtain ⟨hcz41_0, hcz41_1, hfz41_0, hfz41_1⟩ := bc2 BK109.out; obtain ⟨hcz42_0, hcz42_1, hfz42_0, hfz42_1⟩ := bc2 BK107.out; have p111 : 0 ≤ ((ji28) : Int) := of_decide_eq_true (by first | (with_reducible assumption) | assumption); have q111 : (ji28) < (x6_1.length : Int) := of_decide_eq_true (by first | (with_reducible assumption) | assumption); obtain ⟨ad111, A111_0, c111_0, e111, hx111_0, hl111_0, hi111_0⟩ := at_L3 (Kd.S_reads' HO_6.out).2.2 (ji28) p111 q111; cases e111; obtain ⟨ce111, hce111, hMe111, hcc111⟩ := Kd.S_get HO_6.out [] (ji28) p111 (by first | exact q111 | exact of_decide_eq_true (by first | (with_reducible assumption) | assumption) | (have e_ := (Kd.S_reads' HO_6.out).1; omega)); obtain ⟨ve111_0, rfl, ge111_0⟩ := hMe111; have hv111_0 := hcc111 0 _ rfl; rw [Nat.add_zero, show ((Kd.slice 3 (Kd.int .i64))).sz = 1 from rfl, Nat.mul_one] at hv111_0; replace hv111_0 := Option.some.inj (hv111_0.symm.trans hx111_0); rw [hv111_0] at ge111_0; have HL111_0 := aK (show Kd.R (Kd.int .i64) 3 _ _ _ _ (rd_L3 x6_1 (ji28)) from ge111_0); clear hv111_0 ge111_0; have HX111_0 := Aside0.mk hx111_0; clear hcc111 hce111; have HR111_0 := Aside0.mk hi111_0; have HC111_0 := Aside0.mk hl111_0; clear hi111_0 hl111_0; replace p111 := eq_true p111; replace q111 := eq_true q111; obtain ⟨go43, co43, eo43, gb43, gl43, cl43, HG43⟩ := Kd.S_form HO_6.out (by have h_ : ((ji28) : Int) < ((x6_1.length : Int) : Int) := of_decide_eq_true (by first | (with_reducible assumption) | assumption); have h2_ : 0 ≤ ((ji28) : Int) := (of_decide_eq_true (by first | (with_reducible assumption) | assumption)); omega); (first | cases eo43 | (injection eo43 with ea_ en_ ec_; (first | subst ea_ | (injection ea_ with ea_; subst ea_)); subst ec_; clear en_)); have GB43 := Aside0.mk gb43; have GG43 := Aside0.mk HG43; clear gb43 gl43 HG43; (first | simp only [add_plain] at hx111_0 | skip); obtain ⟨oki43, ce43, hcl43, hM43, hcc43, _, _, hH43⟩ := Kd.S_elem HO_6.out [] ((ji28) : Int) (of_decide_eq_true (by first | (with_reducible assumption) | assumption)) (by have h_ : ((ji28) : Int) < ((x6_1.length : Int) : Int) := of_decide_eq_true (by first | (with_reducible assumption) | assumption); first | exact h_ | (have e_ := (Kd.S_reads' HO_6.out).1; omega) | simpa using h_); obtain ⟨ve43_0, rfl, ge43_0⟩ := hM43; have hv43 := hcc43 0 _ rfl; have hX43 := HX111_0.out; (try simp only [add_plain] at hX43); (try simp only [Nat.add_zero] at hv43); (try rw [show ((Kd.slice 3 (Kd.int .i64))).sz = 1 from rfl, Nat.mul_one] at hv43); replace hv43 := Option.some.inj (hv43.symm.trans hX43); subst hv43; clear hX43 hcc43 hcl43; have UU43 := aK (show Kd.R (Kd.int .i64) 3 _ w.heap.size oki43 (.slice A111_0 (rd_L3 x6_1 (ji28)).length c111_0) (rd_L3 x6_1 (ji28)) from ge43_0); have HH43 := Aside0.mk hH43; have HN43 := aK (Kd.S_reads' HO_6.out).1; clear hH43 ge43_0) | ((with_reducible refine gate_builtin (b := .append) (xs := #[.tmp 51, .tmp 53]) rfl ?_); at_builtin; refine Kd.R_append (Kd.int .i64) (w0 := w) w.heap.size rfl (.tmp 51) (.tmp 53) 24 3 (.int .i64 0) 8 rfl Try.underlying24 info3 rfl (by decide) (by omega) (.slice A111_0 (rd_L3 x6_1 (ji28)).length c111_0) (rd_L3 x6_1 (ji28)) x24_1 [.int .i64 x24_1] (fun k_ => oki43 k_ ∨ ((fun _ => True)) k_ ∧ w37.heap.size ≤ k_) (fun _ => False) rfl rfl ?aP (fun _ hk => hk.elim) ?aF ?aO ?aB ?aS ?aL ?_; (case aP => exact rfl); (case aB => exact (pS HB.out)); (case aF => exact (fun k_ hk => .inr ⟨trivial, hk⟩)); (case aO => exact (pR (Kd.R_mono UU43.out (fun _ hk => .inl hk)))); (case aS => exact (below_size (pS HB.out))); (case aL => have := LMc31.out; omega); intro v113 w44 ho hb hg hat; rw [← Ny112.out] at ho; have n0_ := aK (Kd.R_over' (v := (.slice A111_0 (rd_L3 x6_1 (ji28)).length c111_0)) (pR HO_22.out) (Kd.R_typed HL111_0.out) (by decide) hg); have n1_ := aK (blk_grown (pB BK101.out) hg (Kd.R_ne HL111_0.out BK101.out (by decide))); have n2_ := aK (blk_grown (pB BK107.out) hg (Kd.R_ne HL111_0.out BK107.out (by decide))); have n3_ := aK (blk_grown (pB BK109.out) hg (Kd.R_ne HL111_0.out BK109.out (by decide))); have n4_ := aK (hb); have n5_ := aK (Kd.H_grown (Kd.H_widen (by repeat (first | exact HH43.out | refine Kd.H_alloc ?_ _ | refine Kd.H_drewN ?_ _ | refine Kd.H_drew ?_))) hg (fun k_ e_ => .inl (UU43.out.1 k_ e_))); have HO114 := aK (ho); clear HO_22 BK101 BK107 BK109 HB HH43 HO_6 UU43 HL111_0; have HO_22 := n0_; have BK101 := n1_; have BK107 := n2_; have BK109 := n3_; have HB := n4_; have HH43 := n5_; clear n0_ n1_ n2_ n3_ n4_ n5_ ho hb hg hat; have p32 : 0 ≤ ((ji28) : Int) := of_decide_eq_true (by first | (with_reducible assumption) | assumption); have q32 : ((ji28) : Int) < ((x6_1.length : Int) : Int) := of_decide_eq_true (by first | (with_reducible assumption) | assumption); replace p32 := eq_true p32; replace q32 := eq_true q32; obtain ⟨Ao47, co47, eo47⟩ := Kd.R_slice HO114.out; subst eo47; obtain ⟨_, _, hraw45, _, _, hcc45, _⟩ := Kd.H_raw HH43.out (of_decide_eq_true (by first | (with_reducible assumption) | assumption)) (by have h_ : ((ji28) : Int) < ((x6_1.length : Int) : Int) := of_decide_eq_true (by first | (with_reducible assumption) | assumption); first | exact h_ | (have e_ := (HN43.out); omega) | simpa using h_); obtain ⟨_, hfr45⟩ := Kd.H_at HH43.out (of_decide_eq_true (by first | (with_reducible assumption) | assumption)) (by have h_ : ((ji28) : Int) < ((x6_1.length : Int) : Int) := of_decide_eq_true (by first | (with_reducible assumption) | assumption); first | exact h_ | (have e_ := (HN43.out); omega) | simpa using h_); have hx45_0 := hcc45 0 _ rfl; have hf45_0 := hfr45 0; (try simp only [Nat.add_zero] at hx45_0 hf45_0); (try rw [show ((Kd.slice 3 (Kd.int .i64))).sz = 1 from rfl, Nat.mul_one] at hx45_0); (try rw [show ((Kd.slice 3 (Kd.int .i64))).sz = 1 from rfl, Nat.mul_one] at hf45_0); have HP45 := Kd.S_seg0 HH43.out (of_decide_eq_true (by first | (with_reducible assumption) | assumption)) (by have h_ : ((ji28) : Int) < ((x6_1.length : Int) : Int) := of_decide_eq_true (by first | (with_reducible assumption) | assumption); first | exact h_ | (have e_ := (HN43.out); omega) | simpa using h_) (seg := [.slice Ao47 y112.length co47]) (j := 0) (show 1 ≤ 1 from by decide) (x' := y112) (Kd.M_row HO114.out) (fun _ hk => hk); (try simp only [show ((Kd.slice 3 (Kd.int .i64))).sz = 1 from rfl, Nat.mul_one, Nat.add_zero] at HP45); clear hcc45 hfr45) | ((with_reducible refine gate_store (t := 24) (p := 55) rfl ?_); refine store_event (t := 24) (p := 55) (v := ?vo_w46) (w1 := (w44.setCell ⟨go43, ((ji28) : Int).toNat, none⟩ (.slice Ao47 y112.length co47))) ?hg ?ho ?hn ?hr ?_; (case ho => rfl); (case hg => rfl); (case hn => rfl); (case hr => first | (go_simp; done) | (go_simp; rfl)); intro w46 hw; have hg : w44.grownBy w46 (some go43) := (by rw [hw]; exact HP45.2); have hp_ : Kd.S (Kd.slice 3 (Kd.int .i64)) 24 w46 w.heap.size (fun _ => True) (.slice (some ⟨go43, 0, none⟩) x6_1.length co40) y115 := (by rw [hw, Ny115.out]; exact HP45.1); clear HP45; have n0_ := aK (Kd.R_over' (v := (.slice (some ⟨go43, 0, none⟩) x6_1.length co40)) (pR HO_22.out) (Kd.R_typed hraw45) (by decide) hg); have n1_ := aK (blk_grown (pB BK101.out) hg (Kd.R_ne hraw45 BK101.out (by decide))); have n2_ := aK (blk_grown (pB BK107.out) hg (Kd.R_ne hraw45 BK107.out (by decide))); have n3_ := aK (blk_grown (pB BK109.out) hg (Kd.R_ne hraw45 BK109.out (by decide))); have n4_ := aK ((by rw [hw]; exact below_set HB.out GB43.out : Below w.heap.size w w46)); have HO_6 := aK (hp_); clear HO_22 BK101 BK107 BK109 HB HO114 HH43; have HO_22 := n0_; have BK101 := n1_; have BK107 := n2_; have BK109 := n3_; have HB := n4_; clear n0_ n1_ n2_ n3_ n4_ hg hw hp_ hraw45; obtain ⟨hcz48_0, hcz48_1, hfz48_0, hfz48_1⟩ := bc2 BK109.out; obtain ⟨hcz49_0, hcz49_1, hfz49_0, hfz49_1⟩ := bc2 BK107.out))
              go_roundg k1
              case measure => have := HK1.out; omega
              case rel => exact ⟨(y115), (wrap64 (x24_1 + 1)), ((rd_T33 t103 x24_1).f0), ((rd_T33 t103 x24_1).f1), (by first | rfl | (simp; done) | (simp [*]; done)), H', ⟨by have := HK1.out; omega⟩, ⟨by (with_reducible repeat (first | apply Kd.S_alloc | apply Kd.S_drewN | apply Kd.S_drew)); exact Kd.S_mono (Kd.S_far (p := ⟨gb107, 1, none⟩) (Kd.S_far (p := ⟨gb107, 0, none⟩) (Kd.S_types HO_6.out BK107.out (by decide)) (fun _ hk => hk.2) (.int .i64 ((rd_T33 t103 x24_1).f0))) (fun _ hk => hk.2) (.int .i64 ((rd_T33 t103 x24_1).f1))) (fun _ hk => trivial)⟩, ⟨pR (Kd.R_mono (Kd.R_far (p := ⟨gb107, 1, none⟩) (Kd.R_far (p := ⟨gb107, 0, none⟩) (Kd.R_mono HO_22.out (fun k_ hk => (⟨hk, hk.1⟩ : _ ∧ k_ ≠ gb107))) (fun _ hk => hk.2) (.int .i64 ((rd_T33 t103 x24_1).f0))) (fun _ hk => hk.2) (.int .i64 ((rd_T33 t103 x24_1).f1))) (fun _ hk => hk.1.1))⟩, ⟨by refine bk ?_; refine blk_far ?_ NB101_107.out _; refine bk ?_; refine blk_far ?_ NB101_107.out _; refine bk ?_; exact BK101.out⟩, ⟨by refine bk ?_; refine blk_put (cs := #[.int .i64 ((rd_T33 t103 x24_1).f0), .int .i64 x108001_1]) ?_ 1 _ rfl; refine bk ?_; refine blk_put (cs := #[.int .i64 x108000_1, .int .i64 x108001_1]) ?_ 0 _ rfl; refine bk ?_; exact BK107.out⟩, ⟨pT HB.out⟩⟩
             rw [if_neg c31] at H
             exact absurd H (by simp)
            rw [if_neg c30] at H
            exact absurd H (by simp)
           rw [if_neg c29] at H
           exact absurd H (by simp)
          rw [if_neg c27] at H
          have c27b0 : (((rd_T33 t103 x24_1).f0) == x108000_1 && (((rd_T33 t103 x24_1).f1) == x108001_1)) = false := by simpa using c27
          (try (have c27b1 : decide (((rd_T33 t103 x24_1).f0) = x108000_1 && (((rd_T33 t103 x24_1).f1) == x108001_1)) = false := by simpa using c27))
          (try (have c27b2 : (((rd_T33 t103 x24_1).f0) == x108000_1 && (((rd_T33 t103 x24_1).f1) == x108001_1)) = false := by simpa using c27))
          (try (have c27b3 : ¬ (((rd_T33 t103 x24_1).f0) = x108000_1 && (((rd_T33 t103 x24_1).f1) == x108001_1)) := by simpa using c27))
          clear c27
          obtain ⟨y116, hy116⟩ : ∃ y_ : List Int, y_ = (([x24_1] : List Int)) := ⟨_, rfl⟩
          replace H : (if x6_1.length < 5864062014805 then (impl_GroupsOf.l0 k1 (x6_1 ++ [y116]) t103 (t103.length : Int) (wrap64 (x24_1 + 1)) l0_0 l0_1 ((rd_T33 t103 x24_1).f0) ((rd_T33 t103 x24_1).f1)) else (none)) = some (r1, r2) := by first | (rw [hy116]; with_reducible exact H) | (have H2_ := (Option.bind_some _ _).symm.trans H; rw [hy116]; with_reducible exact H2_) | (have H2_ := (Option.bind_some _ _).symm.trans H; with_reducible exact H2_) | with_reducible exact H | (rw [hy116]; exact H) | exact H
          have Ny116 := Aside0.mk hy116
          clear hy116
          by_cases c50 : x6_1.length < 5864062014805
          ·
           rw [if_pos c50] at H
           have LMc50 := Aside0.mk c50
           clear c50
           obtain ⟨y119, hy119⟩ : ∃ y_ : List (List Int), y_ = (x6_1 ++ [y116]) := ⟨_, rfl⟩
           replace H : (impl_GroupsOf.l0 k1 y119 t103 (t103.length : Int) (wrap64 (x24_1 + 1)) l0_0 l0_1 ((rd_T33 t103 x24_1).f0) ((rd_T33 t103 x24_1).f1)) = some (r1, r2) := by first | (rw [hy119]; with_reducible exact H) | (have H2_ := (Option.bind_some _ _).symm.trans H; rw [hy119]; with_reducible exact H2_) | (have H2_ := (Option.bind_some _ _).symm.trans H; with_reducible exact H2_) | with_reducible exact H | (rw [hy119]; exact H) | exact H
           have Ny119 := Aside0.mk hy119
           clear hy119
           have H' := Aside0.mk H
           clear H
           have p108 : 0 ≤ (x24_1 : Int) := of_decide_eq_true (by first | (with_reducible assumption) | assumption)
           have q108 : x24_1 < (t103.length : Int) := of_decide_eq_true (by first | (with_reducible assumption) | assumption)
           obtain ⟨ad108, e108, hx108_0, hx108_1⟩ := at_T33 (Kd.R_reads' HO_22.out).2.2 x24_1 p108 q108
           cases e108
           replace p108 := eq_true p108
           replace q108 := eq_true q108
           go_wp2_with (first | ((with_reducible refine gate_dst (N := 9) rfl ?_); refine bxe (cs := #[.int .i64 0, .int .i64 0]) (t := 33) ?_; intro gb109 hg w51 hbox hb; have n0_ := aK (Kd.S_below (by (with_reducible repeat (first | apply Kd.S_alloc | apply Kd.S_drewN | apply Kd.S_drew)); exact HO_6.out) hb); have n1_ := aK (Kd.R_below (Kd.R_elderB (pR HO_22.out) gb109 (Nat.le_of_eq hg.symm)) hb); have BK109 := aK (hbox); have GW109 := aK (gE hg (pS HB.out)); have GE109 := GW109; obtain ⟨NB101_109, NB109_101⟩ := nb hg (pB BK101.out); obtain ⟨NB107_109, NB109_107⟩ := nb hg (pB BK107.out); replace BK101 := bB BK101 hb; replace BK107 := bB BK107 hb; replace HB := bS HB hb; clear HO_6 HO_22; have HO_6 := n0_; have HO_22 := n1_; clear n0_ n1_ hb hbox hg; have hnb52 := NB109_101.out; have hnc52 := NB101_109.out; have hnb53 := NB109_107.out; have hnc53 := NB107_109.out; obtain ⟨hcz54_0, hcz54_1, hfz54_0, hfz54_1⟩ := bc2 BK109.out; have hnb55 := NB101_107.out; have hnc55 := NB107_101.out; obtain ⟨hcz56_0, hcz56_1, hfz56_0, hfz56_1⟩ := bc2 BK101.out; have p110 : 0 ≤ (x24_1 : Int) := of_decide_eq_true (by first | (with_reducible assumption) | assumption); have q110 : x24_1 < (l0_0.length : Int) := of_decide_eq_true (by first | (with_reducible assumption) | assumption); obtain ⟨ad110, e110, hx110_0⟩ := Kd.at_int HR0_0.out x24_1 p110 q110; cases e110; have hn110_0 : ad110.block ≠ gb109 := Nat.ne_of_lt (Nat.lt_of_lt_of_le (by have := World.block_lt_of_cell? _ _ hx110_0; first | rwa [add_block] at this | exact this) GW109.out); have hn110_1 : ad110.block ≠ gb109 := Nat.ne_of_lt (Nat.lt_of_lt_of_le (by have := World.block_lt_of_cell? _ _ hx110_0; first | rwa [add_block] at this | exact this) GW109.out); replace hx110_0 := (HB.out.cell (World.block_lt_of_cell? w _ hx110_0)).trans hx110_0; replace hx110_0 := (cell_far (p := ⟨gb109, 0, none⟩) (by first | (rw [add_block]; exact hn110_0) | (show (Addr.add _ _).block ≠ _; rw [add_block]; exact hn110_0) | exact hn110_0) (.int .i64 ((rd_T33 t103 x24_1).f0))).trans hx110_0; replace hx110_0 := (cell_far (p := ⟨gb109, 1, none⟩) (by first | (rw [add_block]; exact hn110_1) | (show (Addr.add _ _).block ≠ _; rw [add_block]; exact hn110_1) | exact hn110_1) (.int .i64 ((rd_T33 t103 x24_1).f1))).trans hx110_0; clear hn110_0 hn110_1; replace p110 := eq_true p110; replace q110 := eq_true q110; obtain ⟨Ao57, co57, eo57⟩ := Kd.S_slice HO_6.out; subst eo57; obtain ⟨hcz58_0, hcz58_1, hfz58_0, hfz58_1⟩ := bc2 BK107.out) | ((with_reducible refine gate_dst (N := 58) rfl ?_); refine Kd.R_lit (Kd.int .i64) _ 3 ?hg (N := 58) ?hd (xs := ([x24_1] : List Int)) (inner := [.int .i64 x24_1]) (ok := fun _ => True) (okp := fun _ => True) ?hr ?hp (fun _ hk => hk) trivial (Below.refl _ _) (Nat.le_refl _) (by simp) ?_; (case hd => rfl); (case hg => rfl); (case hr => first | (go_simp; done) | (go_simp; rfl)); (case hp => exact (Reps.one (show Kd.M (Kd.int .i64) _ _ _ x24_1 [.int .i64 x24_1] from rfl) (Reps.none _ _))); intro v117 w59 ho60 hb hg_ hnew_; clear hg_ hnew_; (first | rw [← Ny116.out] at ho60 | (simp only [Int.reduceToNat] at ho60; rw [← Ny116.out] at ho60)); have n0_ := aK (Kd.S_elder' (by (with_reducible repeat (first | apply Kd.S_alloc | apply Kd.S_drewN | apply Kd.S_drew)); exact (Kd.S_mono (Kd.S_far (p := ⟨gb109, 1, none⟩) (Kd.S_far (p := ⟨gb109, 0, none⟩) (Kd.S_types HO_6.out BK109.out (by decide)) (fun _ hk => hk.2) (.int .i64 ((rd_T33 t103 x24_1).f0))) (fun _ hk => hk.2) (.int .i64 ((rd_T33 t103 x24_1).f1))) (fun _ h_ => h_.1))) (Kd.R_base ho60) hb); have n1_ := aK (Kd.R_below (pR ((Kd.R_mono (Kd.R_far (p := ⟨gb109, 1, none⟩) (Kd.R_far (p := ⟨gb109, 0, none⟩) (Kd.R_mono HO_22.out (fun k_ hk => (⟨hk, hk.2⟩ : _ ∧ k_ ≠ gb109))) (fun _ hk => hk.2) (.int .i64 ((rd_T33 t103 x24_1).f0))) (fun _ hk => hk.2) (.int .i64 ((rd_T33 t103 x24_1).f1))) (fun _ h_ => h_.1)))) hb); have HO118 := aK (Kd.R_lower ho60 (below_size (pS HB.out))); have n3_ := aK (blk_below (g := gb101) (o := .cells #[.slice (some ad110) l0_0.length c0_0, .slice A0_1 l0_1.length c0_1] 26 (0, 0)) (by refine bk ?_; refine blk_far ?_ NB101_109.out _; refine bk ?_; refine blk_far ?_ NB101_109.out _; refine bk ?_; exact BK101.out) hb); have n4_ := aK (blk_below (g := gb107) (o := .cells #[.int .i64 x108000_1, .int .i64 x108001_1] 33 (0, 0)) (by refine bk ?_; refine blk_far ?_ NB107_109.out _; refine bk ?_; refine blk_far ?_ NB107_109.out _; refine bk ?_; exact BK107.out) hb); have n5_ := aK (blk_below (g := gb109) (o := .cells #[.int .i64 ((rd_T33 t103 x24_1).f0), .int .i64 ((rd_T33 t103 x24_1).f1)] 33 (0, 0)) (by refine bk ?_; refine blk_put (cs := #[.int .i64 ((rd_T33 t103 x24_1).f0), .int .i64 0]) ?_ 1 _ rfl; refine bk ?_; refine blk_put (cs := #[.int .i64 0, .int .i64 0]) ?_ 0 _ rfl; refine bk ?_; exact BK109.out) hb); replace HB := bS HB hb; clear HO_6 HO_22 BK101 BK107 BK109; have HO_6 := n0_; have HO_22 := n1_; have BK101 := n3_; have BK107 := n4_; have BK109 := n5_; clear n0_ n1_ n3_ n4_ n5_ hb ho60; obtain ⟨Ao62, co62, eo62⟩ := Kd.R_slice HO118.out; subst eo62) | ((with_reducible refine gate_builtin (b := .append) (xs := #[.tmp 56, .tmp 59]) rfl ?_); at_builtin; refine Kd.S_append (Kd.slice 3 (Kd.int .i64)) (w0 := w) w.heap.size rfl (.tmp 56) (.tmp 59) 51 24 (.slice none 0 0) 24 rfl Try.underlying51 info24 rfl (by decide) (by omega) (.slice Ao57 x6_1.length co57) x6_1 y116 [.slice Ao62 y116.length co62] (fun _ => True) (fun k_ => some k_ = (.slice Ao62 y116.length co62 : Value).ownBlock) rfl rfl ?aP (fun k_ hk_ => ((Kd.R_mono (ok' := fun k_ => ((fun _ => True)) k_ ∧ some k_ ≠ (.slice Ao57 x6_1.length co57 : Value).ownBlock) (Kd.R_apart' (HO118.out) (Kd.S_typed HO_6.out) (by decide)) (fun k_ hk => ⟨trivial, hk.2⟩))).1 k_ hk_.symm) ?aF ?aO ?aB ?aS ?aL ?_; (case aP => exact Kd.M_row (Kd.R_mono (Kd.R_tight rfl (Kd.R_mono (ok' := fun k_ => ((fun _ => True)) k_ ∧ some k_ ≠ (.slice Ao57 x6_1.length co57 : Value).ownBlock) (Kd.R_apart' (HO118.out) (Kd.S_typed HO_6.out) (by decide)) (fun k_ hk => ⟨trivial, hk.2⟩))) (fun _ h_ => h_))); (case aB => exact (pS HB.out)); (case aF => exact (fun _ _ => trivial)); (case aO => exact (by (with_reducible repeat (first | apply Kd.S_alloc | apply Kd.S_drewN | apply Kd.S_drew)); exact Kd.S_mono HO_6.out (fun k_ hk => ⟨trivial, fun e_ => hk.2 e_⟩))); (case aS => exact (below_size (pS HB.out))); (case aL => have := LMc50.out; omega); intro v120 w61 ho hb hg hat; rw [← Ny119.out] at ho; have n0_ := aK (Kd.R_over' (pR HO_22.out) (Kd.S_typed (by (with_reducible repeat (first | apply Kd.S_alloc | apply Kd.S_drewN | apply Kd.S_drew)); exact HO_6.out)) (by decide) hg); have n1_ := aK (blk_grown (pB BK101.out) hg (Kd.S_ne HO_6.out BK101.out (by decide))); have n2_ := aK (blk_grown (pB BK107.out) hg (Kd.S_ne HO_6.out BK107.out (by decide))); have n3_ := aK (blk_grown (pB BK109.out) hg (Kd.S_ne HO_6.out BK109.out (by decide))); have n4_ := aK (hb); have HO121 := aK (ho); clear HO_22 BK101 BK107 BK109 HB HO_6 HO118; have HO_22 := n0_; have BK101 := n1_; have BK107 := n2_; have BK109 := n3_; have HB := n4_; clear n0_ n1_ n2_ n3_ n4_ ho hb hg hat; obtain ⟨hcz63_0, hcz63_1, hfz63_0, hfz63_1⟩ := bc2 BK109.out; obtain ⟨hcz64_0, hcz64_1, hfz64_0, hfz64_1⟩ := bc2 BK107.out))
           go_roundg k1
           case measure => have := HK1.out; omega
           case rel => exact ⟨(y119), (wrap64 (x24_1 + 1)), ((rd_T33 t103 x24_1).f0), ((rd_T33 t103 x24_1).f1), (by first | rfl | (simp; done) | (simp [*]; done)), H', ⟨by have := HK1.out; omega⟩, ⟨by (with_reducible repeat (first | apply Kd.S_alloc | apply Kd.S_drewN | apply Kd.S_drew)); exact Kd.S_mono (Kd.S_far (p := ⟨gb107, 1, none⟩) (Kd.S_far (p := ⟨gb107, 0, none⟩) (Kd.S_types HO121.out BK107.out (by decide)) (fun _ hk => hk.2) (.int .i64 ((rd_T33 t103 x24_1).f0))) (fun _ hk => hk.2) (.int .i64 ((rd_T33 t103 x24_1).f1))) (fun _ hk => trivial)⟩, ⟨pR (Kd.R_mono (Kd.R_far (p := ⟨gb107, 1, none⟩) (Kd.R_far (p := ⟨gb107, 0, none⟩) (Kd.R_mono HO_22.out (fun k_ hk => (⟨hk, hk.1⟩ : _ ∧ k_ ≠ gb107))) (fun _ hk => hk.2) (.int .i64 ((rd_T33 t103 x24_1).f0))) (fun _ hk => hk.2) (.int .i64 ((rd_T33 t103 x24_1).f1))) (fun _ hk => hk.1.1))⟩, ⟨by refine bk ?_; refine blk_far ?_ NB101_107.out _; refine bk ?_; refine blk_far ?_ NB101_107.out _; refine bk ?_; exact BK101.out⟩, ⟨by refine bk ?_; refine blk_put (cs := #[.int .i64 ((rd_T33 t103 x24_1).f0), .int .i64 x108001_1]) ?_ 1 _ rfl; refine bk ?_; refine blk_put (cs := #[.int .i64 x108000_1, .int .i64 x108001_1]) ?_ 0 _ rfl; refine bk ?_; exact BK107.out⟩, ⟨pT HB.out⟩⟩
          rw [if_neg c50] at H
          exact absurd H (by simp)
         rw [if_neg c26] at H
         have c26b0 : decide (0 < (x6_1.length : Int)) = false := decide_eq_false c26
         have c26b1 : decide (0 < x6_1.length) = false := decide_eq_false (by omega)
         clear c26
         obtain ⟨y122, hy122⟩ : ∃ y_ : List Int, y_ = (([x24_1] : List Int)) := ⟨_, rfl⟩
         replace H : (if x6_1.length < 5864062014805 then (impl_GroupsOf.l0 k1 (x6_1 ++ [y122]) t103 (t103.length : Int) (wrap64 (x24_1 + 1)) l0_0 l0_1 ((rd_T33 t103 x24_1).f0) ((rd_T33 t103 x24_1).f1)) else (none)) = some (r1, r2) := by first | (rw [hy122]; with_reducible exact H) | (have H2_ := (Option.bind_some _ _).symm.trans H; rw [hy122]; with_reducible exact H2_) | (have H2_ := (Option.bind_some _ _).symm.trans H; with_reducible exact H2_) | with_reducible exact H | (rw [hy122]; exact H) | exact H
         have Ny122 := Aside0.mk hy122
         clear hy122
         by_cases c65 : x6_1.length < 5864062014805
         ·
          rw [if_pos c65] at H
          have LMc65 := Aside0.mk c65
          clear c65
          obtain ⟨y125, hy125⟩ : ∃ y_ : List (List Int), y_ = (x6_1 ++ [y122]) := ⟨_, rfl⟩
          replace H : (impl_GroupsOf.l0 k1 y125 t103 (t103.length : Int) (wrap64 (x24_1 + 1)) l0_0 l0_1 ((rd_T33 t103 x24_1).f0) ((rd_T33 t103 x24_1).f1)) = some (r1, r2) := by first | (rw [hy125]; with_reducible exact H) | (have H2_ := (Option.bind_some _ _).symm.trans H; rw [hy125]; with_reducible exact H2_) | (have H2_ := (Option.bind_some _ _).symm.trans H; with_reducible exact H2_) | with_reducible exact H | (rw [hy125]; exact H) | exact H
          have Ny125 := Aside0.mk hy125
          clear hy125
          have H' := Aside0.mk H
          clear H
          have p108 : 0 ≤ (x24_1 : Int) := of_decide_eq_true (by first | (with_reducible assumption) | assumption)
          have q108 : x24_1 < (t103.length : Int) := of_decide_eq_true (by first | (with_reducible assumption) | assumption)
          obtain ⟨ad108, e108, hx108_0, hx108_1⟩ := at_T33 (Kd.R_reads' HO_22.out).2.2 x24_1 p108 q108
          cases e108
          replace p108 := eq_true p108
          replace q108 := eq_true q108
          go_wp2_with (first | ((with_reducible refine gate_dst (N := 9) rfl ?_); refine bxe (cs := #[.int .i64 0, .int .i64 0]) (t := 33) ?_; intro gb109 hg w66 hbox hb; have n0_ := aK (Kd.S_below (by (with_reducible repeat (first | apply Kd.S_alloc | apply Kd.S_drewN | apply Kd.S_drew)); exact HO_6.out) hb); have n1_ := aK (Kd.R_below (Kd.R_elderB (pR HO_22.out) gb109 (Nat.le_of_eq hg.symm)) hb); have BK109 := aK (hbox); have GW109 := aK (gE hg (pS HB.out)); have GE109 := GW109; obtain ⟨NB101_109, NB109_101⟩ := nb hg (pB BK101.out); obtain ⟨NB107_109, NB109_107⟩ := nb hg (pB BK107.out); replace BK101 := bB BK101 hb; replace BK107 := bB BK107 hb; replace HB := bS HB hb; clear HO_6 HO_22; have HO_6 := n0_; have HO_22 := n1_; clear n0_ n1_ hb hbox hg; have hnb67 := NB109_101.out; have hnc67 := NB101_109.out; have hnb68 := NB109_107.out; have hnc68 := NB107_109.out; obtain ⟨hcz69_0, hcz69_1, hfz69_0, hfz69_1⟩ := bc2 BK109.out; have hnb70 := NB101_107.out; have hnc70 := NB107_101.out; obtain ⟨hcz71_0, hcz71_1, hfz71_0, hfz71_1⟩ := bc2 BK101.out; have p110 : 0 ≤ (x24_1 : Int) := of_decide_eq_true (by first | (with_reducible assumption) | assumption); have q110 : x24_1 < (l0_0.length : Int) := of_decide_eq_true (by first | (with_reducible assumption) | assumption); obtain ⟨ad110, e110, hx110_0⟩ := Kd.at_int HR0_0.out x24_1 p110 q110; cases e110; have hn110_0 : ad110.block ≠ gb109 := Nat.ne_of_lt (Nat.lt_of_lt_of_le (by have := World.block_lt_of_cell? _ _ hx110_0; first | rwa [add_block] at this | exact this) GW109.out); have hn110_1 : ad110.block ≠ gb109 := Nat.ne_of_lt (Nat.lt_of_lt_of_le (by have := World.block_lt_of_cell? _ _ hx110_0; first | rwa [add_block] at this | exact this) GW109.out); replace hx110_0 := (HB.out.cell (World.block_lt_of_cell? w _ hx110_0)).trans hx110_0; replace hx110_0 := (cell_far (p := ⟨gb109, 0, none⟩) (by first | (rw [add_block]; exact hn110_0) | (show (Addr.add _ _).block ≠ _; rw [add_block]; exact hn110_0) | exact hn110_0) (.int .i64 ((rd_T33 t103 x24_1).f0))).trans hx110_0; replace hx110_0 := (cell_far (p := ⟨gb109, 1, none⟩) (by first | (rw [add_block]; exact hn110_1) | (show (Addr.add _ _).block ≠ _; rw [add_block]; exact hn110_1) | exact hn110_1) (.int .i64 ((rd_T33 t103 x24_1).f1))).trans hx110_0; clear hn110_0 hn110_1; replace p110 := eq_true p110; replace q110 := eq_true q110; obtain ⟨Ao72, co72, eo72⟩ := Kd.S_slice HO_6.out; subst eo72) | ((with_reducible refine gate_dst (N := 58) rfl ?_); refine Kd.R_lit (Kd.int .i64) _ 3 ?hg (N := 58) ?hd (xs := ([x24_1] : List Int)) (inner := [.int .i64 x24_1]) (ok := fun _ => True) (okp := fun _ => True) ?hr ?hp (fun _ hk => hk) trivial (Below.refl _ _) (Nat.le_refl _) (by simp) ?_; (case hd => rfl); (case hg => rfl); (case hr => first | (go_simp; done) | (go_simp; rfl)); (case hp => exact (Reps.one (show Kd.M (Kd.int .i64) _ _ _ x24_1 [.int .i64 x24_1] from rfl) (Reps.none _ _))); intro v123 w73 ho74 hb hg_ hnew_; clear hg_ hnew_; (first | rw [← Ny122.out] at ho74 | (simp only [Int.reduceToNat] at ho74; rw [← Ny122.out] at ho74)); have n0_ := aK (Kd.S_elder' (by (with_reducible repeat (first | apply Kd.S_alloc | apply Kd.S_drewN | apply Kd.S_drew)); exact (Kd.S_mono (Kd.S_far (p := ⟨gb109, 1, none⟩) (Kd.S_far (p := ⟨gb109, 0, none⟩) (Kd.S_types HO_6.out BK109.out (by decide)) (fun _ hk => hk.2) (.int .i64 ((rd_T33 t103 x24_1).f0))) (fun _ hk => hk.2) (.int .i64 ((rd_T33 t103 x24_1).f1))) (fun _ h_ => h_.1))) (Kd.R_base ho74) hb); have n1_ := aK (Kd.R_below (pR ((Kd.R_mono (Kd.R_far (p := ⟨gb109, 1, none⟩) (Kd.R_far (p := ⟨gb109, 0, none⟩) (Kd.R_mono HO_22.out (fun k_ hk => (⟨hk, hk.2⟩ : _ ∧ k_ ≠ gb109))) (fun _ hk => hk.2) (.int .i64 ((rd_T33 t103 x24_1).f0))) (fun _ hk => hk.2) (.int .i64 ((rd_T33 t103 x24_1).f1))) (fun _ h_ => h_.1)))) hb); have HO124 := aK (Kd.R_lower ho74 (below_size (pS HB.out))); have n3_ := aK (blk_below (g := gb101) (o := .cells #[.slice (some ad110) l0_0.length c0_0, .slice A0_1 l0_1.length c0_1] 26 (0, 0)) (by refine bk ?_; refine blk_far ?_ NB101_109.out _; refine bk ?_; refine blk_far ?_ NB101_109.out _; refine bk ?_; exact BK101.out) hb); have n4_ := aK (blk_below (g := gb107) (o := .cells #[.int .i64 x108000_1, .int .i64 x108001_1] 33 (0, 0)) (by refine bk ?_; refine blk_far ?_ NB107_109.out _; refine bk ?_; refine blk_far ?_ NB107_109.out _; refine bk ?_; exact BK107.out) hb); have n5_ := aK (blk_below (g := gb109) (o := .cells #[.int .i64 ((rd_T33 t103 x24_1).f0), .int .i64 ((rd_T33 t103 x24_1).f1)] 33 (0, 0)) (by refine bk ?_; refine blk_put (cs := #[.int .i64 ((rd_T33 t103 x24_1).f0), .int .i64 0]) ?_ 1 _ rfl; refine bk ?_; refine blk_put (cs := #[.int .i64 0, .int .i64 0]) ?_ 0 _ rfl; refine bk ?_; exact BK109.out) hb); replace HB := bS HB hb; clear HO_6 HO_22 BK101 BK107 BK109; have HO_6 := n0_; have HO_22 := n1_; have BK101 := n3_; have BK107 := n4_; have BK109 := n5_; clear n0_ n1_ n3_ n4_ n5_ hb ho74; obtain ⟨Ao76, co76, eo76⟩ := Kd.R_slice HO124.out; subst eo76) | ((with_reducible refine gate_builtin (b := .append) (xs := #[.tmp 56, .tmp 59]) rfl ?_); at_builtin; refine Kd.S_append (Kd.slice 3 (Kd.int .i64)) (w0 := w) w.heap.size rfl (.tmp 56) (.tmp 59) 51 24 (.slice none 0 0) 24 rfl Try.underlying51 info24 rfl (by decide) (by omega) (.slice Ao72 x6_1.length co72) x6_1 y122 [.slice Ao76 y122.length co76] (fun _ => True) (fun k_ => some k_ = (.slice Ao76 y122.length co76 : Value).ownBlock) rfl rfl ?aP (fun k_ hk_ => ((Kd.R_mono (ok' := fun k_ => ((fun _ => True)) k_ ∧ some k_ ≠ (.slice Ao72 x6_1.length co72 : Value).ownBlock) (Kd.R_apart' (HO124.out) (Kd.S_typed HO_6.out) (by decide)) (fun k_ hk => ⟨trivial, hk.2⟩))).1 k_ hk_.symm) ?aF ?aO ?aB ?aS ?aL ?_; (case aP => exact Kd.M_row (Kd.R_mono (Kd.R_tight rfl (Kd.R_mono (ok' := fun k_ => ((fun _ => True)) k_ ∧ some k_ ≠ (.slice Ao72 x6_1.length co72 : Value).ownBlock) (Kd.R_apart' (HO124.out) (Kd.S_typed HO_6.out) (by decide)) (fun k_ hk => ⟨trivial, hk.2⟩))) (fun _ h_ => h_))); (case aB => exact (pS HB.out)); (case aF => exact (fun _ _ => trivial)); (case aO => exact (by (with_reducible repeat (first | apply Kd.S_alloc | apply Kd.S_drewN | apply Kd.S_drew)); exact Kd.S_mono HO_6.out (fun k_ hk => ⟨trivial, fun e_ => hk.2 e_⟩))); (case aS => exact (below_size (pS HB.out))); (case aL => have := LMc65.out; omega); intro v126 w75 ho hb hg hat; rw [← Ny125.out] at ho; have n0_ := aK (Kd.R_over' (pR HO_22.out) (Kd.S_typed (by (with_reducible repeat (first | apply Kd.S_alloc | apply Kd.S_drewN | apply Kd.S_drew)); exact HO_6.out)) (by decide) hg); have n1_ := aK (blk_grown (pB BK101.out) hg (Kd.S_ne HO_6.out BK101.out (by decide))); have n2_ := aK (blk_grown (pB BK107.out) hg (Kd.S_ne HO_6.out BK107.out (by decide))); have n3_ := aK (blk_grown (pB BK109.out) hg (Kd.S_ne HO_6.out BK109.out (by decide))); have n4_ := aK (hb); have HO127 := aK (ho); clear HO_22 BK101 BK107 BK109 HB HO_6 HO124; have HO_22 := n0_; have BK101 := n1_; have BK107 := n2_; have BK109 := n3_; have HB := n4_; clear n0_ n1_ n2_ n3_ n4_ ho hb hg hat; obtain ⟨hcz77_0, hcz77_1, hfz77_0, hfz77_1⟩ := bc2 BK109.out; obtain ⟨hcz78_0, hcz78_1, hfz78_0, hfz78_1⟩ := bc2 BK107.out))
          go_roundg k1
          case measure => have := HK1.out; omega
          case rel => exact ⟨(y125), (wrap64 (x24_1 + 1)), ((rd_T33 t103 x24_1).f0), ((rd_T33 t103 x24_1).f1), (by first | rfl | (simp; done) | (simp [*]; done)), H', ⟨by have := HK1.out; omega⟩, ⟨by (with_reducible repeat (first | apply Kd.S_alloc | apply Kd.S_drewN | apply Kd.S_drew)); exact Kd.S_mono (Kd.S_far (p := ⟨gb107, 1, none⟩) (Kd.S_far (p := ⟨gb107, 0, none⟩) (Kd.S_types HO127.out BK107.out (by decide)) (fun _ hk => hk.2) (.int .i64 ((rd_T33 t103 x24_1).f0))) (fun _ hk => hk.2) (.int .i64 ((rd_T33 t103 x24_1).f1))) (fun _ hk => trivial)⟩, ⟨pR (Kd.R_mono (Kd.R_far (p := ⟨gb107, 1, none⟩) (Kd.R_far (p := ⟨gb107, 0, none⟩) (Kd.R_mono HO_22.out (fun k_ hk => (⟨hk, hk.1⟩ : _ ∧ k_ ≠ gb107))) (fun _ hk => hk.2) (.int .i64 ((rd_T33 t103 x24_1).f0))) (fun _ hk => hk.2) (.int .i64 ((rd_T33 t103 x24_1).f1))) (fun _ hk => hk.1.1))⟩, ⟨by refine bk ?_; refine blk_far ?_ NB101_107.out _; refine bk ?_; refine blk_far ?_ NB101_107.out _; refine bk ?_; exact BK101.out⟩, ⟨by refine bk ?_; refine blk_put (cs := #[.int .i64 ((rd_T33 t103 x24_1).f0), .int .i64 x108001_1]) ?_ 1 _ rfl; refine bk ?_; refine blk_put (cs := #[.int .i64 x108000_1, .int .i64 x108001_1]) ?_ 0 _ rfl; refine bk ?_; exact BK107.out⟩, ⟨pT HB.out⟩⟩
         rw [if_neg c65] at H
         exact absurd H (by simp)
        rw [if_neg c18] at H
        exact absurd H (by simp)
       rw [if_neg c17] at H
       exact absurd H (by simp)
      rw [if_neg c16] at H
      exact absurd H (by simp)
     rw [if_neg c15] at H
     have c15b0 : decide (x24_1 < (t103.length : Int)) = false := decide_eq_false c15
     clear c15
     simp only [Option.some.injEq, Prod.mk.injEq] at H
     obtain ⟨rfl, rfl⟩ := H
     go_wp2
     go_ret2
     exact ⟨_, er, by (with_reducible repeat (first | apply Kd.S_alloc | apply Kd.S_drewN | apply Kd.S_drew)); exact HO_6.out, pT HB.out⟩
  replace c5 := Bool.eq_false_iff.mpr c5
  subst c5
  have H1 : (some (([] : List (List Int)), true)) = some (r1, r2) := by rw [if_neg (show ¬ (false = true) by decide)] at H; exact H
  clear H
  have H := H1
  clear H1
  simp only [Option.some.injEq, Prod.mk.injEq] at H
  obtain ⟨rfl, rfl⟩ := H
  go_enter Try.func26, Try.ntmps26
  go_wp2_with (first | ((with_reducible refine gate_dst (N := 1) rfl ?_); refine bxe (cs := #[.slice A0_0 l0_0.length c0_0, .slice A0_1 l0_1.length c0_1]) (t := 26) ?_; intro gb101 hg w79 hbox hb; have BK101 := aK (hbox); have GW101 := aK (gE hg (pS HB.out)); have GE101 := GW101; replace HB := bS HB hb; clear hb hbox hg; obtain ⟨hcz80_0, hcz80_1, hfz80_0, hfz80_1⟩ := bc2 BK101.out) | ((with_reducible refine gate_callee (f := 35) rfl ?_); refine gl (some 12) Try.func35 #[.agg #[.slice A0_0 l0_0.length c0_0, .slice A0_1 l0_1.length c0_1]] ?_; (with_reducible refine (impl_IsValidTally.calls k _ _ l0_0 _ _ l0_1 true _ ?side1 ?side2 ?side3 ?side4 A2.out).mono ?_); (case side1 => exact pC (Kd.C_below HR0_0.out HB.out)); (case side2 => exact HC0_0.out); (case side3 => exact pC (Kd.C_below HR0_1.out HB.out)); (case side4 => exact HC0_1.out); rintro e w81 ⟨rfl, hb⟩; refine ⟨_, rfl, ?_⟩; replace BK101 := bB BK101 hb; replace HB := bS HB hb; (try clear hb); (try clear hb2); (try clear hk); (try clear hi); obtain ⟨hcz82_0, hcz82_1, hfz82_0, hfz82_1⟩ := bc2 BK101.out) | ((with_reducible refine gate_callee (f := 52) rfl ?_); refine gl (some 16) Try.func52 #[.agg #[.slice A0_0 l0_0.length c0_0, .slice A0_1 l0_1.length c0_1]] ?_; (with_reducible refine (impl_calibrationOf.calls k _ _ l0_0 _ _ l0_1 t103 false _ ?side1 ?side2 ?side3 ?side4 A4.out).mono ?_); (case side1 => exact pC (Kd.C_below HR0_0.out HB.out)); (case side2 => exact HC0_0.out); (case side3 => exact pC (Kd.C_below HR0_1.out HB.out)); (case side4 => exact HC0_1.out); rintro e w83 ⟨v104, rfl, ho0, hb⟩; refine ⟨_, rfl, ?_⟩; have HO105 := aK (Kd.R_lower ho0 (below_size (pS HB.out))); replace BK101 := bB BK101 hb; replace HB := bS HB hb; (try clear hb); (try clear hb2); (try clear hk); (try clear hi); (try clear ho0)))
  go_ret2
  exact ⟨_, er, by first | exact Kd.S_nil _ _ _ _ _ | exact Kd.N_nil _ _ _ _ _ | exact Kd.V_nil _ _ _ _ _ | exact Kd.Q_nil _ _ _ _ _ | exact Kd.R_nil _ _ _ _ _, pT HB.out⟩
 replace c3 := Bool.eq_false_iff.mpr c3
 subst c3
 have H1 : (some (([] : List (List Int)), false)) = some (r1, r2) := by rw [if_neg (show ¬ (false = true) by decide)] at H; exact H
 clear H
 have H := H1
 clear H1
 simp only [Option.some.injEq, Prod.mk.injEq] at H
 obtain ⟨rfl, rfl⟩ := H
 go_enter Try.func26, Try.ntmps26
 go_wp2_with (first | ((with_reducible refine gate_dst (N := 1) rfl ?_); refine bxe (cs := #[.slice A0_0 l0_0.length c0_0, .slice A0_1 l0_1.length c0_1]) (t := 26) ?_; intro gb101 hg w84 hbox hb; have BK101 := aK (hbox); have GW101 := aK (gE hg (pS HB.out)); have GE101 := GW101; replace HB := bS HB hb; clear hb hbox hg; obtain ⟨hcz85_0, hcz85_1, hfz85_0, hfz85_1⟩ := bc2 BK101.out) | ((with_reducible refine gate_callee (f := 35) rfl ?_); refine gl (some 12) Try.func35 #[.agg #[.slice A0_0 l0_0.length c0_0, .slice A0_1 l0_1.length c0_1]] ?_; (with_reducible refine (impl_IsValidTally.calls k _ _ l0_0 _ _ l0_1 false _ ?side1 ?side2 ?side3 ?side4 A2.out).mono ?_); (case side1 => exact pC (Kd.C_below HR0_0.out HB.out)); (case side2 => exact HC0_0.out); (case side3 => exact pC (Kd.C_below HR0_1.out HB.out)); (case side4 => exact HC0_1.out); rintro e w86 ⟨rfl, hb⟩; refine ⟨_, rfl, ?_⟩; replace BK101 := bB BK101 hb; replace HB := bS HB hb; (try clear hb); (try clear hb2); (try clear hk); (try clear hi)))
 go_ret2
 exact ⟨_, er, by first | exact Kd.S_nil _ _ _ _ _ | exact Kd.N_nil _ _ _ _ _ | exact Kd.V_nil _ _ _ _ _ | exact Kd.Q_nil _ _ _ _ _ | exact Kd.R_nil _ _ _ _ _, pT HB.out⟩
end Go.Proofs.Ytjicgmcogadleaa.P
namespace Go.Proofs.Ytjicgmcogadleaa.P
open Go.RowKit Go.Proofs.YtjicgmcogadleaaW.PrintWords Go.Proofs.YtjicgmcogadleaaW.PrintLast Go.Proofs.YtjicgmcogadleaaW.PrintMore
attribute [local go_sem] max2_int min2_int max_two min_two max_three min_three max_four min_four
set_option linter.unusedVariables false
set_option linter.unusedSimpArgs false
set_option maxHeartbeats 8000000
set_option maxRecDepth 100000
def laws_eqIntS.l0 : Nat → List Int → List Int → Int → Option (Bool)
 | 0, _, _, _ => none
 | k + 1, x0, x1, x5 => if x5 < (x0.length : Int) then (if 0 ≤ x5 then (if x5 < (x1.length : Int) then (if (rd x0 x5) = (rd x1 x5) then (laws_eqIntS.l0 k x0 x1 (wrap64 (x5 + 1))) else (some false)) else (none)) else (none)) else (some true)
def laws_eqIntS.f (k : Nat) (l0 : List Int) (l1 : List Int) : Option (Bool) := if (l0.length : Int) = (l1.length : Int) then (laws_eqIntS.l0 k l0 l1 0) else (some false)
theorem laws_eqIntS.calls (k : Nat) (A0 : Option Addr) (c0 : Nat) (l0 : List Int) (A1 : Option Addr) (c1 : Nat) (l1 : List Int) (r : Bool) (w : World) (hr0 : Kd.C (Kd.int .i64) w A0 l0.length l0) (hc0 : l0.length ≤ c0) (hr1 : Kd.C (Kd.int .i64) w A1 l1.length l1) (hc1 : l1.length ≤ c1) (h : laws_eqIntS.f k l0 l1 = some r) :
  Calls Try.prog 66 #[.slice A0 l0.length c0, .slice A1 l1.length c1] w fun e w' => e = .returned (.bool r) ∧ Drawn0 w w' := by
 have HR0 := Aside0.mk hr0
 have HC0 := Aside0.mk hc0
 clear hr0 hc0
 have HR1 := Aside0.mk hr1
 have HC1 := Aside0.mk hc1
 clear hr1 hc1
 have H : (if (l0.length : Int) = (l1.length : Int) then (laws_eqIntS.l0 k l0 l1 0) else (some false)) = some r := h
 clear h
 by_cases c3 : (l0.length : Int) = (l1.length : Int)
 ·
  rw [if_pos c3] at H
  have c3b0 : ((l0.length : Int) == (l1.length : Int)) = true := beq_iff_eq.mpr c3
  have c3b1 : ((l0.length : Int) != (l1.length : Int)) = false := bne_eq_false_iff_eq.mpr c3
  have c3b2 : (l0.length == l1.length) = true := by first | simpa using c3 | (simp at c3 ⊢; omega)
  clear c3
  have H' := Aside0.mk H
  clear H
  go_enter Try.func66, Try.ntmps66
  go_wp2
  repeat (go_quiet (fail); try go_wp2)
  go_loopg [5] k (fun kq v5 w' => ∃ (x5_1 : Int), v5 = .int .i64 x5_1 ∧ Aside0 (laws_eqIntS.l0 kq l0 l1 x5_1 = some r) ∧ Aside0 (kq ≤ k) ∧ Drawn0 w w')
  case atStart => exact ⟨(0), (by first | rfl | (simp; done) | (simp [*]; done)), H', ⟨Nat.le_refl _⟩, by repeat (first | exact Drawn0.refl _ | apply Drawn0.step)⟩
  case round =>
   clear H'
   try clear c1
   try clear p2
   try clear c3
   try clear c3b0
   try clear c3b1
   try clear c3b2
   obtain ⟨x5_1, rfl, HA, HK1, ⟨m1, rfl⟩⟩ := hrel
   cases gk with
   | zero => exact absurd HA.out (by simp [laws_eqIntS.l0])
   | succ k1 =>
    have H := HA.out
    clear HA
    simp only [laws_eqIntS.l0] at H
    by_cases c4 : x5_1 < (l0.length : Int)
    ·
     rw [if_pos c4] at H
     have c4b0 : decide (x5_1 < (l0.length : Int)) = true := decide_eq_true c4
     clear c4
     by_cases c5 : 0 ≤ x5_1
     ·
      rw [if_pos c5] at H
      have c5b0 : decide (0 ≤ x5_1) = true := decide_eq_true c5
      clear c5
      by_cases c6 : x5_1 < (l1.length : Int)
      ·
       rw [if_pos c6] at H
       have c6b0 : decide (x5_1 < (l1.length : Int)) = true := decide_eq_true c6
       clear c6
       by_cases c7 : (rd l0 x5_1) = (rd l1 x5_1)
       ·
        rw [if_pos c7] at H
        have c7b0 : ((rd l0 x5_1) == (rd l1 x5_1)) = true := beq_iff_eq.mpr c7
        have c7b1 : ((rd l0 x5_1) != (rd l1 x5_1)) = false := bne_eq_false_iff_eq.mpr c7
        clear c7
        have H' := Aside0.mk H
        clear H
        have p101 : 0 ≤ (x5_1 : Int) := of_decide_eq_true (by first | (with_reducible assumption) | assumption)
        have q101 : x5_1 < (l0.length : Int) := of_decide_eq_true (by first | (with_reducible assumption) | assumption)
        obtain ⟨ad101, e101, hx101_0⟩ := Kd.at_int HR0.out x5_1 p101 q101
        cases e101
        replace p101 := eq_true p101
        replace q101 := eq_true q101
        have p102 : 0 ≤ (x5_1 : Int) := of_decide_eq_true (by first | (with_reducible assumption) | assumption)
        have q102 : x5_1 < (l1.length : Int) := of_decide_eq_true (by first | (with_reducible assumption) | assumption)
        obtain ⟨ad102, e102, hx102_0⟩ := Kd.at_int HR1.out x5_1 p102 q102
        cases e102
        replace p102 := eq_true p102
        replace q102 := eq_true q102
        go_wp2
        repeat (go_quiet (fail); try go_wp2)
        go_roundg k1
        case measure => have := HK1.out; omega
        case rel => exact ⟨(wrap64 (x5_1 + 1)), (by first | rfl | (simp; done) | (simp [*]; done)), H', ⟨by have := HK1.out; omega⟩, by repeat (first | exact Drawn0.refl _ | apply Drawn0.step)⟩
       rw [if_neg c7] at H
       have c7b0 : ((rd l0 x5_1) == (rd l1 x5_1)) = false := beq_eq_false_iff_ne.mpr c7
       have c7b1 : ((rd l0 x5_1) != (rd l1 x5_1)) = true := bne_iff_ne.mpr c7
       obtain rfl := Option.some.inj H
       have p101 : 0 ≤ (x5_1 : Int) := of_decide_eq_true (by first | (with_reducible assumption) | assumption)
       have q101 : x5_1 < (l0.length : Int) := of_decide_eq_true (by first | (with_reducible assumption) | assumption)
       obtain ⟨ad101, e101, hx101_0⟩ := Kd.at_int HR0.out x5_1 p101 q101
       cases e101
       replace p101 := eq_true p101
       replace q101 := eq_true q101
       have p102 : 0 ≤ (x5_1 : Int) := of_decide_eq_true (by first | (with_reducible assumption) | assumption)
       have q102 : x5_1 < (l1.length : Int) := of_decide_eq_true (by first | (with_reducible assumption) | assumption)
       obtain ⟨ad102, e102, hx102_0⟩ := Kd.at_int HR1.out x5_1 p102 q102
       cases e102
       replace p102 := eq_true p102
       replace q102 := eq_true q102
       go_wp2
       repeat (go_quiet (fail); try go_wp2)
       go_ret
       exact ⟨by first | rfl | (simp; done) | (simp [*]; done), by repeat (first | exact Drawn0.refl _ | apply Drawn0.step)⟩
      rw [if_neg c6] at H
      exact absurd H (by simp)
     rw [if_neg c5] at H
     exact absurd H (by simp)
    rw [if_neg c4] at H
    have c4b0 : decide (x5_1 < (l0.length : Int)) = false := decide_eq_false c4
    clear c4
    obtain rfl := Option.some.inj H
    go_wp2
    repeat (go_quiet (fail); try go_wp2)
    go_ret
    exact ⟨by first | rfl | (simp; done) | (simp [*]; done), by repeat (first | exact Drawn0.refl _ | apply Drawn0.step)⟩
 rw [if_neg c3] at H
 have c3b0 : ((l0.length : Int) == (l1.length : Int)) = false := beq_eq_false_iff_ne.mpr c3
 have c3b1 : ((l0.length : Int) != (l1.length : Int)) = true := bne_iff_ne.mpr c3
 have c3b2 : (l0.length == l1.length) = false := by first | simpa using c3 | (simp at c3 ⊢; omega)
 obtain rfl := Option.some.inj H
 go_enter Try.func66, Try.ntmps66
 go_wp2
 repeat (go_quiet (fail); try go_wp2)
 go_ret
 exact ⟨by first | rfl | (simp; done) | (simp [*]; done), by repeat (first | exact Drawn0.refl _ | apply Drawn0.step)⟩
def laws_eqIntSS.l0 : Nat → List (List Int) → List (List Int) → Int → Option (Bool)
 | 0, _, _, _ => none
 | k + 1, x0, x1, x5 => if x5 < (x0.length : Int) then (if 0 ≤ x5 then (if x5 < (x1.length : Int) then ((laws_eqIntS.f k (rd_L3 x0 x5) (rd_L3 x1 x5)).bind fun t103 => (if t103 = true then (laws_eqIntSS.l0 k x0 x1 (wrap64 (x5 + 1))) else (some false))) else (none)) else (none)) else (some true)
def laws_eqIntSS.f (k : Nat) (l0 : List (List Int)) (l1 : List (List Int)) : Option (Bool) := if (l0.length : Int) = (l1.length : Int) then (laws_eqIntSS.l0 k l0 l1 0) else (some false)
theorem laws_eqIntSS.calls (k : Nat) (A0 : Option Addr) (c0 : Nat) (l0 : List (List Int)) (A1 : Option Addr) (c1 : Nat) (l1 : List (List Int)) (r : Bool) (w : World) (hr0 : Kd.C (Kd.slice 3 (Kd.int .i64)) w A0 l0.length l0) (hc0 : l0.length ≤ c0) (hr1 : Kd.C (Kd.slice 3 (Kd.int .i64)) w A1 l1.length l1) (hc1 : l1.length ≤ c1) (h : laws_eqIntSS.f k l0 l1 = some r) :
  Calls Try.prog 27 #[.slice A0 l0.length c0, .slice A1 l1.length c1] w fun e w' => e = .returned (.bool r) ∧ Drawn0 w w' := by
 have HR0 := Aside0.mk hr0
 have HC0 := Aside0.mk hc0
 clear hr0 hc0
 have HR1 := Aside0.mk hr1
 have HC1 := Aside0.mk hc1
 clear hr1 hc1
 have H : (if (l0.length : Int) = (l1.length : Int) then (laws_eqIntSS.l0 k l0 l1 0) else (some false)) = some r := h
 clear h
 by_cases c3 : (l0.length : Int) = (l1.length : Int)
 ·
  rw [if_pos c3] at H
  have c3b0 : ((l0.length : Int) == (l1.length : Int)) = true := beq_iff_eq.mpr c3
  have c3b1 : ((l0.length : Int) != (l1.length : Int)) = false := bne_eq_false_iff_eq.mpr c3
  have c3b2 : (l0.length == l1.length) = true := by first | simpa using c3 | (simp at c3 ⊢; omega)
  clear c3
  have H' := Aside0.mk H
  clear H
  go_enter Try.func27, Try.ntmps27
  go_wp2
  repeat (go_quiet (fail); try go_wp2)
  go_loopg [5] k (fun kq v5 w' => ∃ (x5_1 : Int), v5 = .int .i64 x5_1 ∧ Aside0 (laws_eqIntSS.l0 kq l0 l1 x5_1 = some r) ∧ Aside0 (kq ≤ k) ∧ Drawn0 w w')
  case atStart => exact ⟨(0), (by first | rfl | (simp; done) | (simp [*]; done)), H', ⟨Nat.le_refl _⟩, by repeat (first | exact Drawn0.refl _ | apply Drawn0.step)⟩
  case round =>
   clear H'
   try clear c1
   try clear c2
   try clear p2
   try clear c3
   try clear c3b0
   try clear c3b1
   try clear c3b2
   obtain ⟨x5_1, rfl, HA, HK1, ⟨m1, rfl⟩⟩ := hrel
   cases gk with
   | zero => exact absurd HA.out (by simp [laws_eqIntSS.l0])
   | succ k1 =>
    have H := HA.out
    clear HA
    simp only [laws_eqIntSS.l0] at H
    by_cases c4 : x5_1 < (l0.length : Int)
    ·
     rw [if_pos c4] at H
     have c4b0 : decide (x5_1 < (l0.length : Int)) = true := decide_eq_true c4
     clear c4
     by_cases c5 : 0 ≤ x5_1
     ·
      rw [if_pos c5] at H
      have c5b0 : decide (0 ≤ x5_1) = true := decide_eq_true c5
      clear c5
      by_cases c6 : x5_1 < (l1.length : Int)
      ·
       rw [if_pos c6] at H
       have c6b0 : decide (x5_1 < (l1.length : Int)) = true := decide_eq_true c6
       clear c6
       replace H := Option.bind_eq_some_iff.mp H
       obtain ⟨t103, A70, H⟩ := H
       replace H : (if t103 = true then (laws_eqIntSS.l0 k1 l0 l1 (wrap64 (x5_1 + 1))) else (some false)) = some r := H
       have A7 := Aside0.mk A70
       clear A70
       by_cases c8 : t103 = true
       ·
        subst c8
        have H1 : (laws_eqIntSS.l0 k1 l0 l1 (wrap64 (x5_1 + 1))) = some r := by rw [if_pos rfl] at H; exact H
        clear H
        have H := H1
        clear H1
        have H' := Aside0.mk H
        clear H
        have p101 : 0 ≤ (x5_1 : Int) := of_decide_eq_true (by first | (with_reducible assumption) | assumption)
        have q101 : x5_1 < (l0.length : Int) := of_decide_eq_true (by first | (with_reducible assumption) | assumption)
        obtain ⟨ad101, A101_0, c101_0, e101, hx101_0, hl101_0, hi101_0⟩ := at_L3 HR0.out x5_1 p101 q101
        cases e101
        have HR101_0 := Aside0.mk hi101_0
        have HC101_0 := Aside0.mk hl101_0
        clear hi101_0 hl101_0
        replace p101 := eq_true p101
        replace q101 := eq_true q101
        have p102 : 0 ≤ (x5_1 : Int) := of_decide_eq_true (by first | (with_reducible assumption) | assumption)
        have q102 : x5_1 < (l1.length : Int) := of_decide_eq_true (by first | (with_reducible assumption) | assumption)
        obtain ⟨ad102, A102_0, c102_0, e102, hx102_0, hl102_0, hi102_0⟩ := at_L3 HR1.out x5_1 p102 q102
        cases e102
        have HR102_0 := Aside0.mk hi102_0
        have HC102_0 := Aside0.mk hl102_0
        clear hi102_0 hl102_0
        replace p102 := eq_true p102
        replace q102 := eq_true q102
        go_wp2_with (first | (go_at_call 66; (with_reducible refine (laws_eqIntS.calls k1 _ _ (rd_L3 l0 x5_1) _ _ (rd_L3 l1 x5_1) true _ ?side1 ?side2 ?side3 ?side4 A7.out).mono ?_); (case side1 => exact pC HR101_0.out); (case side2 => exact HC101_0.out); (case side3 => exact pC HR102_0.out); (case side4 => exact HC102_0.out); rintro e w' ⟨rfl, ⟨nd, rfl⟩⟩; (try first | exact ⟨rfl, _, World.drewN_drewN _ _ _⟩ | exact ⟨rfl, _, Eq.trans (World.drewN_drewN _ _ _) (congrArg (World.drewN _) (Nat.add_assoc _ _ _))⟩)))
        repeat (go_quiet (first | (go_at_call 66; (with_reducible refine (laws_eqIntS.calls k1 _ _ (rd_L3 l0 x5_1) _ _ (rd_L3 l1 x5_1) true _ ?side1 ?side2 ?side3 ?side4 A7.out).mono ?_); (case side1 => exact pC HR101_0.out); (case side2 => exact HC101_0.out); (case side3 => exact pC HR102_0.out); (case side4 => exact HC102_0.out); rintro e w' ⟨rfl, ⟨nd, rfl⟩⟩; (try first | exact ⟨rfl, _, World.drewN_drewN _ _ _⟩ | exact ⟨rfl, _, Eq.trans (World.drewN_drewN _ _ _) (congrArg (World.drewN _) (Nat.add_assoc _ _ _))⟩))); try go_wp2_with (first | (go_at_call 66; (with_reducible refine (laws_eqIntS.calls k1 _ _ (rd_L3 l0 x5_1) _ _ (rd_L3 l1 x5_1) true _ ?side1 ?side2 ?side3 ?side4 A7.out).mono ?_); (case side1 => exact pC HR101_0.out); (case side2 => exact HC101_0.out); (case side3 => exact pC HR102_0.out); (case side4 => exact HC102_0.out); rintro e w' ⟨rfl, ⟨nd, rfl⟩⟩; (try first | exact ⟨rfl, _, World.drewN_drewN _ _ _⟩ | exact ⟨rfl, _, Eq.trans (World.drewN_drewN _ _ _) (congrArg (World.drewN _) (Nat.add_assoc _ _ _))⟩))))
        go_roundg k1
        case measure => have := HK1.out; omega
        case rel => exact ⟨(wrap64 (x5_1 + 1)), (by first | rfl | (simp; done) | (simp [*]; done)), H', ⟨by have := HK1.out; omega⟩, by repeat (first | exact Drawn0.refl _ | apply Drawn0.step)⟩
       replace c8 := Bool.eq_false_iff.mpr c8
       subst c8
       have H1 : (some false) = some r := by rw [if_neg (show ¬ (false = true) by decide)] at H; exact H
       clear H
       have H := H1
       clear H1
       obtain rfl := Option.some.inj H
       have p101 : 0 ≤ (x5_1 : Int) := of_decide_eq_true (by first | (with_reducible assumption) | assumption)
       have q101 : x5_1 < (l0.length : Int) := of_decide_eq_true (by first | (with_reducible assumption) | assumption)
       obtain ⟨ad101, A101_0, c101_0, e101, hx101_0, hl101_0, hi101_0⟩ := at_L3 HR0.out x5_1 p101 q101
       cases e101
       have HR101_0 := Aside0.mk hi101_0
       have HC101_0 := Aside0.mk hl101_0
       clear hi101_0 hl101_0
       replace p101 := eq_true p101
       replace q101 := eq_true q101
       have p102 : 0 ≤ (x5_1 : Int) := of_decide_eq_true (by first | (with_reducible assumption) | assumption)
       have q102 : x5_1 < (l1.length : Int) := of_decide_eq_true (by first | (with_reducible assumption) | assumption)
       obtain ⟨ad102, A102_0, c102_0, e102, hx102_0, hl102_0, hi102_0⟩ := at_L3 HR1.out x5_1 p102 q102
       cases e102
       have HR102_0 := Aside0.mk hi102_0
       have HC102_0 := Aside0.mk hl102_0
       clear hi102_0 hl102_0
       replace p102 := eq_true p102
       replace q102 := eq_true q102
       go_wp2_with (first | (go_at_call 66; (with_reducible refine (laws_eqIntS.calls k1 _ _ (rd_L3 l0 x5_1) _ _ (rd_L3 l1 x5_1) false _ ?side1 ?side2 ?side3 ?side4 A7.out).mono ?_); (case side1 => exact pC HR101_0.out); (case side2 => exact HC101_0.out); (case side3 => exact pC HR102_0.out); (case side4 => exact HC102_0.out); rintro e w' ⟨rfl, ⟨nd, rfl⟩⟩; (try first | exact ⟨rfl, _, World.drewN_drewN _ _ _⟩ | exact ⟨rfl, _, Eq.trans (World.drewN_drewN _ _ _) (congrArg (World.drewN _) (Nat.add_assoc _ _ _))⟩)))
       repeat (go_quiet (first | (go_at_call 66; (with_reducible refine (laws_eqIntS.calls k1 _ _ (rd_L3 l0 x5_1) _ _ (rd_L3 l1 x5_1) false _ ?side1 ?side2 ?side3 ?side4 A7.out).mono ?_); (case side1 => exact pC HR101_0.out); (case side2 => exact HC101_0.out); (case side3 => exact pC HR102_0.out); (case side4 => exact HC102_0.out); rintro e w' ⟨rfl, ⟨nd, rfl⟩⟩; (try first | exact ⟨rfl, _, World.drewN_drewN _ _ _⟩ | exact ⟨rfl, _, Eq.trans (World.drewN_drewN _ _ _) (congrArg (World.drewN _) (Nat.add_assoc _ _ _))⟩))); try go_wp2_with (first | (go_at_call 66; (with_reducible refine (laws_eqIntS.calls k1 _ _ (rd_L3 l0 x5_1) _ _ (rd_L3 l1 x5_1) false _ ?side1 ?side2 ?side3 ?side4 A7.out).mono ?_); (case side1 => exact pC HR101_0.out); (case side2 => exact HC101_0.out); (case side3 => exact pC HR102_0.out); (case side4 => exact HC102_0.out); rintro e w' ⟨rfl, ⟨nd, rfl⟩⟩; (try first | exact ⟨rfl, _, World.drewN_drewN _ _ _⟩ | exact ⟨rfl, _, Eq.trans (World.drewN_drewN _ _ _) (congrArg (World.drewN _) (Nat.add_assoc _ _ _))⟩))))
       go_ret
       exact ⟨by first | rfl | (simp; done) | (simp [*]; done), by repeat (first | exact Drawn0.refl _ | apply Drawn0.step)⟩
      rw [if_neg c6] at H
      exact absurd H (by simp)
     rw [if_neg c5] at H
     exact absurd H (by simp)
    rw [if_neg c4] at H
    have c4b0 : decide (x5_1 < (l0.length : Int)) = false := decide_eq_false c4
    clear c4
    obtain rfl := Option.some.inj H
    go_wp2
    repeat (go_quiet (fail); try go_wp2)
    go_ret
    exact ⟨by first | rfl | (simp; done) | (simp [*]; done), by repeat (first | exact Drawn0.refl _ | apply Drawn0.step)⟩
 rw [if_neg c3] at H
 have c3b0 : ((l0.length : Int) == (l1.length : Int)) = false := beq_eq_false_iff_ne.mpr c3
 have c3b1 : ((l0.length : Int) != (l1.length : Int)) = true := bne_iff_ne.mpr c3
 have c3b2 : (l0.length == l1.length) = false := by first | simpa using c3 | (simp at c3 ⊢; omega)
 obtain rfl := Option.some.inj H
 go_enter Try.func27, Try.ntmps27
 go_wp2
 repeat (go_quiet (fail); try go_wp2)
 go_ret
 exact ⟨by first | rfl | (simp; done) | (simp [*]; done), by repeat (first | exact Drawn0.refl _ | apply Drawn0.step)⟩
end Go.Proofs.Ytjicgmcogadleaa.P
