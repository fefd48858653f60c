/- Texts of the claim FnCalibration, merged: part 6 of 10: the program's and the reference's functions as Lean functions, the walks that show it, and plain lemmas; no conditions. -/
import Derived.Test.YtjicgmcogadleaaKFnCalibration3
import Derived.Test.YtjicgmcogadleaaKFnCalibration4
import Derived.Test.YtjicgmcogadleaaKFnCalibration5
namespace Go.Proofs.Ytjicgmcogadleaa.P
open Go.RowKit Go.Proofs.YtjicgmcogadleaaW.PrintWords Go.Proofs.YtjicgmcogadleaaW.PrintLast Go.Proofs.YtjicgmcogadleaaW.PrintMore
attribute [local go_sem] max2_int min2_int max_two min_two max_three min_three max_four min_four
set_option linter.unusedVariables false
set_option linter.unusedSimpArgs false
set_option maxHeartbeats 8000000
set_option maxRecDepth 100000
def spec_GroupsOf.l0 : Nat → List (List Int) → List (S86) → Int → Option ((List (List Int)) × Bool)
 | 0, _, _, _ => none
 | k + 1, x4, x5, x6 => if x6 < (x5.length : Int) then (if x6 > 0 then (if 0 ≤ (wrap64 (x6 - 1)) then (if (wrap64 (x6 - 1)) < (x5.length : Int) then (if 0 ≤ x6 then (if (wrap64 (((rd_T86 x5 (wrap64 (x6 - 1))).f2) * ((rd_T86 x5 x6).f1))) = (wrap64 (((rd_T86 x5 x6).f2) * ((rd_T86 x5 (wrap64 (x6 - 1))).f1))) then (if 0 ≤ (wrap64 ((x4.length : Int) - 1)) then (if (wrap64 ((x4.length : Int) - 1)) < (x4.length : Int) then (if (rd_L3 x4 (wrap64 ((x4.length : Int) - 1))).length + ((rd_T86 x5 x6).f0).length < 17592186044416 then (spec_GroupsOf.l0 k (x4.set ((wrap64 ((x4.length : Int) - 1)) : Int).toNat ((rd_L3 x4 (wrap64 ((x4.length : Int) - 1))) ++ ((rd_T86 x5 x6).f0))) x5 (wrap64 (x6 + 1))) else (none)) else (none)) else (none)) else ((spec_l1Own.f ((rd_T86 x5 x6).f0)).bind fun t120 => (if x4.length < 5864062014805 then (spec_GroupsOf.l0 k (x4 ++ [t120]) x5 (wrap64 (x6 + 1))) else (none)))) else (none)) else (none)) else (none)) else (if 0 ≤ x6 then ((spec_l1Own.f ((rd_T86 x5 x6).f0)).bind fun t127 => (if x4.length < 5864062014805 then (spec_GroupsOf.l0 k (x4 ++ [t127]) x5 (wrap64 (x6 + 1))) else (none))) else (none))) else (some (x4, true))
def spec_GroupsOf.f (k : Nat) (l0_0 : List Int) (l0_1 : List Int) : Option ((List (List Int)) × Bool) := (some (([] : List (List Int)) : List (List Int))).bind fun y102 => ((spec_l10Good.f k l0_0 l0_1).bind fun t105 => (if t105 = true then ((spec_l10Groups.f k l0_0 l0_1).bind fun t106 => (spec_GroupsOf.l0 k y102 t106 0)) else (some (y102, false))))
def spec_GroupsOf.T9 : Bool × List (List Nat × List Nat) := (true, [([], []), ([0], [0]), ([1], [1]), ([2], [2]), ([2], [2]), ([4, 2], [2, 4]), ([3, 5, 2], [2, 3, 5]), ([6, 2], [2, 6]), ([7, 2], [2, 7]), ([2], [2]), ([2], [2]), ([9, 10, 2], [2, 9, 10]), ([11, 2], [2, 11]), ([12, 2], [2, 12]), ([8, 13, 2], [2, 8, 13]), ([2], [2]), ([2], [2]), ([15, 16, 2], [2, 15, 16]), ([17, 2], [2, 17]), ([18, 2], [2, 18]), ([2], [2]), ([2], [2]), ([21, 2], [2, 21]), ([20, 22, 2], [2, 20, 22]), ([23, 2], [2, 23]), ([24, 2], [2, 24]), ([19, 25, 2], [2, 19, 25]), ([14, 26, 2], [2, 14, 26]), ([2, 27], [2, 27])])
def spec_GroupsOf.B9 : List Nat := [0, 1, 3, 7, 7, 23, 63, 127, 255, 7, 7, 1543, 3591, 7687, 16383, 7, 7, 98311, 229383, 491527, 7, 7, 2097159, 7340039, 15728647, 32505863, 67076103, 134217727, 268435455]
theorem spec_GroupsOf.tab9 : rtab .any (opsOf Try.f24 9) = spec_GroupsOf.T9 := by kernel_rfl
theorem spec_GroupsOf.bits9 : waitsOk spec_GroupsOf.T9.2 spec_GroupsOf.B9 = true := by kernel_rfl
def spec_GroupsOf.T10 : Bool × List (List Nat × List Nat) := (true, [([], []), ([], []), ([1], [1]), ([], []), ([], []), ([4], [4]), ([3, 5], [3, 5]), ([6], [6]), ([], []), ([], []), ([8, 9], [8, 9]), ([10], [10]), ([11], [11]), ([7, 12], [7, 12]), ([0, 2, 0, 1, 2, 3, 4, 5, 6, 7, 8, 9, 10, 11, 12, 13], [0, 2]), ([14, 13, 13, 0, 1, 2, 3, 4, 5, 6, 7, 8, 9, 10, 11, 12, 13], [13, 14])])
def spec_GroupsOf.B10 : List Nat := [0, 0, 2, 0, 0, 16, 56, 120, 0, 0, 768, 1792, 3840, 8184, 16383, 32767]
theorem spec_GroupsOf.tab10 : rtab .any (opsOf Try.f24 10) = spec_GroupsOf.T10 := by kernel_rfl
theorem spec_GroupsOf.bits10 : waitsOk spec_GroupsOf.T10.2 spec_GroupsOf.B10 = true := by kernel_rfl
theorem grp_tight {α : Type} {d : Kd α} {e base : Nat} {W : World} {ok : Nat → Prop} {v : Value} (h : Kd.S d e W base ok v []) : Kd.S d e W base (fun k => some k = v.ownBlock) v [] := by
 obtain ⟨f, h0, inner, ho, hr⟩ := h
 exact ⟨f, fun k hk => hk.symm, inner, ho, hr.1, fun j p hp => by simp at hp⟩
theorem spec_GroupsOf.calls (k : Nat) (A0_0 : Option Addr) (c0_0 : Nat) (l0_0 : List Int) (A0_1 : Option Addr) (c0_1 : Nat) (l0_1 : List Int) (r1 : List (List Int)) (r2 : Bool) (w : World) (hr0_0 : Kd.C (Kd.int .i64) w A0_0 l0_0.length l0_0) (hc0_0 : l0_0.length ≤ c0_0) (hr0_1 : Kd.C (Kd.int .i64) w A0_1 l0_1.length l0_1) (hc0_1 : l0_1.length ≤ c0_1) (h : spec_GroupsOf.f k l0_0 l0_1 = some (r1, r2)) :
  Calls Try.prog 24 #[.agg #[.slice A0_0 l0_0.length c0_0, .slice A0_1 l0_1.length c0_1]] w fun e w' => ∃ v0_ : Value, e = .returned (.tuple #[v0_, .bool r2]) ∧ Kd.S (Kd.slice 3 (Kd.int .i64)) 24 w' w.heap.size (fun _ => True) v0_ r1 ∧ Below w.heap.size w w' := by
 have hu26 := Try.underlying26
 have HR0_0 := Aside0.mk hr0_0
 have HC0_0 := Aside0.mk hc0_0
 clear hr0_0 hc0_0
 have HR0_1 := Aside0.mk hr0_1
 have HC0_1 := Aside0.mk hc0_1
 clear hr0_1 hc0_1
 have HB := aK (Below.refl w.heap.size w)
 have H : ((some (([] : List (List Int)) : List (List Int))).bind fun y102 => ((spec_l10Good.f k l0_0 l0_1).bind fun t105 => (if t105 = true then ((spec_l10Groups.f k l0_0 l0_1).bind fun t106 => (spec_GroupsOf.l0 k y102 t106 0)) else (some (y102, false))))) = some (r1, r2) := h
 clear h
 obtain ⟨y102, hy102⟩ : ∃ y_ : List (List Int), y_ = (([] : List (List Int))) := ⟨_, rfl⟩
 replace H : ((spec_l10Good.f k l0_0 l0_1).bind fun t105 => (if t105 = true then ((spec_l10Groups.f k l0_0 l0_1).bind fun t106 => (spec_GroupsOf.l0 k y102 t106 0)) else (some (y102, false)))) = some (r1, r2) := by first | (rw [hy102]; with_reducible exact H) | (have H2_ := (Option.bind_some _ _).symm.trans H; rw [hy102]; with_reducible exact H2_) | (have H2_ := (Option.bind_some _ _).symm.trans H; with_reducible exact H2_) | with_reducible exact H | (rw [hy102]; exact H) | exact H
 have Ny102 := Aside0.mk hy102
 clear hy102
 replace H := Option.bind_eq_some_iff.mp H
 obtain ⟨t105, A20, H⟩ := H
 replace H : (if t105 = true then ((spec_l10Groups.f k l0_0 l0_1).bind fun t106 => (spec_GroupsOf.l0 k y102 t106 0)) else (some (y102, false))) = some (r1, r2) := H
 have A2 := Aside0.mk A20
 clear A20
 by_cases c3 : t105 = true
 ·
  subst c3
  have H1 : ((spec_l10Groups.f k l0_0 l0_1).bind fun t106 => (spec_GroupsOf.l0 k y102 t106 0)) = some (r1, r2) := by rw [if_pos rfl] at H; exact H
  clear H
  have H := H1
  clear H1
  replace H := Option.bind_eq_some_iff.mp H
  obtain ⟨t106, A40, H⟩ := H
  replace H : (spec_GroupsOf.l0 k y102 t106 0) = some (r1, r2) := H
  have A4 := Aside0.mk A40
  clear A40
  have H' := Aside0.mk H
  clear H
  go_enter Try.func24, Try.ntmps24
  go_wp2_with (first | ((with_reducible refine gate_dst (N := 1) rfl ?_); refine bxe (cs := #[.slice A0_0 l0_0.length c0_0, .slice A0_1 l0_1.length c0_1]) (t := 26) ?_; intro gb101 hg w5 hbox hb; have BK101 := aK (hbox); have GW101 := aK (gE hg (pS HB.out)); have GE101 := GW101; replace HB := bS HB hb; clear hb hbox hg) | ((with_reducible refine gate_dst (N := 8) rfl ?_); refine Kd.S_lit (Kd.slice 3 (Kd.int .i64)) _ 24 ?hg (N := 8) ?hd (xs := ([] : List (List Int))) (inner := []) (ok := fun _ => True) (okp := fun _ => True) ?hr ?hp (fun _ hk => hk) trivial (Below.refl _ _) (Nat.le_refl _) (by simp) ?_; (case hd => rfl); (case hg => rfl); (case hr => first | (go_simp; done) | (go_simp; rfl)); (case hp => exact (Reps.none _ _)); intro v103 w6 ho7 hb hg_ hnew_; clear hg_ hnew_; (first | rw [← Ny102.out] at ho7 | (simp only [Int.reduceToNat] at ho7; rw [← Ny102.out] at ho7)); have HO104 := aK (Kd.S_lower ho7 (below_size (pS HB.out))); replace BK101 := bB BK101 hb; replace HB := bS HB hb; clear hb ho7; obtain ⟨hcz8_0, hcz8_1, hfz8_0, hfz8_1⟩ := bc2 BK101.out) | ((with_reducible refine gate_callee (f := 44) rfl ?_); refine gl (some 10) Try.func44 #[.agg #[.slice A0_0 l0_0.length c0_0, .slice A0_1 l0_1.length c0_1]] ?_; (with_reducible refine (spec_l10Good.calls k _ _ l0_0 _ _ l0_1 true _ ?side1 ?side2 ?side3 ?side4 A2.out).mono ?_); (case side1 => exact pC (Kd.C_below HR0_0.out HB.out)); (case side2 => exact HC0_0.out); (case side3 => exact pC (Kd.C_below HR0_1.out HB.out)); (case side4 => exact HC0_1.out); rintro e w9 ⟨rfl, hb⟩; refine ⟨_, rfl, ?_⟩; have n0_ := aK (Kd.S_below (by (with_reducible repeat (first | apply Kd.S_alloc | apply Kd.S_drewN | apply Kd.S_drew)); exact HO104.out) hb); replace BK101 := bB BK101 hb; replace HB := bS HB hb; clear HO104; have HO104 := n0_; clear n0_; (try clear hb); (try clear hb2); (try clear hk); (try clear hi); obtain ⟨hcz10_0, hcz10_1, hfz10_0, hfz10_1⟩ := bc2 BK101.out) | ((with_reducible refine gate_callee (f := 63) rfl ?_); refine gl (some 14) Try.func63 #[.agg #[.slice A0_0 l0_0.length c0_0, .slice A0_1 l0_1.length c0_1]] ?_; (with_reducible refine (spec_l10Groups.calls k _ _ l0_0 _ _ l0_1 t106 _ ?side1 ?side2 ?side3 ?side4 A4.out).mono ?_); (case side1 => exact pC (Kd.C_below HR0_0.out HB.out)); (case side2 => exact HC0_0.out); (case side3 => exact pC (Kd.C_below HR0_1.out HB.out)); (case side4 => exact HC0_1.out); rintro e w11 ⟨v107, rfl, ho0, hb⟩; refine ⟨_, rfl, ?_⟩; have n0_ := aK (Kd.S_below (by (with_reducible repeat (first | apply Kd.S_alloc | apply Kd.S_drewN | apply Kd.S_drew)); exact HO104.out) hb); have HO108 := aK (Kd.S_lower ho0 (below_size (pS HB.out))); replace BK101 := bB BK101 hb; replace HB := bS HB hb; clear HO104; have HO104 := n0_; clear n0_; (try clear hb); (try clear hb2); (try clear hk); (try clear hi); (try clear ho0)))
  go_loopg [4, 6] k (fun kq v4 v6 w' => ∃ (x4_1 : List (List Int)) (x6_1 : Int) (G_ : Nat → Prop), v6 = .int .i64 x6_1 ∧ Aside0 (spec_GroupsOf.l0 kq x4_1 t106 x6_1 = some (r1, r2)) ∧ Aside0 (kq ≤ k) ∧ Aside0 (Kd.S (Kd.slice 3 (Kd.int .i64)) 24 w' w.heap.size (fun k_ => ¬ G_ k_) v4 x4_1) ∧ Aside0 (Kd.S k86 86 w' w.heap.size (fun k_ => G_ k_) v107 t106) ∧ Aside0 (w'.heap[gb101]? = some (.cells #[(.slice A0_0 l0_0.length c0_0), (.slice A0_1 l0_1.length c0_1)] 26 (0, 0))) ∧ Aside0 (Below w.heap.size w w'))
  case atStart => exact ⟨(y102), (0), (fun k_ => some k_ ≠ (v103 : Value).ownBlock), (by first | rfl | (simp; done) | (simp [*]; done)), H', ⟨Nat.le_refl _⟩, ⟨by (with_reducible repeat (first | apply Kd.S_alloc | apply Kd.S_drewN | apply Kd.S_drew)); exact Kd.S_mono (by have h_ := HO104.out; rw [Ny102.out] at h_ ⊢; exact grp_tight h_) (fun k_ hk h_ => h_ hk)⟩, ⟨by (with_reducible repeat (first | apply Kd.S_alloc | apply Kd.S_drewN | apply Kd.S_drew)); exact Kd.S_mono (Kd.S_apart' HO108.out (Kd.S_typed HO104.out) (by decide)) (fun _ hk => hk.2)⟩, ⟨by refine bk ?_; exact BK101.out⟩, ⟨pT HB.out⟩⟩
  case round =>
   clear H'
   try clear c2
   try clear p2
   try clear c3
   try clear c4
   try clear c6
   try clear hcz10_0
   try clear hcz10_1
   try clear hcz8_0
   try clear hcz8_1
   try clear hfz10_0
   try clear hfz10_1
   try clear hfz8_0
   try clear hfz8_1
   obtain ⟨x4_1, x6_1, G_, rfl, HA, HK1, HO_4, HO_5, BK101, HB⟩ := hrel
   cases gk with
   | zero => exact absurd HA.out (by simp [spec_GroupsOf.l0])
   | succ k1 =>
    have H := HA.out
    clear HA
    simp only [spec_GroupsOf.l0] at H
    by_cases c12 : x6_1 < (t106.length : Int)
    ·
     rw [if_pos c12] at H
     have c12b0 : decide (x6_1 < (t106.length : Int)) = true := decide_eq_true c12
     clear c12
     by_cases c13 : x6_1 > 0
     ·
      rw [if_pos c13] at H
      have c13b0 : decide (0 < x6_1) = true := decide_eq_true c13
      clear c13
      obtain ⟨ji14, hji14⟩ : ∃ j_ : Int, (wrap64 (x6_1 - 1)) = j_ := ⟨_, rfl⟩
      replace H : (if 0 ≤ (ji14) then (if (ji14) < (t106.length : Int) then (if 0 ≤ x6_1 then (if (wrap64 (((rd_T86 t106 (ji14)).f2) * ((rd_T86 t106 x6_1).f1))) = (wrap64 (((rd_T86 t106 x6_1).f2) * ((rd_T86 t106 (ji14)).f1))) then (if 0 ≤ (wrap64 ((x4_1.length : Int) - 1)) then (if (wrap64 ((x4_1.length : Int) - 1)) < (x4_1.length : Int) then (if (rd_L3 x4_1 (wrap64 ((x4_1.length : Int) - 1))).length + ((rd_T86 t106 x6_1).f0).length < 17592186044416 then (spec_GroupsOf.l0 k1 (x4_1.set ((wrap64 ((x4_1.length : Int) - 1)) : Int).toNat ((rd_L3 x4_1 (wrap64 ((x4_1.length : Int) - 1))) ++ ((rd_T86 t106 x6_1).f0))) t106 (wrap64 (x6_1 + 1))) else (none)) else (none)) else (none)) else ((spec_l1Own.f ((rd_T86 t106 x6_1).f0)).bind fun t120 => (if x4_1.length < 5864062014805 then (spec_GroupsOf.l0 k1 (x4_1 ++ [t120]) t106 (wrap64 (x6_1 + 1))) else (none)))) else (none)) else (none)) else (none)) = some (r1, r2) := by first | (rw [hji14] at H; exact H) | (simp only [hji14] at H ⊢; exact H)
      have hji14w : (IntKind.i64.wrap (x6_1 - 1)) = ji14 := (i64_w _).trans hji14
      by_cases c15 : 0 ≤ (ji14)
      ·
       rw [if_pos c15] at H
       have c15b0 : decide (0 ≤ (ji14)) = true := decide_eq_true c15
       clear c15
       by_cases c16 : (ji14) < (t106.length : Int)
       ·
        rw [if_pos c16] at H
        have c16b0 : decide ((ji14) < (t106.length : Int)) = true := decide_eq_true c16
        clear c16
        by_cases c17 : 0 ≤ x6_1
        ·
         rw [if_pos c17] at H
         have c17b0 : decide (0 ≤ x6_1) = true := decide_eq_true c17
         clear c17
         by_cases c18 : (wrap64 (((rd_T86 t106 (ji14)).f2) * ((rd_T86 t106 x6_1).f1))) = (wrap64 (((rd_T86 t106 x6_1).f2) * ((rd_T86 t106 (ji14)).f1)))
         ·
          rw [if_pos c18] at H
          have c18b0 : ((wrap64 (((rd_T86 t106 (ji14)).f2) * ((rd_T86 t106 x6_1).f1))) == (wrap64 (((rd_T86 t106 x6_1).f2) * ((rd_T86 t106 (ji14)).f1)))) = true := beq_iff_eq.mpr c18
          have c18b1 : ((wrap64 (((rd_T86 t106 (ji14)).f2) * ((rd_T86 t106 x6_1).f1))) != (wrap64 (((rd_T86 t106 x6_1).f2) * ((rd_T86 t106 (ji14)).f1)))) = false := bne_eq_false_iff_eq.mpr c18
          clear c18
          obtain ⟨ji19, hji19⟩ : ∃ j_ : Int, (wrap64 ((x4_1.length : Int) - 1)) = j_ := ⟨_, rfl⟩
          replace H : (if 0 ≤ (ji19) then (if (ji19) < (x4_1.length : Int) then (if (rd_L3 x4_1 (ji19)).length + ((rd_T86 t106 x6_1).f0).length < 17592186044416 then (spec_GroupsOf.l0 k1 (x4_1.set ((ji19) : Int).toNat ((rd_L3 x4_1 (ji19)) ++ ((rd_T86 t106 x6_1).f0))) t106 (wrap64 (x6_1 + 1))) else (none)) else (none)) else (none)) = some (r1, r2) := by first | (rw [hji19] at H; exact H) | (simp only [hji19] at H ⊢; exact H)
          have hji19w : (IntKind.i64.wrap ((x4_1.length : Int) - 1)) = ji19 := (i64_w _).trans hji19
          by_cases c20 : 0 ≤ (ji19)
          ·
           rw [if_pos c20] at H
           have c20b0 : decide (0 ≤ (ji19)) = true := decide_eq_true c20
           clear c20
           by_cases c21 : (ji19) < (x4_1.length : Int)
           ·
            rw [if_pos c21] at H
            have c21b0 : decide ((ji19) < (x4_1.length : Int)) = true := decide_eq_true c21
            clear c21
            by_cases c22 : (rd_L3 x4_1 (ji19)).length + ((rd_T86 t106 x6_1).f0).length < 17592186044416
            ·
             rw [if_pos c22] at H
             have LMc22 := Aside0.mk c22
             clear c22
             obtain ⟨y115, hy115⟩ : ∃ y_ : List Int, y_ = ((rd_L3 x4_1 (ji19)) ++ ((rd_T86 t106 x6_1).f0)) := ⟨_, rfl⟩
             replace H : (spec_GroupsOf.l0 k1 (x4_1.set ((ji19) : Int).toNat y115) t106 (wrap64 (x6_1 + 1))) = some (r1, r2) := by first | (rw [hy115]; with_reducible exact H) | (have H2_ := (Option.bind_some _ _).symm.trans H; rw [hy115]; with_reducible exact H2_) | (have H2_ := (Option.bind_some _ _).symm.trans H; with_reducible exact H2_) | with_reducible exact H | (rw [hy115]; exact H) | exact H
             have Ny115 := Aside0.mk hy115
             clear hy115
             obtain ⟨y118, hy118⟩ : ∃ y_ : List (List Int), y_ = (x4_1.set ((ji19) : Int).toNat y115) := ⟨_, rfl⟩
             replace H : (spec_GroupsOf.l0 k1 y118 t106 (wrap64 (x6_1 + 1))) = some (r1, r2) := by first | (rw [hy118]; with_reducible exact H) | (have H2_ := (Option.bind_some _ _).symm.trans H; rw [hy118]; with_reducible exact H2_) | (have H2_ := (Option.bind_some _ _).symm.trans H; with_reducible exact H2_) | with_reducible exact H | (rw [hy118]; exact H) | exact H
             have Ny118 := Aside0.mk hy118
             clear hy118
             have H' := Aside0.mk H
             clear H
             obtain ⟨Ao24, co24, eo24⟩ := Kd.S_slice HO_5.out
             subst eo24
             obtain ⟨Ao25, co25, eo25⟩ := Kd.S_slice HO_4.out
             subst eo25
             try go_wp2
             have n0_ := aK (Kd.S_drew HO_4.out)
             have n1_ := aK (Kd.S_drew HO_5.out)
             have n2_ := aK (blk_drew BK101.out)
             have n3_ := aK (below_drew1 HB.out)
             clear HO_4 HO_5 BK101 HB
             have HO_4 := n0_
             have HO_5 := n1_
             have BK101 := n2_
             have HB := n3_
             clear n0_ n1_ n2_ n3_
             have p109 : 0 ≤ ((ji14) : Int) := of_decide_eq_true (by first | (with_reducible assumption) | assumption)
             have q109 : (ji14) < (t106.length : Int) := of_decide_eq_true (by first | (with_reducible assumption) | assumption)
             obtain ⟨ad109, A109_0, c109_0, e109, hx109_0, hx109_1, hx109_2, hl109_0, hi109_0⟩ := at_T86 (Kd.S_reads' HO_5.out).2.2 (ji14) p109 q109
             cases e109
             obtain ⟨ce109, hce109, hMe109, hcc109⟩ := Kd.S_get HO_5.out z86 (ji14) p109 (by first | exact q109 | exact of_decide_eq_true (by first | (with_reducible assumption) | assumption) | (have e_ := (Kd.S_reads' HO_5.out).1; omega))
             obtain ⟨ve109_0, rfl, ge109_0⟩ := k86_openM hMe109
             have hv109_0 := hcc109 0 _ rfl
             rw [Nat.add_zero] at hv109_0
             replace hv109_0 := Option.some.inj (hv109_0.symm.trans hx109_0)
             rw [hv109_0] at ge109_0
             have HL109_0 := aK (show Kd.R (Kd.int .i64) 3 _ _ _ _ ((rd_T86 t106 (ji14)).f0) from ge109_0)
             clear hv109_0 ge109_0
             have HX109_0 := Aside0.mk hx109_0
             clear hcc109 hce109
             have HR109_0 := Aside0.mk hi109_0
             have HC109_0 := Aside0.mk hl109_0
             clear hi109_0 hl109_0
             replace p109 := eq_true p109
             replace q109 := eq_true q109
             have p110 : 0 ≤ (x6_1 : Int) := of_decide_eq_true (by first | (with_reducible assumption) | assumption)
             have q110 : x6_1 < (t106.length : Int) := of_decide_eq_true (by first | (with_reducible assumption) | assumption)
             obtain ⟨ad110, A110_0, c110_0, e110, hx110_0, hx110_1, hx110_2, hl110_0, hi110_0⟩ := at_T86 (Kd.S_reads' HO_5.out).2.2 x6_1 p110 q110
             obtain rfl : ad109 = ad110 := (by injection e110)
             obtain ⟨ce110, hce110, hMe110, hcc110⟩ := Kd.S_get HO_5.out z86 x6_1 p110 (by first | exact q110 | exact of_decide_eq_true (by first | (with_reducible assumption) | assumption) | (have e_ := (Kd.S_reads' HO_5.out).1; omega))
             obtain ⟨ve110_0, rfl, ge110_0⟩ := k86_openM hMe110
             have hv110_0 := hcc110 0 _ rfl
             rw [Nat.add_zero] at hv110_0
             replace hv110_0 := Option.some.inj (hv110_0.symm.trans hx110_0)
             rw [hv110_0] at ge110_0
             have HL110_0 := aK (show Kd.R (Kd.int .i64) 3 _ _ _ _ ((rd_T86 t106 x6_1).f0) from ge110_0)
             clear hv110_0 ge110_0
             have HX110_0 := Aside0.mk hx110_0
             clear hcc110 hce110
             have HR110_0 := Aside0.mk hi110_0
             have HC110_0 := Aside0.mk hl110_0
             clear hi110_0 hl110_0
             replace p110 := eq_true p110
             replace q110 := eq_true q110
             have p111 : 0 ≤ (x6_1 : Int) := of_decide_eq_true (by first | (with_reducible assumption) | assumption)
             have q111 : x6_1 < (t106.length : Int) := of_decide_eq_true (by first | (with_reducible assumption) | assumption)
             obtain ⟨ad111, A111_0, c111_0, e111, hx111_0, hx111_1, hx111_2, hl111_0, hi111_0⟩ := at_T86 (Kd.S_reads' HO_5.out).2.2 x6_1 p111 q111
             obtain rfl : ad109 = ad111 := (by injection e111)
             obtain ⟨ce111, hce111, hMe111, hcc111⟩ := Kd.S_get HO_5.out z86 x6_1 p111 (by first | exact q111 | exact of_decide_eq_true (by first | (with_reducible assumption) | assumption) | (have e_ := (Kd.S_reads' HO_5.out).1; omega))
             obtain ⟨ve111_0, rfl, ge111_0⟩ := k86_openM hMe111
             have hv111_0 := hcc111 0 _ rfl
             rw [Nat.add_zero] at hv111_0
             replace hv111_0 := Option.some.inj (hv111_0.symm.trans hx111_0)
             rw [hv111_0] at ge111_0
             have HL111_0 := aK (show Kd.R (Kd.int .i64) 3 _ _ _ _ ((rd_T86 t106 x6_1).f0) from ge111_0)
             clear hv111_0 ge111_0
             have HX111_0 := Aside0.mk hx111_0
             clear hcc111 hce111
             have HR111_0 := Aside0.mk hi111_0
             have HC111_0 := Aside0.mk hl111_0
             clear hi111_0 hl111_0
             replace p111 := eq_true p111
             replace q111 := eq_true q111
             have ea_ := Option.some.inj (hx110_0.symm.trans hx111_0)
             injection ea_ with ea_ en_ ec_
             subst ea_
             subst ec_
             clear en_
             have p112 : 0 ≤ ((ji14) : Int) := of_decide_eq_true (by first | (with_reducible assumption) | assumption)
             have q112 : (ji14) < (t106.length : Int) := of_decide_eq_true (by first | (with_reducible assumption) | assumption)
             obtain ⟨ad112, A112_0, c112_0, e112, hx112_0, hx112_1, hx112_2, hl112_0, hi112_0⟩ := at_T86 (Kd.S_reads' HO_5.out).2.2 (ji14) p112 q112
             obtain rfl : ad109 = ad112 := (by injection e112)
             obtain ⟨ce112, hce112, hMe112, hcc112⟩ := Kd.S_get HO_5.out z86 (ji14) p112 (by first | exact q112 | exact of_decide_eq_true (by first | (with_reducible assumption) | assumption) | (have e_ := (Kd.S_reads' HO_5.out).1; omega))
             obtain ⟨ve112_0, rfl, ge112_0⟩ := k86_openM hMe112
             have hv112_0 := hcc112 0 _ rfl
             rw [Nat.add_zero] at hv112_0
             replace hv112_0 := Option.some.inj (hv112_0.symm.trans hx112_0)
             rw [hv112_0] at ge112_0
             have HL112_0 := aK (show Kd.R (Kd.int .i64) 3 _ _ _ _ ((rd_T86 t106 (ji14)).f0) from ge112_0)
             clear hv112_0 ge112_0
             have HX112_0 := Aside0.mk hx112_0
             clear hcc112 hce112
             have HR112_0 := Aside0.mk hi112_0
             have HC112_0 := Aside0.mk hl112_0
             clear hi112_0 hl112_0
             replace p112 := eq_true p112
             replace q112 := eq_true q112
             have ea_ := Option.some.inj (hx109_0.symm.trans hx112_0)
             injection ea_ with ea_ en_ ec_
             subst ea_
             subst ec_
             clear en_
             refine start_ (n := 29) (S := fun w' => w'.cell? (ad109.add (((ji14)).toNat * 3)) = some (.slice A109_0 ((rd_T86 t106 (ji14)).f0).length c109_0) ∧ w'.cell? ⟨(ad109.add (((ji14)).toNat * 3)).block, (ad109.add (((ji14)).toNat * 3)).off + 1, none⟩ = some (.int .i64 ((rd_T86 t106 (ji14)).f1)) ∧ w'.cell? ⟨(ad109.add (((ji14)).toNat * 3)).block, (ad109.add (((ji14)).toNat * 3)).off + 2, none⟩ = some (.int .i64 ((rd_T86 t106 (ji14)).f2)) ∧ w'.cell? (ad109.add ((x6_1).toNat * 3)) = some (.slice A110_0 ((rd_T86 t106 x6_1).f0).length c110_0) ∧ w'.cell? ⟨(ad109.add ((x6_1).toNat * 3)).block, (ad109.add ((x6_1).toNat * 3)).off + 1, none⟩ = some (.int .i64 ((rd_T86 t106 x6_1).f1)) ∧ w'.cell? ⟨(ad109.add ((x6_1).toNat * 3)).block, (ad109.add ((x6_1).toNat * 3)).off + 2, none⟩ = some (.int .i64 ((rd_T86 t106 x6_1).f2)) ∧ w'.cell? (ad109.add ((x6_1).toNat * 3)) = some (.slice A110_0 ((rd_T86 t106 x6_1).f0).length c110_0) ∧ w'.cell? ⟨(ad109.add ((x6_1).toNat * 3)).block, (ad109.add ((x6_1).toNat * 3)).off + 1, none⟩ = some (.int .i64 ((rd_T86 t106 x6_1).f1)) ∧ w'.cell? ⟨(ad109.add ((x6_1).toNat * 3)).block, (ad109.add ((x6_1).toNat * 3)).off + 2, none⟩ = some (.int .i64 ((rd_T86 t106 x6_1).f2)) ∧ w'.cell? (ad109.add (((ji14)).toNat * 3)) = some (.slice A109_0 ((rd_T86 t106 (ji14)).f0).length c109_0) ∧ w'.cell? ⟨(ad109.add (((ji14)).toNat * 3)).block, (ad109.add (((ji14)).toNat * 3)).off + 1, none⟩ = some (.int .i64 ((rd_T86 t106 (ji14)).f1)) ∧ w'.cell? ⟨(ad109.add (((ji14)).toNat * 3)).block, (ad109.add (((ji14)).toNat * 3)).off + 2, none⟩ = some (.int .i64 ((rd_T86 t106 (ji14)).f2))) (ds := []) #[false, false, false, false, false, false, false, false, false, false, false, false, false, false, false, false, false, false, false, false, false, false, false, false, false, false, false, false, false] (by kernel_rfl) rfl rfl ⟨hx109_0, hx109_1, hx109_2, hx110_0, hx110_1, hx110_2, hx111_0, hx111_1, hx111_2, hx112_0, hx112_1, hx112_2⟩ (fun hHeld => ?_); refine with_tabW spec_GroupsOf.tab9 spec_GroupsOf.bits9 (fun HT_ HW_ => ?_)
             generalize wr.drew = w26 at HO_4 HO_5 BK101 HB HL109_0 HL110_0 HL111_0 HL112_0 HR109_0 HR110_0 HR111_0 HR112_0 HX109_0 HX110_0 HX111_0 HX112_0 hx109_0 hx109_1 hx109_2 hx110_0 hx110_1 hx110_2 hx111_0 hx111_1 hx111_2 hx112_0 hx112_1 hx112_2 hHeld ⊢
             refine pu (i := 0) (N := some 23) #[true, false, false, false, false, false, false, false, false, false, false, false, false, false, false, false, false, false, false, false, false, false, false, false, false, false, false, false, false] rfl rfl HT_.out ?_
             refine pu (i := 1) (N := some 24) #[true, true, false, false, false, false, false, false, false, false, false, false, false, false, false, false, false, false, false, false, false, false, false, false, false, false, false, false, false] rfl rfl HT_.out ?_
             refine pu (i := 2) (N := some 25) #[true, true, true, false, false, false, false, false, false, false, false, false, false, false, false, false, false, false, false, false, false, false, false, false, false, false, false, false, false] rfl rfl HT_.out ?_
             refine pu (i := 3) (N := some 26) #[true, true, true, true, false, false, false, false, false, false, false, false, false, false, false, false, false, false, false, false, false, false, false, false, false, false, false, false, false] rfl rfl HT_.out ?_
             refine pu (i := 4) (N := some 27) #[true, true, true, true, true, false, false, false, false, false, false, false, false, false, false, false, false, false, false, false, false, false, false, false, false, false, false, false, false] rfl rfl HT_.out ?_
             refine pu (i := 5) (N := some 28) #[true, true, true, true, true, true, false, false, false, false, false, false, false, false, false, false, false, false, false, false, false, false, false, false, false, false, false, false, false] rfl rfl HT_.out ?_
             refine pu (i := 6) (N := some 29) #[true, true, true, true, true, true, true, false, false, false, false, false, false, false, false, false, false, false, false, false, false, false, false, false, false, false, false, false, false] rfl rfl HT_.out ?_
             refine pu (i := 7) (N := some 30) #[true, true, true, true, true, true, true, true, false, false, false, false, false, false, false, false, false, false, false, false, false, false, false, false, false, false, false, false, false] rfl rfl HT_.out ?_
             refine pu (i := 9) (N := some 32) #[true, true, true, true, true, true, true, true, false, true, false, false, false, false, false, false, false, false, false, false, false, false, false, false, false, false, false, false, false] rfl rfl HT_.out ?_
             refine pu (i := 10) (N := some 33) #[true, true, true, true, true, true, true, true, false, true, true, false, false, false, false, false, false, false, false, false, false, false, false, false, false, false, false, false, false] rfl rfl HT_.out ?_
             refine pu (i := 11) (N := some 34) #[true, true, true, true, true, true, true, true, false, true, true, true, false, false, false, false, false, false, false, false, false, false, false, false, false, false, false, false, false] rfl rfl HT_.out ?_
             refine pu (i := 12) (N := some 35) #[true, true, true, true, true, true, true, true, false, true, true, true, true, false, false, false, false, false, false, false, false, false, false, false, false, false, false, false, false] rfl rfl HT_.out ?_
             refine pu (i := 15) (N := some 38) #[true, true, true, true, true, true, true, true, false, true, true, true, true, false, false, true, false, false, false, false, false, false, false, false, false, false, false, false, false] rfl rfl HT_.out ?_
             refine pu (i := 16) (N := some 39) #[true, true, true, true, true, true, true, true, false, true, true, true, true, false, false, true, true, false, false, false, false, false, false, false, false, false, false, false, false] rfl rfl HT_.out ?_
             refine pu (i := 17) (N := some 40) #[true, true, true, true, true, true, true, true, false, true, true, true, true, false, false, true, true, true, false, false, false, false, false, false, false, false, false, false, false] rfl rfl HT_.out ?_
             refine pu (i := 18) (N := some 41) #[true, true, true, true, true, true, true, true, false, true, true, true, true, false, false, true, true, true, true, false, false, false, false, false, false, false, false, false, false] rfl rfl HT_.out ?_
             refine pu (i := 20) (N := some 43) #[true, true, true, true, true, true, true, true, false, true, true, true, true, false, false, true, true, true, true, false, true, false, false, false, false, false, false, false, false] rfl rfl HT_.out ?_
             refine pu (i := 21) (N := some 44) #[true, true, true, true, true, true, true, true, false, true, true, true, true, false, false, true, true, true, true, false, true, true, false, false, false, false, false, false, false] rfl rfl HT_.out ?_
             refine pu (i := 22) (N := some 45) #[true, true, true, true, true, true, true, true, false, true, true, true, true, false, false, true, true, true, true, false, true, true, true, false, false, false, false, false, false] rfl rfl HT_.out ?_
             refine pu (i := 23) (N := some 46) #[true, true, true, true, true, true, true, true, false, true, true, true, true, false, false, true, true, true, true, false, true, true, true, true, false, false, false, false, false] rfl rfl HT_.out ?_
             refine pu (i := 24) (N := some 47) #[true, true, true, true, true, true, true, true, false, true, true, true, true, false, false, true, true, true, true, false, true, true, true, true, true, false, false, false, false] rfl rfl HT_.out ?_
             refine tk (i := 8) (N := some 31) #[true, true, true, true, true, true, true, true, true, true, true, true, true, false, false, true, true, true, true, false, true, true, true, true, true, false, false, false, false] rfl rfl HT_.out HW_.out (Or.inl ⟨by rfl, by rintro w' ⟨s0, s1, s2, s3, s4, s5, s6, s7, s8, s9, s10, s11⟩; go_simp; with_reducible rfl⟩) hHeld ?_
             refine tk (i := 13) (N := some 36) #[true, true, true, true, true, true, true, true, true, true, true, true, true, true, false, true, true, true, true, false, true, true, true, true, true, false, false, false, false] rfl rfl HT_.out HW_.out (Or.inl ⟨by rfl, by rintro w' ⟨s0, s1, s2, s3, s4, s5, s6, s7, s8, s9, s10, s11⟩; go_simp; with_reducible rfl⟩) hHeld ?_
             refine pu (i := 14) (N := some 37) #[true, true, true, true, true, true, true, true, true, true, true, true, true, true, true, true, true, true, true, false, true, true, true, true, true, false, false, false, false] rfl rfl HT_.out ?_
             refine tk (i := 19) (N := some 42) #[true, true, true, true, true, true, true, true, true, true, true, true, true, true, true, true, true, true, true, true, true, true, true, true, true, false, false, false, false] rfl rfl HT_.out HW_.out (Or.inl ⟨by rfl, by rintro w' ⟨s0, s1, s2, s3, s4, s5, s6, s7, s8, s9, s10, s11⟩; go_simp; with_reducible rfl⟩) hHeld ?_
             refine tk (i := 25) (N := some 48) #[true, true, true, true, true, true, true, true, true, true, true, true, true, true, true, true, true, true, true, true, true, true, true, true, true, true, false, false, false] rfl rfl HT_.out HW_.out (Or.inl ⟨by rfl, by rintro w' ⟨s0, s1, s2, s3, s4, s5, s6, s7, s8, s9, s10, s11⟩; go_simp; with_reducible rfl⟩) hHeld ?_
             refine pu (i := 26) (N := some 49) #[true, true, true, true, true, true, true, true, true, true, true, true, true, true, true, true, true, true, true, true, true, true, true, true, true, true, true, false, false] rfl rfl HT_.out ?_
             refine pu (i := 27) (N := some 50) #[true, true, true, true, true, true, true, true, true, true, true, true, true, true, true, true, true, true, true, true, true, true, true, true, true, true, true, true, false] rfl rfl HT_.out ?_
             refine pu (i := 28) (N := some 51) #[true, true, true, true, true, true, true, true, true, true, true, true, true, true, true, true, true, true, true, true, true, true, true, true, true, true, true, true, true] rfl rfl HT_.out ?_
             refine done_ (done_of HT_.out (by kernel_rfl)) ?_
             try go_wp2
             have n0_ := aK (Kd.S_drew HO_4.out)
             have n1_ := aK (Kd.S_drew HO_5.out)
             have n2_ := aK (Kd.R_drew HL109_0.out)
             have n3_ := aK (Kd.R_drew HL110_0.out)
             have n4_ := aK (Kd.R_drew HL111_0.out)
             have n5_ := aK (Kd.R_drew HL112_0.out)
             have n6_ := aK (blk_drew BK101.out)
             have n7_ := aK (Kd.C_drew HR109_0.out)
             have n8_ := aK (Kd.C_drew HR110_0.out)
             have n9_ := aK (Kd.C_drew HR111_0.out)
             have n10_ := aK (Kd.C_drew HR112_0.out)
             have n11_ := aK (below_drew1 HB.out)
             clear HO_4 HO_5 HL109_0 HL110_0 HL111_0 HL112_0 BK101 HR109_0 HR110_0 HR111_0 HR112_0 HB
             have HO_4 := n0_
             have HO_5 := n1_
             have HL109_0 := n2_
             have HL110_0 := n3_
             have HL111_0 := n4_
             have HL112_0 := n5_
             have BK101 := n6_
             have HR109_0 := n7_
             have HR110_0 := n8_
             have HR111_0 := n9_
             have HR112_0 := n10_
             have HB := n11_
             clear n0_ n1_ n2_ n3_ n4_ n5_ n6_ n7_ n8_ n9_ n10_ n11_
             have p113 : 0 ≤ ((ji19) : Int) := of_decide_eq_true (by first | (with_reducible assumption) | assumption)
             have q113 : (ji19) < (x4_1.length : Int) := of_decide_eq_true (by first | (with_reducible assumption) | assumption)
             obtain ⟨ad113, A113_0, c113_0, e113, hx113_0, hl113_0, hi113_0⟩ := at_L3 (Kd.S_reads' HO_4.out).2.2 (ji19) p113 q113
             cases e113
             obtain ⟨ce113, hce113, hMe113, hcc113⟩ := Kd.S_get HO_4.out [] (ji19) p113 (by first | exact q113 | exact of_decide_eq_true (by first | (with_reducible assumption) | assumption) | (have e_ := (Kd.S_reads' HO_4.out).1; omega))
             obtain ⟨ve113_0, rfl, ge113_0⟩ := hMe113
             have hv113_0 := hcc113 0 _ rfl
             rw [Nat.add_zero, show ((Kd.slice 3 (Kd.int .i64))).sz = 1 from rfl, Nat.mul_one] at hv113_0
             replace hv113_0 := Option.some.inj (hv113_0.symm.trans hx113_0)
             rw [hv113_0] at ge113_0
             have HL113_0 := aK (show Kd.R (Kd.int .i64) 3 _ _ _ _ (rd_L3 x4_1 (ji19)) from ge113_0)
             clear hv113_0 ge113_0
             have HX113_0 := Aside0.mk hx113_0
             clear hcc113 hce113
             have HR113_0 := Aside0.mk hi113_0
             have HC113_0 := Aside0.mk hl113_0
             clear hi113_0 hl113_0
             replace p113 := eq_true p113
             replace q113 := eq_true q113
             have p114 : 0 ≤ (x6_1 : Int) := of_decide_eq_true (by first | (with_reducible assumption) | assumption)
             have q114 : x6_1 < (t106.length : Int) := of_decide_eq_true (by first | (with_reducible assumption) | assumption)
             obtain ⟨ad114, A114_0, c114_0, e114, hx114_0, hx114_1, hx114_2, hl114_0, hi114_0⟩ := at_T86 (Kd.S_reads' HO_5.out).2.2 x6_1 p114 q114
             obtain rfl : ad109 = ad114 := (by injection e114)
             obtain ⟨ce114, hce114, hMe114, hcc114⟩ := Kd.S_get HO_5.out z86 x6_1 p114 (by first | exact q114 | exact of_decide_eq_true (by first | (with_reducible assumption) | assumption) | (have e_ := (Kd.S_reads' HO_5.out).1; omega))
             obtain ⟨ve114_0, rfl, ge114_0⟩ := k86_openM hMe114
             have hv114_0 := hcc114 0 _ rfl
             rw [Nat.add_zero] at hv114_0
             replace hv114_0 := Option.some.inj (hv114_0.symm.trans hx114_0)
             rw [hv114_0] at ge114_0
             have HL114_0 := aK (show Kd.R (Kd.int .i64) 3 _ _ _ _ ((rd_T86 t106 x6_1).f0) from ge114_0)
             clear hv114_0 ge114_0
             have HX114_0 := Aside0.mk hx114_0
             clear hcc114 hce114
             have HR114_0 := Aside0.mk hi114_0
             have HC114_0 := Aside0.mk hl114_0
             clear hi114_0 hl114_0
             replace p114 := eq_true p114
             replace q114 := eq_true q114
             obtain ⟨go28, co28, eo28, gb28, gl28, cl28, HG28⟩ := Kd.S_form HO_4.out (by have h_ : ((ji19) : Int) < ((x4_1.length : Int) : Int) := of_decide_eq_true (by first | (with_reducible assumption) | assumption); have h2_ : 0 ≤ ((ji19) : Int) := (of_decide_eq_true (by first | (with_reducible assumption) | assumption)); omega)
             (first | cases eo28 | (injection eo28 with ea_ en_ ec_; (first | subst ea_ | (injection ea_ with ea_; subst ea_)); subst ec_; clear en_))
             have GB28 := Aside0.mk gb28
             have GG28 := Aside0.mk HG28
             clear gb28 gl28 HG28
             (first | simp only [add_plain] at hx113_0 | skip)
             obtain ⟨oki28, ce28, hcl28, hM28, hcc28, _, _, hH28⟩ := Kd.S_elem HO_4.out [] ((ji19) : Int) (of_decide_eq_true (by first | (with_reducible assumption) | assumption)) (by have h_ : ((ji19) : Int) < ((x4_1.length : Int) : Int) := of_decide_eq_true (by first | (with_reducible assumption) | assumption); first | exact h_ | (have e_ := (Kd.S_reads' HO_4.out).1; omega) | simpa using h_)
             obtain ⟨ve28_0, rfl, ge28_0⟩ := hM28
             have hv28 := hcc28 0 _ rfl
             have hX28 := HX113_0.out
             (try simp only [add_plain] at hX28)
             (try simp only [Nat.add_zero] at hv28)
             (try rw [show ((Kd.slice 3 (Kd.int .i64))).sz = 1 from rfl, Nat.mul_one] at hv28)
             replace hv28 := Option.some.inj (hv28.symm.trans hX28)
             subst hv28
             clear hX28 hcc28 hcl28
             have UU28 := aK (show Kd.R (Kd.int .i64) 3 _ w.heap.size oki28 (.slice A113_0 (rd_L3 x4_1 (ji19)).length c113_0) (rd_L3 x4_1 (ji19)) from ge28_0)
             have HH28 := Aside0.mk hH28
             have HN28 := aK (Kd.S_reads' HO_4.out).1
             clear hH28 ge28_0
             refine start_ (n := 16) (S := fun w' => w'.cell? ⟨go28, ((ji19)).toNat, none⟩ = some (.slice A113_0 (rd_L3 x4_1 (ji19)).length c113_0) ∧ w'.cell? (ad109.add ((x6_1).toNat * 3)) = some (.slice A114_0 ((rd_T86 t106 x6_1).f0).length c114_0) ∧ w'.cell? ⟨(ad109.add ((x6_1).toNat * 3)).block, (ad109.add ((x6_1).toNat * 3)).off + 1, none⟩ = some (.int .i64 ((rd_T86 t106 x6_1).f1)) ∧ w'.cell? ⟨(ad109.add ((x6_1).toNat * 3)).block, (ad109.add ((x6_1).toNat * 3)).off + 2, none⟩ = some (.int .i64 ((rd_T86 t106 x6_1).f2))) (ds := [13, 15]) #[false, false, false, false, false, false, false, false, false, false, false, false, false, false, false, false] (by kernel_rfl) rfl rfl ⟨hx113_0, hx114_0, hx114_1, hx114_2⟩ (fun hHeld => ?_); refine with_tabW spec_GroupsOf.tab10 spec_GroupsOf.bits10 (fun HT_ HW_ => ?_)
             generalize w26.drew = w27 at HO_4 HO_5 HL109_0 HL110_0 HL111_0 HL112_0 BK101 HR109_0 HR110_0 HR111_0 HR112_0 HB GG28 HH28 HL113_0 HL114_0 HR113_0 HR114_0 HX113_0 HX114_0 UU28 hx113_0 hx114_0 hx114_1 hx114_2 hHeld ⊢
             refine pu (i := 0) (N := some 52) #[true, false, false, false, false, false, false, false, false, false, false, false, false, false, false, false] rfl rfl HT_.out ?_
             refine pu (i := 1) (N := some 53) #[true, true, false, false, false, false, false, false, false, false, false, false, false, false, false, false] rfl rfl HT_.out ?_
             refine pu (i := 2) (N := some 54) #[true, true, true, false, false, false, false, false, false, false, false, false, false, false, false, false] rfl rfl HT_.out ?_
             refine pu (i := 3) (N := some 55) #[true, true, true, true, false, false, false, false, false, false, false, false, false, false, false, false] rfl rfl HT_.out ?_
             refine pu (i := 4) (N := some 56) #[true, true, true, true, true, false, false, false, false, false, false, false, false, false, false, false] rfl rfl HT_.out ?_
             refine pu (i := 5) (N := some 57) #[true, true, true, true, true, true, false, false, false, false, false, false, false, false, false, false] rfl rfl HT_.out ?_
             refine pu (i := 6) (N := some 58) #[true, true, true, true, true, true, true, false, false, false, false, false, false, false, false, false] rfl rfl HT_.out ?_
             refine pu (i := 8) (N := some 60) #[true, true, true, true, true, true, true, false, true, false, false, false, false, false, false, false] rfl rfl HT_.out ?_
             refine pu (i := 9) (N := some 61) #[true, true, true, true, true, true, true, false, true, true, false, false, false, false, false, false] rfl rfl HT_.out ?_
             refine pu (i := 10) (N := some 62) #[true, true, true, true, true, true, true, false, true, true, true, false, false, false, false, false] rfl rfl HT_.out ?_
             refine pu (i := 11) (N := some 63) #[true, true, true, true, true, true, true, false, true, true, true, true, false, false, false, false] rfl rfl HT_.out ?_
             refine tk (i := 7) (N := some 59) #[true, true, true, true, true, true, true, true, true, true, true, true, false, false, false, false] rfl rfl HT_.out HW_.out (Or.inl ⟨by rfl, by rintro w' ⟨s0, s1, s2, s3⟩; go_simp; with_reducible rfl⟩) hHeld ?_
             refine tk (i := 12) (N := some 64) #[true, true, true, true, true, true, true, true, true, true, true, true, true, false, false, false] rfl rfl HT_.out HW_.out (Or.inl ⟨by rfl, by rintro w' ⟨s0, s1, s2, s3⟩; go_simp; with_reducible rfl⟩) hHeld ?_
             refine last_ (i := 13) (N := some 65) #[true, true, true, true, true, true, true, true, true, true, true, true, true, true, false, false] rfl rfl (one_of HT_.out (by kernel_rfl)) (by decide) (fun K hK => ?_)
             refine Kd.R_append_rows_step (Kd.int .i64) (w0 := w) w.heap.size (by rfl) (.tmp 59) (.tmp 64) 24 3 (.int .i64 0) 8 rfl Try.underlying24 info3 rfl (by decide) (by omega) (.slice A113_0 (rd_L3 x4_1 (ji19)).length c113_0) (rd_L3 x4_1 (ji19)) ((rd_T86 t106 x6_1).f0) _ _ _ (fun k_ => oki28 k_ ∨ (fun k_ => ¬ (G_ k_ ∧ k_ < w27.heap.size)) k_ ∧ w27.heap.size ≤ k_) (fun _ => False) rfl rfl ?aO ?aR (fun _ _ h => h) (fun _ h => h.elim) ?aF ?aB ?aS ?aL ?_
             (case aR => repeat (first | exact (by repeat (first | (with_reducible exact HR114_0.out) | (with_reducible refine Kd.C_alloc ?_ _) | (with_reducible refine Kd.C_drewN ?_ _) | (with_reducible refine Kd.C_drew ?_) | exact HR114_0.out)) | (with_reducible refine Kd.C_alloc ?_ _) | (with_reducible refine Kd.C_drewN ?_ _) | (with_reducible refine Kd.C_drew ?_)))
             (case aB => exact (pS HB.out))
             (case aF => exact (fun k_ hk => .inr ⟨fun h_ => Nat.not_le.2 h_.2 hk, hk⟩))
             (case aO => exact (pR (Kd.R_mono UU28.out (fun _ hk => .inl hk))))
             (case aS => exact (below_size (pS HB.out)))
             (case aL => have := LMc22.out; omega)
             intro v116 w29 ho hb hg hat
             rw [← Ny115.out] at ho
             have n0_ := aK (Kd.S_grown (Kd.S_mono (ok' := fun k_ => G_ k_ ∧ k_ < w27.heap.size) (Kd.S_bound (by (with_reducible repeat (first | apply Kd.S_alloc | apply Kd.S_drewN | apply Kd.S_drew)); exact HO_5.out)) (fun k_ hk => ⟨hk.1, hk.2.2.1⟩)) hg (fun k_ hk_ e_ => HH28.out.1 k_ (UU28.out.1 k_ e_.symm) hk_.1))
             have n1_ := aK (blk_grown (pB BK101.out) hg (Kd.R_ne HL113_0.out BK101.out (by decide)))
             have n2_ := aK (hb)
             have n3_ := aK (Kd.H_grown (Kd.H_widen (Kd.H_mono (ok' := fun k_ => ¬ (G_ k_ ∧ k_ < w27.heap.size)) (by repeat (first | exact HH28.out | refine Kd.H_alloc ?_ _ | refine Kd.H_drewN ?_ _ | refine Kd.H_drew ?_)) (fun k_ (hk : ¬ G_ k_) h_ => hk h_.1))) hg (fun k_ e_ => .inl (UU28.out.1 k_ e_)))
             have HO117 := aK (ho)
             clear HO_5 BK101 HB HH28 HO_4 UU28 HL109_0 HL110_0 HL111_0 HL112_0 HL113_0 HL114_0
             have HO_5 := n0_
             have BK101 := n1_
             have HB := n2_
             have HH28 := n3_
             clear n0_ n1_ n2_ n3_ ho hb hg hat
             have p23 : 0 ≤ ((ji19) : Int) := of_decide_eq_true (by first | (with_reducible assumption) | assumption)
             have q23 : ((ji19) : Int) < ((x4_1.length : Int) : Int) := of_decide_eq_true (by first | (with_reducible assumption) | assumption)
             replace p23 := eq_true p23
             replace q23 := eq_true q23
             obtain ⟨Ao32, co32, eo32⟩ := Kd.R_slice HO117.out
             (first | subst eo32 | (obtain ⟨f4_, f5_⟩ := sI eo32; subst f4_; subst f5_))
             obtain ⟨_, _, hraw30, _, _, hcc30, _⟩ := Kd.H_raw HH28.out (of_decide_eq_true (by first | (with_reducible assumption) | assumption)) (by have h_ : ((ji19) : Int) < ((x4_1.length : Int) : Int) := of_decide_eq_true (by first | (with_reducible assumption) | assumption); first | exact h_ | (have e_ := (HN28.out); omega) | simpa using h_)
             obtain ⟨_, hfr30⟩ := Kd.H_at HH28.out (of_decide_eq_true (by first | (with_reducible assumption) | assumption)) (by have h_ : ((ji19) : Int) < ((x4_1.length : Int) : Int) := of_decide_eq_true (by first | (with_reducible assumption) | assumption); first | exact h_ | (have e_ := (HN28.out); omega) | simpa using h_)
             have hx30_0 := hcc30 0 _ rfl
             have hf30_0 := hfr30 0
             (try simp only [Nat.add_zero] at hx30_0 hf30_0)
             (try rw [show ((Kd.slice 3 (Kd.int .i64))).sz = 1 from rfl, Nat.mul_one] at hx30_0)
             (try rw [show ((Kd.slice 3 (Kd.int .i64))).sz = 1 from rfl, Nat.mul_one] at hf30_0)
             have HP30 := Kd.S_seg0 HH28.out (of_decide_eq_true (by first | (with_reducible assumption) | assumption)) (by have h_ : ((ji19) : Int) < ((x4_1.length : Int) : Int) := of_decide_eq_true (by first | (with_reducible assumption) | assumption); first | exact h_ | (have e_ := (HN28.out); omega) | simpa using h_) (seg := [.slice Ao32 y115.length co32]) (j := 0) (show 1 ≤ 1 from by decide) (x' := y115) (Kd.M_row HO117.out) (fun _ hk => hk)
             (try simp only [show ((Kd.slice 3 (Kd.int .i64))).sz = 1 from rfl, Nat.mul_one, Nat.add_zero] at HP30)
             clear hcc30 hfr30
             have HNB101_go28 := aK (show gb101 ≠ go28 from by have h_ := Kd.R_ne hraw30 BK101.out (by decide); intro e_; exact h_ (by rw [e_]; rfl))
             have HS30 := HP30.1
             rw [← Ny118.out] at HS30
             have HQ30 := Aside0.mk HS30
             obtain ⟨_, hgg30⟩ := Kd.R_typed hraw30 go28 rfl
             have GG30_ := Aside0.mk hgg30
             clear HP30 HS30 hgg30
             refine hK.out _ _ ?_
             clear hK K
             refine norm_ (a' := ?_) ?_ ?_
             rotate_left
             ·
              show Act.put _ (some 65) _ = _
              simp only [sP]
              rfl
             refine pu (i := 14) (N := some 66) #[true, true, true, true, true, true, true, true, true, true, true, true, true, true, true, false] rfl rfl HT_.out ?_
             refine last_ (i := 15) (N := none) #[true, true, true, true, true, true, true, true, true, true, true, true, true, true, true, true] rfl rfl (one_of HT_.out (by kernel_rfl)) (by decide) (fun K hK => ?_)
             refine skip_ (w1 := ?_) (by rfl) rfl ?_ ?_
             rotate_left
             ·
              go_simp
              rfl
             refine hK.out _ _ ?_
             clear hK K
             refine done_ (done_of HT_.out (by kernel_rfl)) ?_
             try go_wp2
             go_roundg k1
             case measure => have := HK1.out; omega
             case rel => exact ⟨(y118), (wrap64 (x6_1 + 1)), (fun k_ => G_ k_ ∧ k_ < w27.heap.size), (by first | rfl | (simp; done) | (simp [*]; done)), H', ⟨by have := HK1.out; omega⟩, ⟨by (with_reducible repeat (first | apply Kd.S_alloc | apply Kd.S_drewN | apply Kd.S_drew)); exact HQ30.out⟩, ⟨by (with_reducible repeat (first | apply Kd.S_alloc | apply Kd.S_drewN | apply Kd.S_drew)); exact Kd.S_mono (Kd.S_far (p := ⟨go28, ((ji19) : Int).toNat, none⟩) (Kd.S_types HO_5.out GG30_.out (by decide)) (fun _ hk => hk.2) (.slice Ao32 y115.length co32)) (fun _ hk => by first | exact hk | exact hk.1 | exact hk.1.1 | exact hk.1.1.1)⟩, ⟨by refine bk ?_; refine blk_far ?_ HNB101_go28.out _; refine bk ?_; exact BK101.out⟩, ⟨by repeat (first | (with_reducible first | exact HB.out | apply below_alloc | apply pw_below_drewN | apply below_drew1 | refine below_set ?_ GB28.out | refine below_set ?_ GE101.out) | exact HB.out)⟩⟩
            rw [if_neg c22] at H
            exact absurd H (by simp)
           rw [if_neg c21] at H
           exact absurd H (by simp)
          rw [if_neg c20] at H
          exact absurd H (by simp)
         rw [if_neg c18] at H
         have c18b0 : ((wrap64 (((rd_T86 t106 (ji14)).f2) * ((rd_T86 t106 x6_1).f1))) == (wrap64 (((rd_T86 t106 x6_1).f2) * ((rd_T86 t106 (ji14)).f1)))) = false := beq_eq_false_iff_ne.mpr c18
         have c18b1 : ((wrap64 (((rd_T86 t106 (ji14)).f2) * ((rd_T86 t106 x6_1).f1))) != (wrap64 (((rd_T86 t106 x6_1).f2) * ((rd_T86 t106 (ji14)).f1)))) = true := bne_iff_ne.mpr c18
         replace H := Option.bind_eq_some_iff.mp H
         obtain ⟨t120, A330, H⟩ := H
         replace H : (if x4_1.length < 5864062014805 then (spec_GroupsOf.l0 k1 (x4_1 ++ [t120]) t106 (wrap64 (x6_1 + 1))) else (none)) = some (r1, r2) := H
         have A33 := Aside0.mk A330
         clear A330
         by_cases c34 : x4_1.length < 5864062014805
         ·
          rw [if_pos c34] at H
          have LMc34 := Aside0.mk c34
          clear c34
          obtain ⟨y123, hy123⟩ : ∃ y_ : List (List Int), y_ = (x4_1 ++ [t120]) := ⟨_, rfl⟩
          replace H : (spec_GroupsOf.l0 k1 y123 t106 (wrap64 (x6_1 + 1))) = some (r1, r2) := by first | (rw [hy123]; with_reducible exact H) | (have H2_ := (Option.bind_some _ _).symm.trans H; rw [hy123]; with_reducible exact H2_) | (have H2_ := (Option.bind_some _ _).symm.trans H; with_reducible exact H2_) | with_reducible exact H | (rw [hy123]; exact H) | exact H
          have Ny123 := Aside0.mk hy123
          clear hy123
          have H' := Aside0.mk H
          clear H
          obtain ⟨Ao35, co35, eo35⟩ := Kd.S_slice HO_5.out
          subst eo35
          obtain ⟨Ao36, co36, eo36⟩ := Kd.S_slice HO_4.out
          subst eo36
          try go_wp2
          have n0_ := aK (Kd.S_drew HO_4.out)
          have n1_ := aK (Kd.S_drew HO_5.out)
          have n2_ := aK (blk_drew BK101.out)
          have n3_ := aK (below_drew1 HB.out)
          clear HO_4 HO_5 BK101 HB
          have HO_4 := n0_
          have HO_5 := n1_
          have BK101 := n2_
          have HB := n3_
          clear n0_ n1_ n2_ n3_
          have p109 : 0 ≤ ((ji14) : Int) := of_decide_eq_true (by first | (with_reducible assumption) | assumption)
          have q109 : (ji14) < (t106.length : Int) := of_decide_eq_true (by first | (with_reducible assumption) | assumption)
          obtain ⟨ad109, A109_0, c109_0, e109, hx109_0, hx109_1, hx109_2, hl109_0, hi109_0⟩ := at_T86 (Kd.S_reads' HO_5.out).2.2 (ji14) p109 q109
          cases e109
          obtain ⟨ce109, hce109, hMe109, hcc109⟩ := Kd.S_get HO_5.out z86 (ji14) p109 (by first | exact q109 | exact of_decide_eq_true (by first | (with_reducible assumption) | assumption) | (have e_ := (Kd.S_reads' HO_5.out).1; omega))
          obtain ⟨ve109_0, rfl, ge109_0⟩ := k86_openM hMe109
          have hv109_0 := hcc109 0 _ rfl
          rw [Nat.add_zero] at hv109_0
          replace hv109_0 := Option.some.inj (hv109_0.symm.trans hx109_0)
          rw [hv109_0] at ge109_0
          have HL109_0 := aK (show Kd.R (Kd.int .i64) 3 _ _ _ _ ((rd_T86 t106 (ji14)).f0) from ge109_0)
          clear hv109_0 ge109_0
          have HX109_0 := Aside0.mk hx109_0
          clear hcc109 hce109
          have HR109_0 := Aside0.mk hi109_0
          have HC109_0 := Aside0.mk hl109_0
          clear hi109_0 hl109_0
          replace p109 := eq_true p109
          replace q109 := eq_true q109
          have p110 : 0 ≤ (x6_1 : Int) := of_decide_eq_true (by first | (with_reducible assumption) | assumption)
          have q110 : x6_1 < (t106.length : Int) := of_decide_eq_true (by first | (with_reducible assumption) | assumption)
          obtain ⟨ad110, A110_0, c110_0, e110, hx110_0, hx110_1, hx110_2, hl110_0, hi110_0⟩ := at_T86 (Kd.S_reads' HO_5.out).2.2 x6_1 p110 q110
          obtain rfl : ad109 = ad110 := (by injection e110)
          obtain ⟨ce110, hce110, hMe110, hcc110⟩ := Kd.S_get HO_5.out z86 x6_1 p110 (by first | exact q110 | exact of_decide_eq_true (by first | (with_reducible assumption) | assumption) | (have e_ := (Kd.S_reads' HO_5.out).1; omega))
          obtain ⟨ve110_0, rfl, ge110_0⟩ := k86_openM hMe110
          have hv110_0 := hcc110 0 _ rfl
          rw [Nat.add_zero] at hv110_0
          replace hv110_0 := Option.some.inj (hv110_0.symm.trans hx110_0)
          rw [hv110_0] at ge110_0
          have HL110_0 := aK (show Kd.R (Kd.int .i64) 3 _ _ _ _ ((rd_T86 t106 x6_1).f0) from ge110_0)
          clear hv110_0 ge110_0
          have HX110_0 := Aside0.mk hx110_0
          clear hcc110 hce110
          have HR110_0 := Aside0.mk hi110_0
          have HC110_0 := Aside0.mk hl110_0
          clear hi110_0 hl110_0
          replace p110 := eq_true p110
          replace q110 := eq_true q110
          have p111 : 0 ≤ (x6_1 : Int) := of_decide_eq_true (by first | (with_reducible assumption) | assumption)
          have q111 : x6_1 < (t106.length : Int) := of_decide_eq_true (by first | (with_reducible assumption) | assumption)
          obtain ⟨ad111, A111_0, c111_0, e111, hx111_0, hx111_1, hx111_2, hl111_0, hi111_0⟩ := at_T86 (Kd.S_reads' HO_5.out).2.2 x6_1 p111 q111
          obtain rfl : ad109 = ad111 := (by injection e111)
          obtain ⟨ce111, hce111, hMe111, hcc111⟩ := Kd.S_get HO_5.out z86 x6_1 p111 (by first | exact q111 | exact of_decide_eq_true (by first | (with_reducible assumption) | assumption) | (have e_ := (Kd.S_reads' HO_5.out).1; omega))
          obtain ⟨ve111_0, rfl, ge111_0⟩ := k86_openM hMe111
          have hv111_0 := hcc111 0 _ rfl
          rw [Nat.add_zero] at hv111_0
          replace hv111_0 := Option.some.inj (hv111_0.symm.trans hx111_0)
          rw [hv111_0] at ge111_0
          have HL111_0 := aK (show Kd.R (Kd.int .i64) 3 _ _ _ _ ((rd_T86 t106 x6_1).f0) from ge111_0)
          clear hv111_0 ge111_0
          have HX111_0 := Aside0.mk hx111_0
          clear hcc111 hce111
          have HR111_0 := Aside0.mk hi111_0
          have HC111_0 := Aside0.mk hl111_0
          clear hi111_0 hl111_0
          replace p111 := eq_true p111
          replace q111 := eq_true q111
          have ea_ := Option.some.inj (hx110_0.symm.trans hx111_0)
          injection ea_ with ea_ en_ ec_
          subst ea_
          subst ec_
          clear en_
          have p112 : 0 ≤ ((ji14) : Int) := of_decide_eq_true (by first | (with_reducible assumption) | assumption)
          have q112 : (ji14) < (t106.length : Int) := of_decide_eq_true (by first | (with_reducible assumption) | assumption)
          obtain ⟨ad112, A112_0, c112_0, e112, hx112_0, hx112_1, hx112_2, hl112_0, hi112_0⟩ := at_T86 (Kd.S_reads' HO_5.out).2.2 (ji14) p112 q112
          obtain rfl : ad109 = ad112 := (by injection e112)
          obtain ⟨ce112, hce112, hMe112, hcc112⟩ := Kd.S_get HO_5.out z86 (ji14) p112 (by first | exact q112 | exact of_decide_eq_true (by first | (with_reducible assumption) | assumption) | (have e_ := (Kd.S_reads' HO_5.out).1; omega))
          obtain ⟨ve112_0, rfl, ge112_0⟩ := k86_openM hMe112
          have hv112_0 := hcc112 0 _ rfl
          rw [Nat.add_zero] at hv112_0
          replace hv112_0 := Option.some.inj (hv112_0.symm.trans hx112_0)
          rw [hv112_0] at ge112_0
          have HL112_0 := aK (show Kd.R (Kd.int .i64) 3 _ _ _ _ ((rd_T86 t106 (ji14)).f0) from ge112_0)
          clear hv112_0 ge112_0
          have HX112_0 := Aside0.mk hx112_0
          clear hcc112 hce112
          have HR112_0 := Aside0.mk hi112_0
          have HC112_0 := Aside0.mk hl112_0
          clear hi112_0 hl112_0
          replace p112 := eq_true p112
          replace q112 := eq_true q112
          have ea_ := Option.some.inj (hx109_0.symm.trans hx112_0)
          injection ea_ with ea_ en_ ec_
          subst ea_
          subst ec_
          clear en_
          refine start_ (n := 29) (S := fun w' => w'.cell? (ad109.add (((ji14)).toNat * 3)) = some (.slice A109_0 ((rd_T86 t106 (ji14)).f0).length c109_0) ∧ w'.cell? ⟨(ad109.add (((ji14)).toNat * 3)).block, (ad109.add (((ji14)).toNat * 3)).off + 1, none⟩ = some (.int .i64 ((rd_T86 t106 (ji14)).f1)) ∧ w'.cell? ⟨(ad109.add (((ji14)).toNat * 3)).block, (ad109.add (((ji14)).toNat * 3)).off + 2, none⟩ = some (.int .i64 ((rd_T86 t106 (ji14)).f2)) ∧ w'.cell? (ad109.add ((x6_1).toNat * 3)) = some (.slice A110_0 ((rd_T86 t106 x6_1).f0).length c110_0) ∧ w'.cell? ⟨(ad109.add ((x6_1).toNat * 3)).block, (ad109.add ((x6_1).toNat * 3)).off + 1, none⟩ = some (.int .i64 ((rd_T86 t106 x6_1).f1)) ∧ w'.cell? ⟨(ad109.add ((x6_1).toNat * 3)).block, (ad109.add ((x6_1).toNat * 3)).off + 2, none⟩ = some (.int .i64 ((rd_T86 t106 x6_1).f2)) ∧ w'.cell? (ad109.add ((x6_1).toNat * 3)) = some (.slice A110_0 ((rd_T86 t106 x6_1).f0).length c110_0) ∧ w'.cell? ⟨(ad109.add ((x6_1).toNat * 3)).block, (ad109.add ((x6_1).toNat * 3)).off + 1, none⟩ = some (.int .i64 ((rd_T86 t106 x6_1).f1)) ∧ w'.cell? ⟨(ad109.add ((x6_1).toNat * 3)).block, (ad109.add ((x6_1).toNat * 3)).off + 2, none⟩ = some (.int .i64 ((rd_T86 t106 x6_1).f2)) ∧ w'.cell? (ad109.add (((ji14)).toNat * 3)) = some (.slice A109_0 ((rd_T86 t106 (ji14)).f0).length c109_0) ∧ w'.cell? ⟨(ad109.add (((ji14)).toNat * 3)).block, (ad109.add (((ji14)).toNat * 3)).off + 1, none⟩ = some (.int .i64 ((rd_T86 t106 (ji14)).f1)) ∧ w'.cell? ⟨(ad109.add (((ji14)).toNat * 3)).block, (ad109.add (((ji14)).toNat * 3)).off + 2, none⟩ = some (.int .i64 ((rd_T86 t106 (ji14)).f2))) (ds := []) #[false, false, false, false, false, false, false, false, false, false, false, false, false, false, false, false, false, false, false, false, false, false, false, false, false, false, false, false, false] (by kernel_rfl) rfl rfl ⟨hx109_0, hx109_1, hx109_2, hx110_0, hx110_1, hx110_2, hx111_0, hx111_1, hx111_2, hx112_0, hx112_1, hx112_2⟩ (fun hHeld => ?_); refine with_tabW spec_GroupsOf.tab9 spec_GroupsOf.bits9 (fun HT_ HW_ => ?_)
          generalize wr.drew = w37 at HO_4 HO_5 BK101 HB HL109_0 HL110_0 HL111_0 HL112_0 HR109_0 HR110_0 HR111_0 HR112_0 HX109_0 HX110_0 HX111_0 HX112_0 hx109_0 hx109_1 hx109_2 hx110_0 hx110_1 hx110_2 hx111_0 hx111_1 hx111_2 hx112_0 hx112_1 hx112_2 hHeld ⊢
          refine pu (i := 0) (N := some 23) #[true, false, false, false, false, false, false, false, false, false, false, false, false, false, false, false, false, false, false, false, false, false, false, false, false, false, false, false, false] rfl rfl HT_.out ?_
          refine pu (i := 1) (N := some 24) #[true, true, false, false, false, false, false, false, false, false, false, false, false, false, false, false, false, false, false, false, false, false, false, false, false, false, false, false, false] rfl rfl HT_.out ?_
          refine pu (i := 2) (N := some 25) #[true, true, true, false, false, false, false, false, false, false, false, false, false, false, false, false, false, false, false, false, false, false, false, false, false, false, false, false, false] rfl rfl HT_.out ?_
          refine pu (i := 3) (N := some 26) #[true, true, true, true, false, false, false, false, false, false, false, false, false, false, false, false, false, false, false, false, false, false, false, false, false, false, false, false, false] rfl rfl HT_.out ?_
          refine pu (i := 4) (N := some 27) #[true, true, true, true, true, false, false, false, false, false, false, false, false, false, false, false, false, false, false, false, false, false, false, false, false, false, false, false, false] rfl rfl HT_.out ?_
          refine pu (i := 5) (N := some 28) #[true, true, true, true, true, true, false, false, false, false, false, false, false, false, false, false, false, false, false, false, false, false, false, false, false, false, false, false, false] rfl rfl HT_.out ?_
          refine pu (i := 6) (N := some 29) #[true, true, true, true, true, true, true, false, false, false, false, false, false, false, false, false, false, false, false, false, false, false, false, false, false, false, false, false, false] rfl rfl HT_.out ?_
          refine pu (i := 7) (N := some 30) #[true, true, true, true, true, true, true, true, false, false, false, false, false, false, false, false, false, false, false, false, false, false, false, false, false, false, false, false, false] rfl rfl HT_.out ?_
          refine pu (i := 9) (N := some 32) #[true, true, true, true, true, true, true, true, false, true, false, false, false, false, false, false, false, false, false, false, false, false, false, false, false, false, false, false, false] rfl rfl HT_.out ?_
          refine pu (i := 10) (N := some 33) #[true, true, true, true, true, true, true, true, false, true, true, false, false, false, false, false, false, false, false, false, false, false, false, false, false, false, false, false, false] rfl rfl HT_.out ?_
          refine pu (i := 11) (N := some 34) #[true, true, true, true, true, true, true, true, false, true, true, true, false, false, false, false, false, false, false, false, false, false, false, false, false, false, false, false, false] rfl rfl HT_.out ?_
          refine pu (i := 12) (N := some 35) #[true, true, true, true, true, true, true, true, false, true, true, true, true, false, false, false, false, false, false, false, false, false, false, false, false, false, false, false, false] rfl rfl HT_.out ?_
          refine pu (i := 15) (N := some 38) #[true, true, true, true, true, true, true, true, false, true, true, true, true, false, false, true, false, false, false, false, false, false, false, false, false, false, false, false, false] rfl rfl HT_.out ?_
          refine pu (i := 16) (N := some 39) #[true, true, true, true, true, true, true, true, false, true, true, true, true, false, false, true, true, false, false, false, false, false, false, false, false, false, false, false, false] rfl rfl HT_.out ?_
          refine pu (i := 17) (N := some 40) #[true, true, true, true, true, true, true, true, false, true, true, true, true, false, false, true, true, true, false, false, false, false, false, false, false, false, false, false, false] rfl rfl HT_.out ?_
          refine pu (i := 18) (N := some 41) #[true, true, true, true, true, true, true, true, false, true, true, true, true, false, false, true, true, true, true, false, false, false, false, false, false, false, false, false, false] rfl rfl HT_.out ?_
          refine pu (i := 20) (N := some 43) #[true, true, true, true, true, true, true, true, false, true, true, true, true, false, false, true, true, true, true, false, true, false, false, false, false, false, false, false, false] rfl rfl HT_.out ?_
          refine pu (i := 21) (N := some 44) #[true, true, true, true, true, true, true, true, false, true, true, true, true, false, false, true, true, true, true, false, true, true, false, false, false, false, false, false, false] rfl rfl HT_.out ?_
          refine pu (i := 22) (N := some 45) #[true, true, true, true, true, true, true, true, false, true, true, true, true, false, false, true, true, true, true, false, true, true, true, false, false, false, false, false, false] rfl rfl HT_.out ?_
          refine pu (i := 23) (N := some 46) #[true, true, true, true, true, true, true, true, false, true, true, true, true, false, false, true, true, true, true, false, true, true, true, true, false, false, false, false, false] rfl rfl HT_.out ?_
          refine pu (i := 24) (N := some 47) #[true, true, true, true, true, true, true, true, false, true, true, true, true, false, false, true, true, true, true, false, true, true, true, true, true, false, false, false, false] rfl rfl HT_.out ?_
          refine tk (i := 8) (N := some 31) #[true, true, true, true, true, true, true, true, true, true, true, true, true, false, false, true, true, true, true, false, true, true, true, true, true, false, false, false, false] rfl rfl HT_.out HW_.out (Or.inl ⟨by rfl, by rintro w' ⟨s0, s1, s2, s3, s4, s5, s6, s7, s8, s9, s10, s11⟩; go_simp; with_reducible rfl⟩) hHeld ?_
          refine tk (i := 13) (N := some 36) #[true, true, true, true, true, true, true, true, true, true, true, true, true, true, false, true, true, true, true, false, true, true, true, true, true, false, false, false, false] rfl rfl HT_.out HW_.out (Or.inl ⟨by rfl, by rintro w' ⟨s0, s1, s2, s3, s4, s5, s6, s7, s8, s9, s10, s11⟩; go_simp; with_reducible rfl⟩) hHeld ?_
          refine pu (i := 14) (N := some 37) #[true, true, true, true, true, true, true, true, true, true, true, true, true, true, true, true, true, true, true, false, true, true, true, true, true, false, false, false, false] rfl rfl HT_.out ?_
          refine tk (i := 19) (N := some 42) #[true, true, true, true, true, true, true, true, true, true, true, true, true, true, true, true, true, true, true, true, true, true, true, true, true, false, false, false, false] rfl rfl HT_.out HW_.out (Or.inl ⟨by rfl, by rintro w' ⟨s0, s1, s2, s3, s4, s5, s6, s7, s8, s9, s10, s11⟩; go_simp; with_reducible rfl⟩) hHeld ?_
          refine tk (i := 25) (N := some 48) #[true, true, true, true, true, true, true, true, true, true, true, true, true, true, true, true, true, true, true, true, true, true, true, true, true, true, false, false, false] rfl rfl HT_.out HW_.out (Or.inl ⟨by rfl, by rintro w' ⟨s0, s1, s2, s3, s4, s5, s6, s7, s8, s9, s10, s11⟩; go_simp; with_reducible rfl⟩) hHeld ?_
          refine pu (i := 26) (N := some 49) #[true, true, true, true, true, true, true, true, true, true, true, true, true, true, true, true, true, true, true, true, true, true, true, true, true, true, true, false, false] rfl rfl HT_.out ?_
          refine pu (i := 27) (N := some 50) #[true, true, true, true, true, true, true, true, true, true, true, true, true, true, true, true, true, true, true, true, true, true, true, true, true, true, true, true, false] rfl rfl HT_.out ?_
          refine pu (i := 28) (N := some 51) #[true, true, true, true, true, true, true, true, true, true, true, true, true, true, true, true, true, true, true, true, true, true, true, true, true, true, true, true, true] rfl rfl HT_.out ?_
          refine done_ (done_of HT_.out (by kernel_rfl)) ?_
          have p119 : 0 ≤ (x6_1 : Int) := of_decide_eq_true (by first | (with_reducible assumption) | assumption)
          have q119 : x6_1 < (t106.length : Int) := of_decide_eq_true (by first | (with_reducible assumption) | assumption)
          obtain ⟨ad119, A119_0, c119_0, e119, hx119_0, hx119_1, hx119_2, hl119_0, hi119_0⟩ := at_T86 (Kd.S_reads' HO_5.out).2.2 x6_1 p119 q119
          obtain rfl : ad109 = ad119 := (by injection e119)
          obtain ⟨ce119, hce119, hMe119, hcc119⟩ := Kd.S_get HO_5.out z86 x6_1 p119 (by first | exact q119 | exact of_decide_eq_true (by first | (with_reducible assumption) | assumption) | (have e_ := (Kd.S_reads' HO_5.out).1; omega))
          obtain ⟨ve119_0, rfl, ge119_0⟩ := k86_openM hMe119
          have hv119_0 := hcc119 0 _ rfl
          rw [Nat.add_zero] at hv119_0
          replace hv119_0 := Option.some.inj (hv119_0.symm.trans hx119_0)
          rw [hv119_0] at ge119_0
          have HL119_0 := aK (show Kd.R (Kd.int .i64) 3 _ _ _ _ ((rd_T86 t106 x6_1).f0) from ge119_0)
          clear hv119_0 ge119_0
          have HX119_0 := Aside0.mk hx119_0
          clear hcc119 hce119
          have HR119_0 := Aside0.mk hi119_0
          have HC119_0 := Aside0.mk hl119_0
          clear hi119_0 hl119_0
          replace p119 := eq_true p119
          replace q119 := eq_true q119
          have ea_ := Option.some.inj (hx110_0.symm.trans hx119_0)
          injection ea_ with ea_ en_ ec_
          subst ea_
          subst ec_
          clear en_
          try go_wp2_with (first | ((with_reducible refine gate_callee (f := 64) rfl ?_); refine gl (some 73) Try.func64 #[.slice A110_0 ((rd_T86 t106 x6_1).f0).length c110_0] ?_; (with_reducible refine (spec_l1Own.calls _ _ ((rd_T86 t106 x6_1).f0) t120 _ ?side1 ?side2 A33.out).mono ?_); (case side1 => repeat (first | exact (by repeat (first | (with_reducible exact HR119_0.out) | (with_reducible refine Kd.C_alloc ?_ _) | (with_reducible refine Kd.C_drewN ?_ _) | (with_reducible refine Kd.C_drew ?_) | exact HR119_0.out)) | (with_reducible refine Kd.C_alloc ?_ _) | (with_reducible refine Kd.C_drewN ?_ _) | (with_reducible refine Kd.C_drew ?_))); (case side2 => exact HC119_0.out); rintro e w38 ⟨v121, rfl, ho0, hb⟩; have hszG := Aside0.mk hb.size; refine ⟨_, rfl, ?_⟩; have n0_ := aK (Kd.S_elder' (by (with_reducible repeat (first | apply Kd.S_alloc | apply Kd.S_drewN | apply Kd.S_drew)); exact HO_4.out) (Kd.R_base ho0) hb); have n1_ := aK (Kd.S_elder' (Kd.S_mono (ok' := fun k_ => G_ k_ ∧ k_ < w37.heap.size) (Kd.S_bound (by (with_reducible repeat (first | apply Kd.S_alloc | apply Kd.S_drewN | apply Kd.S_drew)); exact HO_5.out)) (fun k_ hk => ⟨hk.1, hk.2.2.1⟩)) (Kd.R_base ho0) hb); have n2_ := aK (Kd.R_elder' (pR HL109_0.out) (Kd.R_base ho0) hb); have n3_ := aK (Kd.R_elder' (pR HL110_0.out) (Kd.R_base ho0) hb); have n4_ := aK (Kd.R_elder' (pR HL111_0.out) (Kd.R_base ho0) hb); have n5_ := aK (Kd.R_elder' (pR HL112_0.out) (Kd.R_base ho0) hb); have n6_ := aK (Kd.R_elder' (pR HL119_0.out) (Kd.R_base ho0) hb); have HO122 := aK (Kd.R_lower (nw1 (nw4 (Kd.R_mono (ok' := fun k_ => ¬ (G_ k_ ∧ k_ < w37.heap.size)) (Kd.R_bound ho0) (fun k_ hk h_ => Nat.not_le.2 h_.2 hk.2.1)) (pR HL109_0.out) (pR HL110_0.out) (pR HL111_0.out) (pR HL112_0.out)) (pR HL119_0.out)) (below_size (pS HB.out))); have n9_ := aK (Kd.C_below (by repeat (first | (with_reducible exact HR109_0.out) | (with_reducible refine Kd.C_alloc ?_ _) | (with_reducible refine Kd.C_drewN ?_ _) | (with_reducible refine Kd.C_drew ?_) | exact HR109_0.out)) hb); have n10_ := aK (pw_cell_below hb HX109_0.out); have n11_ := aK (Kd.C_below (by repeat (first | (with_reducible exact HR110_0.out) | (with_reducible refine Kd.C_alloc ?_ _) | (with_reducible refine Kd.C_drewN ?_ _) | (with_reducible refine Kd.C_drew ?_) | exact HR110_0.out)) hb); have n12_ := aK (pw_cell_below hb HX110_0.out); have n13_ := aK (Kd.C_below (by repeat (first | (with_reducible exact HR111_0.out) | (with_reducible refine Kd.C_alloc ?_ _) | (with_reducible refine Kd.C_drewN ?_ _) | (with_reducible refine Kd.C_drew ?_) | exact HR111_0.out)) hb); have n14_ := aK (pw_cell_below hb HX111_0.out); have n15_ := aK (Kd.C_below (by repeat (first | (with_reducible exact HR112_0.out) | (with_reducible refine Kd.C_alloc ?_ _) | (with_reducible refine Kd.C_drewN ?_ _) | (with_reducible refine Kd.C_drew ?_) | exact HR112_0.out)) hb); have n16_ := aK (pw_cell_below hb HX112_0.out); have n17_ := aK (Kd.C_below (by repeat (first | (with_reducible exact HR119_0.out) | (with_reducible refine Kd.C_alloc ?_ _) | (with_reducible refine Kd.C_drewN ?_ _) | (with_reducible refine Kd.C_drew ?_) | exact HR119_0.out)) hb); have n18_ := aK (pw_cell_below hb HX119_0.out); replace BK101 := bB BK101 hb; replace HB := bS HB hb; clear HO_4 HO_5 HL109_0 HL110_0 HL111_0 HL112_0 HL119_0 HR109_0 HX109_0 HR110_0 HX110_0 HR111_0 HX111_0 HR112_0 HX112_0 HR119_0 HX119_0; have HO_4 := n0_; have HO_5 := n1_; have HL109_0 := n2_; have HL110_0 := n3_; have HL111_0 := n4_; have HL112_0 := n5_; have HL119_0 := n6_; have HR109_0 := n9_; have HX109_0 := n10_; have HR110_0 := n11_; have HX110_0 := n12_; have HR111_0 := n13_; have HX111_0 := n14_; have HR112_0 := n15_; have HX112_0 := n16_; have HR119_0 := n17_; have HX119_0 := n18_; clear n0_ n1_ n2_ n3_ n4_ n5_ n6_ n9_ n10_ n11_ n12_ n13_ n14_ n15_ n16_ n17_ n18_; (try clear hb); (try clear hb2); (try clear hk); (try clear hi); (try clear ho0); obtain ⟨Ao40, co40, eo40⟩ := Kd.R_slice HO122.out; subst eo40) | ((with_reducible refine gate_builtin (b := .append) (xs := #[.tmp 67, .tmp 74]) rfl ?_); at_builtin; refine Kd.S_append (Kd.slice 3 (Kd.int .i64)) (w0 := w) w.heap.size rfl (.tmp 67) (.tmp 74) 51 24 (.slice none 0 0) 24 rfl Try.underlying51 info24 rfl (by decide) (by omega) (.slice Ao36 x4_1.length co36) x4_1 t120 [.slice Ao40 t120.length co40] (fun k_ => ¬ (G_ k_ ∧ k_ < w37.heap.size)) (fun k_ => some k_ = (.slice Ao40 t120.length co40 : Value).ownBlock) rfl rfl ?aP (fun k_ hk_ => ((Kd.R_mono (ok' := fun k_ => (fun k_ => ¬ (G_ k_ ∧ k_ < w37.heap.size)) k_ ∧ some k_ ≠ (.slice Ao36 x4_1.length co36 : Value).ownBlock) (Kd.R_apart' (HO122.out) (Kd.S_typed HO_4.out) (by decide)) (fun k_ hk => ⟨by first | exact hk.1 | exact hk.1.1 | exact hk.1.1.1 | exact hk.1.1.1.1 | exact hk.1.1.1.1.1 | exact hk.1.1.1.1.1.1, hk.2⟩))).1 k_ hk_.symm) ?aF ?aO ?aB ?aS ?aL ?_; (case aP => exact Kd.M_row (Kd.R_mono (Kd.R_tight rfl (Kd.R_mono (ok' := fun k_ => (fun k_ => ¬ (G_ k_ ∧ k_ < w37.heap.size)) k_ ∧ some k_ ≠ (.slice Ao36 x4_1.length co36 : Value).ownBlock) (Kd.R_apart' (HO122.out) (Kd.S_typed HO_4.out) (by decide)) (fun k_ hk => ⟨by first | exact hk.1 | exact hk.1.1 | exact hk.1.1.1 | exact hk.1.1.1.1 | exact hk.1.1.1.1.1 | exact hk.1.1.1.1.1.1, hk.2⟩))) (fun _ h_ => h_))); (case aB => exact (pS HB.out)); (case aF => exact (fun k_ hk h_ => Nat.not_le.2 h_.2 (Nat.le_trans hszG.out hk))); (case aO => exact (by (with_reducible repeat (first | apply Kd.S_alloc | apply Kd.S_drewN | apply Kd.S_drew)); exact Kd.S_mono HO_4.out (fun k_ hk => ⟨fun h_ => hk.1 h_.1, fun e_ => hk.2 e_⟩))); (case aS => exact (below_size (pS HB.out))); (case aL => have := LMc34.out; omega); intro v124 w39 ho hb hg hat; rw [← Ny123.out] at ho; have n0_ := aK (Kd.S_over' (by (with_reducible repeat (first | apply Kd.S_alloc | apply Kd.S_drewN | apply Kd.S_drew)); exact HO_5.out) (Kd.S_typed (by (with_reducible repeat (first | apply Kd.S_alloc | apply Kd.S_drewN | apply Kd.S_drew)); exact HO_4.out)) (by decide) hg); have n1_ := aK (blk_grown (pB BK101.out) hg (Kd.S_ne HO_4.out BK101.out (by decide))); have n2_ := aK (Kd.R_over' (pR HL109_0.out) (Kd.S_typed (by (with_reducible repeat (first | apply Kd.S_alloc | apply Kd.S_drewN | apply Kd.S_drew)); exact HO_4.out)) (by decide) hg); have n3_ := aK (Kd.R_over' (pR HL110_0.out) (Kd.S_typed (by (with_reducible repeat (first | apply Kd.S_alloc | apply Kd.S_drewN | apply Kd.S_drew)); exact HO_4.out)) (by decide) hg); have n4_ := aK (Kd.R_over' (pR HL111_0.out) (Kd.S_typed (by (with_reducible repeat (first | apply Kd.S_alloc | apply Kd.S_drewN | apply Kd.S_drew)); exact HO_4.out)) (by decide) hg); have n5_ := aK (Kd.R_over' (pR HL112_0.out) (Kd.S_typed (by (with_reducible repeat (first | apply Kd.S_alloc | apply Kd.S_drewN | apply Kd.S_drew)); exact HO_4.out)) (by decide) hg); have n6_ := aK (Kd.R_over' (pR HL119_0.out) (Kd.S_typed (by (with_reducible repeat (first | apply Kd.S_alloc | apply Kd.S_drewN | apply Kd.S_drew)); exact HO_4.out)) (by decide) hg); have n7_ := aK (hb); have HO125 := aK (ho); clear HO_5 BK101 HL109_0 HL110_0 HL111_0 HL112_0 HL119_0 HB HO_4 HO122; have HO_5 := n0_; have BK101 := n1_; have HL109_0 := n2_; have HL110_0 := n3_; have HL111_0 := n4_; have HL112_0 := n5_; have HL119_0 := n6_; have HB := n7_; clear n0_ n1_ n2_ n3_ n4_ n5_ n6_ n7_; clear ho hb hg hat))
          go_roundg k1
          case measure => have := HK1.out; omega
          case rel => exact ⟨(y123), (wrap64 (x6_1 + 1)), (fun k_ => G_ k_ ∧ k_ < w37.heap.size), (by first | rfl | (simp; done) | (simp [*]; done)), H', ⟨by have := HK1.out; omega⟩, ⟨by (with_reducible repeat (first | apply Kd.S_alloc | apply Kd.S_drewN | apply Kd.S_drew)); exact HO125.out⟩, ⟨by (with_reducible repeat (first | apply Kd.S_alloc | apply Kd.S_drewN | apply Kd.S_drew)); exact Kd.S_mono HO_5.out (fun _ hk => by first | exact hk | exact hk.1 | exact hk.1.1 | exact hk.1.1.1)⟩, ⟨by refine bk ?_; exact BK101.out⟩, ⟨pT HB.out⟩⟩
         rw [if_neg c34] at H
         exact absurd H (by simp)
        rw [if_neg c17] at H
        exact absurd H (by simp)
       rw [if_neg c16] at H
       exact absurd H (by simp)
      rw [if_neg c15] at H
      exact absurd H (by simp)
     rw [if_neg c13] at H
     have c13b0 : decide (0 < x6_1) = false := decide_eq_false c13
     clear c13
     by_cases c41 : 0 ≤ x6_1
     ·
      rw [if_pos c41] at H
      have c41b0 : decide (0 ≤ x6_1) = true := decide_eq_true c41
      clear c41
      replace H := Option.bind_eq_some_iff.mp H
      obtain ⟨t127, A420, H⟩ := H
      replace H : (if x4_1.length < 5864062014805 then (spec_GroupsOf.l0 k1 (x4_1 ++ [t127]) t106 (wrap64 (x6_1 + 1))) else (none)) = some (r1, r2) := H
      have A42 := Aside0.mk A420
      clear A420
      by_cases c43 : x4_1.length < 5864062014805
      ·
       rw [if_pos c43] at H
       have LMc43 := Aside0.mk c43
       clear c43
       obtain ⟨y130, hy130⟩ : ∃ y_ : List (List Int), y_ = (x4_1 ++ [t127]) := ⟨_, rfl⟩
       replace H : (spec_GroupsOf.l0 k1 y130 t106 (wrap64 (x6_1 + 1))) = some (r1, r2) := by first | (rw [hy130]; with_reducible exact H) | (have H2_ := (Option.bind_some _ _).symm.trans H; rw [hy130]; with_reducible exact H2_) | (have H2_ := (Option.bind_some _ _).symm.trans H; with_reducible exact H2_) | with_reducible exact H | (rw [hy130]; exact H) | exact H
       have Ny130 := Aside0.mk hy130
       clear hy130
       have H' := Aside0.mk H
       clear H
       obtain ⟨Ao44, co44, eo44⟩ := Kd.S_slice HO_5.out
       subst eo44
       obtain ⟨Ao45, co45, eo45⟩ := Kd.S_slice HO_4.out
       subst eo45
       try go_wp2
       have n0_ := aK (Kd.S_drew HO_4.out)
       have n1_ := aK (Kd.S_drew HO_5.out)
       have n2_ := aK (blk_drew BK101.out)
       have n3_ := aK (below_drew1 HB.out)
       clear HO_4 HO_5 BK101 HB
       have HO_4 := n0_
       have HO_5 := n1_
       have BK101 := n2_
       have HB := n3_
       clear n0_ n1_ n2_ n3_
       refine start_ (n := 29) (S := fun w' => True) (ds := []) #[false, false, false, false, false, false, false, false, false, false, false, false, false, false, false, false, false, false, false, false, false, false, false, false, false, false, false, false, false] (by kernel_rfl) rfl rfl trivial (fun hHeld => ?_); refine with_tabW spec_GroupsOf.tab9 spec_GroupsOf.bits9 (fun HT_ HW_ => ?_)
       generalize wr.drew = w46 at HO_4 HO_5 BK101 HB hHeld ⊢
       refine pu (i := 0) (N := some 23) #[true, false, false, false, false, false, false, false, false, false, false, false, false, false, false, false, false, false, false, false, false, false, false, false, false, false, false, false, false] rfl rfl HT_.out ?_
       refine pu (i := 1) (N := some 24) #[true, true, false, false, false, false, false, false, false, false, false, false, false, false, false, false, false, false, false, false, false, false, false, false, false, false, false, false, false] rfl rfl HT_.out ?_
       refine pu (i := 2) (N := some 25) #[true, true, true, false, false, false, false, false, false, false, false, false, false, false, false, false, false, false, false, false, false, false, false, false, false, false, false, false, false] rfl rfl HT_.out ?_
       refine pure_ (i := 3) (N := some 26) (v := undef) (a' := ?_) #[true, true, true, true, false, false, false, false, false, false, false, false, false, false, false, false, false, false, false, false, false, false, false, false, false, false, false, false, false] rfl rfl (any_of HT_.out (by kernel_rfl)) (fun _ _ _ h => h) (Or.inr ⟨by rfl, rfl⟩) ?_ ?_
       rotate_left
       ·
        simp only [sP]
        rfl
       refine pure_ (i := 4) (N := some 27) (v := undef) (a' := ?_) #[true, true, true, true, true, false, false, false, false, false, false, false, false, false, false, false, false, false, false, false, false, false, false, false, false, false, false, false, false] rfl rfl (any_of HT_.out (by kernel_rfl)) (fun _ _ _ h => h) (Or.inr ⟨by rfl, rfl⟩) ?_ ?_
       rotate_left
       ·
        simp only [sP]
        rfl
       refine pure_ (i := 5) (N := some 28) (v := undef) (a' := ?_) #[true, true, true, true, true, true, false, false, false, false, false, false, false, false, false, false, false, false, false, false, false, false, false, false, false, false, false, false, false] rfl rfl (any_of HT_.out (by kernel_rfl)) (fun _ _ _ h => h) (Or.inr ⟨by rfl, rfl⟩) ?_ ?_
       rotate_left
       ·
        simp only [sP]
        rfl
       refine pure_ (i := 6) (N := some 29) (v := undef) (a' := ?_) #[true, true, true, true, true, true, true, false, false, false, false, false, false, false, false, false, false, false, false, false, false, false, false, false, false, false, false, false, false] rfl rfl (any_of HT_.out (by kernel_rfl)) (fun _ _ _ h => h) (Or.inr ⟨by rfl, rfl⟩) ?_ ?_
       rotate_left
       ·
        simp only [sP]
        rfl
       refine pure_ (i := 7) (N := some 30) (v := undef) (a' := ?_) #[true, true, true, true, true, true, true, true, false, false, false, false, false, false, false, false, false, false, false, false, false, false, false, false, false, false, false, false, false] rfl rfl (any_of HT_.out (by kernel_rfl)) (fun _ _ _ h => h) (Or.inr ⟨by rfl, rfl⟩) ?_ ?_
       rotate_left
       ·
        simp only [sP]
        rfl
       refine pure_ (i := 8) (N := some 31) (v := undef) (a' := ?_) #[true, true, true, true, true, true, true, true, true, false, false, false, false, false, false, false, false, false, false, false, false, false, false, false, false, false, false, false, false] rfl rfl (any_of HT_.out (by kernel_rfl)) (fun _ _ _ h => h) (Or.inr ⟨by rfl, rfl⟩) ?_ ?_
       rotate_left
       ·
        simp only [sP]
        rfl
       refine pure_ (i := 9) (N := some 32) (v := undef) (a' := ?_) #[true, true, true, true, true, true, true, true, true, true, false, false, false, false, false, false, false, false, false, false, false, false, false, false, false, false, false, false, false] rfl rfl (any_of HT_.out (by kernel_rfl)) (fun _ _ _ h => h) (Or.inr ⟨by rfl, rfl⟩) ?_ ?_
       rotate_left
       ·
        simp only [sP]
        rfl
       refine pure_ (i := 10) (N := some 33) (v := undef) (a' := ?_) #[true, true, true, true, true, true, true, true, true, true, true, false, false, false, false, false, false, false, false, false, false, false, false, false, false, false, false, false, false] rfl rfl (any_of HT_.out (by kernel_rfl)) (fun _ _ _ h => h) (Or.inr ⟨by rfl, rfl⟩) ?_ ?_
       rotate_left
       ·
        simp only [sP]
        rfl
       refine pure_ (i := 11) (N := some 34) (v := undef) (a' := ?_) #[true, true, true, true, true, true, true, true, true, true, true, true, false, false, false, false, false, false, false, false, false, false, false, false, false, false, false, false, false] rfl rfl (any_of HT_.out (by kernel_rfl)) (fun _ _ _ h => h) (Or.inr ⟨by rfl, rfl⟩) ?_ ?_
       rotate_left
       ·
        simp only [sP]
        rfl
       refine pure_ (i := 12) (N := some 35) (v := undef) (a' := ?_) #[true, true, true, true, true, true, true, true, true, true, true, true, true, false, false, false, false, false, false, false, false, false, false, false, false, false, false, false, false] rfl rfl (any_of HT_.out (by kernel_rfl)) (fun _ _ _ h => h) (Or.inr ⟨by rfl, rfl⟩) ?_ ?_
       rotate_left
       ·
        simp only [sP]
        rfl
       refine pure_ (i := 13) (N := some 36) (v := undef) (a' := ?_) #[true, true, true, true, true, true, true, true, true, true, true, true, true, true, false, false, false, false, false, false, false, false, false, false, false, false, false, false, false] rfl rfl (any_of HT_.out (by kernel_rfl)) (fun _ _ _ h => h) (Or.inr ⟨by rfl, rfl⟩) ?_ ?_
       rotate_left
       ·
        simp only [sP]
        rfl
       refine pure_ (i := 14) (N := some 37) (v := undef) (a' := ?_) #[true, true, true, true, true, true, true, true, true, true, true, true, true, true, true, false, false, false, false, false, false, false, false, false, false, false, false, false, false] rfl rfl (any_of HT_.out (by kernel_rfl)) (fun _ _ _ h => h) (Or.inr ⟨by rfl, rfl⟩) ?_ ?_
       rotate_left
       ·
        simp only [sP]
        rfl
       refine pure_ (i := 15) (N := some 38) (v := undef) (a' := ?_) #[true, true, true, true, true, true, true, true, true, true, true, true, true, true, true, true, false, false, false, false, false, false, false, false, false, false, false, false, false] rfl rfl (any_of HT_.out (by kernel_rfl)) (fun _ _ _ h => h) (Or.inr ⟨by rfl, rfl⟩) ?_ ?_
       rotate_left
       ·
        simp only [sP]
        rfl
       refine pure_ (i := 16) (N := some 39) (v := undef) (a' := ?_) #[true, true, true, true, true, true, true, true, true, true, true, true, true, true, true, true, true, false, false, false, false, false, false, false, false, false, false, false, false] rfl rfl (any_of HT_.out (by kernel_rfl)) (fun _ _ _ h => h) (Or.inr ⟨by rfl, rfl⟩) ?_ ?_
       rotate_left
       ·
        simp only [sP]
        rfl
       refine pure_ (i := 17) (N := some 40) (v := undef) (a' := ?_) #[true, true, true, true, true, true, true, true, true, true, true, true, true, true, true, true, true, true, false, false, false, false, false, false, false, false, false, false, false] rfl rfl (any_of HT_.out (by kernel_rfl)) (fun _ _ _ h => h) (Or.inr ⟨by rfl, rfl⟩) ?_ ?_
       rotate_left
       ·
        simp only [sP]
        rfl
       refine pure_ (i := 18) (N := some 41) (v := undef) (a' := ?_) #[true, true, true, true, true, true, true, true, true, true, true, true, true, true, true, true, true, true, true, false, false, false, false, false, false, false, false, false, false] rfl rfl (any_of HT_.out (by kernel_rfl)) (fun _ _ _ h => h) (Or.inr ⟨by rfl, rfl⟩) ?_ ?_
       rotate_left
       ·
        simp only [sP]
        rfl
       refine pure_ (i := 19) (N := some 42) (v := undef) (a' := ?_) #[true, true, true, true, true, true, true, true, true, true, true, true, true, true, true, true, true, true, true, true, false, false, false, false, false, false, false, false, false] rfl rfl (any_of HT_.out (by kernel_rfl)) (fun _ _ _ h => h) (Or.inr ⟨by rfl, rfl⟩) ?_ ?_
       rotate_left
       ·
        simp only [sP]
        rfl
       refine pure_ (i := 20) (N := some 43) (v := undef) (a' := ?_) #[true, true, true, true, true, true, true, true, true, true, true, true, true, true, true, true, true, true, true, true, true, false, false, false, false, false, false, false, false] rfl rfl (any_of HT_.out (by kernel_rfl)) (fun _ _ _ h => h) (Or.inr ⟨by rfl, rfl⟩) ?_ ?_
       rotate_left
       ·
        simp only [sP]
        rfl
       refine pure_ (i := 21) (N := some 44) (v := undef) (a' := ?_) #[true, true, true, true, true, true, true, true, true, true, true, true, true, true, true, true, true, true, true, true, true, true, false, false, false, false, false, false, false] rfl rfl (any_of HT_.out (by kernel_rfl)) (fun _ _ _ h => h) (Or.inr ⟨by rfl, rfl⟩) ?_ ?_
       rotate_left
       ·
        simp only [sP]
        rfl
       refine pure_ (i := 22) (N := some 45) (v := undef) (a' := ?_) #[true, true, true, true, true, true, true, true, true, true, true, true, true, true, true, true, true, true, true, true, true, true, true, false, false, false, false, false, false] rfl rfl (any_of HT_.out (by kernel_rfl)) (fun _ _ _ h => h) (Or.inr ⟨by rfl, rfl⟩) ?_ ?_
       rotate_left
       ·
        simp only [sP]
        rfl
       refine pure_ (i := 23) (N := some 46) (v := undef) (a' := ?_) #[true, true, true, true, true, true, true, true, true, true, true, true, true, true, true, true, true, true, true, true, true, true, true, true, false, false, false, false, false] rfl rfl (any_of HT_.out (by kernel_rfl)) (fun _ _ _ h => h) (Or.inr ⟨by rfl, rfl⟩) ?_ ?_
       rotate_left
       ·
        simp only [sP]
        rfl
       refine pure_ (i := 24) (N := some 47) (v := undef) (a' := ?_) #[true, true, true, true, true, true, true, true, true, true, true, true, true, true, true, true, true, true, true, true, true, true, true, true, true, false, false, false, false] rfl rfl (any_of HT_.out (by kernel_rfl)) (fun _ _ _ h => h) (Or.inr ⟨by rfl, rfl⟩) ?_ ?_
       rotate_left
       ·
        simp only [sP]
        rfl
       refine pure_ (i := 25) (N := some 48) (v := undef) (a' := ?_) #[true, true, true, true, true, true, true, true, true, true, true, true, true, true, true, true, true, true, true, true, true, true, true, true, true, true, false, false, false] rfl rfl (any_of HT_.out (by kernel_rfl)) (fun _ _ _ h => h) (Or.inr ⟨by rfl, rfl⟩) ?_ ?_
       rotate_left
       ·
        simp only [sP]
        rfl
       refine pure_ (i := 26) (N := some 49) (v := undef) (a' := ?_) #[true, true, true, true, true, true, true, true, true, true, true, true, true, true, true, true, true, true, true, true, true, true, true, true, true, true, true, false, false] rfl rfl (any_of HT_.out (by kernel_rfl)) (fun _ _ _ h => h) (Or.inr ⟨by rfl, rfl⟩) ?_ ?_
       rotate_left
       ·
        simp only [sP]
        rfl
       refine pure_ (i := 27) (N := some 50) (v := undef) (a' := ?_) #[true, true, true, true, true, true, true, true, true, true, true, true, true, true, true, true, true, true, true, true, true, true, true, true, true, true, true, true, false] rfl rfl (any_of HT_.out (by kernel_rfl)) (fun _ _ _ h => h) (Or.inr ⟨by rfl, rfl⟩) ?_ ?_
       rotate_left
       ·
        simp only [sP]
        rfl
       refine pu (i := 28) (N := some 51) #[true, true, true, true, true, true, true, true, true, true, true, true, true, true, true, true, true, true, true, true, true, true, true, true, true, true, true, true, true] rfl rfl HT_.out ?_
       refine done_ (done_of HT_.out (by kernel_rfl)) ?_
       have p126 : 0 ≤ (x6_1 : Int) := of_decide_eq_true (by first | (with_reducible assumption) | assumption)
       have q126 : x6_1 < (t106.length : Int) := of_decide_eq_true (by first | (with_reducible assumption) | assumption)
       obtain ⟨ad126, A126_0, c126_0, e126, hx126_0, hx126_1, hx126_2, hl126_0, hi126_0⟩ := at_T86 (Kd.S_reads' HO_5.out).2.2 x6_1 p126 q126
       cases e126
       obtain ⟨ce126, hce126, hMe126, hcc126⟩ := Kd.S_get HO_5.out z86 x6_1 p126 (by first | exact q126 | exact of_decide_eq_true (by first | (with_reducible assumption) | assumption) | (have e_ := (Kd.S_reads' HO_5.out).1; omega))
       obtain ⟨ve126_0, rfl, ge126_0⟩ := k86_openM hMe126
       have hv126_0 := hcc126 0 _ rfl
       rw [Nat.add_zero] at hv126_0
       replace hv126_0 := Option.some.inj (hv126_0.symm.trans hx126_0)
       rw [hv126_0] at ge126_0
       have HL126_0 := aK (show Kd.R (Kd.int .i64) 3 _ _ _ _ ((rd_T86 t106 x6_1).f0) from ge126_0)
       clear hv126_0 ge126_0
       have HX126_0 := Aside0.mk hx126_0
       clear hcc126 hce126
       have HR126_0 := Aside0.mk hi126_0
       have HC126_0 := Aside0.mk hl126_0
       clear hi126_0 hl126_0
       replace p126 := eq_true p126
       replace q126 := eq_true q126
       try go_wp2_with (first | ((with_reducible refine gate_callee (f := 64) rfl ?_); refine gl (some 73) Try.func64 #[.slice A126_0 ((rd_T86 t106 x6_1).f0).length c126_0] ?_; (with_reducible refine (spec_l1Own.calls _ _ ((rd_T86 t106 x6_1).f0) t127 _ ?side1 ?side2 A42.out).mono ?_); (case side1 => repeat (first | exact (by repeat (first | (with_reducible exact HR126_0.out) | (with_reducible refine Kd.C_alloc ?_ _) | (with_reducible refine Kd.C_drewN ?_ _) | (with_reducible refine Kd.C_drew ?_) | exact HR126_0.out)) | (with_reducible refine Kd.C_alloc ?_ _) | (with_reducible refine Kd.C_drewN ?_ _) | (with_reducible refine Kd.C_drew ?_))); (case side2 => exact HC126_0.out); rintro e w47 ⟨v128, rfl, ho0, hb⟩; have hszG := Aside0.mk hb.size; refine ⟨_, rfl, ?_⟩; have n0_ := aK (Kd.S_elder' (by (with_reducible repeat (first | apply Kd.S_alloc | apply Kd.S_drewN | apply Kd.S_drew)); exact HO_4.out) (Kd.R_base ho0) hb); have n1_ := aK (Kd.S_elder' (Kd.S_mono (ok' := fun k_ => G_ k_ ∧ k_ < w46.heap.size) (Kd.S_bound (by (with_reducible repeat (first | apply Kd.S_alloc | apply Kd.S_drewN | apply Kd.S_drew)); exact HO_5.out)) (fun k_ hk => ⟨hk.1, hk.2.2.1⟩)) (Kd.R_base ho0) hb); have n2_ := aK (Kd.R_elder' (pR HL126_0.out) (Kd.R_base ho0) hb); have HO129 := aK (Kd.R_lower (nw1 (Kd.R_mono (ok' := fun k_ => ¬ (G_ k_ ∧ k_ < w46.heap.size)) (Kd.R_bound ho0) (fun k_ hk h_ => Nat.not_le.2 h_.2 hk.2.1)) (pR HL126_0.out)) (below_size (pS HB.out))); have n5_ := aK (Kd.C_below (by repeat (first | (with_reducible exact HR126_0.out) | (with_reducible refine Kd.C_alloc ?_ _) | (with_reducible refine Kd.C_drewN ?_ _) | (with_reducible refine Kd.C_drew ?_) | exact HR126_0.out)) hb); have n6_ := aK (pw_cell_below hb HX126_0.out); replace BK101 := bB BK101 hb; replace HB := bS HB hb; clear HO_4 HO_5 HL126_0 HR126_0 HX126_0; have HO_4 := n0_; have HO_5 := n1_; have HL126_0 := n2_; have HR126_0 := n5_; have HX126_0 := n6_; clear n0_ n1_ n2_ n5_ n6_; (try clear hb); (try clear hb2); (try clear hk); (try clear hi); (try clear ho0); obtain ⟨Ao49, co49, eo49⟩ := Kd.R_slice HO129.out; subst eo49) | ((with_reducible refine gate_builtin (b := .append) (xs := #[.tmp 67, .tmp 74]) rfl ?_); at_builtin; refine Kd.S_append (Kd.slice 3 (Kd.int .i64)) (w0 := w) w.heap.size rfl (.tmp 67) (.tmp 74) 51 24 (.slice none 0 0) 24 rfl Try.underlying51 info24 rfl (by decide) (by omega) (.slice Ao45 x4_1.length co45) x4_1 t127 [.slice Ao49 t127.length co49] (fun k_ => ¬ (G_ k_ ∧ k_ < w46.heap.size)) (fun k_ => some k_ = (.slice Ao49 t127.length co49 : Value).ownBlock) rfl rfl ?aP (fun k_ hk_ => ((Kd.R_mono (ok' := fun k_ => (fun k_ => ¬ (G_ k_ ∧ k_ < w46.heap.size)) k_ ∧ some k_ ≠ (.slice Ao45 x4_1.length co45 : Value).ownBlock) (Kd.R_apart' (HO129.out) (Kd.S_typed HO_4.out) (by decide)) (fun k_ hk => ⟨by first | exact hk.1 | exact hk.1.1 | exact hk.1.1.1 | exact hk.1.1.1.1 | exact hk.1.1.1.1.1 | exact hk.1.1.1.1.1.1, hk.2⟩))).1 k_ hk_.symm) ?aF ?aO ?aB ?aS ?aL ?_; (case aP => exact Kd.M_row (Kd.R_mono (Kd.R_tight rfl (Kd.R_mono (ok' := fun k_ => (fun k_ => ¬ (G_ k_ ∧ k_ < w46.heap.size)) k_ ∧ some k_ ≠ (.slice Ao45 x4_1.length co45 : Value).ownBlock) (Kd.R_apart' (HO129.out) (Kd.S_typed HO_4.out) (by decide)) (fun k_ hk => ⟨by first | exact hk.1 | exact hk.1.1 | exact hk.1.1.1 | exact hk.1.1.1.1 | exact hk.1.1.1.1.1 | exact hk.1.1.1.1.1.1, hk.2⟩))) (fun _ h_ => h_))); (case aB => exact (pS HB.out)); (case aF => exact (fun k_ hk h_ => Nat.not_le.2 h_.2 (Nat.le_trans hszG.out hk))); (case aO => exact (by (with_reducible repeat (first | apply Kd.S_alloc | apply Kd.S_drewN | apply Kd.S_drew)); exact Kd.S_mono HO_4.out (fun k_ hk => ⟨fun h_ => hk.1 h_.1, fun e_ => hk.2 e_⟩))); (case aS => exact (below_size (pS HB.out))); (case aL => have := LMc43.out; omega); intro v131 w48 ho hb hg hat; rw [← Ny130.out] at ho; have n0_ := aK (Kd.S_over' (by (with_reducible repeat (first | apply Kd.S_alloc | apply Kd.S_drewN | apply Kd.S_drew)); exact HO_5.out) (Kd.S_typed (by (with_reducible repeat (first | apply Kd.S_alloc | apply Kd.S_drewN | apply Kd.S_drew)); exact HO_4.out)) (by decide) hg); have n1_ := aK (blk_grown (pB BK101.out) hg (Kd.S_ne HO_4.out BK101.out (by decide))); have n2_ := aK (Kd.R_over' (pR HL126_0.out) (Kd.S_typed (by (with_reducible repeat (first | apply Kd.S_alloc | apply Kd.S_drewN | apply Kd.S_drew)); exact HO_4.out)) (by decide) hg); have n3_ := aK (hb); have HO132 := aK (ho); clear HO_5 BK101 HL126_0 HB HO_4 HO129; have HO_5 := n0_; have BK101 := n1_; have HL126_0 := n2_; have HB := n3_; clear n0_ n1_ n2_ n3_; clear ho hb hg hat))
       go_roundg k1
       case measure => have := HK1.out; omega
       case rel => exact ⟨(y130), (wrap64 (x6_1 + 1)), (fun k_ => G_ k_ ∧ k_ < w46.heap.size), (by first | rfl | (simp; done) | (simp [*]; done)), H', ⟨by have := HK1.out; omega⟩, ⟨by (with_reducible repeat (first | apply Kd.S_alloc | apply Kd.S_drewN | apply Kd.S_drew)); exact HO132.out⟩, ⟨by (with_reducible repeat (first | apply Kd.S_alloc | apply Kd.S_drewN | apply Kd.S_drew)); exact Kd.S_mono HO_5.out (fun _ hk => by first | exact hk | exact hk.1 | exact hk.1.1 | exact hk.1.1.1)⟩, ⟨by refine bk ?_; exact BK101.out⟩, ⟨pT HB.out⟩⟩
      rw [if_neg c43] at H
      exact absurd H (by simp)
     rw [if_neg c41] at H
     exact absurd H (by simp)
    rw [if_neg c12] at H
    have c12b0 : decide (x6_1 < (t106.length : Int)) = false := decide_eq_false c12
    clear c12
    simp only [Option.some.injEq, Prod.mk.injEq] at H
    obtain ⟨rfl, rfl⟩ := H
    obtain ⟨Ao50, co50, eo50⟩ := Kd.S_slice HO_5.out
    subst eo50
    go_wp2
    go_ret2
    exact ⟨_, er, by (with_reducible repeat (first | apply Kd.S_alloc | apply Kd.S_drewN | apply Kd.S_drew)); exact Kd.S_mono HO_4.out (fun _ _ => trivial), pT HB.out⟩
 replace c3 := Bool.eq_false_iff.mpr c3
 subst c3
 have H1 : (some (y102, false)) = some (r1, r2) := by rw [if_neg (show ¬ (false = true) by decide)] at H; exact H
 clear H
 have H := H1
 clear H1
 simp only [Option.some.injEq, Prod.mk.injEq] at H
 obtain ⟨rfl, rfl⟩ := H
 go_enter Try.func24, Try.ntmps24
 go_wp2_with (first | ((with_reducible refine gate_dst (N := 1) rfl ?_); refine bxe (cs := #[.slice A0_0 l0_0.length c0_0, .slice A0_1 l0_1.length c0_1]) (t := 26) ?_; intro gb101 hg w51 hbox hb; have BK101 := aK (hbox); have GW101 := aK (gE hg (pS HB.out)); have GE101 := GW101; replace HB := bS HB hb; clear hb hbox hg) | ((with_reducible refine gate_dst (N := 8) rfl ?_); refine Kd.S_lit (Kd.slice 3 (Kd.int .i64)) _ 24 ?hg (N := 8) ?hd (xs := ([] : List (List Int))) (inner := []) (ok := fun _ => True) (okp := fun _ => True) ?hr ?hp (fun _ hk => hk) trivial (Below.refl _ _) (Nat.le_refl _) (by simp) ?_; (case hd => rfl); (case hg => rfl); (case hr => first | (go_simp; done) | (go_simp; rfl)); (case hp => exact (Reps.none _ _)); intro v103 w52 ho53 hb hg_ hnew_; clear hg_ hnew_; (first | rw [← Ny102.out] at ho53 | (simp only [Int.reduceToNat] at ho53; rw [← Ny102.out] at ho53)); have HO104 := aK (Kd.S_lower ho53 (below_size (pS HB.out))); replace BK101 := bB BK101 hb; replace HB := bS HB hb; clear hb ho53; obtain ⟨hcz54_0, hcz54_1, hfz54_0, hfz54_1⟩ := bc2 BK101.out) | ((with_reducible refine gate_callee (f := 44) rfl ?_); refine gl (some 10) Try.func44 #[.agg #[.slice A0_0 l0_0.length c0_0, .slice A0_1 l0_1.length c0_1]] ?_; (with_reducible refine (spec_l10Good.calls k _ _ l0_0 _ _ l0_1 false _ ?side1 ?side2 ?side3 ?side4 A2.out).mono ?_); (case side1 => exact pC (Kd.C_below HR0_0.out HB.out)); (case side2 => exact HC0_0.out); (case side3 => exact pC (Kd.C_below HR0_1.out HB.out)); (case side4 => exact HC0_1.out); rintro e w55 ⟨rfl, hb⟩; refine ⟨_, rfl, ?_⟩; have n0_ := aK (Kd.S_below (by (with_reducible repeat (first | apply Kd.S_alloc | apply Kd.S_drewN | apply Kd.S_drew)); exact HO104.out) hb); replace BK101 := bB BK101 hb; replace HB := bS HB hb; clear HO104; have HO104 := n0_; clear n0_; (try clear hb); (try clear hb2); (try clear hk); (try clear hi)))
 go_ret2
 exact ⟨_, er, by (with_reducible repeat (first | apply Kd.S_alloc | apply Kd.S_drewN | apply Kd.S_drew)); exact HO104.out, pT HB.out⟩
end Go.Proofs.Ytjicgmcogadleaa.P
