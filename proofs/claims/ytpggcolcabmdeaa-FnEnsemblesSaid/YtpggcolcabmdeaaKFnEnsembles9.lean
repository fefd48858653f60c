/- Texts of the claim FnEnsembles, merged: part 9 of 11: the program's and the reference's functions as Lean functions, the walks that show it, and plain lemmas; no conditions. -/
import Derived.Test.YtpggcolcabmdeaaKFnEnsembles3
import Derived.Shelf.Sort.Plain
import Derived.Shelf.Slices.In.SortNone
import Derived.Ground.Names2Prog
import Derived.Test.YtpggcolcabmdeaaProg
import Derived.Test.YtpggcolcabmdeaaKFnEnsembles2
import Derived.Sort.OwnSortedInts
import Derived.Test.YtpggcolcabmdeaaKFnEnsembles4
import Derived.Test.YtpggcolcabmdeaaKFnEnsembles6
import Derived.Test.YtpggcolcabmdeaaKFnEnsembles8
open Go.RowKit Go.Proofs.YtpggcolcabmdeaaW.PrintWords Go.Proofs.YtpggcolcabmdeaaW.PrintLast Go.Proofs.YtpggcolcabmdeaaW.PrintMore
set_option linter.unusedVariables false
set_option linter.unusedSimpArgs false
set_option maxHeartbeats 8000000
set_option maxRecDepth 100000
namespace Go.Proofs.Ytpggcolcabmdeaa.P
attribute [local go_sem] max2_int min2_int max_two min_two max_three min_three max_four min_four
def laws_rInts.l0 : Nat → List Int → List Int → Int → Option (Bool)
 | 0, _, _, _ => none
 | k + 1, x0, x1, x5 => if x5 < (x0.length : Int) then (if 0 ≤ x5 then (if x5 < (x1.length : Int) then (if (rd x0 x5) = (rd x1 x5) then (laws_rInts.l0 k x0 x1 (wrap64 (x5 + 1))) else (some false)) else (none)) else (none)) else (some true)
def laws_rInts.f (k : Nat) (l0 : List Int) (l1 : List Int) : Option (Bool) := if (l0.length : Int) = (l1.length : Int) then (laws_rInts.l0 k l0 l1 0) else (some false)
theorem laws_rInts.calls (k : Nat) (A0 : Option Addr) (c0 : Nat) (l0 : List Int) (A1 : Option Addr) (c1 : Nat) (l1 : List Int) (r : Bool) (w : World) (hr0 : Kd.C (Kd.int .i64) w A0 l0.length l0) (hc0 : l0.length ≤ c0) (hr1 : Kd.C (Kd.int .i64) w A1 l1.length l1) (hc1 : l1.length ≤ c1) (h : laws_rInts.f k l0 l1 = some r) :
  Calls Try.prog 29 #[.slice A0 l0.length c0, .slice A1 l1.length c1] w fun e w' => e = .returned (.bool r) ∧ Drawn0 w w' := by
 have HR0 := aK hr0
 have HC0 := aK hc0
 clear hr0 hc0
 have HR1 := aK hr1
 have HC1 := aK hc1
 clear hr1 hc1
 have H : (if (l0.length : Int) = (l1.length : Int) then (laws_rInts.l0 k l0 l1 0) else (some false)) = some r := h
 clear h
 by_cases c3 : (l0.length : Int) = (l1.length : Int)
 rotate_left
 ·
  rw [if_neg c3] at H
  have c3b0 : ((l0.length : Int) == (l1.length : Int)) = false := beq_eq_false_iff_ne.mpr c3
  have c3b1 : ((l0.length : Int) != (l1.length : Int)) = true := bne_iff_ne.mpr c3
  have c3b2 : (l0.length == l1.length) = false := by first | simpa using c3 | (simp at c3 ⊢; omega)
  obtain rfl := Option.some.inj H
  go_enter Try.func29, Try.ntmps29
  go_wp2
  go_ret
  exact ⟨by first | rfl | (simp; done) | (simp [*]; done), by repeat (first | exact Drawn0.refl _ | apply Drawn0.step)⟩
 rw [if_pos c3] at H
 have c3b0 : ((l0.length : Int) == (l1.length : Int)) = true := beq_iff_eq.mpr c3
 have c3b1 : ((l0.length : Int) != (l1.length : Int)) = false := bne_eq_false_iff_eq.mpr c3
 have c3b2 : (l0.length == l1.length) = true := by first | simpa using c3 | (simp at c3 ⊢; omega)
 clear c3
 have H' := aK H
 clear H
 go_enter Try.func29, Try.ntmps29
 go_wp2
 go_loopg [5] k (fun kq v5 w' => ∃ (x5_1 : Int), v5 = .int .i64 x5_1 ∧ Aside0 (laws_rInts.l0 kq l0 l1 x5_1 = some r) ∧ Aside0 (kq ≤ k) ∧ Drawn0 w w')
 case atStart => exact ⟨(0), (by first | rfl | (simp; done) | (simp [*]; done)), H', ⟨Nat.le_refl _⟩, by repeat (first | exact Drawn0.refl _ | apply Drawn0.step)⟩
 case round =>
 clear H'
 try clear c1
 try clear c2
 try clear p2
 try clear c3
 try clear c3b0
 try clear c3b1
 try clear c3b2
 obtain ⟨x5_1, rfl, HA, HK1, ⟨m1, rfl⟩⟩ := hrel
 cases gk with
 | zero => exact absurd HA.out (by simp [laws_rInts.l0])
 | succ k1 =>
 have H := HA.out
 clear HA
 simp only [laws_rInts.l0] at H
 by_cases c4 : x5_1 < (l0.length : Int)
 rotate_left
 ·
  rw [if_neg c4] at H
  have c4b0 : decide (x5_1 < (l0.length : Int)) = false := decide_eq_false c4
  clear c4
  obtain rfl := Option.some.inj H
  go_wp2
  go_ret
  exact ⟨by first | rfl | (simp; done) | (simp [*]; done), by repeat (first | exact Drawn0.refl _ | apply Drawn0.step)⟩
 rw [if_pos c4] at H
 have c4b0 : decide (x5_1 < (l0.length : Int)) = true := decide_eq_true c4
 clear c4
 by_cases c5 : 0 ≤ x5_1
 rotate_left
 ·
  rw [if_neg c5] at H
  exact absurd H (by simp)
 rw [if_pos c5] at H
 have c5b0 : decide (0 ≤ x5_1) = true := decide_eq_true c5
 clear c5
 by_cases c6 : x5_1 < (l1.length : Int)
 rotate_left
 ·
  rw [if_neg c6] at H
  exact absurd H (by simp)
 rw [if_pos c6] at H
 have c6b0 : decide (x5_1 < (l1.length : Int)) = true := decide_eq_true c6
 clear c6
 by_cases c7 : (rd l0 x5_1) = (rd l1 x5_1)
 ·
  rw [if_pos c7] at H
  have c7b0 : ((rd l0 x5_1) == (rd l1 x5_1)) = true := beq_iff_eq.mpr c7
  have c7b1 : ((rd l0 x5_1) != (rd l1 x5_1)) = false := bne_eq_false_iff_eq.mpr c7
  clear c7; have H' := aK H; clear H
  have p101 : 0 ≤ (x5_1 : Int) := dA
  have q101 : x5_1 < (l0.length : Int) := dA
  obtain ⟨ad101, e101, hx101_0⟩ := Kd.at_int HR0.out x5_1 p101 q101; cases e101; replace p101 := eq_true p101; replace q101 := eq_true q101
  have p102 : 0 ≤ (x5_1 : Int) := dA
  have q102 : x5_1 < (l1.length : Int) := dA
  obtain ⟨ad102, e102, hx102_0⟩ := Kd.at_int HR1.out x5_1 p102 q102; cases e102; replace p102 := eq_true p102; replace q102 := eq_true q102
  go_wp2
  repeat (go_quiet (fail); try go_wp2)
  go_roundg k1
  case measure => have := HK1.out; omega
  case rel => exact ⟨(wrap64 (x5_1 + 1)), (by first | rfl | (simp; done) | (simp [*]; done)), H', ⟨by have := HK1.out; omega⟩, by repeat (first | exact Drawn0.refl _ | apply Drawn0.step)⟩
 rw [if_neg c7] at H
 have c7b0 : ((rd l0 x5_1) == (rd l1 x5_1)) = false := beq_eq_false_iff_ne.mpr c7
 have c7b1 : ((rd l0 x5_1) != (rd l1 x5_1)) = true := bne_iff_ne.mpr c7
 obtain rfl := Option.some.inj H
 have p101 : 0 ≤ (x5_1 : Int) := dA
 have q101 : x5_1 < (l0.length : Int) := dA
 obtain ⟨ad101, e101, hx101_0⟩ := Kd.at_int HR0.out x5_1 p101 q101
 cases e101
 replace p101 := eq_true p101
 replace q101 := eq_true q101
 have p102 : 0 ≤ (x5_1 : Int) := dA
 have q102 : x5_1 < (l1.length : Int) := dA
 obtain ⟨ad102, e102, hx102_0⟩ := Kd.at_int HR1.out x5_1 p102 q102
 cases e102
 replace p102 := eq_true p102
 replace q102 := eq_true q102
 go_wp2
 repeat (go_quiet (fail); try go_wp2)
 go_ret
 exact ⟨by first | rfl | (simp; done) | (simp [*]; done), by repeat (first | exact Drawn0.refl _ | apply Drawn0.step)⟩
def laws_rFields.f (k : Nat) (a0_0 : Int) (a0_1 : Int) (l0_2 : List Int) (a1_0 : Int) (a1_1 : Int) (l1_2 : List Int) : Option (Bool) := if a0_0 = a1_0 then (if a0_1 = a1_1 then ((laws_rInts.f k l0_2 l1_2).bind fun t103 => (some t103)) else (some false)) else (some false)
theorem laws_rFields.calls (k : Nat) (a0_0 : Int) (a0_1 : Int) (A0_2 : Option Addr) (c0_2 : Nat) (l0_2 : List Int) (a1_0 : Int) (a1_1 : Int) (A1_2 : Option Addr) (c1_2 : Nat) (l1_2 : List Int) (r : Bool) (w : World) (hr0_2 : Kd.C (Kd.int .i64) w A0_2 l0_2.length l0_2) (hc0_2 : l0_2.length ≤ c0_2) (hr1_2 : Kd.C (Kd.int .i64) w A1_2 l1_2.length l1_2) (hc1_2 : l1_2.length ≤ c1_2) (h : laws_rFields.f k a0_0 a0_1 l0_2 a1_0 a1_1 l1_2 = some r) :
  Calls Try.prog 8 #[.agg #[.int .i64 a0_0, .int .i64 a0_1, .slice A0_2 l0_2.length c0_2], .agg #[.int .i64 a1_0, .int .i64 a1_1, .slice A1_2 l1_2.length c1_2]] w fun e w' => e = .returned (.bool r) ∧ Below w.heap.size w w' := by
 have hu29 := Try.underlying29
 have HR0_2 := aK hr0_2
 have HC0_2 := aK hc0_2
 clear hr0_2 hc0_2
 have HR1_2 := aK hr1_2
 have HC1_2 := aK hc1_2
 clear hr1_2 hc1_2
 have HB := aK (Below.refl w.heap.size w)
 have H : (if a0_0 = a1_0 then (if a0_1 = a1_1 then ((laws_rInts.f k l0_2 l1_2).bind fun t103 => (some t103)) else (some false)) else (some false)) = some r := h
 clear h
 by_cases c3 : a0_0 = a1_0
 rotate_left
 ·
  rw [if_neg c3] at H
  have c3b0 : (a0_0 == a1_0) = false := beq_eq_false_iff_ne.mpr c3
  have c3b1 : (a0_0 != a1_0) = true := bne_iff_ne.mpr c3
  obtain rfl := Option.some.inj H
  go_enter Try.func8, Try.ntmps8
  go_wp2_with (first | ((with_reducible refine ga 2 rfl ?_); refine bxa #[.int .i64 a0_0, .int .i64 a0_1, .slice A0_2 l0_2.length c0_2] 29 ?_; intro g101 hg w16 B101 hb; have GW101 := gA hg HB; replace HB := bS HB hb; clear hb hg) | ((with_reducible refine ga 3 rfl ?_); refine bxa #[.int .i64 a1_0, .int .i64 a1_1, .slice A1_2 l1_2.length c1_2] 29 ?_; intro g102 hg w17 B102 hb; have GW102 := gA hg HB; obtain ⟨N101_102, N102_101⟩ := na hg B101; replace B101 := bB B101 hb; replace HB := bS HB hb; clear hb hg; obtain ⟨_, _⟩ := nB N101_102; obtain ⟨_, _, _, _, _, _⟩ := bc3 B101.out; obtain ⟨_, _, _, _, _, _⟩ := bc3 B102.out))
  go_ret
  exact ⟨er, pT HB.out⟩
 rw [if_pos c3] at H
 have c3b0 : (a0_0 == a1_0) = true := beq_iff_eq.mpr c3
 have c3b1 : (a0_0 != a1_0) = false := bne_eq_false_iff_eq.mpr c3
 clear c3
 by_cases c4 : a0_1 = a1_1
 ·
  rw [if_pos c4] at H
  have c4b0 : (a0_1 == a1_1) = true := beq_iff_eq.mpr c4
  have c4b1 : (a0_1 != a1_1) = false := bne_eq_false_iff_eq.mpr c4
  clear c4; replace H := oA H; obtain ⟨t103, A5, H⟩ := H
  replace H : (some t103) = some r := H
  obtain rfl := Option.some.inj H
  go_enter Try.func8, Try.ntmps8
  go_wp2_with (first | ((with_reducible refine ga 2 rfl ?_); refine bxa #[.int .i64 a0_0, .int .i64 a0_1, .slice A0_2 l0_2.length c0_2] 29 ?_; intro g101 hg w6 B101 hb; have GW101 := gA hg HB; replace HB := bS HB hb; clear hb hg) | ((with_reducible refine ga 3 rfl ?_); refine bxa #[.int .i64 a1_0, .int .i64 a1_1, .slice A1_2 l1_2.length c1_2] 29 ?_; intro g102 hg w7 B102 hb; have GW102 := gA hg HB; obtain ⟨N101_102, N102_101⟩ := na hg B101; replace B101 := bB B101 hb; replace HB := bS HB hb; clear hb hg; obtain ⟨_, _⟩ := nB N101_102; obtain ⟨_, _, _, _, _, _⟩ := bc3 B101.out; obtain ⟨_, _, _, _, _, _⟩ := bc3 B102.out) | (go_at_call 29; (with_reducible refine (laws_rInts.calls k _ _ l0_2 _ _ l1_2 t103 _ ?side1 ?side2 ?side3 ?side4 A5.out).mono ?_); (case side1 => exact cB HR0_2 HB); (case side2 => exact HC0_2.out); (case side3 => exact cB HR1_2 HB); (case side4 => exact HC1_2.out); rintro e w' ⟨rfl, ⟨nd, rfl⟩⟩))
  go_ret
  exact ⟨er, pT HB.out⟩
 rw [if_neg c4] at H
 have c4b0 : (a0_1 == a1_1) = false := beq_eq_false_iff_ne.mpr c4
 have c4b1 : (a0_1 != a1_1) = true := bne_iff_ne.mpr c4
 obtain rfl := Option.some.inj H
 go_enter Try.func8, Try.ntmps8
 go_wp2_with (first | ((with_reducible refine ga 2 rfl ?_); refine bxa #[.int .i64 a0_0, .int .i64 a0_1, .slice A0_2 l0_2.length c0_2] 29 ?_; intro g101 hg w11 B101 hb; have GW101 := gA hg HB; replace HB := bS HB hb; clear hb hg) | ((with_reducible refine ga 3 rfl ?_); refine bxa #[.int .i64 a1_0, .int .i64 a1_1, .slice A1_2 l1_2.length c1_2] 29 ?_; intro g102 hg w12 B102 hb; have GW102 := gA hg HB; obtain ⟨N101_102, N102_101⟩ := na hg B101; replace B101 := bB B101 hb; replace HB := bS HB hb; clear hb hg; obtain ⟨_, _⟩ := nB N101_102; obtain ⟨_, _, _, _, _, _⟩ := bc3 B101.out; obtain ⟨_, _, _, _, _, _⟩ := bc3 B102.out))
 go_ret
 exact ⟨er, pT HB.out⟩
end Go.Proofs.Ytpggcolcabmdeaa.P
namespace Go.Proofs
open Go.Shelf
def Try.lays189_ren : Go.Shelf.Ren := ⟨fun | 189 => 31 | 125 => 50 | 257 => 49 | 128 => 71 | 129 => 72 | 294 => 62 | 295 => 63 | 296 => 64 | 297 => 65 | 298 => 66 | 299 => 67 | 216 => 68 | 300 => 69 | 301 => 70 | 328 => 79 | 329 => 80 | 330 => 81 | 331 => 82 | 332 => 83 | 215 => 84 | 343 => 88 | n => n, fun | 28 => 27 | 3 => 3 | 46 => 67 | 0 => 0 | 51 => 80 | 53 => 42 | 4 => 4 | 183 => 73 | 182 => 72 | 131 => 77 | 5 => 5 | 9 => 9 | 218 => 85 | 222 => 89 | 228 => 96 | 229 => 97 | n => n, fun | n => n⟩
theorem Try.lays189 : Go.Proofs.Lays.n189 Try.prog Try.lays189_ren := {
  mixed := by kernel_rfl
  f125 := Try.func50.trans (congrArg some (by kernel_rfl))
  f128 := Try.func71.trans (congrArg some (by kernel_rfl))
  f129 := Try.func72.trans (congrArg some (by kernel_rfl))
  f189 := Try.func31.trans (congrArg some (by kernel_rfl))
  f215 := Try.func84.trans (congrArg some (by kernel_rfl))
  f216 := Try.func68.trans (congrArg some (by kernel_rfl))
  f257 := Try.func49.trans (congrArg some (by kernel_rfl))
  f294 := Try.func62.trans (congrArg some (by kernel_rfl))
  f295 := Try.func63.trans (congrArg some (by kernel_rfl))
  f296 := Try.func64.trans (congrArg some (by kernel_rfl))
  f297 := Try.func65.trans (congrArg some (by kernel_rfl))
  f298 := Try.func66.trans (congrArg some (by kernel_rfl))
  f299 := Try.func67.trans (congrArg some (by kernel_rfl))
  f300 := Try.func69.trans (congrArg some (by kernel_rfl))
  f301 := Try.func70.trans (congrArg some (by kernel_rfl))
  f328 := Try.func79.trans (congrArg some (by kernel_rfl))
  f329 := Try.func80.trans (congrArg some (by kernel_rfl))
  f330 := Try.func81.trans (congrArg some (by kernel_rfl))
  f331 := Try.func82.trans (congrArg some (by kernel_rfl))
  f332 := Try.func83.trans (congrArg some (by kernel_rfl))
  f343 := Try.func88.trans (congrArg some (by kernel_rfl))
  t0 := Try.underlying0
  a0 := Try.isAgg0
  z0 := Try.sizeOf0
  v0 := Try.zeroValue0
  t3 := Try.underlying3
  a3 := Try.isAgg3
  z3 := Try.sizeOf3
  v3 := Try.zeroValue3
  t4 := Try.underlying4
  a4 := Try.isAgg4
  z4 := Try.sizeOf4
  v4 := Try.zeroValue4
  t5 := Try.underlying5
  a5 := Try.isAgg5
  z5 := Try.sizeOf5
  v5 := Try.zeroValue5
  t9 := Try.underlying9
  a9 := Try.isAgg9
  z9 := Try.sizeOf9
  v9 := Try.zeroValue9
  t28 := Try.underlying27
  a28 := Try.isAgg27
  z28 := Try.sizeOf27
  v28 := Try.zeroValue27
  t46 := Try.underlying67
  a46 := Try.isAgg67
  z46 := Try.sizeOf67
  v46 := Try.zeroValue67
  t51 := Try.underlying80
  a51 := Try.isAgg80
  z51 := Try.sizeOf80
  v51 := Try.zeroValue80
  t53 := Try.underlying42
  a53 := Try.isAgg42
  z53 := Try.sizeOf42
  v53 := Try.zeroValue42
  t131 := Try.underlying77
  a131 := Try.isAgg77
  z131 := Try.sizeOf77
  v131 := Try.zeroValue77
  t182 := Try.underlying72
  a182 := Try.isAgg72
  z182 := Try.sizeOf72
  v182 := Try.zeroValue72
  t183 := Try.underlying73
  a183 := Try.isAgg73
  z183 := Try.sizeOf73
  v183 := Try.zeroValue73
  t218 := Try.underlying85
  a218 := Try.isAgg85
  z218 := Try.sizeOf85
  v218 := Try.zeroValue85
  t222 := Try.underlying89
  a222 := Try.isAgg89
  z222 := Try.sizeOf89
  v222 := Try.zeroValue89
  t228 := Try.underlying96
  a228 := Try.isAgg96
  z228 := Try.sizeOf96
  v228 := Try.zeroValue96
  t229 := Try.underlying97
  a229 := Try.isAgg97
  z229 := Try.sizeOf97
  v229 := Try.zeroValue97 }
open Go.Sort Go.RowKit in
theorem Try.slices_Sort_int (blk off cap : Nat) (zs : List Int) (w : World) (hH : Holds (Value.int .i64) w blk off zs.toArray) (hblk : blk < w.heap.size) (hsz : zs.length < 4611686018427387904) :
    Calls Try.prog 31 #[.slice (some ⟨blk, off, none⟩) zs.length cap] w fun e w' =>
      e = .returned (.tuple #[]) ∧ ∃ n os, w' = grow (putRow (Value.int .i64) (Sort.ahead w n) blk off (zs.mergeSort fun x y => decide (x ≤ y)).toArray) os := Any.slices_Sort_int Try.lays189 blk off cap zs w hH hblk hsz
end Go.Proofs
namespace Go.Proofs.Ytpggcolcabmdeaa.P
open Go.RowKit Go.Sort Go.Proofs.YtpggcolcabmdeaaW.PrintWords Go.Proofs.YtpggcolcabmdeaaW.PrintLast Go.Proofs.YtpggcolcabmdeaaW.PrintMore
def srt (l : List Int) : List Int := l.mergeSort fun x y => decide (x ≤ y)
theorem srt_len (l : List Int) : (srt l).length = l.length := List.length_mergeSort _
theorem encs_map : ∀ l : List Int, encs (Value.int .i64) l = l.map (Value.int .i64) := fun _ => rfl
theorem sort_own {W : World} {base g cap : Nat} {ok : Nat → Prop} {l : List Int} (h : Kd.R (Kd.int .i64) 3 W base ok (.slice (some ⟨g, 0, none⟩) l.length cap) l) (hsmall : l.length < 4611686018427387904) :
    Calls Try.prog 31 #[.slice (some ⟨g, 0, none⟩) l.length cap] W fun e W' =>
      e = .returned (.tuple #[]) ∧ Kd.R (Kd.int .i64) 3 W' base ok (.slice (some ⟨g, 0, none⟩) l.length cap) (srt l) ∧ W.grownBy W' (some g) := by
  have hown := Kd.own_of_R h
  rcases hown.2 with ⟨hn, _⟩ | ⟨g', cap', cur, hv, hg, hb, hn, hcap, hsz, htk⟩
  · cases hn
  cases hv
  have hgs : g < W.heap.size := (Array.getElem?_eq_some_iff.1 hb).1
  have hH : Holds (Value.int .i64) W g 0 l.toArray := holds_of_blockI hb (by rw [Nat.mul_one] at htk; exact htk.trans (encs_map l))
  refine (Go.Proofs.Try.slices_Sort_int g 0 cap l W hH hgs hsmall).mono ?_
  rintro e W' ⟨rfl, n, os, rfl⟩
  refine ⟨rfl, Kd.R_of_own ?_ h.1, grownBy_sortedI _⟩
  have := ownsRow_sortedI (w := W) (base := base) (g := g) (cap := cap) (n := n) (e := 3) (os := os) (cur := cur) (ss := l) (ts := srt l) (srt_len l) hg hb hn hcap hsz
  rw [srt_len]
  exact this
end Go.Proofs.Ytpggcolcabmdeaa.P
namespace Go.Proofs.Ytpggcolcabmdeaa.P
attribute [local go_sem] max2_int min2_int max_two min_two max_three min_three max_four min_four
def quantAt (n : Nat) (a b : Int) : Int := wrap64 (Int.tdiv (wrap64 ((wrap64 ((wrap64 (a * (n : Int))) + b)) - 1)) b)
theorem quantAt_is {n : Nat} {a b : Int} (h1 : n < 1000) (a0 : 0 ≤ a) (ab : a ≤ b) (b1 : 1 ≤ b) (b100 : b ≤ 100) : quantAt n a b = (a * (n : Int) + b - 1) / b ∧ 0 ≤ quantAt n a b ∧ quantAt n a b ≤ (n : Int) := by
 have e0 : 0 ≤ a * (n : Int) := Int.mul_nonneg a0 (by omega)
 have e1 : a * (n : Int) ≤ b * (n : Int) := Int.mul_le_mul_of_nonneg_right ab (by omega)
 have e2 : b * (n : Int) ≤ 100 * (n : Int) := Int.mul_le_mul_of_nonneg_right b100 (by omega)
 have f0 : 0 ≤ (a * (n : Int) + b - 1) / b := Int.ediv_nonneg (by omega) (by omega)
 have f1 : (a * (n : Int) + b - 1) / b < (n : Int) + 1 := by
  rw [Int.ediv_lt_iff_lt_mul (by omega), Int.add_mul, Int.one_mul, Int.mul_comm (n : Int) b]
  omega
 have w1 : wrap64 (a * (n : Int)) = a * (n : Int) := by unfold wrap64; omega
 have w2 : wrap64 (a * (n : Int) + b) = a * (n : Int) + b := by unfold wrap64; omega
 have w3 : wrap64 (a * (n : Int) + b - 1) = a * (n : Int) + b - 1 := by unfold wrap64; omega
 have w4 : wrap64 ((a * (n : Int) + b - 1) / b) = (a * (n : Int) + b - 1) / b := by unfold wrap64; omega
 have e : quantAt n a b = (a * (n : Int) + b - 1) / b := by
  unfold quantAt
  rw [w1, w2, w3, Int.tdiv_eq_ediv_of_nonneg (by omega), w4]
 exact ⟨e, by omega, by omega⟩
def impl_QuantileField_1.f (l0 : List Int) (a1_0 : Int) (a2_0 : Int) : Option Int :=
  if 0 < l0.length ∧ l0.length < 1000 ∧ 0 ≤ a1_0 ∧ a1_0 ≤ a2_0 ∧ 1 ≤ a2_0 ∧ a2_0 ≤ 100 then some (if 1 < quantAt l0.length a1_0 a2_0 then rd (srt l0) (wrap64 (quantAt l0.length a1_0 a2_0 - 1)) else rd (srt l0) 0) else none
set_option maxHeartbeats 2000000 in
set_option maxRecDepth 100000 in
theorem impl_QuantileField_1.calls (P_ : Nat → Prop) (u : Value) (l0 : List Int) (cb1 : Nat) (a1_0 : Int) (cb2 : Nat) (a2_0 : Int) (r : Int) (w0 w : World) (hk1 : w.heap[cb1]? = some (.cells #[.int .i64 a1_0] 3 (0, 0))) (hk2 : w.heap[cb2]? = some (.cells #[.int .i64 a2_0] 3 (0, 0))) (hn1_2 : cb1 ≠ cb2) (hc1 : cb1 < w0.heap.size) (hc2 : cb2 < w0.heap.size) (hB : Below w0.heap.size w0 w) (ho : Kd.R (Kd.int .i64) 3 w w0.heap.size P_ u l0) (h : impl_QuantileField_1.f l0 a1_0 a2_0 = some r) :
    Calls Try.prog 30 #[u, .pointer (some ⟨cb1, 0, none⟩), .pointer (some ⟨cb2, 0, none⟩)] w fun e w' => e = .returned (.int .i64 r) ∧ Below w0.heap.size w0 w' ∧ Kept w w' (fun k_ => P_ k_) := by
 unfold impl_QuantileField_1.f at h
 by_cases hg : 0 < l0.length ∧ l0.length < 1000 ∧ 0 ≤ a1_0 ∧ a1_0 ≤ a2_0 ∧ 1 ≤ a2_0 ∧ a2_0 ≤ 100
 case neg => rw [if_neg hg] at h; exact absurd h (by simp)
 rw [if_pos hg] at h
 replace h := Option.some.inj h
 obtain ⟨h0, h1, a0, ab, b1, b100⟩ := hg
 obtain ⟨-, q0, qn⟩ := quantAt_is (n := l0.length) h1 a0 ab b1 b100
 obtain ⟨g, cap, rfl, hgb, hgs, _⟩ := Kd.R_form ho h0
 have hP : P_ g := ho.1 g rfl
 have HS := aK (sort_own ho (by omega))
 have HB := aK hB
 have HP := aK hP
 have HG := aK hgb
 have K1 := aK hk1
 have K2 := aK hk2
 have N1 := aK (show some cb1 ≠ some g from fun e => by injection e with e; omega)
 have N2 := aK (show some cb2 ≠ some g from fun e => by injection e with e; omega)
 have cb : (a2_0 == 0) = false := beq_eq_false_iff_ne.mpr (by omega)
 have cb' : (a2_0 != 0) = true := bne_iff_ne.mpr (by omega)
 have cz : (a2_0 = 0) = False := eq_false (by omega)
 by_cases hq : 1 < quantAt l0.length a1_0 a2_0
 ·
  rw [if_pos hq] at h
  have p1 : 0 ≤ wrap64 (quantAt l0.length a1_0 a2_0 - 1) := by unfold wrap64; omega
  have q1 : wrap64 (quantAt l0.length a1_0 a2_0 - 1) < (l0.length : Int) := by unfold wrap64; omega
  subst h; clear hk1 hk2 hn1_2 hc1 hc2 hB ho hP hgb hgs h0 h1 a0 ab b1 b100 q0 qn
  unfold quantAt at *
  have hq1 := eq_true hq
  have hq2 : decide (1 < wrap64 (Int.tdiv (wrap64 ((wrap64 ((wrap64 (a1_0 * (l0.length : Int))) + a2_0)) - 1)) a2_0)) = true := decide_eq_true hq
  clear hq
  go_enter Try.func30, Try.ntmps30
  go_wp2_with (first
   | (go_at_call 31; refine HS.out.mono ?_; rintro e w1 ⟨rfl, hR, hg1⟩; have HR := aK hR; have HN := aK hg1; clear hR hg1; have hcz1 : w1.cell? ⟨cb1, 0, none⟩ = some (.int .i64 a1_0) := (blk_cell ((HN.out.block cb1 (blk_lt K1.out) N1.out).trans K1.out) 0).trans rfl; have hcz2 : w1.cell? ⟨cb2, 0, none⟩ = some (.int .i64 a2_0) := (blk_cell ((HN.out.block cb2 (blk_lt K2.out) N2.out).trans K2.out) 0).trans rfl; obtain ⟨hx, hf⟩ := Kd.R_celln 0 HR.out _ p1 q1; replace p1 := eq_true p1; replace q1 := eq_true q1))
  go_ret
  exact ⟨rfl, pw_below_grown HB.out (some g) (HB.out.size) HN.out (fun k hk => by cases hk; exact HG.out), Kept.of_grown HN.out (Kept.refl w _) (fun k hk => by cases hk; exact .inl HP.out)⟩
 rw [if_neg hq] at h
 have p1 : (0 : Int) ≤ 0 := Int.le_refl _
 have q1 : (0 : Int) < (l0.length : Int) := by omega
 have qz := eq_true h0
 subst h
 clear hk1 hk2 hn1_2 hc1 hc2 hB ho hP hgb hgs h0 h1 a0 ab b1 b100 q0 qn
 unfold quantAt at *
 have hq1 := eq_false hq
 have hq2 : decide (1 < wrap64 (Int.tdiv (wrap64 ((wrap64 ((wrap64 (a1_0 * (l0.length : Int))) + a2_0)) - 1)) a2_0)) = false := decide_eq_false hq
 clear hq
 go_enter Try.func30, Try.ntmps30
 go_wp2_with (first
  | (go_at_call 31; refine HS.out.mono ?_; rintro e w1 ⟨rfl, hR, hg1⟩; have HR := aK hR; have HN := aK hg1; clear hR hg1; have hcz1 : w1.cell? ⟨cb1, 0, none⟩ = some (.int .i64 a1_0) := (blk_cell ((HN.out.block cb1 (blk_lt K1.out) N1.out).trans K1.out) 0).trans rfl; have hcz2 : w1.cell? ⟨cb2, 0, none⟩ = some (.int .i64 a2_0) := (blk_cell ((HN.out.block cb2 (blk_lt K2.out) N2.out).trans K2.out) 0).trans rfl; obtain ⟨hx0, hf0⟩ := Kd.R_celln 0 HR.out _ p1 q1; have hx : w1.cell? ⟨g, 0, none⟩ = some (.int .i64 (rd (srt l0) 0)) := hx0; have hf : w1.frozen? ⟨g, 0, none⟩ = false := hf0; clear hx0 hf0; replace q1 := eq_true q1))
 go_ret
 exact ⟨rfl, pw_below_grown HB.out (some g) (HB.out.size) HN.out (fun k hk => by cases hk; exact HG.out), Kept.of_grown HN.out (Kept.refl w _) (fun k hk => by cases hk; exact .inl HP.out)⟩
def impl_QuantileField.f (k : Nat) (l0 : List (S29)) (a1 : Int) (a2 : Int) : Option (Int × Int × List Int × Bool) := (impl_within.f a2 1 100).bind fun t104 => (if t104 = true then ((impl_within.f a1 0 a2).bind fun t105 => (if t105 = true then ((impl_ensembleField_at_mp_mpOwn.f k (fun z0_ => impl_QuantileField_1.f z0_ a1 a2) l0).bind fun bt106 => (some (bt106.1, bt106.2.1, bt106.2.2.1, bt106.2.2.2))) else (some (0, 0, ([] : List Int), false)))) else (some (0, 0, ([] : List Int), false)))
theorem impl_QuantileField.calls (k : Nat) (A0 : Option Addr) (c0 : Nat) (l0 : List (S29)) (a1 : Int) (a2 : Int) (r1 : Int) (r2 : Int) (r3 : List Int) (r4 : Bool) (w : World) (hr0 : Kd.C k29 w A0 l0.length l0) (hc0 : l0.length ≤ c0) (h : impl_QuantileField.f k l0 a1 a2 = some (r1, r2, r3, r4)) :
  Calls Try.prog 9 #[.slice A0 l0.length c0, .int .i64 a1, .int .i64 a2] w fun e w' => ∃ v2_ : Value, e = .returned (.tuple #[.agg #[.int .i64 r1, .int .i64 r2, v2_], .bool r4]) ∧ Kd.R (Kd.int .i64) 3 w' w.heap.size (fun _ => True) v2_ r3 ∧ Below w.heap.size w w' := by
 have hu29 := Try.underlying29
 have HR0 := aK hr0
 have HC0 := aK hc0
 clear hr0 hc0
 have HB := aK (Below.refl w.heap.size w)
 have H : ((impl_within.f a2 1 100).bind fun t104 => (if t104 = true then ((impl_within.f a1 0 a2).bind fun t105 => (if t105 = true then ((impl_ensembleField_at_mp_mpOwn.f k (fun z0_ => impl_QuantileField_1.f z0_ a1 a2) l0).bind fun bt106 => (some (bt106.1, bt106.2.1, bt106.2.2.1, bt106.2.2.2))) else (some (0, 0, ([] : List Int), false)))) else (some (0, 0, ([] : List Int), false)))) = some (r1, r2, r3, r4) := h
 clear h
 replace H := oA H
 obtain ⟨t104, A4, H⟩ := H
 replace H : (if t104 = true then ((impl_within.f a1 0 a2).bind fun t105 => (if t105 = true then ((impl_ensembleField_at_mp_mpOwn.f k (fun z0_ => impl_QuantileField_1.f z0_ a1 a2) l0).bind fun bt106 => (some (bt106.1, bt106.2.1, bt106.2.2.1, bt106.2.2.2))) else (some (0, 0, ([] : List Int), false)))) else (some (0, 0, ([] : List Int), false))) = some (r1, r2, r3, r4) := H
 by_cases c5 : t104 = true
 rotate_left
 ·
  replace c5 := Bool.eq_false_iff.mpr c5; subst c5
  have H1 : (some (0, 0, ([] : List Int), false)) = some (r1, r2, r3, r4) := by rw [if_neg (show ¬ (false = true) by decide)] at H; exact H
  clear H; have H := H1; clear H1
  simp only [Option.some.injEq, Prod.mk.injEq] at H
  obtain ⟨rfl, rfl, rfl, rfl⟩ := H
  go_enter Try.func9, Try.ntmps9
  go_wp2_with (first | ((with_reducible refine ga 4 rfl ?_); refine bxa #[.int .i64 a1] 3 ?_; intro g101 hg w31 B101 hb; have GW101 := gA hg HB; replace HB := bS HB hb; clear hb hg) | ((with_reducible refine ga 5 rfl ?_); refine bxa #[.int .i64 a2] 3 ?_; intro g102 hg w32 B102 hb; have GW102 := gA hg HB; obtain ⟨N101_102, N102_101⟩ := na hg B101; replace B101 := bB B101 hb; replace HB := bS HB hb; clear hb hg) | ((with_reducible refine ga 6 rfl ?_); refine bxa #[.int .i64 0, .int .i64 0, .slice none 0 0] 29 ?_; intro g103 hg w33 B103 hb; have GW103 := gA hg HB; obtain ⟨N101_103, N103_101⟩ := na hg B101; obtain ⟨N102_103, N103_102⟩ := na hg B102; replace B101 := bB B101 hb; replace B102 := bB B102 hb; replace HB := bS HB hb; clear hb hg; obtain ⟨_, _⟩ := nB N102_101; obtain ⟨_, _⟩ := nB N102_103; obtain ⟨_, _⟩ := bc1 B102.out) | ((with_reducible refine gc 20 rfl ?_); refine gl (some 9) Try.func20 #[.int .i64 a2, .int .i64 1, .int .i64 100] ?_; (with_reducible refine (impl_within.calls a2 1 100 false _ A4.out).mono ?_); rintro e w' ⟨rfl, ⟨nd, rfl⟩⟩; refine ⟨_, rfl, ?_⟩; (try (rw [drewN_self w33]; generalize hq_ : World.drewN w33 _ = w33; replace B101 : Aside0 (w33.heap[g101]? = some (.cells #[.int .i64 a1] 3 (0, 0))) := ⟨by rw [← hq_]; exact (pB B101.out)⟩; replace B102 : Aside0 (w33.heap[g102]? = some (.cells #[.int .i64 a2] 3 (0, 0))) := ⟨by rw [← hq_]; exact (pB B102.out)⟩; replace B103 : Aside0 (w33.heap[g103]? = some (.cells #[.int .i64 0, .int .i64 0, .slice none 0 0] 29 (0, 0))) := ⟨by rw [← hq_]; exact (pB B103.out)⟩; replace HB : Aside0 (Below w.heap.size w w33) := ⟨by rw [← hq_]; exact (pS HB.out)⟩; clear hq_)); obtain ⟨_, _⟩ := nB N103_101; obtain ⟨_, _, _, _, _, _⟩ := bc3 B103.out))
  refine bodyPost_ret (results_ct rfl _ _ g103 29 #[.int .i64 0, .int .i64 0, .slice none 0 0] (0, 0) _ rfl (by refine bq #[.int .i64 0, .int .i64 0, .slice none 0 0] 2 ?_; refine bq #[.int .i64 0, .int .i64 0, .slice none 0 0] 1 ?_; refine bq #[.int .i64 0, .int .i64 0, .slice none 0 0] 0 ?_; refine bk ?_; exact B103.out) Try.underlying29 rfl (by kernel_rfl)) rfl ?_
  exact ⟨_, er, by first | exact Kd.R_nil _ _ _ _ _ | exact Kd.N_nil _ _ _ _ _ | exact Kd.V_nil _ _ _ _ _ | exact Kd.Q_nil _ _ _ _ _ | exact Kd.S_nil _ _ _ _ _, pT HB.out⟩
 subst c5
 have H1 : ((impl_within.f a1 0 a2).bind fun t105 => (if t105 = true then ((impl_ensembleField_at_mp_mpOwn.f k (fun z0_ => impl_QuantileField_1.f z0_ a1 a2) l0).bind fun bt106 => (some (bt106.1, bt106.2.1, bt106.2.2.1, bt106.2.2.2))) else (some (0, 0, ([] : List Int), false)))) = some (r1, r2, r3, r4) := by rw [if_pos rfl] at H; exact H
 clear H
 have H := H1
 clear H1
 replace H := oA H
 obtain ⟨t105, A6, H⟩ := H
 replace H : (if t105 = true then ((impl_ensembleField_at_mp_mpOwn.f k (fun z0_ => impl_QuantileField_1.f z0_ a1 a2) l0).bind fun bt106 => (some (bt106.1, bt106.2.1, bt106.2.2.1, bt106.2.2.2))) else (some (0, 0, ([] : List Int), false))) = some (r1, r2, r3, r4) := H
 by_cases c7 : t105 = true
 ·
  subst c7
  have H1 : ((impl_ensembleField_at_mp_mpOwn.f k (fun z0_ => impl_QuantileField_1.f z0_ a1 a2) l0).bind fun bt106 => (some (bt106.1, bt106.2.1, bt106.2.2.1, bt106.2.2.2))) = some (r1, r2, r3, r4) := by rw [if_pos rfl] at H; exact H
  clear H; have H := H1; clear H1; replace H := oA H
  obtain ⟨⟨t106, t107, t108, t111⟩, A8, H⟩ := H
  replace H : (some (t106, t107, t108, t111)) = some (r1, r2, r3, r4) := H
  simp only [Option.some.injEq, Prod.mk.injEq] at H
  obtain ⟨rfl, rfl, rfl, rfl⟩ := H
  go_enter Try.func9, Try.ntmps9
  go_wp2_with (first | ((with_reducible refine ga 4 rfl ?_); refine bxa #[.int .i64 a1] 3 ?_; intro g101 hg w9 B101 hb; have GW101 := gA hg HB; replace HB := bS HB hb; clear hb hg) | ((with_reducible refine ga 5 rfl ?_); refine bxa #[.int .i64 a2] 3 ?_; intro g102 hg w10 B102 hb; have GW102 := gA hg HB; obtain ⟨N101_102, N102_101⟩ := na hg B101; replace B101 := bB B101 hb; replace HB := bS HB hb; clear hb hg) | ((with_reducible refine ga 6 rfl ?_); refine bxa #[.int .i64 0, .int .i64 0, .slice none 0 0] 29 ?_; intro g103 hg w11 B103 hb; have GW103 := gA hg HB; obtain ⟨N101_103, N103_101⟩ := na hg B101; obtain ⟨N102_103, N103_102⟩ := na hg B102; replace B101 := bB B101 hb; replace B102 := bB B102 hb; replace HB := bS HB hb; clear hb hg; obtain ⟨_, _⟩ := nB N102_101; obtain ⟨_, _⟩ := nB N102_103; obtain ⟨_, _⟩ := bc1 B102.out) | ((with_reducible refine gc 20 rfl ?_); refine gl (some 9) Try.func20 #[.int .i64 a2, .int .i64 1, .int .i64 100] ?_; (with_reducible refine (impl_within.calls a2 1 100 true _ A4.out).mono ?_); rintro e w' ⟨rfl, ⟨nd, rfl⟩⟩; refine ⟨_, rfl, ?_⟩; (try (rw [drewN_self w11]; generalize hq_ : World.drewN w11 _ = w11; replace B101 : Aside0 (w11.heap[g101]? = some (.cells #[.int .i64 a1] 3 (0, 0))) := ⟨by rw [← hq_]; exact (pB B101.out)⟩; replace B102 : Aside0 (w11.heap[g102]? = some (.cells #[.int .i64 a2] 3 (0, 0))) := ⟨by rw [← hq_]; exact (pB B102.out)⟩; replace B103 : Aside0 (w11.heap[g103]? = some (.cells #[.int .i64 0, .int .i64 0, .slice none 0 0] 29 (0, 0))) := ⟨by rw [← hq_]; exact (pB B103.out)⟩; replace HB : Aside0 (Below w.heap.size w w11) := ⟨by rw [← hq_]; exact (pS HB.out)⟩; clear hq_)); obtain ⟨_, _⟩ := nB N101_103; obtain ⟨_, _⟩ := bc1 B101.out; obtain ⟨_, _⟩ := bc1 B102.out) | (go_at_call 20; (with_reducible refine (impl_within.calls a1 0 a2 true _ A6.out).mono ?_); rintro e w' ⟨rfl, ⟨nd, rfl⟩⟩; (try (rw [drewN_self w11]; generalize hq_ : World.drewN w11 _ = w11; replace B101 : Aside0 (w11.heap[g101]? = some (.cells #[.int .i64 a1] 3 (0, 0))) := ⟨by rw [← hq_]; exact (pB B101.out)⟩; replace B102 : Aside0 (w11.heap[g102]? = some (.cells #[.int .i64 a2] 3 (0, 0))) := ⟨by rw [← hq_]; exact (pB B102.out)⟩; replace B103 : Aside0 (w11.heap[g103]? = some (.cells #[.int .i64 0, .int .i64 0, .slice none 0 0] 29 (0, 0))) := ⟨by rw [← hq_]; exact (pB B103.out)⟩; replace HB : Aside0 (Below w.heap.size w w11) := ⟨by rw [← hq_]; exact (pS HB.out)⟩; clear hq_))) | ((with_reducible refine gc 21 rfl ?_); refine gl (some 20) Try.func21 #[.slice A0 l0.length c0, .func (.func 30) #[] #[.pointer (some ⟨g101, 0, none⟩), .pointer (some ⟨g102, 0, none⟩)]] ?_; (with_reducible refine (impl_ensembleField_at_mp_mpOwn.calls (fun z0_ => impl_QuantileField_1.f z0_ a1 a2) 30 #[.pointer (some ⟨g101, 0, none⟩), .pointer (some ⟨g102, 0, none⟩)] k _ _ l0  t106 t107 t108 t111 _ ?side1 ?side2 ?side3 ?side4 A8.out).mono ?_); (case side1 => exact fun args_ w_ => enters_ Try.func30 (by kernel_rfl) rfl args_ w_); (case side2 => intro P_ u_ l_ r_ w0_ W_ hB_ hle_ hB0_ ho_ hz_; exact impl_QuantileField_1.calls P_ u_ l_ g101 a1 g102 a2 r_ w0_ W_ (blk_below (pB B101.out) hB_) (blk_below (pB B102.out) hB_) N101_102.out (Nat.lt_of_lt_of_le (blk_lt (g := g101) (o := .cells #[.int .i64 a1] 3 (0, 0)) (pB B101.out)) hle_) (Nat.lt_of_lt_of_le (blk_lt (g := g102) (o := .cells #[.int .i64 a2] 3 (0, 0)) (pB B102.out)) hle_) hB0_ ho_ hz_); (case side3 => exact cB HR0 HB); (case side4 => exact HC0.out); rintro e w18 ⟨v109, rfl, ho0, hb⟩; refine ⟨_, rfl, ?_⟩; have HO110 := aK (Kd.R_lower (Kd.R_newB (Kd.R_newB ho0 (g := g101) (o := .cells #[.int .i64 a1] 3 (0, 0)) (pB B101.out)) (g := g102) (o := .cells #[.int .i64 a2] 3 (0, 0)) (pB B102.out)) (below_size (pS HB.out))); replace B101 := bB B101 hb; replace B102 := bB B102 hb; replace B103 := bB B103 hb; replace HB := bS HB hb; (try clear hb); (try clear ho0); obtain ⟨_, _, _, _, _, _⟩ := bc3 B103.out; obtain ⟨Ao20, co20, eo20⟩ := Kd.R_slice HO110.out; subst eo20))
  refine bodyPost_ret (results_ct rfl _ _ g103 29 #[.int .i64 t106, .int .i64 t107, .slice Ao20 t108.length co20] (0, 0) _ rfl (by refine bq #[.int .i64 t106, .int .i64 t107, .slice none 0 0] 2 ?_; refine bq #[.int .i64 t106, .int .i64 0, .slice none 0 0] 1 ?_; refine bq #[.int .i64 0, .int .i64 0, .slice none 0 0] 0 ?_; refine bk ?_; exact B103.out) Try.underlying29 rfl (by kernel_rfl)) rfl ?_
  exact ⟨_, er, by (with_reducible repeat (first | apply Kd.R_alloc | apply Kd.R_drewN | apply Kd.R_drew)); exact Kd.R_mono (rF3 HO110.out B103.out (.int .i64 t106) (.int .i64 t107) (.slice Ao20 t108.length co20)) (fun _ h => trivial), pT HB.out⟩
 replace c7 := Bool.eq_false_iff.mpr c7
 subst c7
 have H1 : (some (0, 0, ([] : List Int), false)) = some (r1, r2, r3, r4) := by rw [if_neg (show ¬ (false = true) by decide)] at H; exact H
 clear H
 have H := H1
 clear H1
 simp only [Option.some.injEq, Prod.mk.injEq] at H
 obtain ⟨rfl, rfl, rfl, rfl⟩ := H
 go_enter Try.func9, Try.ntmps9
 go_wp2_with (first | ((with_reducible refine ga 4 rfl ?_); refine bxa #[.int .i64 a1] 3 ?_; intro g101 hg w21 B101 hb; have GW101 := gA hg HB; replace HB := bS HB hb; clear hb hg) | ((with_reducible refine ga 5 rfl ?_); refine bxa #[.int .i64 a2] 3 ?_; intro g102 hg w22 B102 hb; have GW102 := gA hg HB; obtain ⟨N101_102, N102_101⟩ := na hg B101; replace B101 := bB B101 hb; replace HB := bS HB hb; clear hb hg) | ((with_reducible refine ga 6 rfl ?_); refine bxa #[.int .i64 0, .int .i64 0, .slice none 0 0] 29 ?_; intro g103 hg w23 B103 hb; have GW103 := gA hg HB; obtain ⟨N101_103, N103_101⟩ := na hg B101; obtain ⟨N102_103, N103_102⟩ := na hg B102; replace B101 := bB B101 hb; replace B102 := bB B102 hb; replace HB := bS HB hb; clear hb hg; obtain ⟨_, _⟩ := nB N102_101; obtain ⟨_, _⟩ := nB N102_103; obtain ⟨_, _⟩ := bc1 B102.out) | ((with_reducible refine gc 20 rfl ?_); refine gl (some 9) Try.func20 #[.int .i64 a2, .int .i64 1, .int .i64 100] ?_; (with_reducible refine (impl_within.calls a2 1 100 true _ A4.out).mono ?_); rintro e w' ⟨rfl, ⟨nd, rfl⟩⟩; refine ⟨_, rfl, ?_⟩; (try (rw [drewN_self w23]; generalize hq_ : World.drewN w23 _ = w23; replace B101 : Aside0 (w23.heap[g101]? = some (.cells #[.int .i64 a1] 3 (0, 0))) := ⟨by rw [← hq_]; exact (pB B101.out)⟩; replace B102 : Aside0 (w23.heap[g102]? = some (.cells #[.int .i64 a2] 3 (0, 0))) := ⟨by rw [← hq_]; exact (pB B102.out)⟩; replace B103 : Aside0 (w23.heap[g103]? = some (.cells #[.int .i64 0, .int .i64 0, .slice none 0 0] 29 (0, 0))) := ⟨by rw [← hq_]; exact (pB B103.out)⟩; replace HB : Aside0 (Below w.heap.size w w23) := ⟨by rw [← hq_]; exact (pS HB.out)⟩; clear hq_)); obtain ⟨_, _⟩ := nB N101_103; obtain ⟨_, _⟩ := bc1 B101.out; obtain ⟨_, _⟩ := bc1 B102.out) | (go_at_call 20; (with_reducible refine (impl_within.calls a1 0 a2 false _ A6.out).mono ?_); rintro e w' ⟨rfl, ⟨nd, rfl⟩⟩; (try (rw [drewN_self w23]; generalize hq_ : World.drewN w23 _ = w23; replace B101 : Aside0 (w23.heap[g101]? = some (.cells #[.int .i64 a1] 3 (0, 0))) := ⟨by rw [← hq_]; exact (pB B101.out)⟩; replace B102 : Aside0 (w23.heap[g102]? = some (.cells #[.int .i64 a2] 3 (0, 0))) := ⟨by rw [← hq_]; exact (pB B102.out)⟩; replace B103 : Aside0 (w23.heap[g103]? = some (.cells #[.int .i64 0, .int .i64 0, .slice none 0 0] 29 (0, 0))) := ⟨by rw [← hq_]; exact (pB B103.out)⟩; replace HB : Aside0 (Below w.heap.size w w23) := ⟨by rw [← hq_]; exact (pS HB.out)⟩; clear hq_)); obtain ⟨_, _, _, _, _, _⟩ := bc3 B103.out))
 refine bodyPost_ret (results_ct rfl _ _ g103 29 #[.int .i64 0, .int .i64 0, .slice none 0 0] (0, 0) _ rfl (by refine bq #[.int .i64 0, .int .i64 0, .slice none 0 0] 2 ?_; refine bq #[.int .i64 0, .int .i64 0, .slice none 0 0] 1 ?_; refine bq #[.int .i64 0, .int .i64 0, .slice none 0 0] 0 ?_; refine bk ?_; exact B103.out) Try.underlying29 rfl (by kernel_rfl)) rfl ?_
 exact ⟨_, er, by first | exact Kd.R_nil _ _ _ _ _ | exact Kd.N_nil _ _ _ _ _ | exact Kd.V_nil _ _ _ _ _ | exact Kd.Q_nil _ _ _ _ _ | exact Kd.S_nil _ _ _ _ _, pT HB.out⟩
mutual
def laws_FnEnsembles.j0 : Nat → List Int → List (S29) → Int → Bool → Bool → Int → Int → List Int → Option (Bool)
 | 0, _, _, _, _, _, _, _, _ => none
 | k + 1, x0, x3, x4, x6, x61, r0, r1, r2 => if x61 = true then (some false) else ((impl_QuantileField.f k x3 0 1).bind fun bt121 => ((impl_QuantileField.f k x3 1 2).bind fun bt128 => ((impl_QuantileField.f k x3 1 1).bind fun bt135 => ((impl_SpreadField.f k x3).bind fun bt142 => ((impl_IsValidEnsemble.f k x3).bind fun t149 => (if (bt121.2.2.2 != t149) = true then (laws_FnEnsembles.j1 k x0 x3 x4 x6 true r0 r1 r2 bt121.1 bt121.2.1 bt121.2.2.1 bt128.1 bt128.2.1 bt128.2.2.1 bt135.1 bt135.2.1 bt135.2.2.1 bt142.1 bt142.2.1 bt142.2.2.1) else (if (bt128.2.2.2 != bt121.2.2.2) = true then (laws_FnEnsembles.j1 k x0 x3 x4 x6 true r0 r1 r2 bt121.1 bt121.2.1 bt121.2.2.1 bt128.1 bt128.2.1 bt128.2.2.1 bt135.1 bt135.2.1 bt135.2.2.1 bt142.1 bt142.2.1 bt142.2.2.1) else (if (bt135.2.2.2 != bt121.2.2.2) = true then (laws_FnEnsembles.j1 k x0 x3 x4 x6 true r0 r1 r2 bt121.1 bt121.2.1 bt121.2.2.1 bt128.1 bt128.2.1 bt128.2.2.1 bt135.1 bt135.2.1 bt135.2.2.1 bt142.1 bt142.2.1 bt142.2.2.1) else (laws_FnEnsembles.j1 k x0 x3 x4 x6 (bt142.2.2.2 != bt121.2.2.2) r0 r1 r2 bt121.1 bt121.2.1 bt121.2.2.1 bt128.1 bt128.2.1 bt128.2.2.1 bt135.1 bt135.2.1 bt135.2.2.1 bt142.1 bt142.2.1 bt142.2.2.1)))))))))
def laws_FnEnsembles.j1 : Nat → List Int → List (S29) → Int → Bool → Bool → Int → Int → List Int → Int → Int → List Int → Int → Int → List Int → Int → Int → List Int → Int → Int → List Int → Option (Bool)
 | 0, _, _, _, _, _, _, _, _, _, _, _, _, _, _, _, _, _, _, _, _ => none
 | k + 1, x0, x3, x4, x6, x100, r0, r1, r2, r3, r4, r5, r6, r7, r8, r9, r10, r11, r12, r13, r14 => if x100 = true then (some false) else (laws_FnEnsembles.l0 k x0 x3 x4 x6 0 r0 r1 r2 r3 r4 r5 r6 r7 r8 r9 r10 r11 r12 r13 r14)
def laws_FnEnsembles.l0 : Nat → List Int → List (S29) → Int → Bool → Int → Int → Int → List Int → Int → Int → List Int → Int → Int → List Int → Int → Int → List Int → Int → Int → List Int → Option (Bool)
 | 0, _, _, _, _, _, _, _, _, _, _, _, _, _, _, _, _, _, _, _, _ => none
 | k + 1, x0, x3, x4, x6, x17, r0, r1, r2, r3, r4, r5, r6, r7, r8, r9, r10, r11, r12, r13, r14 => if x17 < (r2.length : Int) then (laws_FnEnsembles.j3 k x0 x3 x4 x6 x17 x6 r0 r1 r2 r3 r4 r5 r6 r7 r8 r9 r10 r11 r12 r13 r14) else (laws_FnEnsembles.j3 k x0 x3 x4 x6 x17 false r0 r1 r2 r3 r4 r5 r6 r7 r8 r9 r10 r11 r12 r13 r14)
def laws_FnEnsembles.j3 : Nat → List Int → List (S29) → Int → Bool → Int → Bool → Int → Int → List Int → Int → Int → List Int → Int → Int → List Int → Int → Int → List Int → Int → Int → List Int → Option (Bool)
 | 0, _, _, _, _, _, _, _, _, _, _, _, _, _, _, _, _, _, _, _, _, _ => none
 | k + 1, x0, x3, x4, x6, x17, x108, r0, r1, r2, r3, r4, r5, r6, r7, r8, r9, r10, r11, r12, r13, r14 => if x108 = true then (if r0 = 0 then (none) else ((impl_ChanceAt.f k x3 (Int.tmod x17 r0) (wrap64 (Int.tdiv x17 r0)) x4).bind fun bt150 => (if bt150.2.2 = true then (if bt150.2.1 > 0 then (if 0 ≤ x17 then (if x17 < (r2.length : Int) then (if bt150.1 = (rd r2 x17) then (if bt150.2.1 = 0 then (laws_FnEnsembles.j4 k x0 x3 x4 x6 x17 bt150.2.1 ((rd r2 x17) != (-9999)) r0 r1 r2 r3 r4 r5 r6 r7 r8 r9 r10 r11 r12 r13 r14) else (laws_FnEnsembles.j4 k x0 x3 x4 x6 x17 bt150.2.1 false r0 r1 r2 r3 r4 r5 r6 r7 r8 r9 r10 r11 r12 r13 r14)) else (laws_FnEnsembles.j4 k x0 x3 x4 x6 x17 bt150.2.1 true r0 r1 r2 r3 r4 r5 r6 r7 r8 r9 r10 r11 r12 r13 r14)) else (none)) else (none)) else (if bt150.2.1 = 0 then (if 0 ≤ x17 then (if x17 < (r2.length : Int) then (laws_FnEnsembles.j4 k x0 x3 x4 x6 x17 bt150.2.1 ((rd r2 x17) != (-9999)) r0 r1 r2 r3 r4 r5 r6 r7 r8 r9 r10 r11 r12 r13 r14) else (none)) else (none)) else (laws_FnEnsembles.j4 k x0 x3 x4 x6 x17 bt150.2.1 false r0 r1 r2 r3 r4 r5 r6 r7 r8 r9 r10 r11 r12 r13 r14))) else (laws_FnEnsembles.j4 k x0 x3 x4 x6 x17 bt150.2.1 true r0 r1 r2 r3 r4 r5 r6 r7 r8 r9 r10 r11 r12 r13 r14)))) else ((spec_DrawQuantileField.f k x0).bind fun bt172 => ((impl_QuantileField.f k bt172.1 bt172.2.1 bt172.2.2).bind fun bt177 => ((spec_QuantileField.f k bt172.1 bt172.2.1 bt172.2.2).bind fun bt184 => (if (bt177.2.2.2 != bt184.2.2.2) = true then (laws_FnEnsembles.j5 k x0 true) else ((laws_rFields.f k bt177.1 bt177.2.1 bt177.2.2.1 bt184.1 bt184.2.1 bt184.2.2.1).bind fun t191 => (laws_FnEnsembles.j5 k x0 (!t191)))))))
def laws_FnEnsembles.j4 : Nat → List Int → List (S29) → Int → Bool → Int → Int → Bool → Int → Int → List Int → Int → Int → List Int → Int → Int → List Int → Int → Int → List Int → Int → Int → List Int → Option (Bool)
 | 0, _, _, _, _, _, _, _, _, _, _, _, _, _, _, _, _, _, _, _, _, _, _ => none
 | k + 1, x0, x3, x4, x6, x17, x19, x152, r0, r1, r2, r3, r4, r5, r6, r7, r8, r9, r10, r11, r12, r13, r14 => if x152 = true then (some false) else (if 0 ≤ x17 then (if x17 < (r11.length : Int) then (if x17 < (r5.length : Int) then (if (wrap64 ((rd r11 x17) - (rd r5 x17))) > 9000 then (if x17 < (r8.length : Int) then (if (rd r5 x17) > (rd r8 x17) then (some false) else (if (rd r8 x17) > (rd r11 x17) then (some false) else (if x19 > 0 then (if x17 < (r14.length : Int) then (if (rd r14 x17) = 9000 then (if x19 = 0 then (if (rd r14 x17) = (-9999) then (laws_FnEnsembles.l0 k x0 x3 x4 x6 (wrap64 (x17 + 1)) r0 r1 r2 r3 r4 r5 r6 r7 r8 r9 r10 r11 r12 r13 r14) else (some false)) else (laws_FnEnsembles.l0 k x0 x3 x4 x6 (wrap64 (x17 + 1)) r0 r1 r2 r3 r4 r5 r6 r7 r8 r9 r10 r11 r12 r13 r14)) else (some false)) else (none)) else (if x19 = 0 then (if x17 < (r14.length : Int) then (if (rd r14 x17) = (-9999) then (laws_FnEnsembles.l0 k x0 x3 x4 x6 (wrap64 (x17 + 1)) r0 r1 r2 r3 r4 r5 r6 r7 r8 r9 r10 r11 r12 r13 r14) else (some false)) else (none)) else (laws_FnEnsembles.l0 k x0 x3 x4 x6 (wrap64 (x17 + 1)) r0 r1 r2 r3 r4 r5 r6 r7 r8 r9 r10 r11 r12 r13 r14))))) else (none)) else (if x17 < (r8.length : Int) then (if (rd r5 x17) > (rd r8 x17) then (some false) else (if (rd r8 x17) > (rd r11 x17) then (some false) else (if x19 > 0 then (if x17 < (r14.length : Int) then (if (rd r14 x17) = (wrap64 ((rd r11 x17) - (rd r5 x17))) then (if x19 = 0 then (if (rd r14 x17) = (-9999) then (laws_FnEnsembles.l0 k x0 x3 x4 x6 (wrap64 (x17 + 1)) r0 r1 r2 r3 r4 r5 r6 r7 r8 r9 r10 r11 r12 r13 r14) else (some false)) else (laws_FnEnsembles.l0 k x0 x3 x4 x6 (wrap64 (x17 + 1)) r0 r1 r2 r3 r4 r5 r6 r7 r8 r9 r10 r11 r12 r13 r14)) else (some false)) else (none)) else (if x19 = 0 then (if x17 < (r14.length : Int) then (if (rd r14 x17) = (-9999) then (laws_FnEnsembles.l0 k x0 x3 x4 x6 (wrap64 (x17 + 1)) r0 r1 r2 r3 r4 r5 r6 r7 r8 r9 r10 r11 r12 r13 r14) else (some false)) else (none)) else (laws_FnEnsembles.l0 k x0 x3 x4 x6 (wrap64 (x17 + 1)) r0 r1 r2 r3 r4 r5 r6 r7 r8 r9 r10 r11 r12 r13 r14))))) else (none))) else (none)) else (none)) else (none))
def laws_FnEnsembles.j5 : Nat → List Int → Bool → Option (Bool)
 | 0, _, _ => none
 | k + 1, x0, x243 => if x243 = true then (some false) else ((spec_DrawMeanMember.f k x0).bind fun t192 => ((impl_MeanMember.f k t192).bind fun bt195 => ((spec_MeanMember.f k t192).bind fun bt202 => (if (bt195.2.2.2 == bt202.2.2.2) = true then ((laws_rFields.f k bt195.1 bt195.2.1 bt195.2.2.1 bt202.1 bt202.2.1 bt202.2.2.1).bind fun t209 => (some t209)) else (some false)))))
end
def laws_FnEnsembles.f (k : Nat) (l0 : List Int) : Option (Bool) := (laws_rBig.f l0).bind fun t101 => (if t101 = true then (some true) else ((spec_DrawCountAtLeast.f k l0).bind fun bt102 => ((impl_CountAtLeast.f k bt102.1 bt102.2).bind fun bt106 => ((spec_CountAtLeast.f k bt102.1 bt102.2).bind fun bt113 => (if (bt106.2.2.2 != bt113.2.2.2) = true then (laws_FnEnsembles.j0 k l0 bt102.1 bt102.2 bt106.2.2.2 true bt106.1 bt106.2.1 bt106.2.2.1) else ((laws_rFields.f k bt106.1 bt106.2.1 bt106.2.2.1 bt113.1 bt113.2.1 bt113.2.2.1).bind fun t120 => (laws_FnEnsembles.j0 k l0 bt102.1 bt102.2 bt106.2.2.2 (!t120) bt106.1 bt106.2.1 bt106.2.2.1)))))))
def laws_FnEnsembles.T17 : Bool × List (List Nat × List Nat) := (true, [([], []), ([], []), ([], []), ([2], [2]), ([1, 3], [1, 3]), ([], []), ([], []), ([6], [6]), ([5, 7], [5, 7]), ([], []), ([0, 4, 8, 9], [0, 4, 8, 9]), ([10], [10]), ([11], [11]), ([11], [11]), ([11], [11]), ([12, 10, 0, 1, 2, 3, 4, 5, 6, 7, 8, 9, 10, 11, 12], [12]), ([13, 15, 0, 1, 2, 3, 4, 5, 6, 7, 8, 9, 10, 11, 12, 13, 15], [13]), ([14, 16, 0, 1, 2, 3, 4, 5, 6, 7, 8, 9, 10, 11, 12, 13, 14, 15, 16], [14])])
def laws_FnEnsembles.B17 : List Nat := [0, 0, 0, 4, 14, 0, 0, 64, 224, 0, 1023, 2047, 4095, 4095, 4095, 8191, 49151, 131071]
theorem laws_FnEnsembles.tab17 : rtab .any (opsOf Try.f3 17) = laws_FnEnsembles.T17 := by kernel_rfl
theorem laws_FnEnsembles.bits17 : waitsOk laws_FnEnsembles.T17.2 laws_FnEnsembles.B17 = true := by kernel_rfl
def laws_FnEnsembles.T20 : Bool × List (List Nat × List Nat) := (true, [([], []), ([0], [0]), ([], []), ([1, 2], [1, 2]), ([3], [3]), ([], []), ([5], [5]), ([], []), ([6, 7], [6, 7]), ([8], [8]), ([4, 9], [4, 9]), ([10, 0, 1, 2, 3, 4, 5, 6, 7, 8, 9, 10], [10])])
def laws_FnEnsembles.B20 : List Nat := [0, 1, 0, 7, 15, 0, 32, 0, 224, 480, 1023, 2047]
theorem laws_FnEnsembles.tab20 : rtab .any (opsOf Try.f3 20) = laws_FnEnsembles.T20 := by kernel_rfl
theorem laws_FnEnsembles.bits20 : waitsOk laws_FnEnsembles.T20.2 laws_FnEnsembles.B20 = true := by kernel_rfl
def laws_FnEnsembles.T23 : Bool × List (List Nat × List Nat) := (true, [([], []), ([0], [0]), ([], []), ([1, 2], [1, 2]), ([3], [3]), ([], []), ([5], [5]), ([], []), ([6, 7], [6, 7]), ([8], [8]), ([4, 9], [4, 9]), ([10], [10]), ([11], [11]), ([12, 11], [11, 12]), ([11], [11]), ([13, 14, 11], [11, 13, 14]), ([15, 11], [11, 15]), ([11], [11]), ([17, 11], [11, 17]), ([11], [11]), ([18, 19, 11], [11, 18, 19]), ([20, 11], [11, 20]), ([16, 21, 11], [11, 16, 21]), ([11, 22], [11, 22]), ([23, 11], [23]), ([24], [24]), ([25, 24], [24, 25]), ([26, 24, 24], [24, 26]), ([27], [27]), ([28, 27], [27, 28]), ([27], [27]), ([29, 30, 27], [27, 29, 30]), ([31, 27], [27, 31]), ([27], [27]), ([32, 33, 27], [27, 32, 33]), ([27, 34, 24], [24, 27, 34]), ([24, 35], [24, 35]), ([36, 27], [36]), ([37], [37]), ([38, 37], [37, 38]), ([39, 37, 37], [37, 39]), ([40], [40]), ([41, 40], [40, 41]), ([40], [40]), ([42, 43, 40], [40, 42, 43]), ([44, 40], [40, 44]), ([45, 40], [40, 45]), ([40, 46, 37], [37, 40, 46]), ([37, 47], [37, 47])])
def laws_FnEnsembles.B23 : List Nat := [0, 1, 0, 7, 15, 0, 32, 0, 224, 480, 1023, 2047, 4095, 8191, 4095, 32767, 65535, 4095, 135167, 4095, 921599, 1970175, 4194303, 8388607, 16777215, 33554431, 67108863, 134217727, 268435455, 536870911, 268435455, 2147483647, 4294967295, 268435455, 17179869183, 34359738367, 68719476735, 137438953471, 274877906943, 549755813887, 1099511627775, 2199023255551, 4398046511103, 2199023255551, 17592186044415, 35184372088831, 70368744177663, 140737488355327, 281474976710655]
theorem laws_FnEnsembles.tab23 : rtab .any (opsOf Try.f3 23) = laws_FnEnsembles.T23 := by kernel_rfl
theorem laws_FnEnsembles.bits23 : waitsOk laws_FnEnsembles.T23.2 laws_FnEnsembles.B23 = true := by kernel_rfl
end Go.Proofs.Ytpggcolcabmdeaa.P
