/- Texts of the claim FnNowcast, merged: part 11 of 13: the program's and the reference's functions as Lean functions, the walks that show it, and plain lemmas; no conditions. -/
import Derived.Test.YtmekfmhnpinjlaaKFnNowcast3
import Derived.Test.YtmekfmhnpinjlaaKFnNowcast6
import Derived.Test.YtmekfmhnpinjlaaKFnNowcast7
import Derived.Test.YtmekfmhnpinjlaaKFnNowcast10
namespace Go.Proofs.Ytmekfmhnpinjlaa.P
open Go.RowKit Go.Proofs.YtmekfmhnpinjlaaW.PrintWords Go.Proofs.YtmekfmhnpinjlaaW.PrintLast Go.Proofs.YtmekfmhnpinjlaaW.PrintMore
attribute [local go_sem] max2_int min2_int max_two min_two max_three min_three max_four min_four
set_option linter.unusedVariables false
set_option linter.unusedSimpArgs false
set_option maxHeartbeats 8000000
set_option maxRecDepth 100000
mutual
def laws_FnNowcast.j0 : Nat → List Int → Bool → Bool → Int → Int → List Int → Int → Int → Int → Int → List Int → Option (Bool)
 | 0, _, _, _, _, _, _, _, _, _, _, _ => none
 | k + 1, x0, x6, x56, r0, r1, r2, r3, r4, r5, r6, r7 => if x56 = true then (some false) else (if x6 = true then ((impl_MatchOf.f k r0 r1 r2 r5 r6 r7 r3 r4).bind fun bt126 => ((impl_CountMissing.f r5 r6 r7).bind fun bt129 => (if bt126.2.2 = true then (if bt126.1 = 0 then (if bt129.2 = true then (if bt126.2.1 = (wrap64 ((r7.length : Int) - bt129.1)) then (laws_FnNowcast.j1 k x0) else (some false)) else (some false)) else (some false)) else (some false)))) else (laws_FnNowcast.j1 k x0))
def laws_FnNowcast.j1 : Nat → List Int → Option (Bool)
 | 0, _ => none
 | k + 1, x0 => (spec_DrawNowcast.f k x0).bind fun bt131 => ((impl_Nowcast.f k bt131.1 bt131.2.1 bt131.2.2.1 bt131.2.2.2.1 bt131.2.2.2.2.1 bt131.2.2.2.2.2.1 bt131.2.2.2.2.2.2).bind fun bt144 => ((spec_Nowcast.f k bt131.1 bt131.2.1 bt131.2.2.1 bt131.2.2.2.1 bt131.2.2.2.2.1 bt131.2.2.2.2.2.1 bt131.2.2.2.2.2.2).bind fun bt148 => (if (bt144.2 != bt148.2) = true then (laws_FnNowcast.j2 k bt131.2.2.2.2.2.2 bt144.1 bt144.2 bt148.1 true bt131.1 bt131.2.1 bt131.2.2.1 bt131.2.2.2.1 bt131.2.2.2.2.1 bt131.2.2.2.2.2.1) else (laws_FnNowcast.j2 k bt131.2.2.2.2.2.2 bt144.1 bt144.2 bt148.1 ((bt144.1.length : Int) != (bt148.1.length : Int)) bt131.1 bt131.2.1 bt131.2.2.1 bt131.2.2.2.1 bt131.2.2.2.2.1 bt131.2.2.2.2.2.1))))
def laws_FnNowcast.j2 : Nat → Int → List (S26) → Bool → List (S26) → Bool → Int → Int → List Int → Int → Int → List Int → Option (Bool)
 | 0, _, _, _, _, _, _, _, _, _, _, _ => none
 | k + 1, x16, x17, x18, x19, x119, r8, r9, r10, r11, r12, r13 => if x119 = true then (some false) else (laws_FnNowcast.l0 k x16 x17 x18 x19 0 r8 r9 r10 r11 r12 r13)
def laws_FnNowcast.l0 : Nat → Int → List (S26) → Bool → List (S26) → Int → Int → Int → List Int → Int → Int → List Int → Option (Bool)
 | 0, _, _, _, _, _, _, _, _, _, _, _ => none
 | k + 1, x16, x17, x18, x19, x21, r8, r9, r10, r11, r12, r13 => if x21 < (x17.length : Int) then (if 0 ≤ x21 then (if x21 < (x19.length : Int) then ((laws_vField.f k ((rd_T26 x17 x21).f0) ((rd_T26 x17 x21).f1) ((rd_T26 x17 x21).f2) ((rd_T26 x19 x21).f0) ((rd_T26 x19 x21).f1) ((rd_T26 x19 x21).f2)).bind fun t154 => (if t154 = true then (laws_FnNowcast.l0 k x16 x17 x18 x19 (wrap64 (x21 + 1)) r8 r9 r10 r11 r12 r13) else (some false))) else (none)) else (none)) else (if x18 = true then ((impl_BestMotion.f k r8 r9 r10 r11 r12 r13).bind fun bt155 => ((impl_MoveField.f k r11 r12 r13 bt155.1 bt155.2.1).bind fun bt159 => (if 0 < (x17.length : Int) then ((impl_MotionError.f k bt159.1 bt159.2.1 bt159.2.2.1 ((rd_T26 x17 0).f0) ((rd_T26 x17 0).f1) ((rd_T26 x17 0).f2)).bind fun bt167 => (if bt155.2.2 = true then (if bt159.2.2.2 = true then ((laws_vField.f k bt159.1 bt159.2.1 bt159.2.2.1 ((rd_T26 x17 0).f0) ((rd_T26 x17 0).f1) ((rd_T26 x17 0).f2)).bind fun t171 => (if t171 = true then (if (x17.length : Int) = x16 then (if bt167.2.2 = true then (if bt167.1 = 0 then (some (decide (bt167.2.1 ≥ 0))) else (some false)) else (some false)) else (some false)) else (some false))) else (some false)) else (some false))) else (none)))) else (some true))
end
def laws_FnNowcast.f (k : Nat) (l0 : List Int) : Option (Bool) := (laws_vBig.f l0).bind fun t101 => (if t101 = true then (some true) else ((spec_DrawMoveField.f k l0).bind fun bt102 => ((impl_MoveField.f k bt102.1 bt102.2.1 bt102.2.2.1 bt102.2.2.2.1 bt102.2.2.2.2).bind fun bt111 => ((spec_MoveField.f k bt102.1 bt102.2.1 bt102.2.2.1 bt102.2.2.2.1 bt102.2.2.2.2).bind fun bt118 => (if (bt111.2.2.2 != bt118.2.2.2) = true then (laws_FnNowcast.j0 k l0 bt111.2.2.2 true bt102.1 bt102.2.1 bt102.2.2.1 bt102.2.2.2.1 bt102.2.2.2.2 bt111.1 bt111.2.1 bt111.2.2.1) else ((laws_vField.f k bt111.1 bt111.2.1 bt111.2.2.1 bt118.1 bt118.2.1 bt118.2.2.1).bind fun t125 => (laws_FnNowcast.j0 k l0 bt111.2.2.2 (!t125) bt102.1 bt102.2.1 bt102.2.2.1 bt102.2.2.2.1 bt102.2.2.2.2 bt111.1 bt111.2.1 bt111.2.2.1)))))))
def laws_FnNowcast.T21 : Bool × List (List Nat × List Nat) := (true, [([], []), ([], []), ([0, 1], [0, 1]), ([2], [2]), ([], []), ([], []), ([4, 5], [4, 5]), ([6], [6]), ([3, 7], [3, 7]), ([8], [8])])
def laws_FnNowcast.B21 : List Nat := [0, 0, 3, 7, 0, 0, 48, 112, 255, 511]
theorem laws_FnNowcast.tab21 : rtab .any (opsOf Try.f3 21) = laws_FnNowcast.T21 := by kernel_rfl
theorem laws_FnNowcast.bits21 : waitsOk laws_FnNowcast.T21.2 laws_FnNowcast.B21 = true := by kernel_rfl
def laws_FnNowcast.T27 : Bool × List (List Nat × List Nat) := (true, [([], []), ([], []), ([1], [1]), ([2], [2]), ([0, 3], [0, 3]), ([4], [4]), ([5], [5]), ([5], [5]), ([5], [5]), ([6, 4, 0, 1, 2, 3, 4, 5, 6], [6]), ([7, 9, 0, 1, 2, 3, 4, 5, 6, 7, 9], [7]), ([8, 10, 0, 1, 2, 3, 4, 5, 6, 7, 8, 9, 10], [8])])
def laws_FnNowcast.B27 : List Nat := [0, 0, 2, 6, 15, 31, 63, 63, 63, 127, 767, 2047]
theorem laws_FnNowcast.tab27 : rtab .any (opsOf Try.f3 27) = laws_FnNowcast.T27 := by kernel_rfl
theorem laws_FnNowcast.bits27 : waitsOk laws_FnNowcast.T27.2 laws_FnNowcast.B27 = true := by kernel_rfl
def laws_FnNowcast.T28 : Bool × List (List Nat × List Nat) := (true, [([], []), ([0], [0]), ([1], [1]), ([1, 2], [1, 2]), ([3, 1], [3]), ([4], [4]), ([4], [4]), ([6, 4], [4, 6]), ([7, 4], [4, 7]), ([5, 8, 4, 4], [4, 5, 8]), ([4, 9], [4, 9]), ([10, 9], [10]), ([11], [11]), ([12, 11], [11, 12]), ([11], [11]), ([13, 14, 11], [11, 13, 14]), ([11, 15], [11, 15]), ([16, 11], [16]), ([17], [17]), ([17, 18], [17, 18]), ([19, 17], [19]), ([20], [20]), ([21, 20], [20, 21]), ([20, 22], [20, 22]), ([23, 20], [23]), ([24], [24]), ([25, 24], [24, 25]), ([24, 26], [24, 26]), ([27, 24, 0, 1, 2, 3, 4, 5, 6, 7, 8, 9, 10, 11, 12, 13, 14, 15, 16, 17, 18, 19, 20, 21, 22, 23, 24, 25, 26, 27], [27])])
def laws_FnNowcast.B28 : List Nat := [0, 1, 3, 7, 15, 31, 31, 95, 223, 511, 1023, 2047, 4095, 8191, 4095, 32767, 65535, 131071, 262143, 524287, 1048575, 2097151, 4194303, 8388607, 16777215, 33554431, 67108863, 134217727, 268435455]
theorem laws_FnNowcast.tab28 : rtab .any (opsOf Try.f3 28) = laws_FnNowcast.T28 := by kernel_rfl
theorem laws_FnNowcast.bits28 : waitsOk laws_FnNowcast.T28.2 laws_FnNowcast.B28 = true := by kernel_rfl
theorem laws_FnNowcast.calls (k : Nat) (A0 : Option Addr) (c0 : Nat) (l0 : List Int) (r : Bool) (w : World) (hr0 : Kd.C (Kd.int .u8) w A0 l0.length l0) (hc0 : l0.length ≤ c0) (h : laws_FnNowcast.f k l0 = some r) :
  Calls Try.prog 3 #[.slice A0 l0.length c0] w fun e w' => e = .returned (.bool r) ∧ Below w.heap.size w w' := by
 have hu26 := Try.underlying26
 have hu28 := Try.underlying28
 have HR0 := aK hr0
 have HC0 := aK hc0
 clear hr0 hc0
 have HB := aK (Below.refl w.heap.size w)
 have H : ((laws_vBig.f l0).bind fun t101 => (if t101 = true then (some true) else ((spec_DrawMoveField.f k l0).bind fun bt102 => ((impl_MoveField.f k bt102.1 bt102.2.1 bt102.2.2.1 bt102.2.2.2.1 bt102.2.2.2.2).bind fun bt111 => ((spec_MoveField.f k bt102.1 bt102.2.1 bt102.2.2.1 bt102.2.2.2.1 bt102.2.2.2.2).bind fun bt118 => (if (bt111.2.2.2 != bt118.2.2.2) = true then (laws_FnNowcast.j0 k l0 bt111.2.2.2 true bt102.1 bt102.2.1 bt102.2.2.1 bt102.2.2.2.1 bt102.2.2.2.2 bt111.1 bt111.2.1 bt111.2.2.1) else ((laws_vField.f k bt111.1 bt111.2.1 bt111.2.2.1 bt118.1 bt118.2.1 bt118.2.2.1).bind fun t125 => (laws_FnNowcast.j0 k l0 bt111.2.2.2 (!t125) bt102.1 bt102.2.1 bt102.2.2.1 bt102.2.2.2.1 bt102.2.2.2.2 bt111.1 bt111.2.1 bt111.2.2.1)))))))) = some r := h
 clear h
 replace H := oA H
 obtain ⟨t101, A2, H⟩ := H
 replace H : (if t101 = true then (some true) else ((spec_DrawMoveField.f k l0).bind fun bt102 => ((impl_MoveField.f k bt102.1 bt102.2.1 bt102.2.2.1 bt102.2.2.2.1 bt102.2.2.2.2).bind fun bt111 => ((spec_MoveField.f k bt102.1 bt102.2.1 bt102.2.2.1 bt102.2.2.2.1 bt102.2.2.2.2).bind fun bt118 => (if (bt111.2.2.2 != bt118.2.2.2) = true then (laws_FnNowcast.j0 k l0 bt111.2.2.2 true bt102.1 bt102.2.1 bt102.2.2.1 bt102.2.2.2.1 bt102.2.2.2.2 bt111.1 bt111.2.1 bt111.2.2.1) else ((laws_vField.f k bt111.1 bt111.2.1 bt111.2.2.1 bt118.1 bt118.2.1 bt118.2.2.1).bind fun t125 => (laws_FnNowcast.j0 k l0 bt111.2.2.2 (!t125) bt102.1 bt102.2.1 bt102.2.2.1 bt102.2.2.2.1 bt102.2.2.2.2 bt111.1 bt111.2.1 bt111.2.2.1))))))) = some r := H
 by_cases c3 : t101 = true
 ·
  subst c3
  have H1 : (some true) = some r := by rw [if_pos rfl] at H; exact H
  clear H; have H := H1; clear H1
  obtain rfl := Option.some.inj H
  go_enter Try.func3, Try.ntmps3
  go_wp2_with (first | ((with_reducible refine gc 4 rfl ?_); refine gl (some 30) Try.func4 #[.slice A0 l0.length c0] ?_; (with_reducible refine (laws_vBig.calls _ _ l0 true _ ?side1 ?side2 A2.out).mono ?_); (case side1 => exact pC HR0.out); (case side2 => exact HC0.out); rintro e w' ⟨rfl, ⟨nd, rfl⟩⟩; refine ⟨_, rfl, ?_⟩))
  go_ret
  exact ⟨er, pT HB.out⟩
 replace c3 := Bool.eq_false_iff.mpr c3
 subst c3
 have H1 : ((spec_DrawMoveField.f k l0).bind fun bt102 => ((impl_MoveField.f k bt102.1 bt102.2.1 bt102.2.2.1 bt102.2.2.2.1 bt102.2.2.2.2).bind fun bt111 => ((spec_MoveField.f k bt102.1 bt102.2.1 bt102.2.2.1 bt102.2.2.2.1 bt102.2.2.2.2).bind fun bt118 => (if (bt111.2.2.2 != bt118.2.2.2) = true then (laws_FnNowcast.j0 k l0 bt111.2.2.2 true bt102.1 bt102.2.1 bt102.2.2.1 bt102.2.2.2.1 bt102.2.2.2.2 bt111.1 bt111.2.1 bt111.2.2.1) else ((laws_vField.f k bt111.1 bt111.2.1 bt111.2.2.1 bt118.1 bt118.2.1 bt118.2.2.1).bind fun t125 => (laws_FnNowcast.j0 k l0 bt111.2.2.2 (!t125) bt102.1 bt102.2.1 bt102.2.2.1 bt102.2.2.2.1 bt102.2.2.2.2 bt111.1 bt111.2.1 bt111.2.2.1)))))) = some r := by rw [if_neg (show ¬ (false = true) by decide)] at H; exact H
 clear H
 have H := H1
 clear H1
 replace H := oA H
 obtain ⟨⟨t102, t103, t104, t107, t108⟩, A4, H⟩ := H
 replace H : ((impl_MoveField.f k t102 t103 t104 t107 t108).bind fun bt111 => ((spec_MoveField.f k t102 t103 t104 t107 t108).bind fun bt118 => (if (bt111.2.2.2 != bt118.2.2.2) = true then (laws_FnNowcast.j0 k l0 bt111.2.2.2 true t102 t103 t104 t107 t108 bt111.1 bt111.2.1 bt111.2.2.1) else ((laws_vField.f k bt111.1 bt111.2.1 bt111.2.2.1 bt118.1 bt118.2.1 bt118.2.2.1).bind fun t125 => (laws_FnNowcast.j0 k l0 bt111.2.2.2 (!t125) t102 t103 t104 t107 t108 bt111.1 bt111.2.1 bt111.2.2.1))))) = some r := H
 replace H := oA H
 obtain ⟨⟨t111, t112, t113, t116⟩, A5, H⟩ := H
 replace H : ((spec_MoveField.f k t102 t103 t104 t107 t108).bind fun bt118 => (if (t116 != bt118.2.2.2) = true then (laws_FnNowcast.j0 k l0 t116 true t102 t103 t104 t107 t108 t111 t112 t113) else ((laws_vField.f k t111 t112 t113 bt118.1 bt118.2.1 bt118.2.2.1).bind fun t125 => (laws_FnNowcast.j0 k l0 t116 (!t125) t102 t103 t104 t107 t108 t111 t112 t113)))) = some r := H
 replace H := oA H
 obtain ⟨⟨t118, t119, t120, t123⟩, A6, H⟩ := H
 replace H : (if (t116 != t123) = true then (laws_FnNowcast.j0 k l0 t116 true t102 t103 t104 t107 t108 t111 t112 t113) else ((laws_vField.f k t111 t112 t113 t118 t119 t120).bind fun t125 => (laws_FnNowcast.j0 k l0 t116 (!t125) t102 t103 t104 t107 t108 t111 t112 t113))) = some r := H
 have HC7 := aK H
 clear H
 go_enter Try.func3, Try.ntmps3
 go_upto_region 6 with (first | ((with_reducible refine gc 4 rfl ?_); refine gl (some 30) Try.func4 #[.slice A0 l0.length c0] ?_; (with_reducible refine (laws_vBig.calls _ _ l0 false _ ?side1 ?side2 A2.out).mono ?_); (case side1 => exact pC HR0.out); (case side2 => exact HC0.out); rintro e w' ⟨rfl, ⟨nd, rfl⟩⟩; refine ⟨_, rfl, ?_⟩) | ((with_reducible refine gc 5 rfl ?_); refine gl (some 33) Try.func5 #[.slice A0 l0.length c0] ?_; (with_reducible refine (spec_DrawMoveField.calls k _ _ l0 t102 t103 t104 t107 t108 _ ?side1 ?side2 A4.out).mono ?_); (case side1 => exact pC HR0.out); (case side2 => exact HC0.out); rintro e w8 ⟨v105, rfl, ho0, hb⟩; refine ⟨_, rfl, ?_⟩; have HO106 := aK (Kd.Q_lower ho0 (below_size (pS HB.out))); replace HB := bS HB hb; (try clear hb); (try clear ho0)) | ((with_reducible refine ga 3 rfl ?_); (try (refine gate_guard (by rfl) ?_; dsimp only)); refine bxa #[.int .i64 0, .int .i64 0, .slice none 0 0] 26 ?_; intro g109 hg w9 B109 hb; replace HO106 := qb HO106 hb; have GW109 := gA hg HB; replace HB := bS HB hb; clear hb hg) | ((with_reducible refine ga 4 rfl ?_); (try (refine gate_guard (by rfl) ?_; dsimp only)); refine bxa #[.int .i64 0, .int .i64 0] 28 ?_; intro g110 hg w10 B110 hb; replace HO106 := qb HO106 hb; have GW110 := gA hg HB; obtain ⟨N109_110, N110_109⟩ := na hg B109; replace B109 := bB B109 hb; replace HB := bS HB hb; clear hb hg; obtain ⟨_, _⟩ := nB N109_110; obtain ⟨z12_0, z12_1, z12_2, y12_0, y12_1, y12_2⟩ := bc3 B109.out; obtain ⟨Ao13, co13, eo13, _⟩ := Kd.Q_slice HO106.out; subst eo13; obtain ⟨z14_0, z14_1, y14_0, y14_1⟩ := bc2 B110.out) | ((with_reducible refine gc 6 rfl ?_); refine gl (some 39) Try.func6 #[.agg #[.int .i64 t102, .int .i64 t103, .slice Ao13 t104.length co13], .agg #[.int .i64 t107, .int .i64 t108]] ?_; (with_reducible refine (impl_MoveField.calls k t102 t103 _ _ t104 t107 t108 t111 t112 t113 t116 _ ?side1 ?side2 A5.out).mono ?_); (case side1 => refine (Kd.Q_reads' (e := 3) (base := w.heap.size) (ok := fun k_ => True) (n := t104.length) (c := co13) ?_).2.2; exact (pQ ((Kd.Q_mono (Kd.Q_mono (Kd.Q_far (p := ⟨g110, 1, none⟩) (Kd.Q_far (p := ⟨g110, 0, none⟩) (Kd.Q_far (p := ⟨g109, 2, none⟩) (Kd.Q_far (p := ⟨g109, 1, none⟩) (Kd.Q_far (p := ⟨g109, 0, none⟩) (Kd.Q_types (Kd.Q_types HO106.out B109.out (by decide)) B110.out (by decide)) (fun _ hk => hk.1.2) (.int .i64 t102)) (fun _ hk => hk.1.2) (.int .i64 t103)) (fun _ hk => hk.1.2) (.slice Ao13 t104.length co13)) (fun _ hk => hk.2) (.int .i64 t107)) (fun _ hk => hk.2) (.int .i64 t108)) (fun _ h_ => h_.1)) (fun _ h_ => h_.1))))); (case side2 => exact (Kd.Q_reads' HO106.out).2.1); rintro e w15 ⟨v114, rfl, ho0, hb⟩; refine ⟨_, rfl, ?_⟩; have e1_ := aQ hb (pQ ((Kd.Q_mono (Kd.Q_mono (Kd.Q_far (p := ⟨g110, 1, none⟩) (Kd.Q_far (p := ⟨g110, 0, none⟩) (Kd.Q_far (p := ⟨g109, 2, none⟩) (Kd.Q_far (p := ⟨g109, 1, none⟩) (Kd.Q_far (p := ⟨g109, 0, none⟩) (Kd.Q_types (Kd.Q_types HO106.out B109.out (by decide)) B110.out (by decide)) (fun _ hk => hk.1.2) (.int .i64 t102)) (fun _ hk => hk.1.2) (.int .i64 t103)) (fun _ hk => hk.1.2) (.slice Ao13 t104.length co13)) (fun _ hk => hk.2) (.int .i64 t107)) (fun _ hk => hk.2) (.int .i64 t108)) (fun _ h_ => h_.1)) (fun _ h_ => h_.1)))); have n0_ := aK (Kd.Q_elder' e1_.out (Kd.R_base ho0) hb); have HO115 := aK (Kd.R_lower (Kd.R_new' ho0 (Kd.Q_lt e1_.out)) (below_size (pS HB.out))); clear e1_; replace B109 := aK (blk_below (g := g109) (o := .cells #[.int .i64 t102, .int .i64 t103, .slice Ao13 t104.length co13] 26 (0, 0)) (by refine bg N109_110 ?_; refine bg N109_110 ?_; refine bq #[.int .i64 t102, .int .i64 t103, .slice none 0 0] 2 ?_; refine bq #[.int .i64 t102, .int .i64 0, .slice none 0 0] 1 ?_; refine bq #[.int .i64 0, .int .i64 0, .slice none 0 0] 0 ?_; refine bk ?_; exact B109.out) hb); replace B110 := aK (blk_below (g := g110) (o := .cells #[.int .i64 t107, .int .i64 t108] 28 (0, 0)) (by refine bq #[.int .i64 t107, .int .i64 0] 1 ?_; refine bq #[.int .i64 0, .int .i64 0] 0 ?_; refine bg N110_109 ?_; refine bg N110_109 ?_; refine bg N110_109 ?_; refine bk ?_; exact B110.out) hb); replace HB := bS HB hb; clear HO106; have HO106 := n0_; clear n0_; (try clear hb); (try clear ho0)) | ((with_reducible refine ga 5 rfl ?_); (try (refine gate_guard (by rfl) ?_; dsimp only)); refine bxa #[.int .i64 0, .int .i64 0, .slice none 0 0] 26 ?_; intro g117 hg w16 B117 hb; replace HO106 := qb HO106 hb; replace HO115 := rb HO115 hb; have GW117 := gA hg HB; obtain ⟨N109_117, N117_109⟩ := na hg B109; obtain ⟨N110_117, N117_110⟩ := na hg B110; replace B109 := bB B109 hb; replace B110 := bB B110 hb; replace HB := bS HB hb; clear hb hg; obtain ⟨_, _⟩ := nB N117_109; obtain ⟨_, _⟩ := nB N117_110; obtain ⟨z19_0, z19_1, z19_2, y19_0, y19_1, y19_2⟩ := bc3 B117.out; obtain ⟨Ao20, co20, eo20⟩ := Kd.R_slice HO115.out; subst eo20; obtain ⟨z21_0, z21_1, z21_2, y21_0, y21_1, y21_2⟩ := bc3 B109.out; obtain ⟨z22_0, z22_1, y22_0, y22_1⟩ := bc2 B110.out) | ((with_reducible refine gc 7 rfl ?_); refine gl (some 45) Try.func7 #[.agg #[.int .i64 t102, .int .i64 t103, .slice Ao13 t104.length co13], .agg #[.int .i64 t107, .int .i64 t108]] ?_; (with_reducible refine (spec_MoveField.calls k t102 t103 _ _ t104 t107 t108 t118 t119 t120 t123 _ ?side1 ?side2 A6.out).mono ?_); (case side1 => refine (Kd.Q_reads' (e := 3) (base := w.heap.size) (ok := fun k_ => (True ∧ some k_ ≠ (.slice Ao20 t113.length co20 : Value).ownBlock)) (n := t104.length) (c := co13) ?_).2.2; exact (pQ (qF3 HO106.out B117.out (.int .i64 t111) (.int .i64 t112) (.slice Ao20 t113.length co20)))); (case side2 => exact (Kd.Q_reads' HO106.out).2.1); rintro e w23 ⟨v121, rfl, ho0, hb⟩; refine ⟨_, rfl, ?_⟩; have e2_ := aQ hb (pQ (qF3 HO106.out B117.out (.int .i64 t111) (.int .i64 t112) (.slice Ao20 t113.length co20))); have n0_ := aK (Kd.Q_elder' e2_.out (Kd.R_base ho0) hb); have e1_ := aR hb (pR (rF3 HO115.out B117.out (.int .i64 t111) (.int .i64 t112) (.slice Ao20 t113.length co20))); have n1_ := aK (Kd.R_elder' e1_.out (Kd.R_base ho0) hb); have HO122 := aK (Kd.R_lower (Kd.R_new' (Kd.R_new' ho0 (Kd.Q_lt e2_.out)) (Kd.R_lt e1_.out)) (below_size (pS HB.out))); clear e2_; clear e1_; replace B109 := aK (blk_below (g := g109) (o := .cells #[.int .i64 t102, .int .i64 t103, .slice Ao13 t104.length co13] 26 (0, 0)) (by refine bg N109_117 ?_; refine bg N109_117 ?_; refine bg N109_117 ?_; refine bk ?_; exact B109.out) hb); replace B110 := aK (blk_below (g := g110) (o := .cells #[.int .i64 t107, .int .i64 t108] 28 (0, 0)) (by refine bg N110_117 ?_; refine bg N110_117 ?_; refine bg N110_117 ?_; refine bk ?_; exact B110.out) hb); replace B117 := aK (blk_below (g := g117) (o := .cells #[.int .i64 t111, .int .i64 t112, .slice Ao20 t113.length co20] 26 (0, 0)) (by refine bq #[.int .i64 t111, .int .i64 t112, .slice none 0 0] 2 ?_; refine bq #[.int .i64 t111, .int .i64 0, .slice none 0 0] 1 ?_; refine bq #[.int .i64 0, .int .i64 0, .slice none 0 0] 0 ?_; refine bk ?_; exact B117.out) hb); replace HB := bS HB hb; clear HO106 HO115; have HO106 := n0_; have HO115 := n1_; clear n0_ n1_; (try clear hb); (try clear ho0)) | ((with_reducible refine ga 7 rfl ?_); (try (refine gate_guard (by rfl) ?_; dsimp only)); refine bxa #[.int .i64 0, .int .i64 0, .slice none 0 0] 26 ?_; intro g124 hg w24 B124 hb; replace HO106 := qb HO106 hb; replace HO115 := rb HO115 hb; replace HO122 := rb HO122 hb; have GW124 := gA hg HB; obtain ⟨N109_124, N124_109⟩ := na hg B109; obtain ⟨N110_124, N124_110⟩ := na hg B110; obtain ⟨N117_124, N124_117⟩ := na hg B117; replace B109 := bB B109 hb; replace B110 := bB B110 hb; replace B117 := bB B117 hb; replace HB := bS HB hb; clear hb hg; obtain ⟨_, _⟩ := nB N124_109; obtain ⟨_, _⟩ := nB N124_110; obtain ⟨_, _⟩ := nB N124_117; obtain ⟨z28_0, z28_1, z28_2, y28_0, y28_1, y28_2⟩ := bc3 B124.out; obtain ⟨Ao29, co29, eo29⟩ := Kd.R_slice HO122.out; subst eo29))
 (try simp only [Act.put, List.setIfInBounds_toArray, List.set_cons_zero, List.set_cons_succ])
 go_cut [56] (fun v56 wc => ∃ (kq : Nat) (x56_6 : Bool), v56 = .bool x56_6 ∧ Aside0 (laws_FnNowcast.j0 kq l0 t116 x56_6 t102 t103 t104 t107 t108 t111 t112 t113 = some r) ∧ Aside0 (kq ≤ k) ∧ Aside0 (Kd.Q (Kd.int .i64) 3 wc w.heap.size (fun k_ => some k_ ≠ ((.slice Ao20 t113.length co20) : Value).ownBlock) (.slice Ao13 t104.length co13) t104) ∧ Aside0 (Kd.Q (Kd.int .i64) 3 wc w.heap.size (fun k_ => some k_ ≠ ((.slice Ao13 t104.length co13) : Value).ownBlock) (.slice Ao20 t113.length co20) t113) ∧ Aside0 (wc.heap[g109]? = some (.cells #[.int .i64 t102, .int .i64 t103, (.slice Ao13 t104.length co13)] 26 (0, 0))) ∧ Aside0 (wc.heap[g110]? = some (.cells #[.int .i64 t107, .int .i64 t108] 28 (0, 0))) ∧ Aside0 (wc.heap[g117]? = some (.cells #[.int .i64 t111, .int .i64 t112, (.slice Ao20 t113.length co20)] 26 (0, 0))) ∧ Aside0 (Below w.heap.size w wc))
 case first => as_aux_lemma =>
  have H := HC7.out; clear HC7
  by_cases c30 : (t116 != t123) = true
  ·
   rw [if_pos c30] at H
   have c30b0 : (t116 != t123) = true := c30
   (try (have c30b1 : decide (t116 = t123) = false := by simpa using c30))
   (try (have c30b2 : (t116 == t123) = false := by simpa using c30))
   (try (have c30b3 : ¬ (t116 = t123) := by simpa using c30))
   clear c30
   (first | rw [c30b0] | (simp only [i64_w, i32_w]; rw [c30b0]) | skip)
   have H' := aK H; clear H
   go_wp2
   go_meet
   case rel => exact ⟨_, (true), (by first | rfl | (simp; done) | (simp [*]; done)), H', ⟨by first | omega | exact Nat.le_refl _⟩, ⟨by (with_reducible repeat (first | apply Kd.Q_alloc | apply Kd.Q_drewN | apply Kd.Q_drew)); exact Kd.Q_mono (qF3 HO106.out B124.out (.int .i64 t118) (.int .i64 t119) (.slice Ao29 t120.length co29)) (fun _ h => h.1.2)⟩, ⟨Kd.Q_of_R (pR (Kd.R_mono (rF3 HO115.out B124.out (.int .i64 t118) (.int .i64 t119) (.slice Ao29 t120.length co29)) (fun _ h => h.1.2)))⟩, ⟨by refine bg N109_124 ?_; refine bg N109_124 ?_; refine bg N109_124 ?_; refine bk ?_; exact B109.out⟩, ⟨by refine bg N110_124 ?_; refine bg N110_124 ?_; refine bg N110_124 ?_; refine bk ?_; exact B110.out⟩, ⟨by refine bg N117_124 ?_; refine bg N117_124 ?_; refine bg N117_124 ?_; refine bk ?_; exact B117.out⟩, ⟨pT HB.out⟩⟩
  rw [if_neg c30] at H
  have c30b0 : (t116 != t123) = false := by simpa using c30
  (try (have c30b1 : decide (t116 = t123) = true := by simpa using c30))
  (try (have c30b2 : (t116 == t123) = true := by simpa using c30))
  clear c30
  (first | rw [c30b0] | (simp only [i64_w, i32_w]; rw [c30b0]) | skip)
  replace H := oA H; obtain ⟨t125, A31, H⟩ := H
  replace H : (laws_FnNowcast.j0 k l0 t116 (!t125) t102 t103 t104 t107 t108 t111 t112 t113) = some r := H
  have H' := aK H; clear H; obtain ⟨_, _⟩ := nB N117_109; obtain ⟨_, _⟩ := nB N117_110; obtain ⟨_, _⟩ := nB N117_124; obtain ⟨_, _, _, _, _, _⟩ := bc3 B117.out; obtain ⟨_, _⟩ := nB N124_109; obtain ⟨_, _⟩ := nB N124_110; obtain ⟨_, _, _, _, _, _⟩ := bc3 B124.out
  go_wp2_with (first | (go_at_call 8; (with_reducible refine (laws_vField.calls k t111 t112 _ _ t113 t118 t119 _ _ t120 t125 _ ?side1 ?side2 ?side3 ?side4 A31.out).mono ?_); (case side1 => exact rC (pR (rF3 HO115.out B124.out (.int .i64 t118) (.int .i64 t119) (.slice Ao29 t120.length co29)))); (case side2 => exact (Kd.R_reads' HO115.out).2.1); (case side3 => exact rC (pR (rF3 HO122.out B124.out (.int .i64 t118) (.int .i64 t119) (.slice Ao29 t120.length co29)))); (case side4 => exact (Kd.R_reads' HO122.out).2.1); rintro e w39 ⟨rfl, hb⟩; replace HO106 := aK (Kd.Q_below (pQ (qF3 HO106.out B124.out (.int .i64 t118) (.int .i64 t119) (.slice Ao29 t120.length co29))) hb); replace HO115 := aK (Kd.R_below (pR (rF3 HO115.out B124.out (.int .i64 t118) (.int .i64 t119) (.slice Ao29 t120.length co29))) hb); replace HO122 := aK (Kd.R_below (pR (rF3 HO122.out B124.out (.int .i64 t118) (.int .i64 t119) (.slice Ao29 t120.length co29))) hb); replace B109 := aK (blk_below (g := g109) (o := .cells #[.int .i64 t102, .int .i64 t103, .slice Ao13 t104.length co13] 26 (0, 0)) (by refine bg N109_124 ?_; refine bg N109_124 ?_; refine bg N109_124 ?_; refine bk ?_; exact B109.out) hb); replace B110 := aK (blk_below (g := g110) (o := .cells #[.int .i64 t107, .int .i64 t108] 28 (0, 0)) (by refine bg N110_124 ?_; refine bg N110_124 ?_; refine bg N110_124 ?_; refine bk ?_; exact B110.out) hb); replace B117 := aK (blk_below (g := g117) (o := .cells #[.int .i64 t111, .int .i64 t112, .slice Ao20 t113.length co20] 26 (0, 0)) (by refine bg N117_124 ?_; refine bg N117_124 ?_; refine bg N117_124 ?_; refine bk ?_; exact B117.out) hb); replace B124 := aK (blk_below (g := g124) (o := .cells #[.int .i64 t118, .int .i64 t119, .slice Ao29 t120.length co29] 26 (0, 0)) (by refine bq #[.int .i64 t118, .int .i64 t119, .slice none 0 0] 2 ?_; refine bq #[.int .i64 t118, .int .i64 0, .slice none 0 0] 1 ?_; refine bq #[.int .i64 0, .int .i64 0, .slice none 0 0] 0 ?_; refine bk ?_; exact B124.out) hb); replace HB := bS HB hb; (try clear hb)))
  go_meet
  case rel => exact ⟨_, (!t125), (by first | rfl | (simp; done) | (simp [*]; done)), H', ⟨by first | omega | exact Nat.le_refl _⟩, ⟨by (with_reducible repeat (first | apply Kd.Q_alloc | apply Kd.Q_drewN | apply Kd.Q_drew)); exact Kd.Q_mono HO106.out (fun _ hk => hk.1.2)⟩, ⟨Kd.Q_of_R (pR (Kd.R_mono HO115.out (fun _ hk => hk.1.2)))⟩, ⟨by refine bk ?_; exact B109.out⟩, ⟨by refine bk ?_; exact B110.out⟩, ⟨by refine bk ?_; exact B117.out⟩, ⟨pT HB.out⟩⟩
 case rest => as_aux_lemma =>
 clear HC7
 clear z12_0 z12_1 z12_2 z14_0 z14_1 z19_0 z19_1 z19_2 z21_0 z21_1 z21_2 z22_0 z22_1 z28_0 z28_1 z28_2 y12_0 y12_1 y12_2 y14_0 y14_1 y19_0 y19_1 y19_2 y21_0 y21_1 y21_2 y22_0 y22_1 y28_0 y28_1 y28_2
 obtain ⟨kq, x56_6, rfl, HA, HJ6, O0, O1, B109, B110, B117, HB⟩ := hcut
 cases kq with
 | zero => exact absurd HA.out (by simp [laws_FnNowcast.j0])
 | succ kj6 =>
 have H := HA.out
 clear HA
 simp only [laws_FnNowcast.j0] at H
 by_cases c40 : x56_6 = true
 ·
  subst c40
  have H1 : (some false) = some r := by rw [if_pos rfl] at H; exact H
  clear H; have H := H1; clear H1
  obtain rfl := Option.some.inj H
  go_wp2
  go_ret
  exact ⟨er, pT HB.out⟩
 replace c40 := Bool.eq_false_iff.mpr c40
 subst c40
 have H1 : (if t116 = true then ((impl_MatchOf.f kj6 t102 t103 t104 t111 t112 t113 t107 t108).bind fun bt126 => ((impl_CountMissing.f t111 t112 t113).bind fun bt129 => (if bt126.2.2 = true then (if bt126.1 = 0 then (if bt129.2 = true then (if bt126.2.1 = (wrap64 ((t113.length : Int) - bt129.1)) then (laws_FnNowcast.j1 kj6 l0) else (some false)) else (some false)) else (some false)) else (some false)))) else (laws_FnNowcast.j1 kj6 l0)) = some r := by rw [if_neg (show ¬ (false = true) by decide)] at H; exact H
 clear H
 have H := H1
 clear H1
 have HC41 := aK H
 clear H
 go_upto_if 57 with (fail)
 go_cut [] (fun wc => ∃ (kq : Nat), Aside0 (laws_FnNowcast.j1 kq l0 = some r) ∧ Aside0 (kq ≤ kj6) ∧ Aside0 (Below w.heap.size w wc))
 case first => as_aux_lemma =>
  have H := HC41.out; clear HC41
  by_cases c42 : t116 = true
  rotate_left
  ·
   replace c42 := Bool.eq_false_iff.mpr c42; subst c42
   have H1 : (laws_FnNowcast.j1 kj6 l0) = some r := by rw [if_neg (show ¬ (false = true) by decide)] at H; exact H
   clear H; have H := H1; clear H1; have H' := aK H; clear H
   go_wp2
   go_meet
   case rel => exact ⟨_, H', ⟨by have := HJ6.out; first | omega | exact Nat.le_refl _⟩, ⟨pT HB.out⟩⟩
  subst c42
  have H1 : ((impl_MatchOf.f kj6 t102 t103 t104 t111 t112 t113 t107 t108).bind fun bt126 => ((impl_CountMissing.f t111 t112 t113).bind fun bt129 => (if bt126.2.2 = true then (if bt126.1 = 0 then (if bt129.2 = true then (if bt126.2.1 = (wrap64 ((t113.length : Int) - bt129.1)) then (laws_FnNowcast.j1 kj6 l0) else (some false)) else (some false)) else (some false)) else (some false)))) = some r := by rw [if_pos rfl] at H; exact H
  clear H; have H := H1; clear H1; replace H := oA H
  obtain ⟨⟨t126, t127, t128⟩, A43, H⟩ := H
  replace H : ((impl_CountMissing.f t111 t112 t113).bind fun bt129 => (if t128 = true then (if t126 = 0 then (if bt129.2 = true then (if t127 = (wrap64 ((t113.length : Int) - bt129.1)) then (laws_FnNowcast.j1 kj6 l0) else (some false)) else (some false)) else (some false)) else (some false))) = some r := H
  replace H := oA H
  obtain ⟨⟨t129, t130⟩, A44, H⟩ := H
  replace H : (if t128 = true then (if t126 = 0 then (if t130 = true then (if t127 = (wrap64 ((t113.length : Int) - t129)) then (laws_FnNowcast.j1 kj6 l0) else (some false)) else (some false)) else (some false)) else (some false)) = some r := H
  by_cases c45 : t128 = true
  rotate_left
  ·
   replace c45 := Bool.eq_false_iff.mpr c45; subst c45
   have H1 : (some false) = some r := by rw [if_neg (show ¬ (false = true) by decide)] at H; exact H
   clear H; have H := H1; clear H1
   obtain rfl := Option.some.inj H
   obtain ⟨_, _⟩ := nB N109_110; obtain ⟨_, _⟩ := nB N109_117; obtain ⟨_, _, _, _, _, _⟩ := bc3 B109.out; obtain ⟨_, _⟩ := nB N117_110; obtain ⟨_, _, _, _, _, _⟩ := bc3 B117.out; obtain ⟨_, _, _, _⟩ := bc2 B110.out
   go_wp2_with (first | ((with_reducible refine gc 9 rfl ?_); refine gl (some 62) Try.func9 #[.agg #[.int .i64 t102, .int .i64 t103, .slice Ao13 t104.length co13], .agg #[.int .i64 t111, .int .i64 t112, .slice Ao20 t113.length co20], .agg #[.int .i64 t107, .int .i64 t108]] ?_; (with_reducible refine (impl_MatchOf.calls kj6 t102 t103 (fun k_ => some k_ = (.slice Ao13 t104.length co13 : Value).ownBlock) _ _ t104 t111 t112 (fun k_ => some k_ = (.slice Ao20 t113.length co20 : Value).ownBlock) _ _ t113 t107 t108 t126 t127 false _ ?side1 ?side2 A43.out).mono ?_); (case side1 => exact Kd.Q_V (Kd.Q_tight rfl (Kd.Q_types (O0.out) B117.out (by decide)))); (case side2 => exact Kd.Q_V (Kd.Q_tight rfl (Kd.Q_types (O1.out) B117.out (by decide)))); rintro e w93 ⟨rfl, hb⟩; refine ⟨_, rfl, ?_⟩; replace O0 := qb O0 hb; replace O1 := qb O1 hb; replace B117 := bB B117 hb; replace HB := bS HB hb; (try clear hb); replace O1 := aK (Kd.Q_mono O1.out (fun k_ hk_ => (trivial : True))); obtain ⟨_, _, _, _, _, _⟩ := bc3 B117.out) | ((with_reducible refine gc 10 rfl ?_); refine gl (some 68) Try.func10 #[.agg #[.int .i64 t111, .int .i64 t112, .slice Ao20 t113.length co20]] ?_; (with_reducible refine (impl_CountMissing.calls t111 t112 _ _ t113 t129 t130 _ ?side1 ?side2 A44.out).mono ?_); (case side1 => exact pC (Kd.Q_reads' O1.out).2.2); (case side2 => exact (Kd.Q_reads' O1.out).2.1); rintro e w95 ⟨rfl, hb⟩; refine ⟨_, rfl, ?_⟩; replace O1 := qb O1 hb; replace HB := bS HB hb; (try clear hb)))
   go_ret
   exact ⟨er, pT HB.out⟩
  subst c45
  have H1 : (if t126 = 0 then (if t130 = true then (if t127 = (wrap64 ((t113.length : Int) - t129)) then (laws_FnNowcast.j1 kj6 l0) else (some false)) else (some false)) else (some false)) = some r := by rw [if_pos rfl] at H; exact H
  clear H; have H := H1; clear H1
  by_cases c46 : t126 = 0
  rotate_left
  ·
   rw [if_neg c46] at H
   have c46b0 : (t126 == 0) = false := beq_eq_false_iff_ne.mpr c46
   have c46b1 : (t126 != 0) = true := bne_iff_ne.mpr c46
   (first | rw [c46b0] | (simp only [i64_w, i32_w]; rw [c46b0]) | skip)
   obtain rfl := Option.some.inj H
   obtain ⟨_, _⟩ := nB N109_110; obtain ⟨_, _⟩ := nB N109_117; obtain ⟨_, _, _, _, _, _⟩ := bc3 B109.out; obtain ⟨_, _⟩ := nB N117_110; obtain ⟨_, _, _, _, _, _⟩ := bc3 B117.out; obtain ⟨_, _, _, _⟩ := bc2 B110.out
   go_wp2_with (first | ((with_reducible refine gc 9 rfl ?_); refine gl (some 62) Try.func9 #[.agg #[.int .i64 t102, .int .i64 t103, .slice Ao13 t104.length co13], .agg #[.int .i64 t111, .int .i64 t112, .slice Ao20 t113.length co20], .agg #[.int .i64 t107, .int .i64 t108]] ?_; (with_reducible refine (impl_MatchOf.calls kj6 t102 t103 (fun k_ => some k_ = (.slice Ao13 t104.length co13 : Value).ownBlock) _ _ t104 t111 t112 (fun k_ => some k_ = (.slice Ao20 t113.length co20 : Value).ownBlock) _ _ t113 t107 t108 t126 t127 true _ ?side1 ?side2 A43.out).mono ?_); (case side1 => exact Kd.Q_V (Kd.Q_tight rfl (Kd.Q_types (O0.out) B117.out (by decide)))); (case side2 => exact Kd.Q_V (Kd.Q_tight rfl (Kd.Q_types (O1.out) B117.out (by decide)))); rintro e w84 ⟨rfl, hb⟩; refine ⟨_, rfl, ?_⟩; replace O0 := qb O0 hb; replace O1 := qb O1 hb; replace B117 := bB B117 hb; replace HB := bS HB hb; (try clear hb); replace O1 := aK (Kd.Q_mono O1.out (fun k_ hk_ => (trivial : True))); obtain ⟨_, _, _, _, _, _⟩ := bc3 B117.out) | ((with_reducible refine gc 10 rfl ?_); refine gl (some 68) Try.func10 #[.agg #[.int .i64 t111, .int .i64 t112, .slice Ao20 t113.length co20]] ?_; (with_reducible refine (impl_CountMissing.calls t111 t112 _ _ t113 t129 t130 _ ?side1 ?side2 A44.out).mono ?_); (case side1 => exact pC (Kd.Q_reads' O1.out).2.2); (case side2 => exact (Kd.Q_reads' O1.out).2.1); rintro e w86 ⟨rfl, hb⟩; refine ⟨_, rfl, ?_⟩; replace O1 := qb O1 hb; replace HB := bS HB hb; (try clear hb)))
   go_ret
   exact ⟨er, pT HB.out⟩
  rw [if_pos c46] at H
  have c46b0 : (t126 == 0) = true := beq_iff_eq.mpr c46
  have c46b1 : (t126 != 0) = false := bne_eq_false_iff_eq.mpr c46
  clear c46
  (first | rw [c46b0] | (simp only [i64_w, i32_w]; rw [c46b0]) | skip)
  by_cases c47 : t130 = true
  rotate_left
  ·
   replace c47 := Bool.eq_false_iff.mpr c47; subst c47
   have H1 : (some false) = some r := by rw [if_neg (show ¬ (false = true) by decide)] at H; exact H
   clear H; have H := H1; clear H1
   obtain rfl := Option.some.inj H
   obtain ⟨_, _⟩ := nB N109_110; obtain ⟨_, _⟩ := nB N109_117; obtain ⟨_, _, _, _, _, _⟩ := bc3 B109.out; obtain ⟨_, _⟩ := nB N117_110; obtain ⟨_, _, _, _, _, _⟩ := bc3 B117.out; obtain ⟨_, _, _, _⟩ := bc2 B110.out
   go_wp2_with (first | ((with_reducible refine gc 9 rfl ?_); refine gl (some 62) Try.func9 #[.agg #[.int .i64 t102, .int .i64 t103, .slice Ao13 t104.length co13], .agg #[.int .i64 t111, .int .i64 t112, .slice Ao20 t113.length co20], .agg #[.int .i64 t107, .int .i64 t108]] ?_; (with_reducible refine (impl_MatchOf.calls kj6 t102 t103 (fun k_ => some k_ = (.slice Ao13 t104.length co13 : Value).ownBlock) _ _ t104 t111 t112 (fun k_ => some k_ = (.slice Ao20 t113.length co20 : Value).ownBlock) _ _ t113 t107 t108 t126 t127 true _ ?side1 ?side2 A43.out).mono ?_); (case side1 => exact Kd.Q_V (Kd.Q_tight rfl (Kd.Q_types (O0.out) B117.out (by decide)))); (case side2 => exact Kd.Q_V (Kd.Q_tight rfl (Kd.Q_types (O1.out) B117.out (by decide)))); rintro e w75 ⟨rfl, hb⟩; refine ⟨_, rfl, ?_⟩; replace O0 := qb O0 hb; replace O1 := qb O1 hb; replace B117 := bB B117 hb; replace HB := bS HB hb; (try clear hb); replace O1 := aK (Kd.Q_mono O1.out (fun k_ hk_ => (trivial : True))); obtain ⟨_, _, _, _, _, _⟩ := bc3 B117.out) | ((with_reducible refine gc 10 rfl ?_); refine gl (some 68) Try.func10 #[.agg #[.int .i64 t111, .int .i64 t112, .slice Ao20 t113.length co20]] ?_; (with_reducible refine (impl_CountMissing.calls t111 t112 _ _ t113 t129 false _ ?side1 ?side2 A44.out).mono ?_); (case side1 => exact pC (Kd.Q_reads' O1.out).2.2); (case side2 => exact (Kd.Q_reads' O1.out).2.1); rintro e w77 ⟨rfl, hb⟩; refine ⟨_, rfl, ?_⟩; replace O1 := qb O1 hb; replace HB := bS HB hb; (try clear hb)))
   go_ret
   exact ⟨er, pT HB.out⟩
  subst c47
  have H1 : (if t127 = (wrap64 ((t113.length : Int) - t129)) then (laws_FnNowcast.j1 kj6 l0) else (some false)) = some r := by rw [if_pos rfl] at H; exact H
  clear H; have H := H1; clear H1
  by_cases c48 : t127 = (wrap64 ((t113.length : Int) - t129))
  ·
   rw [if_pos c48] at H
   have c48b0 : (t127 == (wrap64 ((t113.length : Int) - t129))) = true := beq_iff_eq.mpr c48
   have c48b1 : (t127 != (wrap64 ((t113.length : Int) - t129))) = false := bne_eq_false_iff_eq.mpr c48
   clear c48; have H' := aK H; clear H; obtain ⟨_, _⟩ := nB N109_110; obtain ⟨_, _⟩ := nB N109_117; obtain ⟨_, _, _, _, _, _⟩ := bc3 B109.out; obtain ⟨_, _⟩ := nB N117_110; obtain ⟨_, _, _, _, _, _⟩ := bc3 B117.out; obtain ⟨_, _, _, _⟩ := bc2 B110.out
   go_wp2_with (first | ((with_reducible refine gc 9 rfl ?_); refine gl (some 62) Try.func9 #[.agg #[.int .i64 t102, .int .i64 t103, .slice Ao13 t104.length co13], .agg #[.int .i64 t111, .int .i64 t112, .slice Ao20 t113.length co20], .agg #[.int .i64 t107, .int .i64 t108]] ?_; (with_reducible refine (impl_MatchOf.calls kj6 t102 t103 (fun k_ => some k_ = (.slice Ao13 t104.length co13 : Value).ownBlock) _ _ t104 t111 t112 (fun k_ => some k_ = (.slice Ao20 t113.length co20 : Value).ownBlock) _ _ t113 t107 t108 t126 t127 true _ ?side1 ?side2 A43.out).mono ?_); (case side1 => exact Kd.Q_V (Kd.Q_tight rfl (Kd.Q_types (O0.out) B117.out (by decide)))); (case side2 => exact Kd.Q_V (Kd.Q_tight rfl (Kd.Q_types (O1.out) B117.out (by decide)))); rintro e w55 ⟨rfl, hb⟩; refine ⟨_, rfl, ?_⟩; replace O0 := qb O0 hb; replace O1 := qb O1 hb; replace B117 := bB B117 hb; replace HB := bS HB hb; (try clear hb); replace O1 := aK (Kd.Q_mono O1.out (fun k_ hk_ => (trivial : True))); obtain ⟨_, _, _, _, _, _⟩ := bc3 B117.out) | ((with_reducible refine gc 10 rfl ?_); refine gl (some 68) Try.func10 #[.agg #[.int .i64 t111, .int .i64 t112, .slice Ao20 t113.length co20]] ?_; (with_reducible refine (impl_CountMissing.calls t111 t112 _ _ t113 t129 true _ ?side1 ?side2 A44.out).mono ?_); (case side1 => exact pC (Kd.Q_reads' O1.out).2.2); (case side2 => exact (Kd.Q_reads' O1.out).2.1); rintro e w57 ⟨rfl, hb⟩; refine ⟨_, rfl, ?_⟩; replace O1 := qb O1 hb; replace B117 := bB B117 hb; replace HB := bS HB hb; (try clear hb); obtain ⟨_, _, _, _, _, _⟩ := bc3 B117.out))
   go_meet
   case rel => exact ⟨_, H', ⟨by have := HJ6.out; first | omega | exact Nat.le_refl _⟩, ⟨pT HB.out⟩⟩
  rw [if_neg c48] at H
  have c48b0 : (t127 == (wrap64 ((t113.length : Int) - t129))) = false := beq_eq_false_iff_ne.mpr c48
  have c48b1 : (t127 != (wrap64 ((t113.length : Int) - t129))) = true := bne_iff_ne.mpr c48
  obtain rfl := Option.some.inj H
  obtain ⟨_, _⟩ := nB N109_110; obtain ⟨_, _⟩ := nB N109_117; obtain ⟨_, _, _, _, _, _⟩ := bc3 B109.out; obtain ⟨_, _⟩ := nB N117_110; obtain ⟨_, _, _, _, _, _⟩ := bc3 B117.out; obtain ⟨_, _, _, _⟩ := bc2 B110.out
  go_wp2_with (first | ((with_reducible refine gc 9 rfl ?_); refine gl (some 62) Try.func9 #[.agg #[.int .i64 t102, .int .i64 t103, .slice Ao13 t104.length co13], .agg #[.int .i64 t111, .int .i64 t112, .slice Ao20 t113.length co20], .agg #[.int .i64 t107, .int .i64 t108]] ?_; (with_reducible refine (impl_MatchOf.calls kj6 t102 t103 (fun k_ => some k_ = (.slice Ao13 t104.length co13 : Value).ownBlock) _ _ t104 t111 t112 (fun k_ => some k_ = (.slice Ao20 t113.length co20 : Value).ownBlock) _ _ t113 t107 t108 t126 t127 true _ ?side1 ?side2 A43.out).mono ?_); (case side1 => exact Kd.Q_V (Kd.Q_tight rfl (Kd.Q_types (O0.out) B117.out (by decide)))); (case side2 => exact Kd.Q_V (Kd.Q_tight rfl (Kd.Q_types (O1.out) B117.out (by decide)))); rintro e w65 ⟨rfl, hb⟩; refine ⟨_, rfl, ?_⟩; replace O0 := qb O0 hb; replace O1 := qb O1 hb; replace B117 := bB B117 hb; replace HB := bS HB hb; (try clear hb); replace O1 := aK (Kd.Q_mono O1.out (fun k_ hk_ => (trivial : True))); obtain ⟨_, _, _, _, _, _⟩ := bc3 B117.out) | ((with_reducible refine gc 10 rfl ?_); refine gl (some 68) Try.func10 #[.agg #[.int .i64 t111, .int .i64 t112, .slice Ao20 t113.length co20]] ?_; (with_reducible refine (impl_CountMissing.calls t111 t112 _ _ t113 t129 true _ ?side1 ?side2 A44.out).mono ?_); (case side1 => exact pC (Kd.Q_reads' O1.out).2.2); (case side2 => exact (Kd.Q_reads' O1.out).2.1); rintro e w67 ⟨rfl, hb⟩; refine ⟨_, rfl, ?_⟩; replace O1 := qb O1 hb; replace B117 := bB B117 hb; replace HB := bS HB hb; (try clear hb); obtain ⟨_, _, _, _, _, _⟩ := bc3 B117.out))
  go_ret
  exact ⟨er, pT HB.out⟩
 case rest => as_aux_lemma =>
 clear HC41
 obtain ⟨kq, HA, HJ40, HB⟩ := hcut
 cases kq with
 | zero => exact absurd HA.out (by simp [laws_FnNowcast.j1])
 | succ kj40 =>
 have H := HA.out
 clear HA
 simp only [laws_FnNowcast.j1] at H
 replace H := oA H
 obtain ⟨⟨t131, t132, t133, t136, t137, t138, t141⟩, A96, H⟩ := H
 replace H : ((impl_Nowcast.f kj40 t131 t132 t133 t136 t137 t138 t141).bind fun bt144 => ((spec_Nowcast.f kj40 t131 t132 t133 t136 t137 t138 t141).bind fun bt148 => (if (bt144.2 != bt148.2) = true then (laws_FnNowcast.j2 kj40 t141 bt144.1 bt144.2 bt148.1 true t131 t132 t133 t136 t137 t138) else (laws_FnNowcast.j2 kj40 t141 bt144.1 bt144.2 bt148.1 ((bt144.1.length : Int) != (bt148.1.length : Int)) t131 t132 t133 t136 t137 t138)))) = some r := H
 replace H := oA H
 obtain ⟨⟨t144, t147⟩, A97, H⟩ := H
 replace H : ((spec_Nowcast.f kj40 t131 t132 t133 t136 t137 t138 t141).bind fun bt148 => (if (t147 != bt148.2) = true then (laws_FnNowcast.j2 kj40 t141 t144 t147 bt148.1 true t131 t132 t133 t136 t137 t138) else (laws_FnNowcast.j2 kj40 t141 t144 t147 bt148.1 ((t144.length : Int) != (bt148.1.length : Int)) t131 t132 t133 t136 t137 t138))) = some r := H
 replace H := oA H
 obtain ⟨⟨t148, t151⟩, A98, H⟩ := H
 replace H : (if (t147 != t151) = true then (laws_FnNowcast.j2 kj40 t141 t144 t147 t148 true t131 t132 t133 t136 t137 t138) else (laws_FnNowcast.j2 kj40 t141 t144 t147 t148 ((t144.length : Int) != (t148.length : Int)) t131 t132 t133 t136 t137 t138)) = some r := H
 have HC99 := aK H
 clear H
 go_upto_region 16 with (first | ((with_reducible refine gc 11 rfl ?_); refine gl (some 92) Try.func11 #[.slice A0 l0.length c0] ?_; (with_reducible refine (spec_DrawNowcast.calls kj40 _ _ l0 t131 t132 t133 t136 t137 t138 t141 _ ?side1 ?side2 A96.out).mono ?_); (case side1 => exact cB HR0 HB); (case side2 => exact HC0.out); rintro e w100 ⟨v134, v139, rfl, ho0, ho1, hb⟩; refine ⟨_, rfl, ?_⟩; have HO135 := aK (Kd.Q_lower ho0 (below_size (pS HB.out))); have HO140 := aK (Kd.Q_lower ho1 (below_size (pS HB.out))); replace HB := bS HB hb; (try clear hb); (try clear ho0); (try clear ho1)) | ((with_reducible refine ga 14 rfl ?_); (try (refine gate_guard (by rfl) ?_; dsimp only)); refine bxa #[.int .i64 0, .int .i64 0, .slice none 0 0] 26 ?_; intro g142 hg w101 B142 hb; replace HO135 := qb HO135 hb; replace HO140 := qb HO140 hb; have GW142 := gA hg HB; replace HB := bS HB hb; clear hb hg) | ((with_reducible refine ga 15 rfl ?_); (try (refine gate_guard (by rfl) ?_; dsimp only)); refine bxa #[.int .i64 0, .int .i64 0, .slice none 0 0] 26 ?_; intro g143 hg w102 B143 hb; replace HO135 := qb HO135 hb; replace HO140 := qb HO140 hb; have GW143 := gA hg HB; obtain ⟨N142_143, N143_142⟩ := na hg B142; replace B142 := bB B142 hb; replace HB := bS HB hb; clear hb hg; obtain ⟨_, _⟩ := nB N142_143; obtain ⟨z104_0, z104_1, z104_2, y104_0, y104_1, y104_2⟩ := bc3 B142.out; obtain ⟨Ao105, co105, eo105, _⟩ := Kd.Q_slice HO135.out; subst eo105) | ((with_reducible refine gate_store (t := 26) (p := 14) rfl ?_); refine store_event (t := 26) (p := 14) (v := ?vo_w106) (w1 := (((w102.setCell ⟨g142, 0, none⟩ (.int .i64 t131)).setCell ⟨g142, 1, none⟩ (.int .i64 t132)).setCell ⟨g142, 2, none⟩ (.slice Ao105 t133.length co105))) ?hg ?ho ?hn ?hr ?_; (case ho => rfl); (case hg => rfl); (case hn => rfl); (case hr => first | (go_simp; done) | (go_simp; rfl)); intro w106 hw; replace HO135 : Aside0 (Kd.Q (Kd.int .i64) 3 w106 w.heap.size (fun k_ => some k_ ≠ (v139 : Value).ownBlock) (.slice Ao105 t133.length co105) t133) := ⟨(by rw [hw]; exact (pQ (qF3 HO135.out B142.out (.int .i64 t131) (.int .i64 t132) (.slice Ao105 t133.length co105))))⟩; replace HO140 : Aside0 (Kd.Q (Kd.int .i64) 3 w106 w.heap.size (fun k_ => some k_ ≠ (.slice Ao105 t133.length co105 : Value).ownBlock) v139 t138) := ⟨(by rw [hw]; exact (pQ (qF3 HO140.out B142.out (.int .i64 t131) (.int .i64 t132) (.slice Ao105 t133.length co105))))⟩; replace B142 : Aside0 (w106.heap[g142]? = some (.cells #[.int .i64 t131, .int .i64 t132, .slice Ao105 t133.length co105] 26 (0, 0))) := ⟨(by rw [hw]; exact (by refine bq #[.int .i64 t131, .int .i64 t132, .slice none 0 0] 2 ?_; refine bq #[.int .i64 t131, .int .i64 0, .slice none 0 0] 1 ?_; refine bq #[.int .i64 0, .int .i64 0, .slice none 0 0] 0 ?_; refine bk ?_; exact B142.out))⟩; replace B143 : Aside0 (w106.heap[g143]? = some (.cells #[.int .i64 0, .int .i64 0, .slice none 0 0] 26 (0, 0))) := ⟨(by rw [hw]; exact (by refine bg N143_142 ?_; refine bg N143_142 ?_; refine bg N143_142 ?_; refine bk ?_; exact B143.out))⟩; replace HB : Aside0 (Below w.heap.size w w106) := ⟨(by rw [hw]; exact (pS HB.out))⟩; clear hw; obtain ⟨z107_0, z107_1, z107_2, y107_0, y107_1, y107_2⟩ := bc3 B143.out; obtain ⟨Ao108, co108, eo108, _⟩ := Kd.Q_slice HO140.out; subst eo108) | ((with_reducible refine gate_store (t := 26) (p := 15) rfl ?_); refine store_event (t := 26) (p := 15) (v := ?vo_w109) (w1 := (((w106.setCell ⟨g143, 0, none⟩ (.int .i64 t136)).setCell ⟨g143, 1, none⟩ (.int .i64 t137)).setCell ⟨g143, 2, none⟩ (.slice Ao108 t138.length co108))) ?hg ?ho ?hn ?hr ?_; (case ho => rfl); (case hg => rfl); (case hn => rfl); (case hr => first | (go_simp; done) | (go_simp; rfl)); intro w109 hw; replace HO135 : Aside0 (Kd.Q (Kd.int .i64) 3 w109 w.heap.size (fun k_ => some k_ ≠ (.slice Ao108 t138.length co108 : Value).ownBlock) (.slice Ao105 t133.length co105) t133) := ⟨(by rw [hw]; exact (pQ (qF3 HO135.out B143.out (.int .i64 t136) (.int .i64 t137) (.slice Ao108 t138.length co108))))⟩; replace HO140 : Aside0 (Kd.Q (Kd.int .i64) 3 w109 w.heap.size (fun k_ => some k_ ≠ (.slice Ao105 t133.length co105 : Value).ownBlock) (.slice Ao108 t138.length co108) t138) := ⟨(by rw [hw]; exact (pQ (qF3 HO140.out B143.out (.int .i64 t136) (.int .i64 t137) (.slice Ao108 t138.length co108))))⟩; replace B142 : Aside0 (w109.heap[g142]? = some (.cells #[.int .i64 t131, .int .i64 t132, .slice Ao105 t133.length co105] 26 (0, 0))) := ⟨(by rw [hw]; exact (by refine bg N142_143 ?_; refine bg N142_143 ?_; refine bg N142_143 ?_; refine bk ?_; exact B142.out))⟩; replace B143 : Aside0 (w109.heap[g143]? = some (.cells #[.int .i64 t136, .int .i64 t137, .slice Ao108 t138.length co108] 26 (0, 0))) := ⟨(by rw [hw]; exact (by refine bq #[.int .i64 t136, .int .i64 t137, .slice none 0 0] 2 ?_; refine bq #[.int .i64 t136, .int .i64 0, .slice none 0 0] 1 ?_; refine bq #[.int .i64 0, .int .i64 0, .slice none 0 0] 0 ?_; refine bk ?_; exact B143.out))⟩; replace HB : Aside0 (Below w.heap.size w w109) := ⟨(by rw [hw]; exact (pS HB.out))⟩; clear hw; obtain ⟨z110_0, z110_1, z110_2, y110_0, y110_1, y110_2⟩ := bc3 B142.out; obtain ⟨z111_0, z111_1, z111_2, y111_0, y111_1, y111_2⟩ := bc3 B143.out) | ((with_reducible refine gc 12 rfl ?_); refine gl (some 100) Try.func12 #[.agg #[.int .i64 t131, .int .i64 t132, .slice Ao105 t133.length co105], .agg #[.int .i64 t136, .int .i64 t137, .slice Ao108 t138.length co108], .int .i64 t141] ?_; (with_reducible refine (impl_Nowcast.calls kj40 t131 t132 _ _ t133 t136 t137 (fun k_ => some k_ = (.slice Ao108 t138.length co108 : Value).ownBlock) _ _ t138 t141 t144 t147 _ ?side1 ?side2 ?side3 A97.out).mono ?_); (case side1 => exact pC (Kd.Q_reads' HO135.out).2.2); (case side2 => exact (Kd.Q_reads' HO135.out).2.1); (case side3 => exact Kd.Q_V (Kd.Q_tight rfl (Kd.Q_types (Kd.Q_types (HO140.out) B142.out (by decide)) B143.out (by decide)))); rintro e w112 ⟨v145, rfl, ho0, hb⟩; refine ⟨_, rfl, ?_⟩; have n0_ := qb HO135 hb; have n1_ := qb HO140 hb; have HO146 := aK (Kd.S_lower (Kd.S_newB (Kd.S_newB (Kd.S_new' (Kd.S_new' (Kd.S_mono (ok' := fun k_ => True) ho0 (fun _ hk_ => trivial)) (Kd.Q_lt (pQ HO135.out))) (Kd.Q_lt (pQ HO140.out))) (g := g142) (o := .cells #[.int .i64 t131, .int .i64 t132, .slice Ao105 t133.length co105] 26 (0, 0)) (pB B142.out)) (g := g143) (o := .cells #[.int .i64 t136, .int .i64 t137, .slice Ao108 t138.length co108] 26 (0, 0)) (pB B143.out)) (below_size (pS HB.out))); replace B142 := bB B142 hb; replace B143 := bB B143 hb; replace HB := bS HB hb; clear HO135 HO140; have HO135 := n0_; have HO140 := n1_; clear n0_ n1_; (try clear hb); (try clear ho0); obtain ⟨z113_0, z113_1, z113_2, y113_0, y113_1, y113_2⟩ := bc3 B142.out; obtain ⟨z114_0, z114_1, z114_2, y114_0, y114_1, y114_2⟩ := bc3 B143.out) | ((with_reducible refine gc 13 rfl ?_); refine gl (some 107) Try.func13 #[.agg #[.int .i64 t131, .int .i64 t132, .slice Ao105 t133.length co105], .agg #[.int .i64 t136, .int .i64 t137, .slice Ao108 t138.length co108], .int .i64 t141] ?_; (with_reducible refine (spec_Nowcast.calls kj40 t131 t132 _ _ t133 t136 t137 (fun k_ => some k_ = (.slice Ao108 t138.length co108 : Value).ownBlock) _ _ t138 t141 t148 t151 _ ?side1 ?side2 ?side3 A98.out).mono ?_); (case side1 => exact pC (Kd.Q_reads' HO135.out).2.2); (case side2 => exact (Kd.Q_reads' HO135.out).2.1); (case side3 => exact Kd.Q_V (Kd.Q_tight rfl (Kd.Q_types (Kd.Q_types (Kd.Q_apart' (HO140.out) (Kd.S_typed HO146.out) (by decide)) B142.out (by decide)) B143.out (by decide)))); rintro e w115 ⟨v149, rfl, ho0, hb⟩; refine ⟨_, rfl, ?_⟩; have n0_ := qb HO135 hb; have n1_ := qb HO140 hb; have n2_ := aK (Kd.S_elder' (pY HO146.out) (Kd.S_base ho0) hb); have HO150 := aK (Kd.S_lower (Kd.S_newB (Kd.S_newB (Kd.S_new' (Kd.S_new' (Kd.S_new' (Kd.S_mono (ok' := fun k_ => True) ho0 (fun _ hk_ => trivial)) (Kd.Q_lt (pQ HO135.out))) (Kd.Q_lt (pQ HO140.out))) (Kd.S_lt (pY HO146.out))) (g := g142) (o := .cells #[.int .i64 t131, .int .i64 t132, .slice Ao105 t133.length co105] 26 (0, 0)) (pB B142.out)) (g := g143) (o := .cells #[.int .i64 t136, .int .i64 t137, .slice Ao108 t138.length co108] 26 (0, 0)) (pB B143.out)) (below_size (pS HB.out))); replace B142 := bB B142 hb; replace B143 := bB B143 hb; replace HB := bS HB hb; clear HO135 HO140 HO146; have HO135 := n0_; have HO140 := n1_; have HO146 := n2_; clear n0_ n1_ n2_; (try clear hb); (try clear ho0)))
 (try simp only [Act.put, List.setIfInBounds_toArray, List.set_cons_zero, List.set_cons_succ])
 go_cut [119] (fun v119 wc => ∃ (kq : Nat) (x119_98 : Bool), v119 = .bool x119_98 ∧ Aside0 (laws_FnNowcast.j2 kq t141 t144 t147 t148 x119_98 t131 t132 t133 t136 t137 t138 = some r) ∧ Aside0 (kq ≤ kj40) ∧ Aside0 (Kd.S k26 26 wc w.heap.size (fun k_ => some k_ ≠ (v149 : Value).ownBlock ∧ some k_ ≠ ((.slice Ao105 t133.length co105) : Value).ownBlock ∧ some k_ ≠ ((.slice Ao108 t138.length co108) : Value).ownBlock ∧ k_ ≠ g142 ∧ k_ ≠ g143) v145 t144) ∧ Aside0 (Kd.S k26 26 wc w.heap.size (fun k_ => some k_ ≠ (v145 : Value).ownBlock ∧ some k_ ≠ ((.slice Ao105 t133.length co105) : Value).ownBlock ∧ some k_ ≠ ((.slice Ao108 t138.length co108) : Value).ownBlock ∧ k_ ≠ g142 ∧ k_ ≠ g143) v149 t148) ∧ Aside0 (Kd.Q (Kd.int .i64) 3 wc w.heap.size (fun k_ => some k_ ≠ ((.slice Ao108 t138.length co108) : Value).ownBlock) (.slice Ao105 t133.length co105) t133) ∧ Aside0 (Kd.Q (Kd.int .i64) 3 wc w.heap.size (fun k_ => some k_ ≠ ((.slice Ao105 t133.length co105) : Value).ownBlock) (.slice Ao108 t138.length co108) t138) ∧ Aside0 (wc.heap[g142]? = some (.cells #[.int .i64 t131, .int .i64 t132, (.slice Ao105 t133.length co105)] 26 (0, 0))) ∧ Aside0 (wc.heap[g143]? = some (.cells #[.int .i64 t136, .int .i64 t137, (.slice Ao108 t138.length co108)] 26 (0, 0))) ∧ Aside0 (Below w.heap.size w wc))
 case first => as_aux_lemma =>
  have H := HC99.out; clear HC99
  by_cases c116 : (t147 != t151) = true
  ·
   rw [if_pos c116] at H
   have c116b0 : (t147 != t151) = true := c116
   (try (have c116b1 : decide (t147 = t151) = false := by simpa using c116))
   (try (have c116b2 : (t147 == t151) = false := by simpa using c116))
   (try (have c116b3 : ¬ (t147 = t151) := by simpa using c116))
   clear c116
   (first | rw [c116b0] | (simp only [i64_w, i32_w]; rw [c116b0]) | skip)
   have H' := aK H; clear H
   go_wp2
   go_meet
   case rel => exact ⟨_, (true), (by first | rfl | (simp; done) | (simp [*]; done)), H', ⟨by have := HJ6.out; have := HJ40.out; first | omega | exact Nat.le_refl _⟩, ⟨by (with_reducible repeat (first | apply Kd.S_alloc | apply Kd.S_drewN | apply Kd.S_drew)); exact Kd.S_mono HO146.out (fun _ hk => ⟨hk.2, ⟨hk.1.1.1.1.2, ⟨hk.1.1.1.2, ⟨hk.1.1.2, hk.1.2⟩⟩⟩⟩)⟩, ⟨by (with_reducible repeat (first | apply Kd.S_alloc | apply Kd.S_drewN | apply Kd.S_drew)); exact Kd.S_mono HO150.out (fun _ hk => ⟨hk.1.1.2, ⟨hk.1.1.1.1.2, ⟨hk.1.1.1.2, ⟨hk.1.2, hk.2⟩⟩⟩⟩)⟩, ⟨pQ HO135.out⟩, ⟨pQ HO140.out⟩, ⟨by refine bk ?_; exact B142.out⟩, ⟨by refine bk ?_; exact B143.out⟩, ⟨pT HB.out⟩⟩
  rw [if_neg c116] at H
  have c116b0 : (t147 != t151) = false := by simpa using c116
  (try (have c116b1 : decide (t147 = t151) = true := by simpa using c116))
  (try (have c116b2 : (t147 == t151) = true := by simpa using c116))
  clear c116
  (first | rw [c116b0] | (simp only [i64_w, i32_w]; rw [c116b0]) | skip)
  have H' := aK H; clear H; obtain ⟨Ao117, co117, eo117⟩ := Kd.S_slice HO146.out; subst eo117; obtain ⟨Ao118, co118, eo118⟩ := Kd.S_slice HO150.out; subst eo118
  go_wp2
  go_meet
  case rel => exact ⟨_, (((t144.length : Int) != (t148.length : Int))), (by first | rfl | (simp; done) | (simp [*]; done)), H', ⟨by have := HJ6.out; have := HJ40.out; first | omega | exact Nat.le_refl _⟩, ⟨by (with_reducible repeat (first | apply Kd.S_alloc | apply Kd.S_drewN | apply Kd.S_drew)); exact Kd.S_mono HO146.out (fun _ hk => ⟨hk.2, ⟨hk.1.1.1.1.2, ⟨hk.1.1.1.2, ⟨hk.1.1.2, hk.1.2⟩⟩⟩⟩)⟩, ⟨by (with_reducible repeat (first | apply Kd.S_alloc | apply Kd.S_drewN | apply Kd.S_drew)); exact Kd.S_mono HO150.out (fun _ hk => ⟨hk.1.1.2, ⟨hk.1.1.1.1.2, ⟨hk.1.1.1.2, ⟨hk.1.2, hk.2⟩⟩⟩⟩)⟩, ⟨pQ HO135.out⟩, ⟨pQ HO140.out⟩, ⟨by refine bk ?_; exact B142.out⟩, ⟨by refine bk ?_; exact B143.out⟩, ⟨pT HB.out⟩⟩
 case rest => as_aux_lemma =>
 clear HC99
 clear z104_0 z104_1 z104_2 z107_0 z107_1 z107_2 z110_0 z110_1 z110_2 z111_0 z111_1 z111_2 z113_0 z113_1 z113_2 z114_0 z114_1 z114_2 y104_0 y104_1 y104_2 y107_0 y107_1 y107_2 y110_0 y110_1 y110_2 y111_0 y111_1 y111_2 y113_0 y113_1 y113_2 y114_0 y114_1 y114_2
 obtain ⟨kq, x119_98, rfl, HA, HJ98, HO_17, HO_19, O2, O3, B142, B143, HB⟩ := hcut
 cases kq with
 | zero => exact absurd HA.out (by simp [laws_FnNowcast.j2])
 | succ kj98 =>
 have H := HA.out
 clear HA
 simp only [laws_FnNowcast.j2] at H
 by_cases c119 : x119_98 = true
 ·
  subst c119
  have H1 : (some false) = some r := by rw [if_pos rfl] at H; exact H
  clear H; have H := H1; clear H1
  obtain rfl := Option.some.inj H
  go_wp2
  go_ret
  exact ⟨er, pT HB.out⟩
 replace c119 := Bool.eq_false_iff.mpr c119
 subst c119
 have H1 : (laws_FnNowcast.l0 kj98 t141 t144 t147 t148 0 t131 t132 t133 t136 t137 t138) = some r := by rw [if_neg (show ¬ (false = true) by decide)] at H; exact H
 clear H
 have H := H1
 clear H1
 have H' := aK H
 clear H
 go_wp2
 go_loopg [21] kj98 (fun kq v21 w' => ∃ (x21_4 : Int), v21 = .int .i64 x21_4 ∧ Aside0 (laws_FnNowcast.l0 kq t141 t144 t147 t148 x21_4 t131 t132 t133 t136 t137 t138 = some r) ∧ Aside0 (kq ≤ kj98) ∧ Aside0 (Kd.S k26 26 w' w.heap.size (fun k_ => some k_ ≠ (v149 : Value).ownBlock ∧ some k_ ≠ ((.slice Ao105 t133.length co105) : Value).ownBlock ∧ some k_ ≠ ((.slice Ao108 t138.length co108) : Value).ownBlock ∧ k_ ≠ g142 ∧ k_ ≠ g143) v145 t144) ∧ Aside0 (Kd.S k26 26 w' w.heap.size (fun k_ => some k_ ≠ (v145 : Value).ownBlock ∧ some k_ ≠ ((.slice Ao105 t133.length co105) : Value).ownBlock ∧ some k_ ≠ ((.slice Ao108 t138.length co108) : Value).ownBlock ∧ k_ ≠ g142 ∧ k_ ≠ g143) v149 t148) ∧ Aside0 (Kd.Q (Kd.int .i64) 3 w' w.heap.size (fun k_ => some k_ ≠ ((.slice Ao108 t138.length co108) : Value).ownBlock) (.slice Ao105 t133.length co105) t133) ∧ Aside0 (Kd.Q (Kd.int .i64) 3 w' w.heap.size (fun k_ => some k_ ≠ ((.slice Ao105 t133.length co105) : Value).ownBlock) (.slice Ao108 t138.length co108) t138) ∧ Aside0 (w'.heap[g142]? = some (.cells #[.int .i64 t131, .int .i64 t132, (.slice Ao105 t133.length co105)] 26 (0, 0))) ∧ Aside0 (w'.heap[g143]? = some (.cells #[.int .i64 t136, .int .i64 t137, (.slice Ao108 t138.length co108)] 26 (0, 0))) ∧ Aside0 (Below w.heap.size w w'))
 case atStart => exact ⟨(0), (by first | rfl | (simp; done) | (simp [*]; done)), H', ⟨Nat.le_refl _⟩, ⟨by (with_reducible repeat (first | apply Kd.S_alloc | apply Kd.S_drewN | apply Kd.S_drew)); exact HO_17.out⟩, ⟨by (with_reducible repeat (first | apply Kd.S_alloc | apply Kd.S_drewN | apply Kd.S_drew)); exact HO_19.out⟩, ⟨pQ O2.out⟩, ⟨pQ O3.out⟩, ⟨by refine bk ?_; exact B142.out⟩, ⟨by refine bk ?_; exact B143.out⟩, ⟨pT HB.out⟩⟩
 case round => as_aux_lemma =>
 clear H'
 obtain ⟨x21_4, rfl, HA, HK4, HO_17, HO_19, O2, O3, B142, B143, HB⟩ := hrel
 cases gk with
 | zero => exact absurd HA.out (by simp [laws_FnNowcast.l0])
 | succ k4 =>
 have H := HA.out
 clear HA
 simp only [laws_FnNowcast.l0] at H
 by_cases c120 : x21_4 < (t144.length : Int)
 ·
  rw [if_pos c120] at H
  have c120b0 : decide (x21_4 < (t144.length : Int)) = true := decide_eq_true c120
  clear c120
  by_cases c121 : 0 ≤ x21_4
  rotate_left
  ·
   rw [if_neg c121] at H
   exact absurd H (by simp)
  rw [if_pos c121] at H
  have c121b0 : decide (0 ≤ x21_4) = true := decide_eq_true c121
  clear c121
  by_cases c122 : x21_4 < (t148.length : Int)
  rotate_left
  ·
   rw [if_neg c122] at H
   exact absurd H (by simp)
  rw [if_pos c122] at H
  have c122b0 : decide (x21_4 < (t148.length : Int)) = true := decide_eq_true c122
  clear c122; replace H := oA H; obtain ⟨t154, A123, H⟩ := H
  replace H : (if t154 = true then (laws_FnNowcast.l0 k4 t141 t144 t147 t148 (wrap64 (x21_4 + 1)) t131 t132 t133 t136 t137 t138) else (some false)) = some r := H
  by_cases c124 : t154 = true
  ·
   subst c124
   have H1 : (laws_FnNowcast.l0 k4 t141 t144 t147 t148 (wrap64 (x21_4 + 1)) t131 t132 t133 t136 t137 t138) = some r := by rw [if_pos rfl] at H; exact H
   clear H; have H := H1; clear H1; have H' := aK H; clear H; obtain ⟨Ao125, co125, eo125⟩ := Kd.S_slice HO_17.out; subst eo125
   try go_wp2
   replace HO_17 := sdw HO_17; replace HO_19 := sdw HO_19; replace O2 := qdw O2; replace O3 := qdw O3; replace B142 := bD B142; replace B143 := bD B143; replace HB := aK (below_drew1 HB.out)
   have p152 : 0 ≤ (x21_4 : Int) := dA
   have q152 : x21_4 < (t144.length : Int) := dA
   obtain ⟨ad152, A152_2, c152_2, e152, hx152_0, hx152_1, hx152_2, hl152_2, hi152_2⟩ := at_T26 (Kd.S_reads' HO_17.out).2.2 x21_4 p152 q152; cases e152
   obtain ⟨ce152, hce152, hMe152, hcc152⟩ := Kd.S_get HO_17.out z26 x21_4 p152 (by first | exact q152 | exact dA | (have e_ := (Kd.S_reads' HO_17.out).1; omega))
   obtain ⟨ve152_2, rfl, ge152_2⟩ := k26_openM hMe152; have hv152_2 := hcc152 2 _ rfl
   rw [add_field _ _ 2 (by omega)] at hv152_2
   replace hv152_2 := Option.some.inj (hv152_2.symm.trans hx152_2); rw [hv152_2] at ge152_2
   have HL152_2 := aK (show Kd.R (Kd.int .i64) 3 _ _ _ _ ((rd_T26 t144 x21_4).f2) from ge152_2)
   clear hv152_2 ge152_2 hcc152 hce152; have HR152_2 := aK hi152_2; have HC152_2 := aK hl152_2; clear hi152_2 hl152_2; replace p152 := eq_true p152; replace q152 := eq_true q152; obtain ⟨Ao127, co127, eo127⟩ := Kd.S_slice HO_19.out
   (first | subst eo127 | (obtain ⟨f4_, f5_⟩ := sI eo127; subst f4_; subst f5_))
   have p153 : 0 ≤ (x21_4 : Int) := dA
   have q153 : x21_4 < (t148.length : Int) := dA
   obtain ⟨ad153, A153_2, c153_2, e153, hx153_0, hx153_1, hx153_2, hl153_2, hi153_2⟩ := at_T26 (Kd.S_reads' HO_19.out).2.2 x21_4 p153 q153; cases e153
   obtain ⟨ce153, hce153, hMe153, hcc153⟩ := Kd.S_get HO_19.out z26 x21_4 p153 (by first | exact q153 | exact dA | (have e_ := (Kd.S_reads' HO_19.out).1; omega))
   obtain ⟨ve153_2, rfl, ge153_2⟩ := k26_openM hMe153; have hv153_2 := hcc153 2 _ rfl
   rw [add_field _ _ 2 (by omega)] at hv153_2
   replace hv153_2 := Option.some.inj (hv153_2.symm.trans hx153_2); rw [hv153_2] at ge153_2
   have HL153_2 := aK (show Kd.R (Kd.int .i64) 3 _ _ _ _ ((rd_T26 t148 x21_4).f2) from ge153_2)
   clear hv153_2 ge153_2 hcc153 hce153; have HR153_2 := aK hi153_2; have HC153_2 := aK hl153_2; clear hi153_2 hl153_2; replace p153 := eq_true p153; replace q153 := eq_true q153
   refine start_ (n := 10) (S := fun w' => w'.cell? (ad152.add ((x21_4).toNat * 3)) = some (.int .i64 ((rd_T26 t144 x21_4).f0)) ∧ w'.cell? ⟨(ad152.add ((x21_4).toNat * 3)).block, (ad152.add ((x21_4).toNat * 3)).off + 1, none⟩ = some (.int .i64 ((rd_T26 t144 x21_4).f1)) ∧ w'.cell? ⟨(ad152.add ((x21_4).toNat * 3)).block, (ad152.add ((x21_4).toNat * 3)).off + 2, none⟩ = some (.slice A152_2 ((rd_T26 t144 x21_4).f2).length c152_2) ∧ w'.cell? (ad153.add ((x21_4).toNat * 3)) = some (.int .i64 ((rd_T26 t148 x21_4).f0)) ∧ w'.cell? ⟨(ad153.add ((x21_4).toNat * 3)).block, (ad153.add ((x21_4).toNat * 3)).off + 1, none⟩ = some (.int .i64 ((rd_T26 t148 x21_4).f1)) ∧ w'.cell? ⟨(ad153.add ((x21_4).toNat * 3)).block, (ad153.add ((x21_4).toNat * 3)).off + 2, none⟩ = some (.slice A153_2 ((rd_T26 t148 x21_4).f2).length c153_2)) (ds := []) (bz [0, 10]) (by kernel_rfl) rfl rfl ⟨hx152_0, hx152_1, hx152_2, hx153_0, hx153_1, hx153_2⟩ (fun hHeld => ?_); refine with_tabW laws_FnNowcast.tab21 laws_FnNowcast.bits21 (fun HT_ HW_ => ?_)
   generalize wr.drew = w126 at HO_17 HO_19 O2 O3 B142 B143 HB HL152_2 HL153_2 HR152_2 HR153_2 hx152_0 hx152_1 hx152_2 hx153_0 hx153_1 hx153_2 hHeld ⊢
   refine pz 0 126 [1, 9] HT_ ?_
   refine pz 1 127 [2, 8] HT_ ?_
   refine pz 2 128 [3, 7] HT_ ?_
   refine pz 4 130 [3, 1, 1, 5] HT_ ?_
   refine pz 5 131 [3, 1, 2, 4] HT_ ?_
   refine pz 6 132 [3, 1, 3, 3] HT_ ?_
   refine tz 3 129 [7, 3] HT_ HW_ rfl (by rintro w' ⟨s0, s1, s2, s3, s4, s5⟩; go_simp; with_reducible rfl) hHeld ?_
   refine tz 7 133 [8, 2] HT_ HW_ rfl (by rintro w' ⟨s0, s1, s2, s3, s4, s5⟩; go_simp; with_reducible rfl) hHeld ?_
   refine oz 8 134 [9, 1] HT_ fun K hK => ?_
   refine gs Try.func8 #[.agg #[.int .i64 ((rd_T26 t144 x21_4).f0), .int .i64 ((rd_T26 t144 x21_4).f1), .slice A152_2 ((rd_T26 t144 x21_4).f2).length c152_2], .agg #[.int .i64 ((rd_T26 t148 x21_4).f0), .int .i64 ((rd_T26 t148 x21_4).f1), .slice A153_2 ((rd_T26 t148 x21_4).f2).length c153_2]] ?_
   with_reducible refine (laws_vField.calls k4 ((rd_T26 t144 x21_4).f0) ((rd_T26 t144 x21_4).f1) _ _ ((rd_T26 t144 x21_4).f2) ((rd_T26 t148 x21_4).f0) ((rd_T26 t148 x21_4).f1) _ _ ((rd_T26 t148 x21_4).f2) true _ ?side1 ?side2 ?side3 ?side4 A123.out).mono ?_
   (case side1 => repeat (first | exact (pC HR152_2.out) | (with_reducible refine Kd.C_alloc ?_ _) | (with_reducible refine Kd.C_drewN ?_ _) | (with_reducible refine Kd.C_drew ?_)))
   (case side2 => exact HC152_2.out)
   (case side3 => repeat (first | exact (pC HR153_2.out) | (with_reducible refine Kd.C_alloc ?_ _) | (with_reducible refine Kd.C_drewN ?_ _) | (with_reducible refine Kd.C_drew ?_)))
   (case side4 => exact HC153_2.out)
   rintro e w128 ⟨rfl, hb⟩
   have HS0_ := hs hb hHeld.1; have HS1_ := hs hb hHeld.2.1; have HS2_ := hs hb hHeld.2.2.1; have HS3_ := hs hb hHeld.2.2.2.1; have HS4_ := hs hb hHeld.2.2.2.2.1; have HS5_ := hs hb hHeld.2.2.2.2.2
   refine ⟨_, rfl, ?_⟩
   replace HO_17 := sb HO_17 hb; replace HO_19 := sb HO_19 hb; replace O2 := qb O2 hb; replace O3 := qb O3 hb; replace HL152_2 := rb HL152_2 hb; replace HL153_2 := rb HL153_2 hb; replace HR152_2 := aK (Kd.C_below (pC HR152_2.out) hb); replace HR153_2 := aK (Kd.C_below (pC HR153_2.out) hb); replace B142 := bB B142 hb; replace B143 := bB B143 hb; replace HB := bS HB hb; clear hb
   refine hK.out _ _ ⟨HS0_, HS1_, HS2_, HS3_, HS4_, HS5_⟩ (fun hHeld => ?_)
   clear hK K
   refine nm 134 ?_
   refine pz 9 135 [10, 0] HT_ ?_
   refine done_ (done_of HT_.out (by kernel_rfl)) ?_
   try go_wp2
   go_roundg k4
   case measure => have := HJ6.out; have := HJ40.out; have := HJ98.out; have := HK4.out; omega
   case rel => exact ⟨(wrap64 (x21_4 + 1)), (by first | rfl | (simp; done) | (simp [*]; done)), H', ⟨by have := HJ6.out; have := HJ40.out; have := HJ98.out; have := HK4.out; omega⟩, ⟨by (with_reducible repeat (first | apply Kd.S_alloc | apply Kd.S_drewN | apply Kd.S_drew)); exact HO_17.out⟩, ⟨by (with_reducible repeat (first | apply Kd.S_alloc | apply Kd.S_drewN | apply Kd.S_drew)); exact HO_19.out⟩, ⟨pQ O2.out⟩, ⟨pQ O3.out⟩, ⟨by refine bk ?_; exact B142.out⟩, ⟨by refine bk ?_; exact B143.out⟩, ⟨pT HB.out⟩⟩
  replace c124 := Bool.eq_false_iff.mpr c124; subst c124
  have H1 : (some false) = some r := by rw [if_neg (show ¬ (false = true) by decide)] at H; exact H
  clear H; have H := H1; clear H1
  obtain rfl := Option.some.inj H
  obtain ⟨Ao129, co129, eo129⟩ := Kd.S_slice HO_17.out; subst eo129
  try go_wp2
  replace HO_17 := sdw HO_17; replace HO_19 := sdw HO_19; replace O2 := qdw O2; replace O3 := qdw O3; replace B142 := bD B142; replace B143 := bD B143; replace HB := aK (below_drew1 HB.out)
  have p152 : 0 ≤ (x21_4 : Int) := dA
  have q152 : x21_4 < (t144.length : Int) := dA
  obtain ⟨ad152, A152_2, c152_2, e152, hx152_0, hx152_1, hx152_2, hl152_2, hi152_2⟩ := at_T26 (Kd.S_reads' HO_17.out).2.2 x21_4 p152 q152; cases e152
  obtain ⟨ce152, hce152, hMe152, hcc152⟩ := Kd.S_get HO_17.out z26 x21_4 p152 (by first | exact q152 | exact dA | (have e_ := (Kd.S_reads' HO_17.out).1; omega))
  obtain ⟨ve152_2, rfl, ge152_2⟩ := k26_openM hMe152; have hv152_2 := hcc152 2 _ rfl
  rw [add_field _ _ 2 (by omega)] at hv152_2
  replace hv152_2 := Option.some.inj (hv152_2.symm.trans hx152_2); rw [hv152_2] at ge152_2
  have HL152_2 := aK (show Kd.R (Kd.int .i64) 3 _ _ _ _ ((rd_T26 t144 x21_4).f2) from ge152_2)
  clear hv152_2 ge152_2 hcc152 hce152; have HR152_2 := aK hi152_2; have HC152_2 := aK hl152_2; clear hi152_2 hl152_2; replace p152 := eq_true p152; replace q152 := eq_true q152; obtain ⟨Ao131, co131, eo131⟩ := Kd.S_slice HO_19.out
  (first | subst eo131 | (obtain ⟨f4_, f5_⟩ := sI eo131; subst f4_; subst f5_))
  have p153 : 0 ≤ (x21_4 : Int) := dA
  have q153 : x21_4 < (t148.length : Int) := dA
  obtain ⟨ad153, A153_2, c153_2, e153, hx153_0, hx153_1, hx153_2, hl153_2, hi153_2⟩ := at_T26 (Kd.S_reads' HO_19.out).2.2 x21_4 p153 q153; cases e153
  obtain ⟨ce153, hce153, hMe153, hcc153⟩ := Kd.S_get HO_19.out z26 x21_4 p153 (by first | exact q153 | exact dA | (have e_ := (Kd.S_reads' HO_19.out).1; omega))
  obtain ⟨ve153_2, rfl, ge153_2⟩ := k26_openM hMe153; have hv153_2 := hcc153 2 _ rfl
  rw [add_field _ _ 2 (by omega)] at hv153_2
  replace hv153_2 := Option.some.inj (hv153_2.symm.trans hx153_2); rw [hv153_2] at ge153_2
  have HL153_2 := aK (show Kd.R (Kd.int .i64) 3 _ _ _ _ ((rd_T26 t148 x21_4).f2) from ge153_2)
  clear hv153_2 ge153_2 hcc153 hce153; have HR153_2 := aK hi153_2; have HC153_2 := aK hl153_2; clear hi153_2 hl153_2; replace p153 := eq_true p153; replace q153 := eq_true q153
  refine start_ (n := 10) (S := fun w' => w'.cell? (ad152.add ((x21_4).toNat * 3)) = some (.int .i64 ((rd_T26 t144 x21_4).f0)) ∧ w'.cell? ⟨(ad152.add ((x21_4).toNat * 3)).block, (ad152.add ((x21_4).toNat * 3)).off + 1, none⟩ = some (.int .i64 ((rd_T26 t144 x21_4).f1)) ∧ w'.cell? ⟨(ad152.add ((x21_4).toNat * 3)).block, (ad152.add ((x21_4).toNat * 3)).off + 2, none⟩ = some (.slice A152_2 ((rd_T26 t144 x21_4).f2).length c152_2) ∧ w'.cell? (ad153.add ((x21_4).toNat * 3)) = some (.int .i64 ((rd_T26 t148 x21_4).f0)) ∧ w'.cell? ⟨(ad153.add ((x21_4).toNat * 3)).block, (ad153.add ((x21_4).toNat * 3)).off + 1, none⟩ = some (.int .i64 ((rd_T26 t148 x21_4).f1)) ∧ w'.cell? ⟨(ad153.add ((x21_4).toNat * 3)).block, (ad153.add ((x21_4).toNat * 3)).off + 2, none⟩ = some (.slice A153_2 ((rd_T26 t148 x21_4).f2).length c153_2)) (ds := []) (bz [0, 10]) (by kernel_rfl) rfl rfl ⟨hx152_0, hx152_1, hx152_2, hx153_0, hx153_1, hx153_2⟩ (fun hHeld => ?_); refine with_tabW laws_FnNowcast.tab21 laws_FnNowcast.bits21 (fun HT_ HW_ => ?_)
  generalize wr.drew = w130 at HO_17 HO_19 O2 O3 B142 B143 HB HL152_2 HL153_2 HR152_2 HR153_2 hx152_0 hx152_1 hx152_2 hx153_0 hx153_1 hx153_2 hHeld ⊢
  refine pz 0 126 [1, 9] HT_ ?_
  refine pz 1 127 [2, 8] HT_ ?_
  refine pz 2 128 [3, 7] HT_ ?_
  refine pz 4 130 [3, 1, 1, 5] HT_ ?_
  refine pz 5 131 [3, 1, 2, 4] HT_ ?_
  refine pz 6 132 [3, 1, 3, 3] HT_ ?_
  refine tz 3 129 [7, 3] HT_ HW_ rfl (by rintro w' ⟨s0, s1, s2, s3, s4, s5⟩; go_simp; with_reducible rfl) hHeld ?_
  refine tz 7 133 [8, 2] HT_ HW_ rfl (by rintro w' ⟨s0, s1, s2, s3, s4, s5⟩; go_simp; with_reducible rfl) hHeld ?_
  refine oz 8 134 [9, 1] HT_ fun K hK => ?_
  refine gs Try.func8 #[.agg #[.int .i64 ((rd_T26 t144 x21_4).f0), .int .i64 ((rd_T26 t144 x21_4).f1), .slice A152_2 ((rd_T26 t144 x21_4).f2).length c152_2], .agg #[.int .i64 ((rd_T26 t148 x21_4).f0), .int .i64 ((rd_T26 t148 x21_4).f1), .slice A153_2 ((rd_T26 t148 x21_4).f2).length c153_2]] ?_
  with_reducible refine (laws_vField.calls k4 ((rd_T26 t144 x21_4).f0) ((rd_T26 t144 x21_4).f1) _ _ ((rd_T26 t144 x21_4).f2) ((rd_T26 t148 x21_4).f0) ((rd_T26 t148 x21_4).f1) _ _ ((rd_T26 t148 x21_4).f2) false _ ?side1 ?side2 ?side3 ?side4 A123.out).mono ?_
  (case side1 => repeat (first | exact (pC HR152_2.out) | (with_reducible refine Kd.C_alloc ?_ _) | (with_reducible refine Kd.C_drewN ?_ _) | (with_reducible refine Kd.C_drew ?_)))
  (case side2 => exact HC152_2.out)
  (case side3 => repeat (first | exact (pC HR153_2.out) | (with_reducible refine Kd.C_alloc ?_ _) | (with_reducible refine Kd.C_drewN ?_ _) | (with_reducible refine Kd.C_drew ?_)))
  (case side4 => exact HC153_2.out)
  rintro e w132 ⟨rfl, hb⟩
  have HS0_ := hs hb hHeld.1; have HS1_ := hs hb hHeld.2.1; have HS2_ := hs hb hHeld.2.2.1; have HS3_ := hs hb hHeld.2.2.2.1; have HS4_ := hs hb hHeld.2.2.2.2.1; have HS5_ := hs hb hHeld.2.2.2.2.2
  refine ⟨_, rfl, ?_⟩
  replace HO_17 := sb HO_17 hb; replace HO_19 := sb HO_19 hb; replace O2 := qb O2 hb; replace O3 := qb O3 hb; replace HL152_2 := rb HL152_2 hb; replace HL153_2 := rb HL153_2 hb; replace HR152_2 := aK (Kd.C_below (pC HR152_2.out) hb); replace HR153_2 := aK (Kd.C_below (pC HR153_2.out) hb); replace B142 := bB B142 hb; replace B143 := bB B143 hb; replace HB := bS HB hb; clear hb
  refine hK.out _ _ ⟨HS0_, HS1_, HS2_, HS3_, HS4_, HS5_⟩ (fun hHeld => ?_)
  clear hK K
  refine nm 134 ?_
  refine pz 9 135 [10, 0] HT_ ?_
  refine done_ (done_of HT_.out (by kernel_rfl)) ?_
  try go_wp2
  go_ret
  exact ⟨er, pT HB.out⟩
 rw [if_neg c120] at H
 have c120b0 : decide (x21_4 < (t144.length : Int)) = false := decide_eq_false c120
 clear c120
 by_cases c133 : t147 = true
 rotate_left
 ·
  replace c133 := Bool.eq_false_iff.mpr c133; subst c133
  have H1 : (some true) = some r := by rw [if_neg (show ¬ (false = true) by decide)] at H; exact H
  clear H; have H := H1; clear H1
  obtain rfl := Option.some.inj H
  obtain ⟨Ao290, co290, eo290⟩ := Kd.S_slice HO_17.out; subst eo290
  replace HO_17 := aK (Kd.S_mono HO_17.out (fun _ h => And.intro h.2.1 (And.intro h.2.2.1 (And.intro h.2.2.2.1 h.2.2.2.2))))
  try go_wp2
  go_ret
  exact ⟨er, pT HB.out⟩
 subst c133
 have H1 : ((impl_BestMotion.f k4 t131 t132 t133 t136 t137 t138).bind fun bt155 => ((impl_MoveField.f k4 t136 t137 t138 bt155.1 bt155.2.1).bind fun bt159 => (if 0 < (t144.length : Int) then ((impl_MotionError.f k4 bt159.1 bt159.2.1 bt159.2.2.1 ((rd_T26 t144 0).f0) ((rd_T26 t144 0).f1) ((rd_T26 t144 0).f2)).bind fun bt167 => (if bt155.2.2 = true then (if bt159.2.2.2 = true then ((laws_vField.f k4 bt159.1 bt159.2.1 bt159.2.2.1 ((rd_T26 t144 0).f0) ((rd_T26 t144 0).f1) ((rd_T26 t144 0).f2)).bind fun t171 => (if t171 = true then (if (t144.length : Int) = t141 then (if bt167.2.2 = true then (if bt167.1 = 0 then (some (decide (bt167.2.1 ≥ 0))) else (some false)) else (some false)) else (some false)) else (some false))) else (some false)) else (some false))) else (none)))) = some r := by rw [if_pos rfl] at H; exact H
 clear H
 have H := H1
 clear H1
 replace H := oA H
 obtain ⟨⟨t155, t156, t157⟩, A134, H⟩ := H
 replace H : ((impl_MoveField.f k4 t136 t137 t138 t155 t156).bind fun bt159 => (if 0 < (t144.length : Int) then ((impl_MotionError.f k4 bt159.1 bt159.2.1 bt159.2.2.1 ((rd_T26 t144 0).f0) ((rd_T26 t144 0).f1) ((rd_T26 t144 0).f2)).bind fun bt167 => (if t157 = true then (if bt159.2.2.2 = true then ((laws_vField.f k4 bt159.1 bt159.2.1 bt159.2.2.1 ((rd_T26 t144 0).f0) ((rd_T26 t144 0).f1) ((rd_T26 t144 0).f2)).bind fun t171 => (if t171 = true then (if (t144.length : Int) = t141 then (if bt167.2.2 = true then (if bt167.1 = 0 then (some (decide (bt167.2.1 ≥ 0))) else (some false)) else (some false)) else (some false)) else (some false))) else (some false)) else (some false))) else (none))) = some r := H
 replace H := oA H
 obtain ⟨⟨t159, t160, t161, t164⟩, A135, H⟩ := H
 replace H : (if 0 < (t144.length : Int) then ((impl_MotionError.f k4 t159 t160 t161 ((rd_T26 t144 0).f0) ((rd_T26 t144 0).f1) ((rd_T26 t144 0).f2)).bind fun bt167 => (if t157 = true then (if t164 = true then ((laws_vField.f k4 t159 t160 t161 ((rd_T26 t144 0).f0) ((rd_T26 t144 0).f1) ((rd_T26 t144 0).f2)).bind fun t171 => (if t171 = true then (if (t144.length : Int) = t141 then (if bt167.2.2 = true then (if bt167.1 = 0 then (some (decide (bt167.2.1 ≥ 0))) else (some false)) else (some false)) else (some false)) else (some false))) else (some false)) else (some false))) else (none)) = some r := H
 by_cases c136 : 0 < (t144.length : Int)
 rotate_left
 ·
  rw [if_neg c136] at H
  exact absurd H (by simp)
 rw [if_pos c136] at H
 have c136b0 : decide (0 < (t144.length : Int)) = true := decide_eq_true c136
 have c136b1 : decide (0 < t144.length) = true := decide_eq_true (by omega)
 clear c136
 replace H := oA H
 obtain ⟨⟨t167, t168, t169⟩, A137, H⟩ := H
 replace H : (if t157 = true then (if t164 = true then ((laws_vField.f k4 t159 t160 t161 ((rd_T26 t144 0).f0) ((rd_T26 t144 0).f1) ((rd_T26 t144 0).f2)).bind fun t171 => (if t171 = true then (if (t144.length : Int) = t141 then (if t169 = true then (if t167 = 0 then (some (decide (t168 ≥ 0))) else (some false)) else (some false)) else (some false)) else (some false))) else (some false)) else (some false)) = some r := H
 by_cases c138 : t157 = true
 rotate_left
 ·
  replace c138 := Bool.eq_false_iff.mpr c138; subst c138
  have H1 : (some false) = some r := by rw [if_neg (show ¬ (false = true) by decide)] at H; exact H
  clear H; have H := H1; clear H1
  obtain rfl := Option.some.inj H
  obtain ⟨Ao270, co270, eo270⟩ := Kd.S_slice HO_17.out; subst eo270; obtain ⟨_, _⟩ := nB N142_143; obtain ⟨_, _, _, _, _, _⟩ := bc3 B142.out; obtain ⟨_, _, _, _, _, _⟩ := bc3 B143.out
  replace HO_17 := aK (Kd.S_mono HO_17.out (fun _ h => And.intro h.2.1 (And.intro h.2.2.1 (And.intro h.2.2.2.1 h.2.2.2.2))))
  try go_wp2_with (first | ((with_reducible refine gc 14 rfl ?_); refine gl (some 141) Try.func14 #[.agg #[.int .i64 t131, .int .i64 t132, .slice Ao105 t133.length co105], .agg #[.int .i64 t136, .int .i64 t137, .slice Ao108 t138.length co108]] ?_; (with_reducible refine (impl_BestMotion.calls k4 t131 t132 _ _ t133 t136 t137 _ _ t138 t155 t156 false _ ?side1 ?side2 ?side3 ?side4 A134.out).mono ?_); (case side1 => exact pC (Kd.Q_reads' O2.out).2.2); (case side2 => exact (Kd.Q_reads' O2.out).2.1); (case side3 => exact pC (Kd.Q_reads' O3.out).2.2); (case side4 => exact (Kd.Q_reads' O3.out).2.1); rintro e w274 ⟨rfl, hb⟩; refine ⟨_, rfl, ?_⟩; replace HO_17 := sb HO_17 hb; replace O2 := qb O2 hb; replace O3 := qb O3 hb; replace B142 := bB B142 hb; replace B143 := bB B143 hb; replace HB := bS HB hb; (try clear hb)) | ((with_reducible refine ga 22 rfl ?_); (try (refine gate_guard (by rfl) ?_; dsimp only)); refine bxa #[.int .i64 0, .int .i64 0] 28 ?_; intro g158 hg w275 B158 hb; replace HO_17 := sb HO_17 hb; replace O2 := qb O2 hb; replace O3 := qb O3 hb; have GW158 := gA hg HB; obtain ⟨N142_158, N158_142⟩ := na hg B142; obtain ⟨N143_158, N158_143⟩ := na hg B143; replace B142 := bB B142 hb; replace B143 := bB B143 hb; replace HB := bS HB hb; clear hb hg; obtain ⟨_, _⟩ := nB N158_142; obtain ⟨_, _⟩ := nB N158_143; obtain ⟨_, _, _, _⟩ := bc2 B158.out; obtain ⟨_, _, _, _, _, _⟩ := bc3 B143.out) | ((with_reducible refine gc 6 rfl ?_); refine gl (some 147) Try.func6 #[.agg #[.int .i64 t136, .int .i64 t137, .slice Ao108 t138.length co108], .agg #[.int .i64 t155, .int .i64 t156]] ?_; (with_reducible refine (impl_MoveField.calls k4 t136 t137 _ _ t138 t155 t156 t159 t160 t161 t164 _ ?side1 ?side2 A135.out).mono ?_); (case side1 => refine (Kd.Q_reads' (e := 3) (base := w.heap.size) (ok := fun k_ => some k_ ≠ (.slice Ao105 t133.length co105 : Value).ownBlock) (n := t138.length) (c := co108) ?_).2.2; exact (pQ (qF2 O3.out B158.out (.int .i64 t155) (.int .i64 t156)))); (case side2 => exact (Kd.Q_reads' O3.out).2.1); rintro e w280 ⟨v162, rfl, ho0, hb⟩; refine ⟨_, rfl, ?_⟩; replace HO_17 := aK (Kd.S_elder' (pY ((Kd.S_mono (Kd.S_far (p := ⟨g158, 1, none⟩) (Kd.S_far (p := ⟨g158, 0, none⟩) (Kd.S_types HO_17.out B158.out (by decide)) (fun _ hk => hk.2) (.int .i64 t155)) (fun _ hk => hk.2) (.int .i64 t156)) (fun _ h_ => h_.1)))) (Kd.R_base ho0) hb); have n1_ := aK (Kd.Q_elder' (pQ (qF2 O2.out B158.out (.int .i64 t155) (.int .i64 t156))) (Kd.R_base ho0) hb); have n2_ := aK (Kd.Q_elder' (pQ (qF2 O3.out B158.out (.int .i64 t155) (.int .i64 t156))) (Kd.R_base ho0) hb); have HO163 := aK (Kd.R_lower (Kd.R_new' (Kd.R_new' ho0 (Kd.Q_lt (pQ (qF2 O2.out B158.out (.int .i64 t155) (.int .i64 t156))))) (Kd.Q_lt (pQ (qF2 O3.out B158.out (.int .i64 t155) (.int .i64 t156))))) (below_size (pS HB.out))); replace B142 := aK (blk_below (g := g142) (o := .cells #[.int .i64 t131, .int .i64 t132, .slice Ao105 t133.length co105] 26 (0, 0)) (by refine bg N142_158 ?_; refine bg N142_158 ?_; refine bk ?_; exact B142.out) hb); replace B143 := aK (blk_below (g := g143) (o := .cells #[.int .i64 t136, .int .i64 t137, .slice Ao108 t138.length co108] 26 (0, 0)) (by refine bg N143_158 ?_; refine bg N143_158 ?_; refine bk ?_; exact B143.out) hb); replace B158 := aK (blk_below (g := g158) (o := .cells #[.int .i64 t155, .int .i64 t156] 28 (0, 0)) (by refine bq #[.int .i64 t155, .int .i64 0] 1 ?_; refine bq #[.int .i64 0, .int .i64 0] 0 ?_; refine bk ?_; exact B158.out) hb); replace HB := bS HB hb; clear O2 O3; have O2 := n1_; have O3 := n2_; clear n1_ n2_; (try clear hb); (try clear ho0)) | ((with_reducible refine ga 24 rfl ?_); (try (refine gate_guard (by rfl) ?_; dsimp only)); refine bxa #[.int .i64 0, .int .i64 0, .slice none 0 0] 26 ?_; intro g165 hg w281 B165 hb; replace HO_17 := aK (Kd.S_below (Kd.S_elderB (pY HO_17.out) g165 (Nat.le_of_eq hg.symm)) hb); replace O2 := qb O2 hb; replace O3 := qb O3 hb; replace HO163 := rb HO163 hb; have GW165 := gA hg HB; obtain ⟨N142_165, N165_142⟩ := na hg B142; obtain ⟨N143_165, N165_143⟩ := na hg B143; replace B142 := bB B142 hb; replace B143 := bB B143 hb; replace HB := bS HB hb; clear hb hg; obtain ⟨_, _⟩ := nB N165_142; obtain ⟨_, _⟩ := nB N165_143; obtain ⟨_, _, _, _, _, _⟩ := bc3 B165.out; obtain ⟨Ao285, co285, eo285⟩ := Kd.R_slice HO163.out; subst eo285))
  obtain ⟨w286, e_⟩ : ∃ w_, w_ = ((w281.setCell ⟨g165, 0, none⟩ (.int .i64 t159)).setCell ⟨g165, 1, none⟩ (.int .i64 t160)).setCell ⟨g165, 2, none⟩ (.slice Ao285 t161.length co285) := ⟨_, rfl⟩
  have n0_ : Aside0 (Kd.S k26 26 w286 w.heap.size (fun k_ => some k_ ≠ (.slice Ao105 t133.length co105 : Value).ownBlock ∧ some k_ ≠ (.slice Ao108 t138.length co108 : Value).ownBlock ∧ some k_ ≠ (.slice Ao285 t161.length co285 : Value).ownBlock ∧ k_ ≠ g142 ∧ k_ ≠ g143 ∧ k_ ≠ g165) (.slice Ao270 t144.length co270) t144) := ⟨by rw [e_]; (with_reducible repeat (first | apply Kd.S_alloc | apply Kd.S_drewN | apply Kd.S_drew)); exact Kd.S_mono (Kd.S_far (p := ⟨g165, 2, none⟩) (Kd.S_far (p := ⟨g165, 1, none⟩) (Kd.S_far (p := ⟨g165, 0, none⟩) (Kd.S_mono HO_17.out (fun k_ hk => (⟨hk, hk.2⟩ : _ ∧ k_ ≠ g165))) (fun _ hk => hk.2) (.int .i64 t159)) (fun _ hk => hk.2) (.int .i64 t160)) (fun _ hk => hk.2) (.slice Ao285 t161.length co285)) (fun _ hk => ⟨hk.1.1.1.1, ⟨hk.1.1.1.2.1, ⟨hk.1.1.2, ⟨hk.1.1.1.2.2.1, ⟨hk.1.1.1.2.2.2, hk.1.2⟩⟩⟩⟩⟩)⟩
  have n1_ : Aside0 (Kd.Q (Kd.int .i64) 3 w286 w.heap.size (fun k_ => some k_ ≠ (.slice Ao108 t138.length co108 : Value).ownBlock ∧ some k_ ≠ (.slice Ao285 t161.length co285 : Value).ownBlock) (.slice Ao105 t133.length co105) t133) := ⟨by rw [e_]; (with_reducible repeat (first | apply Kd.Q_alloc | apply Kd.Q_drewN | apply Kd.Q_drew)); exact Kd.Q_mono (qF3 O2.out B165.out (.int .i64 t159) (.int .i64 t160) (.slice Ao285 t161.length co285)) (fun _ h => ⟨h.1, h.2⟩)⟩
  have n2_ : Aside0 (Kd.Q (Kd.int .i64) 3 w286 w.heap.size (fun k_ => some k_ ≠ (.slice Ao105 t133.length co105 : Value).ownBlock ∧ some k_ ≠ (.slice Ao285 t161.length co285 : Value).ownBlock) (.slice Ao108 t138.length co108) t138) := ⟨by rw [e_]; (with_reducible repeat (first | apply Kd.Q_alloc | apply Kd.Q_drewN | apply Kd.Q_drew)); exact Kd.Q_mono (qF3 O3.out B165.out (.int .i64 t159) (.int .i64 t160) (.slice Ao285 t161.length co285)) (fun _ h => ⟨h.1, h.2⟩)⟩
  have n3_ : Aside0 (Kd.R (Kd.int .i64) 3 w286 w.heap.size (fun k_ => some k_ ≠ (.slice Ao105 t133.length co105 : Value).ownBlock ∧ some k_ ≠ (.slice Ao108 t138.length co108 : Value).ownBlock) (.slice Ao285 t161.length co285) t161) := ⟨by rw [e_]; exact pR (Kd.R_mono (rF3 HO163.out B165.out (.int .i64 t159) (.int .i64 t160) (.slice Ao285 t161.length co285)) (fun _ h => ⟨h.1.2, h.2⟩))⟩
  have n4_ : Aside0 (w286.heap[g142]? = some (.cells #[.int .i64 t131, .int .i64 t132, .slice Ao105 t133.length co105] 26 (0, 0))) := ⟨by rw [e_]; refine bg N142_165 ?_; refine bg N142_165 ?_; refine bg N142_165 ?_; refine bk ?_; exact B142.out⟩
  have n5_ : Aside0 (w286.heap[g143]? = some (.cells #[.int .i64 t136, .int .i64 t137, .slice Ao108 t138.length co108] 26 (0, 0))) := ⟨by rw [e_]; refine bg N143_165 ?_; refine bg N143_165 ?_; refine bg N143_165 ?_; refine bk ?_; exact B143.out⟩
  have n6_ : Aside0 (w286.heap[g165]? = some (.cells #[.int .i64 t159, .int .i64 t160, .slice Ao285 t161.length co285] 26 (0, 0))) := ⟨by rw [e_]; refine bq #[.int .i64 t159, .int .i64 t160, .slice none 0 0] 2 ?_; refine bq #[.int .i64 t159, .int .i64 0, .slice none 0 0] 1 ?_; refine bq #[.int .i64 0, .int .i64 0, .slice none 0 0] 0 ?_; refine bk ?_; exact B165.out⟩
  have n7_ : Aside0 (Below w.heap.size w w286) := ⟨by rw [e_]; exact pT HB.out⟩
  clear HO_17 O2 O3 HO163 B142 B143 B165 HB
  (try rw [← e_]); clear e_
  have HO_17 := n0_; have O2 := n1_; have O3 := n2_; have HO163 := n3_; have B142 := n4_; have B143 := n5_; have B165 := n6_; have HB := n7_; clear n0_ n1_ n2_ n3_ n4_ n5_ n6_ n7_; replace HO_17 := sdw HO_17; replace O2 := qdw O2; replace O3 := qdw O3; replace HO163 := rdw HO163; replace B142 := bD B142; replace B143 := bD B143; replace B165 := bD B165; replace HB := aK (below_drew1 HB.out)
  have p166 : 0 ≤ (0 : Int) := (by omega)
  have q166 : 0 < (t144.length : Int) := dA
  obtain ⟨ad166, A166_2, c166_2, e166, hx166_0, hx166_1, hx166_2, hl166_2, hi166_2⟩ := at_T26 (Kd.S_reads' HO_17.out).2.2 0 p166 q166; cases e166
  obtain ⟨ce166, hce166, hMe166, hcc166⟩ := Kd.S_get HO_17.out z26 0 p166 (by first | exact q166 | exact dA | (have e_ := (Kd.S_reads' HO_17.out).1; omega))
  obtain ⟨ve166_2, rfl, ge166_2⟩ := k26_openM hMe166; have hv166_2 := hcc166 2 _ rfl
  rw [add_field _ _ 2 (by omega)] at hv166_2
  replace hv166_2 := Option.some.inj (hv166_2.symm.trans hx166_2); rw [hv166_2] at ge166_2
  have HL166_2 := aK (show Kd.R (Kd.int .i64) 3 _ _ _ _ ((rd_T26 t144 0).f2) from ge166_2)
  clear hv166_2 ge166_2 hcc166 hce166
  have qi166 : (0 < t144.length) = True := eq_true (by omega)
  (try rw [show ((0 : Int)).toNat = 0 from rfl] at hx166_0)
  (try rw [show 0 * 3 = 0 from rfl] at hx166_0)
  (try rw [Addr.add_zero'] at hx166_0)
  (try rw [show ((0 : Int)).toNat = 0 from rfl] at hx166_1)
  (try rw [show 0 * 3 = 0 from rfl] at hx166_1)
  (try rw [Addr.add_zero'] at hx166_1)
  (try rw [show ((0 : Int)).toNat = 0 from rfl] at hx166_2)
  (try rw [show 0 * 3 = 0 from rfl] at hx166_2)
  (try rw [Addr.add_zero'] at hx166_2)
  have HR166_2 := aK hi166_2; have HC166_2 := aK hl166_2; clear hi166_2 hl166_2; replace p166 := eq_true p166; replace q166 := eq_true q166
  refine start_ (n := 12) (S := fun w' => w'.cell? ⟨g165, 0, none⟩ = some (.int .i64 t159) ∧ w'.cell? ⟨g165, 1, none⟩ = some (.int .i64 t160) ∧ w'.cell? ⟨g165, 2, none⟩ = some (.slice Ao285 t161.length co285) ∧ w'.cell? ad166 = some (.int .i64 ((rd_T26 t144 0).f0)) ∧ w'.cell? ⟨ad166.block, ad166.off + 1, none⟩ = some (.int .i64 ((rd_T26 t144 0).f1)) ∧ w'.cell? ⟨ad166.block, ad166.off + 2, none⟩ = some (.slice A166_2 ((rd_T26 t144 0).f2).length c166_2)) (ds := []) (bz [0, 12]) (by kernel_rfl) rfl rfl (cj3 B165.out ⟨hx166_0, hx166_1, hx166_2⟩) (fun hHeld => ?_); refine with_tabW laws_FnNowcast.tab27 laws_FnNowcast.bits27 (fun HT_ HW_ => ?_)
  generalize w286.drew = w287 at HO_17 O2 O3 HO163 B142 B143 B165 HB HL166_2 HR166_2 hx166_0 hx166_1 hx166_2 hHeld ⊢
  refine pz 1 152 [0, 1, 1, 10] HT_ ?_
  refine pz 2 153 [0, 1, 2, 9] HT_ ?_
  refine tz 0 151 [3, 9] HT_ HW_ rfl (by rintro w' ⟨s0, s1, s2, s3, s4, s5⟩; go_simp; with_reducible rfl) hHeld ?_
  refine tz 3 154 [4, 8] HT_ HW_ rfl (by rintro w' ⟨s0, s1, s2, s3, s4, s5⟩; go_simp; with_reducible rfl) hHeld ?_
  refine oz 4 155 [5, 7] HT_ fun K hK => ?_
  refine gs Try.func15 #[.agg #[.int .i64 t159, .int .i64 t160, .slice Ao285 t161.length co285], .agg #[.int .i64 ((rd_T26 t144 0).f0), .int .i64 ((rd_T26 t144 0).f1), .slice A166_2 ((rd_T26 t144 0).f2).length c166_2]] ?_
  with_reducible refine (impl_MotionError.calls k4 t159 t160 (fun k_ => some k_ = (.slice Ao285 t161.length co285 : Value).ownBlock) _ _ t161 ((rd_T26 t144 0).f0) ((rd_T26 t144 0).f1) (fun k_ => some k_ = (.slice A166_2 ((rd_T26 t144 0).f2).length c166_2 : Value).ownBlock) _ _ ((rd_T26 t144 0).f2) t167 t168 t169 _ ?side1 ?side2 A137.out).mono ?_
  (case side1 => exact Kd.R_V (Kd.R_tight rfl (Kd.R_types (Kd.R_types (Kd.R_types (Kd.R_apart' (HO163.out) (Kd.S_typed HO_17.out) (by decide)) B142.out (by decide)) B143.out (by decide)) B165.out (by decide))))
  (case side2 => exact Kd.R_V (Kd.R_tight rfl (HL166_2.out)))
  rintro e w288 ⟨rfl, hb⟩
  have HS3_ := hs hb hHeld.2.2.2.1; have HS4_ := hs hb hHeld.2.2.2.2.1; have HS5_ := hs hb hHeld.2.2.2.2.2
  refine ⟨_, rfl, ?_⟩
  replace HO_17 := sb HO_17 hb; replace O2 := qb O2 hb; replace O3 := qb O3 hb; replace HO163 := rb HO163 hb; replace HL166_2 := rb HL166_2 hb; replace HR166_2 := aK (Kd.C_below (pC HR166_2.out) hb); replace B142 := bB B142 hb; replace B143 := bB B143 hb; replace B165 := bB B165 hb; replace HB := bS HB hb; clear hb
  refine hK.out _ _ (cj3 B165.out ⟨HS3_, HS4_, HS5_⟩) (fun hHeld => ?_)
  clear hK K
  refine nm 155 ?_
  refine pz 5 150 [6, 6] HT_ ?_
  refine pz 6 156 [7, 5] HT_ ?_
  refine pz 7 157 [8, 4] HT_ ?_
  refine pz 8 158 [9, 3] HT_ ?_
  refine pz 9 26 [10, 2] HT_ ?_
  refine pz 10 27 [11, 1] HT_ ?_
  refine pz 11 28 [12, 0] HT_ ?_
  refine done_ (done_of HT_.out (by kernel_rfl)) ?_
  try go_wp2
  replace O2 := qdw O2; replace O3 := qdw O3; replace HO163 := rdw HO163; replace B142 := bD B142; replace B143 := bD B143; replace B165 := bD B165; replace HB := aK (below_drew1 HB.out)
  refine start_ (n := 29) (S := fun w' => True) (ds := []) (bz [0, 29]) (by kernel_rfl) rfl rfl trivial (fun hHeld => ?_); refine with_tabW laws_FnNowcast.tab28 laws_FnNowcast.bits28 (fun HT_ HW_ => ?_)
  generalize w288.drew = w289 at O2 O3 HO163 B142 B143 B165 HB hHeld ⊢
  refine pz 0 159 [1, 28] HT_ ?_
  refine pz 1 160 [2, 27] HT_ ?_
  refine pd 2 161 [3, 26] HT_ ?_
  refine pz 3 162 [4, 25] HT_ ?_
  refine pz 4 163 [5, 24] HT_ ?_
  refine pd 5 164 [6, 23] HT_ ?_
  refine pd 6 165 [7, 22] HT_ ?_
  refine pd 7 166 [8, 21] HT_ ?_
  refine pd 8 167 [9, 20] HT_ ?_
  refine pd 9 168 [10, 19] HT_ ?_
  refine pz 10 169 [11, 18] HT_ ?_
  refine pz 11 170 [12, 17] HT_ ?_
  refine pd 12 171 [13, 16] HT_ ?_
  refine pd 13 172 [14, 15] HT_ ?_
  refine pd 14 173 [15, 14] HT_ ?_
  refine pd 15 174 [16, 13] HT_ ?_
  refine pz 16 175 [17, 12] HT_ ?_
  refine pz 17 176 [18, 11] HT_ ?_
  refine pd 18 177 [19, 10] HT_ ?_
  refine pz 19 178 [20, 9] HT_ ?_
  refine pz 20 179 [21, 8] HT_ ?_
  refine pd 21 180 [22, 7] HT_ ?_
  refine pd 22 181 [23, 6] HT_ ?_
  refine pz 23 182 [24, 5] HT_ ?_
  refine pz 24 183 [25, 4] HT_ ?_
  refine pd 25 184 [26, 3] HT_ ?_
  refine pd 26 185 [27, 2] HT_ ?_
  refine pz 27 186 [28, 1] HT_ ?_
  refine pz 28 2 [29, 0] HT_ ?_
  refine done_ (done_of HT_.out (by kernel_rfl)) ?_
  try go_wp2
  go_ret
  exact ⟨er, pT HB.out⟩
 subst c138
 have H1 : (if t164 = true then ((laws_vField.f k4 t159 t160 t161 ((rd_T26 t144 0).f0) ((rd_T26 t144 0).f1) ((rd_T26 t144 0).f2)).bind fun t171 => (if t171 = true then (if (t144.length : Int) = t141 then (if t169 = true then (if t167 = 0 then (some (decide (t168 ≥ 0))) else (some false)) else (some false)) else (some false)) else (some false))) else (some false)) = some r := by rw [if_pos rfl] at H; exact H
 clear H
 have H := H1
 clear H1
 by_cases c139 : t164 = true
 rotate_left
 ·
  replace c139 := Bool.eq_false_iff.mpr c139; subst c139
  have H1 : (some false) = some r := by rw [if_neg (show ¬ (false = true) by decide)] at H; exact H
  clear H; have H := H1; clear H1
  obtain rfl := Option.some.inj H
  obtain ⟨Ao250, co250, eo250⟩ := Kd.S_slice HO_17.out; subst eo250; obtain ⟨_, _⟩ := nB N142_143; obtain ⟨_, _, _, _, _, _⟩ := bc3 B142.out; obtain ⟨_, _, _, _, _, _⟩ := bc3 B143.out
  replace HO_17 := aK (Kd.S_mono HO_17.out (fun _ h => And.intro h.2.1 (And.intro h.2.2.1 (And.intro h.2.2.2.1 h.2.2.2.2))))
  try go_wp2_with (first | ((with_reducible refine gc 14 rfl ?_); refine gl (some 141) Try.func14 #[.agg #[.int .i64 t131, .int .i64 t132, .slice Ao105 t133.length co105], .agg #[.int .i64 t136, .int .i64 t137, .slice Ao108 t138.length co108]] ?_; (with_reducible refine (impl_BestMotion.calls k4 t131 t132 _ _ t133 t136 t137 _ _ t138 t155 t156 true _ ?side1 ?side2 ?side3 ?side4 A134.out).mono ?_); (case side1 => exact pC (Kd.Q_reads' O2.out).2.2); (case side2 => exact (Kd.Q_reads' O2.out).2.1); (case side3 => exact pC (Kd.Q_reads' O3.out).2.2); (case side4 => exact (Kd.Q_reads' O3.out).2.1); rintro e w254 ⟨rfl, hb⟩; refine ⟨_, rfl, ?_⟩; replace HO_17 := sb HO_17 hb; replace O2 := qb O2 hb; replace O3 := qb O3 hb; replace B142 := bB B142 hb; replace B143 := bB B143 hb; replace HB := bS HB hb; (try clear hb)) | ((with_reducible refine ga 22 rfl ?_); (try (refine gate_guard (by rfl) ?_; dsimp only)); refine bxa #[.int .i64 0, .int .i64 0] 28 ?_; intro g158 hg w255 B158 hb; replace HO_17 := sb HO_17 hb; replace O2 := qb O2 hb; replace O3 := qb O3 hb; have GW158 := gA hg HB; obtain ⟨N142_158, N158_142⟩ := na hg B142; obtain ⟨N143_158, N158_143⟩ := na hg B143; replace B142 := bB B142 hb; replace B143 := bB B143 hb; replace HB := bS HB hb; clear hb hg; obtain ⟨_, _⟩ := nB N158_142; obtain ⟨_, _⟩ := nB N158_143; obtain ⟨_, _, _, _⟩ := bc2 B158.out; obtain ⟨_, _, _, _, _, _⟩ := bc3 B143.out) | ((with_reducible refine gc 6 rfl ?_); refine gl (some 147) Try.func6 #[.agg #[.int .i64 t136, .int .i64 t137, .slice Ao108 t138.length co108], .agg #[.int .i64 t155, .int .i64 t156]] ?_; (with_reducible refine (impl_MoveField.calls k4 t136 t137 _ _ t138 t155 t156 t159 t160 t161 false _ ?side1 ?side2 A135.out).mono ?_); (case side1 => refine (Kd.Q_reads' (e := 3) (base := w.heap.size) (ok := fun k_ => some k_ ≠ (.slice Ao105 t133.length co105 : Value).ownBlock) (n := t138.length) (c := co108) ?_).2.2; exact (pQ (qF2 O3.out B158.out (.int .i64 t155) (.int .i64 t156)))); (case side2 => exact (Kd.Q_reads' O3.out).2.1); rintro e w260 ⟨v162, rfl, ho0, hb⟩; refine ⟨_, rfl, ?_⟩; replace HO_17 := aK (Kd.S_elder' (pY ((Kd.S_mono (Kd.S_far (p := ⟨g158, 1, none⟩) (Kd.S_far (p := ⟨g158, 0, none⟩) (Kd.S_types HO_17.out B158.out (by decide)) (fun _ hk => hk.2) (.int .i64 t155)) (fun _ hk => hk.2) (.int .i64 t156)) (fun _ h_ => h_.1)))) (Kd.R_base ho0) hb); have n1_ := aK (Kd.Q_elder' (pQ (qF2 O2.out B158.out (.int .i64 t155) (.int .i64 t156))) (Kd.R_base ho0) hb); have n2_ := aK (Kd.Q_elder' (pQ (qF2 O3.out B158.out (.int .i64 t155) (.int .i64 t156))) (Kd.R_base ho0) hb); have HO163 := aK (Kd.R_lower (Kd.R_new' (Kd.R_new' ho0 (Kd.Q_lt (pQ (qF2 O2.out B158.out (.int .i64 t155) (.int .i64 t156))))) (Kd.Q_lt (pQ (qF2 O3.out B158.out (.int .i64 t155) (.int .i64 t156))))) (below_size (pS HB.out))); replace B142 := aK (blk_below (g := g142) (o := .cells #[.int .i64 t131, .int .i64 t132, .slice Ao105 t133.length co105] 26 (0, 0)) (by refine bg N142_158 ?_; refine bg N142_158 ?_; refine bk ?_; exact B142.out) hb); replace B143 := aK (blk_below (g := g143) (o := .cells #[.int .i64 t136, .int .i64 t137, .slice Ao108 t138.length co108] 26 (0, 0)) (by refine bg N143_158 ?_; refine bg N143_158 ?_; refine bk ?_; exact B143.out) hb); replace B158 := aK (blk_below (g := g158) (o := .cells #[.int .i64 t155, .int .i64 t156] 28 (0, 0)) (by refine bq #[.int .i64 t155, .int .i64 0] 1 ?_; refine bq #[.int .i64 0, .int .i64 0] 0 ?_; refine bk ?_; exact B158.out) hb); replace HB := bS HB hb; clear O2 O3; have O2 := n1_; have O3 := n2_; clear n1_ n2_; (try clear hb); (try clear ho0)) | ((with_reducible refine ga 24 rfl ?_); (try (refine gate_guard (by rfl) ?_; dsimp only)); refine bxa #[.int .i64 0, .int .i64 0, .slice none 0 0] 26 ?_; intro g165 hg w261 B165 hb; replace HO_17 := aK (Kd.S_below (Kd.S_elderB (pY HO_17.out) g165 (Nat.le_of_eq hg.symm)) hb); replace O2 := qb O2 hb; replace O3 := qb O3 hb; replace HO163 := rb HO163 hb; have GW165 := gA hg HB; obtain ⟨N142_165, N165_142⟩ := na hg B142; obtain ⟨N143_165, N165_143⟩ := na hg B143; replace B142 := bB B142 hb; replace B143 := bB B143 hb; replace HB := bS HB hb; clear hb hg; obtain ⟨_, _⟩ := nB N165_142; obtain ⟨_, _⟩ := nB N165_143; obtain ⟨_, _, _, _, _, _⟩ := bc3 B165.out; obtain ⟨Ao265, co265, eo265⟩ := Kd.R_slice HO163.out; subst eo265))
  obtain ⟨w266, e_⟩ : ∃ w_, w_ = ((w261.setCell ⟨g165, 0, none⟩ (.int .i64 t159)).setCell ⟨g165, 1, none⟩ (.int .i64 t160)).setCell ⟨g165, 2, none⟩ (.slice Ao265 t161.length co265) := ⟨_, rfl⟩
  have n0_ : Aside0 (Kd.S k26 26 w266 w.heap.size (fun k_ => some k_ ≠ (.slice Ao105 t133.length co105 : Value).ownBlock ∧ some k_ ≠ (.slice Ao108 t138.length co108 : Value).ownBlock ∧ some k_ ≠ (.slice Ao265 t161.length co265 : Value).ownBlock ∧ k_ ≠ g142 ∧ k_ ≠ g143 ∧ k_ ≠ g165) (.slice Ao250 t144.length co250) t144) := ⟨by rw [e_]; (with_reducible repeat (first | apply Kd.S_alloc | apply Kd.S_drewN | apply Kd.S_drew)); exact Kd.S_mono (Kd.S_far (p := ⟨g165, 2, none⟩) (Kd.S_far (p := ⟨g165, 1, none⟩) (Kd.S_far (p := ⟨g165, 0, none⟩) (Kd.S_mono HO_17.out (fun k_ hk => (⟨hk, hk.2⟩ : _ ∧ k_ ≠ g165))) (fun _ hk => hk.2) (.int .i64 t159)) (fun _ hk => hk.2) (.int .i64 t160)) (fun _ hk => hk.2) (.slice Ao265 t161.length co265)) (fun _ hk => ⟨hk.1.1.1.1, ⟨hk.1.1.1.2.1, ⟨hk.1.1.2, ⟨hk.1.1.1.2.2.1, ⟨hk.1.1.1.2.2.2, hk.1.2⟩⟩⟩⟩⟩)⟩
  have n1_ : Aside0 (Kd.Q (Kd.int .i64) 3 w266 w.heap.size (fun k_ => some k_ ≠ (.slice Ao108 t138.length co108 : Value).ownBlock ∧ some k_ ≠ (.slice Ao265 t161.length co265 : Value).ownBlock) (.slice Ao105 t133.length co105) t133) := ⟨by rw [e_]; (with_reducible repeat (first | apply Kd.Q_alloc | apply Kd.Q_drewN | apply Kd.Q_drew)); exact Kd.Q_mono (qF3 O2.out B165.out (.int .i64 t159) (.int .i64 t160) (.slice Ao265 t161.length co265)) (fun _ h => ⟨h.1, h.2⟩)⟩
  have n2_ : Aside0 (Kd.Q (Kd.int .i64) 3 w266 w.heap.size (fun k_ => some k_ ≠ (.slice Ao105 t133.length co105 : Value).ownBlock ∧ some k_ ≠ (.slice Ao265 t161.length co265 : Value).ownBlock) (.slice Ao108 t138.length co108) t138) := ⟨by rw [e_]; (with_reducible repeat (first | apply Kd.Q_alloc | apply Kd.Q_drewN | apply Kd.Q_drew)); exact Kd.Q_mono (qF3 O3.out B165.out (.int .i64 t159) (.int .i64 t160) (.slice Ao265 t161.length co265)) (fun _ h => ⟨h.1, h.2⟩)⟩
  have n3_ : Aside0 (Kd.R (Kd.int .i64) 3 w266 w.heap.size (fun k_ => some k_ ≠ (.slice Ao105 t133.length co105 : Value).ownBlock ∧ some k_ ≠ (.slice Ao108 t138.length co108 : Value).ownBlock) (.slice Ao265 t161.length co265) t161) := ⟨by rw [e_]; exact pR (Kd.R_mono (rF3 HO163.out B165.out (.int .i64 t159) (.int .i64 t160) (.slice Ao265 t161.length co265)) (fun _ h => ⟨h.1.2, h.2⟩))⟩
  have n4_ : Aside0 (w266.heap[g142]? = some (.cells #[.int .i64 t131, .int .i64 t132, .slice Ao105 t133.length co105] 26 (0, 0))) := ⟨by rw [e_]; refine bg N142_165 ?_; refine bg N142_165 ?_; refine bg N142_165 ?_; refine bk ?_; exact B142.out⟩
  have n5_ : Aside0 (w266.heap[g143]? = some (.cells #[.int .i64 t136, .int .i64 t137, .slice Ao108 t138.length co108] 26 (0, 0))) := ⟨by rw [e_]; refine bg N143_165 ?_; refine bg N143_165 ?_; refine bg N143_165 ?_; refine bk ?_; exact B143.out⟩
  have n6_ : Aside0 (w266.heap[g165]? = some (.cells #[.int .i64 t159, .int .i64 t160, .slice Ao265 t161.length co265] 26 (0, 0))) := ⟨by rw [e_]; refine bq #[.int .i64 t159, .int .i64 t160, .slice none 0 0] 2 ?_; refine bq #[.int .i64 t159, .int .i64 0, .slice none 0 0] 1 ?_; refine bq #[.int .i64 0, .int .i64 0, .slice none 0 0] 0 ?_; refine bk ?_; exact B165.out⟩
  have n7_ : Aside0 (Below w.heap.size w w266) := ⟨by rw [e_]; exact pT HB.out⟩
  clear HO_17 O2 O3 HO163 B142 B143 B165 HB
  (try rw [← e_]); clear e_
  have HO_17 := n0_; have O2 := n1_; have O3 := n2_; have HO163 := n3_; have B142 := n4_; have B143 := n5_; have B165 := n6_; have HB := n7_; clear n0_ n1_ n2_ n3_ n4_ n5_ n6_ n7_; replace HO_17 := sdw HO_17; replace O2 := qdw O2; replace O3 := qdw O3; replace HO163 := rdw HO163; replace B142 := bD B142; replace B143 := bD B143; replace B165 := bD B165; replace HB := aK (below_drew1 HB.out)
  have p166 : 0 ≤ (0 : Int) := (by omega)
  have q166 : 0 < (t144.length : Int) := dA
  obtain ⟨ad166, A166_2, c166_2, e166, hx166_0, hx166_1, hx166_2, hl166_2, hi166_2⟩ := at_T26 (Kd.S_reads' HO_17.out).2.2 0 p166 q166; cases e166
  obtain ⟨ce166, hce166, hMe166, hcc166⟩ := Kd.S_get HO_17.out z26 0 p166 (by first | exact q166 | exact dA | (have e_ := (Kd.S_reads' HO_17.out).1; omega))
  obtain ⟨ve166_2, rfl, ge166_2⟩ := k26_openM hMe166; have hv166_2 := hcc166 2 _ rfl
  rw [add_field _ _ 2 (by omega)] at hv166_2
  replace hv166_2 := Option.some.inj (hv166_2.symm.trans hx166_2); rw [hv166_2] at ge166_2
  have HL166_2 := aK (show Kd.R (Kd.int .i64) 3 _ _ _ _ ((rd_T26 t144 0).f2) from ge166_2)
  clear hv166_2 ge166_2 hcc166 hce166
  have qi166 : (0 < t144.length) = True := eq_true (by omega)
  (try rw [show ((0 : Int)).toNat = 0 from rfl] at hx166_0)
  (try rw [show 0 * 3 = 0 from rfl] at hx166_0)
  (try rw [Addr.add_zero'] at hx166_0)
  (try rw [show ((0 : Int)).toNat = 0 from rfl] at hx166_1)
  (try rw [show 0 * 3 = 0 from rfl] at hx166_1)
  (try rw [Addr.add_zero'] at hx166_1)
  (try rw [show ((0 : Int)).toNat = 0 from rfl] at hx166_2)
  (try rw [show 0 * 3 = 0 from rfl] at hx166_2)
  (try rw [Addr.add_zero'] at hx166_2)
  have HR166_2 := aK hi166_2; have HC166_2 := aK hl166_2; clear hi166_2 hl166_2; replace p166 := eq_true p166; replace q166 := eq_true q166
  refine start_ (n := 12) (S := fun w' => w'.cell? ⟨g165, 0, none⟩ = some (.int .i64 t159) ∧ w'.cell? ⟨g165, 1, none⟩ = some (.int .i64 t160) ∧ w'.cell? ⟨g165, 2, none⟩ = some (.slice Ao265 t161.length co265) ∧ w'.cell? ad166 = some (.int .i64 ((rd_T26 t144 0).f0)) ∧ w'.cell? ⟨ad166.block, ad166.off + 1, none⟩ = some (.int .i64 ((rd_T26 t144 0).f1)) ∧ w'.cell? ⟨ad166.block, ad166.off + 2, none⟩ = some (.slice A166_2 ((rd_T26 t144 0).f2).length c166_2)) (ds := []) (bz [0, 12]) (by kernel_rfl) rfl rfl (cj3 B165.out ⟨hx166_0, hx166_1, hx166_2⟩) (fun hHeld => ?_); refine with_tabW laws_FnNowcast.tab27 laws_FnNowcast.bits27 (fun HT_ HW_ => ?_)
  generalize w266.drew = w267 at HO_17 O2 O3 HO163 B142 B143 B165 HB HL166_2 HR166_2 hx166_0 hx166_1 hx166_2 hHeld ⊢
  refine pz 1 152 [0, 1, 1, 10] HT_ ?_
  refine pz 2 153 [0, 1, 2, 9] HT_ ?_
  refine tz 0 151 [3, 9] HT_ HW_ rfl (by rintro w' ⟨s0, s1, s2, s3, s4, s5⟩; go_simp; with_reducible rfl) hHeld ?_
  refine tz 3 154 [4, 8] HT_ HW_ rfl (by rintro w' ⟨s0, s1, s2, s3, s4, s5⟩; go_simp; with_reducible rfl) hHeld ?_
  refine oz 4 155 [5, 7] HT_ fun K hK => ?_
  refine gs Try.func15 #[.agg #[.int .i64 t159, .int .i64 t160, .slice Ao265 t161.length co265], .agg #[.int .i64 ((rd_T26 t144 0).f0), .int .i64 ((rd_T26 t144 0).f1), .slice A166_2 ((rd_T26 t144 0).f2).length c166_2]] ?_
  with_reducible refine (impl_MotionError.calls k4 t159 t160 (fun k_ => some k_ = (.slice Ao265 t161.length co265 : Value).ownBlock) _ _ t161 ((rd_T26 t144 0).f0) ((rd_T26 t144 0).f1) (fun k_ => some k_ = (.slice A166_2 ((rd_T26 t144 0).f2).length c166_2 : Value).ownBlock) _ _ ((rd_T26 t144 0).f2) t167 t168 t169 _ ?side1 ?side2 A137.out).mono ?_
  (case side1 => exact Kd.R_V (Kd.R_tight rfl (Kd.R_types (Kd.R_types (Kd.R_types (Kd.R_apart' (HO163.out) (Kd.S_typed HO_17.out) (by decide)) B142.out (by decide)) B143.out (by decide)) B165.out (by decide))))
  (case side2 => exact Kd.R_V (Kd.R_tight rfl (HL166_2.out)))
  rintro e w268 ⟨rfl, hb⟩
  have HS3_ := hs hb hHeld.2.2.2.1; have HS4_ := hs hb hHeld.2.2.2.2.1; have HS5_ := hs hb hHeld.2.2.2.2.2
  refine ⟨_, rfl, ?_⟩
  replace HO_17 := sb HO_17 hb; replace O2 := qb O2 hb; replace O3 := qb O3 hb; replace HO163 := rb HO163 hb; replace HL166_2 := rb HL166_2 hb; replace HR166_2 := aK (Kd.C_below (pC HR166_2.out) hb); replace B142 := bB B142 hb; replace B143 := bB B143 hb; replace B165 := bB B165 hb; replace HB := bS HB hb; clear hb
  refine hK.out _ _ (cj3 B165.out ⟨HS3_, HS4_, HS5_⟩) (fun hHeld => ?_)
  clear hK K
  refine nm 155 ?_
  refine pz 5 150 [6, 6] HT_ ?_
  refine pz 6 156 [7, 5] HT_ ?_
  refine pz 7 157 [8, 4] HT_ ?_
  refine pz 8 158 [9, 3] HT_ ?_
  refine pz 9 26 [10, 2] HT_ ?_
  refine pz 10 27 [11, 1] HT_ ?_
  refine pz 11 28 [12, 0] HT_ ?_
  refine done_ (done_of HT_.out (by kernel_rfl)) ?_
  try go_wp2
  replace O2 := qdw O2; replace O3 := qdw O3; replace HO163 := rdw HO163; replace B142 := bD B142; replace B143 := bD B143; replace B165 := bD B165; replace HB := aK (below_drew1 HB.out)
  refine start_ (n := 29) (S := fun w' => True) (ds := []) (bz [0, 29]) (by kernel_rfl) rfl rfl trivial (fun hHeld => ?_); refine with_tabW laws_FnNowcast.tab28 laws_FnNowcast.bits28 (fun HT_ HW_ => ?_)
  generalize w268.drew = w269 at O2 O3 HO163 B142 B143 B165 HB hHeld ⊢
  refine pz 0 159 [1, 28] HT_ ?_
  refine pz 1 160 [2, 27] HT_ ?_
  refine pz 2 161 [3, 26] HT_ ?_
  refine pz 3 162 [4, 25] HT_ ?_
  refine pz 4 163 [5, 24] HT_ ?_
  refine pd 5 164 [6, 23] HT_ ?_
  refine pd 6 165 [7, 22] HT_ ?_
  refine pd 7 166 [8, 21] HT_ ?_
  refine pd 8 167 [9, 20] HT_ ?_
  refine pd 9 168 [10, 19] HT_ ?_
  refine pz 10 169 [11, 18] HT_ ?_
  refine pz 11 170 [12, 17] HT_ ?_
  refine pd 12 171 [13, 16] HT_ ?_
  refine pd 13 172 [14, 15] HT_ ?_
  refine pd 14 173 [15, 14] HT_ ?_
  refine pd 15 174 [16, 13] HT_ ?_
  refine pz 16 175 [17, 12] HT_ ?_
  refine pz 17 176 [18, 11] HT_ ?_
  refine pd 18 177 [19, 10] HT_ ?_
  refine pz 19 178 [20, 9] HT_ ?_
  refine pz 20 179 [21, 8] HT_ ?_
  refine pd 21 180 [22, 7] HT_ ?_
  refine pd 22 181 [23, 6] HT_ ?_
  refine pz 23 182 [24, 5] HT_ ?_
  refine pz 24 183 [25, 4] HT_ ?_
  refine pd 25 184 [26, 3] HT_ ?_
  refine pd 26 185 [27, 2] HT_ ?_
  refine pz 27 186 [28, 1] HT_ ?_
  refine pz 28 2 [29, 0] HT_ ?_
  refine done_ (done_of HT_.out (by kernel_rfl)) ?_
  try go_wp2
  go_ret
  exact ⟨er, pT HB.out⟩
 subst c139
 have H1 : ((laws_vField.f k4 t159 t160 t161 ((rd_T26 t144 0).f0) ((rd_T26 t144 0).f1) ((rd_T26 t144 0).f2)).bind fun t171 => (if t171 = true then (if (t144.length : Int) = t141 then (if t169 = true then (if t167 = 0 then (some (decide (t168 ≥ 0))) else (some false)) else (some false)) else (some false)) else (some false))) = some r := by rw [if_pos rfl] at H; exact H
 clear H
 have H := H1
 clear H1
 replace H := oA H
 obtain ⟨t171, A140, H⟩ := H
 replace H : (if t171 = true then (if (t144.length : Int) = t141 then (if t169 = true then (if t167 = 0 then (some (decide (t168 ≥ 0))) else (some false)) else (some false)) else (some false)) else (some false)) = some r := H
 by_cases c141 : t171 = true
 rotate_left
 ·
  replace c141 := Bool.eq_false_iff.mpr c141; subst c141
  have H1 : (some false) = some r := by rw [if_neg (show ¬ (false = true) by decide)] at H; exact H
  clear H; have H := H1; clear H1
  obtain rfl := Option.some.inj H
  obtain ⟨Ao229, co229, eo229⟩ := Kd.S_slice HO_17.out; subst eo229; obtain ⟨_, _⟩ := nB N142_143; obtain ⟨_, _, _, _, _, _⟩ := bc3 B142.out; obtain ⟨_, _, _, _, _, _⟩ := bc3 B143.out
  replace HO_17 := aK (Kd.S_mono HO_17.out (fun _ h => And.intro h.2.1 (And.intro h.2.2.1 (And.intro h.2.2.2.1 h.2.2.2.2))))
  try go_wp2_with (first | ((with_reducible refine gc 14 rfl ?_); refine gl (some 141) Try.func14 #[.agg #[.int .i64 t131, .int .i64 t132, .slice Ao105 t133.length co105], .agg #[.int .i64 t136, .int .i64 t137, .slice Ao108 t138.length co108]] ?_; (with_reducible refine (impl_BestMotion.calls k4 t131 t132 _ _ t133 t136 t137 _ _ t138 t155 t156 true _ ?side1 ?side2 ?side3 ?side4 A134.out).mono ?_); (case side1 => exact pC (Kd.Q_reads' O2.out).2.2); (case side2 => exact (Kd.Q_reads' O2.out).2.1); (case side3 => exact pC (Kd.Q_reads' O3.out).2.2); (case side4 => exact (Kd.Q_reads' O3.out).2.1); rintro e w233 ⟨rfl, hb⟩; refine ⟨_, rfl, ?_⟩; replace HO_17 := sb HO_17 hb; replace O2 := qb O2 hb; replace O3 := qb O3 hb; replace B142 := bB B142 hb; replace B143 := bB B143 hb; replace HB := bS HB hb; (try clear hb)) | ((with_reducible refine ga 22 rfl ?_); (try (refine gate_guard (by rfl) ?_; dsimp only)); refine bxa #[.int .i64 0, .int .i64 0] 28 ?_; intro g158 hg w234 B158 hb; replace HO_17 := sb HO_17 hb; replace O2 := qb O2 hb; replace O3 := qb O3 hb; have GW158 := gA hg HB; obtain ⟨N142_158, N158_142⟩ := na hg B142; obtain ⟨N143_158, N158_143⟩ := na hg B143; replace B142 := bB B142 hb; replace B143 := bB B143 hb; replace HB := bS HB hb; clear hb hg; obtain ⟨_, _⟩ := nB N158_142; obtain ⟨_, _⟩ := nB N158_143; obtain ⟨_, _, _, _⟩ := bc2 B158.out; obtain ⟨_, _, _, _, _, _⟩ := bc3 B143.out) | ((with_reducible refine gc 6 rfl ?_); refine gl (some 147) Try.func6 #[.agg #[.int .i64 t136, .int .i64 t137, .slice Ao108 t138.length co108], .agg #[.int .i64 t155, .int .i64 t156]] ?_; (with_reducible refine (impl_MoveField.calls k4 t136 t137 _ _ t138 t155 t156 t159 t160 t161 true _ ?side1 ?side2 A135.out).mono ?_); (case side1 => refine (Kd.Q_reads' (e := 3) (base := w.heap.size) (ok := fun k_ => some k_ ≠ (.slice Ao105 t133.length co105 : Value).ownBlock) (n := t138.length) (c := co108) ?_).2.2; exact (pQ (qF2 O3.out B158.out (.int .i64 t155) (.int .i64 t156)))); (case side2 => exact (Kd.Q_reads' O3.out).2.1); rintro e w239 ⟨v162, rfl, ho0, hb⟩; refine ⟨_, rfl, ?_⟩; replace HO_17 := aK (Kd.S_elder' (pY ((Kd.S_mono (Kd.S_far (p := ⟨g158, 1, none⟩) (Kd.S_far (p := ⟨g158, 0, none⟩) (Kd.S_types HO_17.out B158.out (by decide)) (fun _ hk => hk.2) (.int .i64 t155)) (fun _ hk => hk.2) (.int .i64 t156)) (fun _ h_ => h_.1)))) (Kd.R_base ho0) hb); have n1_ := aK (Kd.Q_elder' (pQ (qF2 O2.out B158.out (.int .i64 t155) (.int .i64 t156))) (Kd.R_base ho0) hb); have n2_ := aK (Kd.Q_elder' (pQ (qF2 O3.out B158.out (.int .i64 t155) (.int .i64 t156))) (Kd.R_base ho0) hb); have HO163 := aK (Kd.R_lower (Kd.R_new' (Kd.R_new' ho0 (Kd.Q_lt (pQ (qF2 O2.out B158.out (.int .i64 t155) (.int .i64 t156))))) (Kd.Q_lt (pQ (qF2 O3.out B158.out (.int .i64 t155) (.int .i64 t156))))) (below_size (pS HB.out))); replace B142 := aK (blk_below (g := g142) (o := .cells #[.int .i64 t131, .int .i64 t132, .slice Ao105 t133.length co105] 26 (0, 0)) (by refine bg N142_158 ?_; refine bg N142_158 ?_; refine bk ?_; exact B142.out) hb); replace B143 := aK (blk_below (g := g143) (o := .cells #[.int .i64 t136, .int .i64 t137, .slice Ao108 t138.length co108] 26 (0, 0)) (by refine bg N143_158 ?_; refine bg N143_158 ?_; refine bk ?_; exact B143.out) hb); replace B158 := aK (blk_below (g := g158) (o := .cells #[.int .i64 t155, .int .i64 t156] 28 (0, 0)) (by refine bq #[.int .i64 t155, .int .i64 0] 1 ?_; refine bq #[.int .i64 0, .int .i64 0] 0 ?_; refine bk ?_; exact B158.out) hb); replace HB := bS HB hb; clear O2 O3; have O2 := n1_; have O3 := n2_; clear n1_ n2_; (try clear hb); (try clear ho0)) | ((with_reducible refine ga 24 rfl ?_); (try (refine gate_guard (by rfl) ?_; dsimp only)); refine bxa #[.int .i64 0, .int .i64 0, .slice none 0 0] 26 ?_; intro g165 hg w240 B165 hb; replace HO_17 := aK (Kd.S_below (Kd.S_elderB (pY HO_17.out) g165 (Nat.le_of_eq hg.symm)) hb); replace O2 := qb O2 hb; replace O3 := qb O3 hb; replace HO163 := rb HO163 hb; have GW165 := gA hg HB; obtain ⟨N142_165, N165_142⟩ := na hg B142; obtain ⟨N143_165, N165_143⟩ := na hg B143; replace B142 := bB B142 hb; replace B143 := bB B143 hb; replace HB := bS HB hb; clear hb hg; obtain ⟨_, _⟩ := nB N165_142; obtain ⟨_, _⟩ := nB N165_143; obtain ⟨_, _, _, _, _, _⟩ := bc3 B165.out; obtain ⟨Ao244, co244, eo244⟩ := Kd.R_slice HO163.out; subst eo244))
  obtain ⟨w245, e_⟩ : ∃ w_, w_ = ((w240.setCell ⟨g165, 0, none⟩ (.int .i64 t159)).setCell ⟨g165, 1, none⟩ (.int .i64 t160)).setCell ⟨g165, 2, none⟩ (.slice Ao244 t161.length co244) := ⟨_, rfl⟩
  have n0_ : Aside0 (Kd.S k26 26 w245 w.heap.size (fun k_ => some k_ ≠ (.slice Ao105 t133.length co105 : Value).ownBlock ∧ some k_ ≠ (.slice Ao108 t138.length co108 : Value).ownBlock ∧ some k_ ≠ (.slice Ao244 t161.length co244 : Value).ownBlock ∧ k_ ≠ g142 ∧ k_ ≠ g143 ∧ k_ ≠ g165) (.slice Ao229 t144.length co229) t144) := ⟨by rw [e_]; (with_reducible repeat (first | apply Kd.S_alloc | apply Kd.S_drewN | apply Kd.S_drew)); exact Kd.S_mono (Kd.S_far (p := ⟨g165, 2, none⟩) (Kd.S_far (p := ⟨g165, 1, none⟩) (Kd.S_far (p := ⟨g165, 0, none⟩) (Kd.S_mono HO_17.out (fun k_ hk => (⟨hk, hk.2⟩ : _ ∧ k_ ≠ g165))) (fun _ hk => hk.2) (.int .i64 t159)) (fun _ hk => hk.2) (.int .i64 t160)) (fun _ hk => hk.2) (.slice Ao244 t161.length co244)) (fun _ hk => ⟨hk.1.1.1.1, ⟨hk.1.1.1.2.1, ⟨hk.1.1.2, ⟨hk.1.1.1.2.2.1, ⟨hk.1.1.1.2.2.2, hk.1.2⟩⟩⟩⟩⟩)⟩
  have n1_ : Aside0 (Kd.Q (Kd.int .i64) 3 w245 w.heap.size (fun k_ => some k_ ≠ (.slice Ao108 t138.length co108 : Value).ownBlock ∧ some k_ ≠ (.slice Ao244 t161.length co244 : Value).ownBlock) (.slice Ao105 t133.length co105) t133) := ⟨by rw [e_]; (with_reducible repeat (first | apply Kd.Q_alloc | apply Kd.Q_drewN | apply Kd.Q_drew)); exact Kd.Q_mono (qF3 O2.out B165.out (.int .i64 t159) (.int .i64 t160) (.slice Ao244 t161.length co244)) (fun _ h => ⟨h.1, h.2⟩)⟩
  have n2_ : Aside0 (Kd.Q (Kd.int .i64) 3 w245 w.heap.size (fun k_ => some k_ ≠ (.slice Ao105 t133.length co105 : Value).ownBlock ∧ some k_ ≠ (.slice Ao244 t161.length co244 : Value).ownBlock) (.slice Ao108 t138.length co108) t138) := ⟨by rw [e_]; (with_reducible repeat (first | apply Kd.Q_alloc | apply Kd.Q_drewN | apply Kd.Q_drew)); exact Kd.Q_mono (qF3 O3.out B165.out (.int .i64 t159) (.int .i64 t160) (.slice Ao244 t161.length co244)) (fun _ h => ⟨h.1, h.2⟩)⟩
  have n3_ : Aside0 (Kd.R (Kd.int .i64) 3 w245 w.heap.size (fun k_ => some k_ ≠ (.slice Ao105 t133.length co105 : Value).ownBlock ∧ some k_ ≠ (.slice Ao108 t138.length co108 : Value).ownBlock) (.slice Ao244 t161.length co244) t161) := ⟨by rw [e_]; exact pR (Kd.R_mono (rF3 HO163.out B165.out (.int .i64 t159) (.int .i64 t160) (.slice Ao244 t161.length co244)) (fun _ h => ⟨h.1.2, h.2⟩))⟩
  have n4_ : Aside0 (w245.heap[g142]? = some (.cells #[.int .i64 t131, .int .i64 t132, .slice Ao105 t133.length co105] 26 (0, 0))) := ⟨by rw [e_]; refine bg N142_165 ?_; refine bg N142_165 ?_; refine bg N142_165 ?_; refine bk ?_; exact B142.out⟩
  have n5_ : Aside0 (w245.heap[g143]? = some (.cells #[.int .i64 t136, .int .i64 t137, .slice Ao108 t138.length co108] 26 (0, 0))) := ⟨by rw [e_]; refine bg N143_165 ?_; refine bg N143_165 ?_; refine bg N143_165 ?_; refine bk ?_; exact B143.out⟩
  have n6_ : Aside0 (w245.heap[g165]? = some (.cells #[.int .i64 t159, .int .i64 t160, .slice Ao244 t161.length co244] 26 (0, 0))) := ⟨by rw [e_]; refine bq #[.int .i64 t159, .int .i64 t160, .slice none 0 0] 2 ?_; refine bq #[.int .i64 t159, .int .i64 0, .slice none 0 0] 1 ?_; refine bq #[.int .i64 0, .int .i64 0, .slice none 0 0] 0 ?_; refine bk ?_; exact B165.out⟩
  have n7_ : Aside0 (Below w.heap.size w w245) := ⟨by rw [e_]; exact pT HB.out⟩
  clear HO_17 O2 O3 HO163 B142 B143 B165 HB
  (try rw [← e_]); clear e_
  have HO_17 := n0_; have O2 := n1_; have O3 := n2_; have HO163 := n3_; have B142 := n4_; have B143 := n5_; have B165 := n6_; have HB := n7_; clear n0_ n1_ n2_ n3_ n4_ n5_ n6_ n7_; replace HO_17 := sdw HO_17; replace O2 := qdw O2; replace O3 := qdw O3; replace HO163 := rdw HO163; replace B142 := bD B142; replace B143 := bD B143; replace B165 := bD B165; replace HB := aK (below_drew1 HB.out)
  have p166 : 0 ≤ (0 : Int) := (by omega)
  have q166 : 0 < (t144.length : Int) := dA
  obtain ⟨ad166, A166_2, c166_2, e166, hx166_0, hx166_1, hx166_2, hl166_2, hi166_2⟩ := at_T26 (Kd.S_reads' HO_17.out).2.2 0 p166 q166; cases e166
  obtain ⟨ce166, hce166, hMe166, hcc166⟩ := Kd.S_get HO_17.out z26 0 p166 (by first | exact q166 | exact dA | (have e_ := (Kd.S_reads' HO_17.out).1; omega))
  obtain ⟨ve166_2, rfl, ge166_2⟩ := k26_openM hMe166; have hv166_2 := hcc166 2 _ rfl
  rw [add_field _ _ 2 (by omega)] at hv166_2
  replace hv166_2 := Option.some.inj (hv166_2.symm.trans hx166_2); rw [hv166_2] at ge166_2
  have HL166_2 := aK (show Kd.R (Kd.int .i64) 3 _ _ _ _ ((rd_T26 t144 0).f2) from ge166_2)
  clear hv166_2 ge166_2 hcc166 hce166
  have qi166 : (0 < t144.length) = True := eq_true (by omega)
  (try rw [show ((0 : Int)).toNat = 0 from rfl] at hx166_0)
  (try rw [show 0 * 3 = 0 from rfl] at hx166_0)
  (try rw [Addr.add_zero'] at hx166_0)
  (try rw [show ((0 : Int)).toNat = 0 from rfl] at hx166_1)
  (try rw [show 0 * 3 = 0 from rfl] at hx166_1)
  (try rw [Addr.add_zero'] at hx166_1)
  (try rw [show ((0 : Int)).toNat = 0 from rfl] at hx166_2)
  (try rw [show 0 * 3 = 0 from rfl] at hx166_2)
  (try rw [Addr.add_zero'] at hx166_2)
  have HR166_2 := aK hi166_2; have HC166_2 := aK hl166_2; clear hi166_2 hl166_2; replace p166 := eq_true p166; replace q166 := eq_true q166
  refine start_ (n := 12) (S := fun w' => w'.cell? ⟨g165, 0, none⟩ = some (.int .i64 t159) ∧ w'.cell? ⟨g165, 1, none⟩ = some (.int .i64 t160) ∧ w'.cell? ⟨g165, 2, none⟩ = some (.slice Ao244 t161.length co244) ∧ w'.cell? ad166 = some (.int .i64 ((rd_T26 t144 0).f0)) ∧ w'.cell? ⟨ad166.block, ad166.off + 1, none⟩ = some (.int .i64 ((rd_T26 t144 0).f1)) ∧ w'.cell? ⟨ad166.block, ad166.off + 2, none⟩ = some (.slice A166_2 ((rd_T26 t144 0).f2).length c166_2)) (ds := []) (bz [0, 12]) (by kernel_rfl) rfl rfl (cj3 B165.out ⟨hx166_0, hx166_1, hx166_2⟩) (fun hHeld => ?_); refine with_tabW laws_FnNowcast.tab27 laws_FnNowcast.bits27 (fun HT_ HW_ => ?_)
  generalize w245.drew = w246 at HO_17 O2 O3 HO163 B142 B143 B165 HB HL166_2 HR166_2 hx166_0 hx166_1 hx166_2 hHeld ⊢
  refine pz 1 152 [0, 1, 1, 10] HT_ ?_
  refine pz 2 153 [0, 1, 2, 9] HT_ ?_
  refine tz 0 151 [3, 9] HT_ HW_ rfl (by rintro w' ⟨s0, s1, s2, s3, s4, s5⟩; go_simp; with_reducible rfl) hHeld ?_
  refine tz 3 154 [4, 8] HT_ HW_ rfl (by rintro w' ⟨s0, s1, s2, s3, s4, s5⟩; go_simp; with_reducible rfl) hHeld ?_
  refine oz 4 155 [5, 7] HT_ fun K hK => ?_
  refine gs Try.func15 #[.agg #[.int .i64 t159, .int .i64 t160, .slice Ao244 t161.length co244], .agg #[.int .i64 ((rd_T26 t144 0).f0), .int .i64 ((rd_T26 t144 0).f1), .slice A166_2 ((rd_T26 t144 0).f2).length c166_2]] ?_
  with_reducible refine (impl_MotionError.calls k4 t159 t160 (fun k_ => some k_ = (.slice Ao244 t161.length co244 : Value).ownBlock) _ _ t161 ((rd_T26 t144 0).f0) ((rd_T26 t144 0).f1) (fun k_ => some k_ = (.slice A166_2 ((rd_T26 t144 0).f2).length c166_2 : Value).ownBlock) _ _ ((rd_T26 t144 0).f2) t167 t168 t169 _ ?side1 ?side2 A137.out).mono ?_
  (case side1 => exact Kd.R_V (Kd.R_tight rfl (Kd.R_types (Kd.R_types (Kd.R_types (Kd.R_apart' (HO163.out) (Kd.S_typed HO_17.out) (by decide)) B142.out (by decide)) B143.out (by decide)) B165.out (by decide))))
  (case side2 => exact Kd.R_V (Kd.R_tight rfl (HL166_2.out)))
  rintro e w247 ⟨rfl, hb⟩
  have HS3_ := hs hb hHeld.2.2.2.1; have HS4_ := hs hb hHeld.2.2.2.2.1; have HS5_ := hs hb hHeld.2.2.2.2.2
  refine ⟨_, rfl, ?_⟩
  replace HO_17 := sb HO_17 hb; replace O2 := qb O2 hb; replace O3 := qb O3 hb; replace HO163 := rb HO163 hb; replace HL166_2 := rb HL166_2 hb; replace HR166_2 := aK (Kd.C_below (pC HR166_2.out) hb); replace B142 := bB B142 hb; replace B143 := bB B143 hb; replace B165 := bB B165 hb; replace HB := bS HB hb; clear hb
  refine hK.out _ _ (cj3 B165.out ⟨HS3_, HS4_, HS5_⟩) (fun hHeld => ?_)
  clear hK K
  refine nm 155 ?_
  refine pz 5 150 [6, 6] HT_ ?_
  refine pz 6 156 [7, 5] HT_ ?_
  refine pz 7 157 [8, 4] HT_ ?_
  refine pz 8 158 [9, 3] HT_ ?_
  refine pz 9 26 [10, 2] HT_ ?_
  refine pz 10 27 [11, 1] HT_ ?_
  refine pz 11 28 [12, 0] HT_ ?_
  refine done_ (done_of HT_.out (by kernel_rfl)) ?_
  try go_wp2
  replace HO_17 := sdw HO_17; replace O2 := qdw O2; replace O3 := qdw O3; replace HO163 := rdw HO163; replace B142 := bD B142; replace B143 := bD B143; replace B165 := bD B165; replace HB := aK (below_drew1 HB.out)
  have p170 : 0 ≤ (0 : Int) := (by omega)
  have q170 : 0 < (t144.length : Int) := dA
  obtain ⟨ad170, A170_2, c170_2, e170, hx170_0, hx170_1, hx170_2, hl170_2, hi170_2⟩ := at_T26 (Kd.S_reads' HO_17.out).2.2 0 p170 q170
  obtain rfl : ad166 = ad170 := (by injection e170)
  obtain ⟨ce170, hce170, hMe170, hcc170⟩ := Kd.S_get HO_17.out z26 0 p170 (by first | exact q170 | exact dA | (have e_ := (Kd.S_reads' HO_17.out).1; omega))
  obtain ⟨ve170_2, rfl, ge170_2⟩ := k26_openM hMe170; have hv170_2 := hcc170 2 _ rfl
  rw [add_field _ _ 2 (by omega)] at hv170_2
  replace hv170_2 := Option.some.inj (hv170_2.symm.trans hx170_2); rw [hv170_2] at ge170_2
  have HL170_2 := aK (show Kd.R (Kd.int .i64) 3 _ _ _ _ ((rd_T26 t144 0).f2) from ge170_2)
  clear hv170_2 ge170_2 hcc170 hce170
  have qi170 : (0 < t144.length) = True := eq_true (by omega)
  (try rw [show ((0 : Int)).toNat = 0 from rfl] at hx170_0)
  (try rw [show 0 * 3 = 0 from rfl] at hx170_0)
  (try rw [Addr.add_zero'] at hx170_0)
  (try rw [show ((0 : Int)).toNat = 0 from rfl] at hx170_1)
  (try rw [show 0 * 3 = 0 from rfl] at hx170_1)
  (try rw [Addr.add_zero'] at hx170_1)
  (try rw [show ((0 : Int)).toNat = 0 from rfl] at hx170_2)
  (try rw [show 0 * 3 = 0 from rfl] at hx170_2)
  (try rw [Addr.add_zero'] at hx170_2)
  have HR170_2 := aK hi170_2; have HC170_2 := aK hl170_2; clear hi170_2 hl170_2; replace p170 := eq_true p170; replace q170 := eq_true q170
  refine start_ (n := 29) (S := fun w' => w'.cell? ⟨g165, 0, none⟩ = some (.int .i64 t159) ∧ w'.cell? ⟨g165, 1, none⟩ = some (.int .i64 t160) ∧ w'.cell? ⟨g165, 2, none⟩ = some (.slice Ao244 t161.length co244) ∧ w'.cell? ad166 = some (.int .i64 ((rd_T26 t144 0).f0)) ∧ w'.cell? ⟨ad166.block, ad166.off + 1, none⟩ = some (.int .i64 ((rd_T26 t144 0).f1)) ∧ w'.cell? ⟨ad166.block, ad166.off + 2, none⟩ = some (.slice A170_2 ((rd_T26 t144 0).f2).length c170_2)) (ds := []) (bz [0, 29]) (by kernel_rfl) rfl rfl (cj3 B165.out ⟨hx170_0, hx170_1, hx170_2⟩) (fun hHeld => ?_); refine with_tabW laws_FnNowcast.tab28 laws_FnNowcast.bits28 (fun HT_ HW_ => ?_)
  generalize w247.drew = w248 at HO_17 O2 O3 HO163 B142 B143 B165 HB HL170_2 HR170_2 hx170_0 hx170_1 hx170_2 hHeld ⊢
  refine pz 0 159 [1, 28] HT_ ?_
  refine pz 1 160 [2, 27] HT_ ?_
  refine pz 2 161 [3, 26] HT_ ?_
  refine pz 3 162 [4, 25] HT_ ?_
  refine pz 4 163 [5, 24] HT_ ?_
  refine pz 6 165 [5, 1, 1, 22] HT_ ?_
  refine pz 7 166 [5, 1, 2, 21] HT_ ?_
  refine tz 5 164 [8, 21] HT_ HW_ rfl (by rintro w' ⟨s0, s1, s2, s3, s4, s5⟩; go_simp; with_reducible rfl) hHeld ?_
  refine tz 8 167 [9, 20] HT_ HW_ rfl (by rintro w' ⟨s0, s1, s2, s3, s4, s5⟩; go_simp; with_reducible rfl) hHeld ?_
  refine oz 9 168 [10, 19] HT_ fun K hK => ?_
  refine gs Try.func8 #[.agg #[.int .i64 t159, .int .i64 t160, .slice Ao244 t161.length co244], .agg #[.int .i64 ((rd_T26 t144 0).f0), .int .i64 ((rd_T26 t144 0).f1), .slice A170_2 ((rd_T26 t144 0).f2).length c170_2]] ?_
  with_reducible refine (laws_vField.calls k4 t159 t160 _ _ t161 ((rd_T26 t144 0).f0) ((rd_T26 t144 0).f1) _ _ ((rd_T26 t144 0).f2) false _ ?side1 ?side2 ?side3 ?side4 A140.out).mono ?_
  (case side1 => exact pC (Kd.R_reads' HO163.out).2.2)
  (case side2 => exact (Kd.R_reads' HO163.out).2.1)
  (case side3 => repeat (first | exact (pC HR170_2.out) | (with_reducible refine Kd.C_alloc ?_ _) | (with_reducible refine Kd.C_drewN ?_ _) | (with_reducible refine Kd.C_drew ?_)))
  (case side4 => exact HC170_2.out)
  rintro e w249 ⟨rfl, hb⟩
  have HS3_ := hs hb hHeld.2.2.2.1; have HS4_ := hs hb hHeld.2.2.2.2.1; have HS5_ := hs hb hHeld.2.2.2.2.2
  refine ⟨_, rfl, ?_⟩
  replace HO_17 := sb HO_17 hb; replace O2 := qb O2 hb; replace O3 := qb O3 hb; replace HO163 := rb HO163 hb; replace HL170_2 := rb HL170_2 hb; replace HR170_2 := aK (Kd.C_below (pC HR170_2.out) hb); replace B142 := bB B142 hb; replace B143 := bB B143 hb; replace B165 := bB B165 hb; replace HB := bS HB hb; clear hb
  refine hK.out _ _ (cj3 B165.out ⟨HS3_, HS4_, HS5_⟩) (fun hHeld => ?_)
  clear hK K
  refine nm 168 ?_
  refine pz 10 169 [11, 18] HT_ ?_
  refine pz 11 170 [12, 17] HT_ ?_
  refine pd 12 171 [13, 16] HT_ ?_
  refine pd 13 172 [14, 15] HT_ ?_
  refine pd 14 173 [15, 14] HT_ ?_
  refine pd 15 174 [16, 13] HT_ ?_
  refine pz 16 175 [17, 12] HT_ ?_
  refine pz 17 176 [18, 11] HT_ ?_
  refine pd 18 177 [19, 10] HT_ ?_
  refine pz 19 178 [20, 9] HT_ ?_
  refine pz 20 179 [21, 8] HT_ ?_
  refine pd 21 180 [22, 7] HT_ ?_
  refine pd 22 181 [23, 6] HT_ ?_
  refine pz 23 182 [24, 5] HT_ ?_
  refine pz 24 183 [25, 4] HT_ ?_
  refine pd 25 184 [26, 3] HT_ ?_
  refine pd 26 185 [27, 2] HT_ ?_
  refine pz 27 186 [28, 1] HT_ ?_
  refine pz 28 2 [29, 0] HT_ ?_
  refine done_ (done_of HT_.out (by kernel_rfl)) ?_
  try go_wp2
  go_ret
  exact ⟨er, pT HB.out⟩
 subst c141
 have H1 : (if (t144.length : Int) = t141 then (if t169 = true then (if t167 = 0 then (some (decide (t168 ≥ 0))) else (some false)) else (some false)) else (some false)) = some r := by rw [if_pos rfl] at H; exact H
 clear H
 have H := H1
 clear H1
 by_cases c142 : (t144.length : Int) = t141
 rotate_left
 ·
  rw [if_neg c142] at H
  have c142b0 : ((t144.length : Int) == t141) = false := beq_eq_false_iff_ne.mpr c142
  have c142b1 : ((t144.length : Int) != t141) = true := bne_iff_ne.mpr c142
  obtain rfl := Option.some.inj H
  obtain ⟨Ao208, co208, eo208⟩ := Kd.S_slice HO_17.out; subst eo208; obtain ⟨_, _⟩ := nB N142_143; obtain ⟨_, _, _, _, _, _⟩ := bc3 B142.out; obtain ⟨_, _, _, _, _, _⟩ := bc3 B143.out
  replace HO_17 := aK (Kd.S_mono HO_17.out (fun _ h => And.intro h.2.1 (And.intro h.2.2.1 (And.intro h.2.2.2.1 h.2.2.2.2))))
  try go_wp2_with (first | ((with_reducible refine gc 14 rfl ?_); refine gl (some 141) Try.func14 #[.agg #[.int .i64 t131, .int .i64 t132, .slice Ao105 t133.length co105], .agg #[.int .i64 t136, .int .i64 t137, .slice Ao108 t138.length co108]] ?_; (with_reducible refine (impl_BestMotion.calls k4 t131 t132 _ _ t133 t136 t137 _ _ t138 t155 t156 true _ ?side1 ?side2 ?side3 ?side4 A134.out).mono ?_); (case side1 => exact pC (Kd.Q_reads' O2.out).2.2); (case side2 => exact (Kd.Q_reads' O2.out).2.1); (case side3 => exact pC (Kd.Q_reads' O3.out).2.2); (case side4 => exact (Kd.Q_reads' O3.out).2.1); rintro e w212 ⟨rfl, hb⟩; refine ⟨_, rfl, ?_⟩; replace HO_17 := sb HO_17 hb; replace O2 := qb O2 hb; replace O3 := qb O3 hb; replace B142 := bB B142 hb; replace B143 := bB B143 hb; replace HB := bS HB hb; (try clear hb)) | ((with_reducible refine ga 22 rfl ?_); (try (refine gate_guard (by rfl) ?_; dsimp only)); refine bxa #[.int .i64 0, .int .i64 0] 28 ?_; intro g158 hg w213 B158 hb; replace HO_17 := sb HO_17 hb; replace O2 := qb O2 hb; replace O3 := qb O3 hb; have GW158 := gA hg HB; obtain ⟨N142_158, N158_142⟩ := na hg B142; obtain ⟨N143_158, N158_143⟩ := na hg B143; replace B142 := bB B142 hb; replace B143 := bB B143 hb; replace HB := bS HB hb; clear hb hg; obtain ⟨_, _⟩ := nB N158_142; obtain ⟨_, _⟩ := nB N158_143; obtain ⟨_, _, _, _⟩ := bc2 B158.out; obtain ⟨_, _, _, _, _, _⟩ := bc3 B143.out) | ((with_reducible refine gc 6 rfl ?_); refine gl (some 147) Try.func6 #[.agg #[.int .i64 t136, .int .i64 t137, .slice Ao108 t138.length co108], .agg #[.int .i64 t155, .int .i64 t156]] ?_; (with_reducible refine (impl_MoveField.calls k4 t136 t137 _ _ t138 t155 t156 t159 t160 t161 true _ ?side1 ?side2 A135.out).mono ?_); (case side1 => refine (Kd.Q_reads' (e := 3) (base := w.heap.size) (ok := fun k_ => some k_ ≠ (.slice Ao105 t133.length co105 : Value).ownBlock) (n := t138.length) (c := co108) ?_).2.2; exact (pQ (qF2 O3.out B158.out (.int .i64 t155) (.int .i64 t156)))); (case side2 => exact (Kd.Q_reads' O3.out).2.1); rintro e w218 ⟨v162, rfl, ho0, hb⟩; refine ⟨_, rfl, ?_⟩; replace HO_17 := aK (Kd.S_elder' (pY ((Kd.S_mono (Kd.S_far (p := ⟨g158, 1, none⟩) (Kd.S_far (p := ⟨g158, 0, none⟩) (Kd.S_types HO_17.out B158.out (by decide)) (fun _ hk => hk.2) (.int .i64 t155)) (fun _ hk => hk.2) (.int .i64 t156)) (fun _ h_ => h_.1)))) (Kd.R_base ho0) hb); have n1_ := aK (Kd.Q_elder' (pQ (qF2 O2.out B158.out (.int .i64 t155) (.int .i64 t156))) (Kd.R_base ho0) hb); have n2_ := aK (Kd.Q_elder' (pQ (qF2 O3.out B158.out (.int .i64 t155) (.int .i64 t156))) (Kd.R_base ho0) hb); have HO163 := aK (Kd.R_lower (Kd.R_new' (Kd.R_new' ho0 (Kd.Q_lt (pQ (qF2 O2.out B158.out (.int .i64 t155) (.int .i64 t156))))) (Kd.Q_lt (pQ (qF2 O3.out B158.out (.int .i64 t155) (.int .i64 t156))))) (below_size (pS HB.out))); replace B142 := aK (blk_below (g := g142) (o := .cells #[.int .i64 t131, .int .i64 t132, .slice Ao105 t133.length co105] 26 (0, 0)) (by refine bg N142_158 ?_; refine bg N142_158 ?_; refine bk ?_; exact B142.out) hb); replace B143 := aK (blk_below (g := g143) (o := .cells #[.int .i64 t136, .int .i64 t137, .slice Ao108 t138.length co108] 26 (0, 0)) (by refine bg N143_158 ?_; refine bg N143_158 ?_; refine bk ?_; exact B143.out) hb); replace B158 := aK (blk_below (g := g158) (o := .cells #[.int .i64 t155, .int .i64 t156] 28 (0, 0)) (by refine bq #[.int .i64 t155, .int .i64 0] 1 ?_; refine bq #[.int .i64 0, .int .i64 0] 0 ?_; refine bk ?_; exact B158.out) hb); replace HB := bS HB hb; clear O2 O3; have O2 := n1_; have O3 := n2_; clear n1_ n2_; (try clear hb); (try clear ho0)) | ((with_reducible refine ga 24 rfl ?_); (try (refine gate_guard (by rfl) ?_; dsimp only)); refine bxa #[.int .i64 0, .int .i64 0, .slice none 0 0] 26 ?_; intro g165 hg w219 B165 hb; replace HO_17 := aK (Kd.S_below (Kd.S_elderB (pY HO_17.out) g165 (Nat.le_of_eq hg.symm)) hb); replace O2 := qb O2 hb; replace O3 := qb O3 hb; replace HO163 := rb HO163 hb; have GW165 := gA hg HB; obtain ⟨N142_165, N165_142⟩ := na hg B142; obtain ⟨N143_165, N165_143⟩ := na hg B143; replace B142 := bB B142 hb; replace B143 := bB B143 hb; replace HB := bS HB hb; clear hb hg; obtain ⟨_, _⟩ := nB N165_142; obtain ⟨_, _⟩ := nB N165_143; obtain ⟨_, _, _, _, _, _⟩ := bc3 B165.out; obtain ⟨Ao223, co223, eo223⟩ := Kd.R_slice HO163.out; subst eo223))
  obtain ⟨w224, e_⟩ : ∃ w_, w_ = ((w219.setCell ⟨g165, 0, none⟩ (.int .i64 t159)).setCell ⟨g165, 1, none⟩ (.int .i64 t160)).setCell ⟨g165, 2, none⟩ (.slice Ao223 t161.length co223) := ⟨_, rfl⟩
  have n0_ : Aside0 (Kd.S k26 26 w224 w.heap.size (fun k_ => some k_ ≠ (.slice Ao105 t133.length co105 : Value).ownBlock ∧ some k_ ≠ (.slice Ao108 t138.length co108 : Value).ownBlock ∧ some k_ ≠ (.slice Ao223 t161.length co223 : Value).ownBlock ∧ k_ ≠ g142 ∧ k_ ≠ g143 ∧ k_ ≠ g165) (.slice Ao208 t144.length co208) t144) := ⟨by rw [e_]; (with_reducible repeat (first | apply Kd.S_alloc | apply Kd.S_drewN | apply Kd.S_drew)); exact Kd.S_mono (Kd.S_far (p := ⟨g165, 2, none⟩) (Kd.S_far (p := ⟨g165, 1, none⟩) (Kd.S_far (p := ⟨g165, 0, none⟩) (Kd.S_mono HO_17.out (fun k_ hk => (⟨hk, hk.2⟩ : _ ∧ k_ ≠ g165))) (fun _ hk => hk.2) (.int .i64 t159)) (fun _ hk => hk.2) (.int .i64 t160)) (fun _ hk => hk.2) (.slice Ao223 t161.length co223)) (fun _ hk => ⟨hk.1.1.1.1, ⟨hk.1.1.1.2.1, ⟨hk.1.1.2, ⟨hk.1.1.1.2.2.1, ⟨hk.1.1.1.2.2.2, hk.1.2⟩⟩⟩⟩⟩)⟩
  have n1_ : Aside0 (Kd.Q (Kd.int .i64) 3 w224 w.heap.size (fun k_ => some k_ ≠ (.slice Ao108 t138.length co108 : Value).ownBlock ∧ some k_ ≠ (.slice Ao223 t161.length co223 : Value).ownBlock) (.slice Ao105 t133.length co105) t133) := ⟨by rw [e_]; (with_reducible repeat (first | apply Kd.Q_alloc | apply Kd.Q_drewN | apply Kd.Q_drew)); exact Kd.Q_mono (qF3 O2.out B165.out (.int .i64 t159) (.int .i64 t160) (.slice Ao223 t161.length co223)) (fun _ h => ⟨h.1, h.2⟩)⟩
  have n2_ : Aside0 (Kd.Q (Kd.int .i64) 3 w224 w.heap.size (fun k_ => some k_ ≠ (.slice Ao105 t133.length co105 : Value).ownBlock ∧ some k_ ≠ (.slice Ao223 t161.length co223 : Value).ownBlock) (.slice Ao108 t138.length co108) t138) := ⟨by rw [e_]; (with_reducible repeat (first | apply Kd.Q_alloc | apply Kd.Q_drewN | apply Kd.Q_drew)); exact Kd.Q_mono (qF3 O3.out B165.out (.int .i64 t159) (.int .i64 t160) (.slice Ao223 t161.length co223)) (fun _ h => ⟨h.1, h.2⟩)⟩
  have n3_ : Aside0 (Kd.R (Kd.int .i64) 3 w224 w.heap.size (fun k_ => some k_ ≠ (.slice Ao105 t133.length co105 : Value).ownBlock ∧ some k_ ≠ (.slice Ao108 t138.length co108 : Value).ownBlock) (.slice Ao223 t161.length co223) t161) := ⟨by rw [e_]; exact pR (Kd.R_mono (rF3 HO163.out B165.out (.int .i64 t159) (.int .i64 t160) (.slice Ao223 t161.length co223)) (fun _ h => ⟨h.1.2, h.2⟩))⟩
  have n4_ : Aside0 (w224.heap[g142]? = some (.cells #[.int .i64 t131, .int .i64 t132, .slice Ao105 t133.length co105] 26 (0, 0))) := ⟨by rw [e_]; refine bg N142_165 ?_; refine bg N142_165 ?_; refine bg N142_165 ?_; refine bk ?_; exact B142.out⟩
  have n5_ : Aside0 (w224.heap[g143]? = some (.cells #[.int .i64 t136, .int .i64 t137, .slice Ao108 t138.length co108] 26 (0, 0))) := ⟨by rw [e_]; refine bg N143_165 ?_; refine bg N143_165 ?_; refine bg N143_165 ?_; refine bk ?_; exact B143.out⟩
  have n6_ : Aside0 (w224.heap[g165]? = some (.cells #[.int .i64 t159, .int .i64 t160, .slice Ao223 t161.length co223] 26 (0, 0))) := ⟨by rw [e_]; refine bq #[.int .i64 t159, .int .i64 t160, .slice none 0 0] 2 ?_; refine bq #[.int .i64 t159, .int .i64 0, .slice none 0 0] 1 ?_; refine bq #[.int .i64 0, .int .i64 0, .slice none 0 0] 0 ?_; refine bk ?_; exact B165.out⟩
  have n7_ : Aside0 (Below w.heap.size w w224) := ⟨by rw [e_]; exact pT HB.out⟩
  clear HO_17 O2 O3 HO163 B142 B143 B165 HB
  (try rw [← e_]); clear e_
  have HO_17 := n0_; have O2 := n1_; have O3 := n2_; have HO163 := n3_; have B142 := n4_; have B143 := n5_; have B165 := n6_; have HB := n7_; clear n0_ n1_ n2_ n3_ n4_ n5_ n6_ n7_; replace HO_17 := sdw HO_17; replace O2 := qdw O2; replace O3 := qdw O3; replace HO163 := rdw HO163; replace B142 := bD B142; replace B143 := bD B143; replace B165 := bD B165; replace HB := aK (below_drew1 HB.out)
  have p166 : 0 ≤ (0 : Int) := (by omega)
  have q166 : 0 < (t144.length : Int) := dA
  obtain ⟨ad166, A166_2, c166_2, e166, hx166_0, hx166_1, hx166_2, hl166_2, hi166_2⟩ := at_T26 (Kd.S_reads' HO_17.out).2.2 0 p166 q166; cases e166
  obtain ⟨ce166, hce166, hMe166, hcc166⟩ := Kd.S_get HO_17.out z26 0 p166 (by first | exact q166 | exact dA | (have e_ := (Kd.S_reads' HO_17.out).1; omega))
  obtain ⟨ve166_2, rfl, ge166_2⟩ := k26_openM hMe166; have hv166_2 := hcc166 2 _ rfl
  rw [add_field _ _ 2 (by omega)] at hv166_2
  replace hv166_2 := Option.some.inj (hv166_2.symm.trans hx166_2); rw [hv166_2] at ge166_2
  have HL166_2 := aK (show Kd.R (Kd.int .i64) 3 _ _ _ _ ((rd_T26 t144 0).f2) from ge166_2)
  clear hv166_2 ge166_2 hcc166 hce166
  have qi166 : (0 < t144.length) = True := eq_true (by omega)
  (try rw [show ((0 : Int)).toNat = 0 from rfl] at hx166_0)
  (try rw [show 0 * 3 = 0 from rfl] at hx166_0)
  (try rw [Addr.add_zero'] at hx166_0)
  (try rw [show ((0 : Int)).toNat = 0 from rfl] at hx166_1)
  (try rw [show 0 * 3 = 0 from rfl] at hx166_1)
  (try rw [Addr.add_zero'] at hx166_1)
  (try rw [show ((0 : Int)).toNat = 0 from rfl] at hx166_2)
  (try rw [show 0 * 3 = 0 from rfl] at hx166_2)
  (try rw [Addr.add_zero'] at hx166_2)
  have HR166_2 := aK hi166_2; have HC166_2 := aK hl166_2; clear hi166_2 hl166_2; replace p166 := eq_true p166; replace q166 := eq_true q166
  refine start_ (n := 12) (S := fun w' => w'.cell? ⟨g165, 0, none⟩ = some (.int .i64 t159) ∧ w'.cell? ⟨g165, 1, none⟩ = some (.int .i64 t160) ∧ w'.cell? ⟨g165, 2, none⟩ = some (.slice Ao223 t161.length co223) ∧ w'.cell? ad166 = some (.int .i64 ((rd_T26 t144 0).f0)) ∧ w'.cell? ⟨ad166.block, ad166.off + 1, none⟩ = some (.int .i64 ((rd_T26 t144 0).f1)) ∧ w'.cell? ⟨ad166.block, ad166.off + 2, none⟩ = some (.slice A166_2 ((rd_T26 t144 0).f2).length c166_2)) (ds := []) (bz [0, 12]) (by kernel_rfl) rfl rfl (cj3 B165.out ⟨hx166_0, hx166_1, hx166_2⟩) (fun hHeld => ?_); refine with_tabW laws_FnNowcast.tab27 laws_FnNowcast.bits27 (fun HT_ HW_ => ?_)
  generalize w224.drew = w225 at HO_17 O2 O3 HO163 B142 B143 B165 HB HL166_2 HR166_2 hx166_0 hx166_1 hx166_2 hHeld ⊢
  refine pz 1 152 [0, 1, 1, 10] HT_ ?_
  refine pz 2 153 [0, 1, 2, 9] HT_ ?_
  refine tz 0 151 [3, 9] HT_ HW_ rfl (by rintro w' ⟨s0, s1, s2, s3, s4, s5⟩; go_simp; with_reducible rfl) hHeld ?_
  refine tz 3 154 [4, 8] HT_ HW_ rfl (by rintro w' ⟨s0, s1, s2, s3, s4, s5⟩; go_simp; with_reducible rfl) hHeld ?_
  refine oz 4 155 [5, 7] HT_ fun K hK => ?_
  refine gs Try.func15 #[.agg #[.int .i64 t159, .int .i64 t160, .slice Ao223 t161.length co223], .agg #[.int .i64 ((rd_T26 t144 0).f0), .int .i64 ((rd_T26 t144 0).f1), .slice A166_2 ((rd_T26 t144 0).f2).length c166_2]] ?_
  with_reducible refine (impl_MotionError.calls k4 t159 t160 (fun k_ => some k_ = (.slice Ao223 t161.length co223 : Value).ownBlock) _ _ t161 ((rd_T26 t144 0).f0) ((rd_T26 t144 0).f1) (fun k_ => some k_ = (.slice A166_2 ((rd_T26 t144 0).f2).length c166_2 : Value).ownBlock) _ _ ((rd_T26 t144 0).f2) t167 t168 t169 _ ?side1 ?side2 A137.out).mono ?_
  (case side1 => exact Kd.R_V (Kd.R_tight rfl (Kd.R_types (Kd.R_types (Kd.R_types (Kd.R_apart' (HO163.out) (Kd.S_typed HO_17.out) (by decide)) B142.out (by decide)) B143.out (by decide)) B165.out (by decide))))
  (case side2 => exact Kd.R_V (Kd.R_tight rfl (HL166_2.out)))
  rintro e w226 ⟨rfl, hb⟩
  have HS3_ := hs hb hHeld.2.2.2.1; have HS4_ := hs hb hHeld.2.2.2.2.1; have HS5_ := hs hb hHeld.2.2.2.2.2
  refine ⟨_, rfl, ?_⟩
  replace HO_17 := sb HO_17 hb; replace O2 := qb O2 hb; replace O3 := qb O3 hb; replace HO163 := rb HO163 hb; replace HL166_2 := rb HL166_2 hb; replace HR166_2 := aK (Kd.C_below (pC HR166_2.out) hb); replace B142 := bB B142 hb; replace B143 := bB B143 hb; replace B165 := bB B165 hb; replace HB := bS HB hb; clear hb
  refine hK.out _ _ (cj3 B165.out ⟨HS3_, HS4_, HS5_⟩) (fun hHeld => ?_)
  clear hK K
  refine nm 155 ?_
  refine pz 5 150 [6, 6] HT_ ?_
  refine pz 6 156 [7, 5] HT_ ?_
  refine pz 7 157 [8, 4] HT_ ?_
  refine pz 8 158 [9, 3] HT_ ?_
  refine pz 9 26 [10, 2] HT_ ?_
  refine pz 10 27 [11, 1] HT_ ?_
  refine pz 11 28 [12, 0] HT_ ?_
  refine done_ (done_of HT_.out (by kernel_rfl)) ?_
  try go_wp2
  replace HO_17 := sdw HO_17; replace O2 := qdw O2; replace O3 := qdw O3; replace HO163 := rdw HO163; replace B142 := bD B142; replace B143 := bD B143; replace B165 := bD B165; replace HB := aK (below_drew1 HB.out)
  have p170 : 0 ≤ (0 : Int) := (by omega)
  have q170 : 0 < (t144.length : Int) := dA
  obtain ⟨ad170, A170_2, c170_2, e170, hx170_0, hx170_1, hx170_2, hl170_2, hi170_2⟩ := at_T26 (Kd.S_reads' HO_17.out).2.2 0 p170 q170
  obtain rfl : ad166 = ad170 := (by injection e170)
  obtain ⟨ce170, hce170, hMe170, hcc170⟩ := Kd.S_get HO_17.out z26 0 p170 (by first | exact q170 | exact dA | (have e_ := (Kd.S_reads' HO_17.out).1; omega))
  obtain ⟨ve170_2, rfl, ge170_2⟩ := k26_openM hMe170; have hv170_2 := hcc170 2 _ rfl
  rw [add_field _ _ 2 (by omega)] at hv170_2
  replace hv170_2 := Option.some.inj (hv170_2.symm.trans hx170_2); rw [hv170_2] at ge170_2
  have HL170_2 := aK (show Kd.R (Kd.int .i64) 3 _ _ _ _ ((rd_T26 t144 0).f2) from ge170_2)
  clear hv170_2 ge170_2 hcc170 hce170
  have qi170 : (0 < t144.length) = True := eq_true (by omega)
  (try rw [show ((0 : Int)).toNat = 0 from rfl] at hx170_0)
  (try rw [show 0 * 3 = 0 from rfl] at hx170_0)
  (try rw [Addr.add_zero'] at hx170_0)
  (try rw [show ((0 : Int)).toNat = 0 from rfl] at hx170_1)
  (try rw [show 0 * 3 = 0 from rfl] at hx170_1)
  (try rw [Addr.add_zero'] at hx170_1)
  (try rw [show ((0 : Int)).toNat = 0 from rfl] at hx170_2)
  (try rw [show 0 * 3 = 0 from rfl] at hx170_2)
  (try rw [Addr.add_zero'] at hx170_2)
  have HR170_2 := aK hi170_2; have HC170_2 := aK hl170_2; clear hi170_2 hl170_2; replace p170 := eq_true p170; replace q170 := eq_true q170
  refine start_ (n := 29) (S := fun w' => w'.cell? ⟨g165, 0, none⟩ = some (.int .i64 t159) ∧ w'.cell? ⟨g165, 1, none⟩ = some (.int .i64 t160) ∧ w'.cell? ⟨g165, 2, none⟩ = some (.slice Ao223 t161.length co223) ∧ w'.cell? ad166 = some (.int .i64 ((rd_T26 t144 0).f0)) ∧ w'.cell? ⟨ad166.block, ad166.off + 1, none⟩ = some (.int .i64 ((rd_T26 t144 0).f1)) ∧ w'.cell? ⟨ad166.block, ad166.off + 2, none⟩ = some (.slice A170_2 ((rd_T26 t144 0).f2).length c170_2)) (ds := []) (bz [0, 29]) (by kernel_rfl) rfl rfl (cj3 B165.out ⟨hx170_0, hx170_1, hx170_2⟩) (fun hHeld => ?_); refine with_tabW laws_FnNowcast.tab28 laws_FnNowcast.bits28 (fun HT_ HW_ => ?_)
  generalize w226.drew = w227 at HO_17 O2 O3 HO163 B142 B143 B165 HB HL170_2 HR170_2 hx170_0 hx170_1 hx170_2 hHeld ⊢
  refine pz 0 159 [1, 28] HT_ ?_
  refine pz 1 160 [2, 27] HT_ ?_
  refine pz 2 161 [3, 26] HT_ ?_
  refine pz 3 162 [4, 25] HT_ ?_
  refine pz 4 163 [5, 24] HT_ ?_
  refine pz 6 165 [5, 1, 1, 22] HT_ ?_
  refine pz 7 166 [5, 1, 2, 21] HT_ ?_
  refine tz 5 164 [8, 21] HT_ HW_ rfl (by rintro w' ⟨s0, s1, s2, s3, s4, s5⟩; go_simp; with_reducible rfl) hHeld ?_
  refine tz 8 167 [9, 20] HT_ HW_ rfl (by rintro w' ⟨s0, s1, s2, s3, s4, s5⟩; go_simp; with_reducible rfl) hHeld ?_
  refine oz 9 168 [10, 19] HT_ fun K hK => ?_
  refine gs Try.func8 #[.agg #[.int .i64 t159, .int .i64 t160, .slice Ao223 t161.length co223], .agg #[.int .i64 ((rd_T26 t144 0).f0), .int .i64 ((rd_T26 t144 0).f1), .slice A170_2 ((rd_T26 t144 0).f2).length c170_2]] ?_
  with_reducible refine (laws_vField.calls k4 t159 t160 _ _ t161 ((rd_T26 t144 0).f0) ((rd_T26 t144 0).f1) _ _ ((rd_T26 t144 0).f2) true _ ?side1 ?side2 ?side3 ?side4 A140.out).mono ?_
  (case side1 => exact pC (Kd.R_reads' HO163.out).2.2)
  (case side2 => exact (Kd.R_reads' HO163.out).2.1)
  (case side3 => repeat (first | exact (pC HR170_2.out) | (with_reducible refine Kd.C_alloc ?_ _) | (with_reducible refine Kd.C_drewN ?_ _) | (with_reducible refine Kd.C_drew ?_)))
  (case side4 => exact HC170_2.out)
  rintro e w228 ⟨rfl, hb⟩
  have HS3_ := hs hb hHeld.2.2.2.1; have HS4_ := hs hb hHeld.2.2.2.2.1; have HS5_ := hs hb hHeld.2.2.2.2.2
  refine ⟨_, rfl, ?_⟩
  replace HO_17 := sb HO_17 hb; replace O2 := qb O2 hb; replace O3 := qb O3 hb; replace HO163 := rb HO163 hb; replace HL170_2 := rb HL170_2 hb; replace HR170_2 := aK (Kd.C_below (pC HR170_2.out) hb); replace B142 := bB B142 hb; replace B143 := bB B143 hb; replace B165 := bB B165 hb; replace HB := bS HB hb; clear hb
  refine hK.out _ _ (cj3 B165.out ⟨HS3_, HS4_, HS5_⟩) (fun hHeld => ?_)
  clear hK K
  refine nm 168 ?_
  refine pz 10 169 [11, 18] HT_ ?_
  refine pz 11 170 [12, 17] HT_ ?_
  refine pz 12 171 [13, 16] HT_ ?_
  refine pz 13 172 [14, 15] HT_ ?_
  refine pz 14 173 [15, 14] HT_ ?_
  refine pz 15 174 [16, 13] HT_ ?_
  refine pz 16 175 [17, 12] HT_ ?_
  refine pz 17 176 [18, 11] HT_ ?_
  refine pd 18 177 [19, 10] HT_ ?_
  refine pz 19 178 [20, 9] HT_ ?_
  refine pz 20 179 [21, 8] HT_ ?_
  refine pd 21 180 [22, 7] HT_ ?_
  refine pd 22 181 [23, 6] HT_ ?_
  refine pz 23 182 [24, 5] HT_ ?_
  refine pz 24 183 [25, 4] HT_ ?_
  refine pd 25 184 [26, 3] HT_ ?_
  refine pd 26 185 [27, 2] HT_ ?_
  refine pz 27 186 [28, 1] HT_ ?_
  refine pz 28 2 [29, 0] HT_ ?_
  refine done_ (done_of HT_.out (by kernel_rfl)) ?_
  try go_wp2
  go_ret
  exact ⟨er, pT HB.out⟩
 rw [if_pos c142] at H
 have c142b0 : ((t144.length : Int) == t141) = true := beq_iff_eq.mpr c142
 have c142b1 : ((t144.length : Int) != t141) = false := bne_eq_false_iff_eq.mpr c142
 clear c142
 by_cases c143 : t169 = true
 rotate_left
 ·
  replace c143 := Bool.eq_false_iff.mpr c143; subst c143
  have H1 : (some false) = some r := by rw [if_neg (show ¬ (false = true) by decide)] at H; exact H
  clear H; have H := H1; clear H1
  obtain rfl := Option.some.inj H
  obtain ⟨Ao187, co187, eo187⟩ := Kd.S_slice HO_17.out; subst eo187; obtain ⟨_, _⟩ := nB N142_143; obtain ⟨_, _, _, _, _, _⟩ := bc3 B142.out; obtain ⟨_, _, _, _, _, _⟩ := bc3 B143.out
  replace HO_17 := aK (Kd.S_mono HO_17.out (fun _ h => And.intro h.2.1 (And.intro h.2.2.1 (And.intro h.2.2.2.1 h.2.2.2.2))))
  try go_wp2_with (first | ((with_reducible refine gc 14 rfl ?_); refine gl (some 141) Try.func14 #[.agg #[.int .i64 t131, .int .i64 t132, .slice Ao105 t133.length co105], .agg #[.int .i64 t136, .int .i64 t137, .slice Ao108 t138.length co108]] ?_; (with_reducible refine (impl_BestMotion.calls k4 t131 t132 _ _ t133 t136 t137 _ _ t138 t155 t156 true _ ?side1 ?side2 ?side3 ?side4 A134.out).mono ?_); (case side1 => exact pC (Kd.Q_reads' O2.out).2.2); (case side2 => exact (Kd.Q_reads' O2.out).2.1); (case side3 => exact pC (Kd.Q_reads' O3.out).2.2); (case side4 => exact (Kd.Q_reads' O3.out).2.1); rintro e w191 ⟨rfl, hb⟩; refine ⟨_, rfl, ?_⟩; replace HO_17 := sb HO_17 hb; replace O2 := qb O2 hb; replace O3 := qb O3 hb; replace B142 := bB B142 hb; replace B143 := bB B143 hb; replace HB := bS HB hb; (try clear hb)) | ((with_reducible refine ga 22 rfl ?_); (try (refine gate_guard (by rfl) ?_; dsimp only)); refine bxa #[.int .i64 0, .int .i64 0] 28 ?_; intro g158 hg w192 B158 hb; replace HO_17 := sb HO_17 hb; replace O2 := qb O2 hb; replace O3 := qb O3 hb; have GW158 := gA hg HB; obtain ⟨N142_158, N158_142⟩ := na hg B142; obtain ⟨N143_158, N158_143⟩ := na hg B143; replace B142 := bB B142 hb; replace B143 := bB B143 hb; replace HB := bS HB hb; clear hb hg; obtain ⟨_, _⟩ := nB N158_142; obtain ⟨_, _⟩ := nB N158_143; obtain ⟨_, _, _, _⟩ := bc2 B158.out; obtain ⟨_, _, _, _, _, _⟩ := bc3 B143.out) | ((with_reducible refine gc 6 rfl ?_); refine gl (some 147) Try.func6 #[.agg #[.int .i64 t136, .int .i64 t137, .slice Ao108 t138.length co108], .agg #[.int .i64 t155, .int .i64 t156]] ?_; (with_reducible refine (impl_MoveField.calls k4 t136 t137 _ _ t138 t155 t156 t159 t160 t161 true _ ?side1 ?side2 A135.out).mono ?_); (case side1 => refine (Kd.Q_reads' (e := 3) (base := w.heap.size) (ok := fun k_ => some k_ ≠ (.slice Ao105 t133.length co105 : Value).ownBlock) (n := t138.length) (c := co108) ?_).2.2; exact (pQ (qF2 O3.out B158.out (.int .i64 t155) (.int .i64 t156)))); (case side2 => exact (Kd.Q_reads' O3.out).2.1); rintro e w197 ⟨v162, rfl, ho0, hb⟩; refine ⟨_, rfl, ?_⟩; replace HO_17 := aK (Kd.S_elder' (pY ((Kd.S_mono (Kd.S_far (p := ⟨g158, 1, none⟩) (Kd.S_far (p := ⟨g158, 0, none⟩) (Kd.S_types HO_17.out B158.out (by decide)) (fun _ hk => hk.2) (.int .i64 t155)) (fun _ hk => hk.2) (.int .i64 t156)) (fun _ h_ => h_.1)))) (Kd.R_base ho0) hb); have n1_ := aK (Kd.Q_elder' (pQ (qF2 O2.out B158.out (.int .i64 t155) (.int .i64 t156))) (Kd.R_base ho0) hb); have n2_ := aK (Kd.Q_elder' (pQ (qF2 O3.out B158.out (.int .i64 t155) (.int .i64 t156))) (Kd.R_base ho0) hb); have HO163 := aK (Kd.R_lower (Kd.R_new' (Kd.R_new' ho0 (Kd.Q_lt (pQ (qF2 O2.out B158.out (.int .i64 t155) (.int .i64 t156))))) (Kd.Q_lt (pQ (qF2 O3.out B158.out (.int .i64 t155) (.int .i64 t156))))) (below_size (pS HB.out))); replace B142 := aK (blk_below (g := g142) (o := .cells #[.int .i64 t131, .int .i64 t132, .slice Ao105 t133.length co105] 26 (0, 0)) (by refine bg N142_158 ?_; refine bg N142_158 ?_; refine bk ?_; exact B142.out) hb); replace B143 := aK (blk_below (g := g143) (o := .cells #[.int .i64 t136, .int .i64 t137, .slice Ao108 t138.length co108] 26 (0, 0)) (by refine bg N143_158 ?_; refine bg N143_158 ?_; refine bk ?_; exact B143.out) hb); replace B158 := aK (blk_below (g := g158) (o := .cells #[.int .i64 t155, .int .i64 t156] 28 (0, 0)) (by refine bq #[.int .i64 t155, .int .i64 0] 1 ?_; refine bq #[.int .i64 0, .int .i64 0] 0 ?_; refine bk ?_; exact B158.out) hb); replace HB := bS HB hb; clear O2 O3; have O2 := n1_; have O3 := n2_; clear n1_ n2_; (try clear hb); (try clear ho0)) | ((with_reducible refine ga 24 rfl ?_); (try (refine gate_guard (by rfl) ?_; dsimp only)); refine bxa #[.int .i64 0, .int .i64 0, .slice none 0 0] 26 ?_; intro g165 hg w198 B165 hb; replace HO_17 := aK (Kd.S_below (Kd.S_elderB (pY HO_17.out) g165 (Nat.le_of_eq hg.symm)) hb); replace O2 := qb O2 hb; replace O3 := qb O3 hb; replace HO163 := rb HO163 hb; have GW165 := gA hg HB; obtain ⟨N142_165, N165_142⟩ := na hg B142; obtain ⟨N143_165, N165_143⟩ := na hg B143; replace B142 := bB B142 hb; replace B143 := bB B143 hb; replace HB := bS HB hb; clear hb hg; obtain ⟨_, _⟩ := nB N165_142; obtain ⟨_, _⟩ := nB N165_143; obtain ⟨_, _, _, _, _, _⟩ := bc3 B165.out; obtain ⟨Ao202, co202, eo202⟩ := Kd.R_slice HO163.out; subst eo202))
  obtain ⟨w203, e_⟩ : ∃ w_, w_ = ((w198.setCell ⟨g165, 0, none⟩ (.int .i64 t159)).setCell ⟨g165, 1, none⟩ (.int .i64 t160)).setCell ⟨g165, 2, none⟩ (.slice Ao202 t161.length co202) := ⟨_, rfl⟩
  have n0_ : Aside0 (Kd.S k26 26 w203 w.heap.size (fun k_ => some k_ ≠ (.slice Ao105 t133.length co105 : Value).ownBlock ∧ some k_ ≠ (.slice Ao108 t138.length co108 : Value).ownBlock ∧ some k_ ≠ (.slice Ao202 t161.length co202 : Value).ownBlock ∧ k_ ≠ g142 ∧ k_ ≠ g143 ∧ k_ ≠ g165) (.slice Ao187 t144.length co187) t144) := ⟨by rw [e_]; (with_reducible repeat (first | apply Kd.S_alloc | apply Kd.S_drewN | apply Kd.S_drew)); exact Kd.S_mono (Kd.S_far (p := ⟨g165, 2, none⟩) (Kd.S_far (p := ⟨g165, 1, none⟩) (Kd.S_far (p := ⟨g165, 0, none⟩) (Kd.S_mono HO_17.out (fun k_ hk => (⟨hk, hk.2⟩ : _ ∧ k_ ≠ g165))) (fun _ hk => hk.2) (.int .i64 t159)) (fun _ hk => hk.2) (.int .i64 t160)) (fun _ hk => hk.2) (.slice Ao202 t161.length co202)) (fun _ hk => ⟨hk.1.1.1.1, ⟨hk.1.1.1.2.1, ⟨hk.1.1.2, ⟨hk.1.1.1.2.2.1, ⟨hk.1.1.1.2.2.2, hk.1.2⟩⟩⟩⟩⟩)⟩
  have n1_ : Aside0 (Kd.Q (Kd.int .i64) 3 w203 w.heap.size (fun k_ => some k_ ≠ (.slice Ao108 t138.length co108 : Value).ownBlock ∧ some k_ ≠ (.slice Ao202 t161.length co202 : Value).ownBlock) (.slice Ao105 t133.length co105) t133) := ⟨by rw [e_]; (with_reducible repeat (first | apply Kd.Q_alloc | apply Kd.Q_drewN | apply Kd.Q_drew)); exact Kd.Q_mono (qF3 O2.out B165.out (.int .i64 t159) (.int .i64 t160) (.slice Ao202 t161.length co202)) (fun _ h => ⟨h.1, h.2⟩)⟩
  have n2_ : Aside0 (Kd.Q (Kd.int .i64) 3 w203 w.heap.size (fun k_ => some k_ ≠ (.slice Ao105 t133.length co105 : Value).ownBlock ∧ some k_ ≠ (.slice Ao202 t161.length co202 : Value).ownBlock) (.slice Ao108 t138.length co108) t138) := ⟨by rw [e_]; (with_reducible repeat (first | apply Kd.Q_alloc | apply Kd.Q_drewN | apply Kd.Q_drew)); exact Kd.Q_mono (qF3 O3.out B165.out (.int .i64 t159) (.int .i64 t160) (.slice Ao202 t161.length co202)) (fun _ h => ⟨h.1, h.2⟩)⟩
  have n3_ : Aside0 (Kd.R (Kd.int .i64) 3 w203 w.heap.size (fun k_ => some k_ ≠ (.slice Ao105 t133.length co105 : Value).ownBlock ∧ some k_ ≠ (.slice Ao108 t138.length co108 : Value).ownBlock) (.slice Ao202 t161.length co202) t161) := ⟨by rw [e_]; exact pR (Kd.R_mono (rF3 HO163.out B165.out (.int .i64 t159) (.int .i64 t160) (.slice Ao202 t161.length co202)) (fun _ h => ⟨h.1.2, h.2⟩))⟩
  have n4_ : Aside0 (w203.heap[g142]? = some (.cells #[.int .i64 t131, .int .i64 t132, .slice Ao105 t133.length co105] 26 (0, 0))) := ⟨by rw [e_]; refine bg N142_165 ?_; refine bg N142_165 ?_; refine bg N142_165 ?_; refine bk ?_; exact B142.out⟩
  have n5_ : Aside0 (w203.heap[g143]? = some (.cells #[.int .i64 t136, .int .i64 t137, .slice Ao108 t138.length co108] 26 (0, 0))) := ⟨by rw [e_]; refine bg N143_165 ?_; refine bg N143_165 ?_; refine bg N143_165 ?_; refine bk ?_; exact B143.out⟩
  have n6_ : Aside0 (w203.heap[g165]? = some (.cells #[.int .i64 t159, .int .i64 t160, .slice Ao202 t161.length co202] 26 (0, 0))) := ⟨by rw [e_]; refine bq #[.int .i64 t159, .int .i64 t160, .slice none 0 0] 2 ?_; refine bq #[.int .i64 t159, .int .i64 0, .slice none 0 0] 1 ?_; refine bq #[.int .i64 0, .int .i64 0, .slice none 0 0] 0 ?_; refine bk ?_; exact B165.out⟩
  have n7_ : Aside0 (Below w.heap.size w w203) := ⟨by rw [e_]; exact pT HB.out⟩
  clear HO_17 O2 O3 HO163 B142 B143 B165 HB
  (try rw [← e_]); clear e_
  have HO_17 := n0_; have O2 := n1_; have O3 := n2_; have HO163 := n3_; have B142 := n4_; have B143 := n5_; have B165 := n6_; have HB := n7_; clear n0_ n1_ n2_ n3_ n4_ n5_ n6_ n7_; replace HO_17 := sdw HO_17; replace O2 := qdw O2; replace O3 := qdw O3; replace HO163 := rdw HO163; replace B142 := bD B142; replace B143 := bD B143; replace B165 := bD B165; replace HB := aK (below_drew1 HB.out)
  have p166 : 0 ≤ (0 : Int) := (by omega)
  have q166 : 0 < (t144.length : Int) := dA
  obtain ⟨ad166, A166_2, c166_2, e166, hx166_0, hx166_1, hx166_2, hl166_2, hi166_2⟩ := at_T26 (Kd.S_reads' HO_17.out).2.2 0 p166 q166; cases e166
  obtain ⟨ce166, hce166, hMe166, hcc166⟩ := Kd.S_get HO_17.out z26 0 p166 (by first | exact q166 | exact dA | (have e_ := (Kd.S_reads' HO_17.out).1; omega))
  obtain ⟨ve166_2, rfl, ge166_2⟩ := k26_openM hMe166; have hv166_2 := hcc166 2 _ rfl
  rw [add_field _ _ 2 (by omega)] at hv166_2
  replace hv166_2 := Option.some.inj (hv166_2.symm.trans hx166_2); rw [hv166_2] at ge166_2
  have HL166_2 := aK (show Kd.R (Kd.int .i64) 3 _ _ _ _ ((rd_T26 t144 0).f2) from ge166_2)
  clear hv166_2 ge166_2 hcc166 hce166
  have qi166 : (0 < t144.length) = True := eq_true (by omega)
  (try rw [show ((0 : Int)).toNat = 0 from rfl] at hx166_0)
  (try rw [show 0 * 3 = 0 from rfl] at hx166_0)
  (try rw [Addr.add_zero'] at hx166_0)
  (try rw [show ((0 : Int)).toNat = 0 from rfl] at hx166_1)
  (try rw [show 0 * 3 = 0 from rfl] at hx166_1)
  (try rw [Addr.add_zero'] at hx166_1)
  (try rw [show ((0 : Int)).toNat = 0 from rfl] at hx166_2)
  (try rw [show 0 * 3 = 0 from rfl] at hx166_2)
  (try rw [Addr.add_zero'] at hx166_2)
  have HR166_2 := aK hi166_2; have HC166_2 := aK hl166_2; clear hi166_2 hl166_2; replace p166 := eq_true p166; replace q166 := eq_true q166
  refine start_ (n := 12) (S := fun w' => w'.cell? ⟨g165, 0, none⟩ = some (.int .i64 t159) ∧ w'.cell? ⟨g165, 1, none⟩ = some (.int .i64 t160) ∧ w'.cell? ⟨g165, 2, none⟩ = some (.slice Ao202 t161.length co202) ∧ w'.cell? ad166 = some (.int .i64 ((rd_T26 t144 0).f0)) ∧ w'.cell? ⟨ad166.block, ad166.off + 1, none⟩ = some (.int .i64 ((rd_T26 t144 0).f1)) ∧ w'.cell? ⟨ad166.block, ad166.off + 2, none⟩ = some (.slice A166_2 ((rd_T26 t144 0).f2).length c166_2)) (ds := []) (bz [0, 12]) (by kernel_rfl) rfl rfl (cj3 B165.out ⟨hx166_0, hx166_1, hx166_2⟩) (fun hHeld => ?_); refine with_tabW laws_FnNowcast.tab27 laws_FnNowcast.bits27 (fun HT_ HW_ => ?_)
  generalize w203.drew = w204 at HO_17 O2 O3 HO163 B142 B143 B165 HB HL166_2 HR166_2 hx166_0 hx166_1 hx166_2 hHeld ⊢
  refine pz 1 152 [0, 1, 1, 10] HT_ ?_
  refine pz 2 153 [0, 1, 2, 9] HT_ ?_
  refine tz 0 151 [3, 9] HT_ HW_ rfl (by rintro w' ⟨s0, s1, s2, s3, s4, s5⟩; go_simp; with_reducible rfl) hHeld ?_
  refine tz 3 154 [4, 8] HT_ HW_ rfl (by rintro w' ⟨s0, s1, s2, s3, s4, s5⟩; go_simp; with_reducible rfl) hHeld ?_
  refine oz 4 155 [5, 7] HT_ fun K hK => ?_
  refine gs Try.func15 #[.agg #[.int .i64 t159, .int .i64 t160, .slice Ao202 t161.length co202], .agg #[.int .i64 ((rd_T26 t144 0).f0), .int .i64 ((rd_T26 t144 0).f1), .slice A166_2 ((rd_T26 t144 0).f2).length c166_2]] ?_
  with_reducible refine (impl_MotionError.calls k4 t159 t160 (fun k_ => some k_ = (.slice Ao202 t161.length co202 : Value).ownBlock) _ _ t161 ((rd_T26 t144 0).f0) ((rd_T26 t144 0).f1) (fun k_ => some k_ = (.slice A166_2 ((rd_T26 t144 0).f2).length c166_2 : Value).ownBlock) _ _ ((rd_T26 t144 0).f2) t167 t168 false _ ?side1 ?side2 A137.out).mono ?_
  (case side1 => exact Kd.R_V (Kd.R_tight rfl (Kd.R_types (Kd.R_types (Kd.R_types (Kd.R_apart' (HO163.out) (Kd.S_typed HO_17.out) (by decide)) B142.out (by decide)) B143.out (by decide)) B165.out (by decide))))
  (case side2 => exact Kd.R_V (Kd.R_tight rfl (HL166_2.out)))
  rintro e w205 ⟨rfl, hb⟩
  have HS3_ := hs hb hHeld.2.2.2.1; have HS4_ := hs hb hHeld.2.2.2.2.1; have HS5_ := hs hb hHeld.2.2.2.2.2
  refine ⟨_, rfl, ?_⟩
  replace HO_17 := sb HO_17 hb; replace O2 := qb O2 hb; replace O3 := qb O3 hb; replace HO163 := rb HO163 hb; replace HL166_2 := rb HL166_2 hb; replace HR166_2 := aK (Kd.C_below (pC HR166_2.out) hb); replace B142 := bB B142 hb; replace B143 := bB B143 hb; replace B165 := bB B165 hb; replace HB := bS HB hb; clear hb
  refine hK.out _ _ (cj3 B165.out ⟨HS3_, HS4_, HS5_⟩) (fun hHeld => ?_)
  clear hK K
  refine nm 155 ?_
  refine pz 5 150 [6, 6] HT_ ?_
  refine pz 6 156 [7, 5] HT_ ?_
  refine pz 7 157 [8, 4] HT_ ?_
  refine pz 8 158 [9, 3] HT_ ?_
  refine pz 9 26 [10, 2] HT_ ?_
  refine pz 10 27 [11, 1] HT_ ?_
  refine pz 11 28 [12, 0] HT_ ?_
  refine done_ (done_of HT_.out (by kernel_rfl)) ?_
  try go_wp2
  replace HO_17 := sdw HO_17; replace O2 := qdw O2; replace O3 := qdw O3; replace HO163 := rdw HO163; replace B142 := bD B142; replace B143 := bD B143; replace B165 := bD B165; replace HB := aK (below_drew1 HB.out)
  have p170 : 0 ≤ (0 : Int) := (by omega)
  have q170 : 0 < (t144.length : Int) := dA
  obtain ⟨ad170, A170_2, c170_2, e170, hx170_0, hx170_1, hx170_2, hl170_2, hi170_2⟩ := at_T26 (Kd.S_reads' HO_17.out).2.2 0 p170 q170
  obtain rfl : ad166 = ad170 := (by injection e170)
  obtain ⟨ce170, hce170, hMe170, hcc170⟩ := Kd.S_get HO_17.out z26 0 p170 (by first | exact q170 | exact dA | (have e_ := (Kd.S_reads' HO_17.out).1; omega))
  obtain ⟨ve170_2, rfl, ge170_2⟩ := k26_openM hMe170; have hv170_2 := hcc170 2 _ rfl
  rw [add_field _ _ 2 (by omega)] at hv170_2
  replace hv170_2 := Option.some.inj (hv170_2.symm.trans hx170_2); rw [hv170_2] at ge170_2
  have HL170_2 := aK (show Kd.R (Kd.int .i64) 3 _ _ _ _ ((rd_T26 t144 0).f2) from ge170_2)
  clear hv170_2 ge170_2 hcc170 hce170
  have qi170 : (0 < t144.length) = True := eq_true (by omega)
  (try rw [show ((0 : Int)).toNat = 0 from rfl] at hx170_0)
  (try rw [show 0 * 3 = 0 from rfl] at hx170_0)
  (try rw [Addr.add_zero'] at hx170_0)
  (try rw [show ((0 : Int)).toNat = 0 from rfl] at hx170_1)
  (try rw [show 0 * 3 = 0 from rfl] at hx170_1)
  (try rw [Addr.add_zero'] at hx170_1)
  (try rw [show ((0 : Int)).toNat = 0 from rfl] at hx170_2)
  (try rw [show 0 * 3 = 0 from rfl] at hx170_2)
  (try rw [Addr.add_zero'] at hx170_2)
  have HR170_2 := aK hi170_2; have HC170_2 := aK hl170_2; clear hi170_2 hl170_2; replace p170 := eq_true p170; replace q170 := eq_true q170
  refine start_ (n := 29) (S := fun w' => w'.cell? ⟨g165, 0, none⟩ = some (.int .i64 t159) ∧ w'.cell? ⟨g165, 1, none⟩ = some (.int .i64 t160) ∧ w'.cell? ⟨g165, 2, none⟩ = some (.slice Ao202 t161.length co202) ∧ w'.cell? ad166 = some (.int .i64 ((rd_T26 t144 0).f0)) ∧ w'.cell? ⟨ad166.block, ad166.off + 1, none⟩ = some (.int .i64 ((rd_T26 t144 0).f1)) ∧ w'.cell? ⟨ad166.block, ad166.off + 2, none⟩ = some (.slice A170_2 ((rd_T26 t144 0).f2).length c170_2)) (ds := []) (bz [0, 29]) (by kernel_rfl) rfl rfl (cj3 B165.out ⟨hx170_0, hx170_1, hx170_2⟩) (fun hHeld => ?_); refine with_tabW laws_FnNowcast.tab28 laws_FnNowcast.bits28 (fun HT_ HW_ => ?_)
  generalize w205.drew = w206 at HO_17 O2 O3 HO163 B142 B143 B165 HB HL170_2 HR170_2 hx170_0 hx170_1 hx170_2 hHeld ⊢
  refine pz 0 159 [1, 28] HT_ ?_
  refine pz 1 160 [2, 27] HT_ ?_
  refine pz 2 161 [3, 26] HT_ ?_
  refine pz 3 162 [4, 25] HT_ ?_
  refine pz 4 163 [5, 24] HT_ ?_
  refine pz 6 165 [5, 1, 1, 22] HT_ ?_
  refine pz 7 166 [5, 1, 2, 21] HT_ ?_
  refine tz 5 164 [8, 21] HT_ HW_ rfl (by rintro w' ⟨s0, s1, s2, s3, s4, s5⟩; go_simp; with_reducible rfl) hHeld ?_
  refine tz 8 167 [9, 20] HT_ HW_ rfl (by rintro w' ⟨s0, s1, s2, s3, s4, s5⟩; go_simp; with_reducible rfl) hHeld ?_
  refine oz 9 168 [10, 19] HT_ fun K hK => ?_
  refine gs Try.func8 #[.agg #[.int .i64 t159, .int .i64 t160, .slice Ao202 t161.length co202], .agg #[.int .i64 ((rd_T26 t144 0).f0), .int .i64 ((rd_T26 t144 0).f1), .slice A170_2 ((rd_T26 t144 0).f2).length c170_2]] ?_
  with_reducible refine (laws_vField.calls k4 t159 t160 _ _ t161 ((rd_T26 t144 0).f0) ((rd_T26 t144 0).f1) _ _ ((rd_T26 t144 0).f2) true _ ?side1 ?side2 ?side3 ?side4 A140.out).mono ?_
  (case side1 => exact pC (Kd.R_reads' HO163.out).2.2)
  (case side2 => exact (Kd.R_reads' HO163.out).2.1)
  (case side3 => repeat (first | exact (pC HR170_2.out) | (with_reducible refine Kd.C_alloc ?_ _) | (with_reducible refine Kd.C_drewN ?_ _) | (with_reducible refine Kd.C_drew ?_)))
  (case side4 => exact HC170_2.out)
  rintro e w207 ⟨rfl, hb⟩
  have HS3_ := hs hb hHeld.2.2.2.1; have HS4_ := hs hb hHeld.2.2.2.2.1; have HS5_ := hs hb hHeld.2.2.2.2.2
  refine ⟨_, rfl, ?_⟩
  replace HO_17 := sb HO_17 hb; replace O2 := qb O2 hb; replace O3 := qb O3 hb; replace HO163 := rb HO163 hb; replace HL170_2 := rb HL170_2 hb; replace HR170_2 := aK (Kd.C_below (pC HR170_2.out) hb); replace B142 := bB B142 hb; replace B143 := bB B143 hb; replace B165 := bB B165 hb; replace HB := bS HB hb; clear hb
  refine hK.out _ _ (cj3 B165.out ⟨HS3_, HS4_, HS5_⟩) (fun hHeld => ?_)
  clear hK K
  refine nm 168 ?_
  refine pz 10 169 [11, 18] HT_ ?_
  refine pz 11 170 [12, 17] HT_ ?_
  refine pz 12 171 [13, 16] HT_ ?_
  refine pz 13 172 [14, 15] HT_ ?_
  refine pz 14 173 [15, 14] HT_ ?_
  refine pz 15 174 [16, 13] HT_ ?_
  refine pz 16 175 [17, 12] HT_ ?_
  refine pz 17 176 [18, 11] HT_ ?_
  refine pz 18 177 [19, 10] HT_ ?_
  refine pz 19 178 [20, 9] HT_ ?_
  refine pz 20 179 [21, 8] HT_ ?_
  refine pd 21 180 [22, 7] HT_ ?_
  refine pd 22 181 [23, 6] HT_ ?_
  refine pz 23 182 [24, 5] HT_ ?_
  refine pz 24 183 [25, 4] HT_ ?_
  refine pd 25 184 [26, 3] HT_ ?_
  refine pd 26 185 [27, 2] HT_ ?_
  refine pz 27 186 [28, 1] HT_ ?_
  refine pz 28 2 [29, 0] HT_ ?_
  refine done_ (done_of HT_.out (by kernel_rfl)) ?_
  try go_wp2
  go_ret
  exact ⟨er, pT HB.out⟩
 subst c143
 have H1 : (if t167 = 0 then (some (decide (t168 ≥ 0))) else (some false)) = some r := by rw [if_pos rfl] at H; exact H
 clear H
 have H := H1
 clear H1
 by_cases c144 : t167 = 0
 ·
  rw [if_pos c144] at H
  have c144b0 : (t167 == 0) = true := beq_iff_eq.mpr c144
  have c144b1 : (t167 != 0) = false := bne_eq_false_iff_eq.mpr c144
  clear c144
  obtain rfl := Option.some.inj H
  obtain ⟨Ao145, co145, eo145⟩ := Kd.S_slice HO_17.out; subst eo145; obtain ⟨_, _⟩ := nB N142_143; obtain ⟨_, _, _, _, _, _⟩ := bc3 B142.out; obtain ⟨_, _, _, _, _, _⟩ := bc3 B143.out
  replace HO_17 := aK (Kd.S_mono HO_17.out (fun _ h => And.intro h.2.1 (And.intro h.2.2.1 (And.intro h.2.2.2.1 h.2.2.2.2))))
  try go_wp2_with (first | ((with_reducible refine gc 14 rfl ?_); refine gl (some 141) Try.func14 #[.agg #[.int .i64 t131, .int .i64 t132, .slice Ao105 t133.length co105], .agg #[.int .i64 t136, .int .i64 t137, .slice Ao108 t138.length co108]] ?_; (with_reducible refine (impl_BestMotion.calls k4 t131 t132 _ _ t133 t136 t137 _ _ t138 t155 t156 true _ ?side1 ?side2 ?side3 ?side4 A134.out).mono ?_); (case side1 => exact pC (Kd.Q_reads' O2.out).2.2); (case side2 => exact (Kd.Q_reads' O2.out).2.1); (case side3 => exact pC (Kd.Q_reads' O3.out).2.2); (case side4 => exact (Kd.Q_reads' O3.out).2.1); rintro e w149 ⟨rfl, hb⟩; refine ⟨_, rfl, ?_⟩; replace HO_17 := sb HO_17 hb; replace O2 := qb O2 hb; replace O3 := qb O3 hb; replace B142 := bB B142 hb; replace B143 := bB B143 hb; replace HB := bS HB hb; (try clear hb)) | ((with_reducible refine ga 22 rfl ?_); (try (refine gate_guard (by rfl) ?_; dsimp only)); refine bxa #[.int .i64 0, .int .i64 0] 28 ?_; intro g158 hg w150 B158 hb; replace HO_17 := sb HO_17 hb; replace O2 := qb O2 hb; replace O3 := qb O3 hb; have GW158 := gA hg HB; obtain ⟨N142_158, N158_142⟩ := na hg B142; obtain ⟨N143_158, N158_143⟩ := na hg B143; replace B142 := bB B142 hb; replace B143 := bB B143 hb; replace HB := bS HB hb; clear hb hg; obtain ⟨_, _⟩ := nB N158_142; obtain ⟨_, _⟩ := nB N158_143; obtain ⟨_, _, _, _⟩ := bc2 B158.out; obtain ⟨_, _, _, _, _, _⟩ := bc3 B143.out) | ((with_reducible refine gc 6 rfl ?_); refine gl (some 147) Try.func6 #[.agg #[.int .i64 t136, .int .i64 t137, .slice Ao108 t138.length co108], .agg #[.int .i64 t155, .int .i64 t156]] ?_; (with_reducible refine (impl_MoveField.calls k4 t136 t137 _ _ t138 t155 t156 t159 t160 t161 true _ ?side1 ?side2 A135.out).mono ?_); (case side1 => refine (Kd.Q_reads' (e := 3) (base := w.heap.size) (ok := fun k_ => some k_ ≠ (.slice Ao105 t133.length co105 : Value).ownBlock) (n := t138.length) (c := co108) ?_).2.2; exact (pQ (qF2 O3.out B158.out (.int .i64 t155) (.int .i64 t156)))); (case side2 => exact (Kd.Q_reads' O3.out).2.1); rintro e w155 ⟨v162, rfl, ho0, hb⟩; refine ⟨_, rfl, ?_⟩; replace HO_17 := aK (Kd.S_elder' (pY ((Kd.S_mono (Kd.S_far (p := ⟨g158, 1, none⟩) (Kd.S_far (p := ⟨g158, 0, none⟩) (Kd.S_types HO_17.out B158.out (by decide)) (fun _ hk => hk.2) (.int .i64 t155)) (fun _ hk => hk.2) (.int .i64 t156)) (fun _ h_ => h_.1)))) (Kd.R_base ho0) hb); have n1_ := aK (Kd.Q_elder' (pQ (qF2 O2.out B158.out (.int .i64 t155) (.int .i64 t156))) (Kd.R_base ho0) hb); have n2_ := aK (Kd.Q_elder' (pQ (qF2 O3.out B158.out (.int .i64 t155) (.int .i64 t156))) (Kd.R_base ho0) hb); have HO163 := aK (Kd.R_lower (Kd.R_new' (Kd.R_new' ho0 (Kd.Q_lt (pQ (qF2 O2.out B158.out (.int .i64 t155) (.int .i64 t156))))) (Kd.Q_lt (pQ (qF2 O3.out B158.out (.int .i64 t155) (.int .i64 t156))))) (below_size (pS HB.out))); replace B142 := aK (blk_below (g := g142) (o := .cells #[.int .i64 t131, .int .i64 t132, .slice Ao105 t133.length co105] 26 (0, 0)) (by refine bg N142_158 ?_; refine bg N142_158 ?_; refine bk ?_; exact B142.out) hb); replace B143 := aK (blk_below (g := g143) (o := .cells #[.int .i64 t136, .int .i64 t137, .slice Ao108 t138.length co108] 26 (0, 0)) (by refine bg N143_158 ?_; refine bg N143_158 ?_; refine bk ?_; exact B143.out) hb); replace B158 := aK (blk_below (g := g158) (o := .cells #[.int .i64 t155, .int .i64 t156] 28 (0, 0)) (by refine bq #[.int .i64 t155, .int .i64 0] 1 ?_; refine bq #[.int .i64 0, .int .i64 0] 0 ?_; refine bk ?_; exact B158.out) hb); replace HB := bS HB hb; clear O2 O3; have O2 := n1_; have O3 := n2_; clear n1_ n2_; (try clear hb); (try clear ho0)) | ((with_reducible refine ga 24 rfl ?_); (try (refine gate_guard (by rfl) ?_; dsimp only)); refine bxa #[.int .i64 0, .int .i64 0, .slice none 0 0] 26 ?_; intro g165 hg w156 B165 hb; replace HO_17 := aK (Kd.S_below (Kd.S_elderB (pY HO_17.out) g165 (Nat.le_of_eq hg.symm)) hb); replace O2 := qb O2 hb; replace O3 := qb O3 hb; replace HO163 := rb HO163 hb; have GW165 := gA hg HB; obtain ⟨N142_165, N165_142⟩ := na hg B142; obtain ⟨N143_165, N165_143⟩ := na hg B143; replace B142 := bB B142 hb; replace B143 := bB B143 hb; replace HB := bS HB hb; clear hb hg; obtain ⟨_, _⟩ := nB N165_142; obtain ⟨_, _⟩ := nB N165_143; obtain ⟨_, _, _, _, _, _⟩ := bc3 B165.out; obtain ⟨Ao160, co160, eo160⟩ := Kd.R_slice HO163.out; subst eo160))
  obtain ⟨w161, e_⟩ : ∃ w_, w_ = ((w156.setCell ⟨g165, 0, none⟩ (.int .i64 t159)).setCell ⟨g165, 1, none⟩ (.int .i64 t160)).setCell ⟨g165, 2, none⟩ (.slice Ao160 t161.length co160) := ⟨_, rfl⟩
  have n0_ : Aside0 (Kd.S k26 26 w161 w.heap.size (fun k_ => some k_ ≠ (.slice Ao105 t133.length co105 : Value).ownBlock ∧ some k_ ≠ (.slice Ao108 t138.length co108 : Value).ownBlock ∧ some k_ ≠ (.slice Ao160 t161.length co160 : Value).ownBlock ∧ k_ ≠ g142 ∧ k_ ≠ g143 ∧ k_ ≠ g165) (.slice Ao145 t144.length co145) t144) := ⟨by rw [e_]; (with_reducible repeat (first | apply Kd.S_alloc | apply Kd.S_drewN | apply Kd.S_drew)); exact Kd.S_mono (Kd.S_far (p := ⟨g165, 2, none⟩) (Kd.S_far (p := ⟨g165, 1, none⟩) (Kd.S_far (p := ⟨g165, 0, none⟩) (Kd.S_mono HO_17.out (fun k_ hk => (⟨hk, hk.2⟩ : _ ∧ k_ ≠ g165))) (fun _ hk => hk.2) (.int .i64 t159)) (fun _ hk => hk.2) (.int .i64 t160)) (fun _ hk => hk.2) (.slice Ao160 t161.length co160)) (fun _ hk => ⟨hk.1.1.1.1, ⟨hk.1.1.1.2.1, ⟨hk.1.1.2, ⟨hk.1.1.1.2.2.1, ⟨hk.1.1.1.2.2.2, hk.1.2⟩⟩⟩⟩⟩)⟩
  have n1_ : Aside0 (Kd.Q (Kd.int .i64) 3 w161 w.heap.size (fun k_ => some k_ ≠ (.slice Ao108 t138.length co108 : Value).ownBlock ∧ some k_ ≠ (.slice Ao160 t161.length co160 : Value).ownBlock) (.slice Ao105 t133.length co105) t133) := ⟨by rw [e_]; (with_reducible repeat (first | apply Kd.Q_alloc | apply Kd.Q_drewN | apply Kd.Q_drew)); exact Kd.Q_mono (qF3 O2.out B165.out (.int .i64 t159) (.int .i64 t160) (.slice Ao160 t161.length co160)) (fun _ h => ⟨h.1, h.2⟩)⟩
  have n2_ : Aside0 (Kd.Q (Kd.int .i64) 3 w161 w.heap.size (fun k_ => some k_ ≠ (.slice Ao105 t133.length co105 : Value).ownBlock ∧ some k_ ≠ (.slice Ao160 t161.length co160 : Value).ownBlock) (.slice Ao108 t138.length co108) t138) := ⟨by rw [e_]; (with_reducible repeat (first | apply Kd.Q_alloc | apply Kd.Q_drewN | apply Kd.Q_drew)); exact Kd.Q_mono (qF3 O3.out B165.out (.int .i64 t159) (.int .i64 t160) (.slice Ao160 t161.length co160)) (fun _ h => ⟨h.1, h.2⟩)⟩
  have n3_ : Aside0 (Kd.R (Kd.int .i64) 3 w161 w.heap.size (fun k_ => some k_ ≠ (.slice Ao105 t133.length co105 : Value).ownBlock ∧ some k_ ≠ (.slice Ao108 t138.length co108 : Value).ownBlock) (.slice Ao160 t161.length co160) t161) := ⟨by rw [e_]; exact pR (Kd.R_mono (rF3 HO163.out B165.out (.int .i64 t159) (.int .i64 t160) (.slice Ao160 t161.length co160)) (fun _ h => ⟨h.1.2, h.2⟩))⟩
  have n4_ : Aside0 (w161.heap[g142]? = some (.cells #[.int .i64 t131, .int .i64 t132, .slice Ao105 t133.length co105] 26 (0, 0))) := ⟨by rw [e_]; refine bg N142_165 ?_; refine bg N142_165 ?_; refine bg N142_165 ?_; refine bk ?_; exact B142.out⟩
  have n5_ : Aside0 (w161.heap[g143]? = some (.cells #[.int .i64 t136, .int .i64 t137, .slice Ao108 t138.length co108] 26 (0, 0))) := ⟨by rw [e_]; refine bg N143_165 ?_; refine bg N143_165 ?_; refine bg N143_165 ?_; refine bk ?_; exact B143.out⟩
  have n6_ : Aside0 (w161.heap[g165]? = some (.cells #[.int .i64 t159, .int .i64 t160, .slice Ao160 t161.length co160] 26 (0, 0))) := ⟨by rw [e_]; refine bq #[.int .i64 t159, .int .i64 t160, .slice none 0 0] 2 ?_; refine bq #[.int .i64 t159, .int .i64 0, .slice none 0 0] 1 ?_; refine bq #[.int .i64 0, .int .i64 0, .slice none 0 0] 0 ?_; refine bk ?_; exact B165.out⟩
  have n7_ : Aside0 (Below w.heap.size w w161) := ⟨by rw [e_]; exact pT HB.out⟩
  clear HO_17 O2 O3 HO163 B142 B143 B165 HB
  (try rw [← e_]); clear e_
  have HO_17 := n0_; have O2 := n1_; have O3 := n2_; have HO163 := n3_; have B142 := n4_; have B143 := n5_; have B165 := n6_; have HB := n7_; clear n0_ n1_ n2_ n3_ n4_ n5_ n6_ n7_; replace HO_17 := sdw HO_17; replace O2 := qdw O2; replace O3 := qdw O3; replace HO163 := rdw HO163; replace B142 := bD B142; replace B143 := bD B143; replace B165 := bD B165; replace HB := aK (below_drew1 HB.out)
  have p166 : 0 ≤ (0 : Int) := (by omega)
  have q166 : 0 < (t144.length : Int) := dA
  obtain ⟨ad166, A166_2, c166_2, e166, hx166_0, hx166_1, hx166_2, hl166_2, hi166_2⟩ := at_T26 (Kd.S_reads' HO_17.out).2.2 0 p166 q166; cases e166
  obtain ⟨ce166, hce166, hMe166, hcc166⟩ := Kd.S_get HO_17.out z26 0 p166 (by first | exact q166 | exact dA | (have e_ := (Kd.S_reads' HO_17.out).1; omega))
  obtain ⟨ve166_2, rfl, ge166_2⟩ := k26_openM hMe166; have hv166_2 := hcc166 2 _ rfl
  rw [add_field _ _ 2 (by omega)] at hv166_2
  replace hv166_2 := Option.some.inj (hv166_2.symm.trans hx166_2); rw [hv166_2] at ge166_2
  have HL166_2 := aK (show Kd.R (Kd.int .i64) 3 _ _ _ _ ((rd_T26 t144 0).f2) from ge166_2)
  clear hv166_2 ge166_2 hcc166 hce166
  have qi166 : (0 < t144.length) = True := eq_true (by omega)
  (try rw [show ((0 : Int)).toNat = 0 from rfl] at hx166_0)
  (try rw [show 0 * 3 = 0 from rfl] at hx166_0)
  (try rw [Addr.add_zero'] at hx166_0)
  (try rw [show ((0 : Int)).toNat = 0 from rfl] at hx166_1)
  (try rw [show 0 * 3 = 0 from rfl] at hx166_1)
  (try rw [Addr.add_zero'] at hx166_1)
  (try rw [show ((0 : Int)).toNat = 0 from rfl] at hx166_2)
  (try rw [show 0 * 3 = 0 from rfl] at hx166_2)
  (try rw [Addr.add_zero'] at hx166_2)
  have HR166_2 := aK hi166_2; have HC166_2 := aK hl166_2; clear hi166_2 hl166_2; replace p166 := eq_true p166; replace q166 := eq_true q166
  refine start_ (n := 12) (S := fun w' => w'.cell? ⟨g165, 0, none⟩ = some (.int .i64 t159) ∧ w'.cell? ⟨g165, 1, none⟩ = some (.int .i64 t160) ∧ w'.cell? ⟨g165, 2, none⟩ = some (.slice Ao160 t161.length co160) ∧ w'.cell? ad166 = some (.int .i64 ((rd_T26 t144 0).f0)) ∧ w'.cell? ⟨ad166.block, ad166.off + 1, none⟩ = some (.int .i64 ((rd_T26 t144 0).f1)) ∧ w'.cell? ⟨ad166.block, ad166.off + 2, none⟩ = some (.slice A166_2 ((rd_T26 t144 0).f2).length c166_2)) (ds := []) (bz [0, 12]) (by kernel_rfl) rfl rfl (cj3 B165.out ⟨hx166_0, hx166_1, hx166_2⟩) (fun hHeld => ?_); refine with_tabW laws_FnNowcast.tab27 laws_FnNowcast.bits27 (fun HT_ HW_ => ?_)
  generalize w161.drew = w162 at HO_17 O2 O3 HO163 B142 B143 B165 HB HL166_2 HR166_2 hx166_0 hx166_1 hx166_2 hHeld ⊢
  refine pz 1 152 [0, 1, 1, 10] HT_ ?_
  refine pz 2 153 [0, 1, 2, 9] HT_ ?_
  refine tz 0 151 [3, 9] HT_ HW_ rfl (by rintro w' ⟨s0, s1, s2, s3, s4, s5⟩; go_simp; with_reducible rfl) hHeld ?_
  refine tz 3 154 [4, 8] HT_ HW_ rfl (by rintro w' ⟨s0, s1, s2, s3, s4, s5⟩; go_simp; with_reducible rfl) hHeld ?_
  refine oz 4 155 [5, 7] HT_ fun K hK => ?_
  refine gs Try.func15 #[.agg #[.int .i64 t159, .int .i64 t160, .slice Ao160 t161.length co160], .agg #[.int .i64 ((rd_T26 t144 0).f0), .int .i64 ((rd_T26 t144 0).f1), .slice A166_2 ((rd_T26 t144 0).f2).length c166_2]] ?_
  with_reducible refine (impl_MotionError.calls k4 t159 t160 (fun k_ => some k_ = (.slice Ao160 t161.length co160 : Value).ownBlock) _ _ t161 ((rd_T26 t144 0).f0) ((rd_T26 t144 0).f1) (fun k_ => some k_ = (.slice A166_2 ((rd_T26 t144 0).f2).length c166_2 : Value).ownBlock) _ _ ((rd_T26 t144 0).f2) t167 t168 true _ ?side1 ?side2 A137.out).mono ?_
  (case side1 => exact Kd.R_V (Kd.R_tight rfl (Kd.R_types (Kd.R_types (Kd.R_types (Kd.R_apart' (HO163.out) (Kd.S_typed HO_17.out) (by decide)) B142.out (by decide)) B143.out (by decide)) B165.out (by decide))))
  (case side2 => exact Kd.R_V (Kd.R_tight rfl (HL166_2.out)))
  rintro e w163 ⟨rfl, hb⟩
  have HS3_ := hs hb hHeld.2.2.2.1; have HS4_ := hs hb hHeld.2.2.2.2.1; have HS5_ := hs hb hHeld.2.2.2.2.2
  refine ⟨_, rfl, ?_⟩
  replace HO_17 := sb HO_17 hb; replace O2 := qb O2 hb; replace O3 := qb O3 hb; replace HO163 := rb HO163 hb; replace HL166_2 := rb HL166_2 hb; replace HR166_2 := aK (Kd.C_below (pC HR166_2.out) hb); replace B142 := bB B142 hb; replace B143 := bB B143 hb; replace B165 := bB B165 hb; replace HB := bS HB hb; clear hb
  refine hK.out _ _ (cj3 B165.out ⟨HS3_, HS4_, HS5_⟩) (fun hHeld => ?_)
  clear hK K
  refine nm 155 ?_
  refine pz 5 150 [6, 6] HT_ ?_
  refine pz 6 156 [7, 5] HT_ ?_
  refine pz 7 157 [8, 4] HT_ ?_
  refine pz 8 158 [9, 3] HT_ ?_
  refine pz 9 26 [10, 2] HT_ ?_
  refine pz 10 27 [11, 1] HT_ ?_
  refine pz 11 28 [12, 0] HT_ ?_
  refine done_ (done_of HT_.out (by kernel_rfl)) ?_
  try go_wp2
  replace HO_17 := sdw HO_17; replace O2 := qdw O2; replace O3 := qdw O3; replace HO163 := rdw HO163; replace B142 := bD B142; replace B143 := bD B143; replace B165 := bD B165; replace HB := aK (below_drew1 HB.out)
  have p170 : 0 ≤ (0 : Int) := (by omega)
  have q170 : 0 < (t144.length : Int) := dA
  obtain ⟨ad170, A170_2, c170_2, e170, hx170_0, hx170_1, hx170_2, hl170_2, hi170_2⟩ := at_T26 (Kd.S_reads' HO_17.out).2.2 0 p170 q170
  obtain rfl : ad166 = ad170 := (by injection e170)
  obtain ⟨ce170, hce170, hMe170, hcc170⟩ := Kd.S_get HO_17.out z26 0 p170 (by first | exact q170 | exact dA | (have e_ := (Kd.S_reads' HO_17.out).1; omega))
  obtain ⟨ve170_2, rfl, ge170_2⟩ := k26_openM hMe170; have hv170_2 := hcc170 2 _ rfl
  rw [add_field _ _ 2 (by omega)] at hv170_2
  replace hv170_2 := Option.some.inj (hv170_2.symm.trans hx170_2); rw [hv170_2] at ge170_2
  have HL170_2 := aK (show Kd.R (Kd.int .i64) 3 _ _ _ _ ((rd_T26 t144 0).f2) from ge170_2)
  clear hv170_2 ge170_2 hcc170 hce170
  have qi170 : (0 < t144.length) = True := eq_true (by omega)
  (try rw [show ((0 : Int)).toNat = 0 from rfl] at hx170_0)
  (try rw [show 0 * 3 = 0 from rfl] at hx170_0)
  (try rw [Addr.add_zero'] at hx170_0)
  (try rw [show ((0 : Int)).toNat = 0 from rfl] at hx170_1)
  (try rw [show 0 * 3 = 0 from rfl] at hx170_1)
  (try rw [Addr.add_zero'] at hx170_1)
  (try rw [show ((0 : Int)).toNat = 0 from rfl] at hx170_2)
  (try rw [show 0 * 3 = 0 from rfl] at hx170_2)
  (try rw [Addr.add_zero'] at hx170_2)
  have HR170_2 := aK hi170_2; have HC170_2 := aK hl170_2; clear hi170_2 hl170_2; replace p170 := eq_true p170; replace q170 := eq_true q170
  refine start_ (n := 29) (S := fun w' => w'.cell? ⟨g165, 0, none⟩ = some (.int .i64 t159) ∧ w'.cell? ⟨g165, 1, none⟩ = some (.int .i64 t160) ∧ w'.cell? ⟨g165, 2, none⟩ = some (.slice Ao160 t161.length co160) ∧ w'.cell? ad166 = some (.int .i64 ((rd_T26 t144 0).f0)) ∧ w'.cell? ⟨ad166.block, ad166.off + 1, none⟩ = some (.int .i64 ((rd_T26 t144 0).f1)) ∧ w'.cell? ⟨ad166.block, ad166.off + 2, none⟩ = some (.slice A170_2 ((rd_T26 t144 0).f2).length c170_2)) (ds := []) (bz [0, 29]) (by kernel_rfl) rfl rfl (cj3 B165.out ⟨hx170_0, hx170_1, hx170_2⟩) (fun hHeld => ?_); refine with_tabW laws_FnNowcast.tab28 laws_FnNowcast.bits28 (fun HT_ HW_ => ?_)
  generalize w163.drew = w164 at HO_17 O2 O3 HO163 B142 B143 B165 HB HL170_2 HR170_2 hx170_0 hx170_1 hx170_2 hHeld ⊢
  refine pz 0 159 [1, 28] HT_ ?_
  refine pz 1 160 [2, 27] HT_ ?_
  refine pz 2 161 [3, 26] HT_ ?_
  refine pz 3 162 [4, 25] HT_ ?_
  refine pz 4 163 [5, 24] HT_ ?_
  refine pz 6 165 [5, 1, 1, 22] HT_ ?_
  refine pz 7 166 [5, 1, 2, 21] HT_ ?_
  refine tz 5 164 [8, 21] HT_ HW_ rfl (by rintro w' ⟨s0, s1, s2, s3, s4, s5⟩; go_simp; with_reducible rfl) hHeld ?_
  refine tz 8 167 [9, 20] HT_ HW_ rfl (by rintro w' ⟨s0, s1, s2, s3, s4, s5⟩; go_simp; with_reducible rfl) hHeld ?_
  refine oz 9 168 [10, 19] HT_ fun K hK => ?_
  refine gs Try.func8 #[.agg #[.int .i64 t159, .int .i64 t160, .slice Ao160 t161.length co160], .agg #[.int .i64 ((rd_T26 t144 0).f0), .int .i64 ((rd_T26 t144 0).f1), .slice A170_2 ((rd_T26 t144 0).f2).length c170_2]] ?_
  with_reducible refine (laws_vField.calls k4 t159 t160 _ _ t161 ((rd_T26 t144 0).f0) ((rd_T26 t144 0).f1) _ _ ((rd_T26 t144 0).f2) true _ ?side1 ?side2 ?side3 ?side4 A140.out).mono ?_
  (case side1 => exact pC (Kd.R_reads' HO163.out).2.2)
  (case side2 => exact (Kd.R_reads' HO163.out).2.1)
  (case side3 => repeat (first | exact (pC HR170_2.out) | (with_reducible refine Kd.C_alloc ?_ _) | (with_reducible refine Kd.C_drewN ?_ _) | (with_reducible refine Kd.C_drew ?_)))
  (case side4 => exact HC170_2.out)
  rintro e w165 ⟨rfl, hb⟩
  have HS3_ := hs hb hHeld.2.2.2.1; have HS4_ := hs hb hHeld.2.2.2.2.1; have HS5_ := hs hb hHeld.2.2.2.2.2
  refine ⟨_, rfl, ?_⟩
  replace HO_17 := sb HO_17 hb; replace O2 := qb O2 hb; replace O3 := qb O3 hb; replace HO163 := rb HO163 hb; replace HL170_2 := rb HL170_2 hb; replace HR170_2 := aK (Kd.C_below (pC HR170_2.out) hb); replace B142 := bB B142 hb; replace B143 := bB B143 hb; replace B165 := bB B165 hb; replace HB := bS HB hb; clear hb
  refine hK.out _ _ (cj3 B165.out ⟨HS3_, HS4_, HS5_⟩) (fun hHeld => ?_)
  clear hK K
  refine nm 168 ?_
  refine pz 10 169 [11, 18] HT_ ?_
  refine pz 11 170 [12, 17] HT_ ?_
  refine pz 12 171 [13, 16] HT_ ?_
  refine pz 13 172 [14, 15] HT_ ?_
  refine pz 14 173 [15, 14] HT_ ?_
  refine pz 15 174 [16, 13] HT_ ?_
  refine pz 16 175 [17, 12] HT_ ?_
  refine pz 17 176 [18, 11] HT_ ?_
  refine pz 18 177 [19, 10] HT_ ?_
  refine pz 19 178 [20, 9] HT_ ?_
  refine pz 20 179 [21, 8] HT_ ?_
  refine pz 21 180 [22, 7] HT_ ?_
  refine pz 22 181 [23, 6] HT_ ?_
  refine pz 23 182 [24, 5] HT_ ?_
  refine pz 24 183 [25, 4] HT_ ?_
  refine pz 25 184 [26, 3] HT_ ?_
  refine pz 26 185 [27, 2] HT_ ?_
  refine pz 27 186 [28, 1] HT_ ?_
  refine pz 28 2 [29, 0] HT_ ?_
  refine done_ (done_of HT_.out (by kernel_rfl)) ?_
  try go_wp2
  go_ret
  exact ⟨er, pT HB.out⟩
 rw [if_neg c144] at H
 have c144b0 : (t167 == 0) = false := beq_eq_false_iff_ne.mpr c144
 have c144b1 : (t167 != 0) = true := bne_iff_ne.mpr c144
 obtain rfl := Option.some.inj H
 obtain ⟨Ao166, co166, eo166⟩ := Kd.S_slice HO_17.out
 subst eo166
 obtain ⟨_, _⟩ := nB N142_143
 obtain ⟨_, _, _, _, _, _⟩ := bc3 B142.out
 obtain ⟨_, _, _, _, _, _⟩ := bc3 B143.out
 replace HO_17 := aK (Kd.S_mono HO_17.out (fun _ h => And.intro h.2.1 (And.intro h.2.2.1 (And.intro h.2.2.2.1 h.2.2.2.2))))
 try go_wp2_with (first | ((with_reducible refine gc 14 rfl ?_); refine gl (some 141) Try.func14 #[.agg #[.int .i64 t131, .int .i64 t132, .slice Ao105 t133.length co105], .agg #[.int .i64 t136, .int .i64 t137, .slice Ao108 t138.length co108]] ?_; (with_reducible refine (impl_BestMotion.calls k4 t131 t132 _ _ t133 t136 t137 _ _ t138 t155 t156 true _ ?side1 ?side2 ?side3 ?side4 A134.out).mono ?_); (case side1 => exact pC (Kd.Q_reads' O2.out).2.2); (case side2 => exact (Kd.Q_reads' O2.out).2.1); (case side3 => exact pC (Kd.Q_reads' O3.out).2.2); (case side4 => exact (Kd.Q_reads' O3.out).2.1); rintro e w170 ⟨rfl, hb⟩; refine ⟨_, rfl, ?_⟩; replace HO_17 := sb HO_17 hb; replace O2 := qb O2 hb; replace O3 := qb O3 hb; replace B142 := bB B142 hb; replace B143 := bB B143 hb; replace HB := bS HB hb; (try clear hb)) | ((with_reducible refine ga 22 rfl ?_); (try (refine gate_guard (by rfl) ?_; dsimp only)); refine bxa #[.int .i64 0, .int .i64 0] 28 ?_; intro g158 hg w171 B158 hb; replace HO_17 := sb HO_17 hb; replace O2 := qb O2 hb; replace O3 := qb O3 hb; have GW158 := gA hg HB; obtain ⟨N142_158, N158_142⟩ := na hg B142; obtain ⟨N143_158, N158_143⟩ := na hg B143; replace B142 := bB B142 hb; replace B143 := bB B143 hb; replace HB := bS HB hb; clear hb hg; obtain ⟨_, _⟩ := nB N158_142; obtain ⟨_, _⟩ := nB N158_143; obtain ⟨_, _, _, _⟩ := bc2 B158.out; obtain ⟨_, _, _, _, _, _⟩ := bc3 B143.out) | ((with_reducible refine gc 6 rfl ?_); refine gl (some 147) Try.func6 #[.agg #[.int .i64 t136, .int .i64 t137, .slice Ao108 t138.length co108], .agg #[.int .i64 t155, .int .i64 t156]] ?_; (with_reducible refine (impl_MoveField.calls k4 t136 t137 _ _ t138 t155 t156 t159 t160 t161 true _ ?side1 ?side2 A135.out).mono ?_); (case side1 => refine (Kd.Q_reads' (e := 3) (base := w.heap.size) (ok := fun k_ => some k_ ≠ (.slice Ao105 t133.length co105 : Value).ownBlock) (n := t138.length) (c := co108) ?_).2.2; exact (pQ (qF2 O3.out B158.out (.int .i64 t155) (.int .i64 t156)))); (case side2 => exact (Kd.Q_reads' O3.out).2.1); rintro e w176 ⟨v162, rfl, ho0, hb⟩; refine ⟨_, rfl, ?_⟩; replace HO_17 := aK (Kd.S_elder' (pY ((Kd.S_mono (Kd.S_far (p := ⟨g158, 1, none⟩) (Kd.S_far (p := ⟨g158, 0, none⟩) (Kd.S_types HO_17.out B158.out (by decide)) (fun _ hk => hk.2) (.int .i64 t155)) (fun _ hk => hk.2) (.int .i64 t156)) (fun _ h_ => h_.1)))) (Kd.R_base ho0) hb); have n1_ := aK (Kd.Q_elder' (pQ (qF2 O2.out B158.out (.int .i64 t155) (.int .i64 t156))) (Kd.R_base ho0) hb); have n2_ := aK (Kd.Q_elder' (pQ (qF2 O3.out B158.out (.int .i64 t155) (.int .i64 t156))) (Kd.R_base ho0) hb); have HO163 := aK (Kd.R_lower (Kd.R_new' (Kd.R_new' ho0 (Kd.Q_lt (pQ (qF2 O2.out B158.out (.int .i64 t155) (.int .i64 t156))))) (Kd.Q_lt (pQ (qF2 O3.out B158.out (.int .i64 t155) (.int .i64 t156))))) (below_size (pS HB.out))); replace B142 := aK (blk_below (g := g142) (o := .cells #[.int .i64 t131, .int .i64 t132, .slice Ao105 t133.length co105] 26 (0, 0)) (by refine bg N142_158 ?_; refine bg N142_158 ?_; refine bk ?_; exact B142.out) hb); replace B143 := aK (blk_below (g := g143) (o := .cells #[.int .i64 t136, .int .i64 t137, .slice Ao108 t138.length co108] 26 (0, 0)) (by refine bg N143_158 ?_; refine bg N143_158 ?_; refine bk ?_; exact B143.out) hb); replace B158 := aK (blk_below (g := g158) (o := .cells #[.int .i64 t155, .int .i64 t156] 28 (0, 0)) (by refine bq #[.int .i64 t155, .int .i64 0] 1 ?_; refine bq #[.int .i64 0, .int .i64 0] 0 ?_; refine bk ?_; exact B158.out) hb); replace HB := bS HB hb; clear O2 O3; have O2 := n1_; have O3 := n2_; clear n1_ n2_; (try clear hb); (try clear ho0)) | ((with_reducible refine ga 24 rfl ?_); (try (refine gate_guard (by rfl) ?_; dsimp only)); refine bxa #[.int .i64 0, .int .i64 0, .slice none 0 0] 26 ?_; intro g165 hg w177 B165 hb; replace HO_17 := aK (Kd.S_below (Kd.S_elderB (pY HO_17.out) g165 (Nat.le_of_eq hg.symm)) hb); replace O2 := qb O2 hb; replace O3 := qb O3 hb; replace HO163 := rb HO163 hb; have GW165 := gA hg HB; obtain ⟨N142_165, N165_142⟩ := na hg B142; obtain ⟨N143_165, N165_143⟩ := na hg B143; replace B142 := bB B142 hb; replace B143 := bB B143 hb; replace HB := bS HB hb; clear hb hg; obtain ⟨_, _⟩ := nB N165_142; obtain ⟨_, _⟩ := nB N165_143; obtain ⟨_, _, _, _, _, _⟩ := bc3 B165.out; obtain ⟨Ao181, co181, eo181⟩ := Kd.R_slice HO163.out; subst eo181))
 obtain ⟨w182, e_⟩ : ∃ w_, w_ = ((w177.setCell ⟨g165, 0, none⟩ (.int .i64 t159)).setCell ⟨g165, 1, none⟩ (.int .i64 t160)).setCell ⟨g165, 2, none⟩ (.slice Ao181 t161.length co181) := ⟨_, rfl⟩
 have n0_ : Aside0 (Kd.S k26 26 w182 w.heap.size (fun k_ => some k_ ≠ (.slice Ao105 t133.length co105 : Value).ownBlock ∧ some k_ ≠ (.slice Ao108 t138.length co108 : Value).ownBlock ∧ some k_ ≠ (.slice Ao181 t161.length co181 : Value).ownBlock ∧ k_ ≠ g142 ∧ k_ ≠ g143 ∧ k_ ≠ g165) (.slice Ao166 t144.length co166) t144) := ⟨by rw [e_]; (with_reducible repeat (first | apply Kd.S_alloc | apply Kd.S_drewN | apply Kd.S_drew)); exact Kd.S_mono (Kd.S_far (p := ⟨g165, 2, none⟩) (Kd.S_far (p := ⟨g165, 1, none⟩) (Kd.S_far (p := ⟨g165, 0, none⟩) (Kd.S_mono HO_17.out (fun k_ hk => (⟨hk, hk.2⟩ : _ ∧ k_ ≠ g165))) (fun _ hk => hk.2) (.int .i64 t159)) (fun _ hk => hk.2) (.int .i64 t160)) (fun _ hk => hk.2) (.slice Ao181 t161.length co181)) (fun _ hk => ⟨hk.1.1.1.1, ⟨hk.1.1.1.2.1, ⟨hk.1.1.2, ⟨hk.1.1.1.2.2.1, ⟨hk.1.1.1.2.2.2, hk.1.2⟩⟩⟩⟩⟩)⟩
 have n1_ : Aside0 (Kd.Q (Kd.int .i64) 3 w182 w.heap.size (fun k_ => some k_ ≠ (.slice Ao108 t138.length co108 : Value).ownBlock ∧ some k_ ≠ (.slice Ao181 t161.length co181 : Value).ownBlock) (.slice Ao105 t133.length co105) t133) := ⟨by rw [e_]; (with_reducible repeat (first | apply Kd.Q_alloc | apply Kd.Q_drewN | apply Kd.Q_drew)); exact Kd.Q_mono (qF3 O2.out B165.out (.int .i64 t159) (.int .i64 t160) (.slice Ao181 t161.length co181)) (fun _ h => ⟨h.1, h.2⟩)⟩
 have n2_ : Aside0 (Kd.Q (Kd.int .i64) 3 w182 w.heap.size (fun k_ => some k_ ≠ (.slice Ao105 t133.length co105 : Value).ownBlock ∧ some k_ ≠ (.slice Ao181 t161.length co181 : Value).ownBlock) (.slice Ao108 t138.length co108) t138) := ⟨by rw [e_]; (with_reducible repeat (first | apply Kd.Q_alloc | apply Kd.Q_drewN | apply Kd.Q_drew)); exact Kd.Q_mono (qF3 O3.out B165.out (.int .i64 t159) (.int .i64 t160) (.slice Ao181 t161.length co181)) (fun _ h => ⟨h.1, h.2⟩)⟩
 have n3_ : Aside0 (Kd.R (Kd.int .i64) 3 w182 w.heap.size (fun k_ => some k_ ≠ (.slice Ao105 t133.length co105 : Value).ownBlock ∧ some k_ ≠ (.slice Ao108 t138.length co108 : Value).ownBlock) (.slice Ao181 t161.length co181) t161) := ⟨by rw [e_]; exact pR (Kd.R_mono (rF3 HO163.out B165.out (.int .i64 t159) (.int .i64 t160) (.slice Ao181 t161.length co181)) (fun _ h => ⟨h.1.2, h.2⟩))⟩
 have n4_ : Aside0 (w182.heap[g142]? = some (.cells #[.int .i64 t131, .int .i64 t132, .slice Ao105 t133.length co105] 26 (0, 0))) := ⟨by rw [e_]; refine bg N142_165 ?_; refine bg N142_165 ?_; refine bg N142_165 ?_; refine bk ?_; exact B142.out⟩
 have n5_ : Aside0 (w182.heap[g143]? = some (.cells #[.int .i64 t136, .int .i64 t137, .slice Ao108 t138.length co108] 26 (0, 0))) := ⟨by rw [e_]; refine bg N143_165 ?_; refine bg N143_165 ?_; refine bg N143_165 ?_; refine bk ?_; exact B143.out⟩
 have n6_ : Aside0 (w182.heap[g165]? = some (.cells #[.int .i64 t159, .int .i64 t160, .slice Ao181 t161.length co181] 26 (0, 0))) := ⟨by rw [e_]; refine bq #[.int .i64 t159, .int .i64 t160, .slice none 0 0] 2 ?_; refine bq #[.int .i64 t159, .int .i64 0, .slice none 0 0] 1 ?_; refine bq #[.int .i64 0, .int .i64 0, .slice none 0 0] 0 ?_; refine bk ?_; exact B165.out⟩
 have n7_ : Aside0 (Below w.heap.size w w182) := ⟨by rw [e_]; exact pT HB.out⟩
 clear HO_17 O2 O3 HO163 B142 B143 B165 HB
 (try rw [← e_]); clear e_
 have HO_17 := n0_
 have O2 := n1_
 have O3 := n2_
 have HO163 := n3_
 have B142 := n4_
 have B143 := n5_
 have B165 := n6_
 have HB := n7_
 clear n0_ n1_ n2_ n3_ n4_ n5_ n6_ n7_
 replace HO_17 := sdw HO_17
 replace O2 := qdw O2
 replace O3 := qdw O3
 replace HO163 := rdw HO163
 replace B142 := bD B142
 replace B143 := bD B143
 replace B165 := bD B165
 replace HB := aK (below_drew1 HB.out)
 have p166 : 0 ≤ (0 : Int) := (by omega)
 have q166 : 0 < (t144.length : Int) := dA
 obtain ⟨ad166, A166_2, c166_2, e166, hx166_0, hx166_1, hx166_2, hl166_2, hi166_2⟩ := at_T26 (Kd.S_reads' HO_17.out).2.2 0 p166 q166
 cases e166
 obtain ⟨ce166, hce166, hMe166, hcc166⟩ := Kd.S_get HO_17.out z26 0 p166 (by first | exact q166 | exact dA | (have e_ := (Kd.S_reads' HO_17.out).1; omega))
 obtain ⟨ve166_2, rfl, ge166_2⟩ := k26_openM hMe166
 have hv166_2 := hcc166 2 _ rfl
 rw [add_field _ _ 2 (by omega)] at hv166_2
 replace hv166_2 := Option.some.inj (hv166_2.symm.trans hx166_2)
 rw [hv166_2] at ge166_2
 have HL166_2 := aK (show Kd.R (Kd.int .i64) 3 _ _ _ _ ((rd_T26 t144 0).f2) from ge166_2)
 clear hv166_2 ge166_2 hcc166 hce166
 have qi166 : (0 < t144.length) = True := eq_true (by omega)
 (try rw [show ((0 : Int)).toNat = 0 from rfl] at hx166_0)
 (try rw [show 0 * 3 = 0 from rfl] at hx166_0)
 (try rw [Addr.add_zero'] at hx166_0)
 (try rw [show ((0 : Int)).toNat = 0 from rfl] at hx166_1)
 (try rw [show 0 * 3 = 0 from rfl] at hx166_1)
 (try rw [Addr.add_zero'] at hx166_1)
 (try rw [show ((0 : Int)).toNat = 0 from rfl] at hx166_2)
 (try rw [show 0 * 3 = 0 from rfl] at hx166_2)
 (try rw [Addr.add_zero'] at hx166_2)
 have HR166_2 := aK hi166_2
 have HC166_2 := aK hl166_2
 clear hi166_2 hl166_2
 replace p166 := eq_true p166
 replace q166 := eq_true q166
 refine start_ (n := 12) (S := fun w' => w'.cell? ⟨g165, 0, none⟩ = some (.int .i64 t159) ∧ w'.cell? ⟨g165, 1, none⟩ = some (.int .i64 t160) ∧ w'.cell? ⟨g165, 2, none⟩ = some (.slice Ao181 t161.length co181) ∧ w'.cell? ad166 = some (.int .i64 ((rd_T26 t144 0).f0)) ∧ w'.cell? ⟨ad166.block, ad166.off + 1, none⟩ = some (.int .i64 ((rd_T26 t144 0).f1)) ∧ w'.cell? ⟨ad166.block, ad166.off + 2, none⟩ = some (.slice A166_2 ((rd_T26 t144 0).f2).length c166_2)) (ds := []) (bz [0, 12]) (by kernel_rfl) rfl rfl (cj3 B165.out ⟨hx166_0, hx166_1, hx166_2⟩) (fun hHeld => ?_); refine with_tabW laws_FnNowcast.tab27 laws_FnNowcast.bits27 (fun HT_ HW_ => ?_)
 generalize w182.drew = w183 at HO_17 O2 O3 HO163 B142 B143 B165 HB HL166_2 HR166_2 hx166_0 hx166_1 hx166_2 hHeld ⊢
 refine pz 1 152 [0, 1, 1, 10] HT_ ?_
 refine pz 2 153 [0, 1, 2, 9] HT_ ?_
 refine tz 0 151 [3, 9] HT_ HW_ rfl (by rintro w' ⟨s0, s1, s2, s3, s4, s5⟩; go_simp; with_reducible rfl) hHeld ?_
 refine tz 3 154 [4, 8] HT_ HW_ rfl (by rintro w' ⟨s0, s1, s2, s3, s4, s5⟩; go_simp; with_reducible rfl) hHeld ?_
 refine oz 4 155 [5, 7] HT_ fun K hK => ?_
 refine gs Try.func15 #[.agg #[.int .i64 t159, .int .i64 t160, .slice Ao181 t161.length co181], .agg #[.int .i64 ((rd_T26 t144 0).f0), .int .i64 ((rd_T26 t144 0).f1), .slice A166_2 ((rd_T26 t144 0).f2).length c166_2]] ?_
 with_reducible refine (impl_MotionError.calls k4 t159 t160 (fun k_ => some k_ = (.slice Ao181 t161.length co181 : Value).ownBlock) _ _ t161 ((rd_T26 t144 0).f0) ((rd_T26 t144 0).f1) (fun k_ => some k_ = (.slice A166_2 ((rd_T26 t144 0).f2).length c166_2 : Value).ownBlock) _ _ ((rd_T26 t144 0).f2) t167 t168 true _ ?side1 ?side2 A137.out).mono ?_
 (case side1 => exact Kd.R_V (Kd.R_tight rfl (Kd.R_types (Kd.R_types (Kd.R_types (Kd.R_apart' (HO163.out) (Kd.S_typed HO_17.out) (by decide)) B142.out (by decide)) B143.out (by decide)) B165.out (by decide))))
 (case side2 => exact Kd.R_V (Kd.R_tight rfl (HL166_2.out)))
 rintro e w184 ⟨rfl, hb⟩
 have HS3_ := hs hb hHeld.2.2.2.1
 have HS4_ := hs hb hHeld.2.2.2.2.1
 have HS5_ := hs hb hHeld.2.2.2.2.2
 refine ⟨_, rfl, ?_⟩
 replace HO_17 := sb HO_17 hb
 replace O2 := qb O2 hb
 replace O3 := qb O3 hb
 replace HO163 := rb HO163 hb
 replace HL166_2 := rb HL166_2 hb
 replace HR166_2 := aK (Kd.C_below (pC HR166_2.out) hb)
 replace B142 := bB B142 hb
 replace B143 := bB B143 hb
 replace B165 := bB B165 hb
 replace HB := bS HB hb
 clear hb
 refine hK.out _ _ (cj3 B165.out ⟨HS3_, HS4_, HS5_⟩) (fun hHeld => ?_)
 clear hK K
 refine nm 155 ?_
 refine pz 5 150 [6, 6] HT_ ?_
 refine pz 6 156 [7, 5] HT_ ?_
 refine pz 7 157 [8, 4] HT_ ?_
 refine pz 8 158 [9, 3] HT_ ?_
 refine pz 9 26 [10, 2] HT_ ?_
 refine pz 10 27 [11, 1] HT_ ?_
 refine pz 11 28 [12, 0] HT_ ?_
 refine done_ (done_of HT_.out (by kernel_rfl)) ?_
 try go_wp2
 replace HO_17 := sdw HO_17
 replace O2 := qdw O2
 replace O3 := qdw O3
 replace HO163 := rdw HO163
 replace B142 := bD B142
 replace B143 := bD B143
 replace B165 := bD B165
 replace HB := aK (below_drew1 HB.out)
 have p170 : 0 ≤ (0 : Int) := (by omega)
 have q170 : 0 < (t144.length : Int) := dA
 obtain ⟨ad170, A170_2, c170_2, e170, hx170_0, hx170_1, hx170_2, hl170_2, hi170_2⟩ := at_T26 (Kd.S_reads' HO_17.out).2.2 0 p170 q170
 obtain rfl : ad166 = ad170 := (by injection e170)
 obtain ⟨ce170, hce170, hMe170, hcc170⟩ := Kd.S_get HO_17.out z26 0 p170 (by first | exact q170 | exact dA | (have e_ := (Kd.S_reads' HO_17.out).1; omega))
 obtain ⟨ve170_2, rfl, ge170_2⟩ := k26_openM hMe170
 have hv170_2 := hcc170 2 _ rfl
 rw [add_field _ _ 2 (by omega)] at hv170_2
 replace hv170_2 := Option.some.inj (hv170_2.symm.trans hx170_2)
 rw [hv170_2] at ge170_2
 have HL170_2 := aK (show Kd.R (Kd.int .i64) 3 _ _ _ _ ((rd_T26 t144 0).f2) from ge170_2)
 clear hv170_2 ge170_2 hcc170 hce170
 have qi170 : (0 < t144.length) = True := eq_true (by omega)
 (try rw [show ((0 : Int)).toNat = 0 from rfl] at hx170_0)
 (try rw [show 0 * 3 = 0 from rfl] at hx170_0)
 (try rw [Addr.add_zero'] at hx170_0)
 (try rw [show ((0 : Int)).toNat = 0 from rfl] at hx170_1)
 (try rw [show 0 * 3 = 0 from rfl] at hx170_1)
 (try rw [Addr.add_zero'] at hx170_1)
 (try rw [show ((0 : Int)).toNat = 0 from rfl] at hx170_2)
 (try rw [show 0 * 3 = 0 from rfl] at hx170_2)
 (try rw [Addr.add_zero'] at hx170_2)
 have HR170_2 := aK hi170_2
 have HC170_2 := aK hl170_2
 clear hi170_2 hl170_2
 replace p170 := eq_true p170
 replace q170 := eq_true q170
 refine start_ (n := 29) (S := fun w' => w'.cell? ⟨g165, 0, none⟩ = some (.int .i64 t159) ∧ w'.cell? ⟨g165, 1, none⟩ = some (.int .i64 t160) ∧ w'.cell? ⟨g165, 2, none⟩ = some (.slice Ao181 t161.length co181) ∧ w'.cell? ad166 = some (.int .i64 ((rd_T26 t144 0).f0)) ∧ w'.cell? ⟨ad166.block, ad166.off + 1, none⟩ = some (.int .i64 ((rd_T26 t144 0).f1)) ∧ w'.cell? ⟨ad166.block, ad166.off + 2, none⟩ = some (.slice A170_2 ((rd_T26 t144 0).f2).length c170_2)) (ds := []) (bz [0, 29]) (by kernel_rfl) rfl rfl (cj3 B165.out ⟨hx170_0, hx170_1, hx170_2⟩) (fun hHeld => ?_); refine with_tabW laws_FnNowcast.tab28 laws_FnNowcast.bits28 (fun HT_ HW_ => ?_)
 generalize w184.drew = w185 at HO_17 O2 O3 HO163 B142 B143 B165 HB HL170_2 HR170_2 hx170_0 hx170_1 hx170_2 hHeld ⊢
 refine pz 0 159 [1, 28] HT_ ?_
 refine pz 1 160 [2, 27] HT_ ?_
 refine pz 2 161 [3, 26] HT_ ?_
 refine pz 3 162 [4, 25] HT_ ?_
 refine pz 4 163 [5, 24] HT_ ?_
 refine pz 6 165 [5, 1, 1, 22] HT_ ?_
 refine pz 7 166 [5, 1, 2, 21] HT_ ?_
 refine tz 5 164 [8, 21] HT_ HW_ rfl (by rintro w' ⟨s0, s1, s2, s3, s4, s5⟩; go_simp; with_reducible rfl) hHeld ?_
 refine tz 8 167 [9, 20] HT_ HW_ rfl (by rintro w' ⟨s0, s1, s2, s3, s4, s5⟩; go_simp; with_reducible rfl) hHeld ?_
 refine oz 9 168 [10, 19] HT_ fun K hK => ?_
 refine gs Try.func8 #[.agg #[.int .i64 t159, .int .i64 t160, .slice Ao181 t161.length co181], .agg #[.int .i64 ((rd_T26 t144 0).f0), .int .i64 ((rd_T26 t144 0).f1), .slice A170_2 ((rd_T26 t144 0).f2).length c170_2]] ?_
 with_reducible refine (laws_vField.calls k4 t159 t160 _ _ t161 ((rd_T26 t144 0).f0) ((rd_T26 t144 0).f1) _ _ ((rd_T26 t144 0).f2) true _ ?side1 ?side2 ?side3 ?side4 A140.out).mono ?_
 (case side1 => exact pC (Kd.R_reads' HO163.out).2.2)
 (case side2 => exact (Kd.R_reads' HO163.out).2.1)
 (case side3 => repeat (first | exact (pC HR170_2.out) | (with_reducible refine Kd.C_alloc ?_ _) | (with_reducible refine Kd.C_drewN ?_ _) | (with_reducible refine Kd.C_drew ?_)))
 (case side4 => exact HC170_2.out)
 rintro e w186 ⟨rfl, hb⟩
 have HS3_ := hs hb hHeld.2.2.2.1
 have HS4_ := hs hb hHeld.2.2.2.2.1
 have HS5_ := hs hb hHeld.2.2.2.2.2
 refine ⟨_, rfl, ?_⟩
 replace HO_17 := sb HO_17 hb
 replace O2 := qb O2 hb
 replace O3 := qb O3 hb
 replace HO163 := rb HO163 hb
 replace HL170_2 := rb HL170_2 hb
 replace HR170_2 := aK (Kd.C_below (pC HR170_2.out) hb)
 replace B142 := bB B142 hb
 replace B143 := bB B143 hb
 replace B165 := bB B165 hb
 replace HB := bS HB hb
 clear hb
 refine hK.out _ _ (cj3 B165.out ⟨HS3_, HS4_, HS5_⟩) (fun hHeld => ?_)
 clear hK K
 refine nm 168 ?_
 refine pz 10 169 [11, 18] HT_ ?_
 refine pz 11 170 [12, 17] HT_ ?_
 refine pz 12 171 [13, 16] HT_ ?_
 refine pz 13 172 [14, 15] HT_ ?_
 refine pz 14 173 [15, 14] HT_ ?_
 refine pz 15 174 [16, 13] HT_ ?_
 refine pz 16 175 [17, 12] HT_ ?_
 refine pz 17 176 [18, 11] HT_ ?_
 refine pz 18 177 [19, 10] HT_ ?_
 refine pz 19 178 [20, 9] HT_ ?_
 refine pz 20 179 [21, 8] HT_ ?_
 refine pz 21 180 [22, 7] HT_ ?_
 refine pz 22 181 [23, 6] HT_ ?_
 refine pz 23 182 [24, 5] HT_ ?_
 refine pz 24 183 [25, 4] HT_ ?_
 refine pd 25 184 [26, 3] HT_ ?_
 refine pd 26 185 [27, 2] HT_ ?_
 refine pz 27 186 [28, 1] HT_ ?_
 refine pz 28 2 [29, 0] HT_ ?_
 refine done_ (done_of HT_.out (by kernel_rfl)) ?_
 try go_wp2
 go_ret
 exact ⟨er, pT HB.out⟩
def laws_FnNowcast.Pure : Prop := ∀ (l0 : List Int), (l0.length ≤ 9223372036854775807 ∧ ∀ z0 ∈ l0, (Lit.int .u8 z0).wf = true) → l0.length * 1 ≤ 140737488351232 → ∃ k, laws_FnNowcast.f k l0 = some true
end Go.Proofs.Ytmekfmhnpinjlaa.P
