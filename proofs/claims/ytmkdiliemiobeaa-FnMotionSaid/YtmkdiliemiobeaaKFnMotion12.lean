/- Texts of the claim FnMotion, merged: part 12 of 13: the program's and the reference's functions as Lean functions, the walks that show it, and plain lemmas; no conditions. -/
import Derived.Test.YtmkdiliemiobeaaKFnMotion3
import Derived.Test.YtmkdiliemiobeaaKFnMotion6
import Derived.Test.YtmkdiliemiobeaaKFnMotion8
import Derived.Test.YtmkdiliemiobeaaKFnMotion10
import Derived.Test.YtmkdiliemiobeaaKFnMotion11
namespace Go.Proofs.Ytmkdiliemiobeaa.P
open Go.RowKit Go.Proofs.YtmkdiliemiobeaaW.PrintWords Go.Proofs.YtmkdiliemiobeaaW.PrintLast Go.Proofs.YtmkdiliemiobeaaW.PrintMore
attribute [local go_sem] max2_int min2_int max_two min_two max_three min_three max_four min_four
set_option linter.unusedVariables false
set_option linter.unusedSimpArgs false
set_option maxHeartbeats 8000000
set_option maxRecDepth 100000
attribute [local go_sem high] eqA33
mutual
def laws_FnMotion.j0 : Nat → List Int → List (S33) → List (S33) → Bool → Int → Int → List Int → Int → Int → List Int → Option (Bool)
 | 0, _, _, _, _, _, _, _, _, _, _ => none
 | k + 1, x0, x5, x7, x60, x113000, x113001, x113002, x114000, x114001, x114002 => if x60 = true then (some false) else ((impl_BestMotion.f k x113000 x113001 x113002 x114000 x114001 x114002).bind fun bt122 => (if (bt122.2.2 != (decide ((x5.length : Int) > 0))) = true then (laws_FnMotion.j1 k x0 x5 x7 true x113000 x113001 x113002 x114000 x114001 x114002 bt122.1 bt122.2.1) else (if bt122.2.2 = true then (if 0 < (x5.length : Int) then (laws_FnMotion.j1 k x0 x5 x7 (!(bt122.1 == ((rd_T33 x5 0).f0)) || (!(bt122.2.1 == ((rd_T33 x5 0).f1)))) x113000 x113001 x113002 x114000 x114001 x114002 bt122.1 bt122.2.1) else (none)) else (laws_FnMotion.j1 k x0 x5 x7 false x113000 x113001 x113002 x114000 x114001 x114002 bt122.1 bt122.2.1))))
def laws_FnMotion.j1 : Nat → List Int → List (S33) → List (S33) → Bool → Int → Int → List Int → Int → Int → List Int → Int → Int → Option (Bool)
 | 0, _, _, _, _, _, _, _, _, _, _, _, _ => none
 | k + 1, x0, x5, x7, x81, x113000, x113001, x113002, x114000, x114001, x114002, x126000, x126001 => if x81 = true then (some false) else (laws_FnMotion.l0 k x0 x5 x7 0 x113000 x113001 x113002 x114000 x114001 x114002 x126000 x126001)
def laws_FnMotion.l0 : Nat → List Int → List (S33) → List (S33) → Int → Int → Int → List Int → Int → Int → List Int → Int → Int → Option (Bool)
 | 0, _, _, _, _, _, _, _, _, _, _, _, _ => none
 | k + 1, x0, x5, x7, x11, x113000, x113001, x113002, x114000, x114001, x114002, x126000, x126001 => if x11 < (x5.length : Int) then (if 0 ≤ x11 then ((impl_MatchOf.f k x113000 x113001 x113002 x114000 x114001 x114002 ((rd_T33 x5 x11).f0) ((rd_T33 x5 x11).f1)).bind fun bt128 => ((impl_MatchOf.f k x113000 x113001 x113002 x114000 x114001 x114002 x126000 x126001).bind fun bt131 => (if x11 < (x7.length : Int) then (if (!(((rd_T33 x5 x11).f0) == ((rd_T33 x7 x11).f0)) || (!(((rd_T33 x5 x11).f1) == ((rd_T33 x7 x11).f1)))) = true then (some false) else (if bt128.2.2 = true then (if bt131.2.2 = true then (if bt128.2.1 < 1 then (some false) else (if (wrap64 (2 * bt128.2.1)) < (x113002.length : Int) then (some false) else (if (wrap64 (bt131.1 * bt128.2.1)) > (wrap64 (bt128.1 * bt131.2.1)) then (some false) else (laws_FnMotion.l0 k x0 x5 x7 (wrap64 (x11 + 1)) x113000 x113001 x113002 x114000 x114001 x114002 x126000 x126001)))) else (some false)) else (some false))) else (none)))) else (none)) else ((spec_DrawMatchOf.f k x0).bind fun bt136 => ((impl_MatchOf.f k bt136.1 bt136.2.1 bt136.2.2.1 bt136.2.2.2.1 bt136.2.2.2.2.1 bt136.2.2.2.2.2.1 bt136.2.2.2.2.2.2.1 bt136.2.2.2.2.2.2.2).bind fun bt151 => ((spec_MatchOf.f k bt136.1 bt136.2.1 bt136.2.2.1 bt136.2.2.2.1 bt136.2.2.2.2.1 bt136.2.2.2.2.2.1 bt136.2.2.2.2.2.2.1 bt136.2.2.2.2.2.2.2).bind fun bt154 => (if bt151.1 = bt154.1 then (if bt151.2.1 = bt154.2.1 then (laws_FnMotion.j3 k bt151.1 bt151.2.1 bt151.2.2 (bt151.2.2 != bt154.2.2) bt136.1 bt136.2.1 bt136.2.2.1 bt136.2.2.2.1 bt136.2.2.2.2.1 bt136.2.2.2.2.2.1 bt136.2.2.2.2.2.2.1 bt136.2.2.2.2.2.2.2) else (laws_FnMotion.j3 k bt151.1 bt151.2.1 bt151.2.2 true bt136.1 bt136.2.1 bt136.2.2.1 bt136.2.2.2.1 bt136.2.2.2.2.1 bt136.2.2.2.2.2.1 bt136.2.2.2.2.2.2.1 bt136.2.2.2.2.2.2.2)) else (laws_FnMotion.j3 k bt151.1 bt151.2.1 bt151.2.2 true bt136.1 bt136.2.1 bt136.2.2.1 bt136.2.2.2.1 bt136.2.2.2.2.1 bt136.2.2.2.2.2.1 bt136.2.2.2.2.2.2.1 bt136.2.2.2.2.2.2.2)))))
def laws_FnMotion.j3 : Nat → Int → Int → Bool → Bool → Int → Int → List Int → Int → Int → List Int → Int → Int → Option (Bool)
 | 0, _, _, _, _, _, _, _, _, _, _, _, _ => none
 | k + 1, x21, x22, x23, x179, x149000, x149001, x149002, x150000, x150001, x150002, x151000, x151001 => if x179 = true then (some false) else ((impl_ReverseMotion.f x151000 x151001).bind fun bt157 => (if x23 = true then ((impl_MatchOf.f k x150000 x150001 x150002 x149000 x149001 x149002 bt157.1 bt157.2.1).bind fun bt161 => (if bt157.2.2 = true then (if bt161.2.2 = true then (if bt161.1 = x21 then (if bt161.2.1 = x22 then (some true) else (some false)) else (some false)) else (some false)) else (some false))) else (some true)))
end
def laws_FnMotion.f (k : Nat) (l0 : List Int) : Option (Bool) := (laws_vBig.f l0).bind fun t101 => (if t101 = true then (some true) else ((spec_DrawRankMotions.f k l0).bind fun bt102 => ((impl_RankMotions.f k bt102.1 bt102.2.1 bt102.2.2.1 bt102.2.2.2.1 bt102.2.2.2.2.1 bt102.2.2.2.2.2).bind fun bt114 => ((spec_RankMotions.f k bt102.1 bt102.2.1 bt102.2.2.1 bt102.2.2.2.1 bt102.2.2.2.2.1 bt102.2.2.2.2.2).bind fun bt118 => (if (bt114.2 != bt118.2) = true then (laws_FnMotion.j0 k l0 bt114.1 bt118.1 true bt102.1 bt102.2.1 bt102.2.2.1 bt102.2.2.2.1 bt102.2.2.2.2.1 bt102.2.2.2.2.2) else (laws_FnMotion.j0 k l0 bt114.1 bt118.1 ((bt114.1.length : Int) != (bt118.1.length : Int)) bt102.1 bt102.2.1 bt102.2.2.1 bt102.2.2.2.1 bt102.2.2.2.2.1 bt102.2.2.2.2.2))))))
def laws_FnMotion.T9 : Bool × List (List Nat × List Nat) := (true, [([], []), ([], []), ([1], [1]), ([2], [2]), ([0, 3], [0, 3]), ([4], [4]), ([5], [5]), ([6, 5, 5], [5, 6]), ([7], [7]), ([7], [7]), ([9, 7], [7, 9]), ([10, 7], [7, 10]), ([8, 11, 7], [7, 8, 11]), ([7, 12, 5], [5, 7, 12]), ([5, 13], [5, 13])])
def laws_FnMotion.B9 : List Nat := [0, 0, 2, 6, 15, 31, 63, 127, 255, 255, 767, 1791, 4095, 8191, 16383]
theorem laws_FnMotion.tab9 : rtab .any (opsOf Try.f3 9) = laws_FnMotion.T9 := by kernel_rfl
theorem laws_FnMotion.bits9 : waitsOk laws_FnMotion.T9.2 laws_FnMotion.B9 = true := by kernel_rfl
def laws_FnMotion.T14 : Bool × List (List Nat × List Nat) := (true, [([], []), ([], []), ([], []), ([], []), ([2, 3], [2, 3]), ([4], [4]), ([0, 1, 5], [0, 1, 5]), ([6], [6]), ([7], [7]), ([7], [7]), ([7], [7]), ([8, 6, 0, 1, 2, 3, 4, 5, 6, 7, 8], [8]), ([9, 11, 0, 1, 2, 3, 4, 5, 6, 7, 8, 9, 11], [9]), ([10, 12, 0, 1, 2, 3, 4, 5, 6, 7, 8, 9, 10, 11, 12], [10])])
def laws_FnMotion.B14 : List Nat := [0, 0, 0, 0, 12, 28, 63, 127, 255, 255, 255, 511, 3071, 8191]
theorem laws_FnMotion.tab14 : rtab .any (opsOf Try.f3 14) = laws_FnMotion.T14 := by kernel_rfl
theorem laws_FnMotion.bits14 : waitsOk laws_FnMotion.T14.2 laws_FnMotion.B14 = true := by kernel_rfl
def laws_FnMotion.T16 : Bool × List (List Nat × List Nat) := (true, [([], []), ([], []), ([0, 1], [0, 1]), ([2], [2]), ([], []), ([], []), ([4, 5], [4, 5]), ([6], [6]), ([3, 7], [3, 7]), ([8], [8]), ([9], [9]), ([10, 9], [9, 10]), ([9, 11], [9, 11]), ([12, 9], [12]), ([13], [13]), ([14, 13], [13, 14]), ([13, 15], [13, 15]), ([16, 13], [16]), ([17], [17]), ([18, 17], [17, 18]), ([17, 19], [17, 19]), ([20, 17], [20]), ([21], [21]), ([22, 21], [21, 22]), ([21], [21]), ([24, 21], [21, 24]), ([25, 21], [21, 25]), ([23, 26, 21], [21, 23, 26]), ([21, 27], [21, 27]), ([28, 21], [28]), ([29], [29]), ([29], [29]), ([30, 31, 29], [29, 30, 31]), ([29], [29]), ([29], [29]), ([33, 34, 29], [29, 33, 34]), ([32, 35, 29], [29, 32, 35]), ([29, 36], [29, 36])])
def laws_FnMotion.B16 : List Nat := [0, 0, 3, 7, 0, 0, 48, 112, 255, 511, 1023, 2047, 4095, 8191, 16383, 32767, 65535, 131071, 262143, 524287, 1048575, 2097151, 4194303, 8388607, 4194303, 20971519, 54525951, 134217727, 268435455, 536870911, 1073741823, 1073741823, 4294967295, 1073741823, 1073741823, 26843545599, 68719476735, 137438953471]
theorem laws_FnMotion.tab16 : rtab .any (opsOf Try.f3 16) = laws_FnMotion.T16 := by kernel_rfl
theorem laws_FnMotion.bits16 : waitsOk laws_FnMotion.T16.2 laws_FnMotion.B16 = true := by kernel_rfl
theorem laws_FnMotion.calls (k : Nat) (A0 : Option Addr) (c0 : Nat) (l0 : List Int) (r : Bool) (w : World) (hr0 : Kd.C (Kd.int .u8) w A0 l0.length l0) (hc0 : l0.length ≤ c0) (h : laws_FnMotion.f k l0 = some r) :
  Calls Try.prog 3 #[.slice A0 l0.length c0] w fun e w' => e = .returned (.bool r) ∧ Below w.heap.size w w' := by
 have hu26 := Try.underlying26
 have hu33 := Try.underlying33
 have HR0 := Aside0.mk hr0
 have HC0 := Aside0.mk hc0
 clear hr0 hc0
 have HB := aK (Below.refl w.heap.size w)
 have H : ((laws_vBig.f l0).bind fun t101 => (if t101 = true then (some true) else ((spec_DrawRankMotions.f k l0).bind fun bt102 => ((impl_RankMotions.f k bt102.1 bt102.2.1 bt102.2.2.1 bt102.2.2.2.1 bt102.2.2.2.2.1 bt102.2.2.2.2.2).bind fun bt114 => ((spec_RankMotions.f k bt102.1 bt102.2.1 bt102.2.2.1 bt102.2.2.2.1 bt102.2.2.2.2.1 bt102.2.2.2.2.2).bind fun bt118 => (if (bt114.2 != bt118.2) = true then (laws_FnMotion.j0 k l0 bt114.1 bt118.1 true bt102.1 bt102.2.1 bt102.2.2.1 bt102.2.2.2.1 bt102.2.2.2.2.1 bt102.2.2.2.2.2) else (laws_FnMotion.j0 k l0 bt114.1 bt118.1 ((bt114.1.length : Int) != (bt118.1.length : Int)) bt102.1 bt102.2.1 bt102.2.2.1 bt102.2.2.2.1 bt102.2.2.2.2.1 bt102.2.2.2.2.2))))))) = some r := h
 clear h
 replace H := Option.bind_eq_some_iff.mp H
 obtain ⟨t101, A20, H⟩ := H
 replace H : (if t101 = true then (some true) else ((spec_DrawRankMotions.f k l0).bind fun bt102 => ((impl_RankMotions.f k bt102.1 bt102.2.1 bt102.2.2.1 bt102.2.2.2.1 bt102.2.2.2.2.1 bt102.2.2.2.2.2).bind fun bt114 => ((spec_RankMotions.f k bt102.1 bt102.2.1 bt102.2.2.1 bt102.2.2.2.1 bt102.2.2.2.2.1 bt102.2.2.2.2.2).bind fun bt118 => (if (bt114.2 != bt118.2) = true then (laws_FnMotion.j0 k l0 bt114.1 bt118.1 true bt102.1 bt102.2.1 bt102.2.2.1 bt102.2.2.2.1 bt102.2.2.2.2.1 bt102.2.2.2.2.2) else (laws_FnMotion.j0 k l0 bt114.1 bt118.1 ((bt114.1.length : Int) != (bt118.1.length : Int)) bt102.1 bt102.2.1 bt102.2.2.1 bt102.2.2.2.1 bt102.2.2.2.2.1 bt102.2.2.2.2.2)))))) = some r := H
 have A2 := Aside0.mk A20
 clear A20
 by_cases c3 : t101 = true
 ·
  subst c3
  have H1 : (some true) = some r := by rw [if_pos rfl] at H; exact H
  clear H; have H := H1; clear H1
  obtain rfl := Option.some.inj H
  go_enter Try.func3, Try.ntmps3
  go_wp2_with (first | ((with_reducible refine gate_callee (f := 4) rfl ?_); refine gl (some 33) Try.func4 #[.slice A0 l0.length c0] ?_; (with_reducible refine (laws_vBig.calls _ _ l0 true _ ?side1 ?side2 A2.out).mono ?_); (case side1 => exact pC HR0.out); (case side2 => exact HC0.out); rintro e w' ⟨rfl, ⟨nd, rfl⟩⟩; refine ⟨_, rfl, ?_⟩))
  go_ret
  exact ⟨er, pT HB.out⟩
 replace c3 := Bool.eq_false_iff.mpr c3
 subst c3
 have H1 : ((spec_DrawRankMotions.f k l0).bind fun bt102 => ((impl_RankMotions.f k bt102.1 bt102.2.1 bt102.2.2.1 bt102.2.2.2.1 bt102.2.2.2.2.1 bt102.2.2.2.2.2).bind fun bt114 => ((spec_RankMotions.f k bt102.1 bt102.2.1 bt102.2.2.1 bt102.2.2.2.1 bt102.2.2.2.2.1 bt102.2.2.2.2.2).bind fun bt118 => (if (bt114.2 != bt118.2) = true then (laws_FnMotion.j0 k l0 bt114.1 bt118.1 true bt102.1 bt102.2.1 bt102.2.2.1 bt102.2.2.2.1 bt102.2.2.2.2.1 bt102.2.2.2.2.2) else (laws_FnMotion.j0 k l0 bt114.1 bt118.1 ((bt114.1.length : Int) != (bt118.1.length : Int)) bt102.1 bt102.2.1 bt102.2.2.1 bt102.2.2.2.1 bt102.2.2.2.2.1 bt102.2.2.2.2.2))))) = some r := by rw [if_neg (show ¬ (false = true) by decide)] at H; exact H
 clear H
 have H := H1
 clear H1
 replace H := Option.bind_eq_some_iff.mp H
 obtain ⟨⟨t102, t103, t104, t107, t108, t109⟩, A40, H⟩ := H
 replace H : ((impl_RankMotions.f k t102 t103 t104 t107 t108 t109).bind fun bt114 => ((spec_RankMotions.f k t102 t103 t104 t107 t108 t109).bind fun bt118 => (if (bt114.2 != bt118.2) = true then (laws_FnMotion.j0 k l0 bt114.1 bt118.1 true t102 t103 t104 t107 t108 t109) else (laws_FnMotion.j0 k l0 bt114.1 bt118.1 ((bt114.1.length : Int) != (bt118.1.length : Int)) t102 t103 t104 t107 t108 t109)))) = some r := H
 have A4 := Aside0.mk A40
 clear A40
 replace H := Option.bind_eq_some_iff.mp H
 obtain ⟨⟨t114, t117⟩, A50, H⟩ := H
 replace H : ((spec_RankMotions.f k t102 t103 t104 t107 t108 t109).bind fun bt118 => (if (t117 != bt118.2) = true then (laws_FnMotion.j0 k l0 t114 bt118.1 true t102 t103 t104 t107 t108 t109) else (laws_FnMotion.j0 k l0 t114 bt118.1 ((t114.length : Int) != (bt118.1.length : Int)) t102 t103 t104 t107 t108 t109))) = some r := H
 have A5 := Aside0.mk A50
 clear A50
 replace H := Option.bind_eq_some_iff.mp H
 obtain ⟨⟨t118, t121⟩, A60, H⟩ := H
 replace H : (if (t117 != t121) = true then (laws_FnMotion.j0 k l0 t114 t118 true t102 t103 t104 t107 t108 t109) else (laws_FnMotion.j0 k l0 t114 t118 ((t114.length : Int) != (t118.length : Int)) t102 t103 t104 t107 t108 t109)) = some r := H
 have A6 := Aside0.mk A60
 clear A60
 have HC7 := Aside0.mk H
 clear H
 go_enter Try.func3, Try.ntmps3
 go_upto_region 6 with (first | ((with_reducible refine gate_callee (f := 4) rfl ?_); refine gl (some 33) Try.func4 #[.slice A0 l0.length c0] ?_; (with_reducible refine (laws_vBig.calls _ _ l0 false _ ?side1 ?side2 A2.out).mono ?_); (case side1 => exact pC HR0.out); (case side2 => exact HC0.out); rintro e w' ⟨rfl, ⟨nd, rfl⟩⟩; refine ⟨_, rfl, ?_⟩) | ((with_reducible refine gate_callee (f := 5) rfl ?_); refine gl (some 36) Try.func5 #[.slice A0 l0.length c0] ?_; (with_reducible refine (spec_DrawRankMotions.calls k _ _ l0 t102 t103 t104 t107 t108 t109 _ ?side1 ?side2 A4.out).mono ?_); (case side1 => exact pC HR0.out); (case side2 => exact HC0.out); rintro e w8 ⟨v105, v110, rfl, ho0, ho1, hb⟩; refine ⟨_, rfl, ?_⟩; have HO106 := aK (Kd.Q_lower ho0 (below_size (pS HB.out))); have HO111 := aK (Kd.Q_lower ho1 (below_size (pS HB.out))); replace HB := bS HB hb; (try clear hb); (try clear hb2); (try clear hk); (try clear hi); (try clear ho0); (try clear ho1)) | ((with_reducible refine gate_dst (N := 3) rfl ?_); (try (refine gate_guard (by rfl) ?_; dsimp only)); refine bxe (cs := #[.int .i64 0, .int .i64 0, .slice none 0 0]) (t := 26) ?_; intro gb112 hg w9 hbox hb; replace HO106 := aK (Kd.Q_below (pQ HO106.out) hb); replace HO111 := aK (Kd.Q_below (pQ HO111.out) hb); have BK112 := aK (hbox); have GW112 := aK (gE hg (pS HB.out)); have GE112 := GW112; replace HB := bS HB hb; clear hb hbox hg) | ((with_reducible refine gate_dst (N := 4) rfl ?_); (try (refine gate_guard (by rfl) ?_; dsimp only)); refine bxe (cs := #[.int .i64 0, .int .i64 0, .slice none 0 0]) (t := 26) ?_; intro gb113 hg w10 hbox hb; replace HO106 := aK (Kd.Q_below (pQ HO106.out) hb); replace HO111 := aK (Kd.Q_below (pQ HO111.out) hb); have BK113 := aK (hbox); have GW113 := aK (gE hg (pS HB.out)); have GE113 := GW113; obtain ⟨NB112_113, NB113_112⟩ := nb hg (pB BK112.out); replace BK112 := bB BK112 hb; replace HB := bS HB hb; clear hb hbox hg; obtain ⟨hnb11, hnc11⟩ := nB NB112_113; obtain ⟨z12_0, z12_1, z12_2, y12_0, y12_1, y12_2⟩ := bc3 BK112.out; obtain ⟨Ao13, co13, eo13, _⟩ := Kd.Q_slice HO106.out; subst eo13) | ((with_reducible refine gate_store (t := 26) (p := 3) rfl ?_); refine store_event (t := 26) (p := 3) (v := ?vo_w14) (w1 := (((w10.setCell ⟨gb112, 0, none⟩ (.int .i64 t102)).setCell ⟨gb112, 1, none⟩ (.int .i64 t103)).setCell ⟨gb112, 2, none⟩ (.slice Ao13 t104.length co13))) ?hg ?ho ?hn ?hr ?_; (case ho => rfl); (case hg => rfl); (case hn => rfl); (case hr => first | (go_simp; done) | (go_simp; rfl)); intro w14 hw; replace HO106 : Aside0 (Kd.Q (Kd.int .i64) 3 w14 w.heap.size (fun k_ => some k_ ≠ (v110 : Value).ownBlock) (.slice Ao13 t104.length co13) t104) := ⟨(by rw [hw]; exact (pQ (qF3 HO106.out BK112.out (.int .i64 t102) (.int .i64 t103) (.slice Ao13 t104.length co13))))⟩; replace HO111 : Aside0 (Kd.Q (Kd.int .i64) 3 w14 w.heap.size (fun k_ => some k_ ≠ (.slice Ao13 t104.length co13 : Value).ownBlock) v110 t109) := ⟨(by rw [hw]; exact (pQ (qF3 HO111.out BK112.out (.int .i64 t102) (.int .i64 t103) (.slice Ao13 t104.length co13))))⟩; replace BK112 : Aside0 (w14.heap[gb112]? = some (.cells #[.int .i64 t102, .int .i64 t103, .slice Ao13 t104.length co13] 26 (0, 0))) := ⟨(by rw [hw]; exact (by refine bk ?_; refine blk_put (cs := #[.int .i64 t102, .int .i64 t103, .slice none 0 0]) ?_ 2 _ rfl; refine bk ?_; refine blk_put (cs := #[.int .i64 t102, .int .i64 0, .slice none 0 0]) ?_ 1 _ rfl; refine bk ?_; refine blk_put (cs := #[.int .i64 0, .int .i64 0, .slice none 0 0]) ?_ 0 _ rfl; refine bk ?_; exact BK112.out))⟩; replace BK113 : Aside0 (w14.heap[gb113]? = some (.cells #[.int .i64 0, .int .i64 0, .slice none 0 0] 26 (0, 0))) := ⟨(by rw [hw]; exact (by refine bk ?_; refine blk_far ?_ NB113_112.out _; refine bk ?_; refine blk_far ?_ NB113_112.out _; refine bk ?_; refine blk_far ?_ NB113_112.out _; refine bk ?_; exact BK113.out))⟩; replace HB : Aside0 (Below w.heap.size w w14) := ⟨(by rw [hw]; exact (pS HB.out))⟩; clear hw; obtain ⟨z15_0, z15_1, z15_2, y15_0, y15_1, y15_2⟩ := bc3 BK113.out; obtain ⟨Ao16, co16, eo16, _⟩ := Kd.Q_slice HO111.out; subst eo16) | ((with_reducible refine gate_store (t := 26) (p := 4) rfl ?_); refine store_event (t := 26) (p := 4) (v := ?vo_w17) (w1 := (((w14.setCell ⟨gb113, 0, none⟩ (.int .i64 t107)).setCell ⟨gb113, 1, none⟩ (.int .i64 t108)).setCell ⟨gb113, 2, none⟩ (.slice Ao16 t109.length co16))) ?hg ?ho ?hn ?hr ?_; (case ho => rfl); (case hg => rfl); (case hn => rfl); (case hr => first | (go_simp; done) | (go_simp; rfl)); intro w17 hw; replace HO106 : Aside0 (Kd.Q (Kd.int .i64) 3 w17 w.heap.size (fun k_ => some k_ ≠ (.slice Ao16 t109.length co16 : Value).ownBlock) (.slice Ao13 t104.length co13) t104) := ⟨(by rw [hw]; exact (pQ (qF3 HO106.out BK113.out (.int .i64 t107) (.int .i64 t108) (.slice Ao16 t109.length co16))))⟩; replace HO111 : Aside0 (Kd.Q (Kd.int .i64) 3 w17 w.heap.size (fun k_ => some k_ ≠ (.slice Ao13 t104.length co13 : Value).ownBlock) (.slice Ao16 t109.length co16) t109) := ⟨(by rw [hw]; exact (pQ (qF3 HO111.out BK113.out (.int .i64 t107) (.int .i64 t108) (.slice Ao16 t109.length co16))))⟩; replace BK112 : Aside0 (w17.heap[gb112]? = some (.cells #[.int .i64 t102, .int .i64 t103, .slice Ao13 t104.length co13] 26 (0, 0))) := ⟨(by rw [hw]; exact (by refine bk ?_; refine blk_far ?_ NB112_113.out _; refine bk ?_; refine blk_far ?_ NB112_113.out _; refine bk ?_; refine blk_far ?_ NB112_113.out _; refine bk ?_; exact BK112.out))⟩; replace BK113 : Aside0 (w17.heap[gb113]? = some (.cells #[.int .i64 t107, .int .i64 t108, .slice Ao16 t109.length co16] 26 (0, 0))) := ⟨(by rw [hw]; exact (by refine bk ?_; refine blk_put (cs := #[.int .i64 t107, .int .i64 t108, .slice none 0 0]) ?_ 2 _ rfl; refine bk ?_; refine blk_put (cs := #[.int .i64 t107, .int .i64 0, .slice none 0 0]) ?_ 1 _ rfl; refine bk ?_; refine blk_put (cs := #[.int .i64 0, .int .i64 0, .slice none 0 0]) ?_ 0 _ rfl; refine bk ?_; exact BK113.out))⟩; replace HB : Aside0 (Below w.heap.size w w17) := ⟨(by rw [hw]; exact (pS HB.out))⟩; clear hw; obtain ⟨z18_0, z18_1, z18_2, y18_0, y18_1, y18_2⟩ := bc3 BK112.out; obtain ⟨z19_0, z19_1, z19_2, y19_0, y19_1, y19_2⟩ := bc3 BK113.out) | ((with_reducible refine gate_callee (f := 6) rfl ?_); refine gl (some 42) Try.func6 #[.agg #[.int .i64 t102, .int .i64 t103, .slice Ao13 t104.length co13], .agg #[.int .i64 t107, .int .i64 t108, .slice Ao16 t109.length co16]] ?_; (with_reducible refine (impl_RankMotions.calls k t102 t103 (fun k_ => some k_ = (.slice Ao13 t104.length co13 : Value).ownBlock) _ _ t104 t107 t108 (fun k_ => some k_ = (.slice Ao16 t109.length co16 : Value).ownBlock) _ _ t109 t114 t117 _ ?side1 ?side2 A5.out).mono ?_); (case side1 => exact Kd.Q_V (Kd.Q_tight rfl (Kd.Q_types (Kd.Q_types (HO106.out) BK112.out (by decide)) BK113.out (by decide)))); (case side2 => exact Kd.Q_V (Kd.Q_tight rfl (Kd.Q_types (Kd.Q_types (HO111.out) BK112.out (by decide)) BK113.out (by decide)))); rintro e w20 ⟨v115, rfl, ho0, hb⟩; refine ⟨_, rfl, ?_⟩; replace HO106 := aK (Kd.Q_below (pQ HO106.out) hb); replace HO111 := aK (Kd.Q_below (pQ HO111.out) hb); have HO116 := aK (Kd.R_lower (Kd.R_mono (ok' := fun k_ => True) ho0 (fun _ hk_ => trivial)) (below_size (pS HB.out))); replace BK112 := bB BK112 hb; replace BK113 := bB BK113 hb; replace HB := bS HB hb; (try clear hb); (try clear hb2); (try clear hk); (try clear hi); (try clear ho0); obtain ⟨z21_0, z21_1, z21_2, y21_0, y21_1, y21_2⟩ := bc3 BK112.out; obtain ⟨z22_0, z22_1, z22_2, y22_0, y22_1, y22_2⟩ := bc3 BK113.out) | ((with_reducible refine gate_callee (f := 7) rfl ?_); refine gl (some 48) Try.func7 #[.agg #[.int .i64 t102, .int .i64 t103, .slice Ao13 t104.length co13], .agg #[.int .i64 t107, .int .i64 t108, .slice Ao16 t109.length co16]] ?_; (with_reducible refine (spec_RankMotions.calls k t102 t103 _ _ t104 t107 t108 _ _ t109 t118 t121 _ ?side1 ?side2 ?side3 ?side4 A6.out).mono ?_); (case side1 => exact pC (Kd.Q_reads' HO106.out).2.2); (case side2 => exact (Kd.Q_reads' HO106.out).2.1); (case side3 => exact pC (Kd.Q_reads' HO111.out).2.2); (case side4 => exact (Kd.Q_reads' HO111.out).2.1); rintro e w23 ⟨v119, rfl, ho0, hb⟩; refine ⟨_, rfl, ?_⟩; replace HO106 := aK (Kd.Q_below (pQ HO106.out) hb); replace HO111 := aK (Kd.Q_below (pQ HO111.out) hb); have n2_ := aK (Kd.R_elder' (pR HO116.out) (Kd.R_base ho0) hb); have HO120 := aK (Kd.R_lower (nw1 ho0 (pR HO116.out)) (below_size (pS HB.out))); replace BK112 := bB BK112 hb; replace BK113 := bB BK113 hb; replace HB := bS HB hb; clear HO116; have HO116 := n2_; clear n2_; (try clear hb); (try clear hb2); (try clear hk); (try clear hi); (try clear ho0)))
 (try simp only [Act.put, List.setIfInBounds_toArray, List.set_cons_zero, List.set_cons_succ])
 go_cut [60] (fun v60 wc => ∃ (kq : Nat) (x60_6 : Bool), v60 = .bool x60_6 ∧ Aside0 (laws_FnMotion.j0 kq l0 t114 t118 x60_6 t102 t103 t104 t107 t108 t109 = some r) ∧ Aside0 (kq ≤ k) ∧ Aside0 (Kd.R k33 33 wc w.heap.size (fun k_ => some k_ ≠ (v119 : Value).ownBlock) v115 t114) ∧ Aside0 (Kd.R k33 33 wc w.heap.size (fun k_ => some k_ ≠ (v115 : Value).ownBlock) v119 t118) ∧ Aside0 (Kd.Q (Kd.int .i64) 3 wc w.heap.size (fun k_ => some k_ ≠ ((.slice Ao16 t109.length co16) : Value).ownBlock) (.slice Ao13 t104.length co13) t104) ∧ Aside0 (Kd.Q (Kd.int .i64) 3 wc w.heap.size (fun k_ => some k_ ≠ ((.slice Ao13 t104.length co13) : Value).ownBlock) (.slice Ao16 t109.length co16) t109) ∧ Aside0 (wc.heap[gb112]? = some (.cells #[.int .i64 t102, .int .i64 t103, (.slice Ao13 t104.length co13)] 26 (0, 0))) ∧ Aside0 (wc.heap[gb113]? = some (.cells #[.int .i64 t107, .int .i64 t108, (.slice Ao16 t109.length co16)] 26 (0, 0))) ∧ Aside0 (Below w.heap.size w wc))
 case first => as_aux_lemma =>
  have H := HC7.out; clear HC7
  by_cases c24 : (t117 != t121) = true
  ·
   rw [if_pos c24] at H
   have c24b0 : (t117 != t121) = true := c24
   (try (have c24b1 : decide (t117 = t121) = false := by simpa using c24))
   (try (have c24b2 : (t117 == t121) = false := by simpa using c24))
   (try (have c24b3 : ¬ (t117 = t121) := by simpa using c24))
   clear c24
   (first | rw [c24b0] | (simp only [i64_w, i32_w]; rw [c24b0]) | skip)
   have H' := Aside0.mk H; clear H
   go_wp2
   go_meet
   case rel => exact ⟨_, (true), (by first | rfl | (simp; done) | (simp [*]; done)), H', ⟨by first | omega | exact Nat.le_refl _⟩, ⟨pR (Kd.R_mono HO116.out (fun _ hk => hk.2))⟩, ⟨pR (Kd.R_mono HO120.out (fun _ hk => hk.2))⟩, ⟨pQ HO106.out⟩, ⟨pQ HO111.out⟩, ⟨by refine bk ?_; exact BK112.out⟩, ⟨by refine bk ?_; exact BK113.out⟩, ⟨pT HB.out⟩⟩
  rw [if_neg c24] at H
  have c24b0 : (t117 != t121) = false := by simpa using c24
  (try (have c24b1 : decide (t117 = t121) = true := by simpa using c24))
  (try (have c24b2 : (t117 == t121) = true := by simpa using c24))
  clear c24
  (first | rw [c24b0] | (simp only [i64_w, i32_w]; rw [c24b0]) | skip)
  have H' := Aside0.mk H; clear H; obtain ⟨Ao25, co25, eo25⟩ := Kd.R_slice HO116.out; subst eo25; obtain ⟨Ao26, co26, eo26⟩ := Kd.R_slice HO120.out; subst eo26
  go_wp2
  go_meet
  case rel => exact ⟨_, (((t114.length : Int) != (t118.length : Int))), (by first | rfl | (simp; done) | (simp [*]; done)), H', ⟨by first | omega | exact Nat.le_refl _⟩, ⟨pR (Kd.R_mono HO116.out (fun _ hk => hk.2))⟩, ⟨pR (Kd.R_mono HO120.out (fun _ hk => hk.2))⟩, ⟨pQ HO106.out⟩, ⟨pQ HO111.out⟩, ⟨by refine bk ?_; exact BK112.out⟩, ⟨by refine bk ?_; exact BK113.out⟩, ⟨pT HB.out⟩⟩
 case rest => as_aux_lemma =>
  clear HC7
  try clear c1
  try clear c2
  try clear p2
  try clear c3
  try clear c4
  try clear c5
  try clear c6
  try clear c7
  try clear c11
  try clear c24
  try clear c24b0
  try clear c24b1
  try clear c24b2
  try clear z12_0
  try clear z12_1
  try clear z12_2
  try clear z15_0
  try clear z15_1
  try clear z15_2
  try clear z18_0
  try clear z18_1
  try clear z18_2
  try clear z19_0
  try clear z19_1
  try clear z19_2
  try clear z21_0
  try clear z21_1
  try clear z21_2
  try clear z22_0
  try clear z22_1
  try clear z22_2
  try clear y12_0
  try clear y12_1
  try clear y12_2
  try clear y15_0
  try clear y15_1
  try clear y15_2
  try clear y18_0
  try clear y18_1
  try clear y18_2
  try clear y19_0
  try clear y19_1
  try clear y19_2
  try clear y21_0
  try clear y21_1
  try clear y21_2
  try clear y22_0
  try clear y22_1
  try clear y22_2
  obtain ⟨kq, x60_6, rfl, HA, HJ6, HO_5, HO_7, HO_113002, HO_114002, BK112, BK113, HB⟩ := hcut
  cases kq with
  | zero => exact absurd HA.out (by simp [laws_FnMotion.j0])
  | succ kj6 =>
   have H := HA.out; clear HA
   simp only [laws_FnMotion.j0] at H
   by_cases c27 : x60_6 = true
   ·
    subst c27
    have H1 : (some false) = some r := by rw [if_pos rfl] at H; exact H
    clear H; have H := H1; clear H1
    obtain rfl := Option.some.inj H
    go_wp2
    go_ret
    exact ⟨er, pT HB.out⟩
   replace c27 := Bool.eq_false_iff.mpr c27; subst c27
   have H1 : ((impl_BestMotion.f kj6 t102 t103 t104 t107 t108 t109).bind fun bt122 => (if (bt122.2.2 != (decide ((t114.length : Int) > 0))) = true then (laws_FnMotion.j1 kj6 l0 t114 t118 true t102 t103 t104 t107 t108 t109 bt122.1 bt122.2.1) else (if bt122.2.2 = true then (if 0 < (t114.length : Int) then (laws_FnMotion.j1 kj6 l0 t114 t118 (!(bt122.1 == ((rd_T33 t114 0).f0)) || (!(bt122.2.1 == ((rd_T33 t114 0).f1)))) t102 t103 t104 t107 t108 t109 bt122.1 bt122.2.1) else (none)) else (laws_FnMotion.j1 kj6 l0 t114 t118 false t102 t103 t104 t107 t108 t109 bt122.1 bt122.2.1)))) = some r := by rw [if_neg (show ¬ (false = true) by decide)] at H; exact H
   clear H; have H := H1; clear H1; replace H := Option.bind_eq_some_iff.mp H
   obtain ⟨⟨t122, t123, t124⟩, A280, H⟩ := H
   replace H : (if (t124 != (decide ((t114.length : Int) > 0))) = true then (laws_FnMotion.j1 kj6 l0 t114 t118 true t102 t103 t104 t107 t108 t109 t122 t123) else (if t124 = true then (if 0 < (t114.length : Int) then (laws_FnMotion.j1 kj6 l0 t114 t118 (!(t122 == ((rd_T33 t114 0).f0)) || (!(t123 == ((rd_T33 t114 0).f1)))) t102 t103 t104 t107 t108 t109 t122 t123) else (none)) else (laws_FnMotion.j1 kj6 l0 t114 t118 false t102 t103 t104 t107 t108 t109 t122 t123))) = some r := H
   have A28 := Aside0.mk A280; clear A280; have HC29 := Aside0.mk H; clear H; obtain ⟨hnb30, hnc30⟩ := nB NB112_113; obtain ⟨z31_0, z31_1, z31_2, y31_0, y31_1, y31_2⟩ := bc3 BK112.out; obtain ⟨z32_0, z32_1, z32_2, y32_0, y32_1, y32_2⟩ := bc3 BK113.out
   go_upto_region 9 with (first | ((with_reducible refine gate_callee (f := 8) rfl ?_); refine gl (some 64) Try.func8 #[.agg #[.int .i64 t102, .int .i64 t103, .slice Ao13 t104.length co13], .agg #[.int .i64 t107, .int .i64 t108, .slice Ao16 t109.length co16]] ?_; (with_reducible refine (impl_BestMotion.calls kj6 t102 t103 _ _ t104 t107 t108 _ _ t109 t122 t123 t124 _ ?side1 ?side2 ?side3 ?side4 A28.out).mono ?_); (case side1 => exact pC (Kd.Q_reads' HO_113002.out).2.2); (case side2 => exact (Kd.Q_reads' HO_113002.out).2.1); (case side3 => exact pC (Kd.Q_reads' HO_114002.out).2.2); (case side4 => exact (Kd.Q_reads' HO_114002.out).2.1); rintro e w33 ⟨rfl, hb⟩; refine ⟨_, rfl, ?_⟩; replace HO_5 := aK (Kd.R_below (pR HO_5.out) hb); replace HO_7 := aK (Kd.R_below (pR HO_7.out) hb); replace HO_113002 := aK (Kd.Q_below (pQ HO_113002.out) hb); replace HO_114002 := aK (Kd.Q_below (pQ HO_114002.out) hb); replace BK112 := bB BK112 hb; replace BK113 := bB BK113 hb; replace HB := bS HB hb; (try clear hb); (try clear hb2); (try clear hk); (try clear hi)) | ((with_reducible refine gate_dst (N := 9) rfl ?_); (try (refine gate_guard (by rfl) ?_; dsimp only)); refine bxe (cs := #[.int .i64 0, .int .i64 0]) (t := 33) ?_; intro gb125 hg w34 hbox hb; replace HO_5 := aK (Kd.R_below (Kd.R_elderB (pR HO_5.out) gb125 (Nat.le_of_eq hg.symm)) hb); replace HO_7 := aK (Kd.R_below (Kd.R_elderB (pR HO_7.out) gb125 (Nat.le_of_eq hg.symm)) hb); replace HO_113002 := aK (Kd.Q_below (pQ HO_113002.out) hb); replace HO_114002 := aK (Kd.Q_below (pQ HO_114002.out) hb); have BK125 := aK (hbox); have GW125 := aK (gE hg (pS HB.out)); have GE125 := GW125; obtain ⟨NB112_125, NB125_112⟩ := nb hg (pB BK112.out); obtain ⟨NB113_125, NB125_113⟩ := nb hg (pB BK113.out); replace BK112 := bB BK112 hb; replace BK113 := bB BK113 hb; replace HB := bS HB hb; clear hb hbox hg; obtain ⟨hnb35, hnc35⟩ := nB NB125_112; obtain ⟨hnb36, hnc36⟩ := nB NB125_113; obtain ⟨z37_0, z37_1, y37_0, y37_1⟩ := bc2 BK125.out))
   (try simp only [Act.put, List.setIfInBounds_toArray, List.set_cons_zero, List.set_cons_succ])
   go_cut [81] (fun v81 wc => ∃ (kq : Nat) (x81_28 : Bool), v81 = .bool x81_28 ∧ Aside0 (laws_FnMotion.j1 kq l0 t114 t118 x81_28 t102 t103 t104 t107 t108 t109 t122 t123 = some r) ∧ Aside0 (kq ≤ kj6) ∧ Aside0 (Kd.R k33 33 wc w.heap.size (fun k_ => some k_ ≠ (v119 : Value).ownBlock ∧ k_ ≠ gb125) v115 t114) ∧ Aside0 (Kd.R k33 33 wc w.heap.size (fun k_ => some k_ ≠ (v115 : Value).ownBlock ∧ k_ ≠ gb125) v119 t118) ∧ Aside0 (Kd.Q (Kd.int .i64) 3 wc w.heap.size (fun k_ => some k_ ≠ ((.slice Ao16 t109.length co16) : Value).ownBlock) (.slice Ao13 t104.length co13) t104) ∧ Aside0 (Kd.Q (Kd.int .i64) 3 wc w.heap.size (fun k_ => some k_ ≠ ((.slice Ao13 t104.length co13) : Value).ownBlock) (.slice Ao16 t109.length co16) t109) ∧ Aside0 (wc.heap[gb112]? = some (.cells #[.int .i64 t102, .int .i64 t103, (.slice Ao13 t104.length co13)] 26 (0, 0))) ∧ Aside0 (wc.heap[gb113]? = some (.cells #[.int .i64 t107, .int .i64 t108, (.slice Ao16 t109.length co16)] 26 (0, 0))) ∧ Aside0 (wc.heap[gb125]? = some (.cells #[.int .i64 t122, .int .i64 t123] 33 (0, 0))) ∧ Aside0 (Below w.heap.size w wc))
   case first => as_aux_lemma =>
    have H := HC29.out; clear HC29
    by_cases c38 : (t124 != (decide ((t114.length : Int) > 0))) = true
    ·
     rw [if_pos c38] at H
     have c38b0 : (t124 != (decide ((t114.length : Int) > 0))) = true := c38
     have c38b9 : (!(t124 == decide (0 < t114.length))) = true := by (have e_ : decide ((t114.length : Int) > 0) = decide (0 < t114.length) := decide_eq_decide.2 (by omega)); have h_ := c38b0; rw [e_] at h_; exact h_
     (try (have c38b1 : decide (t124 = (decide ((t114.length : Int) > 0))) = false := by simpa using c38))
     (try (have c38b2 : (t124 == (decide ((t114.length : Int) > 0))) = false := by simpa using c38))
     (try (have c38b3 : ¬ (t124 = (decide ((t114.length : Int) > 0))) := by simpa using c38))
     clear c38
     (first | rw [c38b0] | (simp only [i64_w, i32_w]; rw [c38b0]) | skip)
     have H' := Aside0.mk H; clear H
     try go_wp2
     have n0_ : Aside0 (Kd.R k33 33 ((w34.setCell ⟨gb125, 0, none⟩ (.int .i64 t122)).setCell ⟨gb125, 1, none⟩ (.int .i64 t123)) w.heap.size (fun k_ => some k_ ≠ (v119 : Value).ownBlock ∧ k_ ≠ gb125) v115 t114) := ⟨pR (Kd.R_mono (Kd.R_far (p := ⟨gb125, 1, none⟩) (Kd.R_far (p := ⟨gb125, 0, none⟩) (Kd.R_mono HO_5.out (fun k_ hk => (⟨hk, hk.2⟩ : _ ∧ k_ ≠ gb125))) (fun _ hk => hk.2) (.int .i64 t122)) (fun _ hk => hk.2) (.int .i64 t123)) (fun _ hk => ⟨hk.1.1, hk.1.2⟩))⟩
     have n1_ : Aside0 (Kd.R k33 33 ((w34.setCell ⟨gb125, 0, none⟩ (.int .i64 t122)).setCell ⟨gb125, 1, none⟩ (.int .i64 t123)) w.heap.size (fun k_ => some k_ ≠ (v115 : Value).ownBlock ∧ k_ ≠ gb125) v119 t118) := ⟨pR (Kd.R_mono (Kd.R_far (p := ⟨gb125, 1, none⟩) (Kd.R_far (p := ⟨gb125, 0, none⟩) (Kd.R_mono HO_7.out (fun k_ hk => (⟨hk, hk.2⟩ : _ ∧ k_ ≠ gb125))) (fun _ hk => hk.2) (.int .i64 t122)) (fun _ hk => hk.2) (.int .i64 t123)) (fun _ hk => ⟨hk.1.1, hk.1.2⟩))⟩
     have n2_ : Aside0 (Kd.Q (Kd.int .i64) 3 ((w34.setCell ⟨gb125, 0, none⟩ (.int .i64 t122)).setCell ⟨gb125, 1, none⟩ (.int .i64 t123)) w.heap.size (fun k_ => some k_ ≠ (.slice Ao16 t109.length co16 : Value).ownBlock) (.slice Ao13 t104.length co13) t104) := ⟨by (with_reducible repeat (first | apply Kd.Q_alloc | apply Kd.Q_drewN | apply Kd.Q_drew)); exact qF2 HO_113002.out BK125.out (.int .i64 t122) (.int .i64 t123)⟩
     have n3_ : Aside0 (Kd.Q (Kd.int .i64) 3 ((w34.setCell ⟨gb125, 0, none⟩ (.int .i64 t122)).setCell ⟨gb125, 1, none⟩ (.int .i64 t123)) w.heap.size (fun k_ => some k_ ≠ (.slice Ao13 t104.length co13 : Value).ownBlock) (.slice Ao16 t109.length co16) t109) := ⟨by (with_reducible repeat (first | apply Kd.Q_alloc | apply Kd.Q_drewN | apply Kd.Q_drew)); exact qF2 HO_114002.out BK125.out (.int .i64 t122) (.int .i64 t123)⟩
     have n4_ : Aside0 (((w34.setCell ⟨gb125, 0, none⟩ (.int .i64 t122)).setCell ⟨gb125, 1, none⟩ (.int .i64 t123)).heap[gb112]? = some (.cells #[.int .i64 t102, .int .i64 t103, .slice Ao13 t104.length co13] 26 (0, 0))) := ⟨by refine bk ?_; refine blk_far ?_ NB112_125.out _; refine bk ?_; refine blk_far ?_ NB112_125.out _; refine bk ?_; exact BK112.out⟩
     have n5_ : Aside0 (((w34.setCell ⟨gb125, 0, none⟩ (.int .i64 t122)).setCell ⟨gb125, 1, none⟩ (.int .i64 t123)).heap[gb113]? = some (.cells #[.int .i64 t107, .int .i64 t108, .slice Ao16 t109.length co16] 26 (0, 0))) := ⟨by refine bk ?_; refine blk_far ?_ NB113_125.out _; refine bk ?_; refine blk_far ?_ NB113_125.out _; refine bk ?_; exact BK113.out⟩
     have n6_ : Aside0 (((w34.setCell ⟨gb125, 0, none⟩ (.int .i64 t122)).setCell ⟨gb125, 1, none⟩ (.int .i64 t123)).heap[gb125]? = some (.cells #[.int .i64 t122, .int .i64 t123] 33 (0, 0))) := ⟨by refine bk ?_; refine blk_put (cs := #[.int .i64 t122, .int .i64 0]) ?_ 1 _ rfl; refine bk ?_; refine blk_put (cs := #[.int .i64 0, .int .i64 0]) ?_ 0 _ rfl; refine bk ?_; exact BK125.out⟩
     have n7_ : Aside0 (Below w.heap.size w ((w34.setCell ⟨gb125, 0, none⟩ (.int .i64 t122)).setCell ⟨gb125, 1, none⟩ (.int .i64 t123))) := ⟨pT HB.out⟩
     (try clear HO_5)
     (try clear HO_7)
     (try clear HO_113002)
     (try clear HO_114002)
     (try clear BK112)
     (try clear BK113)
     (try clear BK125)
     (try clear HB)
     generalize ((w34.setCell ⟨gb125, 0, none⟩ (.int .i64 t122)).setCell ⟨gb125, 1, none⟩ (.int .i64 t123)) = w39 at n0_ n1_ n2_ n3_ n4_ n5_ n6_ n7_ ⊢
     have HO_5 := n0_; have HO_7 := n1_; have HO_113002 := n2_; have HO_114002 := n3_; have BK112 := n4_; have BK113 := n5_; have BK125 := n6_; have HB := n7_; clear n0_ n1_ n2_ n3_ n4_ n5_ n6_ n7_; replace HO_5 := aK (Kd.R_drew HO_5.out); replace HO_7 := aK (Kd.R_drew HO_7.out); replace HO_113002 := aK (Kd.Q_drew HO_113002.out); replace HO_114002 := aK (Kd.Q_drew HO_114002.out); replace BK112 := aK (blk_drew BK112.out); replace BK113 := aK (blk_drew BK113.out); replace BK125 := aK (blk_drew BK125.out); replace HB := aK (below_drew1 HB.out); obtain ⟨Ao41, co41, eo41⟩ := Kd.R_slice HO_5.out
     (first | subst eo41 | (obtain ⟨f4_, f5_⟩ := sI eo41; subst f4_; subst f5_))
     refine start_ (n := 15) (S := fun w' => True) (ds := []) (bz [0, 15]) (by kernel_rfl) rfl rfl trivial (fun hHeld => ?_); refine with_tabW laws_FnMotion.tab9 laws_FnMotion.bits9 (fun HT_ HW_ => ?_)
     generalize w39.drew = w40 at HO_5 HO_7 HO_113002 HO_114002 BK112 BK113 BK125 HB hHeld ⊢
     refine pf 0 67 [1, 14] HT_.out rfl (by intro w'; go_simp; (try rw [c38b9]); with_reducible rfl) ?_
     refine pf 1 68 [2, 13] HT_.out rfl (by intro w'; go_simp; (try rw [c38b9]); with_reducible rfl) ?_
     refine pf 2 69 [3, 12] HT_.out rfl (by intro w'; go_simp; (try rw [c38b9]); with_reducible rfl) ?_
     refine pf 3 70 [4, 11] HT_.out rfl (by intro w'; go_simp; (try rw [c38b9]); with_reducible rfl) ?_
     refine pf 4 71 [5, 10] HT_.out rfl (by intro w'; go_simp; (try rw [c38b9]); with_reducible rfl) ?_
     refine pf 5 72 [6, 9] HT_.out rfl (by intro w'; go_simp; (try rw [c38b9]); with_reducible rfl) ?_
     refine pd 6 73 [7, 8] HT_.out ?_
     refine pd 7 74 [8, 7] HT_.out ?_
     refine pd 8 75 [9, 6] HT_.out ?_
     refine pd 9 76 [10, 5] HT_.out ?_
     refine pd 10 77 [11, 4] HT_.out ?_
     refine pd 11 78 [12, 3] HT_.out ?_
     refine pd 12 79 [13, 2] HT_.out ?_
     refine pd 13 80 [14, 1] HT_.out ?_
     refine pf 14 81 [15, 0] HT_.out rfl (by intro w'; go_simp; (try rw [c38b9]); with_reducible rfl) ?_
     refine done_ (done_of HT_.out (by kernel_rfl)) ?_
     try go_wp2
     go_meet
     case rel => exact ⟨_, (true), (by first | rfl | (simp; done) | (simp [*]; done)), H', ⟨by have := HJ6.out; first | omega | exact Nat.le_refl _⟩, ⟨pR HO_5.out⟩, ⟨pR HO_7.out⟩, ⟨pQ HO_113002.out⟩, ⟨pQ HO_114002.out⟩, ⟨by refine bk ?_; exact BK112.out⟩, ⟨by refine bk ?_; exact BK113.out⟩, ⟨by refine bk ?_; exact BK125.out⟩, ⟨pT HB.out⟩⟩
    rw [if_neg c38] at H
    have c38b0 : (t124 != (decide ((t114.length : Int) > 0))) = false := by simpa using c38
    have c38b9 : (!(t124 == decide (0 < t114.length))) = false := by (have e_ : decide ((t114.length : Int) > 0) = decide (0 < t114.length) := decide_eq_decide.2 (by omega)); have h_ := c38b0; rw [e_] at h_; exact h_
    (try (have c38b1 : decide (t124 = (decide ((t114.length : Int) > 0))) = true := by simpa using c38))
    (try (have c38b2 : (t124 == (decide ((t114.length : Int) > 0))) = true := by simpa using c38))
    clear c38
    (first | rw [c38b0] | (simp only [i64_w, i32_w]; rw [c38b0]) | skip)
    by_cases c42 : t124 = true
    ·
     subst c42
     have H1 : (if 0 < (t114.length : Int) then (laws_FnMotion.j1 kj6 l0 t114 t118 (!(t122 == ((rd_T33 t114 0).f0)) || (!(t123 == ((rd_T33 t114 0).f1)))) t102 t103 t104 t107 t108 t109 t122 t123) else (none)) = some r := by rw [if_pos rfl] at H; exact H
     clear H; have H := H1; clear H1
     by_cases c43 : 0 < (t114.length : Int)
     rotate_left
     ·
      rw [if_neg c43] at H
      exact absurd H (by simp)
     rw [if_pos c43] at H
     have c43b0 : decide (0 < (t114.length : Int)) = true := decide_eq_true c43
     have c43b1 : decide (0 < t114.length) = true := decide_eq_true (by omega)
     clear c43; have H' := Aside0.mk H; clear H
     try go_wp2
     have n0_ : Aside0 (Kd.R k33 33 ((w34.setCell ⟨gb125, 0, none⟩ (.int .i64 t122)).setCell ⟨gb125, 1, none⟩ (.int .i64 t123)) w.heap.size (fun k_ => some k_ ≠ (v119 : Value).ownBlock ∧ k_ ≠ gb125) v115 t114) := ⟨pR (Kd.R_mono (Kd.R_far (p := ⟨gb125, 1, none⟩) (Kd.R_far (p := ⟨gb125, 0, none⟩) (Kd.R_mono HO_5.out (fun k_ hk => (⟨hk, hk.2⟩ : _ ∧ k_ ≠ gb125))) (fun _ hk => hk.2) (.int .i64 t122)) (fun _ hk => hk.2) (.int .i64 t123)) (fun _ hk => ⟨hk.1.1, hk.1.2⟩))⟩
     have n1_ : Aside0 (Kd.R k33 33 ((w34.setCell ⟨gb125, 0, none⟩ (.int .i64 t122)).setCell ⟨gb125, 1, none⟩ (.int .i64 t123)) w.heap.size (fun k_ => some k_ ≠ (v115 : Value).ownBlock ∧ k_ ≠ gb125) v119 t118) := ⟨pR (Kd.R_mono (Kd.R_far (p := ⟨gb125, 1, none⟩) (Kd.R_far (p := ⟨gb125, 0, none⟩) (Kd.R_mono HO_7.out (fun k_ hk => (⟨hk, hk.2⟩ : _ ∧ k_ ≠ gb125))) (fun _ hk => hk.2) (.int .i64 t122)) (fun _ hk => hk.2) (.int .i64 t123)) (fun _ hk => ⟨hk.1.1, hk.1.2⟩))⟩
     have n2_ : Aside0 (Kd.Q (Kd.int .i64) 3 ((w34.setCell ⟨gb125, 0, none⟩ (.int .i64 t122)).setCell ⟨gb125, 1, none⟩ (.int .i64 t123)) w.heap.size (fun k_ => some k_ ≠ (.slice Ao16 t109.length co16 : Value).ownBlock) (.slice Ao13 t104.length co13) t104) := ⟨by (with_reducible repeat (first | apply Kd.Q_alloc | apply Kd.Q_drewN | apply Kd.Q_drew)); exact qF2 HO_113002.out BK125.out (.int .i64 t122) (.int .i64 t123)⟩
     have n3_ : Aside0 (Kd.Q (Kd.int .i64) 3 ((w34.setCell ⟨gb125, 0, none⟩ (.int .i64 t122)).setCell ⟨gb125, 1, none⟩ (.int .i64 t123)) w.heap.size (fun k_ => some k_ ≠ (.slice Ao13 t104.length co13 : Value).ownBlock) (.slice Ao16 t109.length co16) t109) := ⟨by (with_reducible repeat (first | apply Kd.Q_alloc | apply Kd.Q_drewN | apply Kd.Q_drew)); exact qF2 HO_114002.out BK125.out (.int .i64 t122) (.int .i64 t123)⟩
     have n4_ : Aside0 (((w34.setCell ⟨gb125, 0, none⟩ (.int .i64 t122)).setCell ⟨gb125, 1, none⟩ (.int .i64 t123)).heap[gb112]? = some (.cells #[.int .i64 t102, .int .i64 t103, .slice Ao13 t104.length co13] 26 (0, 0))) := ⟨by refine bk ?_; refine blk_far ?_ NB112_125.out _; refine bk ?_; refine blk_far ?_ NB112_125.out _; refine bk ?_; exact BK112.out⟩
     have n5_ : Aside0 (((w34.setCell ⟨gb125, 0, none⟩ (.int .i64 t122)).setCell ⟨gb125, 1, none⟩ (.int .i64 t123)).heap[gb113]? = some (.cells #[.int .i64 t107, .int .i64 t108, .slice Ao16 t109.length co16] 26 (0, 0))) := ⟨by refine bk ?_; refine blk_far ?_ NB113_125.out _; refine bk ?_; refine blk_far ?_ NB113_125.out _; refine bk ?_; exact BK113.out⟩
     have n6_ : Aside0 (((w34.setCell ⟨gb125, 0, none⟩ (.int .i64 t122)).setCell ⟨gb125, 1, none⟩ (.int .i64 t123)).heap[gb125]? = some (.cells #[.int .i64 t122, .int .i64 t123] 33 (0, 0))) := ⟨by refine bk ?_; refine blk_put (cs := #[.int .i64 t122, .int .i64 0]) ?_ 1 _ rfl; refine bk ?_; refine blk_put (cs := #[.int .i64 0, .int .i64 0]) ?_ 0 _ rfl; refine bk ?_; exact BK125.out⟩
     have n7_ : Aside0 (Below w.heap.size w ((w34.setCell ⟨gb125, 0, none⟩ (.int .i64 t122)).setCell ⟨gb125, 1, none⟩ (.int .i64 t123))) := ⟨pT HB.out⟩
     (try clear HO_5)
     (try clear HO_7)
     (try clear HO_113002)
     (try clear HO_114002)
     (try clear BK112)
     (try clear BK113)
     (try clear BK125)
     (try clear HB)
     generalize ((w34.setCell ⟨gb125, 0, none⟩ (.int .i64 t122)).setCell ⟨gb125, 1, none⟩ (.int .i64 t123)) = w44 at n0_ n1_ n2_ n3_ n4_ n5_ n6_ n7_ ⊢
     have HO_5 := n0_; have HO_7 := n1_; have HO_113002 := n2_; have HO_114002 := n3_; have BK112 := n4_; have BK113 := n5_; have BK125 := n6_; have HB := n7_; clear n0_ n1_ n2_ n3_ n4_ n5_ n6_ n7_; replace HO_5 := aK (Kd.R_drew HO_5.out); replace HO_7 := aK (Kd.R_drew HO_7.out); replace HO_113002 := aK (Kd.Q_drew HO_113002.out); replace HO_114002 := aK (Kd.Q_drew HO_114002.out); replace BK112 := aK (blk_drew BK112.out); replace BK113 := aK (blk_drew BK113.out); replace BK125 := aK (blk_drew BK125.out); replace HB := aK (below_drew1 HB.out); obtain ⟨Ao46, co46, eo46⟩ := Kd.R_slice HO_5.out
     (first | subst eo46 | (obtain ⟨f4_, f5_⟩ := sI eo46; subst f4_; subst f5_))
     have p126 : 0 ≤ (0 : Int) := (by omega)
     have q126 : 0 < (t114.length : Int) := of_decide_eq_true (by first | (with_reducible assumption) | assumption)
     obtain ⟨ad126, e126, hx126_0, hx126_1⟩ := at_T33 (Kd.R_reads' HO_5.out).2.2 0 p126 q126; cases e126
     have qi126 : (0 < t114.length) = True := eq_true (by omega)
     (try rw [show ((0 : Int)).toNat = 0 from rfl] at hx126_0)
     (try rw [show 0 * 2 = 0 from rfl] at hx126_0)
     (try rw [Addr.add_zero'] at hx126_0)
     (try rw [show ((0 : Int)).toNat = 0 from rfl] at hx126_1)
     (try rw [show 0 * 2 = 0 from rfl] at hx126_1)
     (try rw [Addr.add_zero'] at hx126_1)
     replace p126 := eq_true p126; replace q126 := eq_true q126
     refine start_ (n := 15) (S := fun w' => w'.cell? ⟨gb125, 0, none⟩ = some (.int .i64 t122) ∧ w'.cell? ⟨gb125, 1, none⟩ = some (.int .i64 t123) ∧ w'.cell? ad126 = some (.int .i64 ((rd_T33 t114 0).f0)) ∧ w'.cell? ⟨ad126.block, ad126.off + 1, none⟩ = some (.int .i64 ((rd_T33 t114 0).f1))) (ds := []) (bz [0, 15]) (by kernel_rfl) rfl rfl (cj2 BK125.out ⟨hx126_0, hx126_1⟩) (fun hHeld => ?_); refine with_tabW laws_FnMotion.tab9 laws_FnMotion.bits9 (fun HT_ HW_ => ?_)
     generalize w44.drew = w45 at HO_5 HO_7 HO_113002 HO_114002 BK112 BK113 BK125 HB hx126_0 hx126_1 hHeld ⊢
     refine pf 0 67 [1, 14] HT_.out rfl (by intro w'; go_simp; (try rw [c38b9]); with_reducible rfl) ?_
     refine pf 1 68 [2, 13] HT_.out rfl (by intro w'; go_simp; (try rw [c38b9]); with_reducible rfl) ?_
     refine pf 2 69 [3, 12] HT_.out rfl (by intro w'; go_simp; (try rw [c38b9]); with_reducible rfl) ?_
     refine pf 3 70 [4, 11] HT_.out rfl (by intro w'; go_simp; (try rw [c38b9]); with_reducible rfl) ?_
     refine pf 4 71 [5, 10] HT_.out rfl (by intro w'; go_simp; (try rw [c38b9]); with_reducible rfl) ?_
     refine pf 5 72 [6, 9] HT_.out rfl (by intro w'; go_simp; (try rw [c38b9]); with_reducible rfl) ?_
     refine pf 6 73 [7, 8] HT_.out rfl (by intro w'; go_simp; (try rw [c38b9]); with_reducible rfl) ?_
     refine pf 7 74 [8, 7] HT_.out rfl (by intro w'; go_simp; (try rw [c38b9]); with_reducible rfl) ?_
     refine pf 9 76 [8, 1, 1, 5] HT_.out rfl (by intro w'; go_simp; (try rw [c38b9]); with_reducible rfl) ?_
     refine pf 10 77 [8, 1, 2, 4] HT_.out rfl (by intro w'; go_simp; (try rw [c38b9]); with_reducible rfl) ?_
     refine take_ (i := 8) (N := some 75) (v := ?_) (a' := ?_) (bz [11, 4]) rfl rfl (take_ofW HT_.out HW_.out (by kernel_rfl)) (fun _ _ _ h => h) (Or.inl ⟨by rfl, ?_⟩) hHeld ?_ ?_
     rotate_left
     ·
      rintro w' ⟨s0, s1, s2, s3⟩
      go_simp
      (try rw [c38b9])
      with_reducible rfl
     rotate_left
     ·
      simp only [sP]
      rfl
     refine take_ (i := 11) (N := some 78) (v := ?_) (a' := ?_) (bz [12, 3]) rfl rfl (take_ofW HT_.out HW_.out (by kernel_rfl)) (fun _ _ _ h => h) (Or.inl ⟨by rfl, ?_⟩) hHeld ?_ ?_
     rotate_left
     ·
      rintro w' ⟨s0, s1, s2, s3⟩
      go_simp
      (try rw [c38b9])
      with_reducible rfl
     rotate_left
     ·
      simp only [sP]
      rfl
     refine pf 12 79 [13, 2] HT_.out rfl (by intro w'; go_simp; (try rw [c38b9]); with_reducible rfl) ?_
     refine pf 13 80 [14, 1] HT_.out rfl (by intro w'; go_simp; (try rw [c38b9]); with_reducible rfl) ?_
     refine pf 14 81 [15, 0] HT_.out rfl (by intro w'; go_simp; (try rw [c38b9]); with_reducible rfl) ?_
     refine done_ (done_of HT_.out (by kernel_rfl)) ?_
     try go_wp2
     go_meet
     case rel => exact ⟨_, ((!(t122 == ((rd_T33 t114 0).f0)) || (!(t123 == ((rd_T33 t114 0).f1))))), (by first | rfl | (simp; done) | (simp [*]; done)), H', ⟨by have := HJ6.out; first | omega | exact Nat.le_refl _⟩, ⟨pR HO_5.out⟩, ⟨pR HO_7.out⟩, ⟨pQ HO_113002.out⟩, ⟨pQ HO_114002.out⟩, ⟨by refine bk ?_; exact BK112.out⟩, ⟨by refine bk ?_; exact BK113.out⟩, ⟨by refine bk ?_; exact BK125.out⟩, ⟨pT HB.out⟩⟩
    replace c42 := Bool.eq_false_iff.mpr c42; subst c42
    have H1 : (laws_FnMotion.j1 kj6 l0 t114 t118 false t102 t103 t104 t107 t108 t109 t122 t123) = some r := by rw [if_neg (show ¬ (false = true) by decide)] at H; exact H
    clear H; have H := H1; clear H1; have H' := Aside0.mk H; clear H
    try go_wp2
    have n0_ : Aside0 (Kd.R k33 33 ((w34.setCell ⟨gb125, 0, none⟩ (.int .i64 t122)).setCell ⟨gb125, 1, none⟩ (.int .i64 t123)) w.heap.size (fun k_ => some k_ ≠ (v119 : Value).ownBlock ∧ k_ ≠ gb125) v115 t114) := ⟨pR (Kd.R_mono (Kd.R_far (p := ⟨gb125, 1, none⟩) (Kd.R_far (p := ⟨gb125, 0, none⟩) (Kd.R_mono HO_5.out (fun k_ hk => (⟨hk, hk.2⟩ : _ ∧ k_ ≠ gb125))) (fun _ hk => hk.2) (.int .i64 t122)) (fun _ hk => hk.2) (.int .i64 t123)) (fun _ hk => ⟨hk.1.1, hk.1.2⟩))⟩
    have n1_ : Aside0 (Kd.R k33 33 ((w34.setCell ⟨gb125, 0, none⟩ (.int .i64 t122)).setCell ⟨gb125, 1, none⟩ (.int .i64 t123)) w.heap.size (fun k_ => some k_ ≠ (v115 : Value).ownBlock ∧ k_ ≠ gb125) v119 t118) := ⟨pR (Kd.R_mono (Kd.R_far (p := ⟨gb125, 1, none⟩) (Kd.R_far (p := ⟨gb125, 0, none⟩) (Kd.R_mono HO_7.out (fun k_ hk => (⟨hk, hk.2⟩ : _ ∧ k_ ≠ gb125))) (fun _ hk => hk.2) (.int .i64 t122)) (fun _ hk => hk.2) (.int .i64 t123)) (fun _ hk => ⟨hk.1.1, hk.1.2⟩))⟩
    have n2_ : Aside0 (Kd.Q (Kd.int .i64) 3 ((w34.setCell ⟨gb125, 0, none⟩ (.int .i64 t122)).setCell ⟨gb125, 1, none⟩ (.int .i64 t123)) w.heap.size (fun k_ => some k_ ≠ (.slice Ao16 t109.length co16 : Value).ownBlock) (.slice Ao13 t104.length co13) t104) := ⟨by (with_reducible repeat (first | apply Kd.Q_alloc | apply Kd.Q_drewN | apply Kd.Q_drew)); exact qF2 HO_113002.out BK125.out (.int .i64 t122) (.int .i64 t123)⟩
    have n3_ : Aside0 (Kd.Q (Kd.int .i64) 3 ((w34.setCell ⟨gb125, 0, none⟩ (.int .i64 t122)).setCell ⟨gb125, 1, none⟩ (.int .i64 t123)) w.heap.size (fun k_ => some k_ ≠ (.slice Ao13 t104.length co13 : Value).ownBlock) (.slice Ao16 t109.length co16) t109) := ⟨by (with_reducible repeat (first | apply Kd.Q_alloc | apply Kd.Q_drewN | apply Kd.Q_drew)); exact qF2 HO_114002.out BK125.out (.int .i64 t122) (.int .i64 t123)⟩
    have n4_ : Aside0 (((w34.setCell ⟨gb125, 0, none⟩ (.int .i64 t122)).setCell ⟨gb125, 1, none⟩ (.int .i64 t123)).heap[gb112]? = some (.cells #[.int .i64 t102, .int .i64 t103, .slice Ao13 t104.length co13] 26 (0, 0))) := ⟨by refine bk ?_; refine blk_far ?_ NB112_125.out _; refine bk ?_; refine blk_far ?_ NB112_125.out _; refine bk ?_; exact BK112.out⟩
    have n5_ : Aside0 (((w34.setCell ⟨gb125, 0, none⟩ (.int .i64 t122)).setCell ⟨gb125, 1, none⟩ (.int .i64 t123)).heap[gb113]? = some (.cells #[.int .i64 t107, .int .i64 t108, .slice Ao16 t109.length co16] 26 (0, 0))) := ⟨by refine bk ?_; refine blk_far ?_ NB113_125.out _; refine bk ?_; refine blk_far ?_ NB113_125.out _; refine bk ?_; exact BK113.out⟩
    have n6_ : Aside0 (((w34.setCell ⟨gb125, 0, none⟩ (.int .i64 t122)).setCell ⟨gb125, 1, none⟩ (.int .i64 t123)).heap[gb125]? = some (.cells #[.int .i64 t122, .int .i64 t123] 33 (0, 0))) := ⟨by refine bk ?_; refine blk_put (cs := #[.int .i64 t122, .int .i64 0]) ?_ 1 _ rfl; refine bk ?_; refine blk_put (cs := #[.int .i64 0, .int .i64 0]) ?_ 0 _ rfl; refine bk ?_; exact BK125.out⟩
    have n7_ : Aside0 (Below w.heap.size w ((w34.setCell ⟨gb125, 0, none⟩ (.int .i64 t122)).setCell ⟨gb125, 1, none⟩ (.int .i64 t123))) := ⟨pT HB.out⟩
    (try clear HO_5)
    (try clear HO_7)
    (try clear HO_113002)
    (try clear HO_114002)
    (try clear BK112)
    (try clear BK113)
    (try clear BK125)
    (try clear HB)
    generalize ((w34.setCell ⟨gb125, 0, none⟩ (.int .i64 t122)).setCell ⟨gb125, 1, none⟩ (.int .i64 t123)) = w47 at n0_ n1_ n2_ n3_ n4_ n5_ n6_ n7_ ⊢
    have HO_5 := n0_; have HO_7 := n1_; have HO_113002 := n2_; have HO_114002 := n3_; have BK112 := n4_; have BK113 := n5_; have BK125 := n6_; have HB := n7_; clear n0_ n1_ n2_ n3_ n4_ n5_ n6_ n7_; replace HO_5 := aK (Kd.R_drew HO_5.out); replace HO_7 := aK (Kd.R_drew HO_7.out); replace HO_113002 := aK (Kd.Q_drew HO_113002.out); replace HO_114002 := aK (Kd.Q_drew HO_114002.out); replace BK112 := aK (blk_drew BK112.out); replace BK113 := aK (blk_drew BK113.out); replace BK125 := aK (blk_drew BK125.out); replace HB := aK (below_drew1 HB.out); obtain ⟨Ao49, co49, eo49⟩ := Kd.R_slice HO_5.out
    (first | subst eo49 | (obtain ⟨f4_, f5_⟩ := sI eo49; subst f4_; subst f5_))
    refine start_ (n := 15) (S := fun w' => True) (ds := []) (bz [0, 15]) (by kernel_rfl) rfl rfl trivial (fun hHeld => ?_); refine with_tabW laws_FnMotion.tab9 laws_FnMotion.bits9 (fun HT_ HW_ => ?_)
    generalize w47.drew = w48 at HO_5 HO_7 HO_113002 HO_114002 BK112 BK113 BK125 HB hHeld ⊢
    refine pure_ (i := 0) (N := some 67) (v := ?_) (a' := ?_) (bz [1, 14]) rfl rfl (any_of HT_.out (by kernel_rfl)) (fun _ _ _ h => h) (Or.inl ⟨by rfl, ?_⟩) ?_ ?_
    rotate_left
    ·
     intro w'
     go_simp
     (try rw [c38b9])
     (try rw [show decide (0 < t114.length) = false by (have h9_ := c38b9; revert h9_; cases decide (0 < t114.length) <;> simp)])
     (first | done | with_reducible rfl)
    rotate_left
    ·
     simp only [sP]
     rfl
    refine pure_ (i := 1) (N := some 68) (v := ?_) (a' := ?_) (bz [2, 13]) rfl rfl (any_of HT_.out (by kernel_rfl)) (fun _ _ _ h => h) (Or.inl ⟨by rfl, ?_⟩) ?_ ?_
    rotate_left
    ·
     intro w'
     go_simp
     (try rw [c38b9])
     (try rw [show decide (0 < t114.length) = false by (have h9_ := c38b9; revert h9_; cases decide (0 < t114.length) <;> simp)])
     (first | done | with_reducible rfl)
    rotate_left
    ·
     simp only [sP]
     rfl
    refine pure_ (i := 2) (N := some 69) (v := ?_) (a' := ?_) (bz [3, 12]) rfl rfl (any_of HT_.out (by kernel_rfl)) (fun _ _ _ h => h) (Or.inl ⟨by rfl, ?_⟩) ?_ ?_
    rotate_left
    ·
     intro w'
     go_simp
     (try rw [c38b9])
     (try rw [show decide (0 < t114.length) = false by (have h9_ := c38b9; revert h9_; cases decide (0 < t114.length) <;> simp)])
     (first | done | with_reducible rfl)
    rotate_left
    ·
     simp only [sP]
     rfl
    refine pure_ (i := 3) (N := some 70) (v := ?_) (a' := ?_) (bz [4, 11]) rfl rfl (any_of HT_.out (by kernel_rfl)) (fun _ _ _ h => h) (Or.inl ⟨by rfl, ?_⟩) ?_ ?_
    rotate_left
    ·
     intro w'
     go_simp
     (try rw [c38b9])
     (try rw [show decide (0 < t114.length) = false by (have h9_ := c38b9; revert h9_; cases decide (0 < t114.length) <;> simp)])
     (first | done | with_reducible rfl)
    rotate_left
    ·
     simp only [sP]
     rfl
    refine pure_ (i := 4) (N := some 71) (v := ?_) (a' := ?_) (bz [5, 10]) rfl rfl (any_of HT_.out (by kernel_rfl)) (fun _ _ _ h => h) (Or.inl ⟨by rfl, ?_⟩) ?_ ?_
    rotate_left
    ·
     intro w'
     go_simp
     (try rw [c38b9])
     (try rw [show decide (0 < t114.length) = false by (have h9_ := c38b9; revert h9_; cases decide (0 < t114.length) <;> simp)])
     (first | done | with_reducible rfl)
    rotate_left
    ·
     simp only [sP]
     rfl
    refine pure_ (i := 5) (N := some 72) (v := ?_) (a' := ?_) (bz [6, 9]) rfl rfl (any_of HT_.out (by kernel_rfl)) (fun _ _ _ h => h) (Or.inl ⟨by rfl, ?_⟩) ?_ ?_
    rotate_left
    ·
     intro w'
     go_simp
     (try rw [c38b9])
     (try rw [show decide (0 < t114.length) = false by (have h9_ := c38b9; revert h9_; cases decide (0 < t114.length) <;> simp)])
     (first | done | with_reducible rfl)
    rotate_left
    ·
     simp only [sP]
     rfl
    refine pure_ (i := 6) (N := some 73) (v := ?_) (a' := ?_) (bz [7, 8]) rfl rfl (any_of HT_.out (by kernel_rfl)) (fun _ _ _ h => h) (Or.inl ⟨by rfl, ?_⟩) ?_ ?_
    rotate_left
    ·
     intro w'
     go_simp
     (try rw [c38b9])
     (try rw [show decide (0 < t114.length) = false by (have h9_ := c38b9; revert h9_; cases decide (0 < t114.length) <;> simp)])
     (first | done | with_reducible rfl)
    rotate_left
    ·
     simp only [sP]
     rfl
    refine pure_ (i := 7) (N := some 74) (v := ?_) (a' := ?_) (bz [8, 7]) rfl rfl (any_of HT_.out (by kernel_rfl)) (fun _ _ _ h => h) (Or.inl ⟨by rfl, ?_⟩) ?_ ?_
    rotate_left
    ·
     intro w'
     go_simp
     (try rw [c38b9])
     (try rw [show decide (0 < t114.length) = false by (have h9_ := c38b9; revert h9_; cases decide (0 < t114.length) <;> simp)])
     (first | done | with_reducible rfl)
    rotate_left
    ·
     simp only [sP]
     rfl
    refine pd 8 75 [9, 6] HT_.out ?_
    refine pd 9 76 [10, 5] HT_.out ?_
    refine pd 10 77 [11, 4] HT_.out ?_
    refine pd 11 78 [12, 3] HT_.out ?_
    refine pd 12 79 [13, 2] HT_.out ?_
    refine pure_ (i := 13) (N := some 80) (v := ?_) (a' := ?_) (bz [14, 1]) rfl rfl (any_of HT_.out (by kernel_rfl)) (fun _ _ _ h => h) (Or.inl ⟨by rfl, ?_⟩) ?_ ?_
    rotate_left
    ·
     intro w'
     go_simp
     (try rw [c38b9])
     (try rw [show decide (0 < t114.length) = false by (have h9_ := c38b9; revert h9_; cases decide (0 < t114.length) <;> simp)])
     (first | done | with_reducible rfl)
    rotate_left
    ·
     simp only [sP]
     rfl
    refine pure_ (i := 14) (N := some 81) (v := ?_) (a' := ?_) (bz [15, 0]) rfl rfl (any_of HT_.out (by kernel_rfl)) (fun _ _ _ h => h) (Or.inl ⟨by rfl, ?_⟩) ?_ ?_
    rotate_left
    ·
     intro w'
     go_simp
     (try rw [c38b9])
     (try rw [show decide (0 < t114.length) = false by (have h9_ := c38b9; revert h9_; cases decide (0 < t114.length) <;> simp)])
     (first | done | with_reducible rfl)
    rotate_left
    ·
     simp only [sP]
     rfl
    refine done_ (done_of HT_.out (by kernel_rfl)) ?_
    try go_wp2
    go_meet
    case rel => exact ⟨_, (false), (by first | rfl | (simp; done) | (simp [*]; done)), H', ⟨by have := HJ6.out; first | omega | exact Nat.le_refl _⟩, ⟨pR HO_5.out⟩, ⟨pR HO_7.out⟩, ⟨pQ HO_113002.out⟩, ⟨pQ HO_114002.out⟩, ⟨by refine bk ?_; exact BK112.out⟩, ⟨by refine bk ?_; exact BK113.out⟩, ⟨by refine bk ?_; exact BK125.out⟩, ⟨pT HB.out⟩⟩
   case rest => as_aux_lemma =>
    clear HC29
    try clear p1
    try clear q1
    try clear hx1
    try clear qi1
    try clear c2
    try clear p2
    try clear c3
    try clear c4
    try clear c8
    try clear p12
    try clear q12
    try clear hx12
    try clear qi12
    try clear c27
    try clear c30
    try clear c35
    try clear c36
    try clear c38
    try clear c38b0
    try clear c38b1
    try clear c38b2
    try clear c42
    try clear c43
    try clear c43b0
    try clear c43b1
    try clear z31_0
    try clear z31_1
    try clear z31_2
    try clear z32_0
    try clear z32_1
    try clear z32_2
    try clear z37_0
    try clear z37_1
    try clear y19_1
    try clear y19_2
    try clear y21_0
    try clear y21_1
    try clear y21_2
    try clear y22_0
    try clear y22_1
    try clear y22_2
    try clear y31_0
    try clear y31_1
    try clear y31_2
    try clear y32_0
    try clear y32_1
    try clear y32_2
    try clear y37_0
    try clear y37_1
    try clear hx126_0
    try clear hx126_1
    try clear p126
    try clear q126
    obtain ⟨kq, x81_28, rfl, HA, HJ28, HO_5, HO_7, HO_113002, HO_114002, BK112, BK113, BK125, HB⟩ := hcut
    cases kq with
    | zero => exact absurd HA.out (by simp [laws_FnMotion.j1])
    | succ kj28 =>
     have H := HA.out; clear HA
     simp only [laws_FnMotion.j1] at H
     by_cases c50 : x81_28 = true
     ·
      subst c50
      have H1 : (some false) = some r := by rw [if_pos rfl] at H; exact H
      clear H; have H := H1; clear H1
      obtain rfl := Option.some.inj H
      go_wp2
      go_ret
      exact ⟨er, pT HB.out⟩
     replace c50 := Bool.eq_false_iff.mpr c50; subst c50
     have H1 : (laws_FnMotion.l0 kj28 l0 t114 t118 0 t102 t103 t104 t107 t108 t109 t122 t123) = some r := by rw [if_neg (show ¬ (false = true) by decide)] at H; exact H
     clear H; have H := H1; clear H1; have H' := Aside0.mk H; clear H
     go_wp2
     go_loopg [11] kj28 (fun kq v11 w' => ∃ (x11_3 : Int), v11 = .int .i64 x11_3 ∧ Aside0 (laws_FnMotion.l0 kq l0 t114 t118 x11_3 t102 t103 t104 t107 t108 t109 t122 t123 = some r) ∧ Aside0 (kq ≤ kj28) ∧ Aside0 (Kd.R k33 33 w' w.heap.size (fun k_ => some k_ ≠ (v119 : Value).ownBlock ∧ k_ ≠ gb125) v115 t114) ∧ Aside0 (Kd.R k33 33 w' w.heap.size (fun k_ => some k_ ≠ (v115 : Value).ownBlock ∧ k_ ≠ gb125) v119 t118) ∧ Aside0 (Kd.Q (Kd.int .i64) 3 w' w.heap.size (fun k_ => some k_ ≠ ((.slice Ao16 t109.length co16) : Value).ownBlock) (.slice Ao13 t104.length co13) t104) ∧ Aside0 (Kd.Q (Kd.int .i64) 3 w' w.heap.size (fun k_ => some k_ ≠ ((.slice Ao13 t104.length co13) : Value).ownBlock) (.slice Ao16 t109.length co16) t109) ∧ Aside0 (w'.heap[gb112]? = some (.cells #[.int .i64 t102, .int .i64 t103, (.slice Ao13 t104.length co13)] 26 (0, 0))) ∧ Aside0 (w'.heap[gb113]? = some (.cells #[.int .i64 t107, .int .i64 t108, (.slice Ao16 t109.length co16)] 26 (0, 0))) ∧ Aside0 (w'.heap[gb125]? = some (.cells #[.int .i64 t122, .int .i64 t123] 33 (0, 0))) ∧ Aside0 (Below w.heap.size w w'))
     case atStart => exact ⟨(0), (by first | rfl | (simp; done) | (simp [*]; done)), H', ⟨Nat.le_refl _⟩, ⟨pR HO_5.out⟩, ⟨pR HO_7.out⟩, ⟨pQ HO_113002.out⟩, ⟨pQ HO_114002.out⟩, ⟨by refine bk ?_; exact BK112.out⟩, ⟨by refine bk ?_; exact BK113.out⟩, ⟨by refine bk ?_; exact BK125.out⟩, ⟨pT HB.out⟩⟩
     case round => as_aux_lemma =>
      clear H'
      try clear p1
      try clear q1
      try clear hx1
      try clear qi1
      try clear c2
      try clear p2
      try clear c3
      try clear c4
      try clear c5
      try clear c8
      try clear p12
      try clear q12
      try clear hx12
      try clear qi12
      try clear c27
      try clear c30
      try clear c35
      try clear c36
      try clear c38
      try clear c38b0
      try clear c38b1
      try clear c38b2
      try clear c42
      try clear c43
      try clear c43b0
      try clear c43b1
      try clear c50
      try clear z31_0
      try clear z31_1
      try clear z31_2
      try clear z32_0
      try clear z32_1
      try clear z32_2
      try clear z37_0
      try clear z37_1
      try clear y19_1
      try clear y19_2
      try clear y21_0
      try clear y21_1
      try clear y21_2
      try clear y22_0
      try clear y22_1
      try clear y22_2
      try clear y31_0
      try clear y31_1
      try clear y31_2
      try clear y32_0
      try clear y32_1
      try clear y32_2
      try clear y37_0
      try clear y37_1
      try clear hx126_0
      try clear hx126_1
      try clear p1
      try clear p12
      try clear p126
      try clear p2
      try clear q1
      try clear q12
      try clear q126
      obtain ⟨x11_3, rfl, HA, HK3, HO_5, HO_7, HO_113002, HO_114002, BK112, BK113, BK125, HB⟩ := hrel
      cases gk with
      | zero => exact absurd HA.out (by simp [laws_FnMotion.l0])
      | succ k3 =>
       have H := HA.out; clear HA
       simp only [laws_FnMotion.l0] at H
       by_cases c51 : x11_3 < (t114.length : Int)
       rotate_left
       ·
        rw [if_neg c51] at H
        have c51b0 : decide (x11_3 < (t114.length : Int)) = false := decide_eq_false c51
        clear c51; replace H := Option.bind_eq_some_iff.mp H
        obtain ⟨⟨t136, t137, t138, t141, t142, t143, t146, t147⟩, A1460, H⟩ := H
        replace H : ((impl_MatchOf.f k3 t136 t137 t138 t141 t142 t143 t146 t147).bind fun bt151 => ((spec_MatchOf.f k3 t136 t137 t138 t141 t142 t143 t146 t147).bind fun bt154 => (if bt151.1 = bt154.1 then (if bt151.2.1 = bt154.2.1 then (laws_FnMotion.j3 k3 bt151.1 bt151.2.1 bt151.2.2 (bt151.2.2 != bt154.2.2) t136 t137 t138 t141 t142 t143 t146 t147) else (laws_FnMotion.j3 k3 bt151.1 bt151.2.1 bt151.2.2 true t136 t137 t138 t141 t142 t143 t146 t147)) else (laws_FnMotion.j3 k3 bt151.1 bt151.2.1 bt151.2.2 true t136 t137 t138 t141 t142 t143 t146 t147)))) = some r := H
        have A146 := Aside0.mk A1460; clear A1460; replace H := Option.bind_eq_some_iff.mp H
        obtain ⟨⟨t151, t152, t153⟩, A1470, H⟩ := H
        replace H : ((spec_MatchOf.f k3 t136 t137 t138 t141 t142 t143 t146 t147).bind fun bt154 => (if t151 = bt154.1 then (if t152 = bt154.2.1 then (laws_FnMotion.j3 k3 t151 t152 t153 (t153 != bt154.2.2) t136 t137 t138 t141 t142 t143 t146 t147) else (laws_FnMotion.j3 k3 t151 t152 t153 true t136 t137 t138 t141 t142 t143 t146 t147)) else (laws_FnMotion.j3 k3 t151 t152 t153 true t136 t137 t138 t141 t142 t143 t146 t147))) = some r := H
        have A147 := Aside0.mk A1470; clear A1470; replace H := Option.bind_eq_some_iff.mp H
        obtain ⟨⟨t154, t155, t156⟩, A1480, H⟩ := H
        replace H : (if t151 = t154 then (if t152 = t155 then (laws_FnMotion.j3 k3 t151 t152 t153 (t153 != t156) t136 t137 t138 t141 t142 t143 t146 t147) else (laws_FnMotion.j3 k3 t151 t152 t153 true t136 t137 t138 t141 t142 t143 t146 t147)) else (laws_FnMotion.j3 k3 t151 t152 t153 true t136 t137 t138 t141 t142 t143 t146 t147)) = some r := H
        have A148 := Aside0.mk A1480; clear A1480; have HC149 := Aside0.mk H; clear H; obtain ⟨Ao150, co150, eo150⟩ := Kd.R_slice HO_5.out; subst eo150
        go_upto_region 21 with (first | ((with_reducible refine gate_callee (f := 10) rfl ?_); refine gl (some 147) Try.func10 #[.slice A0 l0.length c0] ?_; (with_reducible refine (spec_DrawMatchOf.calls k3 _ _ l0 t136 t137 t138 t141 t142 t143 t146 t147 _ ?side1 ?side2 A146.out).mono ?_); (case side1 => exact pC (Kd.C_below HR0.out HB.out)); (case side2 => exact HC0.out); rintro e w151 ⟨v139, v144, rfl, ho0, ho1, hb⟩; refine ⟨_, rfl, ?_⟩; replace HO_5 := aK (Kd.R_below (pR HO_5.out) hb); replace HO_7 := aK (Kd.R_below (pR HO_7.out) hb); have n2_ := aK (Kd.Q_mono (Kd.Q_told (Kd.Q_told (Kd.Q_old (pQ HO_113002.out) hb) (Kd.Q_base ho0)) (Kd.Q_base ho1)) (fun _ h_ => h_.1)); have n3_ := aK (Kd.Q_mono (Kd.Q_told (Kd.Q_told (Kd.Q_old (pQ HO_114002.out) hb) (Kd.Q_base ho0)) (Kd.Q_base ho1)) (fun _ h_ => h_.1)); have HO140 := aK (Kd.Q_lower (Kd.Q_new' (Kd.Q_new' ho0 (Kd.Q_lt (pQ HO_113002.out))) (Kd.Q_lt (pQ HO_114002.out))) (below_size (pS HB.out))); have HO145 := aK (Kd.Q_lower (Kd.Q_new' (Kd.Q_new' ho1 (Kd.Q_lt (pQ HO_113002.out))) (Kd.Q_lt (pQ HO_114002.out))) (below_size (pS HB.out))); replace BK125 := bB BK125 hb; replace HB := bS HB hb; clear HO_113002 HO_114002; have HO_113002 := n2_; have HO_114002 := n3_; clear n2_ n3_; (try clear hb); (try clear hb2); (try clear hk); (try clear hi); (try clear ho0); (try clear ho1)) | ((with_reducible refine gate_dst (N := 18) rfl ?_); (try (refine gate_guard (by rfl) ?_; dsimp only)); refine bxe (cs := #[.int .i64 0, .int .i64 0, .slice none 0 0]) (t := 26) ?_; intro gb148 hg w152 hbox hb; replace HO_5 := aK (Kd.R_below (pR HO_5.out) hb); replace HO_7 := aK (Kd.R_below (pR HO_7.out) hb); replace HO_113002 := aK (Kd.Q_below (pQ HO_113002.out) hb); replace HO_114002 := aK (Kd.Q_below (pQ HO_114002.out) hb); replace HO140 := aK (Kd.Q_below (pQ HO140.out) hb); replace HO145 := aK (Kd.Q_below (pQ HO145.out) hb); have BK148 := aK (hbox); have GW148 := aK (gE hg (pS HB.out)); have GE148 := GW148; obtain ⟨NB125_148, NB148_125⟩ := nb hg (pB BK125.out); replace BK125 := bB BK125 hb; replace HB := bS HB hb; clear hb hbox hg) | ((with_reducible refine gate_dst (N := 19) rfl ?_); (try (refine gate_guard (by rfl) ?_; dsimp only)); refine bxe (cs := #[.int .i64 0, .int .i64 0, .slice none 0 0]) (t := 26) ?_; intro gb149 hg w153 hbox hb; replace HO_5 := aK (Kd.R_below (pR HO_5.out) hb); replace HO_7 := aK (Kd.R_below (pR HO_7.out) hb); replace HO_113002 := aK (Kd.Q_below (pQ HO_113002.out) hb); replace HO_114002 := aK (Kd.Q_below (pQ HO_114002.out) hb); replace HO140 := aK (Kd.Q_below (pQ HO140.out) hb); replace HO145 := aK (Kd.Q_below (pQ HO145.out) hb); have BK149 := aK (hbox); have GW149 := aK (gE hg (pS HB.out)); have GE149 := GW149; obtain ⟨NB125_149, NB149_125⟩ := nb hg (pB BK125.out); obtain ⟨NB148_149, NB149_148⟩ := nb hg (pB BK148.out); replace BK125 := bB BK125 hb; replace BK148 := bB BK148 hb; replace HB := bS HB hb; clear hb hbox hg) | ((with_reducible refine gate_dst (N := 20) rfl ?_); (try (refine gate_guard (by rfl) ?_; dsimp only)); refine bxe (cs := #[.int .i64 0, .int .i64 0]) (t := 33) ?_; intro gb150 hg w154 hbox hb; replace HO_5 := aK (Kd.R_below (Kd.R_elderB (pR HO_5.out) gb150 (Nat.le_of_eq hg.symm)) hb); replace HO_7 := aK (Kd.R_below (Kd.R_elderB (pR HO_7.out) gb150 (Nat.le_of_eq hg.symm)) hb); replace HO_113002 := aK (Kd.Q_below (pQ HO_113002.out) hb); replace HO_114002 := aK (Kd.Q_below (pQ HO_114002.out) hb); replace HO140 := aK (Kd.Q_below (pQ HO140.out) hb); replace HO145 := aK (Kd.Q_below (pQ HO145.out) hb); have BK150 := aK (hbox); have GW150 := aK (gE hg (pS HB.out)); have GE150 := GW150; obtain ⟨NB125_150, NB150_125⟩ := nb hg (pB BK125.out); obtain ⟨NB148_150, NB150_148⟩ := nb hg (pB BK148.out); obtain ⟨NB149_150, NB150_149⟩ := nb hg (pB BK149.out); replace BK125 := bB BK125 hb; replace BK148 := bB BK148 hb; replace BK149 := bB BK149 hb; replace HB := bS HB hb; clear hb hbox hg; obtain ⟨hnb155, hnc155⟩ := nB NB148_125; obtain ⟨hnb156, hnc156⟩ := nB NB148_149; obtain ⟨hnb157, hnc157⟩ := nB NB148_150; obtain ⟨z158_0, z158_1, z158_2, y158_0, y158_1, y158_2⟩ := bc3 BK148.out; obtain ⟨Ao159, co159, eo159, _⟩ := Kd.Q_slice HO140.out; subst eo159) | ((with_reducible refine gate_store (t := 26) (p := 18) rfl ?_); refine store_event (t := 26) (p := 18) (v := ?vo_w160) (w1 := (((w154.setCell ⟨gb148, 0, none⟩ (.int .i64 t136)).setCell ⟨gb148, 1, none⟩ (.int .i64 t137)).setCell ⟨gb148, 2, none⟩ (.slice Ao159 t138.length co159))) ?hg ?ho ?hn ?hr ?_; (case ho => rfl); (case hg => rfl); (case hn => rfl); (case hr => first | (go_simp; done) | (go_simp; rfl)); intro w160 hw; replace HO_5 : Aside0 (Kd.R k33 33 w160 w.heap.size (fun k_ => some k_ ≠ (v119 : Value).ownBlock ∧ k_ ≠ gb125 ∧ k_ ≠ gb150) (.slice Ao150 t114.length co150) t114) := ⟨(by rw [hw]; exact (pR (Kd.R_mono (rF3 HO_5.out BK148.out (.int .i64 t136) (.int .i64 t137) (.slice Ao159 t138.length co159)) (fun _ h => ⟨h.1.1, ⟨h.1.2, h.2⟩⟩))))⟩; replace HO_7 : Aside0 (Kd.R k33 33 w160 w.heap.size (fun k_ => some k_ ≠ (.slice Ao150 t114.length co150 : Value).ownBlock ∧ k_ ≠ gb125 ∧ k_ ≠ gb150) v119 t118) := ⟨(by rw [hw]; exact (pR (Kd.R_mono (rF3 HO_7.out BK148.out (.int .i64 t136) (.int .i64 t137) (.slice Ao159 t138.length co159)) (fun _ h => ⟨h.1.1, ⟨h.1.2, h.2⟩⟩))))⟩; replace HO_113002 : Aside0 (Kd.Q (Kd.int .i64) 3 w160 w.heap.size (fun k_ => some k_ ≠ (.slice Ao16 t109.length co16 : Value).ownBlock ∧ some k_ ≠ (.slice Ao159 t138.length co159 : Value).ownBlock ∧ some k_ ≠ (v144 : Value).ownBlock) (.slice Ao13 t104.length co13) t104) := ⟨(by rw [hw]; exact (pQ (Kd.Q_mono (qF3 HO_113002.out BK148.out (.int .i64 t136) (.int .i64 t137) (.slice Ao159 t138.length co159)) (fun _ h => ⟨h.1.1, ⟨h.1.2, h.2⟩⟩))))⟩; replace HO_114002 : Aside0 (Kd.Q (Kd.int .i64) 3 w160 w.heap.size (fun k_ => some k_ ≠ (.slice Ao13 t104.length co13 : Value).ownBlock ∧ some k_ ≠ (.slice Ao159 t138.length co159 : Value).ownBlock ∧ some k_ ≠ (v144 : Value).ownBlock) (.slice Ao16 t109.length co16) t109) := ⟨(by rw [hw]; exact (pQ (Kd.Q_mono (qF3 HO_114002.out BK148.out (.int .i64 t136) (.int .i64 t137) (.slice Ao159 t138.length co159)) (fun _ h => ⟨h.1.1, ⟨h.1.2, h.2⟩⟩))))⟩; replace HO140 : Aside0 (Kd.Q (Kd.int .i64) 3 w160 w.heap.size (fun k_ => some k_ ≠ (.slice Ao13 t104.length co13 : Value).ownBlock ∧ some k_ ≠ (.slice Ao16 t109.length co16 : Value).ownBlock ∧ some k_ ≠ (v144 : Value).ownBlock) (.slice Ao159 t138.length co159) t138) := ⟨(by rw [hw]; exact (pQ (Kd.Q_mono (qF3 HO140.out BK148.out (.int .i64 t136) (.int .i64 t137) (.slice Ao159 t138.length co159)) (fun _ h => ⟨h.1.2, ⟨h.2, h.1.1⟩⟩))))⟩; replace HO145 : Aside0 (Kd.Q (Kd.int .i64) 3 w160 w.heap.size (fun k_ => some k_ ≠ (.slice Ao13 t104.length co13 : Value).ownBlock ∧ some k_ ≠ (.slice Ao16 t109.length co16 : Value).ownBlock ∧ some k_ ≠ (.slice Ao159 t138.length co159 : Value).ownBlock) v144 t143) := ⟨(by rw [hw]; exact (pQ (Kd.Q_mono (qF3 HO145.out BK148.out (.int .i64 t136) (.int .i64 t137) (.slice Ao159 t138.length co159)) (fun _ h => ⟨h.1.2, ⟨h.2, h.1.1⟩⟩))))⟩; replace BK125 : Aside0 (w160.heap[gb125]? = some (.cells #[.int .i64 t122, .int .i64 t123] 33 (0, 0))) := ⟨(by rw [hw]; exact (by refine bk ?_; refine blk_far ?_ NB125_148.out _; refine bk ?_; refine blk_far ?_ NB125_148.out _; refine bk ?_; refine blk_far ?_ NB125_148.out _; refine bk ?_; exact BK125.out))⟩; replace BK148 : Aside0 (w160.heap[gb148]? = some (.cells #[.int .i64 t136, .int .i64 t137, .slice Ao159 t138.length co159] 26 (0, 0))) := ⟨(by rw [hw]; exact (by refine bk ?_; refine blk_put (cs := #[.int .i64 t136, .int .i64 t137, .slice none 0 0]) ?_ 2 _ rfl; refine bk ?_; refine blk_put (cs := #[.int .i64 t136, .int .i64 0, .slice none 0 0]) ?_ 1 _ rfl; refine bk ?_; refine blk_put (cs := #[.int .i64 0, .int .i64 0, .slice none 0 0]) ?_ 0 _ rfl; refine bk ?_; exact BK148.out))⟩; replace BK149 : Aside0 (w160.heap[gb149]? = some (.cells #[.int .i64 0, .int .i64 0, .slice none 0 0] 26 (0, 0))) := ⟨(by rw [hw]; exact (by refine bk ?_; refine blk_far ?_ NB149_148.out _; refine bk ?_; refine blk_far ?_ NB149_148.out _; refine bk ?_; refine blk_far ?_ NB149_148.out _; refine bk ?_; exact BK149.out))⟩; replace BK150 : Aside0 (w160.heap[gb150]? = some (.cells #[.int .i64 0, .int .i64 0] 33 (0, 0))) := ⟨(by rw [hw]; exact (by refine bk ?_; refine blk_far ?_ NB150_148.out _; refine bk ?_; refine blk_far ?_ NB150_148.out _; refine bk ?_; refine blk_far ?_ NB150_148.out _; refine bk ?_; exact BK150.out))⟩; replace HB : Aside0 (Below w.heap.size w w160) := ⟨(by rw [hw]; exact (pS HB.out))⟩; clear hw; obtain ⟨hnb161, hnc161⟩ := nB NB149_125; obtain ⟨hnb162, hnc162⟩ := nB NB149_150; obtain ⟨z163_0, z163_1, z163_2, y163_0, y163_1, y163_2⟩ := bc3 BK149.out; obtain ⟨Ao164, co164, eo164, _⟩ := Kd.Q_slice HO145.out; subst eo164) | ((with_reducible refine gate_store (t := 26) (p := 19) rfl ?_); refine store_event (t := 26) (p := 19) (v := ?vo_w165) (w1 := (((w160.setCell ⟨gb149, 0, none⟩ (.int .i64 t141)).setCell ⟨gb149, 1, none⟩ (.int .i64 t142)).setCell ⟨gb149, 2, none⟩ (.slice Ao164 t143.length co164))) ?hg ?ho ?hn ?hr ?_; (case ho => rfl); (case hg => rfl); (case hn => rfl); (case hr => first | (go_simp; done) | (go_simp; rfl)); intro w165 hw; replace HO_5 : Aside0 (Kd.R k33 33 w165 w.heap.size (fun k_ => some k_ ≠ (v119 : Value).ownBlock ∧ k_ ≠ gb125 ∧ k_ ≠ gb150) (.slice Ao150 t114.length co150) t114) := ⟨(by rw [hw]; exact (pR (Kd.R_mono (rF3 HO_5.out BK149.out (.int .i64 t141) (.int .i64 t142) (.slice Ao164 t143.length co164)) (fun _ h => ⟨h.1, ⟨h.2.1, h.2.2⟩⟩))))⟩; replace HO_7 : Aside0 (Kd.R k33 33 w165 w.heap.size (fun k_ => some k_ ≠ (.slice Ao150 t114.length co150 : Value).ownBlock ∧ k_ ≠ gb125 ∧ k_ ≠ gb150) v119 t118) := ⟨(by rw [hw]; exact (pR (Kd.R_mono (rF3 HO_7.out BK149.out (.int .i64 t141) (.int .i64 t142) (.slice Ao164 t143.length co164)) (fun _ h => ⟨h.1, ⟨h.2.1, h.2.2⟩⟩))))⟩; replace HO_113002 : Aside0 (Kd.Q (Kd.int .i64) 3 w165 w.heap.size (fun k_ => some k_ ≠ (.slice Ao16 t109.length co16 : Value).ownBlock ∧ some k_ ≠ (.slice Ao159 t138.length co159 : Value).ownBlock ∧ some k_ ≠ (.slice Ao164 t143.length co164 : Value).ownBlock) (.slice Ao13 t104.length co13) t104) := ⟨(by rw [hw]; exact (pQ (Kd.Q_mono (qF3 HO_113002.out BK149.out (.int .i64 t141) (.int .i64 t142) (.slice Ao164 t143.length co164)) (fun _ h => ⟨h.1, ⟨h.2.1, h.2.2⟩⟩))))⟩; replace HO_114002 : Aside0 (Kd.Q (Kd.int .i64) 3 w165 w.heap.size (fun k_ => some k_ ≠ (.slice Ao13 t104.length co13 : Value).ownBlock ∧ some k_ ≠ (.slice Ao159 t138.length co159 : Value).ownBlock ∧ some k_ ≠ (.slice Ao164 t143.length co164 : Value).ownBlock) (.slice Ao16 t109.length co16) t109) := ⟨(by rw [hw]; exact (pQ (Kd.Q_mono (qF3 HO_114002.out BK149.out (.int .i64 t141) (.int .i64 t142) (.slice Ao164 t143.length co164)) (fun _ h => ⟨h.1, ⟨h.2.1, h.2.2⟩⟩))))⟩; replace HO140 : Aside0 (Kd.Q (Kd.int .i64) 3 w165 w.heap.size (fun k_ => some k_ ≠ (.slice Ao13 t104.length co13 : Value).ownBlock ∧ some k_ ≠ (.slice Ao16 t109.length co16 : Value).ownBlock ∧ some k_ ≠ (.slice Ao164 t143.length co164 : Value).ownBlock) (.slice Ao159 t138.length co159) t138) := ⟨(by rw [hw]; exact (pQ (Kd.Q_mono (qF3 HO140.out BK149.out (.int .i64 t141) (.int .i64 t142) (.slice Ao164 t143.length co164)) (fun _ h => ⟨h.1, ⟨h.2.1, h.2.2⟩⟩))))⟩; replace HO145 : Aside0 (Kd.Q (Kd.int .i64) 3 w165 w.heap.size (fun k_ => some k_ ≠ (.slice Ao13 t104.length co13 : Value).ownBlock ∧ some k_ ≠ (.slice Ao16 t109.length co16 : Value).ownBlock ∧ some k_ ≠ (.slice Ao159 t138.length co159 : Value).ownBlock) (.slice Ao164 t143.length co164) t143) := ⟨(by rw [hw]; exact (pQ (Kd.Q_mono (qF3 HO145.out BK149.out (.int .i64 t141) (.int .i64 t142) (.slice Ao164 t143.length co164)) (fun _ h => ⟨h.1, ⟨h.2.1, h.2.2⟩⟩))))⟩; replace BK125 : Aside0 (w165.heap[gb125]? = some (.cells #[.int .i64 t122, .int .i64 t123] 33 (0, 0))) := ⟨(by rw [hw]; exact (by refine bk ?_; refine blk_far ?_ NB125_149.out _; refine bk ?_; refine blk_far ?_ NB125_149.out _; refine bk ?_; refine blk_far ?_ NB125_149.out _; refine bk ?_; exact BK125.out))⟩; replace BK148 : Aside0 (w165.heap[gb148]? = some (.cells #[.int .i64 t136, .int .i64 t137, .slice Ao159 t138.length co159] 26 (0, 0))) := ⟨(by rw [hw]; exact (by refine bk ?_; refine blk_far ?_ NB148_149.out _; refine bk ?_; refine blk_far ?_ NB148_149.out _; refine bk ?_; refine blk_far ?_ NB148_149.out _; refine bk ?_; exact BK148.out))⟩; replace BK149 : Aside0 (w165.heap[gb149]? = some (.cells #[.int .i64 t141, .int .i64 t142, .slice Ao164 t143.length co164] 26 (0, 0))) := ⟨(by rw [hw]; exact (by refine bk ?_; refine blk_put (cs := #[.int .i64 t141, .int .i64 t142, .slice none 0 0]) ?_ 2 _ rfl; refine bk ?_; refine blk_put (cs := #[.int .i64 t141, .int .i64 0, .slice none 0 0]) ?_ 1 _ rfl; refine bk ?_; refine blk_put (cs := #[.int .i64 0, .int .i64 0, .slice none 0 0]) ?_ 0 _ rfl; refine bk ?_; exact BK149.out))⟩; replace BK150 : Aside0 (w165.heap[gb150]? = some (.cells #[.int .i64 0, .int .i64 0] 33 (0, 0))) := ⟨(by rw [hw]; exact (by refine bk ?_; refine blk_far ?_ NB150_149.out _; refine bk ?_; refine blk_far ?_ NB150_149.out _; refine bk ?_; refine blk_far ?_ NB150_149.out _; refine bk ?_; exact BK150.out))⟩; replace HB : Aside0 (Below w.heap.size w w165) := ⟨(by rw [hw]; exact (pS HB.out))⟩; clear hw; obtain ⟨hnb166, hnc166⟩ := nB NB150_125; obtain ⟨z167_0, z167_1, y167_0, y167_1⟩ := bc2 BK150.out) | ((with_reducible refine gate_store (t := 33) (p := 20) rfl ?_); refine store_event (t := 33) (p := 20) (v := ?vo_w168) (w1 := ((w165.setCell ⟨gb150, 0, none⟩ (.int .i64 t146)).setCell ⟨gb150, 1, none⟩ (.int .i64 t147))) ?hg ?ho ?hn ?hr ?_; (case ho => rfl); (case hg => rfl); (case hn => rfl); (case hr => first | (go_simp; done) | (go_simp; rfl)); intro w168 hw; replace HO_5 : Aside0 (Kd.R k33 33 w168 w.heap.size (fun k_ => some k_ ≠ (v119 : Value).ownBlock ∧ k_ ≠ gb125 ∧ k_ ≠ gb150) (.slice Ao150 t114.length co150) t114) := ⟨(by rw [hw]; exact (pR (Kd.R_mono (Kd.R_far (p := ⟨gb150, 1, none⟩) (Kd.R_far (p := ⟨gb150, 0, none⟩) (Kd.R_mono HO_5.out (fun k_ hk => (⟨hk, hk.2.2⟩ : _ ∧ k_ ≠ gb150))) (fun _ hk => hk.2) (.int .i64 t146)) (fun _ hk => hk.2) (.int .i64 t147)) (fun _ hk => ⟨hk.1.1, ⟨hk.1.2.1, hk.1.2.2⟩⟩))))⟩; replace HO_7 : Aside0 (Kd.R k33 33 w168 w.heap.size (fun k_ => some k_ ≠ (.slice Ao150 t114.length co150 : Value).ownBlock ∧ k_ ≠ gb125 ∧ k_ ≠ gb150) v119 t118) := ⟨(by rw [hw]; exact (pR (Kd.R_mono (Kd.R_far (p := ⟨gb150, 1, none⟩) (Kd.R_far (p := ⟨gb150, 0, none⟩) (Kd.R_mono HO_7.out (fun k_ hk => (⟨hk, hk.2.2⟩ : _ ∧ k_ ≠ gb150))) (fun _ hk => hk.2) (.int .i64 t146)) (fun _ hk => hk.2) (.int .i64 t147)) (fun _ hk => ⟨hk.1.1, ⟨hk.1.2.1, hk.1.2.2⟩⟩))))⟩; replace HO_113002 : Aside0 (Kd.Q (Kd.int .i64) 3 w168 w.heap.size (fun k_ => some k_ ≠ (.slice Ao16 t109.length co16 : Value).ownBlock ∧ some k_ ≠ (.slice Ao159 t138.length co159 : Value).ownBlock ∧ some k_ ≠ (.slice Ao164 t143.length co164 : Value).ownBlock) (.slice Ao13 t104.length co13) t104) := ⟨(by rw [hw]; exact (pQ (Kd.Q_mono (qF2 HO_113002.out BK150.out (.int .i64 t146) (.int .i64 t147)) (fun _ h => ⟨h.1, ⟨h.2.1, h.2.2⟩⟩))))⟩; replace HO_114002 : Aside0 (Kd.Q (Kd.int .i64) 3 w168 w.heap.size (fun k_ => some k_ ≠ (.slice Ao13 t104.length co13 : Value).ownBlock ∧ some k_ ≠ (.slice Ao159 t138.length co159 : Value).ownBlock ∧ some k_ ≠ (.slice Ao164 t143.length co164 : Value).ownBlock) (.slice Ao16 t109.length co16) t109) := ⟨(by rw [hw]; exact (pQ (Kd.Q_mono (qF2 HO_114002.out BK150.out (.int .i64 t146) (.int .i64 t147)) (fun _ h => ⟨h.1, ⟨h.2.1, h.2.2⟩⟩))))⟩; replace HO140 : Aside0 (Kd.Q (Kd.int .i64) 3 w168 w.heap.size (fun k_ => some k_ ≠ (.slice Ao13 t104.length co13 : Value).ownBlock ∧ some k_ ≠ (.slice Ao16 t109.length co16 : Value).ownBlock ∧ some k_ ≠ (.slice Ao164 t143.length co164 : Value).ownBlock) (.slice Ao159 t138.length co159) t138) := ⟨(by rw [hw]; exact (pQ (Kd.Q_mono (qF2 HO140.out BK150.out (.int .i64 t146) (.int .i64 t147)) (fun _ h => ⟨h.1, ⟨h.2.1, h.2.2⟩⟩))))⟩; replace HO145 : Aside0 (Kd.Q (Kd.int .i64) 3 w168 w.heap.size (fun k_ => some k_ ≠ (.slice Ao13 t104.length co13 : Value).ownBlock ∧ some k_ ≠ (.slice Ao16 t109.length co16 : Value).ownBlock ∧ some k_ ≠ (.slice Ao159 t138.length co159 : Value).ownBlock) (.slice Ao164 t143.length co164) t143) := ⟨(by rw [hw]; exact (pQ (Kd.Q_mono (qF2 HO145.out BK150.out (.int .i64 t146) (.int .i64 t147)) (fun _ h => ⟨h.1, ⟨h.2.1, h.2.2⟩⟩))))⟩; replace BK125 : Aside0 (w168.heap[gb125]? = some (.cells #[.int .i64 t122, .int .i64 t123] 33 (0, 0))) := ⟨(by rw [hw]; exact (by refine bk ?_; refine blk_far ?_ NB125_150.out _; refine bk ?_; refine blk_far ?_ NB125_150.out _; refine bk ?_; exact BK125.out))⟩; replace BK148 : Aside0 (w168.heap[gb148]? = some (.cells #[.int .i64 t136, .int .i64 t137, .slice Ao159 t138.length co159] 26 (0, 0))) := ⟨(by rw [hw]; exact (by refine bk ?_; refine blk_far ?_ NB148_150.out _; refine bk ?_; refine blk_far ?_ NB148_150.out _; refine bk ?_; exact BK148.out))⟩; replace BK149 : Aside0 (w168.heap[gb149]? = some (.cells #[.int .i64 t141, .int .i64 t142, .slice Ao164 t143.length co164] 26 (0, 0))) := ⟨(by rw [hw]; exact (by refine bk ?_; refine blk_far ?_ NB149_150.out _; refine bk ?_; refine blk_far ?_ NB149_150.out _; refine bk ?_; exact BK149.out))⟩; replace BK150 : Aside0 (w168.heap[gb150]? = some (.cells #[.int .i64 t146, .int .i64 t147] 33 (0, 0))) := ⟨(by rw [hw]; exact (by refine bk ?_; refine blk_put (cs := #[.int .i64 t146, .int .i64 0]) ?_ 1 _ rfl; refine bk ?_; refine blk_put (cs := #[.int .i64 0, .int .i64 0]) ?_ 0 _ rfl; refine bk ?_; exact BK150.out))⟩; replace HB : Aside0 (Below w.heap.size w w168) := ⟨(by rw [hw]; exact (pS HB.out))⟩; clear hw; obtain ⟨z169_0, z169_1, z169_2, y169_0, y169_1, y169_2⟩ := bc3 BK148.out; obtain ⟨z170_0, z170_1, z170_2, y170_0, y170_1, y170_2⟩ := bc3 BK149.out; obtain ⟨z171_0, z171_1, y171_0, y171_1⟩ := bc2 BK150.out) | ((with_reducible refine gate_callee (f := 9) rfl ?_); refine gl (some 155) Try.func9 #[.agg #[.int .i64 t136, .int .i64 t137, .slice Ao159 t138.length co159], .agg #[.int .i64 t141, .int .i64 t142, .slice Ao164 t143.length co164], .agg #[.int .i64 t146, .int .i64 t147]] ?_; (with_reducible refine (impl_MatchOf.calls k3 t136 t137 (fun k_ => some k_ = (.slice Ao159 t138.length co159 : Value).ownBlock) _ _ t138 t141 t142 (fun k_ => some k_ = (.slice Ao164 t143.length co164 : Value).ownBlock) _ _ t143 t146 t147 t151 t152 t153 _ ?side1 ?side2 A147.out).mono ?_); (case side1 => exact Kd.Q_V (Kd.Q_tight rfl (Kd.Q_types (Kd.Q_types (Kd.Q_types (Kd.Q_types (Kd.Q_apart' (Kd.Q_apart' (HO140.out) (Kd.R_typed HO_5.out) (by decide)) (Kd.R_typed HO_7.out) (by decide)) BK125.out (by decide)) BK148.out (by decide)) BK149.out (by decide)) BK150.out (by decide)))); (case side2 => exact Kd.Q_V (Kd.Q_tight rfl (Kd.Q_types (Kd.Q_types (Kd.Q_types (Kd.Q_types (Kd.Q_apart' (Kd.Q_apart' (HO145.out) (Kd.R_typed HO_5.out) (by decide)) (Kd.R_typed HO_7.out) (by decide)) BK125.out (by decide)) BK148.out (by decide)) BK149.out (by decide)) BK150.out (by decide)))); rintro e w172 ⟨rfl, hb⟩; refine ⟨_, rfl, ?_⟩; replace HO_5 := aK (Kd.R_below (pR HO_5.out) hb); replace HO_7 := aK (Kd.R_below (pR HO_7.out) hb); replace HO_113002 := aK (Kd.Q_below (pQ HO_113002.out) hb); replace HO_114002 := aK (Kd.Q_below (pQ HO_114002.out) hb); replace HO140 := aK (Kd.Q_below (pQ HO140.out) hb); replace HO145 := aK (Kd.Q_below (pQ HO145.out) hb); replace BK125 := bB BK125 hb; replace BK148 := bB BK148 hb; replace BK149 := bB BK149 hb; replace BK150 := bB BK150 hb; replace HB := bS HB hb; (try clear hb); (try clear hb2); (try clear hk); (try clear hi); obtain ⟨z173_0, z173_1, z173_2, y173_0, y173_1, y173_2⟩ := bc3 BK148.out; obtain ⟨z174_0, z174_1, z174_2, y174_0, y174_1, y174_2⟩ := bc3 BK149.out; obtain ⟨z175_0, z175_1, y175_0, y175_1⟩ := bc2 BK150.out) | ((with_reducible refine gate_callee (f := 11) rfl ?_); refine gl (some 163) Try.func11 #[.agg #[.int .i64 t136, .int .i64 t137, .slice Ao159 t138.length co159], .agg #[.int .i64 t141, .int .i64 t142, .slice Ao164 t143.length co164], .agg #[.int .i64 t146, .int .i64 t147]] ?_; (with_reducible refine (spec_MatchOf.calls k3 t136 t137 _ _ t138 t141 t142 _ _ t143 t146 t147 t154 t155 t156 _ ?side1 ?side2 ?side3 ?side4 A148.out).mono ?_); (case side1 => exact pC (Kd.Q_reads' HO140.out).2.2); (case side2 => exact (Kd.Q_reads' HO140.out).2.1); (case side3 => exact pC (Kd.Q_reads' HO145.out).2.2); (case side4 => exact (Kd.Q_reads' HO145.out).2.1); rintro e w176 ⟨rfl, hb⟩; refine ⟨_, rfl, ?_⟩; replace HO_5 := aK (Kd.R_below (pR HO_5.out) hb); replace HO_7 := aK (Kd.R_below (pR HO_7.out) hb); replace HO_113002 := aK (Kd.Q_below (pQ HO_113002.out) hb); replace HO_114002 := aK (Kd.Q_below (pQ HO_114002.out) hb); replace HO140 := aK (Kd.Q_below (pQ HO140.out) hb); replace HO145 := aK (Kd.Q_below (pQ HO145.out) hb); replace BK125 := bB BK125 hb; replace BK148 := bB BK148 hb; replace BK149 := bB BK149 hb; replace BK150 := bB BK150 hb; replace HB := bS HB hb; (try clear hb); (try clear hb2); (try clear hk); (try clear hi)))
        (try simp only [Act.put, List.setIfInBounds_toArray, List.set_cons_zero, List.set_cons_succ])
        go_cut [179] (fun v179 wc => ∃ (kq : Nat) (x179_148 : Bool), v179 = .bool x179_148 ∧ Aside0 (laws_FnMotion.j3 kq t151 t152 t153 x179_148 t136 t137 t138 t141 t142 t143 t146 t147 = some r) ∧ Aside0 (kq ≤ k3) ∧ Aside0 (Kd.Q (Kd.int .i64) 3 wc w.heap.size (fun k_ => some k_ ≠ ((.slice Ao164 t143.length co164) : Value).ownBlock) (.slice Ao159 t138.length co159) t138) ∧ Aside0 (Kd.Q (Kd.int .i64) 3 wc w.heap.size (fun k_ => some k_ ≠ ((.slice Ao159 t138.length co159) : Value).ownBlock) (.slice Ao164 t143.length co164) t143) ∧ Aside0 (wc.heap[gb148]? = some (.cells #[.int .i64 t136, .int .i64 t137, (.slice Ao159 t138.length co159)] 26 (0, 0))) ∧ Aside0 (wc.heap[gb149]? = some (.cells #[.int .i64 t141, .int .i64 t142, (.slice Ao164 t143.length co164)] 26 (0, 0))) ∧ Aside0 (wc.heap[gb150]? = some (.cells #[.int .i64 t146, .int .i64 t147] 33 (0, 0))) ∧ Aside0 (Below w.heap.size w wc))
        case first => as_aux_lemma =>
         have H := HC149.out; clear HC149
         by_cases c177 : t151 = t154
         rotate_left
         ·
          rw [if_neg c177] at H
          have c177b0 : (t151 == t154) = false := beq_eq_false_iff_ne.mpr c177
          have c177b1 : (t151 != t154) = true := bne_iff_ne.mpr c177
          (first | rw [c177b0] | (simp only [i64_w, i32_w]; rw [c177b0]) | skip)
          have H' := Aside0.mk H; clear H
          go_wp2
          go_meet
          case rel => exact ⟨_, (true), (by first | rfl | (simp; done) | (simp [*]; done)), H', ⟨by have := HJ6.out; have := HJ28.out; have := HK3.out; first | omega | exact Nat.le_refl _⟩, ⟨by (with_reducible repeat (first | apply Kd.Q_alloc | apply Kd.Q_drewN | apply Kd.Q_drew)); exact Kd.Q_mono HO140.out (fun _ hk => hk.2.2)⟩, ⟨by (with_reducible repeat (first | apply Kd.Q_alloc | apply Kd.Q_drewN | apply Kd.Q_drew)); exact Kd.Q_mono HO145.out (fun _ hk => hk.2.2)⟩, ⟨by refine bk ?_; exact BK148.out⟩, ⟨by refine bk ?_; exact BK149.out⟩, ⟨by refine bk ?_; exact BK150.out⟩, ⟨pT HB.out⟩⟩
         rw [if_pos c177] at H
         have c177b0 : (t151 == t154) = true := beq_iff_eq.mpr c177
         have c177b1 : (t151 != t154) = false := bne_eq_false_iff_eq.mpr c177
         clear c177
         (first | rw [c177b0] | (simp only [i64_w, i32_w]; rw [c177b0]) | skip)
         by_cases c178 : t152 = t155
         ·
          rw [if_pos c178] at H
          have c178b0 : (t152 == t155) = true := beq_iff_eq.mpr c178
          have c178b1 : (t152 != t155) = false := bne_eq_false_iff_eq.mpr c178
          clear c178; have H' := Aside0.mk H; clear H
          go_wp2
          go_meet
          case rel => exact ⟨_, ((t153 != t156)), (by first | rfl | (simp; done) | (simp [*]; done)), H', ⟨by have := HJ6.out; have := HJ28.out; have := HK3.out; first | omega | exact Nat.le_refl _⟩, ⟨by (with_reducible repeat (first | apply Kd.Q_alloc | apply Kd.Q_drewN | apply Kd.Q_drew)); exact Kd.Q_mono HO140.out (fun _ hk => hk.2.2)⟩, ⟨by (with_reducible repeat (first | apply Kd.Q_alloc | apply Kd.Q_drewN | apply Kd.Q_drew)); exact Kd.Q_mono HO145.out (fun _ hk => hk.2.2)⟩, ⟨by refine bk ?_; exact BK148.out⟩, ⟨by refine bk ?_; exact BK149.out⟩, ⟨by refine bk ?_; exact BK150.out⟩, ⟨pT HB.out⟩⟩
         rw [if_neg c178] at H
         have c178b0 : (t152 == t155) = false := beq_eq_false_iff_ne.mpr c178
         have c178b1 : (t152 != t155) = true := bne_iff_ne.mpr c178
         have H' := Aside0.mk H; clear H
         go_wp2
         go_meet
         case rel => exact ⟨_, (true), (by first | rfl | (simp; done) | (simp [*]; done)), H', ⟨by have := HJ6.out; have := HJ28.out; have := HK3.out; first | omega | exact Nat.le_refl _⟩, ⟨by (with_reducible repeat (first | apply Kd.Q_alloc | apply Kd.Q_drewN | apply Kd.Q_drew)); exact Kd.Q_mono HO140.out (fun _ hk => hk.2.2)⟩, ⟨by (with_reducible repeat (first | apply Kd.Q_alloc | apply Kd.Q_drewN | apply Kd.Q_drew)); exact Kd.Q_mono HO145.out (fun _ hk => hk.2.2)⟩, ⟨by refine bk ?_; exact BK148.out⟩, ⟨by refine bk ?_; exact BK149.out⟩, ⟨by refine bk ?_; exact BK150.out⟩, ⟨pT HB.out⟩⟩
        case rest => as_aux_lemma =>
         clear HC149
         try clear c1
         try clear p1
         try clear q1
         try clear hx1
         try clear p2
         try clear c5
         try clear c6
         try clear c9
         try clear c10
         try clear c11
         try clear p12
         try clear q12
         try clear hx12
         try clear c13
         try clear p13
         try clear q13
         try clear hx13
         try clear c14
         try clear c15
         try clear c16
         try clear c17
         try clear c51
         try clear c51b0
         try clear c52
         try clear c55
         try clear c69
         try clear p127
         try clear q127
         try clear hx127
         try clear p134
         try clear q134
         try clear hx134
         try clear p135
         try clear q135
         try clear hx135
         try clear c137
         try clear c138
         try clear c140
         try clear c155
         try clear c156
         try clear c157
         try clear c161
         try clear c162
         try clear c166
         try clear c177
         try clear c177b0
         try clear c177b1
         try clear c178
         try clear c178b0
         try clear c178b1
         try clear z139_0
         try clear z139_1
         try clear z139_2
         try clear z141_0
         try clear z141_1
         try clear z141_2
         try clear z142_0
         try clear z142_1
         try clear z158_0
         try clear z158_1
         try clear z158_2
         try clear z163_0
         try clear z163_1
         try clear z163_2
         try clear z167_0
         try clear z167_1
         try clear z169_0
         try clear z169_1
         try clear z169_2
         try clear z170_0
         try clear z170_1
         try clear z170_2
         try clear z171_0
         try clear z171_1
         try clear z173_0
         try clear z173_1
         try clear z173_2
         try clear z174_0
         try clear z174_1
         try clear z174_2
         try clear z175_0
         try clear z175_1
         try clear y139_0
         try clear y139_1
         try clear y139_2
         try clear y141_0
         try clear y141_1
         try clear y141_2
         try clear y142_0
         try clear y142_1
         try clear y158_0
         try clear y158_1
         try clear y158_2
         try clear y163_0
         try clear y163_1
         try clear y163_2
         try clear y167_0
         try clear y167_1
         try clear y169_0
         try clear y169_1
         try clear y169_2
         try clear y170_0
         try clear y170_1
         try clear y170_2
         try clear y171_0
         try clear y171_1
         try clear y173_0
         try clear y173_1
         try clear y173_2
         try clear y174_0
         try clear y174_1
         try clear y174_2
         try clear y175_0
         try clear y175_1
         try clear hx127_0
         try clear hx127_1
         try clear hx134_0
         try clear hx134_1
         try clear hx135_0
         try clear hx135_1
         try clear p127
         try clear p134
         try clear p135
         try clear q127
         try clear q134
         try clear q135
         obtain ⟨kq, x179_148, rfl, HA, HJ148, HO_149002, HO_150002, BK148, BK149, BK150, HB⟩ := hcut
         cases kq with
         | zero => exact absurd HA.out (by simp [laws_FnMotion.j3])
         | succ kj148 =>
          have H := HA.out; clear HA
          simp only [laws_FnMotion.j3] at H
          by_cases c179 : x179_148 = true
          ·
           subst c179
           have H1 : (some false) = some r := by rw [if_pos rfl] at H; exact H
           clear H; have H := H1; clear H1
           obtain rfl := Option.some.inj H
           go_wp2
           go_ret
           exact ⟨er, pT HB.out⟩
          replace c179 := Bool.eq_false_iff.mpr c179; subst c179
          have H1 : ((impl_ReverseMotion.f t146 t147).bind fun bt157 => (if t153 = true then ((impl_MatchOf.f kj148 t141 t142 t143 t136 t137 t138 bt157.1 bt157.2.1).bind fun bt161 => (if bt157.2.2 = true then (if bt161.2.2 = true then (if bt161.1 = t151 then (if bt161.2.1 = t152 then (some true) else (some false)) else (some false)) else (some false)) else (some false))) else (some true))) = some r := by rw [if_neg (show ¬ (false = true) by decide)] at H; exact H
          clear H; have H := H1; clear H1; replace H := Option.bind_eq_some_iff.mp H
          obtain ⟨⟨t157, t158, t159⟩, A1800, H⟩ := H
          replace H : (if t153 = true then ((impl_MatchOf.f kj148 t141 t142 t143 t136 t137 t138 t157 t158).bind fun bt161 => (if t159 = true then (if bt161.2.2 = true then (if bt161.1 = t151 then (if bt161.2.1 = t152 then (some true) else (some false)) else (some false)) else (some false)) else (some false))) else (some true)) = some r := H
          have A180 := Aside0.mk A1800; clear A1800
          by_cases c181 : t153 = true
          rotate_left
          ·
           replace c181 := Bool.eq_false_iff.mpr c181; subst c181
           have H1 : (some true) = some r := by rw [if_neg (show ¬ (false = true) by decide)] at H; exact H
           clear H; have H := H1; clear H1
           obtain rfl := Option.some.inj H
           obtain ⟨z257_0, z257_1, y257_0, y257_1⟩ := bc2 BK150.out
           go_wp2_with (first | ((with_reducible refine gate_callee (f := 12) rfl ?_); refine gl (some 182) Try.func12 #[.agg #[.int .i64 t146, .int .i64 t147]] ?_; (with_reducible refine (impl_ReverseMotion.calls t146 t147 t157 t158 t159 _ A180.out).mono ?_); rintro e w258 ⟨rfl, hb⟩; refine ⟨_, rfl, ?_⟩; replace HO_149002 := aK (Kd.Q_below (pQ HO_149002.out) hb); replace HO_150002 := aK (Kd.Q_below (pQ HO_150002.out) hb); replace HB := bS HB hb; (try clear hb); (try clear hb2); (try clear hk); (try clear hi)) | ((with_reducible refine gate_dst (N := 27) rfl ?_); (try (refine gate_guard (by rfl) ?_; dsimp only)); refine bxe (cs := #[.int .i64 0, .int .i64 0]) (t := 33) ?_; intro gb160 hg w259 hbox hb; replace HO_149002 := aK (Kd.Q_below (pQ HO_149002.out) hb); replace HO_150002 := aK (Kd.Q_below (pQ HO_150002.out) hb); have BK160 := aK (hbox); have GW160 := aK (gE hg (pS HB.out)); have GE160 := GW160; replace HB := bS HB hb; clear hb hbox hg; obtain ⟨z260_0, z260_1, y260_0, y260_1⟩ := bc2 BK160.out))
           go_ret
           exact ⟨er, pT HB.out⟩
          subst c181
          have H1 : ((impl_MatchOf.f kj148 t141 t142 t143 t136 t137 t138 t157 t158).bind fun bt161 => (if t159 = true then (if bt161.2.2 = true then (if bt161.1 = t151 then (if bt161.2.1 = t152 then (some true) else (some false)) else (some false)) else (some false)) else (some false))) = some r := by rw [if_pos rfl] at H; exact H
          clear H; have H := H1; clear H1; replace H := Option.bind_eq_some_iff.mp H
          obtain ⟨⟨t161, t162, t163⟩, A1820, H⟩ := H
          replace H : (if t159 = true then (if t163 = true then (if t161 = t151 then (if t162 = t152 then (some true) else (some false)) else (some false)) else (some false)) else (some false)) = some r := H
          have A182 := Aside0.mk A1820; clear A1820
          by_cases c183 : t159 = true
          rotate_left
          ·
           replace c183 := Bool.eq_false_iff.mpr c183; subst c183
           have H1 : (some false) = some r := by rw [if_neg (show ¬ (false = true) by decide)] at H; exact H
           clear H; have H := H1; clear H1
           obtain rfl := Option.some.inj H
           obtain ⟨hnb243, hnc243⟩ := nB NB150_148; obtain ⟨hnb244, hnc244⟩ := nB NB150_149; obtain ⟨z245_0, z245_1, y245_0, y245_1⟩ := bc2 BK150.out
           go_wp2_with (first | ((with_reducible refine gate_callee (f := 12) rfl ?_); refine gl (some 182) Try.func12 #[.agg #[.int .i64 t146, .int .i64 t147]] ?_; (with_reducible refine (impl_ReverseMotion.calls t146 t147 t157 t158 false _ A180.out).mono ?_); rintro e w246 ⟨rfl, hb⟩; refine ⟨_, rfl, ?_⟩; replace HO_149002 := aK (Kd.Q_below (pQ HO_149002.out) hb); replace HO_150002 := aK (Kd.Q_below (pQ HO_150002.out) hb); replace BK148 := bB BK148 hb; replace BK149 := bB BK149 hb; replace HB := bS HB hb; (try clear hb); (try clear hb2); (try clear hk); (try clear hi)) | ((with_reducible refine gate_dst (N := 27) rfl ?_); (try (refine gate_guard (by rfl) ?_; dsimp only)); refine bxe (cs := #[.int .i64 0, .int .i64 0]) (t := 33) ?_; intro gb160 hg w247 hbox hb; replace HO_149002 := aK (Kd.Q_below (pQ HO_149002.out) hb); replace HO_150002 := aK (Kd.Q_below (pQ HO_150002.out) hb); have BK160 := aK (hbox); have GW160 := aK (gE hg (pS HB.out)); have GE160 := GW160; obtain ⟨NB148_160, NB160_148⟩ := nb hg (pB BK148.out); obtain ⟨NB149_160, NB160_149⟩ := nb hg (pB BK149.out); replace BK148 := bB BK148 hb; replace BK149 := bB BK149 hb; replace HB := bS HB hb; clear hb hbox hg; obtain ⟨hnb248, hnc248⟩ := nB NB160_148; obtain ⟨hnb249, hnc249⟩ := nB NB160_149; obtain ⟨z250_0, z250_1, y250_0, y250_1⟩ := bc2 BK160.out) | ((with_reducible refine gate_store (t := 33) (p := 27) rfl ?_); refine store_event (t := 33) (p := 27) (v := ?vo_w251) (w1 := ((w247.setCell ⟨gb160, 0, none⟩ (.int .i64 t157)).setCell ⟨gb160, 1, none⟩ (.int .i64 t158))) ?hg ?ho ?hn ?hr ?_; (case ho => rfl); (case hg => rfl); (case hn => rfl); (case hr => first | (go_simp; done) | (go_simp; rfl)); intro w251 hw; replace HO_149002 : Aside0 (Kd.Q (Kd.int .i64) 3 w251 w.heap.size (fun k_ => some k_ ≠ (.slice Ao164 t143.length co164 : Value).ownBlock) (.slice Ao159 t138.length co159) t138) := ⟨(by rw [hw]; exact (pQ (qF2 HO_149002.out BK160.out (.int .i64 t157) (.int .i64 t158))))⟩; replace HO_150002 : Aside0 (Kd.Q (Kd.int .i64) 3 w251 w.heap.size (fun k_ => some k_ ≠ (.slice Ao159 t138.length co159 : Value).ownBlock) (.slice Ao164 t143.length co164) t143) := ⟨(by rw [hw]; exact (pQ (qF2 HO_150002.out BK160.out (.int .i64 t157) (.int .i64 t158))))⟩; replace BK148 : Aside0 (w251.heap[gb148]? = some (.cells #[.int .i64 t136, .int .i64 t137, .slice Ao159 t138.length co159] 26 (0, 0))) := ⟨(by rw [hw]; exact (by refine bk ?_; refine blk_far ?_ NB148_160.out _; refine bk ?_; refine blk_far ?_ NB148_160.out _; refine bk ?_; exact BK148.out))⟩; replace BK149 : Aside0 (w251.heap[gb149]? = some (.cells #[.int .i64 t141, .int .i64 t142, .slice Ao164 t143.length co164] 26 (0, 0))) := ⟨(by rw [hw]; exact (by refine bk ?_; refine blk_far ?_ NB149_160.out _; refine bk ?_; refine blk_far ?_ NB149_160.out _; refine bk ?_; exact BK149.out))⟩; replace BK160 : Aside0 (w251.heap[gb160]? = some (.cells #[.int .i64 t157, .int .i64 t158] 33 (0, 0))) := ⟨(by rw [hw]; exact (by refine bk ?_; refine blk_put (cs := #[.int .i64 t157, .int .i64 0]) ?_ 1 _ rfl; refine bk ?_; refine blk_put (cs := #[.int .i64 0, .int .i64 0]) ?_ 0 _ rfl; refine bk ?_; exact BK160.out))⟩; replace HB : Aside0 (Below w.heap.size w w251) := ⟨(by rw [hw]; exact (pS HB.out))⟩; clear hw; obtain ⟨hnb252, hnc252⟩ := nB NB149_148; obtain ⟨z253_0, z253_1, z253_2, y253_0, y253_1, y253_2⟩ := bc3 BK149.out; obtain ⟨z254_0, z254_1, z254_2, y254_0, y254_1, y254_2⟩ := bc3 BK148.out; obtain ⟨z255_0, z255_1, y255_0, y255_1⟩ := bc2 BK160.out) | ((with_reducible refine gate_callee (f := 9) rfl ?_); refine gl (some 190) Try.func9 #[.agg #[.int .i64 t141, .int .i64 t142, .slice Ao164 t143.length co164], .agg #[.int .i64 t136, .int .i64 t137, .slice Ao159 t138.length co159], .agg #[.int .i64 t157, .int .i64 t158]] ?_; (with_reducible refine (impl_MatchOf.calls kj148 t141 t142 (fun k_ => some k_ = (.slice Ao164 t143.length co164 : Value).ownBlock) _ _ t143 t136 t137 (fun k_ => some k_ = (.slice Ao159 t138.length co159 : Value).ownBlock) _ _ t138 t157 t158 t161 t162 t163 _ ?side1 ?side2 A182.out).mono ?_); (case side1 => exact Kd.Q_V (Kd.Q_tight rfl (HO_150002.out))); (case side2 => exact Kd.Q_V (Kd.Q_tight rfl (HO_149002.out))); rintro e w256 ⟨rfl, hb⟩; refine ⟨_, rfl, ?_⟩; replace HO_149002 := aK (Kd.Q_below (pQ HO_149002.out) hb); replace HO_150002 := aK (Kd.Q_below (pQ HO_150002.out) hb); replace HB := bS HB hb; (try clear hb); (try clear hb2); (try clear hk); (try clear hi)))
           go_ret
           exact ⟨er, pT HB.out⟩
          subst c183
          have H1 : (if t163 = true then (if t161 = t151 then (if t162 = t152 then (some true) else (some false)) else (some false)) else (some false)) = some r := by rw [if_pos rfl] at H; exact H
          clear H; have H := H1; clear H1
          by_cases c184 : t163 = true
          rotate_left
          ·
           replace c184 := Bool.eq_false_iff.mpr c184; subst c184
           have H1 : (some false) = some r := by rw [if_neg (show ¬ (false = true) by decide)] at H; exact H
           clear H; have H := H1; clear H1
           obtain rfl := Option.some.inj H
           obtain ⟨hnb229, hnc229⟩ := nB NB150_148; obtain ⟨hnb230, hnc230⟩ := nB NB150_149; obtain ⟨z231_0, z231_1, y231_0, y231_1⟩ := bc2 BK150.out
           go_wp2_with (first | ((with_reducible refine gate_callee (f := 12) rfl ?_); refine gl (some 182) Try.func12 #[.agg #[.int .i64 t146, .int .i64 t147]] ?_; (with_reducible refine (impl_ReverseMotion.calls t146 t147 t157 t158 true _ A180.out).mono ?_); rintro e w232 ⟨rfl, hb⟩; refine ⟨_, rfl, ?_⟩; replace HO_149002 := aK (Kd.Q_below (pQ HO_149002.out) hb); replace HO_150002 := aK (Kd.Q_below (pQ HO_150002.out) hb); replace BK148 := bB BK148 hb; replace BK149 := bB BK149 hb; replace HB := bS HB hb; (try clear hb); (try clear hb2); (try clear hk); (try clear hi)) | ((with_reducible refine gate_dst (N := 27) rfl ?_); (try (refine gate_guard (by rfl) ?_; dsimp only)); refine bxe (cs := #[.int .i64 0, .int .i64 0]) (t := 33) ?_; intro gb160 hg w233 hbox hb; replace HO_149002 := aK (Kd.Q_below (pQ HO_149002.out) hb); replace HO_150002 := aK (Kd.Q_below (pQ HO_150002.out) hb); have BK160 := aK (hbox); have GW160 := aK (gE hg (pS HB.out)); have GE160 := GW160; obtain ⟨NB148_160, NB160_148⟩ := nb hg (pB BK148.out); obtain ⟨NB149_160, NB160_149⟩ := nb hg (pB BK149.out); replace BK148 := bB BK148 hb; replace BK149 := bB BK149 hb; replace HB := bS HB hb; clear hb hbox hg; obtain ⟨hnb234, hnc234⟩ := nB NB160_148; obtain ⟨hnb235, hnc235⟩ := nB NB160_149; obtain ⟨z236_0, z236_1, y236_0, y236_1⟩ := bc2 BK160.out) | ((with_reducible refine gate_store (t := 33) (p := 27) rfl ?_); refine store_event (t := 33) (p := 27) (v := ?vo_w237) (w1 := ((w233.setCell ⟨gb160, 0, none⟩ (.int .i64 t157)).setCell ⟨gb160, 1, none⟩ (.int .i64 t158))) ?hg ?ho ?hn ?hr ?_; (case ho => rfl); (case hg => rfl); (case hn => rfl); (case hr => first | (go_simp; done) | (go_simp; rfl)); intro w237 hw; replace HO_149002 : Aside0 (Kd.Q (Kd.int .i64) 3 w237 w.heap.size (fun k_ => some k_ ≠ (.slice Ao164 t143.length co164 : Value).ownBlock) (.slice Ao159 t138.length co159) t138) := ⟨(by rw [hw]; exact (pQ (qF2 HO_149002.out BK160.out (.int .i64 t157) (.int .i64 t158))))⟩; replace HO_150002 : Aside0 (Kd.Q (Kd.int .i64) 3 w237 w.heap.size (fun k_ => some k_ ≠ (.slice Ao159 t138.length co159 : Value).ownBlock) (.slice Ao164 t143.length co164) t143) := ⟨(by rw [hw]; exact (pQ (qF2 HO_150002.out BK160.out (.int .i64 t157) (.int .i64 t158))))⟩; replace BK148 : Aside0 (w237.heap[gb148]? = some (.cells #[.int .i64 t136, .int .i64 t137, .slice Ao159 t138.length co159] 26 (0, 0))) := ⟨(by rw [hw]; exact (by refine bk ?_; refine blk_far ?_ NB148_160.out _; refine bk ?_; refine blk_far ?_ NB148_160.out _; refine bk ?_; exact BK148.out))⟩; replace BK149 : Aside0 (w237.heap[gb149]? = some (.cells #[.int .i64 t141, .int .i64 t142, .slice Ao164 t143.length co164] 26 (0, 0))) := ⟨(by rw [hw]; exact (by refine bk ?_; refine blk_far ?_ NB149_160.out _; refine bk ?_; refine blk_far ?_ NB149_160.out _; refine bk ?_; exact BK149.out))⟩; replace BK160 : Aside0 (w237.heap[gb160]? = some (.cells #[.int .i64 t157, .int .i64 t158] 33 (0, 0))) := ⟨(by rw [hw]; exact (by refine bk ?_; refine blk_put (cs := #[.int .i64 t157, .int .i64 0]) ?_ 1 _ rfl; refine bk ?_; refine blk_put (cs := #[.int .i64 0, .int .i64 0]) ?_ 0 _ rfl; refine bk ?_; exact BK160.out))⟩; replace HB : Aside0 (Below w.heap.size w w237) := ⟨(by rw [hw]; exact (pS HB.out))⟩; clear hw; obtain ⟨hnb238, hnc238⟩ := nB NB149_148; obtain ⟨z239_0, z239_1, z239_2, y239_0, y239_1, y239_2⟩ := bc3 BK149.out; obtain ⟨z240_0, z240_1, z240_2, y240_0, y240_1, y240_2⟩ := bc3 BK148.out; obtain ⟨z241_0, z241_1, y241_0, y241_1⟩ := bc2 BK160.out) | ((with_reducible refine gate_callee (f := 9) rfl ?_); refine gl (some 190) Try.func9 #[.agg #[.int .i64 t141, .int .i64 t142, .slice Ao164 t143.length co164], .agg #[.int .i64 t136, .int .i64 t137, .slice Ao159 t138.length co159], .agg #[.int .i64 t157, .int .i64 t158]] ?_; (with_reducible refine (impl_MatchOf.calls kj148 t141 t142 (fun k_ => some k_ = (.slice Ao164 t143.length co164 : Value).ownBlock) _ _ t143 t136 t137 (fun k_ => some k_ = (.slice Ao159 t138.length co159 : Value).ownBlock) _ _ t138 t157 t158 t161 t162 false _ ?side1 ?side2 A182.out).mono ?_); (case side1 => exact Kd.Q_V (Kd.Q_tight rfl (HO_150002.out))); (case side2 => exact Kd.Q_V (Kd.Q_tight rfl (HO_149002.out))); rintro e w242 ⟨rfl, hb⟩; refine ⟨_, rfl, ?_⟩; replace HO_149002 := aK (Kd.Q_below (pQ HO_149002.out) hb); replace HO_150002 := aK (Kd.Q_below (pQ HO_150002.out) hb); replace HB := bS HB hb; (try clear hb); (try clear hb2); (try clear hk); (try clear hi)))
           go_ret
           exact ⟨er, pT HB.out⟩
          subst c184
          have H1 : (if t161 = t151 then (if t162 = t152 then (some true) else (some false)) else (some false)) = some r := by rw [if_pos rfl] at H; exact H
          clear H; have H := H1; clear H1
          by_cases c185 : t161 = t151
          rotate_left
          ·
           rw [if_neg c185] at H
           have c185b0 : (t161 == t151) = false := beq_eq_false_iff_ne.mpr c185
           have c185b1 : (t161 != t151) = true := bne_iff_ne.mpr c185
           obtain rfl := Option.some.inj H
           obtain ⟨hnb215, hnc215⟩ := nB NB150_148; obtain ⟨hnb216, hnc216⟩ := nB NB150_149; obtain ⟨z217_0, z217_1, y217_0, y217_1⟩ := bc2 BK150.out
           go_wp2_with (first | ((with_reducible refine gate_callee (f := 12) rfl ?_); refine gl (some 182) Try.func12 #[.agg #[.int .i64 t146, .int .i64 t147]] ?_; (with_reducible refine (impl_ReverseMotion.calls t146 t147 t157 t158 true _ A180.out).mono ?_); rintro e w218 ⟨rfl, hb⟩; refine ⟨_, rfl, ?_⟩; replace HO_149002 := aK (Kd.Q_below (pQ HO_149002.out) hb); replace HO_150002 := aK (Kd.Q_below (pQ HO_150002.out) hb); replace BK148 := bB BK148 hb; replace BK149 := bB BK149 hb; replace HB := bS HB hb; (try clear hb); (try clear hb2); (try clear hk); (try clear hi)) | ((with_reducible refine gate_dst (N := 27) rfl ?_); (try (refine gate_guard (by rfl) ?_; dsimp only)); refine bxe (cs := #[.int .i64 0, .int .i64 0]) (t := 33) ?_; intro gb160 hg w219 hbox hb; replace HO_149002 := aK (Kd.Q_below (pQ HO_149002.out) hb); replace HO_150002 := aK (Kd.Q_below (pQ HO_150002.out) hb); have BK160 := aK (hbox); have GW160 := aK (gE hg (pS HB.out)); have GE160 := GW160; obtain ⟨NB148_160, NB160_148⟩ := nb hg (pB BK148.out); obtain ⟨NB149_160, NB160_149⟩ := nb hg (pB BK149.out); replace BK148 := bB BK148 hb; replace BK149 := bB BK149 hb; replace HB := bS HB hb; clear hb hbox hg; obtain ⟨hnb220, hnc220⟩ := nB NB160_148; obtain ⟨hnb221, hnc221⟩ := nB NB160_149; obtain ⟨z222_0, z222_1, y222_0, y222_1⟩ := bc2 BK160.out) | ((with_reducible refine gate_store (t := 33) (p := 27) rfl ?_); refine store_event (t := 33) (p := 27) (v := ?vo_w223) (w1 := ((w219.setCell ⟨gb160, 0, none⟩ (.int .i64 t157)).setCell ⟨gb160, 1, none⟩ (.int .i64 t158))) ?hg ?ho ?hn ?hr ?_; (case ho => rfl); (case hg => rfl); (case hn => rfl); (case hr => first | (go_simp; done) | (go_simp; rfl)); intro w223 hw; replace HO_149002 : Aside0 (Kd.Q (Kd.int .i64) 3 w223 w.heap.size (fun k_ => some k_ ≠ (.slice Ao164 t143.length co164 : Value).ownBlock) (.slice Ao159 t138.length co159) t138) := ⟨(by rw [hw]; exact (pQ (qF2 HO_149002.out BK160.out (.int .i64 t157) (.int .i64 t158))))⟩; replace HO_150002 : Aside0 (Kd.Q (Kd.int .i64) 3 w223 w.heap.size (fun k_ => some k_ ≠ (.slice Ao159 t138.length co159 : Value).ownBlock) (.slice Ao164 t143.length co164) t143) := ⟨(by rw [hw]; exact (pQ (qF2 HO_150002.out BK160.out (.int .i64 t157) (.int .i64 t158))))⟩; replace BK148 : Aside0 (w223.heap[gb148]? = some (.cells #[.int .i64 t136, .int .i64 t137, .slice Ao159 t138.length co159] 26 (0, 0))) := ⟨(by rw [hw]; exact (by refine bk ?_; refine blk_far ?_ NB148_160.out _; refine bk ?_; refine blk_far ?_ NB148_160.out _; refine bk ?_; exact BK148.out))⟩; replace BK149 : Aside0 (w223.heap[gb149]? = some (.cells #[.int .i64 t141, .int .i64 t142, .slice Ao164 t143.length co164] 26 (0, 0))) := ⟨(by rw [hw]; exact (by refine bk ?_; refine blk_far ?_ NB149_160.out _; refine bk ?_; refine blk_far ?_ NB149_160.out _; refine bk ?_; exact BK149.out))⟩; replace BK160 : Aside0 (w223.heap[gb160]? = some (.cells #[.int .i64 t157, .int .i64 t158] 33 (0, 0))) := ⟨(by rw [hw]; exact (by refine bk ?_; refine blk_put (cs := #[.int .i64 t157, .int .i64 0]) ?_ 1 _ rfl; refine bk ?_; refine blk_put (cs := #[.int .i64 0, .int .i64 0]) ?_ 0 _ rfl; refine bk ?_; exact BK160.out))⟩; replace HB : Aside0 (Below w.heap.size w w223) := ⟨(by rw [hw]; exact (pS HB.out))⟩; clear hw; obtain ⟨hnb224, hnc224⟩ := nB NB149_148; obtain ⟨z225_0, z225_1, z225_2, y225_0, y225_1, y225_2⟩ := bc3 BK149.out; obtain ⟨z226_0, z226_1, z226_2, y226_0, y226_1, y226_2⟩ := bc3 BK148.out; obtain ⟨z227_0, z227_1, y227_0, y227_1⟩ := bc2 BK160.out) | ((with_reducible refine gate_callee (f := 9) rfl ?_); refine gl (some 190) Try.func9 #[.agg #[.int .i64 t141, .int .i64 t142, .slice Ao164 t143.length co164], .agg #[.int .i64 t136, .int .i64 t137, .slice Ao159 t138.length co159], .agg #[.int .i64 t157, .int .i64 t158]] ?_; (with_reducible refine (impl_MatchOf.calls kj148 t141 t142 (fun k_ => some k_ = (.slice Ao164 t143.length co164 : Value).ownBlock) _ _ t143 t136 t137 (fun k_ => some k_ = (.slice Ao159 t138.length co159 : Value).ownBlock) _ _ t138 t157 t158 t161 t162 true _ ?side1 ?side2 A182.out).mono ?_); (case side1 => exact Kd.Q_V (Kd.Q_tight rfl (HO_150002.out))); (case side2 => exact Kd.Q_V (Kd.Q_tight rfl (HO_149002.out))); rintro e w228 ⟨rfl, hb⟩; refine ⟨_, rfl, ?_⟩; replace HO_149002 := aK (Kd.Q_below (pQ HO_149002.out) hb); replace HO_150002 := aK (Kd.Q_below (pQ HO_150002.out) hb); replace HB := bS HB hb; (try clear hb); (try clear hb2); (try clear hk); (try clear hi)))
           go_ret
           exact ⟨er, pT HB.out⟩
          rw [if_pos c185] at H
          have c185b0 : (t161 == t151) = true := beq_iff_eq.mpr c185
          have c185b1 : (t161 != t151) = false := bne_eq_false_iff_eq.mpr c185
          clear c185
          by_cases c186 : t162 = t152
          ·
           rw [if_pos c186] at H
           have c186b0 : (t162 == t152) = true := beq_iff_eq.mpr c186
           have c186b1 : (t162 != t152) = false := bne_eq_false_iff_eq.mpr c186
           clear c186
           obtain rfl := Option.some.inj H
           obtain ⟨hnb187, hnc187⟩ := nB NB150_148; obtain ⟨hnb188, hnc188⟩ := nB NB150_149; obtain ⟨z189_0, z189_1, y189_0, y189_1⟩ := bc2 BK150.out
           go_wp2_with (first | ((with_reducible refine gate_callee (f := 12) rfl ?_); refine gl (some 182) Try.func12 #[.agg #[.int .i64 t146, .int .i64 t147]] ?_; (with_reducible refine (impl_ReverseMotion.calls t146 t147 t157 t158 true _ A180.out).mono ?_); rintro e w190 ⟨rfl, hb⟩; refine ⟨_, rfl, ?_⟩; replace HO_149002 := aK (Kd.Q_below (pQ HO_149002.out) hb); replace HO_150002 := aK (Kd.Q_below (pQ HO_150002.out) hb); replace BK148 := bB BK148 hb; replace BK149 := bB BK149 hb; replace HB := bS HB hb; (try clear hb); (try clear hb2); (try clear hk); (try clear hi)) | ((with_reducible refine gate_dst (N := 27) rfl ?_); (try (refine gate_guard (by rfl) ?_; dsimp only)); refine bxe (cs := #[.int .i64 0, .int .i64 0]) (t := 33) ?_; intro gb160 hg w191 hbox hb; replace HO_149002 := aK (Kd.Q_below (pQ HO_149002.out) hb); replace HO_150002 := aK (Kd.Q_below (pQ HO_150002.out) hb); have BK160 := aK (hbox); have GW160 := aK (gE hg (pS HB.out)); have GE160 := GW160; obtain ⟨NB148_160, NB160_148⟩ := nb hg (pB BK148.out); obtain ⟨NB149_160, NB160_149⟩ := nb hg (pB BK149.out); replace BK148 := bB BK148 hb; replace BK149 := bB BK149 hb; replace HB := bS HB hb; clear hb hbox hg; obtain ⟨hnb192, hnc192⟩ := nB NB160_148; obtain ⟨hnb193, hnc193⟩ := nB NB160_149; obtain ⟨z194_0, z194_1, y194_0, y194_1⟩ := bc2 BK160.out) | ((with_reducible refine gate_store (t := 33) (p := 27) rfl ?_); refine store_event (t := 33) (p := 27) (v := ?vo_w195) (w1 := ((w191.setCell ⟨gb160, 0, none⟩ (.int .i64 t157)).setCell ⟨gb160, 1, none⟩ (.int .i64 t158))) ?hg ?ho ?hn ?hr ?_; (case ho => rfl); (case hg => rfl); (case hn => rfl); (case hr => first | (go_simp; done) | (go_simp; rfl)); intro w195 hw; replace HO_149002 : Aside0 (Kd.Q (Kd.int .i64) 3 w195 w.heap.size (fun k_ => some k_ ≠ (.slice Ao164 t143.length co164 : Value).ownBlock) (.slice Ao159 t138.length co159) t138) := ⟨(by rw [hw]; exact (pQ (qF2 HO_149002.out BK160.out (.int .i64 t157) (.int .i64 t158))))⟩; replace HO_150002 : Aside0 (Kd.Q (Kd.int .i64) 3 w195 w.heap.size (fun k_ => some k_ ≠ (.slice Ao159 t138.length co159 : Value).ownBlock) (.slice Ao164 t143.length co164) t143) := ⟨(by rw [hw]; exact (pQ (qF2 HO_150002.out BK160.out (.int .i64 t157) (.int .i64 t158))))⟩; replace BK148 : Aside0 (w195.heap[gb148]? = some (.cells #[.int .i64 t136, .int .i64 t137, .slice Ao159 t138.length co159] 26 (0, 0))) := ⟨(by rw [hw]; exact (by refine bk ?_; refine blk_far ?_ NB148_160.out _; refine bk ?_; refine blk_far ?_ NB148_160.out _; refine bk ?_; exact BK148.out))⟩; replace BK149 : Aside0 (w195.heap[gb149]? = some (.cells #[.int .i64 t141, .int .i64 t142, .slice Ao164 t143.length co164] 26 (0, 0))) := ⟨(by rw [hw]; exact (by refine bk ?_; refine blk_far ?_ NB149_160.out _; refine bk ?_; refine blk_far ?_ NB149_160.out _; refine bk ?_; exact BK149.out))⟩; replace BK160 : Aside0 (w195.heap[gb160]? = some (.cells #[.int .i64 t157, .int .i64 t158] 33 (0, 0))) := ⟨(by rw [hw]; exact (by refine bk ?_; refine blk_put (cs := #[.int .i64 t157, .int .i64 0]) ?_ 1 _ rfl; refine bk ?_; refine blk_put (cs := #[.int .i64 0, .int .i64 0]) ?_ 0 _ rfl; refine bk ?_; exact BK160.out))⟩; replace HB : Aside0 (Below w.heap.size w w195) := ⟨(by rw [hw]; exact (pS HB.out))⟩; clear hw; obtain ⟨hnb196, hnc196⟩ := nB NB149_148; obtain ⟨z197_0, z197_1, z197_2, y197_0, y197_1, y197_2⟩ := bc3 BK149.out; obtain ⟨z198_0, z198_1, z198_2, y198_0, y198_1, y198_2⟩ := bc3 BK148.out; obtain ⟨z199_0, z199_1, y199_0, y199_1⟩ := bc2 BK160.out) | ((with_reducible refine gate_callee (f := 9) rfl ?_); refine gl (some 190) Try.func9 #[.agg #[.int .i64 t141, .int .i64 t142, .slice Ao164 t143.length co164], .agg #[.int .i64 t136, .int .i64 t137, .slice Ao159 t138.length co159], .agg #[.int .i64 t157, .int .i64 t158]] ?_; (with_reducible refine (impl_MatchOf.calls kj148 t141 t142 (fun k_ => some k_ = (.slice Ao164 t143.length co164 : Value).ownBlock) _ _ t143 t136 t137 (fun k_ => some k_ = (.slice Ao159 t138.length co159 : Value).ownBlock) _ _ t138 t157 t158 t161 t162 true _ ?side1 ?side2 A182.out).mono ?_); (case side1 => exact Kd.Q_V (Kd.Q_tight rfl (HO_150002.out))); (case side2 => exact Kd.Q_V (Kd.Q_tight rfl (HO_149002.out))); rintro e w200 ⟨rfl, hb⟩; refine ⟨_, rfl, ?_⟩; replace HO_149002 := aK (Kd.Q_below (pQ HO_149002.out) hb); replace HO_150002 := aK (Kd.Q_below (pQ HO_150002.out) hb); replace HB := bS HB hb; (try clear hb); (try clear hb2); (try clear hk); (try clear hi)))
           go_ret
           exact ⟨er, pT HB.out⟩
          rw [if_neg c186] at H
          have c186b0 : (t162 == t152) = false := beq_eq_false_iff_ne.mpr c186
          have c186b1 : (t162 != t152) = true := bne_iff_ne.mpr c186
          obtain rfl := Option.some.inj H
          obtain ⟨hnb201, hnc201⟩ := nB NB150_148; obtain ⟨hnb202, hnc202⟩ := nB NB150_149; obtain ⟨z203_0, z203_1, y203_0, y203_1⟩ := bc2 BK150.out
          go_wp2_with (first | ((with_reducible refine gate_callee (f := 12) rfl ?_); refine gl (some 182) Try.func12 #[.agg #[.int .i64 t146, .int .i64 t147]] ?_; (with_reducible refine (impl_ReverseMotion.calls t146 t147 t157 t158 true _ A180.out).mono ?_); rintro e w204 ⟨rfl, hb⟩; refine ⟨_, rfl, ?_⟩; replace HO_149002 := aK (Kd.Q_below (pQ HO_149002.out) hb); replace HO_150002 := aK (Kd.Q_below (pQ HO_150002.out) hb); replace BK148 := bB BK148 hb; replace BK149 := bB BK149 hb; replace HB := bS HB hb; (try clear hb); (try clear hb2); (try clear hk); (try clear hi)) | ((with_reducible refine gate_dst (N := 27) rfl ?_); (try (refine gate_guard (by rfl) ?_; dsimp only)); refine bxe (cs := #[.int .i64 0, .int .i64 0]) (t := 33) ?_; intro gb160 hg w205 hbox hb; replace HO_149002 := aK (Kd.Q_below (pQ HO_149002.out) hb); replace HO_150002 := aK (Kd.Q_below (pQ HO_150002.out) hb); have BK160 := aK (hbox); have GW160 := aK (gE hg (pS HB.out)); have GE160 := GW160; obtain ⟨NB148_160, NB160_148⟩ := nb hg (pB BK148.out); obtain ⟨NB149_160, NB160_149⟩ := nb hg (pB BK149.out); replace BK148 := bB BK148 hb; replace BK149 := bB BK149 hb; replace HB := bS HB hb; clear hb hbox hg; obtain ⟨hnb206, hnc206⟩ := nB NB160_148; obtain ⟨hnb207, hnc207⟩ := nB NB160_149; obtain ⟨z208_0, z208_1, y208_0, y208_1⟩ := bc2 BK160.out) | ((with_reducible refine gate_store (t := 33) (p := 27) rfl ?_); refine store_event (t := 33) (p := 27) (v := ?vo_w209) (w1 := ((w205.setCell ⟨gb160, 0, none⟩ (.int .i64 t157)).setCell ⟨gb160, 1, none⟩ (.int .i64 t158))) ?hg ?ho ?hn ?hr ?_; (case ho => rfl); (case hg => rfl); (case hn => rfl); (case hr => first | (go_simp; done) | (go_simp; rfl)); intro w209 hw; replace HO_149002 : Aside0 (Kd.Q (Kd.int .i64) 3 w209 w.heap.size (fun k_ => some k_ ≠ (.slice Ao164 t143.length co164 : Value).ownBlock) (.slice Ao159 t138.length co159) t138) := ⟨(by rw [hw]; exact (pQ (qF2 HO_149002.out BK160.out (.int .i64 t157) (.int .i64 t158))))⟩; replace HO_150002 : Aside0 (Kd.Q (Kd.int .i64) 3 w209 w.heap.size (fun k_ => some k_ ≠ (.slice Ao159 t138.length co159 : Value).ownBlock) (.slice Ao164 t143.length co164) t143) := ⟨(by rw [hw]; exact (pQ (qF2 HO_150002.out BK160.out (.int .i64 t157) (.int .i64 t158))))⟩; replace BK148 : Aside0 (w209.heap[gb148]? = some (.cells #[.int .i64 t136, .int .i64 t137, .slice Ao159 t138.length co159] 26 (0, 0))) := ⟨(by rw [hw]; exact (by refine bk ?_; refine blk_far ?_ NB148_160.out _; refine bk ?_; refine blk_far ?_ NB148_160.out _; refine bk ?_; exact BK148.out))⟩; replace BK149 : Aside0 (w209.heap[gb149]? = some (.cells #[.int .i64 t141, .int .i64 t142, .slice Ao164 t143.length co164] 26 (0, 0))) := ⟨(by rw [hw]; exact (by refine bk ?_; refine blk_far ?_ NB149_160.out _; refine bk ?_; refine blk_far ?_ NB149_160.out _; refine bk ?_; exact BK149.out))⟩; replace BK160 : Aside0 (w209.heap[gb160]? = some (.cells #[.int .i64 t157, .int .i64 t158] 33 (0, 0))) := ⟨(by rw [hw]; exact (by refine bk ?_; refine blk_put (cs := #[.int .i64 t157, .int .i64 0]) ?_ 1 _ rfl; refine bk ?_; refine blk_put (cs := #[.int .i64 0, .int .i64 0]) ?_ 0 _ rfl; refine bk ?_; exact BK160.out))⟩; replace HB : Aside0 (Below w.heap.size w w209) := ⟨(by rw [hw]; exact (pS HB.out))⟩; clear hw; obtain ⟨hnb210, hnc210⟩ := nB NB149_148; obtain ⟨z211_0, z211_1, z211_2, y211_0, y211_1, y211_2⟩ := bc3 BK149.out; obtain ⟨z212_0, z212_1, z212_2, y212_0, y212_1, y212_2⟩ := bc3 BK148.out; obtain ⟨z213_0, z213_1, y213_0, y213_1⟩ := bc2 BK160.out) | ((with_reducible refine gate_callee (f := 9) rfl ?_); refine gl (some 190) Try.func9 #[.agg #[.int .i64 t141, .int .i64 t142, .slice Ao164 t143.length co164], .agg #[.int .i64 t136, .int .i64 t137, .slice Ao159 t138.length co159], .agg #[.int .i64 t157, .int .i64 t158]] ?_; (with_reducible refine (impl_MatchOf.calls kj148 t141 t142 (fun k_ => some k_ = (.slice Ao164 t143.length co164 : Value).ownBlock) _ _ t143 t136 t137 (fun k_ => some k_ = (.slice Ao159 t138.length co159 : Value).ownBlock) _ _ t138 t157 t158 t161 t162 true _ ?side1 ?side2 A182.out).mono ?_); (case side1 => exact Kd.Q_V (Kd.Q_tight rfl (HO_150002.out))); (case side2 => exact Kd.Q_V (Kd.Q_tight rfl (HO_149002.out))); rintro e w214 ⟨rfl, hb⟩; refine ⟨_, rfl, ?_⟩; replace HO_149002 := aK (Kd.Q_below (pQ HO_149002.out) hb); replace HO_150002 := aK (Kd.Q_below (pQ HO_150002.out) hb); replace HB := bS HB hb; (try clear hb); (try clear hb2); (try clear hk); (try clear hi)))
          go_ret
          exact ⟨er, pT HB.out⟩
       rw [if_pos c51] at H
       have c51b0 : decide (x11_3 < (t114.length : Int)) = true := decide_eq_true c51
       clear c51
       by_cases c52 : 0 ≤ x11_3
       rotate_left
       ·
        rw [if_neg c52] at H
        exact absurd H (by simp)
       rw [if_pos c52] at H
       have c52b0 : decide (0 ≤ x11_3) = true := decide_eq_true c52
       clear c52; replace H := Option.bind_eq_some_iff.mp H
       obtain ⟨⟨t128, t129, t130⟩, A530, H⟩ := H
       replace H : ((impl_MatchOf.f k3 t102 t103 t104 t107 t108 t109 t122 t123).bind fun bt131 => (if x11_3 < (t118.length : Int) then (if (!(((rd_T33 t114 x11_3).f0) == ((rd_T33 t118 x11_3).f0)) || (!(((rd_T33 t114 x11_3).f1) == ((rd_T33 t118 x11_3).f1)))) = true then (some false) else (if t130 = true then (if bt131.2.2 = true then (if t129 < 1 then (some false) else (if (wrap64 (2 * t129)) < (t104.length : Int) then (some false) else (if (wrap64 (bt131.1 * t129)) > (wrap64 (t128 * bt131.2.1)) then (some false) else (laws_FnMotion.l0 k3 l0 t114 t118 (wrap64 (x11_3 + 1)) t102 t103 t104 t107 t108 t109 t122 t123)))) else (some false)) else (some false))) else (none))) = some r := H
       have A53 := Aside0.mk A530; clear A530; replace H := Option.bind_eq_some_iff.mp H
       obtain ⟨⟨t131, t132, t133⟩, A540, H⟩ := H
       replace H : (if x11_3 < (t118.length : Int) then (if (!(((rd_T33 t114 x11_3).f0) == ((rd_T33 t118 x11_3).f0)) || (!(((rd_T33 t114 x11_3).f1) == ((rd_T33 t118 x11_3).f1)))) = true then (some false) else (if t130 = true then (if t133 = true then (if t129 < 1 then (some false) else (if (wrap64 (2 * t129)) < (t104.length : Int) then (some false) else (if (wrap64 (t131 * t129)) > (wrap64 (t128 * t132)) then (some false) else (laws_FnMotion.l0 k3 l0 t114 t118 (wrap64 (x11_3 + 1)) t102 t103 t104 t107 t108 t109 t122 t123)))) else (some false)) else (some false))) else (none)) = some r := H
       have A54 := Aside0.mk A540; clear A540
       by_cases c55 : x11_3 < (t118.length : Int)
       rotate_left
       ·
        rw [if_neg c55] at H
        exact absurd H (by simp)
       rw [if_pos c55] at H
       have c55b0 : decide (x11_3 < (t118.length : Int)) = true := decide_eq_true c55
       clear c55
       by_cases c56 : (!(((rd_T33 t114 x11_3).f0) == ((rd_T33 t118 x11_3).f0)) || (!(((rd_T33 t114 x11_3).f1) == ((rd_T33 t118 x11_3).f1)))) = true
       ·
        rw [if_pos c56] at H
        have c56b0 : (!(((rd_T33 t114 x11_3).f0) == ((rd_T33 t118 x11_3).f0)) || (!(((rd_T33 t114 x11_3).f1) == ((rd_T33 t118 x11_3).f1)))) = true := c56
        clear c56
        obtain rfl := Option.some.inj H
        obtain ⟨Ao57, co57, eo57⟩ := Kd.R_slice HO_5.out; subst eo57
        try go_wp2
        replace HO_5 := aK (Kd.R_drew HO_5.out); replace HO_7 := aK (Kd.R_drew HO_7.out); replace HO_113002 := aK (Kd.Q_drew HO_113002.out); replace HO_114002 := aK (Kd.Q_drew HO_114002.out); replace BK112 := aK (blk_drew BK112.out); replace BK113 := aK (blk_drew BK113.out); replace BK125 := aK (blk_drew BK125.out); replace HB := aK (below_drew1 HB.out)
        have p127 : 0 ≤ (x11_3 : Int) := of_decide_eq_true (by first | (with_reducible assumption) | assumption)
        have q127 : x11_3 < (t114.length : Int) := of_decide_eq_true (by first | (with_reducible assumption) | assumption)
        obtain ⟨ad127, e127, hx127_0, hx127_1⟩ := at_T33 (Kd.R_reads' HO_5.out).2.2 x11_3 p127 q127; cases e127; replace p127 := eq_true p127; replace q127 := eq_true q127
        refine start_ (n := 14) (S := fun w' => w'.cell? ⟨gb112, 0, none⟩ = some (.int .i64 t102) ∧ w'.cell? ⟨gb112, 1, none⟩ = some (.int .i64 t103) ∧ w'.cell? ⟨gb112, 2, none⟩ = some (.slice Ao13 t104.length co13) ∧ w'.cell? ⟨gb113, 0, none⟩ = some (.int .i64 t107) ∧ w'.cell? ⟨gb113, 1, none⟩ = some (.int .i64 t108) ∧ w'.cell? ⟨gb113, 2, none⟩ = some (.slice Ao16 t109.length co16) ∧ w'.cell? (ad127.add ((x11_3).toNat * 2)) = some (.int .i64 ((rd_T33 t114 x11_3).f0)) ∧ w'.cell? ⟨(ad127.add ((x11_3).toNat * 2)).block, (ad127.add ((x11_3).toNat * 2)).off + 1, none⟩ = some (.int .i64 ((rd_T33 t114 x11_3).f1))) (ds := []) (bz [0, 14]) (by kernel_rfl) rfl rfl (cj3 BK112.out (cj3 BK113.out ⟨hx127_0, hx127_1⟩)) (fun hHeld => ?_); refine with_tabW laws_FnMotion.tab14 laws_FnMotion.bits14 (fun HT_ HW_ => ?_)
        generalize wr.drew = w58 at HO_5 HO_7 HO_113002 HO_114002 BK112 BK113 BK125 HB hx127_0 hx127_1 hHeld ⊢
        refine pz 2 91 [0, 2, 1, 11] HT_.out ?_
        refine pz 3 92 [0, 2, 2, 10] HT_.out ?_
        refine pz 4 93 [0, 2, 3, 9] HT_.out ?_
        refine tk (i := 0) (N := some 89) (bz [1, 1, 3, 9]) rfl rfl HT_.out HW_.out (Or.inl ⟨by rfl, by rintro w' ⟨s0, s1, s2, s3, s4, s5, s6, s7⟩; go_simp; with_reducible rfl⟩) hHeld ?_
        refine tk (i := 1) (N := some 90) (bz [5, 9]) rfl rfl HT_.out HW_.out (Or.inl ⟨by rfl, by rintro w' ⟨s0, s1, s2, s3, s4, s5, s6, s7⟩; go_simp; with_reducible rfl⟩) hHeld ?_
        refine tk (i := 5) (N := some 94) (bz [6, 8]) rfl rfl HT_.out HW_.out (Or.inl ⟨by rfl, by rintro w' ⟨s0, s1, s2, s3, s4, s5, s6, s7⟩; go_simp; with_reducible rfl⟩) hHeld ?_
        refine one_ (i := 6) (N := some 95) (bz [7, 7]) rfl rfl (one_of HT_.out (by kernel_rfl)) (by decide) (fun K hK => ?_)
        refine goes_ Try.func9 (by kernel_rfl) rfl #[.agg #[.int .i64 t102, .int .i64 t103, .slice Ao13 t104.length co13], .agg #[.int .i64 t107, .int .i64 t108, .slice Ao16 t109.length co16], .agg #[.int .i64 ((rd_T33 t114 x11_3).f0), .int .i64 ((rd_T33 t114 x11_3).f1)]] (by rfl) rfl rfl (by (try simp only [List.map_toArray, List.map_cons, List.map_nil]); first | done | rfl | (simp only [List.length_drop, List.length_take]; rfl)) ?_
        with_reducible refine (impl_MatchOf.calls k3 t102 t103 (fun k_ => some k_ = (.slice Ao13 t104.length co13 : Value).ownBlock) _ _ t104 t107 t108 (fun k_ => some k_ = (.slice Ao16 t109.length co16 : Value).ownBlock) _ _ t109 ((rd_T33 t114 x11_3).f0) ((rd_T33 t114 x11_3).f1) t128 t129 t130 _ ?side1 ?side2 A53.out).mono ?_
        (case side1 => exact Kd.Q_V (Kd.Q_tight rfl (Kd.Q_types (Kd.Q_types (Kd.Q_types (Kd.Q_apart' (Kd.Q_apart' (HO_113002.out) (Kd.R_typed HO_5.out) (by decide)) (Kd.R_typed HO_7.out) (by decide)) BK112.out (by decide)) BK113.out (by decide)) BK125.out (by decide))))
        (case side2 => exact Kd.Q_V (Kd.Q_tight rfl (Kd.Q_types (Kd.Q_types (Kd.Q_types (Kd.Q_apart' (Kd.Q_apart' (HO_114002.out) (Kd.R_typed HO_5.out) (by decide)) (Kd.R_typed HO_7.out) (by decide)) BK112.out (by decide)) BK113.out (by decide)) BK125.out (by decide))))
        rintro e w59 ⟨rfl, hb⟩
        have HS6_ := (hb.cell (World.block_lt_of_cell? _ _ (hHeld.2.2.2.2.2.2.1))).trans (hHeld.2.2.2.2.2.2.1); have HS7_ := (hb.cell (World.block_lt_of_cell? _ _ (hHeld.2.2.2.2.2.2.2))).trans (hHeld.2.2.2.2.2.2.2)
        refine ⟨_, rfl, ?_⟩
        replace HO_5 := aK (Kd.R_below (pR HO_5.out) hb); replace HO_7 := aK (Kd.R_below (pR HO_7.out) hb); replace HO_113002 := aK (Kd.Q_below (pQ HO_113002.out) hb); replace HO_114002 := aK (Kd.Q_below (pQ HO_114002.out) hb); replace BK112 := bB BK112 hb; replace BK113 := bB BK113 hb; replace BK125 := bB BK125 hb; replace HB := bS HB hb
        (try clear hb)
        (try clear hb2)
        (try clear hk)
        (try clear hi)
        refine hK.out _ _ (cj3 BK112.out (cj3 BK113.out ⟨HS6_, HS7_⟩)) (fun hHeld => ?_)
        clear hK K
        refine norm_ (a' := ?_) ?_ ?_
        rotate_left
        ·
         show Act.put _ (some 95) _ = _
         simp only [sP]
         rfl
        refine pz 7 88 [8, 6] HT_.out ?_
        refine pz 8 96 [9, 5] HT_.out ?_
        refine pz 9 97 [10, 4] HT_.out ?_
        refine pz 10 98 [11, 3] HT_.out ?_
        refine pz 11 12 [12, 2] HT_.out ?_
        refine pz 12 13 [13, 1] HT_.out ?_
        refine pz 13 14 [14, 0] HT_.out ?_
        refine done_ (done_of HT_.out (by kernel_rfl)) ?_
        obtain ⟨hnb60, hnc60⟩ := nB NB112_113; obtain ⟨hnb61, hnc61⟩ := nB NB112_125; obtain ⟨z62_0, z62_1, z62_2, y62_0, y62_1, y62_2⟩ := bc3 BK112.out; obtain ⟨hnb63, hnc63⟩ := nB NB113_125; obtain ⟨z64_0, z64_1, z64_2, y64_0, y64_1, y64_2⟩ := bc3 BK113.out; obtain ⟨z65_0, z65_1, y65_0, y65_1⟩ := bc2 BK125.out
        try go_wp2_with (first | ((with_reducible refine gate_callee (f := 9) rfl ?_); refine gl (some 103) Try.func9 #[.agg #[.int .i64 t102, .int .i64 t103, .slice Ao13 t104.length co13], .agg #[.int .i64 t107, .int .i64 t108, .slice Ao16 t109.length co16], .agg #[.int .i64 t122, .int .i64 t123]] ?_; (with_reducible refine (impl_MatchOf.calls k3 t102 t103 (fun k_ => some k_ = (.slice Ao13 t104.length co13 : Value).ownBlock) _ _ t104 t107 t108 (fun k_ => some k_ = (.slice Ao16 t109.length co16 : Value).ownBlock) _ _ t109 t122 t123 t131 t132 t133 _ ?side1 ?side2 A54.out).mono ?_); (case side1 => exact Kd.Q_V (Kd.Q_tight rfl (Kd.Q_types (Kd.Q_types (Kd.Q_types (Kd.Q_apart' (Kd.Q_apart' (HO_113002.out) (Kd.R_typed HO_5.out) (by decide)) (Kd.R_typed HO_7.out) (by decide)) BK112.out (by decide)) BK113.out (by decide)) BK125.out (by decide)))); (case side2 => exact Kd.Q_V (Kd.Q_tight rfl (Kd.Q_types (Kd.Q_types (Kd.Q_types (Kd.Q_apart' (Kd.Q_apart' (HO_114002.out) (Kd.R_typed HO_5.out) (by decide)) (Kd.R_typed HO_7.out) (by decide)) BK112.out (by decide)) BK113.out (by decide)) BK125.out (by decide)))); rintro e w66 ⟨rfl, hb⟩; refine ⟨_, rfl, ?_⟩; replace HO_5 := aK (Kd.R_below (pR HO_5.out) hb); replace HO_7 := aK (Kd.R_below (pR HO_7.out) hb); replace HO_113002 := aK (Kd.Q_below (pQ HO_113002.out) hb); replace HO_114002 := aK (Kd.Q_below (pQ HO_114002.out) hb); replace BK112 := bB BK112 hb; replace BK113 := bB BK113 hb; replace BK125 := bB BK125 hb; replace HB := bS HB hb; (try clear hb); (try clear hb2); (try clear hk); (try clear hi)))
        replace HO_5 := aK (Kd.R_drew HO_5.out); replace HO_7 := aK (Kd.R_drew HO_7.out); replace HO_113002 := aK (Kd.Q_drew HO_113002.out); replace HO_114002 := aK (Kd.Q_drew HO_114002.out); replace BK112 := aK (blk_drew BK112.out); replace BK113 := aK (blk_drew BK113.out); replace BK125 := aK (blk_drew BK125.out); replace HB := aK (below_drew1 HB.out)
        have p134 : 0 ≤ (x11_3 : Int) := of_decide_eq_true (by first | (with_reducible assumption) | assumption)
        have q134 : x11_3 < (t114.length : Int) := of_decide_eq_true (by first | (with_reducible assumption) | assumption)
        obtain ⟨ad134, e134, hx134_0, hx134_1⟩ := at_T33 (Kd.R_reads' HO_5.out).2.2 x11_3 p134 q134
        obtain rfl : ad127 = ad134 := (by injection e134)
        replace p134 := eq_true p134; replace q134 := eq_true q134; obtain ⟨Ao68, co68, eo68⟩ := Kd.R_slice HO_7.out
        (first | subst eo68 | (obtain ⟨f4_, f5_⟩ := sI eo68; subst f4_; subst f5_))
        have p135 : 0 ≤ (x11_3 : Int) := of_decide_eq_true (by first | (with_reducible assumption) | assumption)
        have q135 : x11_3 < (t118.length : Int) := of_decide_eq_true (by first | (with_reducible assumption) | assumption)
        obtain ⟨ad135, e135, hx135_0, hx135_1⟩ := at_T33 (Kd.R_reads' HO_7.out).2.2 x11_3 p135 q135; cases e135; replace p135 := eq_true p135; replace q135 := eq_true q135
        refine start_ (n := 38) (S := fun w' => w'.cell? (ad127.add ((x11_3).toNat * 2)) = some (.int .i64 ((rd_T33 t114 x11_3).f0)) ∧ w'.cell? ⟨(ad127.add ((x11_3).toNat * 2)).block, (ad127.add ((x11_3).toNat * 2)).off + 1, none⟩ = some (.int .i64 ((rd_T33 t114 x11_3).f1)) ∧ w'.cell? (ad135.add ((x11_3).toNat * 2)) = some (.int .i64 ((rd_T33 t118 x11_3).f0)) ∧ w'.cell? ⟨(ad135.add ((x11_3).toNat * 2)).block, (ad135.add ((x11_3).toNat * 2)).off + 1, none⟩ = some (.int .i64 ((rd_T33 t118 x11_3).f1))) (ds := []) (bz [0, 38]) (by kernel_rfl) rfl rfl ⟨hx134_0, hx134_1, hx135_0, hx135_1⟩ (fun hHeld => ?_); refine with_tabW laws_FnMotion.tab16 laws_FnMotion.bits16 (fun HT_ HW_ => ?_)
        generalize w66.drew = w67 at HO_5 HO_7 HO_113002 HO_114002 BK112 BK113 BK125 HB hx134_0 hx134_1 hx135_0 hx135_1 hHeld ⊢
        refine pz 0 107 [1, 37] HT_.out ?_
        refine pz 1 108 [2, 36] HT_.out ?_
        refine pz 2 109 [3, 35] HT_.out ?_
        refine pz 4 111 [3, 1, 1, 33] HT_.out ?_
        refine pz 5 112 [3, 1, 2, 32] HT_.out ?_
        refine pz 6 113 [3, 1, 3, 31] HT_.out ?_
        refine tk (i := 3) (N := some 110) (bz [7, 31]) rfl rfl HT_.out HW_.out (Or.inl ⟨by rfl, by rintro w' ⟨s0, s1, s2, s3⟩; go_simp; with_reducible rfl⟩) hHeld ?_
        refine tk (i := 7) (N := some 114) (bz [8, 30]) rfl rfl HT_.out HW_.out (Or.inl ⟨by rfl, by rintro w' ⟨s0, s1, s2, s3⟩; go_simp; with_reducible rfl⟩) hHeld ?_
        refine pz 8 115 [9, 29] HT_.out ?_
        refine pz 9 116 [10, 28] HT_.out ?_
        refine pd 10 117 [11, 27] HT_.out ?_
        refine pd 11 118 [12, 26] HT_.out ?_
        refine pz 12 119 [13, 25] HT_.out ?_
        refine pz 13 120 [14, 24] HT_.out ?_
        refine pd 14 121 [15, 23] HT_.out ?_
        refine pd 15 122 [16, 22] HT_.out ?_
        refine pz 16 123 [17, 21] HT_.out ?_
        refine pz 17 124 [18, 20] HT_.out ?_
        refine pd 18 125 [19, 19] HT_.out ?_
        refine pd 19 126 [20, 18] HT_.out ?_
        refine pz 20 127 [21, 17] HT_.out ?_
        refine pz 21 128 [22, 16] HT_.out ?_
        refine pd 22 129 [23, 15] HT_.out ?_
        refine pd 23 130 [24, 14] HT_.out ?_
        refine pd 24 131 [25, 13] HT_.out ?_
        refine pd 25 132 [26, 12] HT_.out ?_
        refine pd 26 133 [27, 11] HT_.out ?_
        refine pd 27 134 [28, 10] HT_.out ?_
        refine pz 28 135 [29, 9] HT_.out ?_
        refine pz 29 136 [30, 8] HT_.out ?_
        refine pd 30 137 [31, 7] HT_.out ?_
        refine pd 31 138 [32, 6] HT_.out ?_
        refine pd 32 139 [33, 5] HT_.out ?_
        refine pd 33 140 [34, 4] HT_.out ?_
        refine pd 34 141 [35, 3] HT_.out ?_
        refine pd 35 142 [36, 2] HT_.out ?_
        refine pd 36 143 [37, 1] HT_.out ?_
        refine pz 37 144 [38, 0] HT_.out ?_
        refine done_ (done_of HT_.out (by kernel_rfl)) ?_
        try go_wp2
        go_ret
        exact ⟨er, pT HB.out⟩
       rw [if_neg c56] at H
       have c56b0 : (!(((rd_T33 t114 x11_3).f0) == ((rd_T33 t118 x11_3).f0)) || (!(((rd_T33 t114 x11_3).f1) == ((rd_T33 t118 x11_3).f1)))) = false := by simpa using c56
       clear c56
       by_cases c69 : t130 = true
       rotate_left
       ·
        replace c69 := Bool.eq_false_iff.mpr c69; subst c69
        have H1 : (some false) = some r := by rw [if_neg (show ¬ (false = true) by decide)] at H; exact H
        clear H; have H := H1; clear H1
        obtain rfl := Option.some.inj H
        obtain ⟨Ao134, co134, eo134⟩ := Kd.R_slice HO_5.out; subst eo134
        try go_wp2
        replace HO_5 := aK (Kd.R_drew HO_5.out); replace HO_7 := aK (Kd.R_drew HO_7.out); replace HO_113002 := aK (Kd.Q_drew HO_113002.out); replace HO_114002 := aK (Kd.Q_drew HO_114002.out); replace BK112 := aK (blk_drew BK112.out); replace BK113 := aK (blk_drew BK113.out); replace BK125 := aK (blk_drew BK125.out); replace HB := aK (below_drew1 HB.out)
        have p127 : 0 ≤ (x11_3 : Int) := of_decide_eq_true (by first | (with_reducible assumption) | assumption)
        have q127 : x11_3 < (t114.length : Int) := of_decide_eq_true (by first | (with_reducible assumption) | assumption)
        obtain ⟨ad127, e127, hx127_0, hx127_1⟩ := at_T33 (Kd.R_reads' HO_5.out).2.2 x11_3 p127 q127; cases e127; replace p127 := eq_true p127; replace q127 := eq_true q127
        refine start_ (n := 14) (S := fun w' => w'.cell? ⟨gb112, 0, none⟩ = some (.int .i64 t102) ∧ w'.cell? ⟨gb112, 1, none⟩ = some (.int .i64 t103) ∧ w'.cell? ⟨gb112, 2, none⟩ = some (.slice Ao13 t104.length co13) ∧ w'.cell? ⟨gb113, 0, none⟩ = some (.int .i64 t107) ∧ w'.cell? ⟨gb113, 1, none⟩ = some (.int .i64 t108) ∧ w'.cell? ⟨gb113, 2, none⟩ = some (.slice Ao16 t109.length co16) ∧ w'.cell? (ad127.add ((x11_3).toNat * 2)) = some (.int .i64 ((rd_T33 t114 x11_3).f0)) ∧ w'.cell? ⟨(ad127.add ((x11_3).toNat * 2)).block, (ad127.add ((x11_3).toNat * 2)).off + 1, none⟩ = some (.int .i64 ((rd_T33 t114 x11_3).f1))) (ds := []) (bz [0, 14]) (by kernel_rfl) rfl rfl (cj3 BK112.out (cj3 BK113.out ⟨hx127_0, hx127_1⟩)) (fun hHeld => ?_); refine with_tabW laws_FnMotion.tab14 laws_FnMotion.bits14 (fun HT_ HW_ => ?_)
        generalize wr.drew = w135 at HO_5 HO_7 HO_113002 HO_114002 BK112 BK113 BK125 HB hx127_0 hx127_1 hHeld ⊢
        refine pz 2 91 [0, 2, 1, 11] HT_.out ?_
        refine pz 3 92 [0, 2, 2, 10] HT_.out ?_
        refine pz 4 93 [0, 2, 3, 9] HT_.out ?_
        refine tk (i := 0) (N := some 89) (bz [1, 1, 3, 9]) rfl rfl HT_.out HW_.out (Or.inl ⟨by rfl, by rintro w' ⟨s0, s1, s2, s3, s4, s5, s6, s7⟩; go_simp; with_reducible rfl⟩) hHeld ?_
        refine tk (i := 1) (N := some 90) (bz [5, 9]) rfl rfl HT_.out HW_.out (Or.inl ⟨by rfl, by rintro w' ⟨s0, s1, s2, s3, s4, s5, s6, s7⟩; go_simp; with_reducible rfl⟩) hHeld ?_
        refine tk (i := 5) (N := some 94) (bz [6, 8]) rfl rfl HT_.out HW_.out (Or.inl ⟨by rfl, by rintro w' ⟨s0, s1, s2, s3, s4, s5, s6, s7⟩; go_simp; with_reducible rfl⟩) hHeld ?_
        refine one_ (i := 6) (N := some 95) (bz [7, 7]) rfl rfl (one_of HT_.out (by kernel_rfl)) (by decide) (fun K hK => ?_)
        refine goes_ Try.func9 (by kernel_rfl) rfl #[.agg #[.int .i64 t102, .int .i64 t103, .slice Ao13 t104.length co13], .agg #[.int .i64 t107, .int .i64 t108, .slice Ao16 t109.length co16], .agg #[.int .i64 ((rd_T33 t114 x11_3).f0), .int .i64 ((rd_T33 t114 x11_3).f1)]] (by rfl) rfl rfl (by (try simp only [List.map_toArray, List.map_cons, List.map_nil]); first | done | rfl | (simp only [List.length_drop, List.length_take]; rfl)) ?_
        with_reducible refine (impl_MatchOf.calls k3 t102 t103 (fun k_ => some k_ = (.slice Ao13 t104.length co13 : Value).ownBlock) _ _ t104 t107 t108 (fun k_ => some k_ = (.slice Ao16 t109.length co16 : Value).ownBlock) _ _ t109 ((rd_T33 t114 x11_3).f0) ((rd_T33 t114 x11_3).f1) t128 t129 false _ ?side1 ?side2 A53.out).mono ?_
        (case side1 => exact Kd.Q_V (Kd.Q_tight rfl (Kd.Q_types (Kd.Q_types (Kd.Q_types (Kd.Q_apart' (Kd.Q_apart' (HO_113002.out) (Kd.R_typed HO_5.out) (by decide)) (Kd.R_typed HO_7.out) (by decide)) BK112.out (by decide)) BK113.out (by decide)) BK125.out (by decide))))
        (case side2 => exact Kd.Q_V (Kd.Q_tight rfl (Kd.Q_types (Kd.Q_types (Kd.Q_types (Kd.Q_apart' (Kd.Q_apart' (HO_114002.out) (Kd.R_typed HO_5.out) (by decide)) (Kd.R_typed HO_7.out) (by decide)) BK112.out (by decide)) BK113.out (by decide)) BK125.out (by decide))))
        rintro e w136 ⟨rfl, hb⟩
        have HS6_ := (hb.cell (World.block_lt_of_cell? _ _ (hHeld.2.2.2.2.2.2.1))).trans (hHeld.2.2.2.2.2.2.1); have HS7_ := (hb.cell (World.block_lt_of_cell? _ _ (hHeld.2.2.2.2.2.2.2))).trans (hHeld.2.2.2.2.2.2.2)
        refine ⟨_, rfl, ?_⟩
        replace HO_5 := aK (Kd.R_below (pR HO_5.out) hb); replace HO_7 := aK (Kd.R_below (pR HO_7.out) hb); replace HO_113002 := aK (Kd.Q_below (pQ HO_113002.out) hb); replace HO_114002 := aK (Kd.Q_below (pQ HO_114002.out) hb); replace BK112 := bB BK112 hb; replace BK113 := bB BK113 hb; replace BK125 := bB BK125 hb; replace HB := bS HB hb
        (try clear hb)
        (try clear hb2)
        (try clear hk)
        (try clear hi)
        refine hK.out _ _ (cj3 BK112.out (cj3 BK113.out ⟨HS6_, HS7_⟩)) (fun hHeld => ?_)
        clear hK K
        refine norm_ (a' := ?_) ?_ ?_
        rotate_left
        ·
         show Act.put _ (some 95) _ = _
         simp only [sP]
         rfl
        refine pz 7 88 [8, 6] HT_.out ?_
        refine pz 8 96 [9, 5] HT_.out ?_
        refine pz 9 97 [10, 4] HT_.out ?_
        refine pz 10 98 [11, 3] HT_.out ?_
        refine pz 11 12 [12, 2] HT_.out ?_
        refine pz 12 13 [13, 1] HT_.out ?_
        refine pz 13 14 [14, 0] HT_.out ?_
        refine done_ (done_of HT_.out (by kernel_rfl)) ?_
        obtain ⟨hnb137, hnc137⟩ := nB NB112_113; obtain ⟨hnb138, hnc138⟩ := nB NB112_125; obtain ⟨z139_0, z139_1, z139_2, y139_0, y139_1, y139_2⟩ := bc3 BK112.out; obtain ⟨hnb140, hnc140⟩ := nB NB113_125; obtain ⟨z141_0, z141_1, z141_2, y141_0, y141_1, y141_2⟩ := bc3 BK113.out; obtain ⟨z142_0, z142_1, y142_0, y142_1⟩ := bc2 BK125.out
        try go_wp2_with (first | ((with_reducible refine gate_callee (f := 9) rfl ?_); refine gl (some 103) Try.func9 #[.agg #[.int .i64 t102, .int .i64 t103, .slice Ao13 t104.length co13], .agg #[.int .i64 t107, .int .i64 t108, .slice Ao16 t109.length co16], .agg #[.int .i64 t122, .int .i64 t123]] ?_; (with_reducible refine (impl_MatchOf.calls k3 t102 t103 (fun k_ => some k_ = (.slice Ao13 t104.length co13 : Value).ownBlock) _ _ t104 t107 t108 (fun k_ => some k_ = (.slice Ao16 t109.length co16 : Value).ownBlock) _ _ t109 t122 t123 t131 t132 t133 _ ?side1 ?side2 A54.out).mono ?_); (case side1 => exact Kd.Q_V (Kd.Q_tight rfl (Kd.Q_types (Kd.Q_types (Kd.Q_types (Kd.Q_apart' (Kd.Q_apart' (HO_113002.out) (Kd.R_typed HO_5.out) (by decide)) (Kd.R_typed HO_7.out) (by decide)) BK112.out (by decide)) BK113.out (by decide)) BK125.out (by decide)))); (case side2 => exact Kd.Q_V (Kd.Q_tight rfl (Kd.Q_types (Kd.Q_types (Kd.Q_types (Kd.Q_apart' (Kd.Q_apart' (HO_114002.out) (Kd.R_typed HO_5.out) (by decide)) (Kd.R_typed HO_7.out) (by decide)) BK112.out (by decide)) BK113.out (by decide)) BK125.out (by decide)))); rintro e w143 ⟨rfl, hb⟩; refine ⟨_, rfl, ?_⟩; replace HO_5 := aK (Kd.R_below (pR HO_5.out) hb); replace HO_7 := aK (Kd.R_below (pR HO_7.out) hb); replace HO_113002 := aK (Kd.Q_below (pQ HO_113002.out) hb); replace HO_114002 := aK (Kd.Q_below (pQ HO_114002.out) hb); replace BK112 := bB BK112 hb; replace BK113 := bB BK113 hb; replace BK125 := bB BK125 hb; replace HB := bS HB hb; (try clear hb); (try clear hb2); (try clear hk); (try clear hi)))
        replace HO_5 := aK (Kd.R_drew HO_5.out); replace HO_7 := aK (Kd.R_drew HO_7.out); replace HO_113002 := aK (Kd.Q_drew HO_113002.out); replace HO_114002 := aK (Kd.Q_drew HO_114002.out); replace BK112 := aK (blk_drew BK112.out); replace BK113 := aK (blk_drew BK113.out); replace BK125 := aK (blk_drew BK125.out); replace HB := aK (below_drew1 HB.out)
        have p134 : 0 ≤ (x11_3 : Int) := of_decide_eq_true (by first | (with_reducible assumption) | assumption)
        have q134 : x11_3 < (t114.length : Int) := of_decide_eq_true (by first | (with_reducible assumption) | assumption)
        obtain ⟨ad134, e134, hx134_0, hx134_1⟩ := at_T33 (Kd.R_reads' HO_5.out).2.2 x11_3 p134 q134
        obtain rfl : ad127 = ad134 := (by injection e134)
        replace p134 := eq_true p134; replace q134 := eq_true q134; obtain ⟨Ao145, co145, eo145⟩ := Kd.R_slice HO_7.out
        (first | subst eo145 | (obtain ⟨f4_, f5_⟩ := sI eo145; subst f4_; subst f5_))
        have p135 : 0 ≤ (x11_3 : Int) := of_decide_eq_true (by first | (with_reducible assumption) | assumption)
        have q135 : x11_3 < (t118.length : Int) := of_decide_eq_true (by first | (with_reducible assumption) | assumption)
        obtain ⟨ad135, e135, hx135_0, hx135_1⟩ := at_T33 (Kd.R_reads' HO_7.out).2.2 x11_3 p135 q135; cases e135; replace p135 := eq_true p135; replace q135 := eq_true q135
        refine start_ (n := 38) (S := fun w' => w'.cell? (ad127.add ((x11_3).toNat * 2)) = some (.int .i64 ((rd_T33 t114 x11_3).f0)) ∧ w'.cell? ⟨(ad127.add ((x11_3).toNat * 2)).block, (ad127.add ((x11_3).toNat * 2)).off + 1, none⟩ = some (.int .i64 ((rd_T33 t114 x11_3).f1)) ∧ w'.cell? (ad135.add ((x11_3).toNat * 2)) = some (.int .i64 ((rd_T33 t118 x11_3).f0)) ∧ w'.cell? ⟨(ad135.add ((x11_3).toNat * 2)).block, (ad135.add ((x11_3).toNat * 2)).off + 1, none⟩ = some (.int .i64 ((rd_T33 t118 x11_3).f1))) (ds := []) (bz [0, 38]) (by kernel_rfl) rfl rfl ⟨hx134_0, hx134_1, hx135_0, hx135_1⟩ (fun hHeld => ?_); refine with_tabW laws_FnMotion.tab16 laws_FnMotion.bits16 (fun HT_ HW_ => ?_)
        generalize w143.drew = w144 at HO_5 HO_7 HO_113002 HO_114002 BK112 BK113 BK125 HB hx134_0 hx134_1 hx135_0 hx135_1 hHeld ⊢
        refine pz 0 107 [1, 37] HT_.out ?_
        refine pz 1 108 [2, 36] HT_.out ?_
        refine pz 2 109 [3, 35] HT_.out ?_
        refine pz 4 111 [3, 1, 1, 33] HT_.out ?_
        refine pz 5 112 [3, 1, 2, 32] HT_.out ?_
        refine pz 6 113 [3, 1, 3, 31] HT_.out ?_
        refine tk (i := 3) (N := some 110) (bz [7, 31]) rfl rfl HT_.out HW_.out (Or.inl ⟨by rfl, by rintro w' ⟨s0, s1, s2, s3⟩; go_simp; with_reducible rfl⟩) hHeld ?_
        refine tk (i := 7) (N := some 114) (bz [8, 30]) rfl rfl HT_.out HW_.out (Or.inl ⟨by rfl, by rintro w' ⟨s0, s1, s2, s3⟩; go_simp; with_reducible rfl⟩) hHeld ?_
        refine pz 8 115 [9, 29] HT_.out ?_
        refine pz 9 116 [10, 28] HT_.out ?_
        refine pz 10 117 [11, 27] HT_.out ?_
        refine pz 11 118 [12, 26] HT_.out ?_
        refine pz 12 119 [13, 25] HT_.out ?_
        refine pz 13 120 [14, 24] HT_.out ?_
        refine pd 14 121 [15, 23] HT_.out ?_
        refine pd 15 122 [16, 22] HT_.out ?_
        refine pz 16 123 [17, 21] HT_.out ?_
        refine pz 17 124 [18, 20] HT_.out ?_
        refine pd 18 125 [19, 19] HT_.out ?_
        refine pd 19 126 [20, 18] HT_.out ?_
        refine pz 20 127 [21, 17] HT_.out ?_
        refine pz 21 128 [22, 16] HT_.out ?_
        refine pd 22 129 [23, 15] HT_.out ?_
        refine pd 23 130 [24, 14] HT_.out ?_
        refine pd 24 131 [25, 13] HT_.out ?_
        refine pd 25 132 [26, 12] HT_.out ?_
        refine pd 26 133 [27, 11] HT_.out ?_
        refine pd 27 134 [28, 10] HT_.out ?_
        refine pz 28 135 [29, 9] HT_.out ?_
        refine pz 29 136 [30, 8] HT_.out ?_
        refine pd 30 137 [31, 7] HT_.out ?_
        refine pd 31 138 [32, 6] HT_.out ?_
        refine pd 32 139 [33, 5] HT_.out ?_
        refine pd 33 140 [34, 4] HT_.out ?_
        refine pd 34 141 [35, 3] HT_.out ?_
        refine pd 35 142 [36, 2] HT_.out ?_
        refine pd 36 143 [37, 1] HT_.out ?_
        refine pz 37 144 [38, 0] HT_.out ?_
        refine done_ (done_of HT_.out (by kernel_rfl)) ?_
        try go_wp2
        go_ret
        exact ⟨er, pT HB.out⟩
       subst c69
       have H1 : (if t133 = true then (if t129 < 1 then (some false) else (if (wrap64 (2 * t129)) < (t104.length : Int) then (some false) else (if (wrap64 (t131 * t129)) > (wrap64 (t128 * t132)) then (some false) else (laws_FnMotion.l0 k3 l0 t114 t118 (wrap64 (x11_3 + 1)) t102 t103 t104 t107 t108 t109 t122 t123)))) else (some false)) = some r := by rw [if_pos rfl] at H; exact H
       clear H; have H := H1; clear H1
       by_cases c70 : t133 = true
       rotate_left
       ·
        replace c70 := Bool.eq_false_iff.mpr c70; subst c70
        have H1 : (some false) = some r := by rw [if_neg (show ¬ (false = true) by decide)] at H; exact H
        clear H; have H := H1; clear H1
        obtain rfl := Option.some.inj H
        obtain ⟨Ao122, co122, eo122⟩ := Kd.R_slice HO_5.out; subst eo122
        try go_wp2
        replace HO_5 := aK (Kd.R_drew HO_5.out); replace HO_7 := aK (Kd.R_drew HO_7.out); replace HO_113002 := aK (Kd.Q_drew HO_113002.out); replace HO_114002 := aK (Kd.Q_drew HO_114002.out); replace BK112 := aK (blk_drew BK112.out); replace BK113 := aK (blk_drew BK113.out); replace BK125 := aK (blk_drew BK125.out); replace HB := aK (below_drew1 HB.out)
        have p127 : 0 ≤ (x11_3 : Int) := of_decide_eq_true (by first | (with_reducible assumption) | assumption)
        have q127 : x11_3 < (t114.length : Int) := of_decide_eq_true (by first | (with_reducible assumption) | assumption)
        obtain ⟨ad127, e127, hx127_0, hx127_1⟩ := at_T33 (Kd.R_reads' HO_5.out).2.2 x11_3 p127 q127; cases e127; replace p127 := eq_true p127; replace q127 := eq_true q127
        refine start_ (n := 14) (S := fun w' => w'.cell? ⟨gb112, 0, none⟩ = some (.int .i64 t102) ∧ w'.cell? ⟨gb112, 1, none⟩ = some (.int .i64 t103) ∧ w'.cell? ⟨gb112, 2, none⟩ = some (.slice Ao13 t104.length co13) ∧ w'.cell? ⟨gb113, 0, none⟩ = some (.int .i64 t107) ∧ w'.cell? ⟨gb113, 1, none⟩ = some (.int .i64 t108) ∧ w'.cell? ⟨gb113, 2, none⟩ = some (.slice Ao16 t109.length co16) ∧ w'.cell? (ad127.add ((x11_3).toNat * 2)) = some (.int .i64 ((rd_T33 t114 x11_3).f0)) ∧ w'.cell? ⟨(ad127.add ((x11_3).toNat * 2)).block, (ad127.add ((x11_3).toNat * 2)).off + 1, none⟩ = some (.int .i64 ((rd_T33 t114 x11_3).f1))) (ds := []) (bz [0, 14]) (by kernel_rfl) rfl rfl (cj3 BK112.out (cj3 BK113.out ⟨hx127_0, hx127_1⟩)) (fun hHeld => ?_); refine with_tabW laws_FnMotion.tab14 laws_FnMotion.bits14 (fun HT_ HW_ => ?_)
        generalize wr.drew = w123 at HO_5 HO_7 HO_113002 HO_114002 BK112 BK113 BK125 HB hx127_0 hx127_1 hHeld ⊢
        refine pz 2 91 [0, 2, 1, 11] HT_.out ?_
        refine pz 3 92 [0, 2, 2, 10] HT_.out ?_
        refine pz 4 93 [0, 2, 3, 9] HT_.out ?_
        refine tk (i := 0) (N := some 89) (bz [1, 1, 3, 9]) rfl rfl HT_.out HW_.out (Or.inl ⟨by rfl, by rintro w' ⟨s0, s1, s2, s3, s4, s5, s6, s7⟩; go_simp; with_reducible rfl⟩) hHeld ?_
        refine tk (i := 1) (N := some 90) (bz [5, 9]) rfl rfl HT_.out HW_.out (Or.inl ⟨by rfl, by rintro w' ⟨s0, s1, s2, s3, s4, s5, s6, s7⟩; go_simp; with_reducible rfl⟩) hHeld ?_
        refine tk (i := 5) (N := some 94) (bz [6, 8]) rfl rfl HT_.out HW_.out (Or.inl ⟨by rfl, by rintro w' ⟨s0, s1, s2, s3, s4, s5, s6, s7⟩; go_simp; with_reducible rfl⟩) hHeld ?_
        refine one_ (i := 6) (N := some 95) (bz [7, 7]) rfl rfl (one_of HT_.out (by kernel_rfl)) (by decide) (fun K hK => ?_)
        refine goes_ Try.func9 (by kernel_rfl) rfl #[.agg #[.int .i64 t102, .int .i64 t103, .slice Ao13 t104.length co13], .agg #[.int .i64 t107, .int .i64 t108, .slice Ao16 t109.length co16], .agg #[.int .i64 ((rd_T33 t114 x11_3).f0), .int .i64 ((rd_T33 t114 x11_3).f1)]] (by rfl) rfl rfl (by (try simp only [List.map_toArray, List.map_cons, List.map_nil]); first | done | rfl | (simp only [List.length_drop, List.length_take]; rfl)) ?_
        with_reducible refine (impl_MatchOf.calls k3 t102 t103 (fun k_ => some k_ = (.slice Ao13 t104.length co13 : Value).ownBlock) _ _ t104 t107 t108 (fun k_ => some k_ = (.slice Ao16 t109.length co16 : Value).ownBlock) _ _ t109 ((rd_T33 t114 x11_3).f0) ((rd_T33 t114 x11_3).f1) t128 t129 true _ ?side1 ?side2 A53.out).mono ?_
        (case side1 => exact Kd.Q_V (Kd.Q_tight rfl (Kd.Q_types (Kd.Q_types (Kd.Q_types (Kd.Q_apart' (Kd.Q_apart' (HO_113002.out) (Kd.R_typed HO_5.out) (by decide)) (Kd.R_typed HO_7.out) (by decide)) BK112.out (by decide)) BK113.out (by decide)) BK125.out (by decide))))
        (case side2 => exact Kd.Q_V (Kd.Q_tight rfl (Kd.Q_types (Kd.Q_types (Kd.Q_types (Kd.Q_apart' (Kd.Q_apart' (HO_114002.out) (Kd.R_typed HO_5.out) (by decide)) (Kd.R_typed HO_7.out) (by decide)) BK112.out (by decide)) BK113.out (by decide)) BK125.out (by decide))))
        rintro e w124 ⟨rfl, hb⟩
        have HS6_ := (hb.cell (World.block_lt_of_cell? _ _ (hHeld.2.2.2.2.2.2.1))).trans (hHeld.2.2.2.2.2.2.1); have HS7_ := (hb.cell (World.block_lt_of_cell? _ _ (hHeld.2.2.2.2.2.2.2))).trans (hHeld.2.2.2.2.2.2.2)
        refine ⟨_, rfl, ?_⟩
        replace HO_5 := aK (Kd.R_below (pR HO_5.out) hb); replace HO_7 := aK (Kd.R_below (pR HO_7.out) hb); replace HO_113002 := aK (Kd.Q_below (pQ HO_113002.out) hb); replace HO_114002 := aK (Kd.Q_below (pQ HO_114002.out) hb); replace BK112 := bB BK112 hb; replace BK113 := bB BK113 hb; replace BK125 := bB BK125 hb; replace HB := bS HB hb
        (try clear hb)
        (try clear hb2)
        (try clear hk)
        (try clear hi)
        refine hK.out _ _ (cj3 BK112.out (cj3 BK113.out ⟨HS6_, HS7_⟩)) (fun hHeld => ?_)
        clear hK K
        refine norm_ (a' := ?_) ?_ ?_
        rotate_left
        ·
         show Act.put _ (some 95) _ = _
         simp only [sP]
         rfl
        refine pz 7 88 [8, 6] HT_.out ?_
        refine pz 8 96 [9, 5] HT_.out ?_
        refine pz 9 97 [10, 4] HT_.out ?_
        refine pz 10 98 [11, 3] HT_.out ?_
        refine pz 11 12 [12, 2] HT_.out ?_
        refine pz 12 13 [13, 1] HT_.out ?_
        refine pz 13 14 [14, 0] HT_.out ?_
        refine done_ (done_of HT_.out (by kernel_rfl)) ?_
        obtain ⟨hnb125, hnc125⟩ := nB NB112_113; obtain ⟨hnb126, hnc126⟩ := nB NB112_125; obtain ⟨z127_0, z127_1, z127_2, y127_0, y127_1, y127_2⟩ := bc3 BK112.out; obtain ⟨hnb128, hnc128⟩ := nB NB113_125; obtain ⟨z129_0, z129_1, z129_2, y129_0, y129_1, y129_2⟩ := bc3 BK113.out; obtain ⟨z130_0, z130_1, y130_0, y130_1⟩ := bc2 BK125.out
        try go_wp2_with (first | ((with_reducible refine gate_callee (f := 9) rfl ?_); refine gl (some 103) Try.func9 #[.agg #[.int .i64 t102, .int .i64 t103, .slice Ao13 t104.length co13], .agg #[.int .i64 t107, .int .i64 t108, .slice Ao16 t109.length co16], .agg #[.int .i64 t122, .int .i64 t123]] ?_; (with_reducible refine (impl_MatchOf.calls k3 t102 t103 (fun k_ => some k_ = (.slice Ao13 t104.length co13 : Value).ownBlock) _ _ t104 t107 t108 (fun k_ => some k_ = (.slice Ao16 t109.length co16 : Value).ownBlock) _ _ t109 t122 t123 t131 t132 false _ ?side1 ?side2 A54.out).mono ?_); (case side1 => exact Kd.Q_V (Kd.Q_tight rfl (Kd.Q_types (Kd.Q_types (Kd.Q_types (Kd.Q_apart' (Kd.Q_apart' (HO_113002.out) (Kd.R_typed HO_5.out) (by decide)) (Kd.R_typed HO_7.out) (by decide)) BK112.out (by decide)) BK113.out (by decide)) BK125.out (by decide)))); (case side2 => exact Kd.Q_V (Kd.Q_tight rfl (Kd.Q_types (Kd.Q_types (Kd.Q_types (Kd.Q_apart' (Kd.Q_apart' (HO_114002.out) (Kd.R_typed HO_5.out) (by decide)) (Kd.R_typed HO_7.out) (by decide)) BK112.out (by decide)) BK113.out (by decide)) BK125.out (by decide)))); rintro e w131 ⟨rfl, hb⟩; refine ⟨_, rfl, ?_⟩; replace HO_5 := aK (Kd.R_below (pR HO_5.out) hb); replace HO_7 := aK (Kd.R_below (pR HO_7.out) hb); replace HO_113002 := aK (Kd.Q_below (pQ HO_113002.out) hb); replace HO_114002 := aK (Kd.Q_below (pQ HO_114002.out) hb); replace BK112 := bB BK112 hb; replace BK113 := bB BK113 hb; replace BK125 := bB BK125 hb; replace HB := bS HB hb; (try clear hb); (try clear hb2); (try clear hk); (try clear hi)))
        replace HO_5 := aK (Kd.R_drew HO_5.out); replace HO_7 := aK (Kd.R_drew HO_7.out); replace HO_113002 := aK (Kd.Q_drew HO_113002.out); replace HO_114002 := aK (Kd.Q_drew HO_114002.out); replace BK112 := aK (blk_drew BK112.out); replace BK113 := aK (blk_drew BK113.out); replace BK125 := aK (blk_drew BK125.out); replace HB := aK (below_drew1 HB.out)
        have p134 : 0 ≤ (x11_3 : Int) := of_decide_eq_true (by first | (with_reducible assumption) | assumption)
        have q134 : x11_3 < (t114.length : Int) := of_decide_eq_true (by first | (with_reducible assumption) | assumption)
        obtain ⟨ad134, e134, hx134_0, hx134_1⟩ := at_T33 (Kd.R_reads' HO_5.out).2.2 x11_3 p134 q134
        obtain rfl : ad127 = ad134 := (by injection e134)
        replace p134 := eq_true p134; replace q134 := eq_true q134; obtain ⟨Ao133, co133, eo133⟩ := Kd.R_slice HO_7.out
        (first | subst eo133 | (obtain ⟨f4_, f5_⟩ := sI eo133; subst f4_; subst f5_))
        have p135 : 0 ≤ (x11_3 : Int) := of_decide_eq_true (by first | (with_reducible assumption) | assumption)
        have q135 : x11_3 < (t118.length : Int) := of_decide_eq_true (by first | (with_reducible assumption) | assumption)
        obtain ⟨ad135, e135, hx135_0, hx135_1⟩ := at_T33 (Kd.R_reads' HO_7.out).2.2 x11_3 p135 q135; cases e135; replace p135 := eq_true p135; replace q135 := eq_true q135
        refine start_ (n := 38) (S := fun w' => w'.cell? (ad127.add ((x11_3).toNat * 2)) = some (.int .i64 ((rd_T33 t114 x11_3).f0)) ∧ w'.cell? ⟨(ad127.add ((x11_3).toNat * 2)).block, (ad127.add ((x11_3).toNat * 2)).off + 1, none⟩ = some (.int .i64 ((rd_T33 t114 x11_3).f1)) ∧ w'.cell? (ad135.add ((x11_3).toNat * 2)) = some (.int .i64 ((rd_T33 t118 x11_3).f0)) ∧ w'.cell? ⟨(ad135.add ((x11_3).toNat * 2)).block, (ad135.add ((x11_3).toNat * 2)).off + 1, none⟩ = some (.int .i64 ((rd_T33 t118 x11_3).f1))) (ds := []) (bz [0, 38]) (by kernel_rfl) rfl rfl ⟨hx134_0, hx134_1, hx135_0, hx135_1⟩ (fun hHeld => ?_); refine with_tabW laws_FnMotion.tab16 laws_FnMotion.bits16 (fun HT_ HW_ => ?_)
        generalize w131.drew = w132 at HO_5 HO_7 HO_113002 HO_114002 BK112 BK113 BK125 HB hx134_0 hx134_1 hx135_0 hx135_1 hHeld ⊢
        refine pz 0 107 [1, 37] HT_.out ?_
        refine pz 1 108 [2, 36] HT_.out ?_
        refine pz 2 109 [3, 35] HT_.out ?_
        refine pz 4 111 [3, 1, 1, 33] HT_.out ?_
        refine pz 5 112 [3, 1, 2, 32] HT_.out ?_
        refine pz 6 113 [3, 1, 3, 31] HT_.out ?_
        refine tk (i := 3) (N := some 110) (bz [7, 31]) rfl rfl HT_.out HW_.out (Or.inl ⟨by rfl, by rintro w' ⟨s0, s1, s2, s3⟩; go_simp; with_reducible rfl⟩) hHeld ?_
        refine tk (i := 7) (N := some 114) (bz [8, 30]) rfl rfl HT_.out HW_.out (Or.inl ⟨by rfl, by rintro w' ⟨s0, s1, s2, s3⟩; go_simp; with_reducible rfl⟩) hHeld ?_
        refine pz 8 115 [9, 29] HT_.out ?_
        refine pz 9 116 [10, 28] HT_.out ?_
        refine pz 10 117 [11, 27] HT_.out ?_
        refine pz 11 118 [12, 26] HT_.out ?_
        refine pz 12 119 [13, 25] HT_.out ?_
        refine pz 13 120 [14, 24] HT_.out ?_
        refine pz 14 121 [15, 23] HT_.out ?_
        refine pz 15 122 [16, 22] HT_.out ?_
        refine pz 16 123 [17, 21] HT_.out ?_
        refine pz 17 124 [18, 20] HT_.out ?_
        refine pd 18 125 [19, 19] HT_.out ?_
        refine pd 19 126 [20, 18] HT_.out ?_
        refine pz 20 127 [21, 17] HT_.out ?_
        refine pz 21 128 [22, 16] HT_.out ?_
        refine pd 22 129 [23, 15] HT_.out ?_
        refine pd 23 130 [24, 14] HT_.out ?_
        refine pd 24 131 [25, 13] HT_.out ?_
        refine pd 25 132 [26, 12] HT_.out ?_
        refine pd 26 133 [27, 11] HT_.out ?_
        refine pd 27 134 [28, 10] HT_.out ?_
        refine pz 28 135 [29, 9] HT_.out ?_
        refine pz 29 136 [30, 8] HT_.out ?_
        refine pd 30 137 [31, 7] HT_.out ?_
        refine pd 31 138 [32, 6] HT_.out ?_
        refine pd 32 139 [33, 5] HT_.out ?_
        refine pd 33 140 [34, 4] HT_.out ?_
        refine pd 34 141 [35, 3] HT_.out ?_
        refine pd 35 142 [36, 2] HT_.out ?_
        refine pd 36 143 [37, 1] HT_.out ?_
        refine pz 37 144 [38, 0] HT_.out ?_
        refine done_ (done_of HT_.out (by kernel_rfl)) ?_
        try go_wp2
        go_ret
        exact ⟨er, pT HB.out⟩
       subst c70
       have H1 : (if t129 < 1 then (some false) else (if (wrap64 (2 * t129)) < (t104.length : Int) then (some false) else (if (wrap64 (t131 * t129)) > (wrap64 (t128 * t132)) then (some false) else (laws_FnMotion.l0 k3 l0 t114 t118 (wrap64 (x11_3 + 1)) t102 t103 t104 t107 t108 t109 t122 t123)))) = some r := by rw [if_pos rfl] at H; exact H
       clear H; have H := H1; clear H1
       by_cases c71 : t129 < 1
       ·
        rw [if_pos c71] at H
        have c71b0 : decide (t129 < 1) = true := decide_eq_true c71
        clear c71
        obtain rfl := Option.some.inj H
        obtain ⟨Ao72, co72, eo72⟩ := Kd.R_slice HO_5.out; subst eo72
        try go_wp2
        replace HO_5 := aK (Kd.R_drew HO_5.out); replace HO_7 := aK (Kd.R_drew HO_7.out); replace HO_113002 := aK (Kd.Q_drew HO_113002.out); replace HO_114002 := aK (Kd.Q_drew HO_114002.out); replace BK112 := aK (blk_drew BK112.out); replace BK113 := aK (blk_drew BK113.out); replace BK125 := aK (blk_drew BK125.out); replace HB := aK (below_drew1 HB.out)
        have p127 : 0 ≤ (x11_3 : Int) := of_decide_eq_true (by first | (with_reducible assumption) | assumption)
        have q127 : x11_3 < (t114.length : Int) := of_decide_eq_true (by first | (with_reducible assumption) | assumption)
        obtain ⟨ad127, e127, hx127_0, hx127_1⟩ := at_T33 (Kd.R_reads' HO_5.out).2.2 x11_3 p127 q127; cases e127; replace p127 := eq_true p127; replace q127 := eq_true q127
        refine start_ (n := 14) (S := fun w' => w'.cell? ⟨gb112, 0, none⟩ = some (.int .i64 t102) ∧ w'.cell? ⟨gb112, 1, none⟩ = some (.int .i64 t103) ∧ w'.cell? ⟨gb112, 2, none⟩ = some (.slice Ao13 t104.length co13) ∧ w'.cell? ⟨gb113, 0, none⟩ = some (.int .i64 t107) ∧ w'.cell? ⟨gb113, 1, none⟩ = some (.int .i64 t108) ∧ w'.cell? ⟨gb113, 2, none⟩ = some (.slice Ao16 t109.length co16) ∧ w'.cell? (ad127.add ((x11_3).toNat * 2)) = some (.int .i64 ((rd_T33 t114 x11_3).f0)) ∧ w'.cell? ⟨(ad127.add ((x11_3).toNat * 2)).block, (ad127.add ((x11_3).toNat * 2)).off + 1, none⟩ = some (.int .i64 ((rd_T33 t114 x11_3).f1))) (ds := []) (bz [0, 14]) (by kernel_rfl) rfl rfl (cj3 BK112.out (cj3 BK113.out ⟨hx127_0, hx127_1⟩)) (fun hHeld => ?_); refine with_tabW laws_FnMotion.tab14 laws_FnMotion.bits14 (fun HT_ HW_ => ?_)
        generalize wr.drew = w73 at HO_5 HO_7 HO_113002 HO_114002 BK112 BK113 BK125 HB hx127_0 hx127_1 hHeld ⊢
        refine pz 2 91 [0, 2, 1, 11] HT_.out ?_
        refine pz 3 92 [0, 2, 2, 10] HT_.out ?_
        refine pz 4 93 [0, 2, 3, 9] HT_.out ?_
        refine tk (i := 0) (N := some 89) (bz [1, 1, 3, 9]) rfl rfl HT_.out HW_.out (Or.inl ⟨by rfl, by rintro w' ⟨s0, s1, s2, s3, s4, s5, s6, s7⟩; go_simp; with_reducible rfl⟩) hHeld ?_
        refine tk (i := 1) (N := some 90) (bz [5, 9]) rfl rfl HT_.out HW_.out (Or.inl ⟨by rfl, by rintro w' ⟨s0, s1, s2, s3, s4, s5, s6, s7⟩; go_simp; with_reducible rfl⟩) hHeld ?_
        refine tk (i := 5) (N := some 94) (bz [6, 8]) rfl rfl HT_.out HW_.out (Or.inl ⟨by rfl, by rintro w' ⟨s0, s1, s2, s3, s4, s5, s6, s7⟩; go_simp; with_reducible rfl⟩) hHeld ?_
        refine one_ (i := 6) (N := some 95) (bz [7, 7]) rfl rfl (one_of HT_.out (by kernel_rfl)) (by decide) (fun K hK => ?_)
        refine goes_ Try.func9 (by kernel_rfl) rfl #[.agg #[.int .i64 t102, .int .i64 t103, .slice Ao13 t104.length co13], .agg #[.int .i64 t107, .int .i64 t108, .slice Ao16 t109.length co16], .agg #[.int .i64 ((rd_T33 t114 x11_3).f0), .int .i64 ((rd_T33 t114 x11_3).f1)]] (by rfl) rfl rfl (by (try simp only [List.map_toArray, List.map_cons, List.map_nil]); first | done | rfl | (simp only [List.length_drop, List.length_take]; rfl)) ?_
        with_reducible refine (impl_MatchOf.calls k3 t102 t103 (fun k_ => some k_ = (.slice Ao13 t104.length co13 : Value).ownBlock) _ _ t104 t107 t108 (fun k_ => some k_ = (.slice Ao16 t109.length co16 : Value).ownBlock) _ _ t109 ((rd_T33 t114 x11_3).f0) ((rd_T33 t114 x11_3).f1) t128 t129 true _ ?side1 ?side2 A53.out).mono ?_
        (case side1 => exact Kd.Q_V (Kd.Q_tight rfl (Kd.Q_types (Kd.Q_types (Kd.Q_types (Kd.Q_apart' (Kd.Q_apart' (HO_113002.out) (Kd.R_typed HO_5.out) (by decide)) (Kd.R_typed HO_7.out) (by decide)) BK112.out (by decide)) BK113.out (by decide)) BK125.out (by decide))))
        (case side2 => exact Kd.Q_V (Kd.Q_tight rfl (Kd.Q_types (Kd.Q_types (Kd.Q_types (Kd.Q_apart' (Kd.Q_apart' (HO_114002.out) (Kd.R_typed HO_5.out) (by decide)) (Kd.R_typed HO_7.out) (by decide)) BK112.out (by decide)) BK113.out (by decide)) BK125.out (by decide))))
        rintro e w74 ⟨rfl, hb⟩
        have HS6_ := (hb.cell (World.block_lt_of_cell? _ _ (hHeld.2.2.2.2.2.2.1))).trans (hHeld.2.2.2.2.2.2.1); have HS7_ := (hb.cell (World.block_lt_of_cell? _ _ (hHeld.2.2.2.2.2.2.2))).trans (hHeld.2.2.2.2.2.2.2)
        refine ⟨_, rfl, ?_⟩
        replace HO_5 := aK (Kd.R_below (pR HO_5.out) hb); replace HO_7 := aK (Kd.R_below (pR HO_7.out) hb); replace HO_113002 := aK (Kd.Q_below (pQ HO_113002.out) hb); replace HO_114002 := aK (Kd.Q_below (pQ HO_114002.out) hb); replace BK112 := bB BK112 hb; replace BK113 := bB BK113 hb; replace BK125 := bB BK125 hb; replace HB := bS HB hb
        (try clear hb)
        (try clear hb2)
        (try clear hk)
        (try clear hi)
        refine hK.out _ _ (cj3 BK112.out (cj3 BK113.out ⟨HS6_, HS7_⟩)) (fun hHeld => ?_)
        clear hK K
        refine norm_ (a' := ?_) ?_ ?_
        rotate_left
        ·
         show Act.put _ (some 95) _ = _
         simp only [sP]
         rfl
        refine pz 7 88 [8, 6] HT_.out ?_
        refine pz 8 96 [9, 5] HT_.out ?_
        refine pz 9 97 [10, 4] HT_.out ?_
        refine pz 10 98 [11, 3] HT_.out ?_
        refine pz 11 12 [12, 2] HT_.out ?_
        refine pz 12 13 [13, 1] HT_.out ?_
        refine pz 13 14 [14, 0] HT_.out ?_
        refine done_ (done_of HT_.out (by kernel_rfl)) ?_
        obtain ⟨hnb75, hnc75⟩ := nB NB112_113; obtain ⟨hnb76, hnc76⟩ := nB NB112_125; obtain ⟨z77_0, z77_1, z77_2, y77_0, y77_1, y77_2⟩ := bc3 BK112.out; obtain ⟨hnb78, hnc78⟩ := nB NB113_125; obtain ⟨z79_0, z79_1, z79_2, y79_0, y79_1, y79_2⟩ := bc3 BK113.out; obtain ⟨z80_0, z80_1, y80_0, y80_1⟩ := bc2 BK125.out
        try go_wp2_with (first | ((with_reducible refine gate_callee (f := 9) rfl ?_); refine gl (some 103) Try.func9 #[.agg #[.int .i64 t102, .int .i64 t103, .slice Ao13 t104.length co13], .agg #[.int .i64 t107, .int .i64 t108, .slice Ao16 t109.length co16], .agg #[.int .i64 t122, .int .i64 t123]] ?_; (with_reducible refine (impl_MatchOf.calls k3 t102 t103 (fun k_ => some k_ = (.slice Ao13 t104.length co13 : Value).ownBlock) _ _ t104 t107 t108 (fun k_ => some k_ = (.slice Ao16 t109.length co16 : Value).ownBlock) _ _ t109 t122 t123 t131 t132 true _ ?side1 ?side2 A54.out).mono ?_); (case side1 => exact Kd.Q_V (Kd.Q_tight rfl (Kd.Q_types (Kd.Q_types (Kd.Q_types (Kd.Q_apart' (Kd.Q_apart' (HO_113002.out) (Kd.R_typed HO_5.out) (by decide)) (Kd.R_typed HO_7.out) (by decide)) BK112.out (by decide)) BK113.out (by decide)) BK125.out (by decide)))); (case side2 => exact Kd.Q_V (Kd.Q_tight rfl (Kd.Q_types (Kd.Q_types (Kd.Q_types (Kd.Q_apart' (Kd.Q_apart' (HO_114002.out) (Kd.R_typed HO_5.out) (by decide)) (Kd.R_typed HO_7.out) (by decide)) BK112.out (by decide)) BK113.out (by decide)) BK125.out (by decide)))); rintro e w81 ⟨rfl, hb⟩; refine ⟨_, rfl, ?_⟩; replace HO_5 := aK (Kd.R_below (pR HO_5.out) hb); replace HO_7 := aK (Kd.R_below (pR HO_7.out) hb); replace HO_113002 := aK (Kd.Q_below (pQ HO_113002.out) hb); replace HO_114002 := aK (Kd.Q_below (pQ HO_114002.out) hb); replace BK112 := bB BK112 hb; replace BK113 := bB BK113 hb; replace BK125 := bB BK125 hb; replace HB := bS HB hb; (try clear hb); (try clear hb2); (try clear hk); (try clear hi)))
        replace HO_5 := aK (Kd.R_drew HO_5.out); replace HO_7 := aK (Kd.R_drew HO_7.out); replace HO_113002 := aK (Kd.Q_drew HO_113002.out); replace HO_114002 := aK (Kd.Q_drew HO_114002.out); replace BK112 := aK (blk_drew BK112.out); replace BK113 := aK (blk_drew BK113.out); replace BK125 := aK (blk_drew BK125.out); replace HB := aK (below_drew1 HB.out)
        have p134 : 0 ≤ (x11_3 : Int) := of_decide_eq_true (by first | (with_reducible assumption) | assumption)
        have q134 : x11_3 < (t114.length : Int) := of_decide_eq_true (by first | (with_reducible assumption) | assumption)
        obtain ⟨ad134, e134, hx134_0, hx134_1⟩ := at_T33 (Kd.R_reads' HO_5.out).2.2 x11_3 p134 q134
        obtain rfl : ad127 = ad134 := (by injection e134)
        replace p134 := eq_true p134; replace q134 := eq_true q134; obtain ⟨Ao83, co83, eo83⟩ := Kd.R_slice HO_7.out
        (first | subst eo83 | (obtain ⟨f4_, f5_⟩ := sI eo83; subst f4_; subst f5_))
        have p135 : 0 ≤ (x11_3 : Int) := of_decide_eq_true (by first | (with_reducible assumption) | assumption)
        have q135 : x11_3 < (t118.length : Int) := of_decide_eq_true (by first | (with_reducible assumption) | assumption)
        obtain ⟨ad135, e135, hx135_0, hx135_1⟩ := at_T33 (Kd.R_reads' HO_7.out).2.2 x11_3 p135 q135; cases e135; replace p135 := eq_true p135; replace q135 := eq_true q135
        refine start_ (n := 38) (S := fun w' => w'.cell? (ad127.add ((x11_3).toNat * 2)) = some (.int .i64 ((rd_T33 t114 x11_3).f0)) ∧ w'.cell? ⟨(ad127.add ((x11_3).toNat * 2)).block, (ad127.add ((x11_3).toNat * 2)).off + 1, none⟩ = some (.int .i64 ((rd_T33 t114 x11_3).f1)) ∧ w'.cell? (ad135.add ((x11_3).toNat * 2)) = some (.int .i64 ((rd_T33 t118 x11_3).f0)) ∧ w'.cell? ⟨(ad135.add ((x11_3).toNat * 2)).block, (ad135.add ((x11_3).toNat * 2)).off + 1, none⟩ = some (.int .i64 ((rd_T33 t118 x11_3).f1))) (ds := []) (bz [0, 38]) (by kernel_rfl) rfl rfl ⟨hx134_0, hx134_1, hx135_0, hx135_1⟩ (fun hHeld => ?_); refine with_tabW laws_FnMotion.tab16 laws_FnMotion.bits16 (fun HT_ HW_ => ?_)
        generalize w81.drew = w82 at HO_5 HO_7 HO_113002 HO_114002 BK112 BK113 BK125 HB hx134_0 hx134_1 hx135_0 hx135_1 hHeld ⊢
        refine pz 0 107 [1, 37] HT_.out ?_
        refine pz 1 108 [2, 36] HT_.out ?_
        refine pz 2 109 [3, 35] HT_.out ?_
        refine pz 4 111 [3, 1, 1, 33] HT_.out ?_
        refine pz 5 112 [3, 1, 2, 32] HT_.out ?_
        refine pz 6 113 [3, 1, 3, 31] HT_.out ?_
        refine tk (i := 3) (N := some 110) (bz [7, 31]) rfl rfl HT_.out HW_.out (Or.inl ⟨by rfl, by rintro w' ⟨s0, s1, s2, s3⟩; go_simp; with_reducible rfl⟩) hHeld ?_
        refine tk (i := 7) (N := some 114) (bz [8, 30]) rfl rfl HT_.out HW_.out (Or.inl ⟨by rfl, by rintro w' ⟨s0, s1, s2, s3⟩; go_simp; with_reducible rfl⟩) hHeld ?_
        refine pz 8 115 [9, 29] HT_.out ?_
        refine pz 9 116 [10, 28] HT_.out ?_
        refine pz 10 117 [11, 27] HT_.out ?_
        refine pz 11 118 [12, 26] HT_.out ?_
        refine pz 12 119 [13, 25] HT_.out ?_
        refine pz 13 120 [14, 24] HT_.out ?_
        refine pz 14 121 [15, 23] HT_.out ?_
        refine pz 15 122 [16, 22] HT_.out ?_
        refine pz 16 123 [17, 21] HT_.out ?_
        refine pz 17 124 [18, 20] HT_.out ?_
        refine pz 18 125 [19, 19] HT_.out ?_
        refine pz 19 126 [20, 18] HT_.out ?_
        refine pz 20 127 [21, 17] HT_.out ?_
        refine pz 21 128 [22, 16] HT_.out ?_
        refine pd 22 129 [23, 15] HT_.out ?_
        refine pd 23 130 [24, 14] HT_.out ?_
        refine pd 24 131 [25, 13] HT_.out ?_
        refine pd 25 132 [26, 12] HT_.out ?_
        refine pd 26 133 [27, 11] HT_.out ?_
        refine pd 27 134 [28, 10] HT_.out ?_
        refine pz 28 135 [29, 9] HT_.out ?_
        refine pz 29 136 [30, 8] HT_.out ?_
        refine pd 30 137 [31, 7] HT_.out ?_
        refine pd 31 138 [32, 6] HT_.out ?_
        refine pd 32 139 [33, 5] HT_.out ?_
        refine pd 33 140 [34, 4] HT_.out ?_
        refine pd 34 141 [35, 3] HT_.out ?_
        refine pd 35 142 [36, 2] HT_.out ?_
        refine pd 36 143 [37, 1] HT_.out ?_
        refine pz 37 144 [38, 0] HT_.out ?_
        refine done_ (done_of HT_.out (by kernel_rfl)) ?_
        try go_wp2
        go_ret
        exact ⟨er, pT HB.out⟩
       rw [if_neg c71] at H
       have c71b0 : decide (t129 < 1) = false := decide_eq_false c71
       clear c71
       by_cases c84 : (wrap64 (2 * t129)) < (t104.length : Int)
       ·
        rw [if_pos c84] at H
        have c84b0 : decide ((wrap64 (2 * t129)) < (t104.length : Int)) = true := decide_eq_true c84
        clear c84
        obtain rfl := Option.some.inj H
        obtain ⟨Ao85, co85, eo85⟩ := Kd.R_slice HO_5.out; subst eo85
        try go_wp2
        replace HO_5 := aK (Kd.R_drew HO_5.out); replace HO_7 := aK (Kd.R_drew HO_7.out); replace HO_113002 := aK (Kd.Q_drew HO_113002.out); replace HO_114002 := aK (Kd.Q_drew HO_114002.out); replace BK112 := aK (blk_drew BK112.out); replace BK113 := aK (blk_drew BK113.out); replace BK125 := aK (blk_drew BK125.out); replace HB := aK (below_drew1 HB.out)
        have p127 : 0 ≤ (x11_3 : Int) := of_decide_eq_true (by first | (with_reducible assumption) | assumption)
        have q127 : x11_3 < (t114.length : Int) := of_decide_eq_true (by first | (with_reducible assumption) | assumption)
        obtain ⟨ad127, e127, hx127_0, hx127_1⟩ := at_T33 (Kd.R_reads' HO_5.out).2.2 x11_3 p127 q127; cases e127; replace p127 := eq_true p127; replace q127 := eq_true q127
        refine start_ (n := 14) (S := fun w' => w'.cell? ⟨gb112, 0, none⟩ = some (.int .i64 t102) ∧ w'.cell? ⟨gb112, 1, none⟩ = some (.int .i64 t103) ∧ w'.cell? ⟨gb112, 2, none⟩ = some (.slice Ao13 t104.length co13) ∧ w'.cell? ⟨gb113, 0, none⟩ = some (.int .i64 t107) ∧ w'.cell? ⟨gb113, 1, none⟩ = some (.int .i64 t108) ∧ w'.cell? ⟨gb113, 2, none⟩ = some (.slice Ao16 t109.length co16) ∧ w'.cell? (ad127.add ((x11_3).toNat * 2)) = some (.int .i64 ((rd_T33 t114 x11_3).f0)) ∧ w'.cell? ⟨(ad127.add ((x11_3).toNat * 2)).block, (ad127.add ((x11_3).toNat * 2)).off + 1, none⟩ = some (.int .i64 ((rd_T33 t114 x11_3).f1))) (ds := []) (bz [0, 14]) (by kernel_rfl) rfl rfl (cj3 BK112.out (cj3 BK113.out ⟨hx127_0, hx127_1⟩)) (fun hHeld => ?_); refine with_tabW laws_FnMotion.tab14 laws_FnMotion.bits14 (fun HT_ HW_ => ?_)
        generalize wr.drew = w86 at HO_5 HO_7 HO_113002 HO_114002 BK112 BK113 BK125 HB hx127_0 hx127_1 hHeld ⊢
        refine pz 2 91 [0, 2, 1, 11] HT_.out ?_
        refine pz 3 92 [0, 2, 2, 10] HT_.out ?_
        refine pz 4 93 [0, 2, 3, 9] HT_.out ?_
        refine tk (i := 0) (N := some 89) (bz [1, 1, 3, 9]) rfl rfl HT_.out HW_.out (Or.inl ⟨by rfl, by rintro w' ⟨s0, s1, s2, s3, s4, s5, s6, s7⟩; go_simp; with_reducible rfl⟩) hHeld ?_
        refine tk (i := 1) (N := some 90) (bz [5, 9]) rfl rfl HT_.out HW_.out (Or.inl ⟨by rfl, by rintro w' ⟨s0, s1, s2, s3, s4, s5, s6, s7⟩; go_simp; with_reducible rfl⟩) hHeld ?_
        refine tk (i := 5) (N := some 94) (bz [6, 8]) rfl rfl HT_.out HW_.out (Or.inl ⟨by rfl, by rintro w' ⟨s0, s1, s2, s3, s4, s5, s6, s7⟩; go_simp; with_reducible rfl⟩) hHeld ?_
        refine one_ (i := 6) (N := some 95) (bz [7, 7]) rfl rfl (one_of HT_.out (by kernel_rfl)) (by decide) (fun K hK => ?_)
        refine goes_ Try.func9 (by kernel_rfl) rfl #[.agg #[.int .i64 t102, .int .i64 t103, .slice Ao13 t104.length co13], .agg #[.int .i64 t107, .int .i64 t108, .slice Ao16 t109.length co16], .agg #[.int .i64 ((rd_T33 t114 x11_3).f0), .int .i64 ((rd_T33 t114 x11_3).f1)]] (by rfl) rfl rfl (by (try simp only [List.map_toArray, List.map_cons, List.map_nil]); first | done | rfl | (simp only [List.length_drop, List.length_take]; rfl)) ?_
        with_reducible refine (impl_MatchOf.calls k3 t102 t103 (fun k_ => some k_ = (.slice Ao13 t104.length co13 : Value).ownBlock) _ _ t104 t107 t108 (fun k_ => some k_ = (.slice Ao16 t109.length co16 : Value).ownBlock) _ _ t109 ((rd_T33 t114 x11_3).f0) ((rd_T33 t114 x11_3).f1) t128 t129 true _ ?side1 ?side2 A53.out).mono ?_
        (case side1 => exact Kd.Q_V (Kd.Q_tight rfl (Kd.Q_types (Kd.Q_types (Kd.Q_types (Kd.Q_apart' (Kd.Q_apart' (HO_113002.out) (Kd.R_typed HO_5.out) (by decide)) (Kd.R_typed HO_7.out) (by decide)) BK112.out (by decide)) BK113.out (by decide)) BK125.out (by decide))))
        (case side2 => exact Kd.Q_V (Kd.Q_tight rfl (Kd.Q_types (Kd.Q_types (Kd.Q_types (Kd.Q_apart' (Kd.Q_apart' (HO_114002.out) (Kd.R_typed HO_5.out) (by decide)) (Kd.R_typed HO_7.out) (by decide)) BK112.out (by decide)) BK113.out (by decide)) BK125.out (by decide))))
        rintro e w87 ⟨rfl, hb⟩
        have HS6_ := (hb.cell (World.block_lt_of_cell? _ _ (hHeld.2.2.2.2.2.2.1))).trans (hHeld.2.2.2.2.2.2.1); have HS7_ := (hb.cell (World.block_lt_of_cell? _ _ (hHeld.2.2.2.2.2.2.2))).trans (hHeld.2.2.2.2.2.2.2)
        refine ⟨_, rfl, ?_⟩
        replace HO_5 := aK (Kd.R_below (pR HO_5.out) hb); replace HO_7 := aK (Kd.R_below (pR HO_7.out) hb); replace HO_113002 := aK (Kd.Q_below (pQ HO_113002.out) hb); replace HO_114002 := aK (Kd.Q_below (pQ HO_114002.out) hb); replace BK112 := bB BK112 hb; replace BK113 := bB BK113 hb; replace BK125 := bB BK125 hb; replace HB := bS HB hb
        (try clear hb)
        (try clear hb2)
        (try clear hk)
        (try clear hi)
        refine hK.out _ _ (cj3 BK112.out (cj3 BK113.out ⟨HS6_, HS7_⟩)) (fun hHeld => ?_)
        clear hK K
        refine norm_ (a' := ?_) ?_ ?_
        rotate_left
        ·
         show Act.put _ (some 95) _ = _
         simp only [sP]
         rfl
        refine pz 7 88 [8, 6] HT_.out ?_
        refine pz 8 96 [9, 5] HT_.out ?_
        refine pz 9 97 [10, 4] HT_.out ?_
        refine pz 10 98 [11, 3] HT_.out ?_
        refine pz 11 12 [12, 2] HT_.out ?_
        refine pz 12 13 [13, 1] HT_.out ?_
        refine pz 13 14 [14, 0] HT_.out ?_
        refine done_ (done_of HT_.out (by kernel_rfl)) ?_
        obtain ⟨hnb88, hnc88⟩ := nB NB112_113; obtain ⟨hnb89, hnc89⟩ := nB NB112_125; obtain ⟨z90_0, z90_1, z90_2, y90_0, y90_1, y90_2⟩ := bc3 BK112.out; obtain ⟨hnb91, hnc91⟩ := nB NB113_125; obtain ⟨z92_0, z92_1, z92_2, y92_0, y92_1, y92_2⟩ := bc3 BK113.out; obtain ⟨z93_0, z93_1, y93_0, y93_1⟩ := bc2 BK125.out
        try go_wp2_with (first | ((with_reducible refine gate_callee (f := 9) rfl ?_); refine gl (some 103) Try.func9 #[.agg #[.int .i64 t102, .int .i64 t103, .slice Ao13 t104.length co13], .agg #[.int .i64 t107, .int .i64 t108, .slice Ao16 t109.length co16], .agg #[.int .i64 t122, .int .i64 t123]] ?_; (with_reducible refine (impl_MatchOf.calls k3 t102 t103 (fun k_ => some k_ = (.slice Ao13 t104.length co13 : Value).ownBlock) _ _ t104 t107 t108 (fun k_ => some k_ = (.slice Ao16 t109.length co16 : Value).ownBlock) _ _ t109 t122 t123 t131 t132 true _ ?side1 ?side2 A54.out).mono ?_); (case side1 => exact Kd.Q_V (Kd.Q_tight rfl (Kd.Q_types (Kd.Q_types (Kd.Q_types (Kd.Q_apart' (Kd.Q_apart' (HO_113002.out) (Kd.R_typed HO_5.out) (by decide)) (Kd.R_typed HO_7.out) (by decide)) BK112.out (by decide)) BK113.out (by decide)) BK125.out (by decide)))); (case side2 => exact Kd.Q_V (Kd.Q_tight rfl (Kd.Q_types (Kd.Q_types (Kd.Q_types (Kd.Q_apart' (Kd.Q_apart' (HO_114002.out) (Kd.R_typed HO_5.out) (by decide)) (Kd.R_typed HO_7.out) (by decide)) BK112.out (by decide)) BK113.out (by decide)) BK125.out (by decide)))); rintro e w94 ⟨rfl, hb⟩; refine ⟨_, rfl, ?_⟩; replace HO_5 := aK (Kd.R_below (pR HO_5.out) hb); replace HO_7 := aK (Kd.R_below (pR HO_7.out) hb); replace HO_113002 := aK (Kd.Q_below (pQ HO_113002.out) hb); replace HO_114002 := aK (Kd.Q_below (pQ HO_114002.out) hb); replace BK112 := bB BK112 hb; replace BK113 := bB BK113 hb; replace BK125 := bB BK125 hb; replace HB := bS HB hb; (try clear hb); (try clear hb2); (try clear hk); (try clear hi)))
        replace HO_5 := aK (Kd.R_drew HO_5.out); replace HO_7 := aK (Kd.R_drew HO_7.out); replace HO_113002 := aK (Kd.Q_drew HO_113002.out); replace HO_114002 := aK (Kd.Q_drew HO_114002.out); replace BK112 := aK (blk_drew BK112.out); replace BK113 := aK (blk_drew BK113.out); replace BK125 := aK (blk_drew BK125.out); replace HB := aK (below_drew1 HB.out)
        have p134 : 0 ≤ (x11_3 : Int) := of_decide_eq_true (by first | (with_reducible assumption) | assumption)
        have q134 : x11_3 < (t114.length : Int) := of_decide_eq_true (by first | (with_reducible assumption) | assumption)
        obtain ⟨ad134, e134, hx134_0, hx134_1⟩ := at_T33 (Kd.R_reads' HO_5.out).2.2 x11_3 p134 q134
        obtain rfl : ad127 = ad134 := (by injection e134)
        replace p134 := eq_true p134; replace q134 := eq_true q134; obtain ⟨Ao96, co96, eo96⟩ := Kd.R_slice HO_7.out
        (first | subst eo96 | (obtain ⟨f4_, f5_⟩ := sI eo96; subst f4_; subst f5_))
        have p135 : 0 ≤ (x11_3 : Int) := of_decide_eq_true (by first | (with_reducible assumption) | assumption)
        have q135 : x11_3 < (t118.length : Int) := of_decide_eq_true (by first | (with_reducible assumption) | assumption)
        obtain ⟨ad135, e135, hx135_0, hx135_1⟩ := at_T33 (Kd.R_reads' HO_7.out).2.2 x11_3 p135 q135; cases e135; replace p135 := eq_true p135; replace q135 := eq_true q135
        refine start_ (n := 38) (S := fun w' => w'.cell? ⟨gb112, 0, none⟩ = some (.int .i64 t102) ∧ w'.cell? ⟨gb112, 1, none⟩ = some (.int .i64 t103) ∧ w'.cell? ⟨gb112, 2, none⟩ = some (.slice Ao13 t104.length co13) ∧ w'.cell? (ad127.add ((x11_3).toNat * 2)) = some (.int .i64 ((rd_T33 t114 x11_3).f0)) ∧ w'.cell? ⟨(ad127.add ((x11_3).toNat * 2)).block, (ad127.add ((x11_3).toNat * 2)).off + 1, none⟩ = some (.int .i64 ((rd_T33 t114 x11_3).f1)) ∧ w'.cell? (ad135.add ((x11_3).toNat * 2)) = some (.int .i64 ((rd_T33 t118 x11_3).f0)) ∧ w'.cell? ⟨(ad135.add ((x11_3).toNat * 2)).block, (ad135.add ((x11_3).toNat * 2)).off + 1, none⟩ = some (.int .i64 ((rd_T33 t118 x11_3).f1))) (ds := []) (bz [0, 38]) (by kernel_rfl) rfl rfl (cj3 BK112.out ⟨hx134_0, hx134_1, hx135_0, hx135_1⟩) (fun hHeld => ?_); refine with_tabW laws_FnMotion.tab16 laws_FnMotion.bits16 (fun HT_ HW_ => ?_)
        generalize w94.drew = w95 at HO_5 HO_7 HO_113002 HO_114002 BK112 BK113 BK125 HB hx134_0 hx134_1 hx135_0 hx135_1 hHeld ⊢
        refine pz 0 107 [1, 37] HT_.out ?_
        refine pz 1 108 [2, 36] HT_.out ?_
        refine pz 2 109 [3, 35] HT_.out ?_
        refine pz 4 111 [3, 1, 1, 33] HT_.out ?_
        refine pz 5 112 [3, 1, 2, 32] HT_.out ?_
        refine pz 6 113 [3, 1, 3, 31] HT_.out ?_
        refine tk (i := 3) (N := some 110) (bz [7, 31]) rfl rfl HT_.out HW_.out (Or.inl ⟨by rfl, by rintro w' ⟨s0, s1, s2, s3, s4, s5, s6⟩; go_simp; with_reducible rfl⟩) hHeld ?_
        refine tk (i := 7) (N := some 114) (bz [8, 30]) rfl rfl HT_.out HW_.out (Or.inl ⟨by rfl, by rintro w' ⟨s0, s1, s2, s3, s4, s5, s6⟩; go_simp; with_reducible rfl⟩) hHeld ?_
        refine pz 8 115 [9, 29] HT_.out ?_
        refine pz 9 116 [10, 28] HT_.out ?_
        refine pz 10 117 [11, 27] HT_.out ?_
        refine pz 11 118 [12, 26] HT_.out ?_
        refine pz 12 119 [13, 25] HT_.out ?_
        refine pz 13 120 [14, 24] HT_.out ?_
        refine pz 14 121 [15, 23] HT_.out ?_
        refine pz 15 122 [16, 22] HT_.out ?_
        refine pz 16 123 [17, 21] HT_.out ?_
        refine pz 17 124 [18, 20] HT_.out ?_
        refine pz 18 125 [19, 19] HT_.out ?_
        refine pz 19 126 [20, 18] HT_.out ?_
        refine pz 20 127 [21, 17] HT_.out ?_
        refine pz 21 128 [22, 16] HT_.out ?_
        refine pz 22 129 [23, 15] HT_.out ?_
        refine pz 23 130 [24, 14] HT_.out ?_
        refine pz 24 131 [25, 13] HT_.out ?_
        refine tk (i := 25) (N := some 132) (bz [26, 12]) rfl rfl HT_.out HW_.out (Or.inl ⟨by rfl, by rintro w' ⟨s0, s1, s2, s3, s4, s5, s6⟩; go_simp; with_reducible rfl⟩) hHeld ?_
        refine pz 26 133 [27, 11] HT_.out ?_
        refine pz 27 134 [28, 10] HT_.out ?_
        refine pz 28 135 [29, 9] HT_.out ?_
        refine pz 29 136 [30, 8] HT_.out ?_
        refine pd 30 137 [31, 7] HT_.out ?_
        refine pd 31 138 [32, 6] HT_.out ?_
        refine pd 32 139 [33, 5] HT_.out ?_
        refine pd 33 140 [34, 4] HT_.out ?_
        refine pd 34 141 [35, 3] HT_.out ?_
        refine pd 35 142 [36, 2] HT_.out ?_
        refine pd 36 143 [37, 1] HT_.out ?_
        refine pz 37 144 [38, 0] HT_.out ?_
        refine done_ (done_of HT_.out (by kernel_rfl)) ?_
        try go_wp2
        go_ret
        exact ⟨er, pT HB.out⟩
       rw [if_neg c84] at H
       have c84b0 : decide ((wrap64 (2 * t129)) < (t104.length : Int)) = false := decide_eq_false c84
       clear c84
       by_cases c97 : (wrap64 (t131 * t129)) > (wrap64 (t128 * t132))
       ·
        rw [if_pos c97] at H
        have c97b0 : decide ((wrap64 (t128 * t132)) < (wrap64 (t131 * t129))) = true := decide_eq_true c97
        clear c97
        obtain rfl := Option.some.inj H
        obtain ⟨Ao98, co98, eo98⟩ := Kd.R_slice HO_5.out; subst eo98
        try go_wp2
        replace HO_5 := aK (Kd.R_drew HO_5.out); replace HO_7 := aK (Kd.R_drew HO_7.out); replace HO_113002 := aK (Kd.Q_drew HO_113002.out); replace HO_114002 := aK (Kd.Q_drew HO_114002.out); replace BK112 := aK (blk_drew BK112.out); replace BK113 := aK (blk_drew BK113.out); replace BK125 := aK (blk_drew BK125.out); replace HB := aK (below_drew1 HB.out)
        have p127 : 0 ≤ (x11_3 : Int) := of_decide_eq_true (by first | (with_reducible assumption) | assumption)
        have q127 : x11_3 < (t114.length : Int) := of_decide_eq_true (by first | (with_reducible assumption) | assumption)
        obtain ⟨ad127, e127, hx127_0, hx127_1⟩ := at_T33 (Kd.R_reads' HO_5.out).2.2 x11_3 p127 q127; cases e127; replace p127 := eq_true p127; replace q127 := eq_true q127
        refine start_ (n := 14) (S := fun w' => w'.cell? ⟨gb112, 0, none⟩ = some (.int .i64 t102) ∧ w'.cell? ⟨gb112, 1, none⟩ = some (.int .i64 t103) ∧ w'.cell? ⟨gb112, 2, none⟩ = some (.slice Ao13 t104.length co13) ∧ w'.cell? ⟨gb113, 0, none⟩ = some (.int .i64 t107) ∧ w'.cell? ⟨gb113, 1, none⟩ = some (.int .i64 t108) ∧ w'.cell? ⟨gb113, 2, none⟩ = some (.slice Ao16 t109.length co16) ∧ w'.cell? (ad127.add ((x11_3).toNat * 2)) = some (.int .i64 ((rd_T33 t114 x11_3).f0)) ∧ w'.cell? ⟨(ad127.add ((x11_3).toNat * 2)).block, (ad127.add ((x11_3).toNat * 2)).off + 1, none⟩ = some (.int .i64 ((rd_T33 t114 x11_3).f1))) (ds := []) (bz [0, 14]) (by kernel_rfl) rfl rfl (cj3 BK112.out (cj3 BK113.out ⟨hx127_0, hx127_1⟩)) (fun hHeld => ?_); refine with_tabW laws_FnMotion.tab14 laws_FnMotion.bits14 (fun HT_ HW_ => ?_)
        generalize wr.drew = w99 at HO_5 HO_7 HO_113002 HO_114002 BK112 BK113 BK125 HB hx127_0 hx127_1 hHeld ⊢
        refine pz 2 91 [0, 2, 1, 11] HT_.out ?_
        refine pz 3 92 [0, 2, 2, 10] HT_.out ?_
        refine pz 4 93 [0, 2, 3, 9] HT_.out ?_
        refine tk (i := 0) (N := some 89) (bz [1, 1, 3, 9]) rfl rfl HT_.out HW_.out (Or.inl ⟨by rfl, by rintro w' ⟨s0, s1, s2, s3, s4, s5, s6, s7⟩; go_simp; with_reducible rfl⟩) hHeld ?_
        refine tk (i := 1) (N := some 90) (bz [5, 9]) rfl rfl HT_.out HW_.out (Or.inl ⟨by rfl, by rintro w' ⟨s0, s1, s2, s3, s4, s5, s6, s7⟩; go_simp; with_reducible rfl⟩) hHeld ?_
        refine tk (i := 5) (N := some 94) (bz [6, 8]) rfl rfl HT_.out HW_.out (Or.inl ⟨by rfl, by rintro w' ⟨s0, s1, s2, s3, s4, s5, s6, s7⟩; go_simp; with_reducible rfl⟩) hHeld ?_
        refine one_ (i := 6) (N := some 95) (bz [7, 7]) rfl rfl (one_of HT_.out (by kernel_rfl)) (by decide) (fun K hK => ?_)
        refine goes_ Try.func9 (by kernel_rfl) rfl #[.agg #[.int .i64 t102, .int .i64 t103, .slice Ao13 t104.length co13], .agg #[.int .i64 t107, .int .i64 t108, .slice Ao16 t109.length co16], .agg #[.int .i64 ((rd_T33 t114 x11_3).f0), .int .i64 ((rd_T33 t114 x11_3).f1)]] (by rfl) rfl rfl (by (try simp only [List.map_toArray, List.map_cons, List.map_nil]); first | done | rfl | (simp only [List.length_drop, List.length_take]; rfl)) ?_
        with_reducible refine (impl_MatchOf.calls k3 t102 t103 (fun k_ => some k_ = (.slice Ao13 t104.length co13 : Value).ownBlock) _ _ t104 t107 t108 (fun k_ => some k_ = (.slice Ao16 t109.length co16 : Value).ownBlock) _ _ t109 ((rd_T33 t114 x11_3).f0) ((rd_T33 t114 x11_3).f1) t128 t129 true _ ?side1 ?side2 A53.out).mono ?_
        (case side1 => exact Kd.Q_V (Kd.Q_tight rfl (Kd.Q_types (Kd.Q_types (Kd.Q_types (Kd.Q_apart' (Kd.Q_apart' (HO_113002.out) (Kd.R_typed HO_5.out) (by decide)) (Kd.R_typed HO_7.out) (by decide)) BK112.out (by decide)) BK113.out (by decide)) BK125.out (by decide))))
        (case side2 => exact Kd.Q_V (Kd.Q_tight rfl (Kd.Q_types (Kd.Q_types (Kd.Q_types (Kd.Q_apart' (Kd.Q_apart' (HO_114002.out) (Kd.R_typed HO_5.out) (by decide)) (Kd.R_typed HO_7.out) (by decide)) BK112.out (by decide)) BK113.out (by decide)) BK125.out (by decide))))
        rintro e w100 ⟨rfl, hb⟩
        have HS6_ := (hb.cell (World.block_lt_of_cell? _ _ (hHeld.2.2.2.2.2.2.1))).trans (hHeld.2.2.2.2.2.2.1); have HS7_ := (hb.cell (World.block_lt_of_cell? _ _ (hHeld.2.2.2.2.2.2.2))).trans (hHeld.2.2.2.2.2.2.2)
        refine ⟨_, rfl, ?_⟩
        replace HO_5 := aK (Kd.R_below (pR HO_5.out) hb); replace HO_7 := aK (Kd.R_below (pR HO_7.out) hb); replace HO_113002 := aK (Kd.Q_below (pQ HO_113002.out) hb); replace HO_114002 := aK (Kd.Q_below (pQ HO_114002.out) hb); replace BK112 := bB BK112 hb; replace BK113 := bB BK113 hb; replace BK125 := bB BK125 hb; replace HB := bS HB hb
        (try clear hb)
        (try clear hb2)
        (try clear hk)
        (try clear hi)
        refine hK.out _ _ (cj3 BK112.out (cj3 BK113.out ⟨HS6_, HS7_⟩)) (fun hHeld => ?_)
        clear hK K
        refine norm_ (a' := ?_) ?_ ?_
        rotate_left
        ·
         show Act.put _ (some 95) _ = _
         simp only [sP]
         rfl
        refine pz 7 88 [8, 6] HT_.out ?_
        refine pz 8 96 [9, 5] HT_.out ?_
        refine pz 9 97 [10, 4] HT_.out ?_
        refine pz 10 98 [11, 3] HT_.out ?_
        refine pz 11 12 [12, 2] HT_.out ?_
        refine pz 12 13 [13, 1] HT_.out ?_
        refine pz 13 14 [14, 0] HT_.out ?_
        refine done_ (done_of HT_.out (by kernel_rfl)) ?_
        obtain ⟨hnb101, hnc101⟩ := nB NB112_113; obtain ⟨hnb102, hnc102⟩ := nB NB112_125; obtain ⟨z103_0, z103_1, z103_2, y103_0, y103_1, y103_2⟩ := bc3 BK112.out; obtain ⟨hnb104, hnc104⟩ := nB NB113_125; obtain ⟨z105_0, z105_1, z105_2, y105_0, y105_1, y105_2⟩ := bc3 BK113.out; obtain ⟨z106_0, z106_1, y106_0, y106_1⟩ := bc2 BK125.out
        try go_wp2_with (first | ((with_reducible refine gate_callee (f := 9) rfl ?_); refine gl (some 103) Try.func9 #[.agg #[.int .i64 t102, .int .i64 t103, .slice Ao13 t104.length co13], .agg #[.int .i64 t107, .int .i64 t108, .slice Ao16 t109.length co16], .agg #[.int .i64 t122, .int .i64 t123]] ?_; (with_reducible refine (impl_MatchOf.calls k3 t102 t103 (fun k_ => some k_ = (.slice Ao13 t104.length co13 : Value).ownBlock) _ _ t104 t107 t108 (fun k_ => some k_ = (.slice Ao16 t109.length co16 : Value).ownBlock) _ _ t109 t122 t123 t131 t132 true _ ?side1 ?side2 A54.out).mono ?_); (case side1 => exact Kd.Q_V (Kd.Q_tight rfl (Kd.Q_types (Kd.Q_types (Kd.Q_types (Kd.Q_apart' (Kd.Q_apart' (HO_113002.out) (Kd.R_typed HO_5.out) (by decide)) (Kd.R_typed HO_7.out) (by decide)) BK112.out (by decide)) BK113.out (by decide)) BK125.out (by decide)))); (case side2 => exact Kd.Q_V (Kd.Q_tight rfl (Kd.Q_types (Kd.Q_types (Kd.Q_types (Kd.Q_apart' (Kd.Q_apart' (HO_114002.out) (Kd.R_typed HO_5.out) (by decide)) (Kd.R_typed HO_7.out) (by decide)) BK112.out (by decide)) BK113.out (by decide)) BK125.out (by decide)))); rintro e w107 ⟨rfl, hb⟩; refine ⟨_, rfl, ?_⟩; replace HO_5 := aK (Kd.R_below (pR HO_5.out) hb); replace HO_7 := aK (Kd.R_below (pR HO_7.out) hb); replace HO_113002 := aK (Kd.Q_below (pQ HO_113002.out) hb); replace HO_114002 := aK (Kd.Q_below (pQ HO_114002.out) hb); replace BK112 := bB BK112 hb; replace BK113 := bB BK113 hb; replace BK125 := bB BK125 hb; replace HB := bS HB hb; (try clear hb); (try clear hb2); (try clear hk); (try clear hi)))
        replace HO_5 := aK (Kd.R_drew HO_5.out); replace HO_7 := aK (Kd.R_drew HO_7.out); replace HO_113002 := aK (Kd.Q_drew HO_113002.out); replace HO_114002 := aK (Kd.Q_drew HO_114002.out); replace BK112 := aK (blk_drew BK112.out); replace BK113 := aK (blk_drew BK113.out); replace BK125 := aK (blk_drew BK125.out); replace HB := aK (below_drew1 HB.out)
        have p134 : 0 ≤ (x11_3 : Int) := of_decide_eq_true (by first | (with_reducible assumption) | assumption)
        have q134 : x11_3 < (t114.length : Int) := of_decide_eq_true (by first | (with_reducible assumption) | assumption)
        obtain ⟨ad134, e134, hx134_0, hx134_1⟩ := at_T33 (Kd.R_reads' HO_5.out).2.2 x11_3 p134 q134
        obtain rfl : ad127 = ad134 := (by injection e134)
        replace p134 := eq_true p134; replace q134 := eq_true q134; obtain ⟨Ao109, co109, eo109⟩ := Kd.R_slice HO_7.out
        (first | subst eo109 | (obtain ⟨f4_, f5_⟩ := sI eo109; subst f4_; subst f5_))
        have p135 : 0 ≤ (x11_3 : Int) := of_decide_eq_true (by first | (with_reducible assumption) | assumption)
        have q135 : x11_3 < (t118.length : Int) := of_decide_eq_true (by first | (with_reducible assumption) | assumption)
        obtain ⟨ad135, e135, hx135_0, hx135_1⟩ := at_T33 (Kd.R_reads' HO_7.out).2.2 x11_3 p135 q135; cases e135; replace p135 := eq_true p135; replace q135 := eq_true q135
        refine start_ (n := 38) (S := fun w' => w'.cell? ⟨gb112, 0, none⟩ = some (.int .i64 t102) ∧ w'.cell? ⟨gb112, 1, none⟩ = some (.int .i64 t103) ∧ w'.cell? ⟨gb112, 2, none⟩ = some (.slice Ao13 t104.length co13) ∧ w'.cell? (ad127.add ((x11_3).toNat * 2)) = some (.int .i64 ((rd_T33 t114 x11_3).f0)) ∧ w'.cell? ⟨(ad127.add ((x11_3).toNat * 2)).block, (ad127.add ((x11_3).toNat * 2)).off + 1, none⟩ = some (.int .i64 ((rd_T33 t114 x11_3).f1)) ∧ w'.cell? (ad135.add ((x11_3).toNat * 2)) = some (.int .i64 ((rd_T33 t118 x11_3).f0)) ∧ w'.cell? ⟨(ad135.add ((x11_3).toNat * 2)).block, (ad135.add ((x11_3).toNat * 2)).off + 1, none⟩ = some (.int .i64 ((rd_T33 t118 x11_3).f1))) (ds := []) (bz [0, 38]) (by kernel_rfl) rfl rfl (cj3 BK112.out ⟨hx134_0, hx134_1, hx135_0, hx135_1⟩) (fun hHeld => ?_); refine with_tabW laws_FnMotion.tab16 laws_FnMotion.bits16 (fun HT_ HW_ => ?_)
        generalize w107.drew = w108 at HO_5 HO_7 HO_113002 HO_114002 BK112 BK113 BK125 HB hx134_0 hx134_1 hx135_0 hx135_1 hHeld ⊢
        refine pz 0 107 [1, 37] HT_.out ?_
        refine pz 1 108 [2, 36] HT_.out ?_
        refine pz 2 109 [3, 35] HT_.out ?_
        refine pz 4 111 [3, 1, 1, 33] HT_.out ?_
        refine pz 5 112 [3, 1, 2, 32] HT_.out ?_
        refine pz 6 113 [3, 1, 3, 31] HT_.out ?_
        refine tk (i := 3) (N := some 110) (bz [7, 31]) rfl rfl HT_.out HW_.out (Or.inl ⟨by rfl, by rintro w' ⟨s0, s1, s2, s3, s4, s5, s6⟩; go_simp; with_reducible rfl⟩) hHeld ?_
        refine tk (i := 7) (N := some 114) (bz [8, 30]) rfl rfl HT_.out HW_.out (Or.inl ⟨by rfl, by rintro w' ⟨s0, s1, s2, s3, s4, s5, s6⟩; go_simp; with_reducible rfl⟩) hHeld ?_
        refine pz 8 115 [9, 29] HT_.out ?_
        refine pz 9 116 [10, 28] HT_.out ?_
        refine pz 10 117 [11, 27] HT_.out ?_
        refine pz 11 118 [12, 26] HT_.out ?_
        refine pz 12 119 [13, 25] HT_.out ?_
        refine pz 13 120 [14, 24] HT_.out ?_
        refine pz 14 121 [15, 23] HT_.out ?_
        refine pz 15 122 [16, 22] HT_.out ?_
        refine pz 16 123 [17, 21] HT_.out ?_
        refine pz 17 124 [18, 20] HT_.out ?_
        refine pz 18 125 [19, 19] HT_.out ?_
        refine pz 19 126 [20, 18] HT_.out ?_
        refine pz 20 127 [21, 17] HT_.out ?_
        refine pz 21 128 [22, 16] HT_.out ?_
        refine pz 22 129 [23, 15] HT_.out ?_
        refine pz 23 130 [24, 14] HT_.out ?_
        refine pz 24 131 [25, 13] HT_.out ?_
        refine tk (i := 25) (N := some 132) (bz [26, 12]) rfl rfl HT_.out HW_.out (Or.inl ⟨by rfl, by rintro w' ⟨s0, s1, s2, s3, s4, s5, s6⟩; go_simp; with_reducible rfl⟩) hHeld ?_
        refine pz 26 133 [27, 11] HT_.out ?_
        refine pz 27 134 [28, 10] HT_.out ?_
        refine pz 28 135 [29, 9] HT_.out ?_
        refine pz 29 136 [30, 8] HT_.out ?_
        refine pz 30 137 [31, 7] HT_.out ?_
        refine pz 31 138 [32, 6] HT_.out ?_
        refine pz 32 139 [33, 5] HT_.out ?_
        refine pz 33 140 [34, 4] HT_.out ?_
        refine pz 34 141 [35, 3] HT_.out ?_
        refine pz 35 142 [36, 2] HT_.out ?_
        refine pz 36 143 [37, 1] HT_.out ?_
        refine pz 37 144 [38, 0] HT_.out ?_
        refine done_ (done_of HT_.out (by kernel_rfl)) ?_
        try go_wp2
        go_ret
        exact ⟨er, pT HB.out⟩
       rw [if_neg c97] at H
       have c97b0 : decide ((wrap64 (t128 * t132)) < (wrap64 (t131 * t129))) = false := decide_eq_false c97
       clear c97; have H' := Aside0.mk H; clear H; obtain ⟨Ao110, co110, eo110⟩ := Kd.R_slice HO_5.out; subst eo110
       try go_wp2
       replace HO_5 := aK (Kd.R_drew HO_5.out); replace HO_7 := aK (Kd.R_drew HO_7.out); replace HO_113002 := aK (Kd.Q_drew HO_113002.out); replace HO_114002 := aK (Kd.Q_drew HO_114002.out); replace BK112 := aK (blk_drew BK112.out); replace BK113 := aK (blk_drew BK113.out); replace BK125 := aK (blk_drew BK125.out); replace HB := aK (below_drew1 HB.out)
       have p127 : 0 ≤ (x11_3 : Int) := of_decide_eq_true (by first | (with_reducible assumption) | assumption)
       have q127 : x11_3 < (t114.length : Int) := of_decide_eq_true (by first | (with_reducible assumption) | assumption)
       obtain ⟨ad127, e127, hx127_0, hx127_1⟩ := at_T33 (Kd.R_reads' HO_5.out).2.2 x11_3 p127 q127; cases e127; replace p127 := eq_true p127; replace q127 := eq_true q127
       refine start_ (n := 14) (S := fun w' => w'.cell? ⟨gb112, 0, none⟩ = some (.int .i64 t102) ∧ w'.cell? ⟨gb112, 1, none⟩ = some (.int .i64 t103) ∧ w'.cell? ⟨gb112, 2, none⟩ = some (.slice Ao13 t104.length co13) ∧ w'.cell? ⟨gb113, 0, none⟩ = some (.int .i64 t107) ∧ w'.cell? ⟨gb113, 1, none⟩ = some (.int .i64 t108) ∧ w'.cell? ⟨gb113, 2, none⟩ = some (.slice Ao16 t109.length co16) ∧ w'.cell? (ad127.add ((x11_3).toNat * 2)) = some (.int .i64 ((rd_T33 t114 x11_3).f0)) ∧ w'.cell? ⟨(ad127.add ((x11_3).toNat * 2)).block, (ad127.add ((x11_3).toNat * 2)).off + 1, none⟩ = some (.int .i64 ((rd_T33 t114 x11_3).f1))) (ds := []) (bz [0, 14]) (by kernel_rfl) rfl rfl (cj3 BK112.out (cj3 BK113.out ⟨hx127_0, hx127_1⟩)) (fun hHeld => ?_); refine with_tabW laws_FnMotion.tab14 laws_FnMotion.bits14 (fun HT_ HW_ => ?_)
       generalize wr.drew = w111 at HO_5 HO_7 HO_113002 HO_114002 BK112 BK113 BK125 HB hx127_0 hx127_1 hHeld ⊢
       refine pz 2 91 [0, 2, 1, 11] HT_.out ?_
       refine pz 3 92 [0, 2, 2, 10] HT_.out ?_
       refine pz 4 93 [0, 2, 3, 9] HT_.out ?_
       refine tk (i := 0) (N := some 89) (bz [1, 1, 3, 9]) rfl rfl HT_.out HW_.out (Or.inl ⟨by rfl, by rintro w' ⟨s0, s1, s2, s3, s4, s5, s6, s7⟩; go_simp; with_reducible rfl⟩) hHeld ?_
       refine tk (i := 1) (N := some 90) (bz [5, 9]) rfl rfl HT_.out HW_.out (Or.inl ⟨by rfl, by rintro w' ⟨s0, s1, s2, s3, s4, s5, s6, s7⟩; go_simp; with_reducible rfl⟩) hHeld ?_
       refine tk (i := 5) (N := some 94) (bz [6, 8]) rfl rfl HT_.out HW_.out (Or.inl ⟨by rfl, by rintro w' ⟨s0, s1, s2, s3, s4, s5, s6, s7⟩; go_simp; with_reducible rfl⟩) hHeld ?_
       refine one_ (i := 6) (N := some 95) (bz [7, 7]) rfl rfl (one_of HT_.out (by kernel_rfl)) (by decide) (fun K hK => ?_)
       refine goes_ Try.func9 (by kernel_rfl) rfl #[.agg #[.int .i64 t102, .int .i64 t103, .slice Ao13 t104.length co13], .agg #[.int .i64 t107, .int .i64 t108, .slice Ao16 t109.length co16], .agg #[.int .i64 ((rd_T33 t114 x11_3).f0), .int .i64 ((rd_T33 t114 x11_3).f1)]] (by rfl) rfl rfl (by (try simp only [List.map_toArray, List.map_cons, List.map_nil]); first | done | rfl | (simp only [List.length_drop, List.length_take]; rfl)) ?_
       with_reducible refine (impl_MatchOf.calls k3 t102 t103 (fun k_ => some k_ = (.slice Ao13 t104.length co13 : Value).ownBlock) _ _ t104 t107 t108 (fun k_ => some k_ = (.slice Ao16 t109.length co16 : Value).ownBlock) _ _ t109 ((rd_T33 t114 x11_3).f0) ((rd_T33 t114 x11_3).f1) t128 t129 true _ ?side1 ?side2 A53.out).mono ?_
       (case side1 => exact Kd.Q_V (Kd.Q_tight rfl (Kd.Q_types (Kd.Q_types (Kd.Q_types (Kd.Q_apart' (Kd.Q_apart' (HO_113002.out) (Kd.R_typed HO_5.out) (by decide)) (Kd.R_typed HO_7.out) (by decide)) BK112.out (by decide)) BK113.out (by decide)) BK125.out (by decide))))
       (case side2 => exact Kd.Q_V (Kd.Q_tight rfl (Kd.Q_types (Kd.Q_types (Kd.Q_types (Kd.Q_apart' (Kd.Q_apart' (HO_114002.out) (Kd.R_typed HO_5.out) (by decide)) (Kd.R_typed HO_7.out) (by decide)) BK112.out (by decide)) BK113.out (by decide)) BK125.out (by decide))))
       rintro e w112 ⟨rfl, hb⟩
       have HS6_ := (hb.cell (World.block_lt_of_cell? _ _ (hHeld.2.2.2.2.2.2.1))).trans (hHeld.2.2.2.2.2.2.1); have HS7_ := (hb.cell (World.block_lt_of_cell? _ _ (hHeld.2.2.2.2.2.2.2))).trans (hHeld.2.2.2.2.2.2.2)
       refine ⟨_, rfl, ?_⟩
       replace HO_5 := aK (Kd.R_below (pR HO_5.out) hb); replace HO_7 := aK (Kd.R_below (pR HO_7.out) hb); replace HO_113002 := aK (Kd.Q_below (pQ HO_113002.out) hb); replace HO_114002 := aK (Kd.Q_below (pQ HO_114002.out) hb); replace BK112 := bB BK112 hb; replace BK113 := bB BK113 hb; replace BK125 := bB BK125 hb; replace HB := bS HB hb
       (try clear hb)
       (try clear hb2)
       (try clear hk)
       (try clear hi)
       refine hK.out _ _ (cj3 BK112.out (cj3 BK113.out ⟨HS6_, HS7_⟩)) (fun hHeld => ?_)
       clear hK K
       refine norm_ (a' := ?_) ?_ ?_
       rotate_left
       ·
        show Act.put _ (some 95) _ = _
        simp only [sP]
        rfl
       refine pz 7 88 [8, 6] HT_.out ?_
       refine pz 8 96 [9, 5] HT_.out ?_
       refine pz 9 97 [10, 4] HT_.out ?_
       refine pz 10 98 [11, 3] HT_.out ?_
       refine pz 11 12 [12, 2] HT_.out ?_
       refine pz 12 13 [13, 1] HT_.out ?_
       refine pz 13 14 [14, 0] HT_.out ?_
       refine done_ (done_of HT_.out (by kernel_rfl)) ?_
       obtain ⟨hnb113, hnc113⟩ := nB NB112_113; obtain ⟨hnb114, hnc114⟩ := nB NB112_125; obtain ⟨z115_0, z115_1, z115_2, y115_0, y115_1, y115_2⟩ := bc3 BK112.out; obtain ⟨hnb116, hnc116⟩ := nB NB113_125; obtain ⟨z117_0, z117_1, z117_2, y117_0, y117_1, y117_2⟩ := bc3 BK113.out; obtain ⟨z118_0, z118_1, y118_0, y118_1⟩ := bc2 BK125.out
       try go_wp2_with (first | ((with_reducible refine gate_callee (f := 9) rfl ?_); refine gl (some 103) Try.func9 #[.agg #[.int .i64 t102, .int .i64 t103, .slice Ao13 t104.length co13], .agg #[.int .i64 t107, .int .i64 t108, .slice Ao16 t109.length co16], .agg #[.int .i64 t122, .int .i64 t123]] ?_; (with_reducible refine (impl_MatchOf.calls k3 t102 t103 (fun k_ => some k_ = (.slice Ao13 t104.length co13 : Value).ownBlock) _ _ t104 t107 t108 (fun k_ => some k_ = (.slice Ao16 t109.length co16 : Value).ownBlock) _ _ t109 t122 t123 t131 t132 true _ ?side1 ?side2 A54.out).mono ?_); (case side1 => exact Kd.Q_V (Kd.Q_tight rfl (Kd.Q_types (Kd.Q_types (Kd.Q_types (Kd.Q_apart' (Kd.Q_apart' (HO_113002.out) (Kd.R_typed HO_5.out) (by decide)) (Kd.R_typed HO_7.out) (by decide)) BK112.out (by decide)) BK113.out (by decide)) BK125.out (by decide)))); (case side2 => exact Kd.Q_V (Kd.Q_tight rfl (Kd.Q_types (Kd.Q_types (Kd.Q_types (Kd.Q_apart' (Kd.Q_apart' (HO_114002.out) (Kd.R_typed HO_5.out) (by decide)) (Kd.R_typed HO_7.out) (by decide)) BK112.out (by decide)) BK113.out (by decide)) BK125.out (by decide)))); rintro e w119 ⟨rfl, hb⟩; refine ⟨_, rfl, ?_⟩; replace HO_5 := aK (Kd.R_below (pR HO_5.out) hb); replace HO_7 := aK (Kd.R_below (pR HO_7.out) hb); replace HO_113002 := aK (Kd.Q_below (pQ HO_113002.out) hb); replace HO_114002 := aK (Kd.Q_below (pQ HO_114002.out) hb); replace BK112 := bB BK112 hb; replace BK113 := bB BK113 hb; replace BK125 := bB BK125 hb; replace HB := bS HB hb; (try clear hb); (try clear hb2); (try clear hk); (try clear hi)))
       replace HO_5 := aK (Kd.R_drew HO_5.out); replace HO_7 := aK (Kd.R_drew HO_7.out); replace HO_113002 := aK (Kd.Q_drew HO_113002.out); replace HO_114002 := aK (Kd.Q_drew HO_114002.out); replace BK112 := aK (blk_drew BK112.out); replace BK113 := aK (blk_drew BK113.out); replace BK125 := aK (blk_drew BK125.out); replace HB := aK (below_drew1 HB.out)
       have p134 : 0 ≤ (x11_3 : Int) := of_decide_eq_true (by first | (with_reducible assumption) | assumption)
       have q134 : x11_3 < (t114.length : Int) := of_decide_eq_true (by first | (with_reducible assumption) | assumption)
       obtain ⟨ad134, e134, hx134_0, hx134_1⟩ := at_T33 (Kd.R_reads' HO_5.out).2.2 x11_3 p134 q134
       obtain rfl : ad127 = ad134 := (by injection e134)
       replace p134 := eq_true p134; replace q134 := eq_true q134; obtain ⟨Ao121, co121, eo121⟩ := Kd.R_slice HO_7.out
       (first | subst eo121 | (obtain ⟨f4_, f5_⟩ := sI eo121; subst f4_; subst f5_))
       have p135 : 0 ≤ (x11_3 : Int) := of_decide_eq_true (by first | (with_reducible assumption) | assumption)
       have q135 : x11_3 < (t118.length : Int) := of_decide_eq_true (by first | (with_reducible assumption) | assumption)
       obtain ⟨ad135, e135, hx135_0, hx135_1⟩ := at_T33 (Kd.R_reads' HO_7.out).2.2 x11_3 p135 q135; cases e135; replace p135 := eq_true p135; replace q135 := eq_true q135
       refine start_ (n := 38) (S := fun w' => w'.cell? ⟨gb112, 0, none⟩ = some (.int .i64 t102) ∧ w'.cell? ⟨gb112, 1, none⟩ = some (.int .i64 t103) ∧ w'.cell? ⟨gb112, 2, none⟩ = some (.slice Ao13 t104.length co13) ∧ w'.cell? (ad127.add ((x11_3).toNat * 2)) = some (.int .i64 ((rd_T33 t114 x11_3).f0)) ∧ w'.cell? ⟨(ad127.add ((x11_3).toNat * 2)).block, (ad127.add ((x11_3).toNat * 2)).off + 1, none⟩ = some (.int .i64 ((rd_T33 t114 x11_3).f1)) ∧ w'.cell? (ad135.add ((x11_3).toNat * 2)) = some (.int .i64 ((rd_T33 t118 x11_3).f0)) ∧ w'.cell? ⟨(ad135.add ((x11_3).toNat * 2)).block, (ad135.add ((x11_3).toNat * 2)).off + 1, none⟩ = some (.int .i64 ((rd_T33 t118 x11_3).f1))) (ds := []) (bz [0, 38]) (by kernel_rfl) rfl rfl (cj3 BK112.out ⟨hx134_0, hx134_1, hx135_0, hx135_1⟩) (fun hHeld => ?_); refine with_tabW laws_FnMotion.tab16 laws_FnMotion.bits16 (fun HT_ HW_ => ?_)
       generalize w119.drew = w120 at HO_5 HO_7 HO_113002 HO_114002 BK112 BK113 BK125 HB hx134_0 hx134_1 hx135_0 hx135_1 hHeld ⊢
       refine pz 0 107 [1, 37] HT_.out ?_
       refine pz 1 108 [2, 36] HT_.out ?_
       refine pz 2 109 [3, 35] HT_.out ?_
       refine pz 4 111 [3, 1, 1, 33] HT_.out ?_
       refine pz 5 112 [3, 1, 2, 32] HT_.out ?_
       refine pz 6 113 [3, 1, 3, 31] HT_.out ?_
       refine tk (i := 3) (N := some 110) (bz [7, 31]) rfl rfl HT_.out HW_.out (Or.inl ⟨by rfl, by rintro w' ⟨s0, s1, s2, s3, s4, s5, s6⟩; go_simp; with_reducible rfl⟩) hHeld ?_
       refine tk (i := 7) (N := some 114) (bz [8, 30]) rfl rfl HT_.out HW_.out (Or.inl ⟨by rfl, by rintro w' ⟨s0, s1, s2, s3, s4, s5, s6⟩; go_simp; with_reducible rfl⟩) hHeld ?_
       refine pz 8 115 [9, 29] HT_.out ?_
       refine pz 9 116 [10, 28] HT_.out ?_
       refine pz 10 117 [11, 27] HT_.out ?_
       refine pz 11 118 [12, 26] HT_.out ?_
       refine pz 12 119 [13, 25] HT_.out ?_
       refine pz 13 120 [14, 24] HT_.out ?_
       refine pz 14 121 [15, 23] HT_.out ?_
       refine pz 15 122 [16, 22] HT_.out ?_
       refine pz 16 123 [17, 21] HT_.out ?_
       refine pz 17 124 [18, 20] HT_.out ?_
       refine pz 18 125 [19, 19] HT_.out ?_
       refine pz 19 126 [20, 18] HT_.out ?_
       refine pz 20 127 [21, 17] HT_.out ?_
       refine pz 21 128 [22, 16] HT_.out ?_
       refine pz 22 129 [23, 15] HT_.out ?_
       refine pz 23 130 [24, 14] HT_.out ?_
       refine pz 24 131 [25, 13] HT_.out ?_
       refine tk (i := 25) (N := some 132) (bz [26, 12]) rfl rfl HT_.out HW_.out (Or.inl ⟨by rfl, by rintro w' ⟨s0, s1, s2, s3, s4, s5, s6⟩; go_simp; with_reducible rfl⟩) hHeld ?_
       refine pz 26 133 [27, 11] HT_.out ?_
       refine pz 27 134 [28, 10] HT_.out ?_
       refine pz 28 135 [29, 9] HT_.out ?_
       refine pz 29 136 [30, 8] HT_.out ?_
       refine pz 30 137 [31, 7] HT_.out ?_
       refine pz 31 138 [32, 6] HT_.out ?_
       refine pz 32 139 [33, 5] HT_.out ?_
       refine pz 33 140 [34, 4] HT_.out ?_
       refine pz 34 141 [35, 3] HT_.out ?_
       refine pz 35 142 [36, 2] HT_.out ?_
       refine pz 36 143 [37, 1] HT_.out ?_
       refine pz 37 144 [38, 0] HT_.out ?_
       refine done_ (done_of HT_.out (by kernel_rfl)) ?_
       try go_wp2
       go_roundg k3
       case measure => have := HJ6.out; have := HJ28.out; have := HK3.out; omega
       case rel => exact ⟨(wrap64 (x11_3 + 1)), (by first | rfl | (simp; done) | (simp [*]; done)), H', ⟨by have := HJ6.out; have := HJ28.out; have := HK3.out; omega⟩, ⟨pR HO_5.out⟩, ⟨pR HO_7.out⟩, ⟨pQ HO_113002.out⟩, ⟨pQ HO_114002.out⟩, ⟨by refine bk ?_; exact BK112.out⟩, ⟨by refine bk ?_; exact BK113.out⟩, ⟨by refine bk ?_; exact BK125.out⟩, ⟨pT HB.out⟩⟩
def laws_FnMotion.Pure : Prop := ∀ (l0 : List Int), (l0.length ≤ 9223372036854775807 ∧ ∀ z0 ∈ l0, (Lit.int .u8 z0).wf = true) → l0.length * 1 ≤ 140737488351232 → ∃ k, laws_FnMotion.f k l0 = some true
end Go.Proofs.Ytmkdiliemiobeaa.P
