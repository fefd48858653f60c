/- Texts of the claim FnExactAddTallies, merged: part 4 of 5: the program's and the reference's functions as Lean functions, the walks that show it, and plain lemmas; no conditions. -/
import Derived.Test.YthekngnkajjhnaaKFnExactAddTallies2
import Derived.Test.YthekngnkajjhnaaKFnExactAddTallies3
namespace Go.Proofs.Ythekngnkajjhnaa.P
open Go.RowKit Go.Proofs.YthekngnkajjhnaaW.PrintWords Go.Proofs.YthekngnkajjhnaaW.PrintLast Go.Proofs.YthekngnkajjhnaaW.PrintMore
attribute [local go_sem] max2_int min2_int max_two min_two max_three min_three max_four min_four
set_option linter.unusedVariables false
set_option linter.unusedSimpArgs false
mutual
def laws_FnExactAddTallies.j0 : Nat → Bool → Bool → Bool → List Int → List Int → List Int → List Int → List Int → List Int → List Int → List Int → List Int → List Int → List Int → List Int → Option (Bool)
 | 0, _, _, _, _, _, _, _, _, _, _, _, _, _, _, _ => none
 | k + 1, x7, x11, x53, x102000, x102001, x103000, x103001, x125000, x125001, x132000, x132001, x139000, x139001, x147000, x147001 => if x53 = true then (some false) else ((laws_toTally.f k x102000 x102001).bind fun bt148 => ((laws_eqTally.f k x132000 x132001 bt148.1 bt148.2).bind fun t154 => (if t154 = true then ((laws_toTally.f k x103000 x103001).bind fun bt155 => ((laws_eqTally.f k x139000 x139001 bt155.1 bt155.2).bind fun t161 => (if t161 = true then ((laws_markTally.f k x132000 x132001 1).bind fun bt162 => ((laws_markTally.f k x139000 x139001 bt162.1).bind fun bt165 => (if bt165.1 < 0 then (laws_FnExactAddTallies.j1 k x7 true x102000 x102001 x103000 x103001 x125000 x125001 x147000 x147001) else ((laws_eqTally.f k x147000 x147001 x125000 x125001).bind fun t168 => (if t168 = true then (laws_FnExactAddTallies.j1 k x7 (x11 != x7) x102000 x102001 x103000 x103001 x125000 x125001 x147000 x147001) else (laws_FnExactAddTallies.j1 k x7 true x102000 x102001 x103000 x103001 x125000 x125001 x147000 x147001)))))) else (some false)))) else (some false))))
def laws_FnExactAddTallies.j1 : Nat → Bool → Bool → List Int → List Int → List Int → List Int → List Int → List Int → List Int → List Int → Option (Bool)
 | 0, _, _, _, _, _, _, _, _, _, _ => none
 | k + 1, x7, x82, x102000, x102001, x103000, x103001, x125000, x125001, x147000, x147001 => if x82 = true then (some false) else ((laws_markTally.f k x147000 x147001 1).bind fun bt169 => ((laws_heldTally.f k bt169.2.1 bt169.2.2 1).bind fun t172 => (if t172 < 0 then (some false) else (if t172 = bt169.1 then ((laws_toTally.f k x102000 x102001).bind fun bt173 => ((laws_toTally.f k x103000 x103001).bind fun bt179 => ((impl_AddTallies.f k bt173.1 bt173.2 bt179.1 bt179.2).bind fun bt185 => ((laws_eqTally.f k bt185.1 bt185.2.1 x125000 x125001).bind fun t193 => (if t193 = true then (laws_FnExactAddTallies.j2 k bt169.1 (bt185.2.2 != x7) bt169.2.1 bt169.2.2) else (laws_FnExactAddTallies.j2 k bt169.1 true bt169.2.1 bt169.2.2)))))) else (some false)))))
def laws_FnExactAddTallies.j2 : Nat → Int → Bool → List Int → List Int → Option (Bool)
 | 0, _, _, _, _ => none
 | k + 1, x13, x110, x147000, x147001 => if x110 = true then (some false) else ((laws_heldTally.f k x147000 x147001 1).bind fun t194 => (if t194 < 0 then (some false) else (if t194 = x13 then (some true) else (some false))))
end
def laws_FnExactAddTallies.f (k : Nat) (l0_0 : List Int) (l0_1 : List Int) (l1_0 : List Int) (l1_1 : List Int) : Option (Bool) := (laws_szTally.f l0_0 l0_1 1048576).bind fun t103 => (if t103 < 0 then (some true) else ((laws_szTally.f l1_0 l1_1 t103).bind fun t104 => (if t104 < 0 then (some true) else ((laws_toTally.f k l0_0 l0_1).bind fun bt105 => ((laws_toTally.f k l1_0 l1_1).bind fun bt111 => ((spec_AddTallies.f k bt105.1 bt105.2 bt111.1 bt111.2).bind fun bt117 => ((laws_toTally.f k l0_0 l0_1).bind fun bt125 => ((laws_toTally.f k l1_0 l1_1).bind fun bt132 => ((impl_AddTallies.f k bt125.1 bt125.2 bt132.1 bt132.2).bind fun bt139 => ((laws_eqTally.f k bt139.1 bt139.2.1 bt117.1 bt117.2.1).bind fun t147 => (if t147 = true then (laws_FnExactAddTallies.j0 k bt117.2.2 bt139.2.2 (bt139.2.2 != bt117.2.2) l0_0 l0_1 l1_0 l1_1 bt117.1 bt117.2.1 bt125.1 bt125.2 bt132.1 bt132.2 bt139.1 bt139.2.1) else (laws_FnExactAddTallies.j0 k bt117.2.2 bt139.2.2 true l0_0 l0_1 l1_0 l1_1 bt117.1 bt117.2.1 bt125.1 bt125.2 bt132.1 bt132.2 bt139.1 bt139.2.1))))))))))))
def laws_FnExactAddTallies.T8 : Bool × List (List Nat × List Nat) := (true, [([], []), ([0], [0]), ([], []), ([2, 1], [2]), ([1, 3, 3], [1, 3]), ([4], [4]), ([5], [5]), ([5], [5]), ([], []), ([8, 6, 4, 0, 1, 2, 3, 4, 5, 6, 8], [6, 8]), ([7, 9, 0, 1, 2, 3, 4, 5, 6, 7, 8, 9], [7])])
def laws_FnExactAddTallies.B8 : List Nat := [0, 1, 0, 7, 15, 31, 63, 63, 0, 383, 1023]
theorem laws_FnExactAddTallies.tab8 : rtab .any (opsOf Try.f5 8) = laws_FnExactAddTallies.T8 := by kernel_rfl
theorem laws_FnExactAddTallies.bits8 : waitsOk laws_FnExactAddTallies.T8.2 laws_FnExactAddTallies.B8 = true := by kernel_rfl
def laws_FnExactAddTallies.T31 : Bool × List (List Nat × List Nat) := (true, [([], []), ([0], [0]), ([], []), ([2, 1], [2]), ([1, 3, 3], [1, 3]), ([4], [4]), ([5], [5]), ([5], [5]), ([], []), ([8, 6, 4, 0, 1, 2, 3, 4, 5, 6, 8], [6, 8]), ([7, 9, 0, 1, 2, 3, 4, 5, 6, 7, 8, 9], [7])])
def laws_FnExactAddTallies.B31 : List Nat := [0, 1, 0, 7, 15, 31, 63, 63, 0, 383, 1023]
theorem laws_FnExactAddTallies.tab31 : rtab .any (opsOf Try.f5 31) = laws_FnExactAddTallies.T31 := by kernel_rfl
theorem laws_FnExactAddTallies.bits31 : waitsOk laws_FnExactAddTallies.T31.2 laws_FnExactAddTallies.B31 = true := by kernel_rfl
set_option maxHeartbeats 8000000 in
set_option maxRecDepth 100000 in
theorem laws_FnExactAddTallies.calls (k : Nat) (A0_0 : Option Addr) (c0_0 : Nat) (l0_0 : List Int) (A0_1 : Option Addr) (c0_1 : Nat) (l0_1 : List Int) (A1_0 : Option Addr) (c1_0 : Nat) (l1_0 : List Int) (A1_1 : Option Addr) (c1_1 : Nat) (l1_1 : List Int) (r : Bool) (w : World) (hr0_0 : Kd.C (Kd.int .i64) w A0_0 l0_0.length l0_0) (hc0_0 : l0_0.length ≤ c0_0) (hr0_1 : Kd.C (Kd.int .i64) w A0_1 l0_1.length l0_1) (hc0_1 : l0_1.length ≤ c0_1) (hr1_0 : Kd.C (Kd.int .i64) w A1_0 l1_0.length l1_0) (hc1_0 : l1_0.length ≤ c1_0) (hr1_1 : Kd.C (Kd.int .i64) w A1_1 l1_1.length l1_1) (hc1_1 : l1_1.length ≤ c1_1) (h : laws_FnExactAddTallies.f k l0_0 l0_1 l1_0 l1_1 = some r) :
  Calls Try.prog 5 #[.agg #[.slice A0_0 l0_0.length c0_0, .slice A0_1 l0_1.length c0_1], .agg #[.slice A1_0 l1_0.length c1_0, .slice A1_1 l1_1.length c1_1]] w fun e w' => e = .returned (.bool r) ∧ Below w.heap.size w w' := by
 have hu42 := Try.underlying42
 have hu44 := Try.underlying44
 have HR0_0 := Aside0.mk hr0_0
 have HC0_0 := Aside0.mk hc0_0
 clear hr0_0 hc0_0
 have HR0_1 := Aside0.mk hr0_1
 have HC0_1 := Aside0.mk hc0_1
 clear hr0_1 hc0_1
 have HR1_0 := Aside0.mk hr1_0
 have HC1_0 := Aside0.mk hc1_0
 clear hr1_0 hc1_0
 have HR1_1 := Aside0.mk hr1_1
 have HC1_1 := Aside0.mk hc1_1
 clear hr1_1 hc1_1
 have HB := aK (Below.refl w.heap.size w)
 have H : ((laws_szTally.f l0_0 l0_1 1048576).bind fun t103 => (if t103 < 0 then (some true) else ((laws_szTally.f l1_0 l1_1 t103).bind fun t104 => (if t104 < 0 then (some true) else ((laws_toTally.f k l0_0 l0_1).bind fun bt105 => ((laws_toTally.f k l1_0 l1_1).bind fun bt111 => ((spec_AddTallies.f k bt105.1 bt105.2 bt111.1 bt111.2).bind fun bt117 => ((laws_toTally.f k l0_0 l0_1).bind fun bt125 => ((laws_toTally.f k l1_0 l1_1).bind fun bt132 => ((impl_AddTallies.f k bt125.1 bt125.2 bt132.1 bt132.2).bind fun bt139 => ((laws_eqTally.f k bt139.1 bt139.2.1 bt117.1 bt117.2.1).bind fun t147 => (if t147 = true then (laws_FnExactAddTallies.j0 k bt117.2.2 bt139.2.2 (bt139.2.2 != bt117.2.2) l0_0 l0_1 l1_0 l1_1 bt117.1 bt117.2.1 bt125.1 bt125.2 bt132.1 bt132.2 bt139.1 bt139.2.1) else (laws_FnExactAddTallies.j0 k bt117.2.2 bt139.2.2 true l0_0 l0_1 l1_0 l1_1 bt117.1 bt117.2.1 bt125.1 bt125.2 bt132.1 bt132.2 bt139.1 bt139.2.1))))))))))))) = some r := h
 clear h
 replace H := Option.bind_eq_some_iff.mp H
 obtain ⟨t103, A30, H⟩ := H
 replace H : (if t103 < 0 then (some true) else ((laws_szTally.f l1_0 l1_1 t103).bind fun t104 => (if t104 < 0 then (some true) else ((laws_toTally.f k l0_0 l0_1).bind fun bt105 => ((laws_toTally.f k l1_0 l1_1).bind fun bt111 => ((spec_AddTallies.f k bt105.1 bt105.2 bt111.1 bt111.2).bind fun bt117 => ((laws_toTally.f k l0_0 l0_1).bind fun bt125 => ((laws_toTally.f k l1_0 l1_1).bind fun bt132 => ((impl_AddTallies.f k bt125.1 bt125.2 bt132.1 bt132.2).bind fun bt139 => ((laws_eqTally.f k bt139.1 bt139.2.1 bt117.1 bt117.2.1).bind fun t147 => (if t147 = true then (laws_FnExactAddTallies.j0 k bt117.2.2 bt139.2.2 (bt139.2.2 != bt117.2.2) l0_0 l0_1 l1_0 l1_1 bt117.1 bt117.2.1 bt125.1 bt125.2 bt132.1 bt132.2 bt139.1 bt139.2.1) else (laws_FnExactAddTallies.j0 k bt117.2.2 bt139.2.2 true l0_0 l0_1 l1_0 l1_1 bt117.1 bt117.2.1 bt125.1 bt125.2 bt132.1 bt132.2 bt139.1 bt139.2.1)))))))))))) = some r := H
 have A3 := Aside0.mk A30
 clear A30
 by_cases c4 : t103 < 0
 ·
  rw [if_pos c4] at H
  have c4b0 : decide (t103 < 0) = true := decide_eq_true c4
  clear c4
  obtain rfl := Option.some.inj H
  go_enter Try.func5, Try.ntmps5
  go_wp2_with (first | ((with_reducible refine gate_dst (N := 2) rfl ?_); refine bxe (cs := #[.slice A0_0 l0_0.length c0_0, .slice A0_1 l0_1.length c0_1]) (t := 42) ?_; intro gb101 hg w5 hbox hb; have BK101 := aK (hbox); have GW101 := aK (gE hg (pS HB.out)); have GE101 := aK (gE hg (pS HB.out)); replace HB := bS HB hb; clear hb hbox hg) | ((with_reducible refine gate_dst (N := 3) rfl ?_); refine bxe (cs := #[.slice A1_0 l1_0.length c1_0, .slice A1_1 l1_1.length c1_1]) (t := 42) ?_; intro gb102 hg w6 hbox hb; have BK102 := aK (hbox); have GW102 := aK (gE hg (pS HB.out)); have GE102 := aK (gE hg (pS HB.out)); have NB101_102 := aK (nL hg (pB BK101.out)); have NB102_101 := aK (nG hg (pB BK101.out)); replace BK101 := bB BK101 hb; replace HB := bS HB hb; clear hb hbox hg; obtain ⟨hcz7_0, hcz7_1, hfz7_0, hfz7_1⟩ := bc2 BK101.out) | ((with_reducible refine gate_callee (f := 42) rfl ?_); refine gl (some 19) Try.func42 #[.agg #[.slice A0_0 l0_0.length c0_0, .slice A0_1 l0_1.length c0_1], .int .i64 1048576] ?_; (with_reducible refine (laws_szTally.calls _ _ l0_0 _ _ l0_1 1048576 t103 _ ?side1 ?side2 ?side3 ?side4 A3.out).mono ?_); (case side1 => exact pC (Kd.C_below HR0_0.out HB.out)); (case side2 => exact HC0_0.out); (case side3 => exact pC (Kd.C_below HR0_1.out HB.out)); (case side4 => exact HC0_1.out); rintro e w8 ⟨rfl, hb⟩; refine ⟨_, rfl, ?_⟩; replace HB := bS HB hb; (try clear hb); (try clear hb2); (try clear hk); (try clear hi)))
  go_ret
  exact ⟨by first | rfl | (simp [errW_none, errW_some] <;> rfl) | (simp [*, errW_none, errW_some] <;> rfl), pT HB.out⟩
 rw [if_neg c4] at H
 have c4b0 : decide (t103 < 0) = false := decide_eq_false c4
 clear c4
 replace H := Option.bind_eq_some_iff.mp H
 obtain ⟨t104, A90, H⟩ := H
 replace H : (if t104 < 0 then (some true) else ((laws_toTally.f k l0_0 l0_1).bind fun bt105 => ((laws_toTally.f k l1_0 l1_1).bind fun bt111 => ((spec_AddTallies.f k bt105.1 bt105.2 bt111.1 bt111.2).bind fun bt117 => ((laws_toTally.f k l0_0 l0_1).bind fun bt125 => ((laws_toTally.f k l1_0 l1_1).bind fun bt132 => ((impl_AddTallies.f k bt125.1 bt125.2 bt132.1 bt132.2).bind fun bt139 => ((laws_eqTally.f k bt139.1 bt139.2.1 bt117.1 bt117.2.1).bind fun t147 => (if t147 = true then (laws_FnExactAddTallies.j0 k bt117.2.2 bt139.2.2 (bt139.2.2 != bt117.2.2) l0_0 l0_1 l1_0 l1_1 bt117.1 bt117.2.1 bt125.1 bt125.2 bt132.1 bt132.2 bt139.1 bt139.2.1) else (laws_FnExactAddTallies.j0 k bt117.2.2 bt139.2.2 true l0_0 l0_1 l1_0 l1_1 bt117.1 bt117.2.1 bt125.1 bt125.2 bt132.1 bt132.2 bt139.1 bt139.2.1)))))))))) = some r := H
 have A9 := Aside0.mk A90
 clear A90
 by_cases c10 : t104 < 0
 ·
  rw [if_pos c10] at H
  have c10b0 : decide (t104 < 0) = true := decide_eq_true c10
  clear c10
  obtain rfl := Option.some.inj H
  go_enter Try.func5, Try.ntmps5
  go_wp2_with (first | ((with_reducible refine gate_dst (N := 2) rfl ?_); refine bxe (cs := #[.slice A0_0 l0_0.length c0_0, .slice A0_1 l0_1.length c0_1]) (t := 42) ?_; intro gb101 hg w11 hbox hb; have BK101 := aK (hbox); have GW101 := aK (gE hg (pS HB.out)); have GE101 := aK (gE hg (pS HB.out)); replace HB := bS HB hb; clear hb hbox hg) | ((with_reducible refine gate_dst (N := 3) rfl ?_); refine bxe (cs := #[.slice A1_0 l1_0.length c1_0, .slice A1_1 l1_1.length c1_1]) (t := 42) ?_; intro gb102 hg w12 hbox hb; have BK102 := aK (hbox); have GW102 := aK (gE hg (pS HB.out)); have GE102 := aK (gE hg (pS HB.out)); have NB101_102 := aK (nL hg (pB BK101.out)); have NB102_101 := aK (nG hg (pB BK101.out)); replace BK101 := bB BK101 hb; replace HB := bS HB hb; clear hb hbox hg; have hnb13 := NB101_102.out; have hnc13 := NB102_101.out; obtain ⟨hcz14_0, hcz14_1, hfz14_0, hfz14_1⟩ := bc2 BK101.out) | ((with_reducible refine gate_callee (f := 42) rfl ?_); refine gl (some 19) Try.func42 #[.agg #[.slice A0_0 l0_0.length c0_0, .slice A0_1 l0_1.length c0_1], .int .i64 1048576] ?_; (with_reducible refine (laws_szTally.calls _ _ l0_0 _ _ l0_1 1048576 t103 _ ?side1 ?side2 ?side3 ?side4 A3.out).mono ?_); (case side1 => exact pC (Kd.C_below HR0_0.out HB.out)); (case side2 => exact HC0_0.out); (case side3 => exact pC (Kd.C_below HR0_1.out HB.out)); (case side4 => exact HC0_1.out); rintro e w15 ⟨rfl, hb⟩; refine ⟨_, rfl, ?_⟩; replace BK102 := bB BK102 hb; replace HB := bS HB hb; (try clear hb); (try clear hb2); (try clear hk); (try clear hi); obtain ⟨hcz16_0, hcz16_1, hfz16_0, hfz16_1⟩ := bc2 BK102.out) | ((with_reducible refine gate_callee (f := 42) rfl ?_); refine gl (some 24) Try.func42 #[.agg #[.slice A1_0 l1_0.length c1_0, .slice A1_1 l1_1.length c1_1], .int .i64 t103] ?_; (with_reducible refine (laws_szTally.calls _ _ l1_0 _ _ l1_1 t103 t104 _ ?side1 ?side2 ?side3 ?side4 A9.out).mono ?_); (case side1 => exact pC (Kd.C_below HR1_0.out HB.out)); (case side2 => exact HC1_0.out); (case side3 => exact pC (Kd.C_below HR1_1.out HB.out)); (case side4 => exact HC1_1.out); rintro e w17 ⟨rfl, hb⟩; refine ⟨_, rfl, ?_⟩; replace HB := bS HB hb; (try clear hb); (try clear hb2); (try clear hk); (try clear hi)))
  go_ret
  exact ⟨by first | rfl | (simp [errW_none, errW_some] <;> rfl) | (simp [*, errW_none, errW_some] <;> rfl), pT HB.out⟩
 rw [if_neg c10] at H
 have c10b0 : decide (t104 < 0) = false := decide_eq_false c10
 clear c10
 replace H := Option.bind_eq_some_iff.mp H
 obtain ⟨⟨t105, t108⟩, A180, H⟩ := H
 replace H : ((laws_toTally.f k l1_0 l1_1).bind fun bt111 => ((spec_AddTallies.f k t105 t108 bt111.1 bt111.2).bind fun bt117 => ((laws_toTally.f k l0_0 l0_1).bind fun bt125 => ((laws_toTally.f k l1_0 l1_1).bind fun bt132 => ((impl_AddTallies.f k bt125.1 bt125.2 bt132.1 bt132.2).bind fun bt139 => ((laws_eqTally.f k bt139.1 bt139.2.1 bt117.1 bt117.2.1).bind fun t147 => (if t147 = true then (laws_FnExactAddTallies.j0 k bt117.2.2 bt139.2.2 (bt139.2.2 != bt117.2.2) l0_0 l0_1 l1_0 l1_1 bt117.1 bt117.2.1 bt125.1 bt125.2 bt132.1 bt132.2 bt139.1 bt139.2.1) else (laws_FnExactAddTallies.j0 k bt117.2.2 bt139.2.2 true l0_0 l0_1 l1_0 l1_1 bt117.1 bt117.2.1 bt125.1 bt125.2 bt132.1 bt132.2 bt139.1 bt139.2.1)))))))) = some r := H
 have A18 := Aside0.mk A180
 clear A180
 replace H := Option.bind_eq_some_iff.mp H
 obtain ⟨⟨t111, t114⟩, A190, H⟩ := H
 replace H : ((spec_AddTallies.f k t105 t108 t111 t114).bind fun bt117 => ((laws_toTally.f k l0_0 l0_1).bind fun bt125 => ((laws_toTally.f k l1_0 l1_1).bind fun bt132 => ((impl_AddTallies.f k bt125.1 bt125.2 bt132.1 bt132.2).bind fun bt139 => ((laws_eqTally.f k bt139.1 bt139.2.1 bt117.1 bt117.2.1).bind fun t147 => (if t147 = true then (laws_FnExactAddTallies.j0 k bt117.2.2 bt139.2.2 (bt139.2.2 != bt117.2.2) l0_0 l0_1 l1_0 l1_1 bt117.1 bt117.2.1 bt125.1 bt125.2 bt132.1 bt132.2 bt139.1 bt139.2.1) else (laws_FnExactAddTallies.j0 k bt117.2.2 bt139.2.2 true l0_0 l0_1 l1_0 l1_1 bt117.1 bt117.2.1 bt125.1 bt125.2 bt132.1 bt132.2 bt139.1 bt139.2.1))))))) = some r := H
 have A19 := Aside0.mk A190
 clear A190
 replace H := Option.bind_eq_some_iff.mp H
 obtain ⟨⟨t117, t120, t123⟩, A200, H⟩ := H
 replace H : ((laws_toTally.f k l0_0 l0_1).bind fun bt125 => ((laws_toTally.f k l1_0 l1_1).bind fun bt132 => ((impl_AddTallies.f k bt125.1 bt125.2 bt132.1 bt132.2).bind fun bt139 => ((laws_eqTally.f k bt139.1 bt139.2.1 t117 t120).bind fun t147 => (if t147 = true then (laws_FnExactAddTallies.j0 k t123 bt139.2.2 (bt139.2.2 != t123) l0_0 l0_1 l1_0 l1_1 t117 t120 bt125.1 bt125.2 bt132.1 bt132.2 bt139.1 bt139.2.1) else (laws_FnExactAddTallies.j0 k t123 bt139.2.2 true l0_0 l0_1 l1_0 l1_1 t117 t120 bt125.1 bt125.2 bt132.1 bt132.2 bt139.1 bt139.2.1)))))) = some r := H
 have A20 := Aside0.mk A200
 clear A200
 replace H := Option.bind_eq_some_iff.mp H
 obtain ⟨⟨t125, t128⟩, A210, H⟩ := H
 replace H : ((laws_toTally.f k l1_0 l1_1).bind fun bt132 => ((impl_AddTallies.f k t125 t128 bt132.1 bt132.2).bind fun bt139 => ((laws_eqTally.f k bt139.1 bt139.2.1 t117 t120).bind fun t147 => (if t147 = true then (laws_FnExactAddTallies.j0 k t123 bt139.2.2 (bt139.2.2 != t123) l0_0 l0_1 l1_0 l1_1 t117 t120 t125 t128 bt132.1 bt132.2 bt139.1 bt139.2.1) else (laws_FnExactAddTallies.j0 k t123 bt139.2.2 true l0_0 l0_1 l1_0 l1_1 t117 t120 t125 t128 bt132.1 bt132.2 bt139.1 bt139.2.1))))) = some r := H
 have A21 := Aside0.mk A210
 clear A210
 replace H := Option.bind_eq_some_iff.mp H
 obtain ⟨⟨t132, t135⟩, A220, H⟩ := H
 replace H : ((impl_AddTallies.f k t125 t128 t132 t135).bind fun bt139 => ((laws_eqTally.f k bt139.1 bt139.2.1 t117 t120).bind fun t147 => (if t147 = true then (laws_FnExactAddTallies.j0 k t123 bt139.2.2 (bt139.2.2 != t123) l0_0 l0_1 l1_0 l1_1 t117 t120 t125 t128 t132 t135 bt139.1 bt139.2.1) else (laws_FnExactAddTallies.j0 k t123 bt139.2.2 true l0_0 l0_1 l1_0 l1_1 t117 t120 t125 t128 t132 t135 bt139.1 bt139.2.1)))) = some r := H
 have A22 := Aside0.mk A220
 clear A220
 replace H := Option.bind_eq_some_iff.mp H
 obtain ⟨⟨t139, t142, t145⟩, A230, H⟩ := H
 replace H : ((laws_eqTally.f k t139 t142 t117 t120).bind fun t147 => (if t147 = true then (laws_FnExactAddTallies.j0 k t123 t145 (t145 != t123) l0_0 l0_1 l1_0 l1_1 t117 t120 t125 t128 t132 t135 t139 t142) else (laws_FnExactAddTallies.j0 k t123 t145 true l0_0 l0_1 l1_0 l1_1 t117 t120 t125 t128 t132 t135 t139 t142))) = some r := H
 have A23 := Aside0.mk A230
 clear A230
 have HC24 := Aside0.mk H
 clear H
 go_enter Try.func5, Try.ntmps5
 try go_wp2_with (first | ((with_reducible refine gate_dst (N := 2) rfl ?_); refine bxe (cs := #[.slice A0_0 l0_0.length c0_0, .slice A0_1 l0_1.length c0_1]) (t := 42) ?_; intro gb101 hg w25 hbox hb; have BK101 := aK (hbox); have GW101 := aK (gE hg (pS HB.out)); have GE101 := aK (gE hg (pS HB.out)); replace HB := bS HB hb; clear hb hbox hg) | ((with_reducible refine gate_dst (N := 3) rfl ?_); refine bxe (cs := #[.slice A1_0 l1_0.length c1_0, .slice A1_1 l1_1.length c1_1]) (t := 42) ?_; intro gb102 hg w26 hbox hb; have BK102 := aK (hbox); have GW102 := aK (gE hg (pS HB.out)); have GE102 := aK (gE hg (pS HB.out)); have NB101_102 := aK (nL hg (pB BK101.out)); have NB102_101 := aK (nG hg (pB BK101.out)); replace BK101 := bB BK101 hb; replace HB := bS HB hb; clear hb hbox hg; have hnb27 := NB101_102.out; have hnc27 := NB102_101.out; obtain ⟨hcz28_0, hcz28_1, hfz28_0, hfz28_1⟩ := bc2 BK101.out) | ((with_reducible refine gate_callee (f := 42) rfl ?_); refine gl (some 19) Try.func42 #[.agg #[.slice A0_0 l0_0.length c0_0, .slice A0_1 l0_1.length c0_1], .int .i64 1048576] ?_; (with_reducible refine (laws_szTally.calls _ _ l0_0 _ _ l0_1 1048576 t103 _ ?side1 ?side2 ?side3 ?side4 A3.out).mono ?_); (case side1 => exact pC (Kd.C_below HR0_0.out HB.out)); (case side2 => exact HC0_0.out); (case side3 => exact pC (Kd.C_below HR0_1.out HB.out)); (case side4 => exact HC0_1.out); rintro e w29 ⟨rfl, hb⟩; refine ⟨_, rfl, ?_⟩; replace BK101 := bB BK101 hb; replace BK102 := bB BK102 hb; replace HB := bS HB hb; (try clear hb); (try clear hb2); (try clear hk); (try clear hi); obtain ⟨hcz30_0, hcz30_1, hfz30_0, hfz30_1⟩ := bc2 BK102.out) | ((with_reducible refine gate_callee (f := 42) rfl ?_); refine gl (some 24) Try.func42 #[.agg #[.slice A1_0 l1_0.length c1_0, .slice A1_1 l1_1.length c1_1], .int .i64 t103] ?_; (with_reducible refine (laws_szTally.calls _ _ l1_0 _ _ l1_1 t103 t104 _ ?side1 ?side2 ?side3 ?side4 A9.out).mono ?_); (case side1 => exact pC (Kd.C_below HR1_0.out HB.out)); (case side2 => exact HC1_0.out); (case side3 => exact pC (Kd.C_below HR1_1.out HB.out)); (case side4 => exact HC1_1.out); rintro e w31 ⟨rfl, hb⟩; refine ⟨_, rfl, ?_⟩; replace BK101 := bB BK101 hb; replace BK102 := bB BK102 hb; replace HB := bS HB hb; (try clear hb); (try clear hb2); (try clear hk); (try clear hi)))
 have n0_ := aK (blk_drew BK101.out)
 have n1_ := aK (blk_drew BK102.out)
 have n2_ := aK (below_drew1 HB.out)
 clear BK101 BK102 HB
 have BK101 := n0_
 have BK102 := n1_
 have HB := n2_
 clear n0_ n1_ n2_
 refine start_ (n := 11) (S := fun w' => w'.cell? ⟨gb101, 0, none⟩ = some (.slice A0_0 l0_0.length c0_0) ∧ w'.cell? ⟨gb101, 1, none⟩ = some (.slice A0_1 l0_1.length c0_1) ∧ w'.cell? ⟨gb102, 0, none⟩ = some (.slice A1_0 l1_0.length c1_0) ∧ w'.cell? ⟨gb102, 1, none⟩ = some (.slice A1_1 l1_1.length c1_1)) (ds := []) #[false, false, false, false, false, false, false, false, false, false, false] (by kernel_rfl) rfl rfl (cj2 BK101.out (cz2 BK102.out)) (fun hHeld => ?_); refine with_tabW laws_FnExactAddTallies.tab8 laws_FnExactAddTallies.bits8 (fun HT_ HW_ => ?_)
 generalize w31.drew = w32 at BK101 BK102 HB hHeld ⊢
 refine take_ (i := 0) (N := some 28) (v := ?_) (a' := ?_) #[true, false, false, false, false, false, false, false, false, false, false] rfl rfl (take_ofW HT_.out HW_.out (by kernel_rfl)) (fun _ _ _ h => h) (Or.inl ⟨by rfl, ?_⟩) hHeld ?_ ?_
 rotate_left
 ·
  rintro w' ⟨s0, s1, s2, s3⟩
  go_simp
  with_reducible rfl
 rotate_left
 ·
  simp only [sP]
  rfl
 refine take_ (i := 2) (N := some 30) (v := ?_) (a' := ?_) #[true, false, true, false, false, false, false, false, false, false, false] rfl rfl (take_ofW HT_.out HW_.out (by kernel_rfl)) (fun _ _ _ h => h) (Or.inl ⟨by rfl, ?_⟩) hHeld ?_ ?_
 rotate_left
 ·
  rintro w' ⟨s0, s1, s2, s3⟩
  go_simp
  with_reducible rfl
 rotate_left
 ·
  simp only [sP]
  rfl
 refine join_ (σ := Value × Value × Value × Value × Value × Value × Nat) 2 #[true, true, true, true, true, true, true, true, true, false, false] (fun s_ => [(29, .agg #[s_.1, s_.2.1]), (31, .agg #[s_.2.2.1, s_.2.2.2.1]), (32, .tuple #[.agg #[s_.2.2.2.2.1, s_.2.2.2.2.2.1], .bool t123]), (6, .pointer (some ⟨s_.2.2.2.2.2.2, 0, none⟩)), (27, .tuple #[.agg #[s_.2.2.2.2.1, s_.2.2.2.2.2.1], .bool t123]), (33, .agg #[s_.2.2.2.2.1, s_.2.2.2.2.2.1]), (34, .bool t123)]) (fun s_ w' => (w'.cell? ⟨gb101, 0, none⟩ = some (.slice A0_0 l0_0.length c0_0) ∧ w'.cell? ⟨gb101, 1, none⟩ = some (.slice A0_1 l0_1.length c0_1) ∧ w'.cell? ⟨gb102, 0, none⟩ = some (.slice A1_0 l1_0.length c1_0) ∧ w'.cell? ⟨gb102, 1, none⟩ = some (.slice A1_1 l1_1.length c1_1)) ∧ (Kd.R (Kd.int .i64) 3 w' w.heap.size (fun k_ => some k_ ≠ (s_.2.1 : Value).ownBlock ∧ some k_ ≠ (s_.2.2.1 : Value).ownBlock ∧ some k_ ≠ (s_.2.2.2.1 : Value).ownBlock ∧ some k_ ≠ (s_.2.2.2.2.1 : Value).ownBlock ∧ some k_ ≠ (s_.2.2.2.2.2.1 : Value).ownBlock) s_.1 t105) ∧ (Kd.R (Kd.int .i64) 3 w' w.heap.size (fun k_ => some k_ ≠ (s_.1 : Value).ownBlock ∧ some k_ ≠ (s_.2.2.1 : Value).ownBlock ∧ some k_ ≠ (s_.2.2.2.1 : Value).ownBlock ∧ some k_ ≠ (s_.2.2.2.2.1 : Value).ownBlock ∧ some k_ ≠ (s_.2.2.2.2.2.1 : Value).ownBlock) s_.2.1 t108) ∧ (Kd.R (Kd.int .i64) 3 w' w.heap.size (fun k_ => some k_ ≠ (s_.1 : Value).ownBlock ∧ some k_ ≠ (s_.2.1 : Value).ownBlock ∧ some k_ ≠ (s_.2.2.2.1 : Value).ownBlock ∧ some k_ ≠ (s_.2.2.2.2.1 : Value).ownBlock ∧ some k_ ≠ (s_.2.2.2.2.2.1 : Value).ownBlock) s_.2.2.1 t111) ∧ (Kd.R (Kd.int .i64) 3 w' w.heap.size (fun k_ => some k_ ≠ (s_.1 : Value).ownBlock ∧ some k_ ≠ (s_.2.1 : Value).ownBlock ∧ some k_ ≠ (s_.2.2.1 : Value).ownBlock ∧ some k_ ≠ (s_.2.2.2.2.1 : Value).ownBlock ∧ some k_ ≠ (s_.2.2.2.2.2.1 : Value).ownBlock) s_.2.2.2.1 t114) ∧ (Kd.R (Kd.int .i64) 3 w' w.heap.size (fun k_ => some k_ ≠ (s_.1 : Value).ownBlock ∧ some k_ ≠ (s_.2.1 : Value).ownBlock ∧ some k_ ≠ (s_.2.2.1 : Value).ownBlock ∧ some k_ ≠ (s_.2.2.2.1 : Value).ownBlock ∧ some k_ ≠ (s_.2.2.2.2.2.1 : Value).ownBlock) s_.2.2.2.2.1 t117) ∧ (Kd.R (Kd.int .i64) 3 w' w.heap.size (fun k_ => some k_ ≠ (s_.1 : Value).ownBlock ∧ some k_ ≠ (s_.2.1 : Value).ownBlock ∧ some k_ ≠ (s_.2.2.1 : Value).ownBlock ∧ some k_ ≠ (s_.2.2.2.1 : Value).ownBlock ∧ some k_ ≠ (s_.2.2.2.2.1 : Value).ownBlock) s_.2.2.2.2.2.1 t120) ∧ (w'.heap[gb101]? = some (.cells #[.slice A0_0 l0_0.length c0_0, .slice A0_1 l0_1.length c0_1] 42 (0, 0))) ∧ (w'.heap[gb102]? = some (.cells #[.slice A1_0 l1_0.length c1_0, .slice A1_1 l1_1.length c1_1] 42 (0, 0))) ∧ (w'.heap[s_.2.2.2.2.2.2]? = some (.cells #[.slice none 0 0, .slice none 0 0] 44 (0, 0))) ∧ (w.heap.size ≤ s_.2.2.2.2.2.2) ∧ (w.heap.size ≤ s_.2.2.2.2.2.2) ∧ (gb101 ≠ s_.2.2.2.2.2.2) ∧ (s_.2.2.2.2.2.2 ≠ gb101) ∧ (gb102 ≠ s_.2.2.2.2.2.2) ∧ (s_.2.2.2.2.2.2 ≠ gb102) ∧ (Below w.heap.size w w')) ?_ ?_
 rotate_left
 ·
  intro hCont
  refine two_ (i := 1) (j := 8) (Ni := some 29) (Nj := some 6) #[true, true, true, false, false, false, false, false, false, false, false] #[true, false, true, false, false, false, false, false, true, false, false] rfl rfl rfl rfl (two_of HT_.out (by kernel_rfl)) (by decide) (by decide) (fun K hK => ?_) (fun K hK => ?_)
  ·
   skip
   refine goes_ Try.func44 (by kernel_rfl) rfl #[.agg #[.slice A0_0 l0_0.length c0_0, .slice A0_1 l0_1.length c0_1]] (by rfl) rfl rfl (by (try simp only [List.map_toArray, List.map_cons, List.map_nil]); first | done | rfl | (simp only [List.length_drop, List.length_take]; rfl)) ?_
   with_reducible refine (laws_toTally.calls k _ _ l0_0 _ _ l0_1 t105 t108 _ ?side1 ?side2 ?side3 ?side4 A18.out).mono ?_
   (case side1 => exact pC (Kd.C_below HR0_0.out HB.out))
   (case side2 => exact HC0_0.out)
   (case side3 => exact pC (Kd.C_below HR0_1.out HB.out))
   (case side4 => exact HC0_1.out)
   rintro e w33 ⟨v106, v109, rfl, ho0, ho1, hb⟩
   refine ⟨_, rfl, ?_⟩
   have HO107 := aK (Kd.R_lower ho0 (below_size (pS HB.out)))
   have HO110 := aK (Kd.R_lower ho1 (below_size (pS HB.out)))
   replace BK101 := bB BK101 hb
   replace BK102 := bB BK102 hb
   replace HB := bS HB hb
   (try clear hb)
   (try clear hb2)
   (try clear hk)
   (try clear hi)
   (try clear ho0)
   (try clear ho1)
   refine hK.out _ _ (cj2 BK101.out (cz2 BK102.out)) (fun hHeld => ?_)
   clear hK K
   refine norm_ (a' := ?_) ?_ ?_
   rotate_left
   ·
    show Act.put _ (some 29) _ = _
    simp only [sP]
    rfl
   refine two_ (i := 3) (j := 8) (Ni := some 31) (Nj := some 6) #[true, true, true, true, false, false, false, false, false, false, false] #[true, true, true, false, false, false, false, false, true, false, false] rfl rfl rfl rfl (two_of HT_.out (by kernel_rfl)) (by decide) (by decide) (fun K hK => ?_) (fun K hK => ?_)
   ·
    skip
    refine goes_ Try.func44 (by kernel_rfl) rfl #[.agg #[.slice A1_0 l1_0.length c1_0, .slice A1_1 l1_1.length c1_1]] (by rfl) rfl rfl (by (try simp only [List.map_toArray, List.map_cons, List.map_nil]); first | done | rfl | (simp only [List.length_drop, List.length_take]; rfl)) ?_
    with_reducible refine (laws_toTally.calls k _ _ l1_0 _ _ l1_1 t111 t114 _ ?side1 ?side2 ?side3 ?side4 A19.out).mono ?_
    (case side1 => exact pC (Kd.C_below HR1_0.out HB.out))
    (case side2 => exact HC1_0.out)
    (case side3 => exact pC (Kd.C_below HR1_1.out HB.out))
    (case side4 => exact HC1_1.out)
    rintro e w34 ⟨v112, v115, rfl, ho0, ho1, hb⟩
    refine ⟨_, rfl, ?_⟩
    have n0_ := aK (rO2 (pR HO107.out) hb ho0 ho1)
    have n1_ := aK (rO2 (pR HO110.out) hb ho0 ho1)
    have HO113 := aK (Kd.R_lower (nw2 ho0 (pR HO107.out) (pR HO110.out)) (below_size (pS HB.out)))
    have HO116 := aK (Kd.R_lower (nw2 ho1 (pR HO107.out) (pR HO110.out)) (below_size (pS HB.out)))
    replace BK101 := bB BK101 hb
    replace BK102 := bB BK102 hb
    replace HB := bS HB hb
    clear HO107 HO110
    have HO107 := n0_
    have HO110 := n1_
    clear n0_ n1_
    (try clear hb)
    (try clear hb2)
    (try clear hk)
    (try clear hi)
    (try clear ho0)
    (try clear ho1)
    obtain ⟨Ao35, co35, eo35⟩ := Kd.R_slice HO107.out
    (first | subst eo35 | (obtain ⟨f4_, f5_⟩ := sI eo35; subst f4_; subst f5_))
    obtain ⟨Ao36, co36, eo36⟩ := Kd.R_slice HO110.out
    (first | subst eo36 | (obtain ⟨f4_, f5_⟩ := sI eo36; subst f4_; subst f5_))
    obtain ⟨Ao37, co37, eo37⟩ := Kd.R_slice HO113.out
    (first | subst eo37 | (obtain ⟨f4_, f5_⟩ := sI eo37; subst f4_; subst f5_))
    obtain ⟨Ao38, co38, eo38⟩ := Kd.R_slice HO116.out
    (first | subst eo38 | (obtain ⟨f4_, f5_⟩ := sI eo38; subst f4_; subst f5_))
    refine hK.out _ _ (cj2 BK101.out (cz2 BK102.out)) (fun hHeld => ?_)
    clear hK K
    refine norm_ (a' := ?_) ?_ ?_
    rotate_left
    ·
     show Act.put _ (some 31) _ = _
     simp only [sP]
     rfl
    refine two_ (i := 4) (j := 8) (Ni := some 32) (Nj := some 6) #[true, true, true, true, true, false, false, false, false, false, false] #[true, true, true, true, false, false, false, false, true, false, false] rfl rfl rfl rfl (two_of HT_.out (by kernel_rfl)) (by decide) (by decide) (fun K hK => ?_) (fun K hK => ?_)
    ·
     skip
     refine goes_ Try.func43 (by kernel_rfl) rfl #[.agg #[.slice Ao35 t105.length co35, .slice Ao36 t108.length co36], .agg #[.slice Ao37 t111.length co37, .slice Ao38 t114.length co38]] (by rfl) rfl rfl (by (try simp only [List.map_toArray, List.map_cons, List.map_nil]); first | done | rfl | (simp only [List.length_drop, List.length_take]; rfl)) ?_
     with_reducible refine (spec_AddTallies.calls k _ _ t105 _ _ t108 _ _ t111 _ _ t114 t117 t120 t123 _ ?side1 ?side2 ?side3 ?side4 ?side5 ?side6 ?side7 ?side8 A20.out).mono ?_
     (case side1 => exact pC (Kd.R_reads' HO107.out).2.2)
     (case side2 => exact (Kd.R_reads' HO107.out).2.1)
     (case side3 => exact pC (Kd.R_reads' HO110.out).2.2)
     (case side4 => exact (Kd.R_reads' HO110.out).2.1)
     (case side5 => exact pC (Kd.R_reads' HO113.out).2.2)
     (case side6 => exact (Kd.R_reads' HO113.out).2.1)
     (case side7 => exact pC (Kd.R_reads' HO116.out).2.2)
     (case side8 => exact (Kd.R_reads' HO116.out).2.1)
     rintro e w39 ⟨v118, v121, rfl, ho0, ho1, hb⟩
     refine ⟨_, rfl, ?_⟩
     have n0_ := aK (rO2 (pR HO107.out) hb ho0 ho1)
     have n1_ := aK (rO2 (pR HO110.out) hb ho0 ho1)
     have n2_ := aK (rO2 (pR HO113.out) hb ho0 ho1)
     have n3_ := aK (rO2 (pR HO116.out) hb ho0 ho1)
     have HO119 := aK (Kd.R_lower (nw4 ho0 (pR HO107.out) (pR HO110.out) (pR HO113.out) (pR HO116.out)) (below_size (pS HB.out)))
     have HO122 := aK (Kd.R_lower (nw4 ho1 (pR HO107.out) (pR HO110.out) (pR HO113.out) (pR HO116.out)) (below_size (pS HB.out)))
     replace BK101 := bB BK101 hb
     replace BK102 := bB BK102 hb
     replace HB := bS HB hb
     clear HO107 HO110 HO113 HO116
     have HO107 := n0_
     have HO110 := n1_
     have HO113 := n2_
     have HO116 := n3_
     clear n0_ n1_ n2_ n3_
     (try clear hb)
     (try clear hb2)
     (try clear hk)
     (try clear hi)
     (try clear ho0)
     (try clear ho1)
     refine hK.out _ _ (cj2 BK101.out (cz2 BK102.out)) (fun hHeld => ?_)
     clear hK K
     refine norm_ (a' := ?_) ?_ ?_
     rotate_left
     ·
      show Act.put _ (some 32) _ = _
      simp only [sP]
      rfl
     refine pure_ (i := 5) (N := some 27) (v := ?_) (a' := ?_) #[true, true, true, true, true, true, false, false, false, false, false] rfl rfl (any_of HT_.out (by kernel_rfl)) (fun _ _ _ h => h) (Or.inl ⟨by rfl, ?_⟩) ?_ ?_
     rotate_left
     ·
      intro w'
      go_simp
      with_reducible rfl
     rotate_left
     ·
      simp only [sP]
      rfl
     refine pure_ (i := 6) (N := some 33) (v := ?_) (a' := ?_) #[true, true, true, true, true, true, true, false, false, false, false] rfl rfl (any_of HT_.out (by kernel_rfl)) (fun _ _ _ h => h) (Or.inl ⟨by rfl, ?_⟩) ?_ ?_
     rotate_left
     ·
      intro w'
      go_simp
      with_reducible rfl
     rotate_left
     ·
      simp only [sP]
      rfl
     refine pure_ (i := 7) (N := some 34) (v := ?_) (a' := ?_) #[true, true, true, true, true, true, true, true, false, false, false] rfl rfl (any_of HT_.out (by kernel_rfl)) (fun _ _ _ h => h) (Or.inl ⟨by rfl, ?_⟩) ?_ ?_
     rotate_left
     ·
      intro w'
      go_simp
      with_reducible rfl
     rotate_left
     ·
      simp only [sP]
      rfl
     refine one_ (i := 8) (N := some 6) #[true, true, true, true, true, true, true, true, true, false, false] rfl rfl (one_of HT_.out (by kernel_rfl)) (by decide) (fun K hK => ?_)
     refine box_step ?hg (N := 6) ?hd (cs := #[.slice none 0 0, .slice none 0 0]) (t := 44) ?hr ?_; (case hd => rfl); (case hg => rfl); (case hr => first | (go_simp; done) | (go_simp; rfl))
     intro gb124 hg w40 hbox hb
     have n0_ := aK (Kd.R_below (pR HO107.out) hb)
     have n1_ := aK (Kd.R_below (pR HO110.out) hb)
     have n2_ := aK (Kd.R_below (pR HO113.out) hb)
     have n3_ := aK (Kd.R_below (pR HO116.out) hb)
     have n4_ := aK (Kd.R_below (pR HO119.out) hb)
     have n5_ := aK (Kd.R_below (pR HO122.out) hb)
     have BK124 := aK (hbox)
     have GW124 := aK (gE hg (pS HB.out))
     have GE124 := aK (gE hg (pS HB.out))
     have NB101_124 := aK (nL hg (pB BK101.out))
     have NB124_101 := aK (nG hg (pB BK101.out))
     have NB102_124 := aK (nL hg (pB BK102.out))
     have NB124_102 := aK (nG hg (pB BK102.out))
     replace BK101 := bB BK101 hb
     replace BK102 := bB BK102 hb
     replace HB := bS HB hb
     clear HO107 HO110 HO113 HO116 HO119 HO122
     have HO107 := n0_
     have HO110 := n1_
     have HO113 := n2_
     have HO116 := n3_
     have HO119 := n4_
     have HO122 := n5_
     clear n0_ n1_ n2_ n3_ n4_ n5_ hb hbox hg
     refine hK.out _ _ (cj2 BK101.out (cz2 BK102.out)) (fun hHeld => ?_)
     clear hK K
     refine norm_ (a' := ?_) ?_ ?_
     rotate_left
     ·
      show Act.put _ (some 6) _ = _
      simp only [sP]
      rfl
     exact norm_ (by simp only [putAll, Act.put, List.setIfInBounds_toArray, List.set_cons_zero, List.set_cons_succ]) (hCont (.slice Ao35 t105.length co35, .slice Ao36 t108.length co36, .slice Ao37 t111.length co37, .slice Ao38 t114.length co38, v118, v121, gb124) _ ⟨hHeld, (pR (rP HO107.out)), (pR (rP HO110.out)), (pR (rP HO113.out)), (pR (rP HO116.out)), (pR (rP HO119.out)), (pR (rP HO122.out)), (pB BK101.out), (pB BK102.out), (pB BK124.out), GW124.out, GE124.out, NB101_124.out, NB124_101.out, NB102_124.out, NB124_102.out, (pS HB.out)⟩)
    skip
    refine box_step ?hg (N := 6) ?hd (cs := #[.slice none 0 0, .slice none 0 0]) (t := 44) ?hr ?_; (case hd => rfl); (case hg => rfl); (case hr => first | (go_simp; done) | (go_simp; rfl))
    intro gb124 hg w35 hbox hb
    have n0_ := aK (Kd.R_below (pR HO107.out) hb)
    have n1_ := aK (Kd.R_below (pR HO110.out) hb)
    have n2_ := aK (Kd.R_below (pR HO113.out) hb)
    have n3_ := aK (Kd.R_below (pR HO116.out) hb)
    have BK124 := aK (hbox)
    have GW124 := aK (gE hg (pS HB.out))
    have GE124 := aK (gE hg (pS HB.out))
    have NB101_124 := aK (nL hg (pB BK101.out))
    have NB124_101 := aK (nG hg (pB BK101.out))
    have NB102_124 := aK (nL hg (pB BK102.out))
    have NB124_102 := aK (nG hg (pB BK102.out))
    replace BK101 := bB BK101 hb
    replace BK102 := bB BK102 hb
    replace HB := bS HB hb
    clear HO107 HO110 HO113 HO116
    have HO107 := n0_
    have HO110 := n1_
    have HO113 := n2_
    have HO116 := n3_
    clear n0_ n1_ n2_ n3_ hb hbox hg
    obtain ⟨Ao36, co36, eo36⟩ := Kd.R_slice HO107.out
    (first | subst eo36 | (obtain ⟨f4_, f5_⟩ := sI eo36; subst f4_; subst f5_))
    obtain ⟨Ao37, co37, eo37⟩ := Kd.R_slice HO110.out
    (first | subst eo37 | (obtain ⟨f4_, f5_⟩ := sI eo37; subst f4_; subst f5_))
    obtain ⟨Ao38, co38, eo38⟩ := Kd.R_slice HO113.out
    (first | subst eo38 | (obtain ⟨f4_, f5_⟩ := sI eo38; subst f4_; subst f5_))
    obtain ⟨Ao39, co39, eo39⟩ := Kd.R_slice HO116.out
    (first | subst eo39 | (obtain ⟨f4_, f5_⟩ := sI eo39; subst f4_; subst f5_))
    refine hK.out _ _ (cj2 BK101.out (cz2 BK102.out)) (fun hHeld => ?_)
    clear hK K
    refine norm_ (a' := ?_) ?_ ?_
    rotate_left
    ·
     show Act.put _ (some 6) _ = _
     simp only [sP]
     rfl
    refine one_ (i := 4) (N := some 32) #[true, true, true, true, true, false, false, false, true, false, false] rfl rfl (one_of HT_.out (by kernel_rfl)) (by decide) (fun K hK => ?_)
    refine goes_ Try.func43 (by kernel_rfl) rfl #[.agg #[.slice Ao36 t105.length co36, .slice Ao37 t108.length co37], .agg #[.slice Ao38 t111.length co38, .slice Ao39 t114.length co39]] (by rfl) rfl rfl (by (try simp only [List.map_toArray, List.map_cons, List.map_nil]); first | done | rfl | (simp only [List.length_drop, List.length_take]; rfl)) ?_
    with_reducible refine (spec_AddTallies.calls k _ _ t105 _ _ t108 _ _ t111 _ _ t114 t117 t120 t123 _ ?side1 ?side2 ?side3 ?side4 ?side5 ?side6 ?side7 ?side8 A20.out).mono ?_
    (case side1 => exact pC (Kd.R_reads' HO107.out).2.2)
    (case side2 => exact (Kd.R_reads' HO107.out).2.1)
    (case side3 => exact pC (Kd.R_reads' HO110.out).2.2)
    (case side4 => exact (Kd.R_reads' HO110.out).2.1)
    (case side5 => exact pC (Kd.R_reads' HO113.out).2.2)
    (case side6 => exact (Kd.R_reads' HO113.out).2.1)
    (case side7 => exact pC (Kd.R_reads' HO116.out).2.2)
    (case side8 => exact (Kd.R_reads' HO116.out).2.1)
    rintro e w40 ⟨v118, v121, rfl, ho0, ho1, hb⟩
    refine ⟨_, rfl, ?_⟩
    have n0_ := aK (rO2 (pR HO107.out) hb ho0 ho1)
    have n1_ := aK (rO2 (pR HO110.out) hb ho0 ho1)
    have n2_ := aK (rO2 (pR HO113.out) hb ho0 ho1)
    have n3_ := aK (rO2 (pR HO116.out) hb ho0 ho1)
    have HO119 := aK (Kd.R_lower (nw4 ho0 (pR HO107.out) (pR HO110.out) (pR HO113.out) (pR HO116.out)) (below_size (pS HB.out)))
    have HO122 := aK (Kd.R_lower (nw4 ho1 (pR HO107.out) (pR HO110.out) (pR HO113.out) (pR HO116.out)) (below_size (pS HB.out)))
    replace BK101 := bB BK101 hb
    replace BK102 := bB BK102 hb
    replace BK124 := bB BK124 hb
    replace HB := bS HB hb
    clear HO107 HO110 HO113 HO116
    have HO107 := n0_
    have HO110 := n1_
    have HO113 := n2_
    have HO116 := n3_
    clear n0_ n1_ n2_ n3_
    (try clear hb)
    (try clear hb2)
    (try clear hk)
    (try clear hi)
    (try clear ho0)
    (try clear ho1)
    refine hK.out _ _ (cj2 BK101.out (cz2 BK102.out)) (fun hHeld => ?_)
    clear hK K
    refine norm_ (a' := ?_) ?_ ?_
    rotate_left
    ·
     show Act.put _ (some 32) _ = _
     simp only [sP]
     rfl
    refine pure_ (i := 5) (N := some 27) (v := ?_) (a' := ?_) #[true, true, true, true, true, true, false, false, true, false, false] rfl rfl (any_of HT_.out (by kernel_rfl)) (fun _ _ _ h => h) (Or.inl ⟨by rfl, ?_⟩) ?_ ?_
    rotate_left
    ·
     intro w'
     go_simp
     with_reducible rfl
    rotate_left
    ·
     simp only [sP]
     rfl
    refine pure_ (i := 6) (N := some 33) (v := ?_) (a' := ?_) #[true, true, true, true, true, true, true, false, true, false, false] rfl rfl (any_of HT_.out (by kernel_rfl)) (fun _ _ _ h => h) (Or.inl ⟨by rfl, ?_⟩) ?_ ?_
    rotate_left
    ·
     intro w'
     go_simp
     with_reducible rfl
    rotate_left
    ·
     simp only [sP]
     rfl
    refine pure_ (i := 7) (N := some 34) (v := ?_) (a' := ?_) #[true, true, true, true, true, true, true, true, true, false, false] rfl rfl (any_of HT_.out (by kernel_rfl)) (fun _ _ _ h => h) (Or.inl ⟨by rfl, ?_⟩) ?_ ?_
    rotate_left
    ·
     intro w'
     go_simp
     with_reducible rfl
    rotate_left
    ·
     simp only [sP]
     rfl
    exact norm_ (by simp only [putAll, Act.put, List.setIfInBounds_toArray, List.set_cons_zero, List.set_cons_succ]) (hCont (.slice Ao36 t105.length co36, .slice Ao37 t108.length co37, .slice Ao38 t111.length co38, .slice Ao39 t114.length co39, v118, v121, gb124) _ ⟨hHeld, (pR (rP HO107.out)), (pR (rP HO110.out)), (pR (rP HO113.out)), (pR (rP HO116.out)), (pR (rP HO119.out)), (pR (rP HO122.out)), (pB BK101.out), (pB BK102.out), (pB BK124.out), GW124.out, GE124.out, NB101_124.out, NB124_101.out, NB102_124.out, NB124_102.out, (pS HB.out)⟩)
   skip
   refine box_step ?hg (N := 6) ?hd (cs := #[.slice none 0 0, .slice none 0 0]) (t := 44) ?hr ?_; (case hd => rfl); (case hg => rfl); (case hr => first | (go_simp; done) | (go_simp; rfl))
   intro gb124 hg w34 hbox hb
   have n0_ := aK (Kd.R_below (pR HO107.out) hb)
   have n1_ := aK (Kd.R_below (pR HO110.out) hb)
   have BK124 := aK (hbox)
   have GW124 := aK (gE hg (pS HB.out))
   have GE124 := aK (gE hg (pS HB.out))
   have NB101_124 := aK (nL hg (pB BK101.out))
   have NB124_101 := aK (nG hg (pB BK101.out))
   have NB102_124 := aK (nL hg (pB BK102.out))
   have NB124_102 := aK (nG hg (pB BK102.out))
   replace BK101 := bB BK101 hb
   replace BK102 := bB BK102 hb
   replace HB := bS HB hb
   clear HO107 HO110
   have HO107 := n0_
   have HO110 := n1_
   clear n0_ n1_ hb hbox hg
   refine hK.out _ _ (cj2 BK101.out (cz2 BK102.out)) (fun hHeld => ?_)
   clear hK K
   refine norm_ (a' := ?_) ?_ ?_
   rotate_left
   ·
    show Act.put _ (some 6) _ = _
    simp only [sP]
    rfl
   refine one_ (i := 3) (N := some 31) #[true, true, true, true, false, false, false, false, true, false, false] rfl rfl (one_of HT_.out (by kernel_rfl)) (by decide) (fun K hK => ?_)
   refine goes_ Try.func44 (by kernel_rfl) rfl #[.agg #[.slice A1_0 l1_0.length c1_0, .slice A1_1 l1_1.length c1_1]] (by rfl) rfl rfl (by (try simp only [List.map_toArray, List.map_cons, List.map_nil]); first | done | rfl | (simp only [List.length_drop, List.length_take]; rfl)) ?_
   with_reducible refine (laws_toTally.calls k _ _ l1_0 _ _ l1_1 t111 t114 _ ?side1 ?side2 ?side3 ?side4 A19.out).mono ?_
   (case side1 => exact pC (Kd.C_below HR1_0.out HB.out))
   (case side2 => exact HC1_0.out)
   (case side3 => exact pC (Kd.C_below HR1_1.out HB.out))
   (case side4 => exact HC1_1.out)
   rintro e w35 ⟨v112, v115, rfl, ho0, ho1, hb⟩
   refine ⟨_, rfl, ?_⟩
   have n0_ := aK (rO2 (pR HO107.out) hb ho0 ho1)
   have n1_ := aK (rO2 (pR HO110.out) hb ho0 ho1)
   have HO113 := aK (Kd.R_lower (nw2 ho0 (pR HO107.out) (pR HO110.out)) (below_size (pS HB.out)))
   have HO116 := aK (Kd.R_lower (nw2 ho1 (pR HO107.out) (pR HO110.out)) (below_size (pS HB.out)))
   replace BK101 := bB BK101 hb
   replace BK102 := bB BK102 hb
   replace BK124 := bB BK124 hb
   replace HB := bS HB hb
   clear HO107 HO110
   have HO107 := n0_
   have HO110 := n1_
   clear n0_ n1_
   (try clear hb)
   (try clear hb2)
   (try clear hk)
   (try clear hi)
   (try clear ho0)
   (try clear ho1)
   obtain ⟨Ao36, co36, eo36⟩ := Kd.R_slice HO107.out
   (first | subst eo36 | (obtain ⟨f4_, f5_⟩ := sI eo36; subst f4_; subst f5_))
   obtain ⟨Ao37, co37, eo37⟩ := Kd.R_slice HO110.out
   (first | subst eo37 | (obtain ⟨f4_, f5_⟩ := sI eo37; subst f4_; subst f5_))
   obtain ⟨Ao38, co38, eo38⟩ := Kd.R_slice HO113.out
   (first | subst eo38 | (obtain ⟨f4_, f5_⟩ := sI eo38; subst f4_; subst f5_))
   obtain ⟨Ao39, co39, eo39⟩ := Kd.R_slice HO116.out
   (first | subst eo39 | (obtain ⟨f4_, f5_⟩ := sI eo39; subst f4_; subst f5_))
   refine hK.out _ _ (cj2 BK101.out (cz2 BK102.out)) (fun hHeld => ?_)
   clear hK K
   refine norm_ (a' := ?_) ?_ ?_
   rotate_left
   ·
    show Act.put _ (some 31) _ = _
    simp only [sP]
    rfl
   refine one_ (i := 4) (N := some 32) #[true, true, true, true, true, false, false, false, true, false, false] rfl rfl (one_of HT_.out (by kernel_rfl)) (by decide) (fun K hK => ?_)
   refine goes_ Try.func43 (by kernel_rfl) rfl #[.agg #[.slice Ao36 t105.length co36, .slice Ao37 t108.length co37], .agg #[.slice Ao38 t111.length co38, .slice Ao39 t114.length co39]] (by rfl) rfl rfl (by (try simp only [List.map_toArray, List.map_cons, List.map_nil]); first | done | rfl | (simp only [List.length_drop, List.length_take]; rfl)) ?_
   with_reducible refine (spec_AddTallies.calls k _ _ t105 _ _ t108 _ _ t111 _ _ t114 t117 t120 t123 _ ?side1 ?side2 ?side3 ?side4 ?side5 ?side6 ?side7 ?side8 A20.out).mono ?_
   (case side1 => exact pC (Kd.R_reads' HO107.out).2.2)
   (case side2 => exact (Kd.R_reads' HO107.out).2.1)
   (case side3 => exact pC (Kd.R_reads' HO110.out).2.2)
   (case side4 => exact (Kd.R_reads' HO110.out).2.1)
   (case side5 => exact pC (Kd.R_reads' HO113.out).2.2)
   (case side6 => exact (Kd.R_reads' HO113.out).2.1)
   (case side7 => exact pC (Kd.R_reads' HO116.out).2.2)
   (case side8 => exact (Kd.R_reads' HO116.out).2.1)
   rintro e w40 ⟨v118, v121, rfl, ho0, ho1, hb⟩
   refine ⟨_, rfl, ?_⟩
   have n0_ := aK (rO2 (pR HO107.out) hb ho0 ho1)
   have n1_ := aK (rO2 (pR HO110.out) hb ho0 ho1)
   have n2_ := aK (rO2 (pR HO113.out) hb ho0 ho1)
   have n3_ := aK (rO2 (pR HO116.out) hb ho0 ho1)
   have HO119 := aK (Kd.R_lower (nw4 ho0 (pR HO107.out) (pR HO110.out) (pR HO113.out) (pR HO116.out)) (below_size (pS HB.out)))
   have HO122 := aK (Kd.R_lower (nw4 ho1 (pR HO107.out) (pR HO110.out) (pR HO113.out) (pR HO116.out)) (below_size (pS HB.out)))
   replace BK101 := bB BK101 hb
   replace BK102 := bB BK102 hb
   replace BK124 := bB BK124 hb
   replace HB := bS HB hb
   clear HO107 HO110 HO113 HO116
   have HO107 := n0_
   have HO110 := n1_
   have HO113 := n2_
   have HO116 := n3_
   clear n0_ n1_ n2_ n3_
   (try clear hb)
   (try clear hb2)
   (try clear hk)
   (try clear hi)
   (try clear ho0)
   (try clear ho1)
   refine hK.out _ _ (cj2 BK101.out (cz2 BK102.out)) (fun hHeld => ?_)
   clear hK K
   refine norm_ (a' := ?_) ?_ ?_
   rotate_left
   ·
    show Act.put _ (some 32) _ = _
    simp only [sP]
    rfl
   refine pure_ (i := 5) (N := some 27) (v := ?_) (a' := ?_) #[true, true, true, true, true, true, false, false, true, false, false] rfl rfl (any_of HT_.out (by kernel_rfl)) (fun _ _ _ h => h) (Or.inl ⟨by rfl, ?_⟩) ?_ ?_
   rotate_left
   ·
    intro w'
    go_simp
    with_reducible rfl
   rotate_left
   ·
    simp only [sP]
    rfl
   refine pure_ (i := 6) (N := some 33) (v := ?_) (a' := ?_) #[true, true, true, true, true, true, true, false, true, false, false] rfl rfl (any_of HT_.out (by kernel_rfl)) (fun _ _ _ h => h) (Or.inl ⟨by rfl, ?_⟩) ?_ ?_
   rotate_left
   ·
    intro w'
    go_simp
    with_reducible rfl
   rotate_left
   ·
    simp only [sP]
    rfl
   refine pure_ (i := 7) (N := some 34) (v := ?_) (a' := ?_) #[true, true, true, true, true, true, true, true, true, false, false] rfl rfl (any_of HT_.out (by kernel_rfl)) (fun _ _ _ h => h) (Or.inl ⟨by rfl, ?_⟩) ?_ ?_
   rotate_left
   ·
    intro w'
    go_simp
    with_reducible rfl
   rotate_left
   ·
    simp only [sP]
    rfl
   exact norm_ (by simp only [putAll, Act.put, List.setIfInBounds_toArray, List.set_cons_zero, List.set_cons_succ]) (hCont (.slice Ao36 t105.length co36, .slice Ao37 t108.length co37, .slice Ao38 t111.length co38, .slice Ao39 t114.length co39, v118, v121, gb124) _ ⟨hHeld, (pR (rP HO107.out)), (pR (rP HO110.out)), (pR (rP HO113.out)), (pR (rP HO116.out)), (pR (rP HO119.out)), (pR (rP HO122.out)), (pB BK101.out), (pB BK102.out), (pB BK124.out), GW124.out, GE124.out, NB101_124.out, NB124_101.out, NB102_124.out, NB124_102.out, (pS HB.out)⟩)
  skip
  refine box_step ?hg (N := 6) ?hd (cs := #[.slice none 0 0, .slice none 0 0]) (t := 44) ?hr ?_; (case hd => rfl); (case hg => rfl); (case hr => first | (go_simp; done) | (go_simp; rfl))
  intro gb124 hg w33 hbox hb
  have BK124 := aK (hbox)
  have GW124 := aK (gE hg (pS HB.out))
  have GE124 := aK (gE hg (pS HB.out))
  have NB101_124 := aK (nL hg (pB BK101.out))
  have NB124_101 := aK (nG hg (pB BK101.out))
  have NB102_124 := aK (nL hg (pB BK102.out))
  have NB124_102 := aK (nG hg (pB BK102.out))
  replace BK101 := bB BK101 hb
  replace BK102 := bB BK102 hb
  replace HB := bS HB hb
  clear hb hbox hg
  refine hK.out _ _ (cj2 BK101.out (cz2 BK102.out)) (fun hHeld => ?_)
  clear hK K
  refine norm_ (a' := ?_) ?_ ?_
  rotate_left
  ·
   show Act.put _ (some 6) _ = _
   simp only [sP]
   rfl
  refine one_ (i := 1) (N := some 29) #[true, true, true, false, false, false, false, false, true, false, false] rfl rfl (one_of HT_.out (by kernel_rfl)) (by decide) (fun K hK => ?_)
  refine goes_ Try.func44 (by kernel_rfl) rfl #[.agg #[.slice A0_0 l0_0.length c0_0, .slice A0_1 l0_1.length c0_1]] (by rfl) rfl rfl (by (try simp only [List.map_toArray, List.map_cons, List.map_nil]); first | done | rfl | (simp only [List.length_drop, List.length_take]; rfl)) ?_
  with_reducible refine (laws_toTally.calls k _ _ l0_0 _ _ l0_1 t105 t108 _ ?side1 ?side2 ?side3 ?side4 A18.out).mono ?_
  (case side1 => exact pC (Kd.C_below HR0_0.out HB.out))
  (case side2 => exact HC0_0.out)
  (case side3 => exact pC (Kd.C_below HR0_1.out HB.out))
  (case side4 => exact HC0_1.out)
  rintro e w34 ⟨v106, v109, rfl, ho0, ho1, hb⟩
  refine ⟨_, rfl, ?_⟩
  have HO107 := aK (Kd.R_lower ho0 (below_size (pS HB.out)))
  have HO110 := aK (Kd.R_lower ho1 (below_size (pS HB.out)))
  replace BK101 := bB BK101 hb
  replace BK102 := bB BK102 hb
  replace BK124 := bB BK124 hb
  replace HB := bS HB hb
  (try clear hb)
  (try clear hb2)
  (try clear hk)
  (try clear hi)
  (try clear ho0)
  (try clear ho1)
  refine hK.out _ _ (cj2 BK101.out (cz2 BK102.out)) (fun hHeld => ?_)
  clear hK K
  refine norm_ (a' := ?_) ?_ ?_
  rotate_left
  ·
   show Act.put _ (some 29) _ = _
   simp only [sP]
   rfl
  refine one_ (i := 3) (N := some 31) #[true, true, true, true, false, false, false, false, true, false, false] rfl rfl (one_of HT_.out (by kernel_rfl)) (by decide) (fun K hK => ?_)
  refine goes_ Try.func44 (by kernel_rfl) rfl #[.agg #[.slice A1_0 l1_0.length c1_0, .slice A1_1 l1_1.length c1_1]] (by rfl) rfl rfl (by (try simp only [List.map_toArray, List.map_cons, List.map_nil]); first | done | rfl | (simp only [List.length_drop, List.length_take]; rfl)) ?_
  with_reducible refine (laws_toTally.calls k _ _ l1_0 _ _ l1_1 t111 t114 _ ?side1 ?side2 ?side3 ?side4 A19.out).mono ?_
  (case side1 => exact pC (Kd.C_below HR1_0.out HB.out))
  (case side2 => exact HC1_0.out)
  (case side3 => exact pC (Kd.C_below HR1_1.out HB.out))
  (case side4 => exact HC1_1.out)
  rintro e w35 ⟨v112, v115, rfl, ho0, ho1, hb⟩
  refine ⟨_, rfl, ?_⟩
  have n0_ := aK (rO2 (pR HO107.out) hb ho0 ho1)
  have n1_ := aK (rO2 (pR HO110.out) hb ho0 ho1)
  have HO113 := aK (Kd.R_lower (nw2 ho0 (pR HO107.out) (pR HO110.out)) (below_size (pS HB.out)))
  have HO116 := aK (Kd.R_lower (nw2 ho1 (pR HO107.out) (pR HO110.out)) (below_size (pS HB.out)))
  replace BK101 := bB BK101 hb
  replace BK102 := bB BK102 hb
  replace BK124 := bB BK124 hb
  replace HB := bS HB hb
  clear HO107 HO110
  have HO107 := n0_
  have HO110 := n1_
  clear n0_ n1_
  (try clear hb)
  (try clear hb2)
  (try clear hk)
  (try clear hi)
  (try clear ho0)
  (try clear ho1)
  obtain ⟨Ao36, co36, eo36⟩ := Kd.R_slice HO107.out
  (first | subst eo36 | (obtain ⟨f4_, f5_⟩ := sI eo36; subst f4_; subst f5_))
  obtain ⟨Ao37, co37, eo37⟩ := Kd.R_slice HO110.out
  (first | subst eo37 | (obtain ⟨f4_, f5_⟩ := sI eo37; subst f4_; subst f5_))
  obtain ⟨Ao38, co38, eo38⟩ := Kd.R_slice HO113.out
  (first | subst eo38 | (obtain ⟨f4_, f5_⟩ := sI eo38; subst f4_; subst f5_))
  obtain ⟨Ao39, co39, eo39⟩ := Kd.R_slice HO116.out
  (first | subst eo39 | (obtain ⟨f4_, f5_⟩ := sI eo39; subst f4_; subst f5_))
  refine hK.out _ _ (cj2 BK101.out (cz2 BK102.out)) (fun hHeld => ?_)
  clear hK K
  refine norm_ (a' := ?_) ?_ ?_
  rotate_left
  ·
   show Act.put _ (some 31) _ = _
   simp only [sP]
   rfl
  refine one_ (i := 4) (N := some 32) #[true, true, true, true, true, false, false, false, true, false, false] rfl rfl (one_of HT_.out (by kernel_rfl)) (by decide) (fun K hK => ?_)
  refine goes_ Try.func43 (by kernel_rfl) rfl #[.agg #[.slice Ao36 t105.length co36, .slice Ao37 t108.length co37], .agg #[.slice Ao38 t111.length co38, .slice Ao39 t114.length co39]] (by rfl) rfl rfl (by (try simp only [List.map_toArray, List.map_cons, List.map_nil]); first | done | rfl | (simp only [List.length_drop, List.length_take]; rfl)) ?_
  with_reducible refine (spec_AddTallies.calls k _ _ t105 _ _ t108 _ _ t111 _ _ t114 t117 t120 t123 _ ?side1 ?side2 ?side3 ?side4 ?side5 ?side6 ?side7 ?side8 A20.out).mono ?_
  (case side1 => exact pC (Kd.R_reads' HO107.out).2.2)
  (case side2 => exact (Kd.R_reads' HO107.out).2.1)
  (case side3 => exact pC (Kd.R_reads' HO110.out).2.2)
  (case side4 => exact (Kd.R_reads' HO110.out).2.1)
  (case side5 => exact pC (Kd.R_reads' HO113.out).2.2)
  (case side6 => exact (Kd.R_reads' HO113.out).2.1)
  (case side7 => exact pC (Kd.R_reads' HO116.out).2.2)
  (case side8 => exact (Kd.R_reads' HO116.out).2.1)
  rintro e w40 ⟨v118, v121, rfl, ho0, ho1, hb⟩
  refine ⟨_, rfl, ?_⟩
  have n0_ := aK (rO2 (pR HO107.out) hb ho0 ho1)
  have n1_ := aK (rO2 (pR HO110.out) hb ho0 ho1)
  have n2_ := aK (rO2 (pR HO113.out) hb ho0 ho1)
  have n3_ := aK (rO2 (pR HO116.out) hb ho0 ho1)
  have HO119 := aK (Kd.R_lower (nw4 ho0 (pR HO107.out) (pR HO110.out) (pR HO113.out) (pR HO116.out)) (below_size (pS HB.out)))
  have HO122 := aK (Kd.R_lower (nw4 ho1 (pR HO107.out) (pR HO110.out) (pR HO113.out) (pR HO116.out)) (below_size (pS HB.out)))
  replace BK101 := bB BK101 hb
  replace BK102 := bB BK102 hb
  replace BK124 := bB BK124 hb
  replace HB := bS HB hb
  clear HO107 HO110 HO113 HO116
  have HO107 := n0_
  have HO110 := n1_
  have HO113 := n2_
  have HO116 := n3_
  clear n0_ n1_ n2_ n3_
  (try clear hb)
  (try clear hb2)
  (try clear hk)
  (try clear hi)
  (try clear ho0)
  (try clear ho1)
  refine hK.out _ _ (cj2 BK101.out (cz2 BK102.out)) (fun hHeld => ?_)
  clear hK K
  refine norm_ (a' := ?_) ?_ ?_
  rotate_left
  ·
   show Act.put _ (some 32) _ = _
   simp only [sP]
   rfl
  refine pure_ (i := 5) (N := some 27) (v := ?_) (a' := ?_) #[true, true, true, true, true, true, false, false, true, false, false] rfl rfl (any_of HT_.out (by kernel_rfl)) (fun _ _ _ h => h) (Or.inl ⟨by rfl, ?_⟩) ?_ ?_
  rotate_left
  ·
   intro w'
   go_simp
   with_reducible rfl
  rotate_left
  ·
   simp only [sP]
   rfl
  refine pure_ (i := 6) (N := some 33) (v := ?_) (a' := ?_) #[true, true, true, true, true, true, true, false, true, false, false] rfl rfl (any_of HT_.out (by kernel_rfl)) (fun _ _ _ h => h) (Or.inl ⟨by rfl, ?_⟩) ?_ ?_
  rotate_left
  ·
   intro w'
   go_simp
   with_reducible rfl
  rotate_left
  ·
   simp only [sP]
   rfl
  refine pure_ (i := 7) (N := some 34) (v := ?_) (a' := ?_) #[true, true, true, true, true, true, true, true, true, false, false] rfl rfl (any_of HT_.out (by kernel_rfl)) (fun _ _ _ h => h) (Or.inl ⟨by rfl, ?_⟩) ?_ ?_
  rotate_left
  ·
   intro w'
   go_simp
   with_reducible rfl
  rotate_left
  ·
   simp only [sP]
   rfl
  exact norm_ (by simp only [putAll, Act.put, List.setIfInBounds_toArray, List.set_cons_zero, List.set_cons_succ]) (hCont (.slice Ao36 t105.length co36, .slice Ao37 t108.length co37, .slice Ao38 t111.length co38, .slice Ao39 t114.length co39, v118, v121, gb124) _ ⟨hHeld, (pR (rP HO107.out)), (pR (rP HO110.out)), (pR (rP HO113.out)), (pR (rP HO116.out)), (pR (rP HO119.out)), (pR (rP HO122.out)), (pB BK101.out), (pB BK102.out), (pB BK124.out), GW124.out, GE124.out, NB101_124.out, NB124_101.out, NB102_124.out, NB124_102.out, (pS HB.out)⟩)
 rintro ⟨v106, v109, v112, v115, v118, v121, gb124⟩ w41 ⟨hS_, h0_, h1_, h2_, h3_, h4_, h5_, h6_, h7_, h8_, h9_, h10_, h11_, h12_, h13_, h14_, h15_⟩
 have n0_ : Aside0 (Kd.R (Kd.int .i64) 3 w41 w.heap.size (fun k_ => some k_ ≠ (v109 : Value).ownBlock ∧ some k_ ≠ (v112 : Value).ownBlock ∧ some k_ ≠ (v115 : Value).ownBlock ∧ some k_ ≠ (v118 : Value).ownBlock ∧ some k_ ≠ (v121 : Value).ownBlock) v106 t105) := ⟨h0_⟩
 have n1_ : Aside0 (Kd.R (Kd.int .i64) 3 w41 w.heap.size (fun k_ => some k_ ≠ (v106 : Value).ownBlock ∧ some k_ ≠ (v112 : Value).ownBlock ∧ some k_ ≠ (v115 : Value).ownBlock ∧ some k_ ≠ (v118 : Value).ownBlock ∧ some k_ ≠ (v121 : Value).ownBlock) v109 t108) := ⟨h1_⟩
 have n2_ : Aside0 (Kd.R (Kd.int .i64) 3 w41 w.heap.size (fun k_ => some k_ ≠ (v106 : Value).ownBlock ∧ some k_ ≠ (v109 : Value).ownBlock ∧ some k_ ≠ (v115 : Value).ownBlock ∧ some k_ ≠ (v118 : Value).ownBlock ∧ some k_ ≠ (v121 : Value).ownBlock) v112 t111) := ⟨h2_⟩
 have n3_ : Aside0 (Kd.R (Kd.int .i64) 3 w41 w.heap.size (fun k_ => some k_ ≠ (v106 : Value).ownBlock ∧ some k_ ≠ (v109 : Value).ownBlock ∧ some k_ ≠ (v112 : Value).ownBlock ∧ some k_ ≠ (v118 : Value).ownBlock ∧ some k_ ≠ (v121 : Value).ownBlock) v115 t114) := ⟨h3_⟩
 have n4_ : Aside0 (Kd.R (Kd.int .i64) 3 w41 w.heap.size (fun k_ => some k_ ≠ (v106 : Value).ownBlock ∧ some k_ ≠ (v109 : Value).ownBlock ∧ some k_ ≠ (v112 : Value).ownBlock ∧ some k_ ≠ (v115 : Value).ownBlock ∧ some k_ ≠ (v121 : Value).ownBlock) v118 t117) := ⟨h4_⟩
 have n5_ : Aside0 (Kd.R (Kd.int .i64) 3 w41 w.heap.size (fun k_ => some k_ ≠ (v106 : Value).ownBlock ∧ some k_ ≠ (v109 : Value).ownBlock ∧ some k_ ≠ (v112 : Value).ownBlock ∧ some k_ ≠ (v115 : Value).ownBlock ∧ some k_ ≠ (v118 : Value).ownBlock) v121 t120) := ⟨h5_⟩
 have n6_ : Aside0 (w41.heap[gb101]? = some (.cells #[.slice A0_0 l0_0.length c0_0, .slice A0_1 l0_1.length c0_1] 42 (0, 0))) := ⟨h6_⟩
 have n7_ : Aside0 (w41.heap[gb102]? = some (.cells #[.slice A1_0 l1_0.length c1_0, .slice A1_1 l1_1.length c1_1] 42 (0, 0))) := ⟨h7_⟩
 have n8_ : Aside0 (w41.heap[gb124]? = some (.cells #[.slice none 0 0, .slice none 0 0] 44 (0, 0))) := ⟨h8_⟩
 have n9_ : Aside0 (w.heap.size ≤ gb124) := ⟨h9_⟩
 have n10_ : Aside0 (w.heap.size ≤ gb124) := ⟨h10_⟩
 have n11_ : Aside0 (gb101 ≠ gb124) := ⟨h11_⟩
 have n12_ : Aside0 (gb124 ≠ gb101) := ⟨h12_⟩
 have n13_ : Aside0 (gb102 ≠ gb124) := ⟨h13_⟩
 have n14_ : Aside0 (gb124 ≠ gb102) := ⟨h14_⟩
 have n15_ : Aside0 (Below w.heap.size w w41) := ⟨h15_⟩
 clear BK101 BK102 HB h0_ h1_ h2_ h3_ h4_ h5_ h6_ h7_ h8_ h9_ h10_ h11_ h12_ h13_ h14_ h15_
 have HO107 := n0_
 have HO110 := n1_
 have HO113 := n2_
 have HO116 := n3_
 have HO119 := n4_
 have HO122 := n5_
 have BK101 := n6_
 have BK102 := n7_
 have BK124 := n8_
 have GW124 := n9_
 have GE124 := n10_
 have NB101_124 := n11_
 have NB124_101 := n12_
 have NB102_124 := n13_
 have NB124_102 := n14_
 have HB := n15_
 clear n0_ n1_ n2_ n3_ n4_ n5_ n6_ n7_ n8_ n9_ n10_ n11_ n12_ n13_ n14_ n15_
 have hHeld : w41.cell? ⟨gb101, 0, none⟩ = some (.slice A0_0 l0_0.length c0_0) ∧ w41.cell? ⟨gb101, 1, none⟩ = some (.slice A0_1 l0_1.length c0_1) ∧ w41.cell? ⟨gb102, 0, none⟩ = some (.slice A1_0 l1_0.length c1_0) ∧ w41.cell? ⟨gb102, 1, none⟩ = some (.slice A1_1 l1_1.length c1_1) := hS_
 obtain ⟨Ao42, co42, eo42⟩ := Kd.R_slice HO119.out
 (first | subst eo42 | (obtain ⟨f4_, f5_⟩ := sI eo42; subst f4_; subst f5_))
 obtain ⟨Ao44, co44, eo44⟩ := Kd.R_slice HO122.out
 (first | subst eo44 | (obtain ⟨f4_, f5_⟩ := sI eo44; subst f4_; subst f5_))
 refine norm_ (a' := ?_) ?_ ?_
 rotate_left
 ·
  simp only [putAll, Act.put, List.setIfInBounds_toArray, List.set_cons_zero, List.set_cons_succ]
  rfl
 refine one_ (i := 9) (N := none) #[true, true, true, true, true, true, true, true, true, true, false] rfl rfl (one_of HT_.out (by kernel_rfl)) (by decide) (fun K hK => ?_)
 have hs43 : w41.cell? ⟨gb124, 0, none⟩ = some (.slice none 0 0) := (blk_cell BK124.out 0).trans rfl
 have hfs43 := blk_frozen BK124.out 0
 have hns43_0 := NB101_124.out
 have hns43_1 := NB102_124.out
 have hms43_0 := NB124_101.out
 have hms43_1 := NB124_102.out
 have hs45 : w41.cell? ⟨gb124, 1, none⟩ = some (.slice none 0 0) := (blk_cell BK124.out 1).trans rfl
 have hfs45 := blk_frozen BK124.out 1
 have hns45_0 := NB101_124.out
 have hns45_1 := NB102_124.out
 have hms45_0 := NB124_101.out
 have hms45_1 := NB124_102.out
 refine skip_ (w1 := ?_) (by rfl) rfl ?_ ?_
 rotate_left
 ·
  go_simp
  rfl
 refine hK.out _ _ ⟨((cell_far (p := ⟨gb124, _, none⟩) NB101_124.out _).trans (((cell_far (p := ⟨gb124, _, none⟩) NB101_124.out _).trans (hHeld.1)))), ((cell_far (p := ⟨gb124, _, none⟩) NB101_124.out _).trans (((cell_far (p := ⟨gb124, _, none⟩) NB101_124.out _).trans (hHeld.2.1)))), ((cell_far (p := ⟨gb124, _, none⟩) NB102_124.out _).trans (((cell_far (p := ⟨gb124, _, none⟩) NB102_124.out _).trans (hHeld.2.2.1)))), ((cell_far (p := ⟨gb124, _, none⟩) NB102_124.out _).trans (((cell_far (p := ⟨gb124, _, none⟩) NB102_124.out _).trans (hHeld.2.2.2))))⟩ (fun hHeld => ?_)
 clear hK K
 refine pure_ (i := 10) (N := some 7) (v := ?_) (a' := ?_) #[true, true, true, true, true, true, true, true, true, true, true] rfl rfl (any_of HT_.out (by kernel_rfl)) (fun _ _ _ h => h) (Or.inl ⟨by rfl, ?_⟩) ?_ ?_
 rotate_left
 ·
  intro w'
  go_simp
  with_reducible rfl
 rotate_left
 ·
  simp only [sP]
  rfl
 refine done_ (done_of HT_.out (by kernel_rfl)) ?_
 have hnb46 := NB101_124.out
 have hnc46 := NB124_101.out
 obtain ⟨hcz47_0, hcz47_1, hfz47_0, hfz47_1⟩ := bc2 BK101.out
 replace HO119 := aK (Kd.R_mono HO119.out (fun _ h => h.2.2.2.2))
 replace HO122 := aK (Kd.R_mono HO122.out (fun _ h => h.2.2.2.2))
 go_upto_region 12 with (first | ((with_reducible refine gate_callee (f := 44) rfl ?_); refine gl (some 36) Try.func44 #[.agg #[.slice A0_0 l0_0.length c0_0, .slice A0_1 l0_1.length c0_1]] ?_; (with_reducible refine (laws_toTally.calls k _ _ l0_0 _ _ l0_1 t125 t128 _ ?side1 ?side2 ?side3 ?side4 A21.out).mono ?_); (case side1 => exact Kd.C_below HR0_0.out (pS HB.out)); (case side2 => exact HC0_0.out); (case side3 => exact Kd.C_below HR0_1.out (pS HB.out)); (case side4 => exact HC0_1.out); rintro e w48 ⟨v126, v129, rfl, ho0, ho1, hb⟩; refine ⟨_, rfl, ?_⟩; have e2_ := aR hb (pR (rF2 HO119.out BK124.out (.slice Ao42 t117.length co42) (.slice Ao44 t120.length co44))); have n0_ := aK (rO2 e2_.out hb ho0 ho1); have e1_ := aR hb (pR (rF2 HO122.out BK124.out (.slice Ao42 t117.length co42) (.slice Ao44 t120.length co44))); have n1_ := aK (rO2 e1_.out hb ho0 ho1); have HO127 := aK (Kd.R_lower (nw2 ho0 e2_.out e1_.out) (below_size (pS HB.out))); have HO130 := aK (Kd.R_lower (nw2 ho1 e2_.out e1_.out) (below_size (pS HB.out))); clear e2_; clear e1_; have n4_ := aK (blk_below (g := gb101) (o := .cells #[.slice A0_0 l0_0.length c0_0, .slice A0_1 l0_1.length c0_1] 42 (0, 0)) (by refine bk ?_; refine blk_far ?_ NB101_124.out _; refine bk ?_; refine blk_far ?_ NB101_124.out _; refine bk ?_; exact BK101.out) hb); have n5_ := aK (blk_below (g := gb102) (o := .cells #[.slice A1_0 l1_0.length c1_0, .slice A1_1 l1_1.length c1_1] 42 (0, 0)) (by refine bk ?_; refine blk_far ?_ NB102_124.out _; refine bk ?_; refine blk_far ?_ NB102_124.out _; refine bk ?_; exact BK102.out) hb); have n6_ := aK (blk_below (g := gb124) (o := .cells #[.slice Ao42 t117.length co42, .slice Ao44 t120.length co44] 44 (0, 0)) (by refine bk ?_; refine blk_put (cs := #[.slice Ao42 t117.length co42, .slice none 0 0]) ?_ 1 _ rfl; refine bk ?_; refine blk_put (cs := #[.slice none 0 0, .slice none 0 0]) ?_ 0 _ rfl; refine bk ?_; exact BK124.out) hb); replace HB := bS HB hb; clear HO119 HO122 BK101 BK102 BK124; have HO119 := n0_; have HO122 := n1_; have BK101 := n4_; have BK102 := n5_; have BK124 := n6_; clear n0_ n1_ n4_ n5_ n6_; (try clear hb); (try clear hb2); (try clear hk); (try clear hi); (try clear ho0); (try clear ho1)) | ((with_reducible refine gate_dst (N := 8) rfl ?_); refine bxe (cs := #[.slice none 0 0, .slice none 0 0]) (t := 44) ?_; intro gb131 hg w49 hbox hb; have n0_ := aK (Kd.R_below (pR HO119.out) hb); have n1_ := aK (Kd.R_below (pR HO122.out) hb); have n2_ := aK (Kd.R_below (pR HO127.out) hb); have n3_ := aK (Kd.R_below (pR HO130.out) hb); have BK131 := aK (hbox); have GW131 := aK (gE hg (pS HB.out)); have GE131 := aK (gE hg (pS HB.out)); have NB101_131 := aK (nL hg (pB BK101.out)); have NB131_101 := aK (nG hg (pB BK101.out)); have NB102_131 := aK (nL hg (pB BK102.out)); have NB131_102 := aK (nG hg (pB BK102.out)); have NB124_131 := aK (nL hg (pB BK124.out)); have NB131_124 := aK (nG hg (pB BK124.out)); replace BK101 := bB BK101 hb; replace BK102 := bB BK102 hb; replace BK124 := bB BK124 hb; replace HB := bS HB hb; clear HO119 HO122 HO127 HO130; have HO119 := n0_; have HO122 := n1_; have HO127 := n2_; have HO130 := n3_; clear n0_ n1_ n2_ n3_ hb hbox hg; obtain ⟨Ao50, co50, eo50⟩ := Kd.R_slice HO127.out; subst eo50; have hnb51 := NB131_101.out; have hnc51 := NB101_131.out; have hnb52 := NB131_102.out; have hnc52 := NB102_131.out; have hnb53 := NB131_124.out; have hnc53 := NB124_131.out; obtain ⟨hcz54_0, hcz54_1, hfz54_0, hfz54_1⟩ := bc2 BK131.out; obtain ⟨Ao55, co55, eo55⟩ := Kd.R_slice HO130.out; subst eo55; have hnb56 := NB102_124.out; have hnc56 := NB124_102.out; obtain ⟨hcz57_0, hcz57_1, hfz57_0, hfz57_1⟩ := bc2 BK102.out) | ((with_reducible refine gate_callee (f := 44) rfl ?_); refine gl (some 38) Try.func44 #[.agg #[.slice A1_0 l1_0.length c1_0, .slice A1_1 l1_1.length c1_1]] ?_; (with_reducible refine (laws_toTally.calls k _ _ l1_0 _ _ l1_1 t132 t135 _ ?side1 ?side2 ?side3 ?side4 A22.out).mono ?_); (case side1 => exact Kd.C_below HR1_0.out (pS HB.out)); (case side2 => exact HC1_0.out); (case side3 => exact Kd.C_below HR1_1.out (pS HB.out)); (case side4 => exact HC1_1.out); rintro e w58 ⟨v133, v136, rfl, ho0, ho1, hb⟩; refine ⟨_, rfl, ?_⟩; have e4_ := aR hb (pR (rF2 HO119.out BK131.out (.slice Ao50 t125.length co50) (.slice Ao55 t128.length co55))); have n0_ := aK (rO2 e4_.out hb ho0 ho1); have e3_ := aR hb (pR (rF2 HO122.out BK131.out (.slice Ao50 t125.length co50) (.slice Ao55 t128.length co55))); have n1_ := aK (rO2 e3_.out hb ho0 ho1); have e2_ := aR hb (pR (rF2 HO127.out BK131.out (.slice Ao50 t125.length co50) (.slice Ao55 t128.length co55))); have n2_ := aK (rO2 e2_.out hb ho0 ho1); have e1_ := aR hb (pR (rF2 HO130.out BK131.out (.slice Ao50 t125.length co50) (.slice Ao55 t128.length co55))); have n3_ := aK (rO2 e1_.out hb ho0 ho1); have HO134 := aK (Kd.R_lower (nw4 ho0 e4_.out e3_.out e2_.out e1_.out) (below_size (pS HB.out))); have HO137 := aK (Kd.R_lower (nw4 ho1 e4_.out e3_.out e2_.out e1_.out) (below_size (pS HB.out))); clear e4_; clear e3_; clear e2_; clear e1_; have n6_ := aK (blk_below (g := gb101) (o := .cells #[.slice A0_0 l0_0.length c0_0, .slice A0_1 l0_1.length c0_1] 42 (0, 0)) (by refine bk ?_; refine blk_far ?_ NB101_131.out _; refine bk ?_; refine blk_far ?_ NB101_131.out _; refine bk ?_; exact BK101.out) hb); have n7_ := aK (blk_below (g := gb102) (o := .cells #[.slice A1_0 l1_0.length c1_0, .slice A1_1 l1_1.length c1_1] 42 (0, 0)) (by refine bk ?_; refine blk_far ?_ NB102_131.out _; refine bk ?_; refine blk_far ?_ NB102_131.out _; refine bk ?_; exact BK102.out) hb); have n8_ := aK (blk_below (g := gb124) (o := .cells #[.slice Ao42 t117.length co42, .slice Ao44 t120.length co44] 44 (0, 0)) (by refine bk ?_; refine blk_far ?_ NB124_131.out _; refine bk ?_; refine blk_far ?_ NB124_131.out _; refine bk ?_; exact BK124.out) hb); have n9_ := aK (blk_below (g := gb131) (o := .cells #[.slice Ao50 t125.length co50, .slice Ao55 t128.length co55] 44 (0, 0)) (by refine bk ?_; refine blk_put (cs := #[.slice Ao50 t125.length co50, .slice none 0 0]) ?_ 1 _ rfl; refine bk ?_; refine blk_put (cs := #[.slice none 0 0, .slice none 0 0]) ?_ 0 _ rfl; refine bk ?_; exact BK131.out) hb); replace HB := bS HB hb; clear HO119 HO122 HO127 HO130 BK101 BK102 BK124 BK131; have HO119 := n0_; have HO122 := n1_; have HO127 := n2_; have HO130 := n3_; have BK101 := n6_; have BK102 := n7_; have BK124 := n8_; have BK131 := n9_; clear n0_ n1_ n2_ n3_ n6_ n7_ n8_ n9_; (try clear hb); (try clear hb2); (try clear hk); (try clear hi); (try clear ho0); (try clear ho1)) | ((with_reducible refine gate_dst (N := 9) rfl ?_); refine bxe (cs := #[.slice none 0 0, .slice none 0 0]) (t := 44) ?_; intro gb138 hg w59 hbox hb; have n0_ := aK (Kd.R_below (pR HO119.out) hb); have n1_ := aK (Kd.R_below (pR HO122.out) hb); have n2_ := aK (Kd.R_below (pR HO127.out) hb); have n3_ := aK (Kd.R_below (pR HO130.out) hb); have n4_ := aK (Kd.R_below (pR HO134.out) hb); have n5_ := aK (Kd.R_below (pR HO137.out) hb); have BK138 := aK (hbox); have GW138 := aK (gE hg (pS HB.out)); have GE138 := aK (gE hg (pS HB.out)); have NB101_138 := aK (nL hg (pB BK101.out)); have NB138_101 := aK (nG hg (pB BK101.out)); have NB102_138 := aK (nL hg (pB BK102.out)); have NB138_102 := aK (nG hg (pB BK102.out)); have NB124_138 := aK (nL hg (pB BK124.out)); have NB138_124 := aK (nG hg (pB BK124.out)); have NB131_138 := aK (nL hg (pB BK131.out)); have NB138_131 := aK (nG hg (pB BK131.out)); replace BK101 := bB BK101 hb; replace BK102 := bB BK102 hb; replace BK124 := bB BK124 hb; replace BK131 := bB BK131 hb; replace HB := bS HB hb; clear HO119 HO122 HO127 HO130 HO134 HO137; have HO119 := n0_; have HO122 := n1_; have HO127 := n2_; have HO130 := n3_; have HO134 := n4_; have HO137 := n5_; clear n0_ n1_ n2_ n3_ n4_ n5_ hb hbox hg; obtain ⟨Ao60, co60, eo60⟩ := Kd.R_slice HO134.out; subst eo60; have hnb61 := NB138_101.out; have hnc61 := NB101_138.out; have hnb62 := NB138_102.out; have hnc62 := NB102_138.out; have hnb63 := NB138_124.out; have hnc63 := NB124_138.out; have hnb64 := NB138_131.out; have hnc64 := NB131_138.out; obtain ⟨hcz65_0, hcz65_1, hfz65_0, hfz65_1⟩ := bc2 BK138.out; obtain ⟨Ao66, co66, eo66⟩ := Kd.R_slice HO137.out; subst eo66; obtain ⟨hcz67_0, hcz67_1, hfz67_0, hfz67_1⟩ := bc2 BK131.out) | ((with_reducible refine gate_callee (f := 45) rfl ?_); refine gl (some 42) Try.func45 #[.agg #[.slice Ao50 t125.length co50, .slice Ao55 t128.length co55], .agg #[.slice Ao60 t132.length co60, .slice Ao66 t135.length co66]] ?_; (with_reducible refine (impl_AddTallies.calls k _ _ t125 _ _ t128 _ _ t132 _ _ t135 t139 t142 t145 _ ?side1 ?side2 ?side3 ?side4 ?side5 ?side6 ?side7 ?side8 A23.out).mono ?_); (case side1 => exact rC (pR (rF2 HO127.out BK138.out (.slice Ao60 t132.length co60) (.slice Ao66 t135.length co66)))); (case side2 => exact (Kd.R_reads' HO127.out).2.1); (case side3 => exact rC (pR (rF2 HO130.out BK138.out (.slice Ao60 t132.length co60) (.slice Ao66 t135.length co66)))); (case side4 => exact (Kd.R_reads' HO130.out).2.1); (case side5 => exact rC (pR (rF2 HO134.out BK138.out (.slice Ao60 t132.length co60) (.slice Ao66 t135.length co66)))); (case side6 => exact (Kd.R_reads' HO134.out).2.1); (case side7 => exact rC (pR (rF2 HO137.out BK138.out (.slice Ao60 t132.length co60) (.slice Ao66 t135.length co66)))); (case side8 => exact (Kd.R_reads' HO137.out).2.1); rintro e w68 ⟨v140, v143, rfl, ho0, ho1, hb⟩; refine ⟨_, rfl, ?_⟩; have e6_ := aR hb (pR (rF2 HO119.out BK138.out (.slice Ao60 t132.length co60) (.slice Ao66 t135.length co66))); have n0_ := aK (rO2 e6_.out hb ho0 ho1); have e5_ := aR hb (pR (rF2 HO122.out BK138.out (.slice Ao60 t132.length co60) (.slice Ao66 t135.length co66))); have n1_ := aK (rO2 e5_.out hb ho0 ho1); have e4_ := aR hb (pR (rF2 HO127.out BK138.out (.slice Ao60 t132.length co60) (.slice Ao66 t135.length co66))); have n2_ := aK (rO2 e4_.out hb ho0 ho1); have e3_ := aR hb (pR (rF2 HO130.out BK138.out (.slice Ao60 t132.length co60) (.slice Ao66 t135.length co66))); have n3_ := aK (rO2 e3_.out hb ho0 ho1); have e2_ := aR hb (pR (rF2 HO134.out BK138.out (.slice Ao60 t132.length co60) (.slice Ao66 t135.length co66))); have n4_ := aK (rO2 e2_.out hb ho0 ho1); have e1_ := aR hb (pR (rF2 HO137.out BK138.out (.slice Ao60 t132.length co60) (.slice Ao66 t135.length co66))); have n5_ := aK (rO2 e1_.out hb ho0 ho1); have HO141 := aK (Kd.R_lower (nw2 (nw4 ho0 e6_.out e5_.out e4_.out e3_.out) e2_.out e1_.out) (below_size (pS HB.out))); have HO144 := aK (Kd.R_lower (nw2 (nw4 ho1 e6_.out e5_.out e4_.out e3_.out) e2_.out e1_.out) (below_size (pS HB.out))); clear e6_; clear e5_; clear e4_; clear e3_; clear e2_; clear e1_; have n8_ := aK (blk_below (g := gb101) (o := .cells #[.slice A0_0 l0_0.length c0_0, .slice A0_1 l0_1.length c0_1] 42 (0, 0)) (by refine bk ?_; refine blk_far ?_ NB101_138.out _; refine bk ?_; refine blk_far ?_ NB101_138.out _; refine bk ?_; exact BK101.out) hb); have n9_ := aK (blk_below (g := gb102) (o := .cells #[.slice A1_0 l1_0.length c1_0, .slice A1_1 l1_1.length c1_1] 42 (0, 0)) (by refine bk ?_; refine blk_far ?_ NB102_138.out _; refine bk ?_; refine blk_far ?_ NB102_138.out _; refine bk ?_; exact BK102.out) hb); have n10_ := aK (blk_below (g := gb124) (o := .cells #[.slice Ao42 t117.length co42, .slice Ao44 t120.length co44] 44 (0, 0)) (by refine bk ?_; refine blk_far ?_ NB124_138.out _; refine bk ?_; refine blk_far ?_ NB124_138.out _; refine bk ?_; exact BK124.out) hb); have n11_ := aK (blk_below (g := gb131) (o := .cells #[.slice Ao50 t125.length co50, .slice Ao55 t128.length co55] 44 (0, 0)) (by refine bk ?_; refine blk_far ?_ NB131_138.out _; refine bk ?_; refine blk_far ?_ NB131_138.out _; refine bk ?_; exact BK131.out) hb); have n12_ := aK (blk_below (g := gb138) (o := .cells #[.slice Ao60 t132.length co60, .slice Ao66 t135.length co66] 44 (0, 0)) (by refine bk ?_; refine blk_put (cs := #[.slice Ao60 t132.length co60, .slice none 0 0]) ?_ 1 _ rfl; refine bk ?_; refine blk_put (cs := #[.slice none 0 0, .slice none 0 0]) ?_ 0 _ rfl; refine bk ?_; exact BK138.out) hb); replace HB := bS HB hb; clear HO119 HO122 HO127 HO130 HO134 HO137 BK101 BK102 BK124 BK131 BK138; have HO119 := n0_; have HO122 := n1_; have HO127 := n2_; have HO130 := n3_; have HO134 := n4_; have HO137 := n5_; have BK101 := n8_; have BK102 := n9_; have BK124 := n10_; have BK131 := n11_; have BK138 := n12_; clear n0_ n1_ n2_ n3_ n4_ n5_ n8_ n9_ n10_ n11_ n12_; (try clear hb); (try clear hb2); (try clear hk); (try clear hi); (try clear ho0); (try clear ho1)) | ((with_reducible refine gate_dst (N := 10) rfl ?_); refine bxe (cs := #[.slice none 0 0, .slice none 0 0]) (t := 44) ?_; intro gb146 hg w69 hbox hb; have n0_ := aK (Kd.R_below (pR HO119.out) hb); have n1_ := aK (Kd.R_below (pR HO122.out) hb); have n2_ := aK (Kd.R_below (pR HO127.out) hb); have n3_ := aK (Kd.R_below (pR HO130.out) hb); have n4_ := aK (Kd.R_below (pR HO134.out) hb); have n5_ := aK (Kd.R_below (pR HO137.out) hb); have n6_ := aK (Kd.R_below (pR HO141.out) hb); have n7_ := aK (Kd.R_below (pR HO144.out) hb); have BK146 := aK (hbox); have GW146 := aK (gE hg (pS HB.out)); have GE146 := aK (gE hg (pS HB.out)); have NB101_146 := aK (nL hg (pB BK101.out)); have NB146_101 := aK (nG hg (pB BK101.out)); have NB102_146 := aK (nL hg (pB BK102.out)); have NB146_102 := aK (nG hg (pB BK102.out)); have NB124_146 := aK (nL hg (pB BK124.out)); have NB146_124 := aK (nG hg (pB BK124.out)); have NB131_146 := aK (nL hg (pB BK131.out)); have NB146_131 := aK (nG hg (pB BK131.out)); have NB138_146 := aK (nL hg (pB BK138.out)); have NB146_138 := aK (nG hg (pB BK138.out)); replace BK101 := bB BK101 hb; replace BK102 := bB BK102 hb; replace BK124 := bB BK124 hb; replace BK131 := bB BK131 hb; replace BK138 := bB BK138 hb; replace HB := bS HB hb; clear HO119 HO122 HO127 HO130 HO134 HO137 HO141 HO144; have HO119 := n0_; have HO122 := n1_; have HO127 := n2_; have HO130 := n3_; have HO134 := n4_; have HO137 := n5_; have HO141 := n6_; have HO144 := n7_; clear n0_ n1_ n2_ n3_ n4_ n5_ n6_ n7_ hb hbox hg; obtain ⟨Ao70, co70, eo70⟩ := Kd.R_slice HO141.out; subst eo70; have hnb71 := NB146_101.out; have hnc71 := NB101_146.out; have hnb72 := NB146_102.out; have hnc72 := NB102_146.out; have hnb73 := NB146_124.out; have hnc73 := NB124_146.out; have hnb74 := NB146_131.out; have hnc74 := NB131_146.out; have hnb75 := NB146_138.out; have hnc75 := NB138_146.out; obtain ⟨hcz76_0, hcz76_1, hfz76_0, hfz76_1⟩ := bc2 BK146.out; obtain ⟨Ao77, co77, eo77⟩ := Kd.R_slice HO144.out; subst eo77))
 (try simp only [Act.put, List.setIfInBounds_toArray, List.set_cons_zero, List.set_cons_succ])
 go_cut [53] (fun v53 wc => ∃ (kq : Nat) (x53_23 : Bool), v53 = .bool x53_23 ∧ Aside0 (laws_FnExactAddTallies.j0 kq t123 t145 x53_23 l0_0 l0_1 l1_0 l1_1 t117 t120 t125 t128 t132 t135 t139 t142 = some r) ∧ Aside0 (kq ≤ k) ∧ Aside0 (Kd.R (Kd.int .i64) 3 wc w.heap.size (fun k_ => some k_ ≠ ((.slice Ao44 t120.length co44) : Value).ownBlock ∧ some k_ ≠ ((.slice Ao50 t125.length co50) : Value).ownBlock ∧ some k_ ≠ ((.slice Ao55 t128.length co55) : Value).ownBlock ∧ some k_ ≠ ((.slice Ao60 t132.length co60) : Value).ownBlock ∧ some k_ ≠ ((.slice Ao66 t135.length co66) : Value).ownBlock ∧ some k_ ≠ ((.slice Ao70 t139.length co70) : Value).ownBlock ∧ some k_ ≠ ((.slice Ao77 t142.length co77) : Value).ownBlock) (.slice Ao42 t117.length co42) t117) ∧ Aside0 (Kd.R (Kd.int .i64) 3 wc w.heap.size (fun k_ => some k_ ≠ ((.slice Ao42 t117.length co42) : Value).ownBlock ∧ some k_ ≠ ((.slice Ao50 t125.length co50) : Value).ownBlock ∧ some k_ ≠ ((.slice Ao55 t128.length co55) : Value).ownBlock ∧ some k_ ≠ ((.slice Ao60 t132.length co60) : Value).ownBlock ∧ some k_ ≠ ((.slice Ao66 t135.length co66) : Value).ownBlock ∧ some k_ ≠ ((.slice Ao70 t139.length co70) : Value).ownBlock ∧ some k_ ≠ ((.slice Ao77 t142.length co77) : Value).ownBlock) (.slice Ao44 t120.length co44) t120) ∧ Aside0 (Kd.R (Kd.int .i64) 3 wc w.heap.size (fun k_ => some k_ ≠ ((.slice Ao42 t117.length co42) : Value).ownBlock ∧ some k_ ≠ ((.slice Ao44 t120.length co44) : Value).ownBlock ∧ some k_ ≠ ((.slice Ao55 t128.length co55) : Value).ownBlock ∧ some k_ ≠ ((.slice Ao60 t132.length co60) : Value).ownBlock ∧ some k_ ≠ ((.slice Ao66 t135.length co66) : Value).ownBlock ∧ some k_ ≠ ((.slice Ao70 t139.length co70) : Value).ownBlock ∧ some k_ ≠ ((.slice Ao77 t142.length co77) : Value).ownBlock) (.slice Ao50 t125.length co50) t125) ∧ Aside0 (Kd.R (Kd.int .i64) 3 wc w.heap.size (fun k_ => some k_ ≠ ((.slice Ao42 t117.length co42) : Value).ownBlock ∧ some k_ ≠ ((.slice Ao44 t120.length co44) : Value).ownBlock ∧ some k_ ≠ ((.slice Ao50 t125.length co50) : Value).ownBlock ∧ some k_ ≠ ((.slice Ao60 t132.length co60) : Value).ownBlock ∧ some k_ ≠ ((.slice Ao66 t135.length co66) : Value).ownBlock ∧ some k_ ≠ ((.slice Ao70 t139.length co70) : Value).ownBlock ∧ some k_ ≠ ((.slice Ao77 t142.length co77) : Value).ownBlock) (.slice Ao55 t128.length co55) t128) ∧ Aside0 (Kd.R (Kd.int .i64) 3 wc w.heap.size (fun k_ => some k_ ≠ ((.slice Ao42 t117.length co42) : Value).ownBlock ∧ some k_ ≠ ((.slice Ao44 t120.length co44) : Value).ownBlock ∧ some k_ ≠ ((.slice Ao50 t125.length co50) : Value).ownBlock ∧ some k_ ≠ ((.slice Ao55 t128.length co55) : Value).ownBlock ∧ some k_ ≠ ((.slice Ao66 t135.length co66) : Value).ownBlock ∧ some k_ ≠ ((.slice Ao70 t139.length co70) : Value).ownBlock ∧ some k_ ≠ ((.slice Ao77 t142.length co77) : Value).ownBlock) (.slice Ao60 t132.length co60) t132) ∧ Aside0 (Kd.R (Kd.int .i64) 3 wc w.heap.size (fun k_ => some k_ ≠ ((.slice Ao42 t117.length co42) : Value).ownBlock ∧ some k_ ≠ ((.slice Ao44 t120.length co44) : Value).ownBlock ∧ some k_ ≠ ((.slice Ao50 t125.length co50) : Value).ownBlock ∧ some k_ ≠ ((.slice Ao55 t128.length co55) : Value).ownBlock ∧ some k_ ≠ ((.slice Ao60 t132.length co60) : Value).ownBlock ∧ some k_ ≠ ((.slice Ao70 t139.length co70) : Value).ownBlock ∧ some k_ ≠ ((.slice Ao77 t142.length co77) : Value).ownBlock) (.slice Ao66 t135.length co66) t135) ∧ Aside0 (Kd.R (Kd.int .i64) 3 wc w.heap.size (fun k_ => some k_ ≠ ((.slice Ao42 t117.length co42) : Value).ownBlock ∧ some k_ ≠ ((.slice Ao44 t120.length co44) : Value).ownBlock ∧ some k_ ≠ ((.slice Ao50 t125.length co50) : Value).ownBlock ∧ some k_ ≠ ((.slice Ao55 t128.length co55) : Value).ownBlock ∧ some k_ ≠ ((.slice Ao60 t132.length co60) : Value).ownBlock ∧ some k_ ≠ ((.slice Ao66 t135.length co66) : Value).ownBlock ∧ some k_ ≠ ((.slice Ao77 t142.length co77) : Value).ownBlock) (.slice Ao70 t139.length co70) t139) ∧ Aside0 (Kd.R (Kd.int .i64) 3 wc w.heap.size (fun k_ => some k_ ≠ ((.slice Ao42 t117.length co42) : Value).ownBlock ∧ some k_ ≠ ((.slice Ao44 t120.length co44) : Value).ownBlock ∧ some k_ ≠ ((.slice Ao50 t125.length co50) : Value).ownBlock ∧ some k_ ≠ ((.slice Ao55 t128.length co55) : Value).ownBlock ∧ some k_ ≠ ((.slice Ao60 t132.length co60) : Value).ownBlock ∧ some k_ ≠ ((.slice Ao66 t135.length co66) : Value).ownBlock ∧ some k_ ≠ ((.slice Ao70 t139.length co70) : Value).ownBlock) (.slice Ao77 t142.length co77) t142) ∧ Aside0 (wc.heap[gb101]? = some (.cells #[(.slice A0_0 l0_0.length c0_0), (.slice A0_1 l0_1.length c0_1)] 42 (0, 0))) ∧ Aside0 (wc.heap[gb102]? = some (.cells #[(.slice A1_0 l1_0.length c1_0), (.slice A1_1 l1_1.length c1_1)] 42 (0, 0))) ∧ Aside0 (wc.heap[gb124]? = some (.cells #[(.slice Ao42 t117.length co42), (.slice Ao44 t120.length co44)] 44 (0, 0))) ∧ Aside0 (wc.heap[gb131]? = some (.cells #[(.slice Ao50 t125.length co50), (.slice Ao55 t128.length co55)] 44 (0, 0))) ∧ Aside0 (wc.heap[gb138]? = some (.cells #[(.slice Ao60 t132.length co60), (.slice Ao66 t135.length co66)] 44 (0, 0))) ∧ Aside0 (wc.heap[gb146]? = some (.cells #[(.slice Ao70 t139.length co70), (.slice Ao77 t142.length co77)] 44 (0, 0))) ∧ Aside0 (Below w.heap.size w wc))
 case first => as_aux_lemma =>
  have H := HC24.out
  clear HC24
  replace H := Option.bind_eq_some_iff.mp H
  obtain ⟨t147, A780, H⟩ := H
  replace H : (if t147 = true then (laws_FnExactAddTallies.j0 k t123 t145 (t145 != t123) l0_0 l0_1 l1_0 l1_1 t117 t120 t125 t128 t132 t135 t139 t142) else (laws_FnExactAddTallies.j0 k t123 t145 true l0_0 l0_1 l1_0 l1_1 t117 t120 t125 t128 t132 t135 t139 t142)) = some r := H
  have A78 := Aside0.mk A780
  clear A780
  by_cases c79 : t147 = true
  ·
   subst c79
   have H1 : (laws_FnExactAddTallies.j0 k t123 t145 (t145 != t123) l0_0 l0_1 l1_0 l1_1 t117 t120 t125 t128 t132 t135 t139 t142) = some r := by rw [if_pos rfl] at H; exact H
   clear H
   have H := H1
   clear H1
   have H' := Aside0.mk H
   clear H
   have hnb80 := NB146_101.out
   have hnc80 := NB101_146.out
   have hnb81 := NB146_102.out
   have hnc81 := NB102_146.out
   have hnb82 := NB146_124.out
   have hnc82 := NB124_146.out
   have hnb83 := NB146_131.out
   have hnc83 := NB131_146.out
   have hnb84 := NB146_138.out
   have hnc84 := NB138_146.out
   obtain ⟨hcz85_0, hcz85_1, hfz85_0, hfz85_1⟩ := bc2 BK146.out
   have hnb86 := NB124_101.out
   have hnc86 := NB101_124.out
   have hnb87 := NB124_102.out
   have hnc87 := NB102_124.out
   have hnb88 := NB124_131.out
   have hnc88 := NB131_124.out
   have hnb89 := NB124_138.out
   have hnc89 := NB138_124.out
   obtain ⟨hcz90_0, hcz90_1, hfz90_0, hfz90_1⟩ := bc2 BK124.out
   go_wp2_with (first | ((with_reducible refine gate_callee (f := 46) rfl ?_); refine gl (some 47) Try.func46 #[.agg #[.slice Ao70 t139.length co70, .slice Ao77 t142.length co77], .agg #[.slice Ao42 t117.length co42, .slice Ao44 t120.length co44]] ?_; (with_reducible refine (laws_eqTally.calls k _ _ t139 _ _ t142 _ _ t117 _ _ t120 true _ ?side1 ?side2 ?side3 ?side4 ?side5 ?side6 ?side7 ?side8 A78.out).mono ?_); (case side1 => exact rC (pR (rF2 HO141.out BK146.out (.slice Ao70 t139.length co70) (.slice Ao77 t142.length co77)))); (case side2 => exact (Kd.R_reads' HO141.out).2.1); (case side3 => exact rC (pR (rF2 HO144.out BK146.out (.slice Ao70 t139.length co70) (.slice Ao77 t142.length co77)))); (case side4 => exact (Kd.R_reads' HO144.out).2.1); (case side5 => exact rC (pR (rF2 HO119.out BK146.out (.slice Ao70 t139.length co70) (.slice Ao77 t142.length co77)))); (case side6 => exact (Kd.R_reads' HO119.out).2.1); (case side7 => exact rC (pR (rF2 HO122.out BK146.out (.slice Ao70 t139.length co70) (.slice Ao77 t142.length co77)))); (case side8 => exact (Kd.R_reads' HO122.out).2.1); rintro e w91 ⟨rfl, hb⟩; refine ⟨_, rfl, ?_⟩; have n0_ := aK (Kd.R_below (pR (rF2 HO119.out BK146.out (.slice Ao70 t139.length co70) (.slice Ao77 t142.length co77))) hb); have n1_ := aK (Kd.R_below (pR (rF2 HO122.out BK146.out (.slice Ao70 t139.length co70) (.slice Ao77 t142.length co77))) hb); have n2_ := aK (Kd.R_below (pR (rF2 HO127.out BK146.out (.slice Ao70 t139.length co70) (.slice Ao77 t142.length co77))) hb); have n3_ := aK (Kd.R_below (pR (rF2 HO130.out BK146.out (.slice Ao70 t139.length co70) (.slice Ao77 t142.length co77))) hb); have n4_ := aK (Kd.R_below (pR (rF2 HO134.out BK146.out (.slice Ao70 t139.length co70) (.slice Ao77 t142.length co77))) hb); have n5_ := aK (Kd.R_below (pR (rF2 HO137.out BK146.out (.slice Ao70 t139.length co70) (.slice Ao77 t142.length co77))) hb); have n6_ := aK (Kd.R_below (pR (rF2 HO141.out BK146.out (.slice Ao70 t139.length co70) (.slice Ao77 t142.length co77))) hb); have n7_ := aK (Kd.R_below (pR (rF2 HO144.out BK146.out (.slice Ao70 t139.length co70) (.slice Ao77 t142.length co77))) hb); have n8_ := aK (blk_below (g := gb101) (o := .cells #[.slice A0_0 l0_0.length c0_0, .slice A0_1 l0_1.length c0_1] 42 (0, 0)) (by refine bk ?_; refine blk_far ?_ NB101_146.out _; refine bk ?_; refine blk_far ?_ NB101_146.out _; refine bk ?_; exact BK101.out) hb); have n9_ := aK (blk_below (g := gb102) (o := .cells #[.slice A1_0 l1_0.length c1_0, .slice A1_1 l1_1.length c1_1] 42 (0, 0)) (by refine bk ?_; refine blk_far ?_ NB102_146.out _; refine bk ?_; refine blk_far ?_ NB102_146.out _; refine bk ?_; exact BK102.out) hb); have n10_ := aK (blk_below (g := gb124) (o := .cells #[.slice Ao42 t117.length co42, .slice Ao44 t120.length co44] 44 (0, 0)) (by refine bk ?_; refine blk_far ?_ NB124_146.out _; refine bk ?_; refine blk_far ?_ NB124_146.out _; refine bk ?_; exact BK124.out) hb); have n11_ := aK (blk_below (g := gb131) (o := .cells #[.slice Ao50 t125.length co50, .slice Ao55 t128.length co55] 44 (0, 0)) (by refine bk ?_; refine blk_far ?_ NB131_146.out _; refine bk ?_; refine blk_far ?_ NB131_146.out _; refine bk ?_; exact BK131.out) hb); have n12_ := aK (blk_below (g := gb138) (o := .cells #[.slice Ao60 t132.length co60, .slice Ao66 t135.length co66] 44 (0, 0)) (by refine bk ?_; refine blk_far ?_ NB138_146.out _; refine bk ?_; refine blk_far ?_ NB138_146.out _; refine bk ?_; exact BK138.out) hb); have n13_ := aK (blk_below (g := gb146) (o := .cells #[.slice Ao70 t139.length co70, .slice Ao77 t142.length co77] 44 (0, 0)) (by refine bk ?_; refine blk_put (cs := #[.slice Ao70 t139.length co70, .slice none 0 0]) ?_ 1 _ rfl; refine bk ?_; refine blk_put (cs := #[.slice none 0 0, .slice none 0 0]) ?_ 0 _ rfl; refine bk ?_; exact BK146.out) hb); replace HB := bS HB hb; clear HO119 HO122 HO127 HO130 HO134 HO137 HO141 HO144 BK101 BK102 BK124 BK131 BK138 BK146; have HO119 := n0_; have HO122 := n1_; have HO127 := n2_; have HO130 := n3_; have HO134 := n4_; have HO137 := n5_; have HO141 := n6_; have HO144 := n7_; have BK101 := n8_; have BK102 := n9_; have BK124 := n10_; have BK131 := n11_; have BK138 := n12_; have BK146 := n13_; clear n0_ n1_ n2_ n3_ n4_ n5_ n6_ n7_ n8_ n9_ n10_ n11_ n12_ n13_; (try clear hb); (try clear hb2); (try clear hk); (try clear hi)))
   go_meet
   case rel => exact ⟨_, ((t145 != t123)), (by first | rfl | (simp; done) | (simp [*]; done)), H', ⟨by first | omega | exact Nat.le_refl _⟩, ⟨pR (rP HO119.out)⟩, ⟨pR (rP HO122.out)⟩, ⟨pR (rP HO127.out)⟩, ⟨pR (rP HO130.out)⟩, ⟨pR (rP HO134.out)⟩, ⟨pR (rP HO137.out)⟩, ⟨pR (rP HO141.out)⟩, ⟨pR (rP HO144.out)⟩, ⟨by refine bk ?_; exact BK101.out⟩, ⟨by refine bk ?_; exact BK102.out⟩, ⟨by refine bk ?_; exact BK124.out⟩, ⟨by refine bk ?_; exact BK131.out⟩, ⟨by refine bk ?_; exact BK138.out⟩, ⟨by refine bk ?_; exact BK146.out⟩, ⟨pT HB.out⟩⟩
  replace c79 := Bool.eq_false_iff.mpr c79
  subst c79
  have H1 : (laws_FnExactAddTallies.j0 k t123 t145 true l0_0 l0_1 l1_0 l1_1 t117 t120 t125 t128 t132 t135 t139 t142) = some r := by rw [if_neg (show ¬ (false = true) by decide)] at H; exact H
  clear H
  have H := H1
  clear H1
  have H' := Aside0.mk H
  clear H
  have hnb92 := NB146_101.out
  have hnc92 := NB101_146.out
  have hnb93 := NB146_102.out
  have hnc93 := NB102_146.out
  have hnb94 := NB146_124.out
  have hnc94 := NB124_146.out
  have hnb95 := NB146_131.out
  have hnc95 := NB131_146.out
  have hnb96 := NB146_138.out
  have hnc96 := NB138_146.out
  obtain ⟨hcz97_0, hcz97_1, hfz97_0, hfz97_1⟩ := bc2 BK146.out
  have hnb98 := NB124_101.out
  have hnc98 := NB101_124.out
  have hnb99 := NB124_102.out
  have hnc99 := NB102_124.out
  have hnb100 := NB124_131.out
  have hnc100 := NB131_124.out
  have hnb101 := NB124_138.out
  have hnc101 := NB138_124.out
  obtain ⟨hcz102_0, hcz102_1, hfz102_0, hfz102_1⟩ := bc2 BK124.out
  go_wp2_with (first | ((with_reducible refine gate_callee (f := 46) rfl ?_); refine gl (some 47) Try.func46 #[.agg #[.slice Ao70 t139.length co70, .slice Ao77 t142.length co77], .agg #[.slice Ao42 t117.length co42, .slice Ao44 t120.length co44]] ?_; (with_reducible refine (laws_eqTally.calls k _ _ t139 _ _ t142 _ _ t117 _ _ t120 false _ ?side1 ?side2 ?side3 ?side4 ?side5 ?side6 ?side7 ?side8 A78.out).mono ?_); (case side1 => exact rC (pR (rF2 HO141.out BK146.out (.slice Ao70 t139.length co70) (.slice Ao77 t142.length co77)))); (case side2 => exact (Kd.R_reads' HO141.out).2.1); (case side3 => exact rC (pR (rF2 HO144.out BK146.out (.slice Ao70 t139.length co70) (.slice Ao77 t142.length co77)))); (case side4 => exact (Kd.R_reads' HO144.out).2.1); (case side5 => exact rC (pR (rF2 HO119.out BK146.out (.slice Ao70 t139.length co70) (.slice Ao77 t142.length co77)))); (case side6 => exact (Kd.R_reads' HO119.out).2.1); (case side7 => exact rC (pR (rF2 HO122.out BK146.out (.slice Ao70 t139.length co70) (.slice Ao77 t142.length co77)))); (case side8 => exact (Kd.R_reads' HO122.out).2.1); rintro e w103 ⟨rfl, hb⟩; refine ⟨_, rfl, ?_⟩; have n0_ := aK (Kd.R_below (pR (rF2 HO119.out BK146.out (.slice Ao70 t139.length co70) (.slice Ao77 t142.length co77))) hb); have n1_ := aK (Kd.R_below (pR (rF2 HO122.out BK146.out (.slice Ao70 t139.length co70) (.slice Ao77 t142.length co77))) hb); have n2_ := aK (Kd.R_below (pR (rF2 HO127.out BK146.out (.slice Ao70 t139.length co70) (.slice Ao77 t142.length co77))) hb); have n3_ := aK (Kd.R_below (pR (rF2 HO130.out BK146.out (.slice Ao70 t139.length co70) (.slice Ao77 t142.length co77))) hb); have n4_ := aK (Kd.R_below (pR (rF2 HO134.out BK146.out (.slice Ao70 t139.length co70) (.slice Ao77 t142.length co77))) hb); have n5_ := aK (Kd.R_below (pR (rF2 HO137.out BK146.out (.slice Ao70 t139.length co70) (.slice Ao77 t142.length co77))) hb); have n6_ := aK (Kd.R_below (pR (rF2 HO141.out BK146.out (.slice Ao70 t139.length co70) (.slice Ao77 t142.length co77))) hb); have n7_ := aK (Kd.R_below (pR (rF2 HO144.out BK146.out (.slice Ao70 t139.length co70) (.slice Ao77 t142.length co77))) hb); have n8_ := aK (blk_below (g := gb101) (o := .cells #[.slice A0_0 l0_0.length c0_0, .slice A0_1 l0_1.length c0_1] 42 (0, 0)) (by refine bk ?_; refine blk_far ?_ NB101_146.out _; refine bk ?_; refine blk_far ?_ NB101_146.out _; refine bk ?_; exact BK101.out) hb); have n9_ := aK (blk_below (g := gb102) (o := .cells #[.slice A1_0 l1_0.length c1_0, .slice A1_1 l1_1.length c1_1] 42 (0, 0)) (by refine bk ?_; refine blk_far ?_ NB102_146.out _; refine bk ?_; refine blk_far ?_ NB102_146.out _; refine bk ?_; exact BK102.out) hb); have n10_ := aK (blk_below (g := gb124) (o := .cells #[.slice Ao42 t117.length co42, .slice Ao44 t120.length co44] 44 (0, 0)) (by refine bk ?_; refine blk_far ?_ NB124_146.out _; refine bk ?_; refine blk_far ?_ NB124_146.out _; refine bk ?_; exact BK124.out) hb); have n11_ := aK (blk_below (g := gb131) (o := .cells #[.slice Ao50 t125.length co50, .slice Ao55 t128.length co55] 44 (0, 0)) (by refine bk ?_; refine blk_far ?_ NB131_146.out _; refine bk ?_; refine blk_far ?_ NB131_146.out _; refine bk ?_; exact BK131.out) hb); have n12_ := aK (blk_below (g := gb138) (o := .cells #[.slice Ao60 t132.length co60, .slice Ao66 t135.length co66] 44 (0, 0)) (by refine bk ?_; refine blk_far ?_ NB138_146.out _; refine bk ?_; refine blk_far ?_ NB138_146.out _; refine bk ?_; exact BK138.out) hb); have n13_ := aK (blk_below (g := gb146) (o := .cells #[.slice Ao70 t139.length co70, .slice Ao77 t142.length co77] 44 (0, 0)) (by refine bk ?_; refine blk_put (cs := #[.slice Ao70 t139.length co70, .slice none 0 0]) ?_ 1 _ rfl; refine bk ?_; refine blk_put (cs := #[.slice none 0 0, .slice none 0 0]) ?_ 0 _ rfl; refine bk ?_; exact BK146.out) hb); replace HB := bS HB hb; clear HO119 HO122 HO127 HO130 HO134 HO137 HO141 HO144 BK101 BK102 BK124 BK131 BK138 BK146; have HO119 := n0_; have HO122 := n1_; have HO127 := n2_; have HO130 := n3_; have HO134 := n4_; have HO137 := n5_; have HO141 := n6_; have HO144 := n7_; have BK101 := n8_; have BK102 := n9_; have BK124 := n10_; have BK131 := n11_; have BK138 := n12_; have BK146 := n13_; clear n0_ n1_ n2_ n3_ n4_ n5_ n6_ n7_ n8_ n9_ n10_ n11_ n12_ n13_; (try clear hb); (try clear hb2); (try clear hk); (try clear hi)))
  go_meet
  case rel => exact ⟨_, (true), (by first | rfl | (simp; done) | (simp [*]; done)), H', ⟨by first | omega | exact Nat.le_refl _⟩, ⟨pR (rP HO119.out)⟩, ⟨pR (rP HO122.out)⟩, ⟨pR (rP HO127.out)⟩, ⟨pR (rP HO130.out)⟩, ⟨pR (rP HO134.out)⟩, ⟨pR (rP HO137.out)⟩, ⟨pR (rP HO141.out)⟩, ⟨pR (rP HO144.out)⟩, ⟨by refine bk ?_; exact BK101.out⟩, ⟨by refine bk ?_; exact BK102.out⟩, ⟨by refine bk ?_; exact BK124.out⟩, ⟨by refine bk ?_; exact BK131.out⟩, ⟨by refine bk ?_; exact BK138.out⟩, ⟨by refine bk ?_; exact BK146.out⟩, ⟨pT HB.out⟩⟩
 case rest => as_aux_lemma =>
  clear HC24
  try clear c1
  try clear p2
  try clear c4
  try clear c5
  try clear c6
  try clear c7
  try clear c8
  try clear c9
  try clear c10
  try clear c43
  try clear c44
  try clear c45
  try clear c46
  try clear c51
  try clear c52
  try clear c53
  try clear c56
  try clear c61
  try clear c62
  try clear c63
  try clear c64
  try clear c71
  try clear c72
  try clear c73
  try clear c74
  try clear c75
  try clear c79
  try clear c80
  try clear c81
  try clear c82
  try clear c83
  try clear c84
  try clear c86
  try clear c87
  try clear c88
  try clear c89
  try clear c92
  try clear c93
  try clear c94
  try clear c95
  try clear c96
  try clear c98
  try clear c99
  try clear c100
  try clear c101
  try clear hcz102_0
  try clear hcz102_1
  try clear hcz47_0
  try clear hcz47_1
  try clear hcz54_0
  try clear hcz54_1
  try clear hcz57_0
  try clear hcz57_1
  try clear hcz65_0
  try clear hcz65_1
  try clear hcz67_0
  try clear hcz67_1
  try clear hcz76_0
  try clear hcz76_1
  try clear hcz85_0
  try clear hcz85_1
  try clear hcz90_0
  try clear hcz90_1
  try clear hcz97_0
  try clear hcz97_1
  try clear hfz102_0
  try clear hfz102_1
  try clear hfz47_0
  try clear hfz47_1
  try clear hfz54_0
  try clear hfz54_1
  try clear hfz57_0
  try clear hfz57_1
  try clear hfz65_0
  try clear hfz65_1
  try clear hfz67_0
  try clear hfz67_1
  try clear hfz76_0
  try clear hfz76_1
  try clear hfz85_0
  try clear hfz85_1
  try clear hfz90_0
  try clear hfz90_1
  try clear hfz97_0
  try clear hfz97_1
  obtain ⟨kq, x53_23, rfl, HA, HJ23, HO_125000, HO_125001, HO_132000, HO_132001, HO_139000, HO_139001, HO_147000, HO_147001, BK101, BK102, BK124, BK131, BK138, BK146, HB⟩ := hcut
  cases kq with
  | zero => exact absurd HA.out (by simp [laws_FnExactAddTallies.j0])
  | succ kj23 =>
   have H := HA.out
   clear HA
   simp only [laws_FnExactAddTallies.j0] at H
   by_cases c104 : x53_23 = true
   ·
    subst c104
    have H1 : (some false) = some r := by rw [if_pos rfl] at H; exact H
    clear H
    have H := H1
    clear H1
    obtain rfl := Option.some.inj H
    go_wp2
    go_ret
    exact ⟨by first | rfl | (simp [errW_none, errW_some] <;> rfl) | (simp [*, errW_none, errW_some] <;> rfl), pT HB.out⟩
   replace c104 := Bool.eq_false_iff.mpr c104
   subst c104
   have H1 : ((laws_toTally.f kj23 l0_0 l0_1).bind fun bt148 => ((laws_eqTally.f kj23 t125 t128 bt148.1 bt148.2).bind fun t154 => (if t154 = true then ((laws_toTally.f kj23 l1_0 l1_1).bind fun bt155 => ((laws_eqTally.f kj23 t132 t135 bt155.1 bt155.2).bind fun t161 => (if t161 = true then ((laws_markTally.f kj23 t125 t128 1).bind fun bt162 => ((laws_markTally.f kj23 t132 t135 bt162.1).bind fun bt165 => (if bt165.1 < 0 then (laws_FnExactAddTallies.j1 kj23 t123 true l0_0 l0_1 l1_0 l1_1 t117 t120 t139 t142) else ((laws_eqTally.f kj23 t139 t142 t117 t120).bind fun t168 => (if t168 = true then (laws_FnExactAddTallies.j1 kj23 t123 (t145 != t123) l0_0 l0_1 l1_0 l1_1 t117 t120 t139 t142) else (laws_FnExactAddTallies.j1 kj23 t123 true l0_0 l0_1 l1_0 l1_1 t117 t120 t139 t142)))))) else (some false)))) else (some false)))) = some r := by rw [if_neg (show ¬ (false = true) by decide)] at H; exact H
   clear H
   have H := H1
   clear H1
   replace H := Option.bind_eq_some_iff.mp H
   obtain ⟨⟨t148, t151⟩, A1050, H⟩ := H
   replace H : ((laws_eqTally.f kj23 t125 t128 t148 t151).bind fun t154 => (if t154 = true then ((laws_toTally.f kj23 l1_0 l1_1).bind fun bt155 => ((laws_eqTally.f kj23 t132 t135 bt155.1 bt155.2).bind fun t161 => (if t161 = true then ((laws_markTally.f kj23 t125 t128 1).bind fun bt162 => ((laws_markTally.f kj23 t132 t135 bt162.1).bind fun bt165 => (if bt165.1 < 0 then (laws_FnExactAddTallies.j1 kj23 t123 true l0_0 l0_1 l1_0 l1_1 t117 t120 t139 t142) else ((laws_eqTally.f kj23 t139 t142 t117 t120).bind fun t168 => (if t168 = true then (laws_FnExactAddTallies.j1 kj23 t123 (t145 != t123) l0_0 l0_1 l1_0 l1_1 t117 t120 t139 t142) else (laws_FnExactAddTallies.j1 kj23 t123 true l0_0 l0_1 l1_0 l1_1 t117 t120 t139 t142)))))) else (some false)))) else (some false))) = some r := H
   have A105 := Aside0.mk A1050
   clear A1050
   replace H := Option.bind_eq_some_iff.mp H
   obtain ⟨t154, A1060, H⟩ := H
   replace H : (if t154 = true then ((laws_toTally.f kj23 l1_0 l1_1).bind fun bt155 => ((laws_eqTally.f kj23 t132 t135 bt155.1 bt155.2).bind fun t161 => (if t161 = true then ((laws_markTally.f kj23 t125 t128 1).bind fun bt162 => ((laws_markTally.f kj23 t132 t135 bt162.1).bind fun bt165 => (if bt165.1 < 0 then (laws_FnExactAddTallies.j1 kj23 t123 true l0_0 l0_1 l1_0 l1_1 t117 t120 t139 t142) else ((laws_eqTally.f kj23 t139 t142 t117 t120).bind fun t168 => (if t168 = true then (laws_FnExactAddTallies.j1 kj23 t123 (t145 != t123) l0_0 l0_1 l1_0 l1_1 t117 t120 t139 t142) else (laws_FnExactAddTallies.j1 kj23 t123 true l0_0 l0_1 l1_0 l1_1 t117 t120 t139 t142)))))) else (some false)))) else (some false)) = some r := H
   have A106 := Aside0.mk A1060
   clear A1060
   by_cases c107 : t154 = true
   ·
    subst c107
    have H1 : ((laws_toTally.f kj23 l1_0 l1_1).bind fun bt155 => ((laws_eqTally.f kj23 t132 t135 bt155.1 bt155.2).bind fun t161 => (if t161 = true then ((laws_markTally.f kj23 t125 t128 1).bind fun bt162 => ((laws_markTally.f kj23 t132 t135 bt162.1).bind fun bt165 => (if bt165.1 < 0 then (laws_FnExactAddTallies.j1 kj23 t123 true l0_0 l0_1 l1_0 l1_1 t117 t120 t139 t142) else ((laws_eqTally.f kj23 t139 t142 t117 t120).bind fun t168 => (if t168 = true then (laws_FnExactAddTallies.j1 kj23 t123 (t145 != t123) l0_0 l0_1 l1_0 l1_1 t117 t120 t139 t142) else (laws_FnExactAddTallies.j1 kj23 t123 true l0_0 l0_1 l1_0 l1_1 t117 t120 t139 t142)))))) else (some false)))) = some r := by rw [if_pos rfl] at H; exact H
    clear H
    have H := H1
    clear H1
    replace H := Option.bind_eq_some_iff.mp H
    obtain ⟨⟨t155, t158⟩, A1080, H⟩ := H
    replace H : ((laws_eqTally.f kj23 t132 t135 t155 t158).bind fun t161 => (if t161 = true then ((laws_markTally.f kj23 t125 t128 1).bind fun bt162 => ((laws_markTally.f kj23 t132 t135 bt162.1).bind fun bt165 => (if bt165.1 < 0 then (laws_FnExactAddTallies.j1 kj23 t123 true l0_0 l0_1 l1_0 l1_1 t117 t120 t139 t142) else ((laws_eqTally.f kj23 t139 t142 t117 t120).bind fun t168 => (if t168 = true then (laws_FnExactAddTallies.j1 kj23 t123 (t145 != t123) l0_0 l0_1 l1_0 l1_1 t117 t120 t139 t142) else (laws_FnExactAddTallies.j1 kj23 t123 true l0_0 l0_1 l1_0 l1_1 t117 t120 t139 t142)))))) else (some false))) = some r := H
    have A108 := Aside0.mk A1080
    clear A1080
    replace H := Option.bind_eq_some_iff.mp H
    obtain ⟨t161, A1090, H⟩ := H
    replace H : (if t161 = true then ((laws_markTally.f kj23 t125 t128 1).bind fun bt162 => ((laws_markTally.f kj23 t132 t135 bt162.1).bind fun bt165 => (if bt165.1 < 0 then (laws_FnExactAddTallies.j1 kj23 t123 true l0_0 l0_1 l1_0 l1_1 t117 t120 t139 t142) else ((laws_eqTally.f kj23 t139 t142 t117 t120).bind fun t168 => (if t168 = true then (laws_FnExactAddTallies.j1 kj23 t123 (t145 != t123) l0_0 l0_1 l1_0 l1_1 t117 t120 t139 t142) else (laws_FnExactAddTallies.j1 kj23 t123 true l0_0 l0_1 l1_0 l1_1 t117 t120 t139 t142)))))) else (some false)) = some r := H
    have A109 := Aside0.mk A1090
    clear A1090
    by_cases c110 : t161 = true
    ·
     subst c110
     have H1 : ((laws_markTally.f kj23 t125 t128 1).bind fun bt162 => ((laws_markTally.f kj23 t132 t135 bt162.1).bind fun bt165 => (if bt165.1 < 0 then (laws_FnExactAddTallies.j1 kj23 t123 true l0_0 l0_1 l1_0 l1_1 t117 t120 t139 t142) else ((laws_eqTally.f kj23 t139 t142 t117 t120).bind fun t168 => (if t168 = true then (laws_FnExactAddTallies.j1 kj23 t123 (t145 != t123) l0_0 l0_1 l1_0 l1_1 t117 t120 t139 t142) else (laws_FnExactAddTallies.j1 kj23 t123 true l0_0 l0_1 l1_0 l1_1 t117 t120 t139 t142)))))) = some r := by rw [if_pos rfl] at H; exact H
     clear H
     have H := H1
     clear H1
     replace H := Option.bind_eq_some_iff.mp H
     obtain ⟨⟨t162, t163, t164⟩, A1110, H⟩ := H
     replace H : ((laws_markTally.f kj23 t132 t135 t162).bind fun bt165 => (if bt165.1 < 0 then (laws_FnExactAddTallies.j1 kj23 t123 true l0_0 l0_1 l1_0 l1_1 t117 t120 t139 t142) else ((laws_eqTally.f kj23 t139 t142 t117 t120).bind fun t168 => (if t168 = true then (laws_FnExactAddTallies.j1 kj23 t123 (t145 != t123) l0_0 l0_1 l1_0 l1_1 t117 t120 t139 t142) else (laws_FnExactAddTallies.j1 kj23 t123 true l0_0 l0_1 l1_0 l1_1 t117 t120 t139 t142))))) = some r := H
     have A111 := Aside0.mk A1110
     clear A1110
     replace H := Option.bind_eq_some_iff.mp H
     obtain ⟨⟨t165, t166, t167⟩, A1120, H⟩ := H
     replace H : (if t165 < 0 then (laws_FnExactAddTallies.j1 kj23 t123 true l0_0 l0_1 l1_0 l1_1 t117 t120 t139 t142) else ((laws_eqTally.f kj23 t139 t142 t117 t120).bind fun t168 => (if t168 = true then (laws_FnExactAddTallies.j1 kj23 t123 (t145 != t123) l0_0 l0_1 l1_0 l1_1 t117 t120 t139 t142) else (laws_FnExactAddTallies.j1 kj23 t123 true l0_0 l0_1 l1_0 l1_1 t117 t120 t139 t142)))) = some r := H
     have A112 := Aside0.mk A1120
     clear A1120
     have HC113 := Aside0.mk H
     clear H
     try go_wp2
     have n0_ := aK (Kd.R_drew HO_125000.out)
     have n1_ := aK (Kd.R_drew HO_125001.out)
     have n2_ := aK (Kd.R_drew HO_132000.out)
     have n3_ := aK (Kd.R_drew HO_132001.out)
     have n4_ := aK (Kd.R_drew HO_139000.out)
     have n5_ := aK (Kd.R_drew HO_139001.out)
     have n6_ := aK (Kd.R_drew HO_147000.out)
     have n7_ := aK (Kd.R_drew HO_147001.out)
     have n8_ := aK (blk_drew BK101.out)
     have n9_ := aK (blk_drew BK102.out)
     have n10_ := aK (blk_drew BK124.out)
     have n11_ := aK (blk_drew BK131.out)
     have n12_ := aK (blk_drew BK138.out)
     have n13_ := aK (blk_drew BK146.out)
     have n14_ := aK (below_drew1 HB.out)
     clear HO_125000 HO_125001 HO_132000 HO_132001 HO_139000 HO_139001 HO_147000 HO_147001 BK101 BK102 BK124 BK131 BK138 BK146 HB
     have HO_125000 := n0_
     have HO_125001 := n1_
     have HO_132000 := n2_
     have HO_132001 := n3_
     have HO_139000 := n4_
     have HO_139001 := n5_
     have HO_147000 := n6_
     have HO_147001 := n7_
     have BK101 := n8_
     have BK102 := n9_
     have BK124 := n10_
     have BK131 := n11_
     have BK138 := n12_
     have BK146 := n13_
     have HB := n14_
     clear n0_ n1_ n2_ n3_ n4_ n5_ n6_ n7_ n8_ n9_ n10_ n11_ n12_ n13_ n14_
     refine start_ (n := 5) (S := fun w' => w'.cell? ⟨gb131, 0, none⟩ = some (.slice Ao50 t125.length co50) ∧ w'.cell? ⟨gb131, 1, none⟩ = some (.slice Ao55 t128.length co55) ∧ w'.cell? ⟨gb101, 0, none⟩ = some (.slice A0_0 l0_0.length c0_0) ∧ w'.cell? ⟨gb101, 1, none⟩ = some (.slice A0_1 l0_1.length c0_1)) (ds := []) #[false, false, false, false, false] (by kernel_rfl) rfl rfl (cj2 BK131.out (cz2 BK101.out)) (fun hHeld => ?_)
     generalize wc.drew = w114 at HO_125000 HO_125001 HO_132000 HO_132001 HO_139000 HO_139001 HO_147000 HO_147001 BK101 BK102 BK124 BK131 BK138 BK146 HB hHeld ⊢
     refine take_ (i := 0) (N := some 54) (v := ?_) (a' := ?_) #[true, false, false, false, false] rfl rfl (by kernel_rfl) (fun _ _ _ h => h) (Or.inl ⟨by rfl, ?_⟩) hHeld ?_ ?_
     rotate_left
     ·
      rintro w' ⟨s0, s1, s2, s3⟩
      go_simp
      with_reducible rfl
     rotate_left
     ·
      simp only [sP]
      rfl
     refine take_ (i := 1) (N := some 55) (v := ?_) (a' := ?_) #[true, true, false, false, false] rfl rfl (by kernel_rfl) (fun _ _ _ h => h) (Or.inl ⟨by rfl, ?_⟩) hHeld ?_ ?_
     rotate_left
     ·
      rintro w' ⟨s0, s1, s2, s3⟩
      go_simp
      with_reducible rfl
     rotate_left
     ·
      simp only [sP]
      rfl
     refine one_ (i := 2) (N := some 56) #[true, true, true, false, false] rfl rfl (by kernel_rfl) (by decide) (fun K hK => ?_)
     refine goes_ Try.func44 (by kernel_rfl) rfl #[.agg #[.slice A0_0 l0_0.length c0_0, .slice A0_1 l0_1.length c0_1]] (by rfl) rfl rfl (by (try simp only [List.map_toArray, List.map_cons, List.map_nil]); first | done | rfl | (simp only [List.length_drop, List.length_take]; rfl)) ?_
     with_reducible refine (laws_toTally.calls kj23 _ _ l0_0 _ _ l0_1 t148 t151 _ ?side1 ?side2 ?side3 ?side4 A105.out).mono ?_
     (case side1 => exact pC (Kd.C_below HR0_0.out HB.out))
     (case side2 => exact HC0_0.out)
     (case side3 => exact pC (Kd.C_below HR0_1.out HB.out))
     (case side4 => exact HC0_1.out)
     rintro e w115 ⟨v149, v152, rfl, ho0, ho1, hb⟩
     refine ⟨_, rfl, ?_⟩
     have n0_ := aK (rO2 (pR HO_125000.out) hb ho0 ho1)
     have n1_ := aK (rO2 (pR HO_125001.out) hb ho0 ho1)
     have n2_ := aK (rO2 (pR HO_132000.out) hb ho0 ho1)
     have n3_ := aK (rO2 (pR HO_132001.out) hb ho0 ho1)
     have n4_ := aK (rO2 (pR HO_139000.out) hb ho0 ho1)
     have n5_ := aK (rO2 (pR HO_139001.out) hb ho0 ho1)
     have n6_ := aK (rO2 (pR HO_147000.out) hb ho0 ho1)
     have n7_ := aK (rO2 (pR HO_147001.out) hb ho0 ho1)
     have HO150 := aK (Kd.R_lower (nw4 (nw4 ho0 (pR HO_125000.out) (pR HO_125001.out) (pR HO_132000.out) (pR HO_132001.out)) (pR HO_139000.out) (pR HO_139001.out) (pR HO_147000.out) (pR HO_147001.out)) (below_size (pS HB.out)))
     have HO153 := aK (Kd.R_lower (nw4 (nw4 ho1 (pR HO_125000.out) (pR HO_125001.out) (pR HO_132000.out) (pR HO_132001.out)) (pR HO_139000.out) (pR HO_139001.out) (pR HO_147000.out) (pR HO_147001.out)) (below_size (pS HB.out)))
     replace BK101 := bB BK101 hb
     replace BK102 := bB BK102 hb
     replace BK124 := bB BK124 hb
     replace BK131 := bB BK131 hb
     replace BK138 := bB BK138 hb
     replace BK146 := bB BK146 hb
     replace HB := bS HB hb
     clear HO_125000 HO_125001 HO_132000 HO_132001 HO_139000 HO_139001 HO_147000 HO_147001
     have HO_125000 := n0_
     have HO_125001 := n1_
     have HO_132000 := n2_
     have HO_132001 := n3_
     have HO_139000 := n4_
     have HO_139001 := n5_
     have HO_147000 := n6_
     have HO_147001 := n7_
     clear n0_ n1_ n2_ n3_ n4_ n5_ n6_ n7_
     (try clear hb)
     (try clear hb2)
     (try clear hk)
     (try clear hi)
     (try clear ho0)
     (try clear ho1)
     obtain ⟨Ao116, co116, eo116⟩ := Kd.R_slice HO150.out
     (first | subst eo116 | (obtain ⟨f4_, f5_⟩ := sI eo116; subst f4_; subst f5_))
     obtain ⟨Ao117, co117, eo117⟩ := Kd.R_slice HO153.out
     (first | subst eo117 | (obtain ⟨f4_, f5_⟩ := sI eo117; subst f4_; subst f5_))
     refine hK.out _ _ (cj2 BK131.out (cz2 BK101.out)) (fun hHeld => ?_)
     clear hK K
     refine norm_ (a' := ?_) ?_ ?_
     rotate_left
     ·
      show Act.put _ (some 56) _ = _
      simp only [sP]
      rfl
     refine one_ (i := 3) (N := some 57) #[true, true, true, true, false] rfl rfl (by kernel_rfl) (by decide) (fun K hK => ?_)
     refine goes_ Try.func46 (by kernel_rfl) rfl #[.agg #[.slice Ao50 t125.length co50, .slice Ao55 t128.length co55], .agg #[.slice Ao116 t148.length co116, .slice Ao117 t151.length co117]] (by rfl) rfl rfl (by (try simp only [List.map_toArray, List.map_cons, List.map_nil]); first | done | rfl | (simp only [List.length_drop, List.length_take]; rfl)) ?_
     with_reducible refine (laws_eqTally.calls kj23 _ _ t125 _ _ t128 _ _ t148 _ _ t151 true _ ?side1 ?side2 ?side3 ?side4 ?side5 ?side6 ?side7 ?side8 A106.out).mono ?_
     (case side1 => exact pC (Kd.R_reads' HO_132000.out).2.2)
     (case side2 => exact (Kd.R_reads' HO_132000.out).2.1)
     (case side3 => exact pC (Kd.R_reads' HO_132001.out).2.2)
     (case side4 => exact (Kd.R_reads' HO_132001.out).2.1)
     (case side5 => exact pC (Kd.R_reads' HO150.out).2.2)
     (case side6 => exact (Kd.R_reads' HO150.out).2.1)
     (case side7 => exact pC (Kd.R_reads' HO153.out).2.2)
     (case side8 => exact (Kd.R_reads' HO153.out).2.1)
     rintro e w118 ⟨rfl, hb⟩
     refine ⟨_, rfl, ?_⟩
     have n0_ := aK (Kd.R_below (pR HO_125000.out) hb)
     have n1_ := aK (Kd.R_below (pR HO_125001.out) hb)
     have n2_ := aK (Kd.R_below (pR HO_132000.out) hb)
     have n3_ := aK (Kd.R_below (pR HO_132001.out) hb)
     have n4_ := aK (Kd.R_below (pR HO_139000.out) hb)
     have n5_ := aK (Kd.R_below (pR HO_139001.out) hb)
     have n6_ := aK (Kd.R_below (pR HO_147000.out) hb)
     have n7_ := aK (Kd.R_below (pR HO_147001.out) hb)
     have n8_ := aK (Kd.R_below (pR HO150.out) hb)
     have n9_ := aK (Kd.R_below (pR HO153.out) hb)
     replace BK101 := bB BK101 hb
     replace BK102 := bB BK102 hb
     replace BK124 := bB BK124 hb
     replace BK131 := bB BK131 hb
     replace BK138 := bB BK138 hb
     replace BK146 := bB BK146 hb
     replace HB := bS HB hb
     clear HO_125000 HO_125001 HO_132000 HO_132001 HO_139000 HO_139001 HO_147000 HO_147001 HO150 HO153
     have HO_125000 := n0_
     have HO_125001 := n1_
     have HO_132000 := n2_
     have HO_132001 := n3_
     have HO_139000 := n4_
     have HO_139001 := n5_
     have HO_147000 := n6_
     have HO_147001 := n7_
     have HO150 := n8_
     have HO153 := n9_
     clear n0_ n1_ n2_ n3_ n4_ n5_ n6_ n7_ n8_ n9_
     (try clear hb)
     (try clear hb2)
     (try clear hk)
     (try clear hi)
     refine hK.out _ _ (cj2 BK131.out (cz2 BK101.out)) (fun hHeld => ?_)
     clear hK K
     refine norm_ (a' := ?_) ?_ ?_
     rotate_left
     ·
      show Act.put _ (some 57) _ = _
      simp only [sP]
      rfl
     refine pure_ (i := 4) (N := some 58) (v := ?_) (a' := ?_) #[true, true, true, true, true] rfl rfl (by kernel_rfl) (fun _ _ _ h => h) (Or.inl ⟨by rfl, ?_⟩) ?_ ?_
     rotate_left
     ·
      intro w'
      go_simp
      with_reducible rfl
     rotate_left
     ·
      simp only [sP]
      rfl
     refine done_ (by kernel_rfl) ?_
     replace HO_125000 := aK (Kd.R_mono HO_125000.out (fun k_ hk_ => (⟨hk_.1.1.1, ⟨hk_.1.1.2.1, ⟨hk_.1.1.2.2.1, ⟨hk_.1.1.2.2.2.1, ⟨hk_.1.1.2.2.2.2.1, ⟨hk_.1.1.2.2.2.2.2.1, hk_.1.1.2.2.2.2.2.2⟩⟩⟩⟩⟩⟩ : (some k_ ≠ (.slice Ao44 t120.length co44 : Value).ownBlock ∧ (some k_ ≠ (.slice Ao50 t125.length co50 : Value).ownBlock ∧ (some k_ ≠ (.slice Ao55 t128.length co55 : Value).ownBlock ∧ (some k_ ≠ (.slice Ao60 t132.length co60 : Value).ownBlock ∧ (some k_ ≠ (.slice Ao66 t135.length co66 : Value).ownBlock ∧ (some k_ ≠ (.slice Ao70 t139.length co70 : Value).ownBlock ∧ some k_ ≠ (.slice Ao77 t142.length co77 : Value).ownBlock)))))))))
     replace HO_125001 := aK (Kd.R_mono HO_125001.out (fun k_ hk_ => (⟨hk_.1.1.1, ⟨hk_.1.1.2.1, ⟨hk_.1.1.2.2.1, ⟨hk_.1.1.2.2.2.1, ⟨hk_.1.1.2.2.2.2.1, ⟨hk_.1.1.2.2.2.2.2.1, hk_.1.1.2.2.2.2.2.2⟩⟩⟩⟩⟩⟩ : (some k_ ≠ (.slice Ao42 t117.length co42 : Value).ownBlock ∧ (some k_ ≠ (.slice Ao50 t125.length co50 : Value).ownBlock ∧ (some k_ ≠ (.slice Ao55 t128.length co55 : Value).ownBlock ∧ (some k_ ≠ (.slice Ao60 t132.length co60 : Value).ownBlock ∧ (some k_ ≠ (.slice Ao66 t135.length co66 : Value).ownBlock ∧ (some k_ ≠ (.slice Ao70 t139.length co70 : Value).ownBlock ∧ some k_ ≠ (.slice Ao77 t142.length co77 : Value).ownBlock)))))))))
     replace HO_132000 := aK (Kd.R_mono HO_132000.out (fun k_ hk_ => (⟨hk_.1.1.1, ⟨hk_.1.1.2.1, ⟨hk_.1.1.2.2.1, ⟨hk_.1.1.2.2.2.1, ⟨hk_.1.1.2.2.2.2.1, ⟨hk_.1.1.2.2.2.2.2.1, hk_.1.1.2.2.2.2.2.2⟩⟩⟩⟩⟩⟩ : (some k_ ≠ (.slice Ao42 t117.length co42 : Value).ownBlock ∧ (some k_ ≠ (.slice Ao44 t120.length co44 : Value).ownBlock ∧ (some k_ ≠ (.slice Ao55 t128.length co55 : Value).ownBlock ∧ (some k_ ≠ (.slice Ao60 t132.length co60 : Value).ownBlock ∧ (some k_ ≠ (.slice Ao66 t135.length co66 : Value).ownBlock ∧ (some k_ ≠ (.slice Ao70 t139.length co70 : Value).ownBlock ∧ some k_ ≠ (.slice Ao77 t142.length co77 : Value).ownBlock)))))))))
     replace HO_132001 := aK (Kd.R_mono HO_132001.out (fun k_ hk_ => (⟨hk_.1.1.1, ⟨hk_.1.1.2.1, ⟨hk_.1.1.2.2.1, ⟨hk_.1.1.2.2.2.1, ⟨hk_.1.1.2.2.2.2.1, ⟨hk_.1.1.2.2.2.2.2.1, hk_.1.1.2.2.2.2.2.2⟩⟩⟩⟩⟩⟩ : (some k_ ≠ (.slice Ao42 t117.length co42 : Value).ownBlock ∧ (some k_ ≠ (.slice Ao44 t120.length co44 : Value).ownBlock ∧ (some k_ ≠ (.slice Ao50 t125.length co50 : Value).ownBlock ∧ (some k_ ≠ (.slice Ao60 t132.length co60 : Value).ownBlock ∧ (some k_ ≠ (.slice Ao66 t135.length co66 : Value).ownBlock ∧ (some k_ ≠ (.slice Ao70 t139.length co70 : Value).ownBlock ∧ some k_ ≠ (.slice Ao77 t142.length co77 : Value).ownBlock)))))))))
     replace HO_139000 := aK (Kd.R_mono HO_139000.out (fun k_ hk_ => (⟨hk_.1.1.1, ⟨hk_.1.1.2.1, ⟨hk_.1.1.2.2.1, ⟨hk_.1.1.2.2.2.1, ⟨hk_.1.1.2.2.2.2.1, ⟨hk_.1.1.2.2.2.2.2.1, hk_.1.1.2.2.2.2.2.2⟩⟩⟩⟩⟩⟩ : (some k_ ≠ (.slice Ao42 t117.length co42 : Value).ownBlock ∧ (some k_ ≠ (.slice Ao44 t120.length co44 : Value).ownBlock ∧ (some k_ ≠ (.slice Ao50 t125.length co50 : Value).ownBlock ∧ (some k_ ≠ (.slice Ao55 t128.length co55 : Value).ownBlock ∧ (some k_ ≠ (.slice Ao66 t135.length co66 : Value).ownBlock ∧ (some k_ ≠ (.slice Ao70 t139.length co70 : Value).ownBlock ∧ some k_ ≠ (.slice Ao77 t142.length co77 : Value).ownBlock)))))))))
     replace HO_139001 := aK (Kd.R_mono HO_139001.out (fun k_ hk_ => (⟨hk_.1.1.1, ⟨hk_.1.1.2.1, ⟨hk_.1.1.2.2.1, ⟨hk_.1.1.2.2.2.1, ⟨hk_.1.1.2.2.2.2.1, ⟨hk_.1.1.2.2.2.2.2.1, hk_.1.1.2.2.2.2.2.2⟩⟩⟩⟩⟩⟩ : (some k_ ≠ (.slice Ao42 t117.length co42 : Value).ownBlock ∧ (some k_ ≠ (.slice Ao44 t120.length co44 : Value).ownBlock ∧ (some k_ ≠ (.slice Ao50 t125.length co50 : Value).ownBlock ∧ (some k_ ≠ (.slice Ao55 t128.length co55 : Value).ownBlock ∧ (some k_ ≠ (.slice Ao60 t132.length co60 : Value).ownBlock ∧ (some k_ ≠ (.slice Ao70 t139.length co70 : Value).ownBlock ∧ some k_ ≠ (.slice Ao77 t142.length co77 : Value).ownBlock)))))))))
     replace HO_147000 := aK (Kd.R_mono HO_147000.out (fun k_ hk_ => (⟨hk_.1.1.1, ⟨hk_.1.1.2.1, ⟨hk_.1.1.2.2.1, ⟨hk_.1.1.2.2.2.1, ⟨hk_.1.1.2.2.2.2.1, ⟨hk_.1.1.2.2.2.2.2.1, hk_.1.1.2.2.2.2.2.2⟩⟩⟩⟩⟩⟩ : (some k_ ≠ (.slice Ao42 t117.length co42 : Value).ownBlock ∧ (some k_ ≠ (.slice Ao44 t120.length co44 : Value).ownBlock ∧ (some k_ ≠ (.slice Ao50 t125.length co50 : Value).ownBlock ∧ (some k_ ≠ (.slice Ao55 t128.length co55 : Value).ownBlock ∧ (some k_ ≠ (.slice Ao60 t132.length co60 : Value).ownBlock ∧ (some k_ ≠ (.slice Ao66 t135.length co66 : Value).ownBlock ∧ some k_ ≠ (.slice Ao77 t142.length co77 : Value).ownBlock)))))))))
     replace HO_147001 := aK (Kd.R_mono HO_147001.out (fun k_ hk_ => (⟨hk_.1.1.1, ⟨hk_.1.1.2.1, ⟨hk_.1.1.2.2.1, ⟨hk_.1.1.2.2.2.1, ⟨hk_.1.1.2.2.2.2.1, ⟨hk_.1.1.2.2.2.2.2.1, hk_.1.1.2.2.2.2.2.2⟩⟩⟩⟩⟩⟩ : (some k_ ≠ (.slice Ao42 t117.length co42 : Value).ownBlock ∧ (some k_ ≠ (.slice Ao44 t120.length co44 : Value).ownBlock ∧ (some k_ ≠ (.slice Ao50 t125.length co50 : Value).ownBlock ∧ (some k_ ≠ (.slice Ao55 t128.length co55 : Value).ownBlock ∧ (some k_ ≠ (.slice Ao60 t132.length co60 : Value).ownBlock ∧ (some k_ ≠ (.slice Ao66 t135.length co66 : Value).ownBlock ∧ some k_ ≠ (.slice Ao70 t139.length co70 : Value).ownBlock)))))))))
     try go_wp2
     have n0_ := aK (Kd.R_drew HO_125000.out)
     have n1_ := aK (Kd.R_drew HO_125001.out)
     have n2_ := aK (Kd.R_drew HO_132000.out)
     have n3_ := aK (Kd.R_drew HO_132001.out)
     have n4_ := aK (Kd.R_drew HO_139000.out)
     have n5_ := aK (Kd.R_drew HO_139001.out)
     have n6_ := aK (Kd.R_drew HO_147000.out)
     have n7_ := aK (Kd.R_drew HO_147001.out)
     have n8_ := aK (blk_drew BK101.out)
     have n9_ := aK (blk_drew BK102.out)
     have n10_ := aK (blk_drew BK124.out)
     have n11_ := aK (blk_drew BK131.out)
     have n12_ := aK (blk_drew BK138.out)
     have n13_ := aK (blk_drew BK146.out)
     have n14_ := aK (below_drew1 HB.out)
     clear HO_125000 HO_125001 HO_132000 HO_132001 HO_139000 HO_139001 HO_147000 HO_147001 BK101 BK102 BK124 BK131 BK138 BK146 HB
     have HO_125000 := n0_
     have HO_125001 := n1_
     have HO_132000 := n2_
     have HO_132001 := n3_
     have HO_139000 := n4_
     have HO_139001 := n5_
     have HO_147000 := n6_
     have HO_147001 := n7_
     have BK101 := n8_
     have BK102 := n9_
     have BK124 := n10_
     have BK131 := n11_
     have BK138 := n12_
     have BK146 := n13_
     have HB := n14_
     clear n0_ n1_ n2_ n3_ n4_ n5_ n6_ n7_ n8_ n9_ n10_ n11_ n12_ n13_ n14_
     refine start_ (n := 5) (S := fun w' => w'.cell? ⟨gb138, 0, none⟩ = some (.slice Ao60 t132.length co60) ∧ w'.cell? ⟨gb138, 1, none⟩ = some (.slice Ao66 t135.length co66) ∧ w'.cell? ⟨gb102, 0, none⟩ = some (.slice A1_0 l1_0.length c1_0) ∧ w'.cell? ⟨gb102, 1, none⟩ = some (.slice A1_1 l1_1.length c1_1)) (ds := []) #[false, false, false, false, false] (by kernel_rfl) rfl rfl (cj2 BK138.out (cz2 BK102.out)) (fun hHeld => ?_)
     generalize w118.drew = w119 at HO_125000 HO_125001 HO_132000 HO_132001 HO_139000 HO_139001 HO_147000 HO_147001 BK101 BK102 BK124 BK131 BK138 BK146 HB hHeld ⊢
     refine take_ (i := 0) (N := some 59) (v := ?_) (a' := ?_) #[true, false, false, false, false] rfl rfl (by kernel_rfl) (fun _ _ _ h => h) (Or.inl ⟨by rfl, ?_⟩) hHeld ?_ ?_
     rotate_left
     ·
      rintro w' ⟨s0, s1, s2, s3⟩
      go_simp
      with_reducible rfl
     rotate_left
     ·
      simp only [sP]
      rfl
     refine take_ (i := 1) (N := some 60) (v := ?_) (a' := ?_) #[true, true, false, false, false] rfl rfl (by kernel_rfl) (fun _ _ _ h => h) (Or.inl ⟨by rfl, ?_⟩) hHeld ?_ ?_
     rotate_left
     ·
      rintro w' ⟨s0, s1, s2, s3⟩
      go_simp
      with_reducible rfl
     rotate_left
     ·
      simp only [sP]
      rfl
     refine one_ (i := 2) (N := some 61) #[true, true, true, false, false] rfl rfl (by kernel_rfl) (by decide) (fun K hK => ?_)
     refine goes_ Try.func44 (by kernel_rfl) rfl #[.agg #[.slice A1_0 l1_0.length c1_0, .slice A1_1 l1_1.length c1_1]] (by rfl) rfl rfl (by (try simp only [List.map_toArray, List.map_cons, List.map_nil]); first | done | rfl | (simp only [List.length_drop, List.length_take]; rfl)) ?_
     with_reducible refine (laws_toTally.calls kj23 _ _ l1_0 _ _ l1_1 t155 t158 _ ?side1 ?side2 ?side3 ?side4 A108.out).mono ?_
     (case side1 => exact pC (Kd.C_below HR1_0.out HB.out))
     (case side2 => exact HC1_0.out)
     (case side3 => exact pC (Kd.C_below HR1_1.out HB.out))
     (case side4 => exact HC1_1.out)
     rintro e w120 ⟨v156, v159, rfl, ho0, ho1, hb⟩
     refine ⟨_, rfl, ?_⟩
     have n0_ := aK (rO2 (pR HO_125000.out) hb ho0 ho1)
     have n1_ := aK (rO2 (pR HO_125001.out) hb ho0 ho1)
     have n2_ := aK (rO2 (pR HO_132000.out) hb ho0 ho1)
     have n3_ := aK (rO2 (pR HO_132001.out) hb ho0 ho1)
     have n4_ := aK (rO2 (pR HO_139000.out) hb ho0 ho1)
     have n5_ := aK (rO2 (pR HO_139001.out) hb ho0 ho1)
     have n6_ := aK (rO2 (pR HO_147000.out) hb ho0 ho1)
     have n7_ := aK (rO2 (pR HO_147001.out) hb ho0 ho1)
     have HO157 := aK (Kd.R_lower (nw4 (nw4 ho0 (pR HO_125000.out) (pR HO_125001.out) (pR HO_132000.out) (pR HO_132001.out)) (pR HO_139000.out) (pR HO_139001.out) (pR HO_147000.out) (pR HO_147001.out)) (below_size (pS HB.out)))
     have HO160 := aK (Kd.R_lower (nw4 (nw4 ho1 (pR HO_125000.out) (pR HO_125001.out) (pR HO_132000.out) (pR HO_132001.out)) (pR HO_139000.out) (pR HO_139001.out) (pR HO_147000.out) (pR HO_147001.out)) (below_size (pS HB.out)))
     replace BK101 := bB BK101 hb
     replace BK102 := bB BK102 hb
     replace BK124 := bB BK124 hb
     replace BK131 := bB BK131 hb
     replace BK138 := bB BK138 hb
     replace BK146 := bB BK146 hb
     replace HB := bS HB hb
     clear HO_125000 HO_125001 HO_132000 HO_132001 HO_139000 HO_139001 HO_147000 HO_147001
     have HO_125000 := n0_
     have HO_125001 := n1_
     have HO_132000 := n2_
     have HO_132001 := n3_
     have HO_139000 := n4_
     have HO_139001 := n5_
     have HO_147000 := n6_
     have HO_147001 := n7_
     clear n0_ n1_ n2_ n3_ n4_ n5_ n6_ n7_
     (try clear hb)
     (try clear hb2)
     (try clear hk)
     (try clear hi)
     (try clear ho0)
     (try clear ho1)
     obtain ⟨Ao121, co121, eo121⟩ := Kd.R_slice HO157.out
     (first | subst eo121 | (obtain ⟨f4_, f5_⟩ := sI eo121; subst f4_; subst f5_))
     obtain ⟨Ao122, co122, eo122⟩ := Kd.R_slice HO160.out
     (first | subst eo122 | (obtain ⟨f4_, f5_⟩ := sI eo122; subst f4_; subst f5_))
     refine hK.out _ _ (cj2 BK138.out (cz2 BK102.out)) (fun hHeld => ?_)
     clear hK K
     refine norm_ (a' := ?_) ?_ ?_
     rotate_left
     ·
      show Act.put _ (some 61) _ = _
      simp only [sP]
      rfl
     refine one_ (i := 3) (N := some 62) #[true, true, true, true, false] rfl rfl (by kernel_rfl) (by decide) (fun K hK => ?_)
     refine goes_ Try.func46 (by kernel_rfl) rfl #[.agg #[.slice Ao60 t132.length co60, .slice Ao66 t135.length co66], .agg #[.slice Ao121 t155.length co121, .slice Ao122 t158.length co122]] (by rfl) rfl rfl (by (try simp only [List.map_toArray, List.map_cons, List.map_nil]); first | done | rfl | (simp only [List.length_drop, List.length_take]; rfl)) ?_
     with_reducible refine (laws_eqTally.calls kj23 _ _ t132 _ _ t135 _ _ t155 _ _ t158 true _ ?side1 ?side2 ?side3 ?side4 ?side5 ?side6 ?side7 ?side8 A109.out).mono ?_
     (case side1 => exact pC (Kd.R_reads' HO_139000.out).2.2)
     (case side2 => exact (Kd.R_reads' HO_139000.out).2.1)
     (case side3 => exact pC (Kd.R_reads' HO_139001.out).2.2)
     (case side4 => exact (Kd.R_reads' HO_139001.out).2.1)
     (case side5 => exact pC (Kd.R_reads' HO157.out).2.2)
     (case side6 => exact (Kd.R_reads' HO157.out).2.1)
     (case side7 => exact pC (Kd.R_reads' HO160.out).2.2)
     (case side8 => exact (Kd.R_reads' HO160.out).2.1)
     rintro e w123 ⟨rfl, hb⟩
     refine ⟨_, rfl, ?_⟩
     have n0_ := aK (Kd.R_below (pR HO_125000.out) hb)
     have n1_ := aK (Kd.R_below (pR HO_125001.out) hb)
     have n2_ := aK (Kd.R_below (pR HO_132000.out) hb)
     have n3_ := aK (Kd.R_below (pR HO_132001.out) hb)
     have n4_ := aK (Kd.R_below (pR HO_139000.out) hb)
     have n5_ := aK (Kd.R_below (pR HO_139001.out) hb)
     have n6_ := aK (Kd.R_below (pR HO_147000.out) hb)
     have n7_ := aK (Kd.R_below (pR HO_147001.out) hb)
     have n8_ := aK (Kd.R_below (pR HO157.out) hb)
     have n9_ := aK (Kd.R_below (pR HO160.out) hb)
     replace BK101 := bB BK101 hb
     replace BK102 := bB BK102 hb
     replace BK124 := bB BK124 hb
     replace BK131 := bB BK131 hb
     replace BK138 := bB BK138 hb
     replace BK146 := bB BK146 hb
     replace HB := bS HB hb
     clear HO_125000 HO_125001 HO_132000 HO_132001 HO_139000 HO_139001 HO_147000 HO_147001 HO157 HO160
     have HO_125000 := n0_
     have HO_125001 := n1_
     have HO_132000 := n2_
     have HO_132001 := n3_
     have HO_139000 := n4_
     have HO_139001 := n5_
     have HO_147000 := n6_
     have HO_147001 := n7_
     have HO157 := n8_
     have HO160 := n9_
     clear n0_ n1_ n2_ n3_ n4_ n5_ n6_ n7_ n8_ n9_
     (try clear hb)
     (try clear hb2)
     (try clear hk)
     (try clear hi)
     refine hK.out _ _ (cj2 BK138.out (cz2 BK102.out)) (fun hHeld => ?_)
     clear hK K
     refine norm_ (a' := ?_) ?_ ?_
     rotate_left
     ·
      show Act.put _ (some 62) _ = _
      simp only [sP]
      rfl
     refine pure_ (i := 4) (N := some 63) (v := ?_) (a' := ?_) #[true, true, true, true, true] rfl rfl (by kernel_rfl) (fun _ _ _ h => h) (Or.inl ⟨by rfl, ?_⟩) ?_ ?_
     rotate_left
     ·
      intro w'
      go_simp
      with_reducible rfl
     rotate_left
     ·
      simp only [sP]
      rfl
     refine done_ (by kernel_rfl) ?_
     have hnb124 := NB131_101.out
     have hnc124 := NB101_131.out
     have hnb125 := NB131_102.out
     have hnc125 := NB102_131.out
     have hnb126 := NB131_124.out
     have hnc126 := NB124_131.out
     have hnb127 := NB131_138.out
     have hnc127 := NB138_131.out
     have hnb128 := NB131_146.out
     have hnc128 := NB146_131.out
     obtain ⟨hcz129_0, hcz129_1, hfz129_0, hfz129_1⟩ := bc2 BK131.out
     replace HO_125000 := aK (Kd.R_mono HO_125000.out (fun k_ hk_ => (⟨hk_.1.1.1, ⟨hk_.1.1.2.1, ⟨hk_.1.1.2.2.1, ⟨hk_.1.1.2.2.2.1, ⟨hk_.1.1.2.2.2.2.1, ⟨hk_.1.1.2.2.2.2.2.1, hk_.1.1.2.2.2.2.2.2⟩⟩⟩⟩⟩⟩ : (some k_ ≠ (.slice Ao44 t120.length co44 : Value).ownBlock ∧ (some k_ ≠ (.slice Ao50 t125.length co50 : Value).ownBlock ∧ (some k_ ≠ (.slice Ao55 t128.length co55 : Value).ownBlock ∧ (some k_ ≠ (.slice Ao60 t132.length co60 : Value).ownBlock ∧ (some k_ ≠ (.slice Ao66 t135.length co66 : Value).ownBlock ∧ (some k_ ≠ (.slice Ao70 t139.length co70 : Value).ownBlock ∧ some k_ ≠ (.slice Ao77 t142.length co77 : Value).ownBlock)))))))))
     replace HO_125001 := aK (Kd.R_mono HO_125001.out (fun k_ hk_ => (⟨hk_.1.1.1, ⟨hk_.1.1.2.1, ⟨hk_.1.1.2.2.1, ⟨hk_.1.1.2.2.2.1, ⟨hk_.1.1.2.2.2.2.1, ⟨hk_.1.1.2.2.2.2.2.1, hk_.1.1.2.2.2.2.2.2⟩⟩⟩⟩⟩⟩ : (some k_ ≠ (.slice Ao42 t117.length co42 : Value).ownBlock ∧ (some k_ ≠ (.slice Ao50 t125.length co50 : Value).ownBlock ∧ (some k_ ≠ (.slice Ao55 t128.length co55 : Value).ownBlock ∧ (some k_ ≠ (.slice Ao60 t132.length co60 : Value).ownBlock ∧ (some k_ ≠ (.slice Ao66 t135.length co66 : Value).ownBlock ∧ (some k_ ≠ (.slice Ao70 t139.length co70 : Value).ownBlock ∧ some k_ ≠ (.slice Ao77 t142.length co77 : Value).ownBlock)))))))))
     replace HO_132000 := aK (Kd.R_mono HO_132000.out (fun k_ hk_ => (⟨hk_.1.1.1, ⟨hk_.1.1.2.1, ⟨hk_.1.1.2.2.1, ⟨hk_.1.1.2.2.2.1, ⟨hk_.1.1.2.2.2.2.1, ⟨hk_.1.1.2.2.2.2.2.1, hk_.1.1.2.2.2.2.2.2⟩⟩⟩⟩⟩⟩ : (some k_ ≠ (.slice Ao42 t117.length co42 : Value).ownBlock ∧ (some k_ ≠ (.slice Ao44 t120.length co44 : Value).ownBlock ∧ (some k_ ≠ (.slice Ao55 t128.length co55 : Value).ownBlock ∧ (some k_ ≠ (.slice Ao60 t132.length co60 : Value).ownBlock ∧ (some k_ ≠ (.slice Ao66 t135.length co66 : Value).ownBlock ∧ (some k_ ≠ (.slice Ao70 t139.length co70 : Value).ownBlock ∧ some k_ ≠ (.slice Ao77 t142.length co77 : Value).ownBlock)))))))))
     replace HO_132001 := aK (Kd.R_mono HO_132001.out (fun k_ hk_ => (⟨hk_.1.1.1, ⟨hk_.1.1.2.1, ⟨hk_.1.1.2.2.1, ⟨hk_.1.1.2.2.2.1, ⟨hk_.1.1.2.2.2.2.1, ⟨hk_.1.1.2.2.2.2.2.1, hk_.1.1.2.2.2.2.2.2⟩⟩⟩⟩⟩⟩ : (some k_ ≠ (.slice Ao42 t117.length co42 : Value).ownBlock ∧ (some k_ ≠ (.slice Ao44 t120.length co44 : Value).ownBlock ∧ (some k_ ≠ (.slice Ao50 t125.length co50 : Value).ownBlock ∧ (some k_ ≠ (.slice Ao60 t132.length co60 : Value).ownBlock ∧ (some k_ ≠ (.slice Ao66 t135.length co66 : Value).ownBlock ∧ (some k_ ≠ (.slice Ao70 t139.length co70 : Value).ownBlock ∧ some k_ ≠ (.slice Ao77 t142.length co77 : Value).ownBlock)))))))))
     replace HO_139000 := aK (Kd.R_mono HO_139000.out (fun k_ hk_ => (⟨hk_.1.1.1, ⟨hk_.1.1.2.1, ⟨hk_.1.1.2.2.1, ⟨hk_.1.1.2.2.2.1, ⟨hk_.1.1.2.2.2.2.1, ⟨hk_.1.1.2.2.2.2.2.1, hk_.1.1.2.2.2.2.2.2⟩⟩⟩⟩⟩⟩ : (some k_ ≠ (.slice Ao42 t117.length co42 : Value).ownBlock ∧ (some k_ ≠ (.slice Ao44 t120.length co44 : Value).ownBlock ∧ (some k_ ≠ (.slice Ao50 t125.length co50 : Value).ownBlock ∧ (some k_ ≠ (.slice Ao55 t128.length co55 : Value).ownBlock ∧ (some k_ ≠ (.slice Ao66 t135.length co66 : Value).ownBlock ∧ (some k_ ≠ (.slice Ao70 t139.length co70 : Value).ownBlock ∧ some k_ ≠ (.slice Ao77 t142.length co77 : Value).ownBlock)))))))))
     replace HO_139001 := aK (Kd.R_mono HO_139001.out (fun k_ hk_ => (⟨hk_.1.1.1, ⟨hk_.1.1.2.1, ⟨hk_.1.1.2.2.1, ⟨hk_.1.1.2.2.2.1, ⟨hk_.1.1.2.2.2.2.1, ⟨hk_.1.1.2.2.2.2.2.1, hk_.1.1.2.2.2.2.2.2⟩⟩⟩⟩⟩⟩ : (some k_ ≠ (.slice Ao42 t117.length co42 : Value).ownBlock ∧ (some k_ ≠ (.slice Ao44 t120.length co44 : Value).ownBlock ∧ (some k_ ≠ (.slice Ao50 t125.length co50 : Value).ownBlock ∧ (some k_ ≠ (.slice Ao55 t128.length co55 : Value).ownBlock ∧ (some k_ ≠ (.slice Ao60 t132.length co60 : Value).ownBlock ∧ (some k_ ≠ (.slice Ao70 t139.length co70 : Value).ownBlock ∧ some k_ ≠ (.slice Ao77 t142.length co77 : Value).ownBlock)))))))))
     replace HO_147000 := aK (Kd.R_mono HO_147000.out (fun k_ hk_ => (⟨hk_.1.1.1, ⟨hk_.1.1.2.1, ⟨hk_.1.1.2.2.1, ⟨hk_.1.1.2.2.2.1, ⟨hk_.1.1.2.2.2.2.1, ⟨hk_.1.1.2.2.2.2.2.1, hk_.1.1.2.2.2.2.2.2⟩⟩⟩⟩⟩⟩ : (some k_ ≠ (.slice Ao42 t117.length co42 : Value).ownBlock ∧ (some k_ ≠ (.slice Ao44 t120.length co44 : Value).ownBlock ∧ (some k_ ≠ (.slice Ao50 t125.length co50 : Value).ownBlock ∧ (some k_ ≠ (.slice Ao55 t128.length co55 : Value).ownBlock ∧ (some k_ ≠ (.slice Ao60 t132.length co60 : Value).ownBlock ∧ (some k_ ≠ (.slice Ao66 t135.length co66 : Value).ownBlock ∧ some k_ ≠ (.slice Ao77 t142.length co77 : Value).ownBlock)))))))))
     replace HO_147001 := aK (Kd.R_mono HO_147001.out (fun k_ hk_ => (⟨hk_.1.1.1, ⟨hk_.1.1.2.1, ⟨hk_.1.1.2.2.1, ⟨hk_.1.1.2.2.2.1, ⟨hk_.1.1.2.2.2.2.1, ⟨hk_.1.1.2.2.2.2.2.1, hk_.1.1.2.2.2.2.2.2⟩⟩⟩⟩⟩⟩ : (some k_ ≠ (.slice Ao42 t117.length co42 : Value).ownBlock ∧ (some k_ ≠ (.slice Ao44 t120.length co44 : Value).ownBlock ∧ (some k_ ≠ (.slice Ao50 t125.length co50 : Value).ownBlock ∧ (some k_ ≠ (.slice Ao55 t128.length co55 : Value).ownBlock ∧ (some k_ ≠ (.slice Ao60 t132.length co60 : Value).ownBlock ∧ (some k_ ≠ (.slice Ao66 t135.length co66 : Value).ownBlock ∧ some k_ ≠ (.slice Ao70 t139.length co70 : Value).ownBlock)))))))))
     go_upto_region 21 with (first | ((with_reducible refine gate_callee (f := 47) rfl ?_); refine gl (some 66) Try.func47 #[.agg #[.slice Ao50 t125.length co50, .slice Ao55 t128.length co55], .int .i64 1] ?_; (with_reducible refine (laws_markTally.calls kj23 (fun k_ => some k_ = (.slice Ao50 t125.length co50 : Value).ownBlock) (.slice Ao50 t125.length co50) t125 (fun k_ => some k_ = (.slice Ao55 t128.length co55 : Value).ownBlock) (.slice Ao55 t128.length co55) t128 1 t162 t163 t164 w _ ?side1 ?side2 ?side3 ?side4 ?side5 A111.out).mono ?_); (case side1 => exact pT HB.out); (case side2 => exact Kd.R_tight rfl HO_132000.out); (case side3 => exact fun k_ e_ => (HO_132000.out.1 k_ e_.symm).2.2.1); (case side4 => exact Kd.R_tight rfl HO_132001.out); (case side5 => exact fun k_ e_ => (HO_132001.out.1 k_ e_.symm).2.2.1); rintro e w130 ⟨rfl, hy0, hy1, hb, hkp⟩; refine ⟨_, rfl, ?_⟩; have n0_ := aK (Kd.R_mono (ok' := fun k_ => some k_ ≠ (.slice Ao44 t120.length co44 : Value).ownBlock ∧ some k_ ≠ (.slice Ao50 t125.length co50 : Value).ownBlock ∧ some k_ ≠ (.slice Ao55 t128.length co55 : Value).ownBlock ∧ some k_ ≠ (.slice Ao60 t132.length co60 : Value).ownBlock ∧ some k_ ≠ (.slice Ao66 t135.length co66 : Value).ownBlock ∧ some k_ ≠ (.slice Ao70 t139.length co70 : Value).ownBlock ∧ some k_ ≠ (.slice Ao77 t142.length co77 : Value).ownBlock) (Kd.R_keptB (HO_125000.out) hkp (fun k_ hk_ hs_ => Or.elim hs_ (fun e_ => (hk_.2.1) e_) (fun e_ => (hk_.2.2.1) e_))) (fun k_ hk_ => ⟨hk_.1.1, hk_.1.2.1, hk_.1.2.2.1, hk_.1.2.2.2.1, hk_.1.2.2.2.2.1, hk_.1.2.2.2.2.2.1, hk_.1.2.2.2.2.2.2⟩)); have n1_ := aK (Kd.R_mono (ok' := fun k_ => some k_ ≠ (.slice Ao42 t117.length co42 : Value).ownBlock ∧ some k_ ≠ (.slice Ao50 t125.length co50 : Value).ownBlock ∧ some k_ ≠ (.slice Ao55 t128.length co55 : Value).ownBlock ∧ some k_ ≠ (.slice Ao60 t132.length co60 : Value).ownBlock ∧ some k_ ≠ (.slice Ao66 t135.length co66 : Value).ownBlock ∧ some k_ ≠ (.slice Ao70 t139.length co70 : Value).ownBlock ∧ some k_ ≠ (.slice Ao77 t142.length co77 : Value).ownBlock) (Kd.R_keptB (HO_125001.out) hkp (fun k_ hk_ hs_ => Or.elim hs_ (fun e_ => (hk_.2.1) e_) (fun e_ => (hk_.2.2.1) e_))) (fun k_ hk_ => ⟨hk_.1.1, hk_.1.2.1, hk_.1.2.2.1, hk_.1.2.2.2.1, hk_.1.2.2.2.2.1, hk_.1.2.2.2.2.2.1, hk_.1.2.2.2.2.2.2⟩)); have n2_ := aK (Kd.R_reok rfl hy0 (fun k_ e_ => HO_132000.out.1 k_ e_)); have n3_ := aK (Kd.R_reok rfl hy1 (fun k_ e_ => HO_132001.out.1 k_ e_)); have n4_ := aK (Kd.R_mono (ok' := fun k_ => some k_ ≠ (.slice Ao42 t117.length co42 : Value).ownBlock ∧ some k_ ≠ (.slice Ao44 t120.length co44 : Value).ownBlock ∧ some k_ ≠ (.slice Ao50 t125.length co50 : Value).ownBlock ∧ some k_ ≠ (.slice Ao55 t128.length co55 : Value).ownBlock ∧ some k_ ≠ (.slice Ao66 t135.length co66 : Value).ownBlock ∧ some k_ ≠ (.slice Ao70 t139.length co70 : Value).ownBlock ∧ some k_ ≠ (.slice Ao77 t142.length co77 : Value).ownBlock) (Kd.R_keptB (HO_139000.out) hkp (fun k_ hk_ hs_ => Or.elim hs_ (fun e_ => (hk_.2.2.1) e_) (fun e_ => (hk_.2.2.2.1) e_))) (fun k_ hk_ => ⟨hk_.1.1, hk_.1.2.1, hk_.1.2.2.1, hk_.1.2.2.2.1, hk_.1.2.2.2.2.1, hk_.1.2.2.2.2.2.1, hk_.1.2.2.2.2.2.2⟩)); have n5_ := aK (Kd.R_mono (ok' := fun k_ => some k_ ≠ (.slice Ao42 t117.length co42 : Value).ownBlock ∧ some k_ ≠ (.slice Ao44 t120.length co44 : Value).ownBlock ∧ some k_ ≠ (.slice Ao50 t125.length co50 : Value).ownBlock ∧ some k_ ≠ (.slice Ao55 t128.length co55 : Value).ownBlock ∧ some k_ ≠ (.slice Ao60 t132.length co60 : Value).ownBlock ∧ some k_ ≠ (.slice Ao70 t139.length co70 : Value).ownBlock ∧ some k_ ≠ (.slice Ao77 t142.length co77 : Value).ownBlock) (Kd.R_keptB (HO_139001.out) hkp (fun k_ hk_ hs_ => Or.elim hs_ (fun e_ => (hk_.2.2.1) e_) (fun e_ => (hk_.2.2.2.1) e_))) (fun k_ hk_ => ⟨hk_.1.1, hk_.1.2.1, hk_.1.2.2.1, hk_.1.2.2.2.1, hk_.1.2.2.2.2.1, hk_.1.2.2.2.2.2.1, hk_.1.2.2.2.2.2.2⟩)); have n6_ := aK (Kd.R_mono (ok' := fun k_ => some k_ ≠ (.slice Ao42 t117.length co42 : Value).ownBlock ∧ some k_ ≠ (.slice Ao44 t120.length co44 : Value).ownBlock ∧ some k_ ≠ (.slice Ao50 t125.length co50 : Value).ownBlock ∧ some k_ ≠ (.slice Ao55 t128.length co55 : Value).ownBlock ∧ some k_ ≠ (.slice Ao60 t132.length co60 : Value).ownBlock ∧ some k_ ≠ (.slice Ao66 t135.length co66 : Value).ownBlock ∧ some k_ ≠ (.slice Ao77 t142.length co77 : Value).ownBlock) (Kd.R_keptB (HO_147000.out) hkp (fun k_ hk_ hs_ => Or.elim hs_ (fun e_ => (hk_.2.2.1) e_) (fun e_ => (hk_.2.2.2.1) e_))) (fun k_ hk_ => ⟨hk_.1.1, hk_.1.2.1, hk_.1.2.2.1, hk_.1.2.2.2.1, hk_.1.2.2.2.2.1, hk_.1.2.2.2.2.2.1, hk_.1.2.2.2.2.2.2⟩)); have n7_ := aK (Kd.R_mono (ok' := fun k_ => some k_ ≠ (.slice Ao42 t117.length co42 : Value).ownBlock ∧ some k_ ≠ (.slice Ao44 t120.length co44 : Value).ownBlock ∧ some k_ ≠ (.slice Ao50 t125.length co50 : Value).ownBlock ∧ some k_ ≠ (.slice Ao55 t128.length co55 : Value).ownBlock ∧ some k_ ≠ (.slice Ao60 t132.length co60 : Value).ownBlock ∧ some k_ ≠ (.slice Ao66 t135.length co66 : Value).ownBlock ∧ some k_ ≠ (.slice Ao70 t139.length co70 : Value).ownBlock) (Kd.R_keptB (HO_147001.out) hkp (fun k_ hk_ hs_ => Or.elim hs_ (fun e_ => (hk_.2.2.1) e_) (fun e_ => (hk_.2.2.2.1) e_))) (fun k_ hk_ => ⟨hk_.1.1, hk_.1.2.1, hk_.1.2.2.1, hk_.1.2.2.2.1, hk_.1.2.2.2.2.1, hk_.1.2.2.2.2.2.1, hk_.1.2.2.2.2.2.2⟩)); have n8_ := aK (blk_kept (pB BK101.out) hkp (fun hs_ => Or.elim hs_ (fun e_ => (fun e_ => (Kd.R_ne HO_132000.out BK101.out (by decide)) e_) e_) (fun e_ => (fun e_ => (Kd.R_ne HO_132001.out BK101.out (by decide)) e_) e_))); have n9_ := aK (blk_kept (pB BK102.out) hkp (fun hs_ => Or.elim hs_ (fun e_ => (fun e_ => (Kd.R_ne HO_132000.out BK102.out (by decide)) e_) e_) (fun e_ => (fun e_ => (Kd.R_ne HO_132001.out BK102.out (by decide)) e_) e_))); have n10_ := aK (blk_kept (pB BK124.out) hkp (fun hs_ => Or.elim hs_ (fun e_ => (fun e_ => (Kd.R_ne HO_132000.out BK124.out (by decide)) e_) e_) (fun e_ => (fun e_ => (Kd.R_ne HO_132001.out BK124.out (by decide)) e_) e_))); have n11_ := aK (blk_kept (pB BK138.out) hkp (fun hs_ => Or.elim hs_ (fun e_ => (fun e_ => (Kd.R_ne HO_132000.out BK138.out (by decide)) e_) e_) (fun e_ => (fun e_ => (Kd.R_ne HO_132001.out BK138.out (by decide)) e_) e_))); have n12_ := aK (blk_kept (pB BK146.out) hkp (fun hs_ => Or.elim hs_ (fun e_ => (fun e_ => (Kd.R_ne HO_132000.out BK146.out (by decide)) e_) e_) (fun e_ => (fun e_ => (Kd.R_ne HO_132001.out BK146.out (by decide)) e_) e_))); have n13_ := aK (hb); clear HO_125000 HO_125001 HO_132000 HO_132001 HO_139000 HO_139001 HO_147000 HO_147001 BK101 BK102 BK124 BK138 BK146 HB; have HO_125000 := n0_; have HO_125001 := n1_; have HO_132000 := n2_; have HO_132001 := n3_; have HO_139000 := n4_; have HO_139001 := n5_; have HO_147000 := n6_; have HO_147001 := n7_; have BK101 := n8_; have BK102 := n9_; have BK124 := n10_; have BK138 := n11_; have BK146 := n12_; have HB := n13_; clear n0_ n1_ n2_ n3_ n4_ n5_ n6_ n7_ n8_ n9_ n10_ n11_ n12_ n13_; (try clear hb); (try clear hkp); (try clear hy0); (try clear hy1); replace HO_125000 := aK (Kd.R_mono HO_125000.out (fun k_ hk_ => (⟨hk_.1, ⟨hk_.2.2.2.1, ⟨hk_.2.2.2.2.1, ⟨hk_.2.2.2.2.2.1, hk_.2.2.2.2.2.2⟩⟩⟩⟩ : (some k_ ≠ (.slice Ao44 t120.length co44 : Value).ownBlock ∧ (some k_ ≠ (.slice Ao60 t132.length co60 : Value).ownBlock ∧ (some k_ ≠ (.slice Ao66 t135.length co66 : Value).ownBlock ∧ (some k_ ≠ (.slice Ao70 t139.length co70 : Value).ownBlock ∧ some k_ ≠ (.slice Ao77 t142.length co77 : Value).ownBlock))))))); replace HO_125001 := aK (Kd.R_mono HO_125001.out (fun k_ hk_ => (⟨hk_.1, ⟨hk_.2.2.2.1, ⟨hk_.2.2.2.2.1, ⟨hk_.2.2.2.2.2.1, hk_.2.2.2.2.2.2⟩⟩⟩⟩ : (some k_ ≠ (.slice Ao42 t117.length co42 : Value).ownBlock ∧ (some k_ ≠ (.slice Ao60 t132.length co60 : Value).ownBlock ∧ (some k_ ≠ (.slice Ao66 t135.length co66 : Value).ownBlock ∧ (some k_ ≠ (.slice Ao70 t139.length co70 : Value).ownBlock ∧ some k_ ≠ (.slice Ao77 t142.length co77 : Value).ownBlock))))))); replace HO_139000 := aK (Kd.R_mono HO_139000.out (fun k_ hk_ => (⟨hk_.1, ⟨hk_.2.1, ⟨hk_.2.2.2.2.1, ⟨hk_.2.2.2.2.2.1, hk_.2.2.2.2.2.2⟩⟩⟩⟩ : (some k_ ≠ (.slice Ao42 t117.length co42 : Value).ownBlock ∧ (some k_ ≠ (.slice Ao44 t120.length co44 : Value).ownBlock ∧ (some k_ ≠ (.slice Ao66 t135.length co66 : Value).ownBlock ∧ (some k_ ≠ (.slice Ao70 t139.length co70 : Value).ownBlock ∧ some k_ ≠ (.slice Ao77 t142.length co77 : Value).ownBlock))))))); replace HO_139001 := aK (Kd.R_mono HO_139001.out (fun k_ hk_ => (⟨hk_.1, ⟨hk_.2.1, ⟨hk_.2.2.2.2.1, ⟨hk_.2.2.2.2.2.1, hk_.2.2.2.2.2.2⟩⟩⟩⟩ : (some k_ ≠ (.slice Ao42 t117.length co42 : Value).ownBlock ∧ (some k_ ≠ (.slice Ao44 t120.length co44 : Value).ownBlock ∧ (some k_ ≠ (.slice Ao60 t132.length co60 : Value).ownBlock ∧ (some k_ ≠ (.slice Ao70 t139.length co70 : Value).ownBlock ∧ some k_ ≠ (.slice Ao77 t142.length co77 : Value).ownBlock))))))); replace HO_147000 := aK (Kd.R_mono HO_147000.out (fun k_ hk_ => (⟨hk_.1, ⟨hk_.2.1, ⟨hk_.2.2.2.2.1, ⟨hk_.2.2.2.2.2.1, hk_.2.2.2.2.2.2⟩⟩⟩⟩ : (some k_ ≠ (.slice Ao42 t117.length co42 : Value).ownBlock ∧ (some k_ ≠ (.slice Ao44 t120.length co44 : Value).ownBlock ∧ (some k_ ≠ (.slice Ao60 t132.length co60 : Value).ownBlock ∧ (some k_ ≠ (.slice Ao66 t135.length co66 : Value).ownBlock ∧ some k_ ≠ (.slice Ao77 t142.length co77 : Value).ownBlock))))))); replace HO_147001 := aK (Kd.R_mono HO_147001.out (fun k_ hk_ => (⟨hk_.1, ⟨hk_.2.1, ⟨hk_.2.2.2.2.1, ⟨hk_.2.2.2.2.2.1, hk_.2.2.2.2.2.2⟩⟩⟩⟩ : (some k_ ≠ (.slice Ao42 t117.length co42 : Value).ownBlock ∧ (some k_ ≠ (.slice Ao44 t120.length co44 : Value).ownBlock ∧ (some k_ ≠ (.slice Ao60 t132.length co60 : Value).ownBlock ∧ (some k_ ≠ (.slice Ao66 t135.length co66 : Value).ownBlock ∧ some k_ ≠ (.slice Ao70 t139.length co70 : Value).ownBlock))))))); have hnb131 := NB138_101.out; have hnc131 := NB101_138.out; have hnb132 := NB138_102.out; have hnc132 := NB102_138.out; have hnb133 := NB138_124.out; have hnc133 := NB124_138.out; have hnb134 := NB138_146.out; have hnc134 := NB146_138.out; obtain ⟨hcz135_0, hcz135_1, hfz135_0, hfz135_1⟩ := bc2 BK138.out) | ((with_reducible refine gate_callee (f := 47) rfl ?_); refine gl (some 69) Try.func47 #[.agg #[.slice Ao60 t132.length co60, .slice Ao66 t135.length co66], .int .i64 t162] ?_; (with_reducible refine (laws_markTally.calls kj23 (fun k_ => some k_ = (.slice Ao60 t132.length co60 : Value).ownBlock) (.slice Ao60 t132.length co60) t132 (fun k_ => some k_ = (.slice Ao66 t135.length co66 : Value).ownBlock) (.slice Ao66 t135.length co66) t135 t162 t165 t166 t167 w _ ?side1 ?side2 ?side3 ?side4 ?side5 A112.out).mono ?_); (case side1 => exact pT HB.out); (case side2 => exact Kd.R_tight rfl HO_139000.out); (case side3 => exact fun k_ e_ => (HO_139000.out.1 k_ e_.symm).2.2.1); (case side4 => exact Kd.R_tight rfl HO_139001.out); (case side5 => exact fun k_ e_ => (HO_139001.out.1 k_ e_.symm).2.2.1); rintro e w136 ⟨rfl, hy0, hy1, hb, hkp⟩; refine ⟨_, rfl, ?_⟩; have n0_ := aK (Kd.R_mono (ok' := fun k_ => some k_ ≠ (.slice Ao44 t120.length co44 : Value).ownBlock ∧ some k_ ≠ (.slice Ao60 t132.length co60 : Value).ownBlock ∧ some k_ ≠ (.slice Ao66 t135.length co66 : Value).ownBlock ∧ some k_ ≠ (.slice Ao70 t139.length co70 : Value).ownBlock ∧ some k_ ≠ (.slice Ao77 t142.length co77 : Value).ownBlock) (Kd.R_keptB (HO_125000.out) hkp (fun k_ hk_ hs_ => Or.elim hs_ (fun e_ => (hk_.2.1) e_) (fun e_ => (hk_.2.2.1) e_))) (fun k_ hk_ => ⟨hk_.1.1, hk_.1.2.1, hk_.1.2.2.1, hk_.1.2.2.2.1, hk_.1.2.2.2.2⟩)); have n1_ := aK (Kd.R_mono (ok' := fun k_ => some k_ ≠ (.slice Ao42 t117.length co42 : Value).ownBlock ∧ some k_ ≠ (.slice Ao60 t132.length co60 : Value).ownBlock ∧ some k_ ≠ (.slice Ao66 t135.length co66 : Value).ownBlock ∧ some k_ ≠ (.slice Ao70 t139.length co70 : Value).ownBlock ∧ some k_ ≠ (.slice Ao77 t142.length co77 : Value).ownBlock) (Kd.R_keptB (HO_125001.out) hkp (fun k_ hk_ hs_ => Or.elim hs_ (fun e_ => (hk_.2.1) e_) (fun e_ => (hk_.2.2.1) e_))) (fun k_ hk_ => ⟨hk_.1.1, hk_.1.2.1, hk_.1.2.2.1, hk_.1.2.2.2.1, hk_.1.2.2.2.2⟩)); have n2_ := aK (Kd.R_reok rfl hy0 (fun k_ e_ => HO_139000.out.1 k_ e_)); have n3_ := aK (Kd.R_reok rfl hy1 (fun k_ e_ => HO_139001.out.1 k_ e_)); have n4_ := aK (Kd.R_mono (ok' := fun k_ => some k_ ≠ (.slice Ao42 t117.length co42 : Value).ownBlock ∧ some k_ ≠ (.slice Ao44 t120.length co44 : Value).ownBlock ∧ some k_ ≠ (.slice Ao60 t132.length co60 : Value).ownBlock ∧ some k_ ≠ (.slice Ao66 t135.length co66 : Value).ownBlock ∧ some k_ ≠ (.slice Ao77 t142.length co77 : Value).ownBlock) (Kd.R_keptB (HO_147000.out) hkp (fun k_ hk_ hs_ => Or.elim hs_ (fun e_ => (hk_.2.2.1) e_) (fun e_ => (hk_.2.2.2.1) e_))) (fun k_ hk_ => ⟨hk_.1.1, hk_.1.2.1, hk_.1.2.2.1, hk_.1.2.2.2.1, hk_.1.2.2.2.2⟩)); have n5_ := aK (Kd.R_mono (ok' := fun k_ => some k_ ≠ (.slice Ao42 t117.length co42 : Value).ownBlock ∧ some k_ ≠ (.slice Ao44 t120.length co44 : Value).ownBlock ∧ some k_ ≠ (.slice Ao60 t132.length co60 : Value).ownBlock ∧ some k_ ≠ (.slice Ao66 t135.length co66 : Value).ownBlock ∧ some k_ ≠ (.slice Ao70 t139.length co70 : Value).ownBlock) (Kd.R_keptB (HO_147001.out) hkp (fun k_ hk_ hs_ => Or.elim hs_ (fun e_ => (hk_.2.2.1) e_) (fun e_ => (hk_.2.2.2.1) e_))) (fun k_ hk_ => ⟨hk_.1.1, hk_.1.2.1, hk_.1.2.2.1, hk_.1.2.2.2.1, hk_.1.2.2.2.2⟩)); have n6_ := aK (blk_kept (pB BK101.out) hkp (fun hs_ => Or.elim hs_ (fun e_ => (fun e_ => (Kd.R_ne HO_139000.out BK101.out (by decide)) e_) e_) (fun e_ => (fun e_ => (Kd.R_ne HO_139001.out BK101.out (by decide)) e_) e_))); have n7_ := aK (blk_kept (pB BK102.out) hkp (fun hs_ => Or.elim hs_ (fun e_ => (fun e_ => (Kd.R_ne HO_139000.out BK102.out (by decide)) e_) e_) (fun e_ => (fun e_ => (Kd.R_ne HO_139001.out BK102.out (by decide)) e_) e_))); have n8_ := aK (blk_kept (pB BK124.out) hkp (fun hs_ => Or.elim hs_ (fun e_ => (fun e_ => (Kd.R_ne HO_139000.out BK124.out (by decide)) e_) e_) (fun e_ => (fun e_ => (Kd.R_ne HO_139001.out BK124.out (by decide)) e_) e_))); have n9_ := aK (blk_kept (pB BK146.out) hkp (fun hs_ => Or.elim hs_ (fun e_ => (fun e_ => (Kd.R_ne HO_139000.out BK146.out (by decide)) e_) e_) (fun e_ => (fun e_ => (Kd.R_ne HO_139001.out BK146.out (by decide)) e_) e_))); have n10_ := aK (hb); clear HO_125000 HO_125001 HO_139000 HO_139001 HO_147000 HO_147001 BK101 BK102 BK124 BK146 HB; have HO_125000 := n0_; have HO_125001 := n1_; have HO_139000 := n2_; have HO_139001 := n3_; have HO_147000 := n4_; have HO_147001 := n5_; have BK101 := n6_; have BK102 := n7_; have BK124 := n8_; have BK146 := n9_; have HB := n10_; clear n0_ n1_ n2_ n3_ n4_ n5_ n6_ n7_ n8_ n9_ n10_; (try clear hb); (try clear hkp); (try clear hy0); (try clear hy1)))
     (try simp only [Act.put, List.setIfInBounds_toArray, List.set_cons_zero, List.set_cons_succ])
     go_cut [82] (fun v82 wc => ∃ (kq : Nat) (x82_112 : Bool), v82 = .bool x82_112 ∧ Aside0 (laws_FnExactAddTallies.j1 kq t123 x82_112 l0_0 l0_1 l1_0 l1_1 t117 t120 t139 t142 = some r) ∧ Aside0 (kq ≤ kj23) ∧ Aside0 (Kd.R (Kd.int .i64) 3 wc w.heap.size (fun k_ => some k_ ≠ ((.slice Ao44 t120.length co44) : Value).ownBlock ∧ some k_ ≠ ((.slice Ao70 t139.length co70) : Value).ownBlock ∧ some k_ ≠ ((.slice Ao77 t142.length co77) : Value).ownBlock) (.slice Ao42 t117.length co42) t117) ∧ Aside0 (Kd.R (Kd.int .i64) 3 wc w.heap.size (fun k_ => some k_ ≠ ((.slice Ao42 t117.length co42) : Value).ownBlock ∧ some k_ ≠ ((.slice Ao70 t139.length co70) : Value).ownBlock ∧ some k_ ≠ ((.slice Ao77 t142.length co77) : Value).ownBlock) (.slice Ao44 t120.length co44) t120) ∧ Aside0 (Kd.R (Kd.int .i64) 3 wc w.heap.size (fun k_ => some k_ ≠ ((.slice Ao42 t117.length co42) : Value).ownBlock ∧ some k_ ≠ ((.slice Ao44 t120.length co44) : Value).ownBlock ∧ some k_ ≠ ((.slice Ao77 t142.length co77) : Value).ownBlock) (.slice Ao70 t139.length co70) t139) ∧ Aside0 (Kd.R (Kd.int .i64) 3 wc w.heap.size (fun k_ => some k_ ≠ ((.slice Ao42 t117.length co42) : Value).ownBlock ∧ some k_ ≠ ((.slice Ao44 t120.length co44) : Value).ownBlock ∧ some k_ ≠ ((.slice Ao70 t139.length co70) : Value).ownBlock) (.slice Ao77 t142.length co77) t142) ∧ Aside0 (wc.heap[gb101]? = some (.cells #[(.slice A0_0 l0_0.length c0_0), (.slice A0_1 l0_1.length c0_1)] 42 (0, 0))) ∧ Aside0 (wc.heap[gb102]? = some (.cells #[(.slice A1_0 l1_0.length c1_0), (.slice A1_1 l1_1.length c1_1)] 42 (0, 0))) ∧ Aside0 (wc.heap[gb124]? = some (.cells #[(.slice Ao42 t117.length co42), (.slice Ao44 t120.length co44)] 44 (0, 0))) ∧ Aside0 (wc.heap[gb146]? = some (.cells #[(.slice Ao70 t139.length co70), (.slice Ao77 t142.length co77)] 44 (0, 0))) ∧ Aside0 (Below w.heap.size w wc))
     case first => as_aux_lemma =>
      have H := HC113.out
      clear HC113
      by_cases c137 : t165 < 0
      ·
       rw [if_pos c137] at H
       have c137b0 : decide (t165 < 0) = true := decide_eq_true c137
       clear c137
       (first | rw [c137b0] | (simp only [i64_w, i32_w]; rw [c137b0]) | skip)
       have H' := Aside0.mk H
       clear H
       go_wp2
       go_meet
       case rel => exact ⟨_, (true), (by first | rfl | (simp; done) | (simp [*]; done)), H', ⟨by have := HJ23.out; first | omega | exact Nat.le_refl _⟩, ⟨pR (rP HO_125000.out)⟩, ⟨pR (rP HO_125001.out)⟩, ⟨pR (rP HO_147000.out)⟩, ⟨pR (rP HO_147001.out)⟩, ⟨by refine bk ?_; exact BK101.out⟩, ⟨by refine bk ?_; exact BK102.out⟩, ⟨by refine bk ?_; exact BK124.out⟩, ⟨by refine bk ?_; exact BK146.out⟩, ⟨pT HB.out⟩⟩
      rw [if_neg c137] at H
      have c137b0 : decide (t165 < 0) = false := decide_eq_false c137
      clear c137
      (first | rw [c137b0] | (simp only [i64_w, i32_w]; rw [c137b0]) | skip)
      replace H := Option.bind_eq_some_iff.mp H
      obtain ⟨t168, A1380, H⟩ := H
      replace H : (if t168 = true then (laws_FnExactAddTallies.j1 kj23 t123 (t145 != t123) l0_0 l0_1 l1_0 l1_1 t117 t120 t139 t142) else (laws_FnExactAddTallies.j1 kj23 t123 true l0_0 l0_1 l1_0 l1_1 t117 t120 t139 t142)) = some r := H
      have A138 := Aside0.mk A1380
      clear A1380
      by_cases c139 : t168 = true
      ·
       subst c139
       have H1 : (laws_FnExactAddTallies.j1 kj23 t123 (t145 != t123) l0_0 l0_1 l1_0 l1_1 t117 t120 t139 t142) = some r := by rw [if_pos rfl] at H; exact H
       clear H
       have H := H1
       clear H1
       have H' := Aside0.mk H
       clear H
       have hnb140 := NB146_101.out
       have hnc140 := NB101_146.out
       have hnb141 := NB146_102.out
       have hnc141 := NB102_146.out
       have hnb142 := NB146_124.out
       have hnc142 := NB124_146.out
       obtain ⟨hcz143_0, hcz143_1, hfz143_0, hfz143_1⟩ := bc2 BK146.out
       have hnb144 := NB124_101.out
       have hnc144 := NB101_124.out
       have hnb145 := NB124_102.out
       have hnc145 := NB102_124.out
       obtain ⟨hcz146_0, hcz146_1, hfz146_0, hfz146_1⟩ := bc2 BK124.out
       replace HO_125000 := aK (Kd.R_mono HO_125000.out (fun _ h => And.intro h.1 (And.intro h.2.2.2.1 h.2.2.2.2)))
       replace HO_125001 := aK (Kd.R_mono HO_125001.out (fun _ h => And.intro h.1 (And.intro h.2.2.2.1 h.2.2.2.2)))
       replace HO_147000 := aK (Kd.R_mono HO_147000.out (fun _ h => And.intro h.1 (And.intro h.2.1 h.2.2.2.2)))
       replace HO_147001 := aK (Kd.R_mono HO_147001.out (fun _ h => And.intro h.1 (And.intro h.2.1 h.2.2.2.2)))
       try go_wp2_with (first | (go_at_call 46; (with_reducible refine (laws_eqTally.calls kj23 _ _ t139 _ _ t142 _ _ t117 _ _ t120 true _ ?side1 ?side2 ?side3 ?side4 ?side5 ?side6 ?side7 ?side8 A138.out).mono ?_); (case side1 => exact pC (Kd.R_reads' HO_147000.out).2.2); (case side2 => exact (Kd.R_reads' HO_147000.out).2.1); (case side3 => exact pC (Kd.R_reads' HO_147001.out).2.2); (case side4 => exact (Kd.R_reads' HO_147001.out).2.1); (case side5 => exact pC (Kd.R_reads' HO_125000.out).2.2); (case side6 => exact (Kd.R_reads' HO_125000.out).2.1); (case side7 => exact pC (Kd.R_reads' HO_125001.out).2.2); (case side8 => exact (Kd.R_reads' HO_125001.out).2.1); rintro e w147 ⟨rfl, hb⟩; have n0_ := aK (Kd.R_below (pR HO_125000.out) hb); have n1_ := aK (Kd.R_below (pR HO_125001.out) hb); have n2_ := aK (Kd.R_below (pR HO_147000.out) hb); have n3_ := aK (Kd.R_below (pR HO_147001.out) hb); replace BK101 := bB BK101 hb; replace BK102 := bB BK102 hb; replace BK124 := bB BK124 hb; replace BK146 := bB BK146 hb; replace HB := bS HB hb; clear HO_125000 HO_125001 HO_147000 HO_147001; have HO_125000 := n0_; have HO_125001 := n1_; have HO_147000 := n2_; have HO_147001 := n3_; clear n0_ n1_ n2_ n3_; (try clear hb); (try clear hb2); (try clear hk); (try clear hi)))
       go_meet
       case rel => exact ⟨_, ((t145 != t123)), (by first | rfl | (simp; done) | (simp [*]; done)), H', ⟨by have := HJ23.out; first | omega | exact Nat.le_refl _⟩, ⟨pR HO_125000.out⟩, ⟨pR HO_125001.out⟩, ⟨pR HO_147000.out⟩, ⟨pR HO_147001.out⟩, ⟨by refine bk ?_; exact BK101.out⟩, ⟨by refine bk ?_; exact BK102.out⟩, ⟨by refine bk ?_; exact BK124.out⟩, ⟨by refine bk ?_; exact BK146.out⟩, ⟨pT HB.out⟩⟩
      replace c139 := Bool.eq_false_iff.mpr c139
      subst c139
      have H1 : (laws_FnExactAddTallies.j1 kj23 t123 true l0_0 l0_1 l1_0 l1_1 t117 t120 t139 t142) = some r := by rw [if_neg (show ¬ (false = true) by decide)] at H; exact H
      clear H
      have H := H1
      clear H1
      have H' := Aside0.mk H
      clear H
      have hnb148 := NB146_101.out
      have hnc148 := NB101_146.out
      have hnb149 := NB146_102.out
      have hnc149 := NB102_146.out
      have hnb150 := NB146_124.out
      have hnc150 := NB124_146.out
      obtain ⟨hcz151_0, hcz151_1, hfz151_0, hfz151_1⟩ := bc2 BK146.out
      have hnb152 := NB124_101.out
      have hnc152 := NB101_124.out
      have hnb153 := NB124_102.out
      have hnc153 := NB102_124.out
      obtain ⟨hcz154_0, hcz154_1, hfz154_0, hfz154_1⟩ := bc2 BK124.out
      replace HO_125000 := aK (Kd.R_mono HO_125000.out (fun _ h => And.intro h.1 (And.intro h.2.2.2.1 h.2.2.2.2)))
      replace HO_125001 := aK (Kd.R_mono HO_125001.out (fun _ h => And.intro h.1 (And.intro h.2.2.2.1 h.2.2.2.2)))
      replace HO_147000 := aK (Kd.R_mono HO_147000.out (fun _ h => And.intro h.1 (And.intro h.2.1 h.2.2.2.2)))
      replace HO_147001 := aK (Kd.R_mono HO_147001.out (fun _ h => And.intro h.1 (And.intro h.2.1 h.2.2.2.2)))
      try go_wp2_with (first | (go_at_call 46; (with_reducible refine (laws_eqTally.calls kj23 _ _ t139 _ _ t142 _ _ t117 _ _ t120 false _ ?side1 ?side2 ?side3 ?side4 ?side5 ?side6 ?side7 ?side8 A138.out).mono ?_); (case side1 => exact pC (Kd.R_reads' HO_147000.out).2.2); (case side2 => exact (Kd.R_reads' HO_147000.out).2.1); (case side3 => exact pC (Kd.R_reads' HO_147001.out).2.2); (case side4 => exact (Kd.R_reads' HO_147001.out).2.1); (case side5 => exact pC (Kd.R_reads' HO_125000.out).2.2); (case side6 => exact (Kd.R_reads' HO_125000.out).2.1); (case side7 => exact pC (Kd.R_reads' HO_125001.out).2.2); (case side8 => exact (Kd.R_reads' HO_125001.out).2.1); rintro e w155 ⟨rfl, hb⟩; have n0_ := aK (Kd.R_below (pR HO_125000.out) hb); have n1_ := aK (Kd.R_below (pR HO_125001.out) hb); have n2_ := aK (Kd.R_below (pR HO_147000.out) hb); have n3_ := aK (Kd.R_below (pR HO_147001.out) hb); replace BK101 := bB BK101 hb; replace BK102 := bB BK102 hb; replace BK124 := bB BK124 hb; replace BK146 := bB BK146 hb; replace HB := bS HB hb; clear HO_125000 HO_125001 HO_147000 HO_147001; have HO_125000 := n0_; have HO_125001 := n1_; have HO_147000 := n2_; have HO_147001 := n3_; clear n0_ n1_ n2_ n3_; (try clear hb); (try clear hb2); (try clear hk); (try clear hi)))
      go_meet
      case rel => exact ⟨_, (true), (by first | rfl | (simp; done) | (simp [*]; done)), H', ⟨by have := HJ23.out; first | omega | exact Nat.le_refl _⟩, ⟨pR HO_125000.out⟩, ⟨pR HO_125001.out⟩, ⟨pR HO_147000.out⟩, ⟨pR HO_147001.out⟩, ⟨by refine bk ?_; exact BK101.out⟩, ⟨by refine bk ?_; exact BK102.out⟩, ⟨by refine bk ?_; exact BK124.out⟩, ⟨by refine bk ?_; exact BK146.out⟩, ⟨pT HB.out⟩⟩
     case rest => as_aux_lemma =>
      clear HC113
      try clear c1
      try clear p2
      try clear c4
      try clear c11
      try clear c12
      try clear c13
      try clear c14
      try clear c15
      try clear c44
      try clear c46
      try clear c47
      try clear c110
      try clear c124
      try clear c125
      try clear c126
      try clear c127
      try clear c128
      try clear c131
      try clear c132
      try clear c133
      try clear c134
      try clear c137
      try clear c137b0
      try clear c139
      try clear c140
      try clear c141
      try clear c142
      try clear c144
      try clear c145
      try clear c148
      try clear c149
      try clear c150
      try clear c152
      try clear c153
      try clear hcz129_0
      try clear hcz129_1
      try clear hcz135_0
      try clear hcz135_1
      try clear hcz143_0
      try clear hcz143_1
      try clear hcz146_0
      try clear hcz146_1
      try clear hcz151_0
      try clear hcz151_1
      try clear hcz154_0
      try clear hcz154_1
      try clear hfz129_0
      try clear hfz129_1
      try clear hfz135_0
      try clear hfz135_1
      try clear hfz143_0
      try clear hfz143_1
      try clear hfz146_0
      try clear hfz146_1
      try clear hfz151_0
      try clear hfz151_1
      try clear hfz154_0
      try clear hfz154_1
      obtain ⟨kq, x82_112, rfl, HA, HJ112, HO_125000, HO_125001, HO_147000, HO_147001, BK101, BK102, BK124, BK146, HB⟩ := hcut
      cases kq with
      | zero => exact absurd HA.out (by simp [laws_FnExactAddTallies.j1])
      | succ kj112 =>
       have H := HA.out
       clear HA
       simp only [laws_FnExactAddTallies.j1] at H
       by_cases c156 : x82_112 = true
       ·
        subst c156
        have H1 : (some false) = some r := by rw [if_pos rfl] at H; exact H
        clear H
        have H := H1
        clear H1
        obtain rfl := Option.some.inj H
        go_wp2
        go_ret
        exact ⟨by first | rfl | (simp [errW_none, errW_some] <;> rfl) | (simp [*, errW_none, errW_some] <;> rfl), pT HB.out⟩
       replace c156 := Bool.eq_false_iff.mpr c156
       subst c156
       have H1 : ((laws_markTally.f kj112 t139 t142 1).bind fun bt169 => ((laws_heldTally.f kj112 bt169.2.1 bt169.2.2 1).bind fun t172 => (if t172 < 0 then (some false) else (if t172 = bt169.1 then ((laws_toTally.f kj112 l0_0 l0_1).bind fun bt173 => ((laws_toTally.f kj112 l1_0 l1_1).bind fun bt179 => ((impl_AddTallies.f kj112 bt173.1 bt173.2 bt179.1 bt179.2).bind fun bt185 => ((laws_eqTally.f kj112 bt185.1 bt185.2.1 t117 t120).bind fun t193 => (if t193 = true then (laws_FnExactAddTallies.j2 kj112 bt169.1 (bt185.2.2 != t123) bt169.2.1 bt169.2.2) else (laws_FnExactAddTallies.j2 kj112 bt169.1 true bt169.2.1 bt169.2.2)))))) else (some false))))) = some r := by rw [if_neg (show ¬ (false = true) by decide)] at H; exact H
       clear H
       have H := H1
       clear H1
       replace H := Option.bind_eq_some_iff.mp H
       obtain ⟨⟨t169, t170, t171⟩, A1570, H⟩ := H
       replace H : ((laws_heldTally.f kj112 t170 t171 1).bind fun t172 => (if t172 < 0 then (some false) else (if t172 = t169 then ((laws_toTally.f kj112 l0_0 l0_1).bind fun bt173 => ((laws_toTally.f kj112 l1_0 l1_1).bind fun bt179 => ((impl_AddTallies.f kj112 bt173.1 bt173.2 bt179.1 bt179.2).bind fun bt185 => ((laws_eqTally.f kj112 bt185.1 bt185.2.1 t117 t120).bind fun t193 => (if t193 = true then (laws_FnExactAddTallies.j2 kj112 t169 (bt185.2.2 != t123) t170 t171) else (laws_FnExactAddTallies.j2 kj112 t169 true t170 t171)))))) else (some false)))) = some r := H
       have A157 := Aside0.mk A1570
       clear A1570
       replace H := Option.bind_eq_some_iff.mp H
       obtain ⟨t172, A1580, H⟩ := H
       replace H : (if t172 < 0 then (some false) else (if t172 = t169 then ((laws_toTally.f kj112 l0_0 l0_1).bind fun bt173 => ((laws_toTally.f kj112 l1_0 l1_1).bind fun bt179 => ((impl_AddTallies.f kj112 bt173.1 bt173.2 bt179.1 bt179.2).bind fun bt185 => ((laws_eqTally.f kj112 bt185.1 bt185.2.1 t117 t120).bind fun t193 => (if t193 = true then (laws_FnExactAddTallies.j2 kj112 t169 (bt185.2.2 != t123) t170 t171) else (laws_FnExactAddTallies.j2 kj112 t169 true t170 t171)))))) else (some false))) = some r := H
       have A158 := Aside0.mk A1580
       clear A1580
       by_cases c159 : t172 < 0
       ·
        rw [if_pos c159] at H
        have c159b0 : decide (t172 < 0) = true := decide_eq_true c159
        clear c159
        obtain rfl := Option.some.inj H
        obtain ⟨hcz160_0, hcz160_1, hfz160_0, hfz160_1⟩ := bc2 BK146.out
        replace HO_147000 := aK (Kd.R_mono HO_147000.out (fun _ h => h.2.2))
        replace HO_147001 := aK (Kd.R_mono HO_147001.out (fun _ h => h.2.2))
        try go_wp2_with (first | ((with_reducible refine gate_callee (f := 47) rfl ?_); refine gl (some 85) Try.func47 #[.agg #[.slice Ao70 t139.length co70, .slice Ao77 t142.length co77], .int .i64 1] ?_; (with_reducible refine (laws_markTally.calls kj112 (fun k_ => some k_ = (.slice Ao70 t139.length co70 : Value).ownBlock) (.slice Ao70 t139.length co70) t139 (fun k_ => some k_ = (.slice Ao77 t142.length co77 : Value).ownBlock) (.slice Ao77 t142.length co77) t142 1 t169 t170 t171 w _ ?side1 ?side2 ?side3 ?side4 ?side5 A157.out).mono ?_); (case side1 => exact pT HB.out); (case side2 => exact Kd.R_tight rfl HO_147000.out); (case side3 => exact fun k_ e_ => (HO_147000.out.1 k_ e_.symm)); (case side4 => exact Kd.R_tight rfl HO_147001.out); (case side5 => exact fun k_ e_ => (HO_147001.out.1 k_ e_.symm)); rintro e w161 ⟨rfl, hy0, hy1, hb, hkp⟩; refine ⟨_, rfl, ?_⟩; have n0_ := aK (Kd.R_reok rfl hy0 (fun k_ e_ => HO_147000.out.1 k_ e_)); have n1_ := aK (Kd.R_reok rfl hy1 (fun k_ e_ => HO_147001.out.1 k_ e_)); have n2_ := aK (blk_kept (pB BK146.out) hkp (fun hs_ => Or.elim hs_ (fun e_ => (fun e_ => (Kd.R_ne HO_147000.out BK146.out (by decide)) e_) e_) (fun e_ => (fun e_ => (Kd.R_ne HO_147001.out BK146.out (by decide)) e_) e_))); have n3_ := aK (hb); clear HO_147000 HO_147001 BK146 HB; have HO_147000 := n0_; have HO_147001 := n1_; have BK146 := n2_; have HB := n3_; clear n0_ n1_ n2_ n3_; (try clear hb); (try clear hkp); (try clear hy0); (try clear hy1); obtain ⟨hcz162_0, hcz162_1, hfz162_0, hfz162_1⟩ := bc2 BK146.out) | ((with_reducible refine gate_callee (f := 48) rfl ?_); refine goesL_ (some 88) rfl rfl Try.func48 (by kernel_rfl) rfl #[.agg #[.slice Ao70 t170.length co70, .slice Ao77 t171.length co77], .int .i64 1] rfl (by (try simp only [List.map_toArray, List.map_cons, List.map_nil]); first | done | (rw [show t170.length = t139.length from (Kd.R_reads' HO_147000.out).1.symm, show t171.length = t142.length from (Kd.R_reads' HO_147001.out).1.symm] <;> rfl) | rfl | (simp only [List.length_drop, List.length_take]; rfl)) ?_; (with_reducible refine (laws_heldTally.calls kj112 _ _ t170 _ _ t171 1 t172 _ ?side1 ?side2 ?side3 ?side4 A158.out).mono ?_); (case side1 => exact pC (Kd.R_reads' HO_147000.out).2.2); (case side2 => rw [show t170.length = t139.length from (Kd.R_reads' HO_147000.out).1.symm]; exact (Kd.R_reads' HO_147000.out).2.1); (case side3 => exact pC (Kd.R_reads' HO_147001.out).2.2); (case side4 => rw [show t171.length = t142.length from (Kd.R_reads' HO_147001.out).1.symm]; exact (Kd.R_reads' HO_147001.out).2.1); rintro e w163 ⟨rfl, hb⟩; refine ⟨_, rfl, ?_⟩; have n0_ := aK (Kd.R_below (pR HO_147000.out) hb); have n1_ := aK (Kd.R_below (pR HO_147001.out) hb); replace HB := bS HB hb; clear HO_147000 HO_147001; have HO_147000 := n0_; have HO_147001 := n1_; clear n0_ n1_; (try clear hb); (try clear hb2); (try clear hk); (try clear hi)))
        go_ret
        exact ⟨by first | rfl | (simp [errW_none, errW_some] <;> rfl) | (simp [*, errW_none, errW_some] <;> rfl), pT HB.out⟩
       rw [if_neg c159] at H
       have c159b0 : decide (t172 < 0) = false := decide_eq_false c159
       clear c159
       by_cases c164 : t172 = t169
       ·
        rw [if_pos c164] at H
        have c164b0 : (t172 == t169) = true := beq_iff_eq.mpr c164
        have c164b1 : (t172 != t169) = false := bne_eq_false_iff_eq.mpr c164
        clear c164
        replace H := Option.bind_eq_some_iff.mp H
        obtain ⟨⟨t173, t176⟩, A1650, H⟩ := H
        replace H : ((laws_toTally.f kj112 l1_0 l1_1).bind fun bt179 => ((impl_AddTallies.f kj112 t173 t176 bt179.1 bt179.2).bind fun bt185 => ((laws_eqTally.f kj112 bt185.1 bt185.2.1 t117 t120).bind fun t193 => (if t193 = true then (laws_FnExactAddTallies.j2 kj112 t169 (bt185.2.2 != t123) t170 t171) else (laws_FnExactAddTallies.j2 kj112 t169 true t170 t171))))) = some r := H
        have A165 := Aside0.mk A1650
        clear A1650
        replace H := Option.bind_eq_some_iff.mp H
        obtain ⟨⟨t179, t182⟩, A1660, H⟩ := H
        replace H : ((impl_AddTallies.f kj112 t173 t176 t179 t182).bind fun bt185 => ((laws_eqTally.f kj112 bt185.1 bt185.2.1 t117 t120).bind fun t193 => (if t193 = true then (laws_FnExactAddTallies.j2 kj112 t169 (bt185.2.2 != t123) t170 t171) else (laws_FnExactAddTallies.j2 kj112 t169 true t170 t171)))) = some r := H
        have A166 := Aside0.mk A1660
        clear A1660
        replace H := Option.bind_eq_some_iff.mp H
        obtain ⟨⟨t185, t188, t191⟩, A1670, H⟩ := H
        replace H : ((laws_eqTally.f kj112 t185 t188 t117 t120).bind fun t193 => (if t193 = true then (laws_FnExactAddTallies.j2 kj112 t169 (t191 != t123) t170 t171) else (laws_FnExactAddTallies.j2 kj112 t169 true t170 t171))) = some r := H
        have A167 := Aside0.mk A1670
        clear A1670
        have HC168 := Aside0.mk H
        clear H
        have hnb169 := NB146_101.out
        have hnc169 := NB101_146.out
        have hnb170 := NB146_102.out
        have hnc170 := NB102_146.out
        have hnb171 := NB146_124.out
        have hnc171 := NB124_146.out
        obtain ⟨hcz172_0, hcz172_1, hfz172_0, hfz172_1⟩ := bc2 BK146.out
        try go_wp2_with (first | ((with_reducible refine gate_callee (f := 47) rfl ?_); refine gl (some 85) Try.func47 #[.agg #[.slice Ao70 t139.length co70, .slice Ao77 t142.length co77], .int .i64 1] ?_; (with_reducible refine (laws_markTally.calls kj112 (fun k_ => some k_ = (.slice Ao70 t139.length co70 : Value).ownBlock) (.slice Ao70 t139.length co70) t139 (fun k_ => some k_ = (.slice Ao77 t142.length co77 : Value).ownBlock) (.slice Ao77 t142.length co77) t142 1 t169 t170 t171 w _ ?side1 ?side2 ?side3 ?side4 ?side5 A157.out).mono ?_); (case side1 => exact pT HB.out); (case side2 => exact Kd.R_tight rfl HO_147000.out); (case side3 => exact fun k_ e_ => (HO_147000.out.1 k_ e_.symm).2.2); (case side4 => exact Kd.R_tight rfl HO_147001.out); (case side5 => exact fun k_ e_ => (HO_147001.out.1 k_ e_.symm).2.2); rintro e w173 ⟨rfl, hy0, hy1, hb, hkp⟩; refine ⟨_, rfl, ?_⟩; have n0_ := aK (Kd.R_mono (ok' := fun k_ => some k_ ≠ (.slice Ao44 t120.length co44 : Value).ownBlock ∧ some k_ ≠ (.slice Ao70 t139.length co70 : Value).ownBlock ∧ some k_ ≠ (.slice Ao77 t142.length co77 : Value).ownBlock) (Kd.R_keptB (HO_125000.out) hkp (fun k_ hk_ hs_ => Or.elim hs_ (fun e_ => (hk_.2.1) e_) (fun e_ => (hk_.2.2) e_))) (fun k_ hk_ => ⟨hk_.1.1, hk_.1.2.1, hk_.1.2.2⟩)); have n1_ := aK (Kd.R_mono (ok' := fun k_ => some k_ ≠ (.slice Ao42 t117.length co42 : Value).ownBlock ∧ some k_ ≠ (.slice Ao70 t139.length co70 : Value).ownBlock ∧ some k_ ≠ (.slice Ao77 t142.length co77 : Value).ownBlock) (Kd.R_keptB (HO_125001.out) hkp (fun k_ hk_ hs_ => Or.elim hs_ (fun e_ => (hk_.2.1) e_) (fun e_ => (hk_.2.2) e_))) (fun k_ hk_ => ⟨hk_.1.1, hk_.1.2.1, hk_.1.2.2⟩)); have n2_ := aK (Kd.R_reok rfl hy0 (fun k_ e_ => HO_147000.out.1 k_ e_)); have n3_ := aK (Kd.R_reok rfl hy1 (fun k_ e_ => HO_147001.out.1 k_ e_)); have n4_ := aK (blk_kept (pB BK101.out) hkp (fun hs_ => Or.elim hs_ (fun e_ => (fun e_ => (Kd.R_ne HO_147000.out BK101.out (by decide)) e_) e_) (fun e_ => (fun e_ => (Kd.R_ne HO_147001.out BK101.out (by decide)) e_) e_))); have n5_ := aK (blk_kept (pB BK102.out) hkp (fun hs_ => Or.elim hs_ (fun e_ => (fun e_ => (Kd.R_ne HO_147000.out BK102.out (by decide)) e_) e_) (fun e_ => (fun e_ => (Kd.R_ne HO_147001.out BK102.out (by decide)) e_) e_))); have n6_ := aK (blk_kept (pB BK124.out) hkp (fun hs_ => Or.elim hs_ (fun e_ => (fun e_ => (Kd.R_ne HO_147000.out BK124.out (by decide)) e_) e_) (fun e_ => (fun e_ => (Kd.R_ne HO_147001.out BK124.out (by decide)) e_) e_))); have n7_ := aK (blk_kept (pB BK146.out) hkp (fun hs_ => Or.elim hs_ (fun e_ => (fun e_ => (Kd.R_ne HO_147000.out BK146.out (by decide)) e_) e_) (fun e_ => (fun e_ => (Kd.R_ne HO_147001.out BK146.out (by decide)) e_) e_))); have n8_ := aK (hb); clear HO_125000 HO_125001 HO_147000 HO_147001 BK101 BK102 BK124 BK146 HB; have HO_125000 := n0_; have HO_125001 := n1_; have HO_147000 := n2_; have HO_147001 := n3_; have BK101 := n4_; have BK102 := n5_; have BK124 := n6_; have BK146 := n7_; have HB := n8_; clear n0_ n1_ n2_ n3_ n4_ n5_ n6_ n7_ n8_; (try clear hb); (try clear hkp); (try clear hy0); (try clear hy1); obtain ⟨hcz174_0, hcz174_1, hfz174_0, hfz174_1⟩ := bc2 BK146.out) | ((with_reducible refine gate_callee (f := 48) rfl ?_); refine goesL_ (some 88) rfl rfl Try.func48 (by kernel_rfl) rfl #[.agg #[.slice Ao70 t170.length co70, .slice Ao77 t171.length co77], .int .i64 1] rfl (by (try simp only [List.map_toArray, List.map_cons, List.map_nil]); first | done | (rw [show t170.length = t139.length from (Kd.R_reads' HO_147000.out).1.symm, show t171.length = t142.length from (Kd.R_reads' HO_147001.out).1.symm] <;> rfl) | rfl | (simp only [List.length_drop, List.length_take]; rfl)) ?_; (with_reducible refine (laws_heldTally.calls kj112 _ _ t170 _ _ t171 1 t172 _ ?side1 ?side2 ?side3 ?side4 A158.out).mono ?_); (case side1 => exact pC (Kd.R_reads' HO_147000.out).2.2); (case side2 => rw [show t170.length = t139.length from (Kd.R_reads' HO_147000.out).1.symm]; exact (Kd.R_reads' HO_147000.out).2.1); (case side3 => exact pC (Kd.R_reads' HO_147001.out).2.2); (case side4 => rw [show t171.length = t142.length from (Kd.R_reads' HO_147001.out).1.symm]; exact (Kd.R_reads' HO_147001.out).2.1); rintro e w175 ⟨rfl, hb⟩; refine ⟨_, rfl, ?_⟩; have n0_ := aK (Kd.R_below (pR HO_125000.out) hb); have n1_ := aK (Kd.R_below (pR HO_125001.out) hb); have n2_ := aK (Kd.R_below (pR HO_147000.out) hb); have n3_ := aK (Kd.R_below (pR HO_147001.out) hb); replace BK101 := bB BK101 hb; replace BK102 := bB BK102 hb; replace BK124 := bB BK124 hb; replace BK146 := bB BK146 hb; replace HB := bS HB hb; clear HO_125000 HO_125001 HO_147000 HO_147001; have HO_125000 := n0_; have HO_125001 := n1_; have HO_147000 := n2_; have HO_147001 := n3_; clear n0_ n1_ n2_ n3_; (try clear hb); (try clear hb2); (try clear hk); (try clear hi)))
        have n0_ := aK (Kd.R_drew HO_125000.out)
        have n1_ := aK (Kd.R_drew HO_125001.out)
        have n2_ := aK (Kd.R_drew HO_147000.out)
        have n3_ := aK (Kd.R_drew HO_147001.out)
        have n4_ := aK (blk_drew BK101.out)
        have n5_ := aK (blk_drew BK102.out)
        have n6_ := aK (blk_drew BK124.out)
        have n7_ := aK (blk_drew BK146.out)
        have n8_ := aK (below_drew1 HB.out)
        clear HO_125000 HO_125001 HO_147000 HO_147001 BK101 BK102 BK124 BK146 HB
        have HO_125000 := n0_
        have HO_125001 := n1_
        have HO_147000 := n2_
        have HO_147001 := n3_
        have BK101 := n4_
        have BK102 := n5_
        have BK124 := n6_
        have BK146 := n7_
        have HB := n8_
        clear n0_ n1_ n2_ n3_ n4_ n5_ n6_ n7_ n8_
        refine start_ (n := 11) (S := fun w' => w'.cell? ⟨gb101, 0, none⟩ = some (.slice A0_0 l0_0.length c0_0) ∧ w'.cell? ⟨gb101, 1, none⟩ = some (.slice A0_1 l0_1.length c0_1) ∧ w'.cell? ⟨gb102, 0, none⟩ = some (.slice A1_0 l1_0.length c1_0) ∧ w'.cell? ⟨gb102, 1, none⟩ = some (.slice A1_1 l1_1.length c1_1)) (ds := []) #[false, false, false, false, false, false, false, false, false, false, false] (by kernel_rfl) rfl rfl (cj2 BK101.out (cz2 BK102.out)) (fun hHeld => ?_); refine with_tabW laws_FnExactAddTallies.tab31 laws_FnExactAddTallies.bits31 (fun HT_ HW_ => ?_)
        generalize w175.drew = w176 at HO_125000 HO_125001 HO_147000 HO_147001 BK101 BK102 BK124 BK146 HB hHeld ⊢
        refine take_ (i := 0) (N := some 95) (v := ?_) (a' := ?_) #[true, false, false, false, false, false, false, false, false, false, false] rfl rfl (take_ofW HT_.out HW_.out (by kernel_rfl)) (fun _ _ _ h => h) (Or.inl ⟨by rfl, ?_⟩) hHeld ?_ ?_
        rotate_left
        ·
         rintro w' ⟨s0, s1, s2, s3⟩
         go_simp
         with_reducible rfl
        rotate_left
        ·
         simp only [sP]
         rfl
        refine take_ (i := 2) (N := some 97) (v := ?_) (a' := ?_) #[true, false, true, false, false, false, false, false, false, false, false] rfl rfl (take_ofW HT_.out HW_.out (by kernel_rfl)) (fun _ _ _ h => h) (Or.inl ⟨by rfl, ?_⟩) hHeld ?_ ?_
        rotate_left
        ·
         rintro w' ⟨s0, s1, s2, s3⟩
         go_simp
         with_reducible rfl
        rotate_left
        ·
         simp only [sP]
         rfl
        refine join_ (σ := Value × Value × Value × Value × Value × Value × Nat) 2 #[true, true, true, true, true, true, true, true, true, false, false] (fun s_ => [(96, .agg #[s_.1, s_.2.1]), (98, .agg #[s_.2.2.1, s_.2.2.2.1]), (99, .tuple #[.agg #[s_.2.2.2.2.1, s_.2.2.2.2.2.1], .bool t191]), (15, .pointer (some ⟨s_.2.2.2.2.2.2, 0, none⟩)), (94, .tuple #[.agg #[s_.2.2.2.2.1, s_.2.2.2.2.2.1], .bool t191]), (100, .agg #[s_.2.2.2.2.1, s_.2.2.2.2.2.1]), (101, .bool t191)]) (fun s_ w' => (w'.cell? ⟨gb101, 0, none⟩ = some (.slice A0_0 l0_0.length c0_0) ∧ w'.cell? ⟨gb101, 1, none⟩ = some (.slice A0_1 l0_1.length c0_1) ∧ w'.cell? ⟨gb102, 0, none⟩ = some (.slice A1_0 l1_0.length c1_0) ∧ w'.cell? ⟨gb102, 1, none⟩ = some (.slice A1_1 l1_1.length c1_1)) ∧ (Kd.R (Kd.int .i64) 3 w' w.heap.size (fun k_ => some k_ ≠ (s_.2.1 : Value).ownBlock ∧ some k_ ≠ (s_.2.2.1 : Value).ownBlock ∧ some k_ ≠ (s_.2.2.2.1 : Value).ownBlock ∧ some k_ ≠ (s_.2.2.2.2.1 : Value).ownBlock ∧ some k_ ≠ (s_.2.2.2.2.2.1 : Value).ownBlock ∧ some k_ ≠ (.slice Ao42 t117.length co42 : Value).ownBlock ∧ some k_ ≠ (.slice Ao44 t120.length co44 : Value).ownBlock ∧ some k_ ≠ (.slice Ao70 t139.length co70 : Value).ownBlock ∧ some k_ ≠ (.slice Ao77 t142.length co77 : Value).ownBlock) s_.1 t173) ∧ (Kd.R (Kd.int .i64) 3 w' w.heap.size (fun k_ => some k_ ≠ (s_.1 : Value).ownBlock ∧ some k_ ≠ (s_.2.2.1 : Value).ownBlock ∧ some k_ ≠ (s_.2.2.2.1 : Value).ownBlock ∧ some k_ ≠ (s_.2.2.2.2.1 : Value).ownBlock ∧ some k_ ≠ (s_.2.2.2.2.2.1 : Value).ownBlock ∧ some k_ ≠ (.slice Ao42 t117.length co42 : Value).ownBlock ∧ some k_ ≠ (.slice Ao44 t120.length co44 : Value).ownBlock ∧ some k_ ≠ (.slice Ao70 t139.length co70 : Value).ownBlock ∧ some k_ ≠ (.slice Ao77 t142.length co77 : Value).ownBlock) s_.2.1 t176) ∧ (Kd.R (Kd.int .i64) 3 w' w.heap.size (fun k_ => some k_ ≠ (s_.1 : Value).ownBlock ∧ some k_ ≠ (s_.2.1 : Value).ownBlock ∧ some k_ ≠ (s_.2.2.2.1 : Value).ownBlock ∧ some k_ ≠ (s_.2.2.2.2.1 : Value).ownBlock ∧ some k_ ≠ (s_.2.2.2.2.2.1 : Value).ownBlock ∧ some k_ ≠ (.slice Ao42 t117.length co42 : Value).ownBlock ∧ some k_ ≠ (.slice Ao44 t120.length co44 : Value).ownBlock ∧ some k_ ≠ (.slice Ao70 t139.length co70 : Value).ownBlock ∧ some k_ ≠ (.slice Ao77 t142.length co77 : Value).ownBlock) s_.2.2.1 t179) ∧ (Kd.R (Kd.int .i64) 3 w' w.heap.size (fun k_ => some k_ ≠ (s_.1 : Value).ownBlock ∧ some k_ ≠ (s_.2.1 : Value).ownBlock ∧ some k_ ≠ (s_.2.2.1 : Value).ownBlock ∧ some k_ ≠ (s_.2.2.2.2.1 : Value).ownBlock ∧ some k_ ≠ (s_.2.2.2.2.2.1 : Value).ownBlock ∧ some k_ ≠ (.slice Ao42 t117.length co42 : Value).ownBlock ∧ some k_ ≠ (.slice Ao44 t120.length co44 : Value).ownBlock ∧ some k_ ≠ (.slice Ao70 t139.length co70 : Value).ownBlock ∧ some k_ ≠ (.slice Ao77 t142.length co77 : Value).ownBlock) s_.2.2.2.1 t182) ∧ (Kd.R (Kd.int .i64) 3 w' w.heap.size (fun k_ => some k_ ≠ (s_.1 : Value).ownBlock ∧ some k_ ≠ (s_.2.1 : Value).ownBlock ∧ some k_ ≠ (s_.2.2.1 : Value).ownBlock ∧ some k_ ≠ (s_.2.2.2.1 : Value).ownBlock ∧ some k_ ≠ (s_.2.2.2.2.2.1 : Value).ownBlock ∧ some k_ ≠ (.slice Ao42 t117.length co42 : Value).ownBlock ∧ some k_ ≠ (.slice Ao44 t120.length co44 : Value).ownBlock ∧ some k_ ≠ (.slice Ao70 t139.length co70 : Value).ownBlock ∧ some k_ ≠ (.slice Ao77 t142.length co77 : Value).ownBlock) s_.2.2.2.2.1 t185) ∧ (Kd.R (Kd.int .i64) 3 w' w.heap.size (fun k_ => some k_ ≠ (s_.1 : Value).ownBlock ∧ some k_ ≠ (s_.2.1 : Value).ownBlock ∧ some k_ ≠ (s_.2.2.1 : Value).ownBlock ∧ some k_ ≠ (s_.2.2.2.1 : Value).ownBlock ∧ some k_ ≠ (s_.2.2.2.2.1 : Value).ownBlock ∧ some k_ ≠ (.slice Ao42 t117.length co42 : Value).ownBlock ∧ some k_ ≠ (.slice Ao44 t120.length co44 : Value).ownBlock ∧ some k_ ≠ (.slice Ao70 t139.length co70 : Value).ownBlock ∧ some k_ ≠ (.slice Ao77 t142.length co77 : Value).ownBlock) s_.2.2.2.2.2.1 t188) ∧ (Kd.R (Kd.int .i64) 3 w' w.heap.size (fun k_ => some k_ ≠ (s_.1 : Value).ownBlock ∧ some k_ ≠ (s_.2.1 : Value).ownBlock ∧ some k_ ≠ (s_.2.2.1 : Value).ownBlock ∧ some k_ ≠ (s_.2.2.2.1 : Value).ownBlock ∧ some k_ ≠ (s_.2.2.2.2.1 : Value).ownBlock ∧ some k_ ≠ (s_.2.2.2.2.2.1 : Value).ownBlock ∧ some k_ ≠ (.slice Ao44 t120.length co44 : Value).ownBlock ∧ some k_ ≠ (.slice Ao70 t139.length co70 : Value).ownBlock ∧ some k_ ≠ (.slice Ao77 t142.length co77 : Value).ownBlock) (.slice Ao42 t117.length co42) t117) ∧ (Kd.R (Kd.int .i64) 3 w' w.heap.size (fun k_ => some k_ ≠ (s_.1 : Value).ownBlock ∧ some k_ ≠ (s_.2.1 : Value).ownBlock ∧ some k_ ≠ (s_.2.2.1 : Value).ownBlock ∧ some k_ ≠ (s_.2.2.2.1 : Value).ownBlock ∧ some k_ ≠ (s_.2.2.2.2.1 : Value).ownBlock ∧ some k_ ≠ (s_.2.2.2.2.2.1 : Value).ownBlock ∧ some k_ ≠ (.slice Ao42 t117.length co42 : Value).ownBlock ∧ some k_ ≠ (.slice Ao70 t139.length co70 : Value).ownBlock ∧ some k_ ≠ (.slice Ao77 t142.length co77 : Value).ownBlock) (.slice Ao44 t120.length co44) t120) ∧ (Kd.R (Kd.int .i64) 3 w' w.heap.size (fun k_ => some k_ ≠ (s_.1 : Value).ownBlock ∧ some k_ ≠ (s_.2.1 : Value).ownBlock ∧ some k_ ≠ (s_.2.2.1 : Value).ownBlock ∧ some k_ ≠ (s_.2.2.2.1 : Value).ownBlock ∧ some k_ ≠ (s_.2.2.2.2.1 : Value).ownBlock ∧ some k_ ≠ (s_.2.2.2.2.2.1 : Value).ownBlock ∧ some k_ ≠ (.slice Ao42 t117.length co42 : Value).ownBlock ∧ some k_ ≠ (.slice Ao44 t120.length co44 : Value).ownBlock ∧ some k_ ≠ (.slice Ao77 t142.length co77 : Value).ownBlock) (.slice Ao70 t139.length co70) t170) ∧ (Kd.R (Kd.int .i64) 3 w' w.heap.size (fun k_ => some k_ ≠ (s_.1 : Value).ownBlock ∧ some k_ ≠ (s_.2.1 : Value).ownBlock ∧ some k_ ≠ (s_.2.2.1 : Value).ownBlock ∧ some k_ ≠ (s_.2.2.2.1 : Value).ownBlock ∧ some k_ ≠ (s_.2.2.2.2.1 : Value).ownBlock ∧ some k_ ≠ (s_.2.2.2.2.2.1 : Value).ownBlock ∧ some k_ ≠ (.slice Ao42 t117.length co42 : Value).ownBlock ∧ some k_ ≠ (.slice Ao44 t120.length co44 : Value).ownBlock ∧ some k_ ≠ (.slice Ao70 t139.length co70 : Value).ownBlock) (.slice Ao77 t142.length co77) t171) ∧ (w'.heap[gb101]? = some (.cells #[.slice A0_0 l0_0.length c0_0, .slice A0_1 l0_1.length c0_1] 42 (0, 0))) ∧ (w'.heap[gb102]? = some (.cells #[.slice A1_0 l1_0.length c1_0, .slice A1_1 l1_1.length c1_1] 42 (0, 0))) ∧ (w'.heap[gb124]? = some (.cells #[.slice Ao42 t117.length co42, .slice Ao44 t120.length co44] 44 (0, 0))) ∧ (w'.heap[gb146]? = some (.cells #[.slice Ao70 t139.length co70, .slice Ao77 t142.length co77] 44 (0, 0))) ∧ (w'.heap[s_.2.2.2.2.2.2]? = some (.cells #[.slice none 0 0, .slice none 0 0] 44 (0, 0))) ∧ (w.heap.size ≤ s_.2.2.2.2.2.2) ∧ (w.heap.size ≤ s_.2.2.2.2.2.2) ∧ (gb101 ≠ s_.2.2.2.2.2.2) ∧ (s_.2.2.2.2.2.2 ≠ gb101) ∧ (gb102 ≠ s_.2.2.2.2.2.2) ∧ (s_.2.2.2.2.2.2 ≠ gb102) ∧ (gb124 ≠ s_.2.2.2.2.2.2) ∧ (s_.2.2.2.2.2.2 ≠ gb124) ∧ (gb146 ≠ s_.2.2.2.2.2.2) ∧ (s_.2.2.2.2.2.2 ≠ gb146) ∧ (Below w.heap.size w w')) ?_ ?_
        rotate_left
        ·
         intro hCont
         refine two_ (i := 1) (j := 8) (Ni := some 96) (Nj := some 15) #[true, true, true, false, false, false, false, false, false, false, false] #[true, false, true, false, false, false, false, false, true, false, false] rfl rfl rfl rfl (two_of HT_.out (by kernel_rfl)) (by decide) (by decide) (fun K hK => ?_) (fun K hK => ?_)
         ·
          skip
          refine goes_ Try.func44 (by kernel_rfl) rfl #[.agg #[.slice A0_0 l0_0.length c0_0, .slice A0_1 l0_1.length c0_1]] (by rfl) rfl rfl (by (try simp only [List.map_toArray, List.map_cons, List.map_nil]); first | done | rfl | (simp only [List.length_drop, List.length_take]; rfl)) ?_
          with_reducible refine (laws_toTally.calls kj112 _ _ l0_0 _ _ l0_1 t173 t176 _ ?side1 ?side2 ?side3 ?side4 A165.out).mono ?_
          (case side1 => exact pC (Kd.C_below HR0_0.out HB.out))
          (case side2 => exact HC0_0.out)
          (case side3 => exact pC (Kd.C_below HR0_1.out HB.out))
          (case side4 => exact HC0_1.out)
          rintro e w177 ⟨v174, v177, rfl, ho0, ho1, hb⟩
          refine ⟨_, rfl, ?_⟩
          have n0_ := aK (rO2 (pR HO_125000.out) hb ho0 ho1)
          have n1_ := aK (rO2 (pR HO_125001.out) hb ho0 ho1)
          have n2_ := aK (rO2 (pR HO_147000.out) hb ho0 ho1)
          have n3_ := aK (rO2 (pR HO_147001.out) hb ho0 ho1)
          have HO175 := aK (Kd.R_lower (nw4 ho0 (pR HO_125000.out) (pR HO_125001.out) (pR HO_147000.out) (pR HO_147001.out)) (below_size (pS HB.out)))
          have HO178 := aK (Kd.R_lower (nw4 ho1 (pR HO_125000.out) (pR HO_125001.out) (pR HO_147000.out) (pR HO_147001.out)) (below_size (pS HB.out)))
          replace BK101 := bB BK101 hb
          replace BK102 := bB BK102 hb
          replace BK124 := bB BK124 hb
          replace BK146 := bB BK146 hb
          replace HB := bS HB hb
          clear HO_125000 HO_125001 HO_147000 HO_147001
          have HO_125000 := n0_
          have HO_125001 := n1_
          have HO_147000 := n2_
          have HO_147001 := n3_
          clear n0_ n1_ n2_ n3_
          (try clear hb)
          (try clear hb2)
          (try clear hk)
          (try clear hi)
          (try clear ho0)
          (try clear ho1)
          refine hK.out _ _ (cj2 BK101.out (cz2 BK102.out)) (fun hHeld => ?_)
          clear hK K
          refine norm_ (a' := ?_) ?_ ?_
          rotate_left
          ·
           show Act.put _ (some 96) _ = _
           simp only [sP]
           rfl
          refine two_ (i := 3) (j := 8) (Ni := some 98) (Nj := some 15) #[true, true, true, true, false, false, false, false, false, false, false] #[true, true, true, false, false, false, false, false, true, false, false] rfl rfl rfl rfl (two_of HT_.out (by kernel_rfl)) (by decide) (by decide) (fun K hK => ?_) (fun K hK => ?_)
          ·
           skip
           refine goes_ Try.func44 (by kernel_rfl) rfl #[.agg #[.slice A1_0 l1_0.length c1_0, .slice A1_1 l1_1.length c1_1]] (by rfl) rfl rfl (by (try simp only [List.map_toArray, List.map_cons, List.map_nil]); first | done | rfl | (simp only [List.length_drop, List.length_take]; rfl)) ?_
           with_reducible refine (laws_toTally.calls kj112 _ _ l1_0 _ _ l1_1 t179 t182 _ ?side1 ?side2 ?side3 ?side4 A166.out).mono ?_
           (case side1 => exact pC (Kd.C_below HR1_0.out HB.out))
           (case side2 => exact HC1_0.out)
           (case side3 => exact pC (Kd.C_below HR1_1.out HB.out))
           (case side4 => exact HC1_1.out)
           rintro e w178 ⟨v180, v183, rfl, ho0, ho1, hb⟩
           refine ⟨_, rfl, ?_⟩
           have n0_ := aK (rO2 (pR HO_125000.out) hb ho0 ho1)
           have n1_ := aK (rO2 (pR HO_125001.out) hb ho0 ho1)
           have n2_ := aK (rO2 (pR HO_147000.out) hb ho0 ho1)
           have n3_ := aK (rO2 (pR HO_147001.out) hb ho0 ho1)
           have n4_ := aK (rO2 (pR HO175.out) hb ho0 ho1)
           have n5_ := aK (rO2 (pR HO178.out) hb ho0 ho1)
           have HO181 := aK (Kd.R_lower (nw2 (nw4 ho0 (pR HO_125000.out) (pR HO_125001.out) (pR HO_147000.out) (pR HO_147001.out)) (pR HO175.out) (pR HO178.out)) (below_size (pS HB.out)))
           have HO184 := aK (Kd.R_lower (nw2 (nw4 ho1 (pR HO_125000.out) (pR HO_125001.out) (pR HO_147000.out) (pR HO_147001.out)) (pR HO175.out) (pR HO178.out)) (below_size (pS HB.out)))
           replace BK101 := bB BK101 hb
           replace BK102 := bB BK102 hb
           replace BK124 := bB BK124 hb
           replace BK146 := bB BK146 hb
           replace HB := bS HB hb
           clear HO_125000 HO_125001 HO_147000 HO_147001 HO175 HO178
           have HO_125000 := n0_
           have HO_125001 := n1_
           have HO_147000 := n2_
           have HO_147001 := n3_
           have HO175 := n4_
           have HO178 := n5_
           clear n0_ n1_ n2_ n3_ n4_ n5_
           (try clear hb)
           (try clear hb2)
           (try clear hk)
           (try clear hi)
           (try clear ho0)
           (try clear ho1)
           obtain ⟨Ao179, co179, eo179⟩ := Kd.R_slice HO175.out
           (first | subst eo179 | (obtain ⟨f4_, f5_⟩ := sI eo179; subst f4_; subst f5_))
           obtain ⟨Ao180, co180, eo180⟩ := Kd.R_slice HO178.out
           (first | subst eo180 | (obtain ⟨f4_, f5_⟩ := sI eo180; subst f4_; subst f5_))
           obtain ⟨Ao181, co181, eo181⟩ := Kd.R_slice HO181.out
           (first | subst eo181 | (obtain ⟨f4_, f5_⟩ := sI eo181; subst f4_; subst f5_))
           obtain ⟨Ao182, co182, eo182⟩ := Kd.R_slice HO184.out
           (first | subst eo182 | (obtain ⟨f4_, f5_⟩ := sI eo182; subst f4_; subst f5_))
           refine hK.out _ _ (cj2 BK101.out (cz2 BK102.out)) (fun hHeld => ?_)
           clear hK K
           refine norm_ (a' := ?_) ?_ ?_
           rotate_left
           ·
            show Act.put _ (some 98) _ = _
            simp only [sP]
            rfl
           refine two_ (i := 4) (j := 8) (Ni := some 99) (Nj := some 15) #[true, true, true, true, true, false, false, false, false, false, false] #[true, true, true, true, false, false, false, false, true, false, false] rfl rfl rfl rfl (two_of HT_.out (by kernel_rfl)) (by decide) (by decide) (fun K hK => ?_) (fun K hK => ?_)
           ·
            skip
            refine goes_ Try.func45 (by kernel_rfl) rfl #[.agg #[.slice Ao179 t173.length co179, .slice Ao180 t176.length co180], .agg #[.slice Ao181 t179.length co181, .slice Ao182 t182.length co182]] (by rfl) rfl rfl (by (try simp only [List.map_toArray, List.map_cons, List.map_nil]); first | done | rfl | (simp only [List.length_drop, List.length_take]; rfl)) ?_
            with_reducible refine (impl_AddTallies.calls kj112 _ _ t173 _ _ t176 _ _ t179 _ _ t182 t185 t188 t191 _ ?side1 ?side2 ?side3 ?side4 ?side5 ?side6 ?side7 ?side8 A167.out).mono ?_
            (case side1 => exact pC (Kd.R_reads' HO175.out).2.2)
            (case side2 => exact (Kd.R_reads' HO175.out).2.1)
            (case side3 => exact pC (Kd.R_reads' HO178.out).2.2)
            (case side4 => exact (Kd.R_reads' HO178.out).2.1)
            (case side5 => exact pC (Kd.R_reads' HO181.out).2.2)
            (case side6 => exact (Kd.R_reads' HO181.out).2.1)
            (case side7 => exact pC (Kd.R_reads' HO184.out).2.2)
            (case side8 => exact (Kd.R_reads' HO184.out).2.1)
            rintro e w183 ⟨v186, v189, rfl, ho0, ho1, hb⟩
            refine ⟨_, rfl, ?_⟩
            have n0_ := aK (rO2 (pR HO_125000.out) hb ho0 ho1)
            have n1_ := aK (rO2 (pR HO_125001.out) hb ho0 ho1)
            have n2_ := aK (rO2 (pR HO_147000.out) hb ho0 ho1)
            have n3_ := aK (rO2 (pR HO_147001.out) hb ho0 ho1)
            have n4_ := aK (rO2 (pR HO175.out) hb ho0 ho1)
            have n5_ := aK (rO2 (pR HO178.out) hb ho0 ho1)
            have n6_ := aK (rO2 (pR HO181.out) hb ho0 ho1)
            have n7_ := aK (rO2 (pR HO184.out) hb ho0 ho1)
            have HO187 := aK (Kd.R_lower (nw4 (nw4 ho0 (pR HO_125000.out) (pR HO_125001.out) (pR HO_147000.out) (pR HO_147001.out)) (pR HO175.out) (pR HO178.out) (pR HO181.out) (pR HO184.out)) (below_size (pS HB.out)))
            have HO190 := aK (Kd.R_lower (nw4 (nw4 ho1 (pR HO_125000.out) (pR HO_125001.out) (pR HO_147000.out) (pR HO_147001.out)) (pR HO175.out) (pR HO178.out) (pR HO181.out) (pR HO184.out)) (below_size (pS HB.out)))
            replace BK101 := bB BK101 hb
            replace BK102 := bB BK102 hb
            replace BK124 := bB BK124 hb
            replace BK146 := bB BK146 hb
            replace HB := bS HB hb
            clear HO_125000 HO_125001 HO_147000 HO_147001 HO175 HO178 HO181 HO184
            have HO_125000 := n0_
            have HO_125001 := n1_
            have HO_147000 := n2_
            have HO_147001 := n3_
            have HO175 := n4_
            have HO178 := n5_
            have HO181 := n6_
            have HO184 := n7_
            clear n0_ n1_ n2_ n3_ n4_ n5_ n6_ n7_
            (try clear hb)
            (try clear hb2)
            (try clear hk)
            (try clear hi)
            (try clear ho0)
            (try clear ho1)
            refine hK.out _ _ (cj2 BK101.out (cz2 BK102.out)) (fun hHeld => ?_)
            clear hK K
            refine norm_ (a' := ?_) ?_ ?_
            rotate_left
            ·
             show Act.put _ (some 99) _ = _
             simp only [sP]
             rfl
            refine pure_ (i := 5) (N := some 94) (v := ?_) (a' := ?_) #[true, true, true, true, true, true, false, false, false, false, false] rfl rfl (any_of HT_.out (by kernel_rfl)) (fun _ _ _ h => h) (Or.inl ⟨by rfl, ?_⟩) ?_ ?_
            rotate_left
            ·
             intro w'
             go_simp
             with_reducible rfl
            rotate_left
            ·
             simp only [sP]
             rfl
            refine pure_ (i := 6) (N := some 100) (v := ?_) (a' := ?_) #[true, true, true, true, true, true, true, false, false, false, false] rfl rfl (any_of HT_.out (by kernel_rfl)) (fun _ _ _ h => h) (Or.inl ⟨by rfl, ?_⟩) ?_ ?_
            rotate_left
            ·
             intro w'
             go_simp
             with_reducible rfl
            rotate_left
            ·
             simp only [sP]
             rfl
            refine pure_ (i := 7) (N := some 101) (v := ?_) (a' := ?_) #[true, true, true, true, true, true, true, true, false, false, false] rfl rfl (any_of HT_.out (by kernel_rfl)) (fun _ _ _ h => h) (Or.inl ⟨by rfl, ?_⟩) ?_ ?_
            rotate_left
            ·
             intro w'
             go_simp
             with_reducible rfl
            rotate_left
            ·
             simp only [sP]
             rfl
            refine one_ (i := 8) (N := some 15) #[true, true, true, true, true, true, true, true, true, false, false] rfl rfl (one_of HT_.out (by kernel_rfl)) (by decide) (fun K hK => ?_)
            refine box_step ?hg (N := 15) ?hd (cs := #[.slice none 0 0, .slice none 0 0]) (t := 44) ?hr ?_; (case hd => rfl); (case hg => rfl); (case hr => first | (go_simp; done) | (go_simp; rfl))
            intro gb192 hg w184 hbox hb
            have n0_ := aK (Kd.R_below (pR HO_125000.out) hb)
            have n1_ := aK (Kd.R_below (pR HO_125001.out) hb)
            have n2_ := aK (Kd.R_below (pR HO_147000.out) hb)
            have n3_ := aK (Kd.R_below (pR HO_147001.out) hb)
            have n4_ := aK (Kd.R_below (pR HO175.out) hb)
            have n5_ := aK (Kd.R_below (pR HO178.out) hb)
            have n6_ := aK (Kd.R_below (pR HO181.out) hb)
            have n7_ := aK (Kd.R_below (pR HO184.out) hb)
            have n8_ := aK (Kd.R_below (pR HO187.out) hb)
            have n9_ := aK (Kd.R_below (pR HO190.out) hb)
            have BK192 := aK (hbox)
            have GW192 := aK (gE hg (pS HB.out))
            have GE192 := aK (gE hg (pS HB.out))
            have NB101_192 := aK (nL hg (pB BK101.out))
            have NB192_101 := aK (nG hg (pB BK101.out))
            have NB102_192 := aK (nL hg (pB BK102.out))
            have NB192_102 := aK (nG hg (pB BK102.out))
            have NB124_192 := aK (nL hg (pB BK124.out))
            have NB192_124 := aK (nG hg (pB BK124.out))
            have NB146_192 := aK (nL hg (pB BK146.out))
            have NB192_146 := aK (nG hg (pB BK146.out))
            replace BK101 := bB BK101 hb
            replace BK102 := bB BK102 hb
            replace BK124 := bB BK124 hb
            replace BK146 := bB BK146 hb
            replace HB := bS HB hb
            clear HO_125000 HO_125001 HO_147000 HO_147001 HO175 HO178 HO181 HO184 HO187 HO190
            have HO_125000 := n0_
            have HO_125001 := n1_
            have HO_147000 := n2_
            have HO_147001 := n3_
            have HO175 := n4_
            have HO178 := n5_
            have HO181 := n6_
            have HO184 := n7_
            have HO187 := n8_
            have HO190 := n9_
            clear n0_ n1_ n2_ n3_ n4_ n5_ n6_ n7_ n8_ n9_ hb hbox hg
            refine hK.out _ _ (cj2 BK101.out (cz2 BK102.out)) (fun hHeld => ?_)
            clear hK K
            refine norm_ (a' := ?_) ?_ ?_
            rotate_left
            ·
             show Act.put _ (some 15) _ = _
             simp only [sP]
             rfl
            exact norm_ (by simp only [putAll, Act.put, List.setIfInBounds_toArray, List.set_cons_zero, List.set_cons_succ]) (hCont (.slice Ao179 t173.length co179, .slice Ao180 t176.length co180, .slice Ao181 t179.length co181, .slice Ao182 t182.length co182, v186, v189, gb192) _ ⟨hHeld, (pR (rP HO175.out)), (pR (rP HO178.out)), (pR (rP HO181.out)), (pR (rP HO184.out)), (pR (rP HO187.out)), (pR (rP HO190.out)), (pR (rP HO_125000.out)), (pR (rP HO_125001.out)), (pR (rP HO_147000.out)), (pR (rP HO_147001.out)), (pB BK101.out), (pB BK102.out), (pB BK124.out), (pB BK146.out), (pB BK192.out), GW192.out, GE192.out, NB101_192.out, NB192_101.out, NB102_192.out, NB192_102.out, NB124_192.out, NB192_124.out, NB146_192.out, NB192_146.out, (pS HB.out)⟩)
           skip
           refine box_step ?hg (N := 15) ?hd (cs := #[.slice none 0 0, .slice none 0 0]) (t := 44) ?hr ?_; (case hd => rfl); (case hg => rfl); (case hr => first | (go_simp; done) | (go_simp; rfl))
           intro gb192 hg w179 hbox hb
           have n0_ := aK (Kd.R_below (pR HO_125000.out) hb)
           have n1_ := aK (Kd.R_below (pR HO_125001.out) hb)
           have n2_ := aK (Kd.R_below (pR HO_147000.out) hb)
           have n3_ := aK (Kd.R_below (pR HO_147001.out) hb)
           have n4_ := aK (Kd.R_below (pR HO175.out) hb)
           have n5_ := aK (Kd.R_below (pR HO178.out) hb)
           have n6_ := aK (Kd.R_below (pR HO181.out) hb)
           have n7_ := aK (Kd.R_below (pR HO184.out) hb)
           have BK192 := aK (hbox)
           have GW192 := aK (gE hg (pS HB.out))
           have GE192 := aK (gE hg (pS HB.out))
           have NB101_192 := aK (nL hg (pB BK101.out))
           have NB192_101 := aK (nG hg (pB BK101.out))
           have NB102_192 := aK (nL hg (pB BK102.out))
           have NB192_102 := aK (nG hg (pB BK102.out))
           have NB124_192 := aK (nL hg (pB BK124.out))
           have NB192_124 := aK (nG hg (pB BK124.out))
           have NB146_192 := aK (nL hg (pB BK146.out))
           have NB192_146 := aK (nG hg (pB BK146.out))
           replace BK101 := bB BK101 hb
           replace BK102 := bB BK102 hb
           replace BK124 := bB BK124 hb
           replace BK146 := bB BK146 hb
           replace HB := bS HB hb
           clear HO_125000 HO_125001 HO_147000 HO_147001 HO175 HO178 HO181 HO184
           have HO_125000 := n0_
           have HO_125001 := n1_
           have HO_147000 := n2_
           have HO_147001 := n3_
           have HO175 := n4_
           have HO178 := n5_
           have HO181 := n6_
           have HO184 := n7_
           clear n0_ n1_ n2_ n3_ n4_ n5_ n6_ n7_ hb hbox hg
           obtain ⟨Ao180, co180, eo180⟩ := Kd.R_slice HO175.out
           (first | subst eo180 | (obtain ⟨f4_, f5_⟩ := sI eo180; subst f4_; subst f5_))
           obtain ⟨Ao181, co181, eo181⟩ := Kd.R_slice HO178.out
           (first | subst eo181 | (obtain ⟨f4_, f5_⟩ := sI eo181; subst f4_; subst f5_))
           obtain ⟨Ao182, co182, eo182⟩ := Kd.R_slice HO181.out
           (first | subst eo182 | (obtain ⟨f4_, f5_⟩ := sI eo182; subst f4_; subst f5_))
           obtain ⟨Ao183, co183, eo183⟩ := Kd.R_slice HO184.out
           (first | subst eo183 | (obtain ⟨f4_, f5_⟩ := sI eo183; subst f4_; subst f5_))
           refine hK.out _ _ (cj2 BK101.out (cz2 BK102.out)) (fun hHeld => ?_)
           clear hK K
           refine norm_ (a' := ?_) ?_ ?_
           rotate_left
           ·
            show Act.put _ (some 15) _ = _
            simp only [sP]
            rfl
           refine one_ (i := 4) (N := some 99) #[true, true, true, true, true, false, false, false, true, false, false] rfl rfl (one_of HT_.out (by kernel_rfl)) (by decide) (fun K hK => ?_)
           refine goes_ Try.func45 (by kernel_rfl) rfl #[.agg #[.slice Ao180 t173.length co180, .slice Ao181 t176.length co181], .agg #[.slice Ao182 t179.length co182, .slice Ao183 t182.length co183]] (by rfl) rfl rfl (by (try simp only [List.map_toArray, List.map_cons, List.map_nil]); first | done | rfl | (simp only [List.length_drop, List.length_take]; rfl)) ?_
           with_reducible refine (impl_AddTallies.calls kj112 _ _ t173 _ _ t176 _ _ t179 _ _ t182 t185 t188 t191 _ ?side1 ?side2 ?side3 ?side4 ?side5 ?side6 ?side7 ?side8 A167.out).mono ?_
           (case side1 => exact pC (Kd.R_reads' HO175.out).2.2)
           (case side2 => exact (Kd.R_reads' HO175.out).2.1)
           (case side3 => exact pC (Kd.R_reads' HO178.out).2.2)
           (case side4 => exact (Kd.R_reads' HO178.out).2.1)
           (case side5 => exact pC (Kd.R_reads' HO181.out).2.2)
           (case side6 => exact (Kd.R_reads' HO181.out).2.1)
           (case side7 => exact pC (Kd.R_reads' HO184.out).2.2)
           (case side8 => exact (Kd.R_reads' HO184.out).2.1)
           rintro e w184 ⟨v186, v189, rfl, ho0, ho1, hb⟩
           refine ⟨_, rfl, ?_⟩
           have n0_ := aK (rO2 (pR HO_125000.out) hb ho0 ho1)
           have n1_ := aK (rO2 (pR HO_125001.out) hb ho0 ho1)
           have n2_ := aK (rO2 (pR HO_147000.out) hb ho0 ho1)
           have n3_ := aK (rO2 (pR HO_147001.out) hb ho0 ho1)
           have n4_ := aK (rO2 (pR HO175.out) hb ho0 ho1)
           have n5_ := aK (rO2 (pR HO178.out) hb ho0 ho1)
           have n6_ := aK (rO2 (pR HO181.out) hb ho0 ho1)
           have n7_ := aK (rO2 (pR HO184.out) hb ho0 ho1)
           have HO187 := aK (Kd.R_lower (nw4 (nw4 ho0 (pR HO_125000.out) (pR HO_125001.out) (pR HO_147000.out) (pR HO_147001.out)) (pR HO175.out) (pR HO178.out) (pR HO181.out) (pR HO184.out)) (below_size (pS HB.out)))
           have HO190 := aK (Kd.R_lower (nw4 (nw4 ho1 (pR HO_125000.out) (pR HO_125001.out) (pR HO_147000.out) (pR HO_147001.out)) (pR HO175.out) (pR HO178.out) (pR HO181.out) (pR HO184.out)) (below_size (pS HB.out)))
           replace BK101 := bB BK101 hb
           replace BK102 := bB BK102 hb
           replace BK124 := bB BK124 hb
           replace BK146 := bB BK146 hb
           replace BK192 := bB BK192 hb
           replace HB := bS HB hb
           clear HO_125000 HO_125001 HO_147000 HO_147001 HO175 HO178 HO181 HO184
           have HO_125000 := n0_
           have HO_125001 := n1_
           have HO_147000 := n2_
           have HO_147001 := n3_
           have HO175 := n4_
           have HO178 := n5_
           have HO181 := n6_
           have HO184 := n7_
           clear n0_ n1_ n2_ n3_ n4_ n5_ n6_ n7_
           (try clear hb)
           (try clear hb2)
           (try clear hk)
           (try clear hi)
           (try clear ho0)
           (try clear ho1)
           refine hK.out _ _ (cj2 BK101.out (cz2 BK102.out)) (fun hHeld => ?_)
           clear hK K
           refine norm_ (a' := ?_) ?_ ?_
           rotate_left
           ·
            show Act.put _ (some 99) _ = _
            simp only [sP]
            rfl
           refine pure_ (i := 5) (N := some 94) (v := ?_) (a' := ?_) #[true, true, true, true, true, true, false, false, true, false, false] rfl rfl (any_of HT_.out (by kernel_rfl)) (fun _ _ _ h => h) (Or.inl ⟨by rfl, ?_⟩) ?_ ?_
           rotate_left
           ·
            intro w'
            go_simp
            with_reducible rfl
           rotate_left
           ·
            simp only [sP]
            rfl
           refine pure_ (i := 6) (N := some 100) (v := ?_) (a' := ?_) #[true, true, true, true, true, true, true, false, true, false, false] rfl rfl (any_of HT_.out (by kernel_rfl)) (fun _ _ _ h => h) (Or.inl ⟨by rfl, ?_⟩) ?_ ?_
           rotate_left
           ·
            intro w'
            go_simp
            with_reducible rfl
           rotate_left
           ·
            simp only [sP]
            rfl
           refine pure_ (i := 7) (N := some 101) (v := ?_) (a' := ?_) #[true, true, true, true, true, true, true, true, true, false, false] rfl rfl (any_of HT_.out (by kernel_rfl)) (fun _ _ _ h => h) (Or.inl ⟨by rfl, ?_⟩) ?_ ?_
           rotate_left
           ·
            intro w'
            go_simp
            with_reducible rfl
           rotate_left
           ·
            simp only [sP]
            rfl
           exact norm_ (by simp only [putAll, Act.put, List.setIfInBounds_toArray, List.set_cons_zero, List.set_cons_succ]) (hCont (.slice Ao180 t173.length co180, .slice Ao181 t176.length co181, .slice Ao182 t179.length co182, .slice Ao183 t182.length co183, v186, v189, gb192) _ ⟨hHeld, (pR (rP HO175.out)), (pR (rP HO178.out)), (pR (rP HO181.out)), (pR (rP HO184.out)), (pR (rP HO187.out)), (pR (rP HO190.out)), (pR (rP HO_125000.out)), (pR (rP HO_125001.out)), (pR (rP HO_147000.out)), (pR (rP HO_147001.out)), (pB BK101.out), (pB BK102.out), (pB BK124.out), (pB BK146.out), (pB BK192.out), GW192.out, GE192.out, NB101_192.out, NB192_101.out, NB102_192.out, NB192_102.out, NB124_192.out, NB192_124.out, NB146_192.out, NB192_146.out, (pS HB.out)⟩)
          skip
          refine box_step ?hg (N := 15) ?hd (cs := #[.slice none 0 0, .slice none 0 0]) (t := 44) ?hr ?_; (case hd => rfl); (case hg => rfl); (case hr => first | (go_simp; done) | (go_simp; rfl))
          intro gb192 hg w178 hbox hb
          have n0_ := aK (Kd.R_below (pR HO_125000.out) hb)
          have n1_ := aK (Kd.R_below (pR HO_125001.out) hb)
          have n2_ := aK (Kd.R_below (pR HO_147000.out) hb)
          have n3_ := aK (Kd.R_below (pR HO_147001.out) hb)
          have n4_ := aK (Kd.R_below (pR HO175.out) hb)
          have n5_ := aK (Kd.R_below (pR HO178.out) hb)
          have BK192 := aK (hbox)
          have GW192 := aK (gE hg (pS HB.out))
          have GE192 := aK (gE hg (pS HB.out))
          have NB101_192 := aK (nL hg (pB BK101.out))
          have NB192_101 := aK (nG hg (pB BK101.out))
          have NB102_192 := aK (nL hg (pB BK102.out))
          have NB192_102 := aK (nG hg (pB BK102.out))
          have NB124_192 := aK (nL hg (pB BK124.out))
          have NB192_124 := aK (nG hg (pB BK124.out))
          have NB146_192 := aK (nL hg (pB BK146.out))
          have NB192_146 := aK (nG hg (pB BK146.out))
          replace BK101 := bB BK101 hb
          replace BK102 := bB BK102 hb
          replace BK124 := bB BK124 hb
          replace BK146 := bB BK146 hb
          replace HB := bS HB hb
          clear HO_125000 HO_125001 HO_147000 HO_147001 HO175 HO178
          have HO_125000 := n0_
          have HO_125001 := n1_
          have HO_147000 := n2_
          have HO_147001 := n3_
          have HO175 := n4_
          have HO178 := n5_
          clear n0_ n1_ n2_ n3_ n4_ n5_ hb hbox hg
          refine hK.out _ _ (cj2 BK101.out (cz2 BK102.out)) (fun hHeld => ?_)
          clear hK K
          refine norm_ (a' := ?_) ?_ ?_
          rotate_left
          ·
           show Act.put _ (some 15) _ = _
           simp only [sP]
           rfl
          refine one_ (i := 3) (N := some 98) #[true, true, true, true, false, false, false, false, true, false, false] rfl rfl (one_of HT_.out (by kernel_rfl)) (by decide) (fun K hK => ?_)
          refine goes_ Try.func44 (by kernel_rfl) rfl #[.agg #[.slice A1_0 l1_0.length c1_0, .slice A1_1 l1_1.length c1_1]] (by rfl) rfl rfl (by (try simp only [List.map_toArray, List.map_cons, List.map_nil]); first | done | rfl | (simp only [List.length_drop, List.length_take]; rfl)) ?_
          with_reducible refine (laws_toTally.calls kj112 _ _ l1_0 _ _ l1_1 t179 t182 _ ?side1 ?side2 ?side3 ?side4 A166.out).mono ?_
          (case side1 => exact pC (Kd.C_below HR1_0.out HB.out))
          (case side2 => exact HC1_0.out)
          (case side3 => exact pC (Kd.C_below HR1_1.out HB.out))
          (case side4 => exact HC1_1.out)
          rintro e w179 ⟨v180, v183, rfl, ho0, ho1, hb⟩
          refine ⟨_, rfl, ?_⟩
          have n0_ := aK (rO2 (pR HO_125000.out) hb ho0 ho1)
          have n1_ := aK (rO2 (pR HO_125001.out) hb ho0 ho1)
          have n2_ := aK (rO2 (pR HO_147000.out) hb ho0 ho1)
          have n3_ := aK (rO2 (pR HO_147001.out) hb ho0 ho1)
          have n4_ := aK (rO2 (pR HO175.out) hb ho0 ho1)
          have n5_ := aK (rO2 (pR HO178.out) hb ho0 ho1)
          have HO181 := aK (Kd.R_lower (nw2 (nw4 ho0 (pR HO_125000.out) (pR HO_125001.out) (pR HO_147000.out) (pR HO_147001.out)) (pR HO175.out) (pR HO178.out)) (below_size (pS HB.out)))
          have HO184 := aK (Kd.R_lower (nw2 (nw4 ho1 (pR HO_125000.out) (pR HO_125001.out) (pR HO_147000.out) (pR HO_147001.out)) (pR HO175.out) (pR HO178.out)) (below_size (pS HB.out)))
          replace BK101 := bB BK101 hb
          replace BK102 := bB BK102 hb
          replace BK124 := bB BK124 hb
          replace BK146 := bB BK146 hb
          replace BK192 := bB BK192 hb
          replace HB := bS HB hb
          clear HO_125000 HO_125001 HO_147000 HO_147001 HO175 HO178
          have HO_125000 := n0_
          have HO_125001 := n1_
          have HO_147000 := n2_
          have HO_147001 := n3_
          have HO175 := n4_
          have HO178 := n5_
          clear n0_ n1_ n2_ n3_ n4_ n5_
          (try clear hb)
          (try clear hb2)
          (try clear hk)
          (try clear hi)
          (try clear ho0)
          (try clear ho1)
          obtain ⟨Ao180, co180, eo180⟩ := Kd.R_slice HO175.out
          (first | subst eo180 | (obtain ⟨f4_, f5_⟩ := sI eo180; subst f4_; subst f5_))
          obtain ⟨Ao181, co181, eo181⟩ := Kd.R_slice HO178.out
          (first | subst eo181 | (obtain ⟨f4_, f5_⟩ := sI eo181; subst f4_; subst f5_))
          obtain ⟨Ao182, co182, eo182⟩ := Kd.R_slice HO181.out
          (first | subst eo182 | (obtain ⟨f4_, f5_⟩ := sI eo182; subst f4_; subst f5_))
          obtain ⟨Ao183, co183, eo183⟩ := Kd.R_slice HO184.out
          (first | subst eo183 | (obtain ⟨f4_, f5_⟩ := sI eo183; subst f4_; subst f5_))
          refine hK.out _ _ (cj2 BK101.out (cz2 BK102.out)) (fun hHeld => ?_)
          clear hK K
          refine norm_ (a' := ?_) ?_ ?_
          rotate_left
          ·
           show Act.put _ (some 98) _ = _
           simp only [sP]
           rfl
          refine one_ (i := 4) (N := some 99) #[true, true, true, true, true, false, false, false, true, false, false] rfl rfl (one_of HT_.out (by kernel_rfl)) (by decide) (fun K hK => ?_)
          refine goes_ Try.func45 (by kernel_rfl) rfl #[.agg #[.slice Ao180 t173.length co180, .slice Ao181 t176.length co181], .agg #[.slice Ao182 t179.length co182, .slice Ao183 t182.length co183]] (by rfl) rfl rfl (by (try simp only [List.map_toArray, List.map_cons, List.map_nil]); first | done | rfl | (simp only [List.length_drop, List.length_take]; rfl)) ?_
          with_reducible refine (impl_AddTallies.calls kj112 _ _ t173 _ _ t176 _ _ t179 _ _ t182 t185 t188 t191 _ ?side1 ?side2 ?side3 ?side4 ?side5 ?side6 ?side7 ?side8 A167.out).mono ?_
          (case side1 => exact pC (Kd.R_reads' HO175.out).2.2)
          (case side2 => exact (Kd.R_reads' HO175.out).2.1)
          (case side3 => exact pC (Kd.R_reads' HO178.out).2.2)
          (case side4 => exact (Kd.R_reads' HO178.out).2.1)
          (case side5 => exact pC (Kd.R_reads' HO181.out).2.2)
          (case side6 => exact (Kd.R_reads' HO181.out).2.1)
          (case side7 => exact pC (Kd.R_reads' HO184.out).2.2)
          (case side8 => exact (Kd.R_reads' HO184.out).2.1)
          rintro e w184 ⟨v186, v189, rfl, ho0, ho1, hb⟩
          refine ⟨_, rfl, ?_⟩
          have n0_ := aK (rO2 (pR HO_125000.out) hb ho0 ho1)
          have n1_ := aK (rO2 (pR HO_125001.out) hb ho0 ho1)
          have n2_ := aK (rO2 (pR HO_147000.out) hb ho0 ho1)
          have n3_ := aK (rO2 (pR HO_147001.out) hb ho0 ho1)
          have n4_ := aK (rO2 (pR HO175.out) hb ho0 ho1)
          have n5_ := aK (rO2 (pR HO178.out) hb ho0 ho1)
          have n6_ := aK (rO2 (pR HO181.out) hb ho0 ho1)
          have n7_ := aK (rO2 (pR HO184.out) hb ho0 ho1)
          have HO187 := aK (Kd.R_lower (nw4 (nw4 ho0 (pR HO_125000.out) (pR HO_125001.out) (pR HO_147000.out) (pR HO_147001.out)) (pR HO175.out) (pR HO178.out) (pR HO181.out) (pR HO184.out)) (below_size (pS HB.out)))
          have HO190 := aK (Kd.R_lower (nw4 (nw4 ho1 (pR HO_125000.out) (pR HO_125001.out) (pR HO_147000.out) (pR HO_147001.out)) (pR HO175.out) (pR HO178.out) (pR HO181.out) (pR HO184.out)) (below_size (pS HB.out)))
          replace BK101 := bB BK101 hb
          replace BK102 := bB BK102 hb
          replace BK124 := bB BK124 hb
          replace BK146 := bB BK146 hb
          replace BK192 := bB BK192 hb
          replace HB := bS HB hb
          clear HO_125000 HO_125001 HO_147000 HO_147001 HO175 HO178 HO181 HO184
          have HO_125000 := n0_
          have HO_125001 := n1_
          have HO_147000 := n2_
          have HO_147001 := n3_
          have HO175 := n4_
          have HO178 := n5_
          have HO181 := n6_
          have HO184 := n7_
          clear n0_ n1_ n2_ n3_ n4_ n5_ n6_ n7_
          (try clear hb)
          (try clear hb2)
          (try clear hk)
          (try clear hi)
          (try clear ho0)
          (try clear ho1)
          refine hK.out _ _ (cj2 BK101.out (cz2 BK102.out)) (fun hHeld => ?_)
          clear hK K
          refine norm_ (a' := ?_) ?_ ?_
          rotate_left
          ·
           show Act.put _ (some 99) _ = _
           simp only [sP]
           rfl
          refine pure_ (i := 5) (N := some 94) (v := ?_) (a' := ?_) #[true, true, true, true, true, true, false, false, true, false, false] rfl rfl (any_of HT_.out (by kernel_rfl)) (fun _ _ _ h => h) (Or.inl ⟨by rfl, ?_⟩) ?_ ?_
          rotate_left
          ·
           intro w'
           go_simp
           with_reducible rfl
          rotate_left
          ·
           simp only [sP]
           rfl
          refine pure_ (i := 6) (N := some 100) (v := ?_) (a' := ?_) #[true, true, true, true, true, true, true, false, true, false, false] rfl rfl (any_of HT_.out (by kernel_rfl)) (fun _ _ _ h => h) (Or.inl ⟨by rfl, ?_⟩) ?_ ?_
          rotate_left
          ·
           intro w'
           go_simp
           with_reducible rfl
          rotate_left
          ·
           simp only [sP]
           rfl
          refine pure_ (i := 7) (N := some 101) (v := ?_) (a' := ?_) #[true, true, true, true, true, true, true, true, true, false, false] rfl rfl (any_of HT_.out (by kernel_rfl)) (fun _ _ _ h => h) (Or.inl ⟨by rfl, ?_⟩) ?_ ?_
          rotate_left
          ·
           intro w'
           go_simp
           with_reducible rfl
          rotate_left
          ·
           simp only [sP]
           rfl
          exact norm_ (by simp only [putAll, Act.put, List.setIfInBounds_toArray, List.set_cons_zero, List.set_cons_succ]) (hCont (.slice Ao180 t173.length co180, .slice Ao181 t176.length co181, .slice Ao182 t179.length co182, .slice Ao183 t182.length co183, v186, v189, gb192) _ ⟨hHeld, (pR (rP HO175.out)), (pR (rP HO178.out)), (pR (rP HO181.out)), (pR (rP HO184.out)), (pR (rP HO187.out)), (pR (rP HO190.out)), (pR (rP HO_125000.out)), (pR (rP HO_125001.out)), (pR (rP HO_147000.out)), (pR (rP HO_147001.out)), (pB BK101.out), (pB BK102.out), (pB BK124.out), (pB BK146.out), (pB BK192.out), GW192.out, GE192.out, NB101_192.out, NB192_101.out, NB102_192.out, NB192_102.out, NB124_192.out, NB192_124.out, NB146_192.out, NB192_146.out, (pS HB.out)⟩)
         skip
         refine box_step ?hg (N := 15) ?hd (cs := #[.slice none 0 0, .slice none 0 0]) (t := 44) ?hr ?_; (case hd => rfl); (case hg => rfl); (case hr => first | (go_simp; done) | (go_simp; rfl))
         intro gb192 hg w177 hbox hb
         have n0_ := aK (Kd.R_below (pR HO_125000.out) hb)
         have n1_ := aK (Kd.R_below (pR HO_125001.out) hb)
         have n2_ := aK (Kd.R_below (pR HO_147000.out) hb)
         have n3_ := aK (Kd.R_below (pR HO_147001.out) hb)
         have BK192 := aK (hbox)
         have GW192 := aK (gE hg (pS HB.out))
         have GE192 := aK (gE hg (pS HB.out))
         have NB101_192 := aK (nL hg (pB BK101.out))
         have NB192_101 := aK (nG hg (pB BK101.out))
         have NB102_192 := aK (nL hg (pB BK102.out))
         have NB192_102 := aK (nG hg (pB BK102.out))
         have NB124_192 := aK (nL hg (pB BK124.out))
         have NB192_124 := aK (nG hg (pB BK124.out))
         have NB146_192 := aK (nL hg (pB BK146.out))
         have NB192_146 := aK (nG hg (pB BK146.out))
         replace BK101 := bB BK101 hb
         replace BK102 := bB BK102 hb
         replace BK124 := bB BK124 hb
         replace BK146 := bB BK146 hb
         replace HB := bS HB hb
         clear HO_125000 HO_125001 HO_147000 HO_147001
         have HO_125000 := n0_
         have HO_125001 := n1_
         have HO_147000 := n2_
         have HO_147001 := n3_
         clear n0_ n1_ n2_ n3_ hb hbox hg
         refine hK.out _ _ (cj2 BK101.out (cz2 BK102.out)) (fun hHeld => ?_)
         clear hK K
         refine norm_ (a' := ?_) ?_ ?_
         rotate_left
         ·
          show Act.put _ (some 15) _ = _
          simp only [sP]
          rfl
         refine one_ (i := 1) (N := some 96) #[true, true, true, false, false, false, false, false, true, false, false] rfl rfl (one_of HT_.out (by kernel_rfl)) (by decide) (fun K hK => ?_)
         refine goes_ Try.func44 (by kernel_rfl) rfl #[.agg #[.slice A0_0 l0_0.length c0_0, .slice A0_1 l0_1.length c0_1]] (by rfl) rfl rfl (by (try simp only [List.map_toArray, List.map_cons, List.map_nil]); first | done | rfl | (simp only [List.length_drop, List.length_take]; rfl)) ?_
         with_reducible refine (laws_toTally.calls kj112 _ _ l0_0 _ _ l0_1 t173 t176 _ ?side1 ?side2 ?side3 ?side4 A165.out).mono ?_
         (case side1 => exact pC (Kd.C_below HR0_0.out HB.out))
         (case side2 => exact HC0_0.out)
         (case side3 => exact pC (Kd.C_below HR0_1.out HB.out))
         (case side4 => exact HC0_1.out)
         rintro e w178 ⟨v174, v177, rfl, ho0, ho1, hb⟩
         refine ⟨_, rfl, ?_⟩
         have n0_ := aK (rO2 (pR HO_125000.out) hb ho0 ho1)
         have n1_ := aK (rO2 (pR HO_125001.out) hb ho0 ho1)
         have n2_ := aK (rO2 (pR HO_147000.out) hb ho0 ho1)
         have n3_ := aK (rO2 (pR HO_147001.out) hb ho0 ho1)
         have HO175 := aK (Kd.R_lower (nw4 ho0 (pR HO_125000.out) (pR HO_125001.out) (pR HO_147000.out) (pR HO_147001.out)) (below_size (pS HB.out)))
         have HO178 := aK (Kd.R_lower (nw4 ho1 (pR HO_125000.out) (pR HO_125001.out) (pR HO_147000.out) (pR HO_147001.out)) (below_size (pS HB.out)))
         replace BK101 := bB BK101 hb
         replace BK102 := bB BK102 hb
         replace BK124 := bB BK124 hb
         replace BK146 := bB BK146 hb
         replace BK192 := bB BK192 hb
         replace HB := bS HB hb
         clear HO_125000 HO_125001 HO_147000 HO_147001
         have HO_125000 := n0_
         have HO_125001 := n1_
         have HO_147000 := n2_
         have HO_147001 := n3_
         clear n0_ n1_ n2_ n3_
         (try clear hb)
         (try clear hb2)
         (try clear hk)
         (try clear hi)
         (try clear ho0)
         (try clear ho1)
         refine hK.out _ _ (cj2 BK101.out (cz2 BK102.out)) (fun hHeld => ?_)
         clear hK K
         refine norm_ (a' := ?_) ?_ ?_
         rotate_left
         ·
          show Act.put _ (some 96) _ = _
          simp only [sP]
          rfl
         refine one_ (i := 3) (N := some 98) #[true, true, true, true, false, false, false, false, true, false, false] rfl rfl (one_of HT_.out (by kernel_rfl)) (by decide) (fun K hK => ?_)
         refine goes_ Try.func44 (by kernel_rfl) rfl #[.agg #[.slice A1_0 l1_0.length c1_0, .slice A1_1 l1_1.length c1_1]] (by rfl) rfl rfl (by (try simp only [List.map_toArray, List.map_cons, List.map_nil]); first | done | rfl | (simp only [List.length_drop, List.length_take]; rfl)) ?_
         with_reducible refine (laws_toTally.calls kj112 _ _ l1_0 _ _ l1_1 t179 t182 _ ?side1 ?side2 ?side3 ?side4 A166.out).mono ?_
         (case side1 => exact pC (Kd.C_below HR1_0.out HB.out))
         (case side2 => exact HC1_0.out)
         (case side3 => exact pC (Kd.C_below HR1_1.out HB.out))
         (case side4 => exact HC1_1.out)
         rintro e w179 ⟨v180, v183, rfl, ho0, ho1, hb⟩
         refine ⟨_, rfl, ?_⟩
         have n0_ := aK (rO2 (pR HO_125000.out) hb ho0 ho1)
         have n1_ := aK (rO2 (pR HO_125001.out) hb ho0 ho1)
         have n2_ := aK (rO2 (pR HO_147000.out) hb ho0 ho1)
         have n3_ := aK (rO2 (pR HO_147001.out) hb ho0 ho1)
         have n4_ := aK (rO2 (pR HO175.out) hb ho0 ho1)
         have n5_ := aK (rO2 (pR HO178.out) hb ho0 ho1)
         have HO181 := aK (Kd.R_lower (nw2 (nw4 ho0 (pR HO_125000.out) (pR HO_125001.out) (pR HO_147000.out) (pR HO_147001.out)) (pR HO175.out) (pR HO178.out)) (below_size (pS HB.out)))
         have HO184 := aK (Kd.R_lower (nw2 (nw4 ho1 (pR HO_125000.out) (pR HO_125001.out) (pR HO_147000.out) (pR HO_147001.out)) (pR HO175.out) (pR HO178.out)) (below_size (pS HB.out)))
         replace BK101 := bB BK101 hb
         replace BK102 := bB BK102 hb
         replace BK124 := bB BK124 hb
         replace BK146 := bB BK146 hb
         replace BK192 := bB BK192 hb
         replace HB := bS HB hb
         clear HO_125000 HO_125001 HO_147000 HO_147001 HO175 HO178
         have HO_125000 := n0_
         have HO_125001 := n1_
         have HO_147000 := n2_
         have HO_147001 := n3_
         have HO175 := n4_
         have HO178 := n5_
         clear n0_ n1_ n2_ n3_ n4_ n5_
         (try clear hb)
         (try clear hb2)
         (try clear hk)
         (try clear hi)
         (try clear ho0)
         (try clear ho1)
         obtain ⟨Ao180, co180, eo180⟩ := Kd.R_slice HO175.out
         (first | subst eo180 | (obtain ⟨f4_, f5_⟩ := sI eo180; subst f4_; subst f5_))
         obtain ⟨Ao181, co181, eo181⟩ := Kd.R_slice HO178.out
         (first | subst eo181 | (obtain ⟨f4_, f5_⟩ := sI eo181; subst f4_; subst f5_))
         obtain ⟨Ao182, co182, eo182⟩ := Kd.R_slice HO181.out
         (first | subst eo182 | (obtain ⟨f4_, f5_⟩ := sI eo182; subst f4_; subst f5_))
         obtain ⟨Ao183, co183, eo183⟩ := Kd.R_slice HO184.out
         (first | subst eo183 | (obtain ⟨f4_, f5_⟩ := sI eo183; subst f4_; subst f5_))
         refine hK.out _ _ (cj2 BK101.out (cz2 BK102.out)) (fun hHeld => ?_)
         clear hK K
         refine norm_ (a' := ?_) ?_ ?_
         rotate_left
         ·
          show Act.put _ (some 98) _ = _
          simp only [sP]
          rfl
         refine one_ (i := 4) (N := some 99) #[true, true, true, true, true, false, false, false, true, false, false] rfl rfl (one_of HT_.out (by kernel_rfl)) (by decide) (fun K hK => ?_)
         refine goes_ Try.func45 (by kernel_rfl) rfl #[.agg #[.slice Ao180 t173.length co180, .slice Ao181 t176.length co181], .agg #[.slice Ao182 t179.length co182, .slice Ao183 t182.length co183]] (by rfl) rfl rfl (by (try simp only [List.map_toArray, List.map_cons, List.map_nil]); first | done | rfl | (simp only [List.length_drop, List.length_take]; rfl)) ?_
         with_reducible refine (impl_AddTallies.calls kj112 _ _ t173 _ _ t176 _ _ t179 _ _ t182 t185 t188 t191 _ ?side1 ?side2 ?side3 ?side4 ?side5 ?side6 ?side7 ?side8 A167.out).mono ?_
         (case side1 => exact pC (Kd.R_reads' HO175.out).2.2)
         (case side2 => exact (Kd.R_reads' HO175.out).2.1)
         (case side3 => exact pC (Kd.R_reads' HO178.out).2.2)
         (case side4 => exact (Kd.R_reads' HO178.out).2.1)
         (case side5 => exact pC (Kd.R_reads' HO181.out).2.2)
         (case side6 => exact (Kd.R_reads' HO181.out).2.1)
         (case side7 => exact pC (Kd.R_reads' HO184.out).2.2)
         (case side8 => exact (Kd.R_reads' HO184.out).2.1)
         rintro e w184 ⟨v186, v189, rfl, ho0, ho1, hb⟩
         refine ⟨_, rfl, ?_⟩
         have n0_ := aK (rO2 (pR HO_125000.out) hb ho0 ho1)
         have n1_ := aK (rO2 (pR HO_125001.out) hb ho0 ho1)
         have n2_ := aK (rO2 (pR HO_147000.out) hb ho0 ho1)
         have n3_ := aK (rO2 (pR HO_147001.out) hb ho0 ho1)
         have n4_ := aK (rO2 (pR HO175.out) hb ho0 ho1)
         have n5_ := aK (rO2 (pR HO178.out) hb ho0 ho1)
         have n6_ := aK (rO2 (pR HO181.out) hb ho0 ho1)
         have n7_ := aK (rO2 (pR HO184.out) hb ho0 ho1)
         have HO187 := aK (Kd.R_lower (nw4 (nw4 ho0 (pR HO_125000.out) (pR HO_125001.out) (pR HO_147000.out) (pR HO_147001.out)) (pR HO175.out) (pR HO178.out) (pR HO181.out) (pR HO184.out)) (below_size (pS HB.out)))
         have HO190 := aK (Kd.R_lower (nw4 (nw4 ho1 (pR HO_125000.out) (pR HO_125001.out) (pR HO_147000.out) (pR HO_147001.out)) (pR HO175.out) (pR HO178.out) (pR HO181.out) (pR HO184.out)) (below_size (pS HB.out)))
         replace BK101 := bB BK101 hb
         replace BK102 := bB BK102 hb
         replace BK124 := bB BK124 hb
         replace BK146 := bB BK146 hb
         replace BK192 := bB BK192 hb
         replace HB := bS HB hb
         clear HO_125000 HO_125001 HO_147000 HO_147001 HO175 HO178 HO181 HO184
         have HO_125000 := n0_
         have HO_125001 := n1_
         have HO_147000 := n2_
         have HO_147001 := n3_
         have HO175 := n4_
         have HO178 := n5_
         have HO181 := n6_
         have HO184 := n7_
         clear n0_ n1_ n2_ n3_ n4_ n5_ n6_ n7_
         (try clear hb)
         (try clear hb2)
         (try clear hk)
         (try clear hi)
         (try clear ho0)
         (try clear ho1)
         refine hK.out _ _ (cj2 BK101.out (cz2 BK102.out)) (fun hHeld => ?_)
         clear hK K
         refine norm_ (a' := ?_) ?_ ?_
         rotate_left
         ·
          show Act.put _ (some 99) _ = _
          simp only [sP]
          rfl
         refine pure_ (i := 5) (N := some 94) (v := ?_) (a' := ?_) #[true, true, true, true, true, true, false, false, true, false, false] rfl rfl (any_of HT_.out (by kernel_rfl)) (fun _ _ _ h => h) (Or.inl ⟨by rfl, ?_⟩) ?_ ?_
         rotate_left
         ·
          intro w'
          go_simp
          with_reducible rfl
         rotate_left
         ·
          simp only [sP]
          rfl
         refine pure_ (i := 6) (N := some 100) (v := ?_) (a' := ?_) #[true, true, true, true, true, true, true, false, true, false, false] rfl rfl (any_of HT_.out (by kernel_rfl)) (fun _ _ _ h => h) (Or.inl ⟨by rfl, ?_⟩) ?_ ?_
         rotate_left
         ·
          intro w'
          go_simp
          with_reducible rfl
         rotate_left
         ·
          simp only [sP]
          rfl
         refine pure_ (i := 7) (N := some 101) (v := ?_) (a' := ?_) #[true, true, true, true, true, true, true, true, true, false, false] rfl rfl (any_of HT_.out (by kernel_rfl)) (fun _ _ _ h => h) (Or.inl ⟨by rfl, ?_⟩) ?_ ?_
         rotate_left
         ·
          intro w'
          go_simp
          with_reducible rfl
         rotate_left
         ·
          simp only [sP]
          rfl
         exact norm_ (by simp only [putAll, Act.put, List.setIfInBounds_toArray, List.set_cons_zero, List.set_cons_succ]) (hCont (.slice Ao180 t173.length co180, .slice Ao181 t176.length co181, .slice Ao182 t179.length co182, .slice Ao183 t182.length co183, v186, v189, gb192) _ ⟨hHeld, (pR (rP HO175.out)), (pR (rP HO178.out)), (pR (rP HO181.out)), (pR (rP HO184.out)), (pR (rP HO187.out)), (pR (rP HO190.out)), (pR (rP HO_125000.out)), (pR (rP HO_125001.out)), (pR (rP HO_147000.out)), (pR (rP HO_147001.out)), (pB BK101.out), (pB BK102.out), (pB BK124.out), (pB BK146.out), (pB BK192.out), GW192.out, GE192.out, NB101_192.out, NB192_101.out, NB102_192.out, NB192_102.out, NB124_192.out, NB192_124.out, NB146_192.out, NB192_146.out, (pS HB.out)⟩)
        rintro ⟨v174, v177, v180, v183, v186, v189, gb192⟩ w185 ⟨hS_, h0_, h1_, h2_, h3_, h4_, h5_, h6_, h7_, h8_, h9_, h10_, h11_, h12_, h13_, h14_, h15_, h16_, h17_, h18_, h19_, h20_, h21_, h22_, h23_, h24_, h25_⟩
        have n0_ : Aside0 (Kd.R (Kd.int .i64) 3 w185 w.heap.size (fun k_ => some k_ ≠ (v177 : Value).ownBlock ∧ some k_ ≠ (v180 : Value).ownBlock ∧ some k_ ≠ (v183 : Value).ownBlock ∧ some k_ ≠ (v186 : Value).ownBlock ∧ some k_ ≠ (v189 : Value).ownBlock ∧ some k_ ≠ (.slice Ao42 t117.length co42 : Value).ownBlock ∧ some k_ ≠ (.slice Ao44 t120.length co44 : Value).ownBlock ∧ some k_ ≠ (.slice Ao70 t139.length co70 : Value).ownBlock ∧ some k_ ≠ (.slice Ao77 t142.length co77 : Value).ownBlock) v174 t173) := ⟨h0_⟩
        have n1_ : Aside0 (Kd.R (Kd.int .i64) 3 w185 w.heap.size (fun k_ => some k_ ≠ (v174 : Value).ownBlock ∧ some k_ ≠ (v180 : Value).ownBlock ∧ some k_ ≠ (v183 : Value).ownBlock ∧ some k_ ≠ (v186 : Value).ownBlock ∧ some k_ ≠ (v189 : Value).ownBlock ∧ some k_ ≠ (.slice Ao42 t117.length co42 : Value).ownBlock ∧ some k_ ≠ (.slice Ao44 t120.length co44 : Value).ownBlock ∧ some k_ ≠ (.slice Ao70 t139.length co70 : Value).ownBlock ∧ some k_ ≠ (.slice Ao77 t142.length co77 : Value).ownBlock) v177 t176) := ⟨h1_⟩
        have n2_ : Aside0 (Kd.R (Kd.int .i64) 3 w185 w.heap.size (fun k_ => some k_ ≠ (v174 : Value).ownBlock ∧ some k_ ≠ (v177 : Value).ownBlock ∧ some k_ ≠ (v183 : Value).ownBlock ∧ some k_ ≠ (v186 : Value).ownBlock ∧ some k_ ≠ (v189 : Value).ownBlock ∧ some k_ ≠ (.slice Ao42 t117.length co42 : Value).ownBlock ∧ some k_ ≠ (.slice Ao44 t120.length co44 : Value).ownBlock ∧ some k_ ≠ (.slice Ao70 t139.length co70 : Value).ownBlock ∧ some k_ ≠ (.slice Ao77 t142.length co77 : Value).ownBlock) v180 t179) := ⟨h2_⟩
        have n3_ : Aside0 (Kd.R (Kd.int .i64) 3 w185 w.heap.size (fun k_ => some k_ ≠ (v174 : Value).ownBlock ∧ some k_ ≠ (v177 : Value).ownBlock ∧ some k_ ≠ (v180 : Value).ownBlock ∧ some k_ ≠ (v186 : Value).ownBlock ∧ some k_ ≠ (v189 : Value).ownBlock ∧ some k_ ≠ (.slice Ao42 t117.length co42 : Value).ownBlock ∧ some k_ ≠ (.slice Ao44 t120.length co44 : Value).ownBlock ∧ some k_ ≠ (.slice Ao70 t139.length co70 : Value).ownBlock ∧ some k_ ≠ (.slice Ao77 t142.length co77 : Value).ownBlock) v183 t182) := ⟨h3_⟩
        have n4_ : Aside0 (Kd.R (Kd.int .i64) 3 w185 w.heap.size (fun k_ => some k_ ≠ (v174 : Value).ownBlock ∧ some k_ ≠ (v177 : Value).ownBlock ∧ some k_ ≠ (v180 : Value).ownBlock ∧ some k_ ≠ (v183 : Value).ownBlock ∧ some k_ ≠ (v189 : Value).ownBlock ∧ some k_ ≠ (.slice Ao42 t117.length co42 : Value).ownBlock ∧ some k_ ≠ (.slice Ao44 t120.length co44 : Value).ownBlock ∧ some k_ ≠ (.slice Ao70 t139.length co70 : Value).ownBlock ∧ some k_ ≠ (.slice Ao77 t142.length co77 : Value).ownBlock) v186 t185) := ⟨h4_⟩
        have n5_ : Aside0 (Kd.R (Kd.int .i64) 3 w185 w.heap.size (fun k_ => some k_ ≠ (v174 : Value).ownBlock ∧ some k_ ≠ (v177 : Value).ownBlock ∧ some k_ ≠ (v180 : Value).ownBlock ∧ some k_ ≠ (v183 : Value).ownBlock ∧ some k_ ≠ (v186 : Value).ownBlock ∧ some k_ ≠ (.slice Ao42 t117.length co42 : Value).ownBlock ∧ some k_ ≠ (.slice Ao44 t120.length co44 : Value).ownBlock ∧ some k_ ≠ (.slice Ao70 t139.length co70 : Value).ownBlock ∧ some k_ ≠ (.slice Ao77 t142.length co77 : Value).ownBlock) v189 t188) := ⟨h5_⟩
        have n6_ : Aside0 (Kd.R (Kd.int .i64) 3 w185 w.heap.size (fun k_ => some k_ ≠ (v174 : Value).ownBlock ∧ some k_ ≠ (v177 : Value).ownBlock ∧ some k_ ≠ (v180 : Value).ownBlock ∧ some k_ ≠ (v183 : Value).ownBlock ∧ some k_ ≠ (v186 : Value).ownBlock ∧ some k_ ≠ (v189 : Value).ownBlock ∧ some k_ ≠ (.slice Ao44 t120.length co44 : Value).ownBlock ∧ some k_ ≠ (.slice Ao70 t139.length co70 : Value).ownBlock ∧ some k_ ≠ (.slice Ao77 t142.length co77 : Value).ownBlock) (.slice Ao42 t117.length co42) t117) := ⟨h6_⟩
        have n7_ : Aside0 (Kd.R (Kd.int .i64) 3 w185 w.heap.size (fun k_ => some k_ ≠ (v174 : Value).ownBlock ∧ some k_ ≠ (v177 : Value).ownBlock ∧ some k_ ≠ (v180 : Value).ownBlock ∧ some k_ ≠ (v183 : Value).ownBlock ∧ some k_ ≠ (v186 : Value).ownBlock ∧ some k_ ≠ (v189 : Value).ownBlock ∧ some k_ ≠ (.slice Ao42 t117.length co42 : Value).ownBlock ∧ some k_ ≠ (.slice Ao70 t139.length co70 : Value).ownBlock ∧ some k_ ≠ (.slice Ao77 t142.length co77 : Value).ownBlock) (.slice Ao44 t120.length co44) t120) := ⟨h7_⟩
        have n8_ : Aside0 (Kd.R (Kd.int .i64) 3 w185 w.heap.size (fun k_ => some k_ ≠ (v174 : Value).ownBlock ∧ some k_ ≠ (v177 : Value).ownBlock ∧ some k_ ≠ (v180 : Value).ownBlock ∧ some k_ ≠ (v183 : Value).ownBlock ∧ some k_ ≠ (v186 : Value).ownBlock ∧ some k_ ≠ (v189 : Value).ownBlock ∧ some k_ ≠ (.slice Ao42 t117.length co42 : Value).ownBlock ∧ some k_ ≠ (.slice Ao44 t120.length co44 : Value).ownBlock ∧ some k_ ≠ (.slice Ao77 t142.length co77 : Value).ownBlock) (.slice Ao70 t139.length co70) t170) := ⟨h8_⟩
        have n9_ : Aside0 (Kd.R (Kd.int .i64) 3 w185 w.heap.size (fun k_ => some k_ ≠ (v174 : Value).ownBlock ∧ some k_ ≠ (v177 : Value).ownBlock ∧ some k_ ≠ (v180 : Value).ownBlock ∧ some k_ ≠ (v183 : Value).ownBlock ∧ some k_ ≠ (v186 : Value).ownBlock ∧ some k_ ≠ (v189 : Value).ownBlock ∧ some k_ ≠ (.slice Ao42 t117.length co42 : Value).ownBlock ∧ some k_ ≠ (.slice Ao44 t120.length co44 : Value).ownBlock ∧ some k_ ≠ (.slice Ao70 t139.length co70 : Value).ownBlock) (.slice Ao77 t142.length co77) t171) := ⟨h9_⟩
        have n10_ : Aside0 (w185.heap[gb101]? = some (.cells #[.slice A0_0 l0_0.length c0_0, .slice A0_1 l0_1.length c0_1] 42 (0, 0))) := ⟨h10_⟩
        have n11_ : Aside0 (w185.heap[gb102]? = some (.cells #[.slice A1_0 l1_0.length c1_0, .slice A1_1 l1_1.length c1_1] 42 (0, 0))) := ⟨h11_⟩
        have n12_ : Aside0 (w185.heap[gb124]? = some (.cells #[.slice Ao42 t117.length co42, .slice Ao44 t120.length co44] 44 (0, 0))) := ⟨h12_⟩
        have n13_ : Aside0 (w185.heap[gb146]? = some (.cells #[.slice Ao70 t139.length co70, .slice Ao77 t142.length co77] 44 (0, 0))) := ⟨h13_⟩
        have n14_ : Aside0 (w185.heap[gb192]? = some (.cells #[.slice none 0 0, .slice none 0 0] 44 (0, 0))) := ⟨h14_⟩
        have n15_ : Aside0 (w.heap.size ≤ gb192) := ⟨h15_⟩
        have n16_ : Aside0 (w.heap.size ≤ gb192) := ⟨h16_⟩
        have n17_ : Aside0 (gb101 ≠ gb192) := ⟨h17_⟩
        have n18_ : Aside0 (gb192 ≠ gb101) := ⟨h18_⟩
        have n19_ : Aside0 (gb102 ≠ gb192) := ⟨h19_⟩
        have n20_ : Aside0 (gb192 ≠ gb102) := ⟨h20_⟩
        have n21_ : Aside0 (gb124 ≠ gb192) := ⟨h21_⟩
        have n22_ : Aside0 (gb192 ≠ gb124) := ⟨h22_⟩
        have n23_ : Aside0 (gb146 ≠ gb192) := ⟨h23_⟩
        have n24_ : Aside0 (gb192 ≠ gb146) := ⟨h24_⟩
        have n25_ : Aside0 (Below w.heap.size w w185) := ⟨h25_⟩
        clear HO_125000 HO_125001 HO_147000 HO_147001 BK101 BK102 BK124 BK146 HB h0_ h1_ h2_ h3_ h4_ h5_ h6_ h7_ h8_ h9_ h10_ h11_ h12_ h13_ h14_ h15_ h16_ h17_ h18_ h19_ h20_ h21_ h22_ h23_ h24_ h25_
        have HO175 := n0_
        have HO178 := n1_
        have HO181 := n2_
        have HO184 := n3_
        have HO187 := n4_
        have HO190 := n5_
        have HO_125000 := n6_
        have HO_125001 := n7_
        have HO_147000 := n8_
        have HO_147001 := n9_
        have BK101 := n10_
        have BK102 := n11_
        have BK124 := n12_
        have BK146 := n13_
        have BK192 := n14_
        have GW192 := n15_
        have GE192 := n16_
        have NB101_192 := n17_
        have NB192_101 := n18_
        have NB102_192 := n19_
        have NB192_102 := n20_
        have NB124_192 := n21_
        have NB192_124 := n22_
        have NB146_192 := n23_
        have NB192_146 := n24_
        have HB := n25_
        clear n0_ n1_ n2_ n3_ n4_ n5_ n6_ n7_ n8_ n9_ n10_ n11_ n12_ n13_ n14_ n15_ n16_ n17_ n18_ n19_ n20_ n21_ n22_ n23_ n24_ n25_
        have hHeld : w185.cell? ⟨gb101, 0, none⟩ = some (.slice A0_0 l0_0.length c0_0) ∧ w185.cell? ⟨gb101, 1, none⟩ = some (.slice A0_1 l0_1.length c0_1) ∧ w185.cell? ⟨gb102, 0, none⟩ = some (.slice A1_0 l1_0.length c1_0) ∧ w185.cell? ⟨gb102, 1, none⟩ = some (.slice A1_1 l1_1.length c1_1) := hS_
        obtain ⟨Ao186, co186, eo186⟩ := Kd.R_slice HO187.out
        (first | subst eo186 | (obtain ⟨f4_, f5_⟩ := sI eo186; subst f4_; subst f5_))
        obtain ⟨Ao188, co188, eo188⟩ := Kd.R_slice HO190.out
        (first | subst eo188 | (obtain ⟨f4_, f5_⟩ := sI eo188; subst f4_; subst f5_))
        refine norm_ (a' := ?_) ?_ ?_
        rotate_left
        ·
         simp only [putAll, Act.put, List.setIfInBounds_toArray, List.set_cons_zero, List.set_cons_succ]
         rfl
        refine one_ (i := 9) (N := none) #[true, true, true, true, true, true, true, true, true, true, false] rfl rfl (one_of HT_.out (by kernel_rfl)) (by decide) (fun K hK => ?_)
        have hs187 : w185.cell? ⟨gb192, 0, none⟩ = some (.slice none 0 0) := (blk_cell BK192.out 0).trans rfl
        have hfs187 := blk_frozen BK192.out 0
        have hns187_0 := NB101_192.out
        have hns187_1 := NB102_192.out
        have hns187_2 := NB124_192.out
        have hns187_3 := NB146_192.out
        have hms187_0 := NB192_101.out
        have hms187_1 := NB192_102.out
        have hms187_2 := NB192_124.out
        have hms187_3 := NB192_146.out
        have hs189 : w185.cell? ⟨gb192, 1, none⟩ = some (.slice none 0 0) := (blk_cell BK192.out 1).trans rfl
        have hfs189 := blk_frozen BK192.out 1
        have hns189_0 := NB101_192.out
        have hns189_1 := NB102_192.out
        have hns189_2 := NB124_192.out
        have hns189_3 := NB146_192.out
        have hms189_0 := NB192_101.out
        have hms189_1 := NB192_102.out
        have hms189_2 := NB192_124.out
        have hms189_3 := NB192_146.out
        refine skip_ (w1 := ?_) (by rfl) rfl ?_ ?_
        rotate_left
        ·
         go_simp
         rfl
        refine hK.out _ _ ⟨((cell_far (p := ⟨gb192, _, none⟩) NB101_192.out _).trans (((cell_far (p := ⟨gb192, _, none⟩) NB101_192.out _).trans (hHeld.1)))), ((cell_far (p := ⟨gb192, _, none⟩) NB101_192.out _).trans (((cell_far (p := ⟨gb192, _, none⟩) NB101_192.out _).trans (hHeld.2.1)))), ((cell_far (p := ⟨gb192, _, none⟩) NB102_192.out _).trans (((cell_far (p := ⟨gb192, _, none⟩) NB102_192.out _).trans (hHeld.2.2.1)))), ((cell_far (p := ⟨gb192, _, none⟩) NB102_192.out _).trans (((cell_far (p := ⟨gb192, _, none⟩) NB102_192.out _).trans (hHeld.2.2.2))))⟩ (fun hHeld => ?_)
        clear hK K
        refine pure_ (i := 10) (N := some 16) (v := ?_) (a' := ?_) #[true, true, true, true, true, true, true, true, true, true, true] rfl rfl (any_of HT_.out (by kernel_rfl)) (fun _ _ _ h => h) (Or.inl ⟨by rfl, ?_⟩) ?_ ?_
        rotate_left
        ·
         intro w'
         go_simp
         with_reducible rfl
        rotate_left
        ·
         simp only [sP]
         rfl
        refine done_ (done_of HT_.out (by kernel_rfl)) ?_
        go_upto_region 32 with (fail)
        go_cut [110] (fun v110 wc => ∃ (kq : Nat) (x110_167 : Bool), v110 = .bool x110_167 ∧ Aside0 (laws_FnExactAddTallies.j2 kq t169 x110_167 t170 t171 = some r) ∧ Aside0 (kq ≤ kj112) ∧ Aside0 (Kd.R (Kd.int .i64) 3 wc w.heap.size (fun k_ => some k_ ≠ ((.slice Ao77 t142.length co77) : Value).ownBlock) (.slice Ao70 t139.length co70) t170) ∧ Aside0 (Kd.R (Kd.int .i64) 3 wc w.heap.size (fun k_ => some k_ ≠ ((.slice Ao70 t139.length co70) : Value).ownBlock) (.slice Ao77 t142.length co77) t171) ∧ Aside0 (wc.heap[gb146]? = some (.cells #[(.slice Ao70 t139.length co70), (.slice Ao77 t142.length co77)] 44 (0, 0))) ∧ Aside0 (Below w.heap.size w wc))
        case first => as_aux_lemma =>
         have H := HC168.out
         clear HC168
         replace H := Option.bind_eq_some_iff.mp H
         obtain ⟨t193, A1900, H⟩ := H
         replace H : (if t193 = true then (laws_FnExactAddTallies.j2 kj112 t169 (t191 != t123) t170 t171) else (laws_FnExactAddTallies.j2 kj112 t169 true t170 t171)) = some r := H
         have A190 := Aside0.mk A1900
         clear A1900
         by_cases c191 : t193 = true
         ·
          subst c191
          have H1 : (laws_FnExactAddTallies.j2 kj112 t169 (t191 != t123) t170 t171) = some r := by rw [if_pos rfl] at H; exact H
          clear H
          have H := H1
          clear H1
          have H' := Aside0.mk H
          clear H
          have hnb192 := NB192_124.out
          have hnc192 := NB124_192.out
          have hnb193 := NB192_146.out
          have hnc193 := NB146_192.out
          obtain ⟨hcz194_0, hcz194_1, hfz194_0, hfz194_1⟩ := bc2 BK192.out
          have hnb195 := NB124_146.out
          have hnc195 := NB146_124.out
          obtain ⟨hcz196_0, hcz196_1, hfz196_0, hfz196_1⟩ := bc2 BK124.out
          replace HO_125000 := aK (Kd.R_mono HO_125000.out (fun k_ hk_ => (⟨hk_.2.2.2.2.1, ⟨hk_.2.2.2.2.2.1, ⟨hk_.2.2.2.2.2.2.1, ⟨hk_.2.2.2.2.2.2.2.1, hk_.2.2.2.2.2.2.2.2⟩⟩⟩⟩ : (some k_ ≠ (.slice Ao186 t185.length co186 : Value).ownBlock ∧ (some k_ ≠ (.slice Ao188 t188.length co188 : Value).ownBlock ∧ (some k_ ≠ (.slice Ao44 t120.length co44 : Value).ownBlock ∧ (some k_ ≠ (.slice Ao70 t139.length co70 : Value).ownBlock ∧ some k_ ≠ (.slice Ao77 t142.length co77 : Value).ownBlock)))))))
          replace HO_125001 := aK (Kd.R_mono HO_125001.out (fun k_ hk_ => (⟨hk_.2.2.2.2.1, ⟨hk_.2.2.2.2.2.1, ⟨hk_.2.2.2.2.2.2.1, ⟨hk_.2.2.2.2.2.2.2.1, hk_.2.2.2.2.2.2.2.2⟩⟩⟩⟩ : (some k_ ≠ (.slice Ao186 t185.length co186 : Value).ownBlock ∧ (some k_ ≠ (.slice Ao188 t188.length co188 : Value).ownBlock ∧ (some k_ ≠ (.slice Ao42 t117.length co42 : Value).ownBlock ∧ (some k_ ≠ (.slice Ao70 t139.length co70 : Value).ownBlock ∧ some k_ ≠ (.slice Ao77 t142.length co77 : Value).ownBlock)))))))
          replace HO_147000 := aK (Kd.R_mono HO_147000.out (fun k_ hk_ => (⟨hk_.2.2.2.2.1, ⟨hk_.2.2.2.2.2.1, ⟨hk_.2.2.2.2.2.2.1, ⟨hk_.2.2.2.2.2.2.2.1, hk_.2.2.2.2.2.2.2.2⟩⟩⟩⟩ : (some k_ ≠ (.slice Ao186 t185.length co186 : Value).ownBlock ∧ (some k_ ≠ (.slice Ao188 t188.length co188 : Value).ownBlock ∧ (some k_ ≠ (.slice Ao42 t117.length co42 : Value).ownBlock ∧ (some k_ ≠ (.slice Ao44 t120.length co44 : Value).ownBlock ∧ some k_ ≠ (.slice Ao77 t142.length co77 : Value).ownBlock)))))))
          replace HO_147001 := aK (Kd.R_mono HO_147001.out (fun k_ hk_ => (⟨hk_.2.2.2.2.1, ⟨hk_.2.2.2.2.2.1, ⟨hk_.2.2.2.2.2.2.1, ⟨hk_.2.2.2.2.2.2.2.1, hk_.2.2.2.2.2.2.2.2⟩⟩⟩⟩ : (some k_ ≠ (.slice Ao186 t185.length co186 : Value).ownBlock ∧ (some k_ ≠ (.slice Ao188 t188.length co188 : Value).ownBlock ∧ (some k_ ≠ (.slice Ao42 t117.length co42 : Value).ownBlock ∧ (some k_ ≠ (.slice Ao44 t120.length co44 : Value).ownBlock ∧ some k_ ≠ (.slice Ao70 t139.length co70 : Value).ownBlock)))))))
          replace HO187 := aK (Kd.R_mono HO187.out (fun k_ hk_ => (⟨hk_.2.2.2.2.1, ⟨hk_.2.2.2.2.2.1, ⟨hk_.2.2.2.2.2.2.1, ⟨hk_.2.2.2.2.2.2.2.1, hk_.2.2.2.2.2.2.2.2⟩⟩⟩⟩ : (some k_ ≠ (.slice Ao188 t188.length co188 : Value).ownBlock ∧ (some k_ ≠ (.slice Ao42 t117.length co42 : Value).ownBlock ∧ (some k_ ≠ (.slice Ao44 t120.length co44 : Value).ownBlock ∧ (some k_ ≠ (.slice Ao70 t139.length co70 : Value).ownBlock ∧ some k_ ≠ (.slice Ao77 t142.length co77 : Value).ownBlock)))))))
          replace HO190 := aK (Kd.R_mono HO190.out (fun k_ hk_ => (⟨hk_.2.2.2.2.1, ⟨hk_.2.2.2.2.2.1, ⟨hk_.2.2.2.2.2.2.1, ⟨hk_.2.2.2.2.2.2.2.1, hk_.2.2.2.2.2.2.2.2⟩⟩⟩⟩ : (some k_ ≠ (.slice Ao186 t185.length co186 : Value).ownBlock ∧ (some k_ ≠ (.slice Ao42 t117.length co42 : Value).ownBlock ∧ (some k_ ≠ (.slice Ao44 t120.length co44 : Value).ownBlock ∧ (some k_ ≠ (.slice Ao70 t139.length co70 : Value).ownBlock ∧ some k_ ≠ (.slice Ao77 t142.length co77 : Value).ownBlock)))))))
          try go_wp2_with (first | ((with_reducible refine gate_callee (f := 46) rfl ?_); refine gl (some 104) Try.func46 #[.agg #[.slice Ao186 t185.length co186, .slice Ao188 t188.length co188], .agg #[.slice Ao42 t117.length co42, .slice Ao44 t120.length co44]] ?_; (with_reducible refine (laws_eqTally.calls kj112 _ _ t185 _ _ t188 _ _ t117 _ _ t120 true _ ?side1 ?side2 ?side3 ?side4 ?side5 ?side6 ?side7 ?side8 A190.out).mono ?_); (case side1 => exact rC (pR (rF2 HO187.out BK192.out (.slice Ao186 t185.length co186) (.slice Ao188 t188.length co188)))); (case side2 => exact (Kd.R_reads' HO187.out).2.1); (case side3 => exact rC (pR (rF2 HO190.out BK192.out (.slice Ao186 t185.length co186) (.slice Ao188 t188.length co188)))); (case side4 => exact (Kd.R_reads' HO190.out).2.1); (case side5 => exact rC (pR (rF2 HO_125000.out BK192.out (.slice Ao186 t185.length co186) (.slice Ao188 t188.length co188)))); (case side6 => exact (Kd.R_reads' HO_125000.out).2.1); (case side7 => exact rC (pR (rF2 HO_125001.out BK192.out (.slice Ao186 t185.length co186) (.slice Ao188 t188.length co188)))); (case side8 => exact (Kd.R_reads' HO_125001.out).2.1); rintro e w197 ⟨rfl, hb⟩; refine ⟨_, rfl, ?_⟩; have n0_ := aK (Kd.R_below (pR (rF2 HO_125000.out BK192.out (.slice Ao186 t185.length co186) (.slice Ao188 t188.length co188))) hb); have n1_ := aK (Kd.R_below (pR (rF2 HO_125001.out BK192.out (.slice Ao186 t185.length co186) (.slice Ao188 t188.length co188))) hb); have n2_ := aK (Kd.R_below (pR (rF2 HO_147000.out BK192.out (.slice Ao186 t185.length co186) (.slice Ao188 t188.length co188))) hb); have n3_ := aK (Kd.R_below (pR (rF2 HO_147001.out BK192.out (.slice Ao186 t185.length co186) (.slice Ao188 t188.length co188))) hb); have n4_ := aK (Kd.R_below (pR (rF2 HO187.out BK192.out (.slice Ao186 t185.length co186) (.slice Ao188 t188.length co188))) hb); have n5_ := aK (Kd.R_below (pR (rF2 HO190.out BK192.out (.slice Ao186 t185.length co186) (.slice Ao188 t188.length co188))) hb); have n6_ := aK (blk_below (g := gb146) (o := .cells #[.slice Ao70 t139.length co70, .slice Ao77 t142.length co77] 44 (0, 0)) (by refine bk ?_; refine blk_far ?_ NB146_192.out _; refine bk ?_; refine blk_far ?_ NB146_192.out _; refine bk ?_; exact BK146.out) hb); have n7_ := aK (blk_below (g := gb192) (o := .cells #[.slice Ao186 t185.length co186, .slice Ao188 t188.length co188] 44 (0, 0)) (by refine bk ?_; refine blk_put (cs := #[.slice Ao186 t185.length co186, .slice none 0 0]) ?_ 1 _ rfl; refine bk ?_; refine blk_put (cs := #[.slice none 0 0, .slice none 0 0]) ?_ 0 _ rfl; refine bk ?_; exact BK192.out) hb); replace HB := bS HB hb; clear HO_125000 HO_125001 HO_147000 HO_147001 HO187 HO190 BK146 BK192; have HO_125000 := n0_; have HO_125001 := n1_; have HO_147000 := n2_; have HO_147001 := n3_; have HO187 := n4_; have HO190 := n5_; have BK146 := n6_; have BK192 := n7_; clear n0_ n1_ n2_ n3_ n4_ n5_ n6_ n7_; (try clear hb); (try clear hb2); (try clear hk); (try clear hi)))
          go_meet
          case rel => exact ⟨_, ((t191 != t123)), (by first | rfl | (simp; done) | (simp [*]; done)), H', ⟨by have := HJ23.out; have := HJ112.out; first | omega | exact Nat.le_refl _⟩, ⟨pR (Kd.R_mono HO_147000.out (fun _ hk => hk.2.2.2.2))⟩, ⟨pR (Kd.R_mono HO_147001.out (fun _ hk => hk.2.2.2.2))⟩, ⟨by refine bk ?_; exact BK146.out⟩, ⟨pT HB.out⟩⟩
         replace c191 := Bool.eq_false_iff.mpr c191
         subst c191
         have H1 : (laws_FnExactAddTallies.j2 kj112 t169 true t170 t171) = some r := by rw [if_neg (show ¬ (false = true) by decide)] at H; exact H
         clear H
         have H := H1
         clear H1
         have H' := Aside0.mk H
         clear H
         have hnb198 := NB192_124.out
         have hnc198 := NB124_192.out
         have hnb199 := NB192_146.out
         have hnc199 := NB146_192.out
         obtain ⟨hcz200_0, hcz200_1, hfz200_0, hfz200_1⟩ := bc2 BK192.out
         have hnb201 := NB124_146.out
         have hnc201 := NB146_124.out
         obtain ⟨hcz202_0, hcz202_1, hfz202_0, hfz202_1⟩ := bc2 BK124.out
         replace HO_125000 := aK (Kd.R_mono HO_125000.out (fun k_ hk_ => (⟨hk_.2.2.2.2.1, ⟨hk_.2.2.2.2.2.1, ⟨hk_.2.2.2.2.2.2.1, ⟨hk_.2.2.2.2.2.2.2.1, hk_.2.2.2.2.2.2.2.2⟩⟩⟩⟩ : (some k_ ≠ (.slice Ao186 t185.length co186 : Value).ownBlock ∧ (some k_ ≠ (.slice Ao188 t188.length co188 : Value).ownBlock ∧ (some k_ ≠ (.slice Ao44 t120.length co44 : Value).ownBlock ∧ (some k_ ≠ (.slice Ao70 t139.length co70 : Value).ownBlock ∧ some k_ ≠ (.slice Ao77 t142.length co77 : Value).ownBlock)))))))
         replace HO_125001 := aK (Kd.R_mono HO_125001.out (fun k_ hk_ => (⟨hk_.2.2.2.2.1, ⟨hk_.2.2.2.2.2.1, ⟨hk_.2.2.2.2.2.2.1, ⟨hk_.2.2.2.2.2.2.2.1, hk_.2.2.2.2.2.2.2.2⟩⟩⟩⟩ : (some k_ ≠ (.slice Ao186 t185.length co186 : Value).ownBlock ∧ (some k_ ≠ (.slice Ao188 t188.length co188 : Value).ownBlock ∧ (some k_ ≠ (.slice Ao42 t117.length co42 : Value).ownBlock ∧ (some k_ ≠ (.slice Ao70 t139.length co70 : Value).ownBlock ∧ some k_ ≠ (.slice Ao77 t142.length co77 : Value).ownBlock)))))))
         replace HO_147000 := aK (Kd.R_mono HO_147000.out (fun k_ hk_ => (⟨hk_.2.2.2.2.1, ⟨hk_.2.2.2.2.2.1, ⟨hk_.2.2.2.2.2.2.1, ⟨hk_.2.2.2.2.2.2.2.1, hk_.2.2.2.2.2.2.2.2⟩⟩⟩⟩ : (some k_ ≠ (.slice Ao186 t185.length co186 : Value).ownBlock ∧ (some k_ ≠ (.slice Ao188 t188.length co188 : Value).ownBlock ∧ (some k_ ≠ (.slice Ao42 t117.length co42 : Value).ownBlock ∧ (some k_ ≠ (.slice Ao44 t120.length co44 : Value).ownBlock ∧ some k_ ≠ (.slice Ao77 t142.length co77 : Value).ownBlock)))))))
         replace HO_147001 := aK (Kd.R_mono HO_147001.out (fun k_ hk_ => (⟨hk_.2.2.2.2.1, ⟨hk_.2.2.2.2.2.1, ⟨hk_.2.2.2.2.2.2.1, ⟨hk_.2.2.2.2.2.2.2.1, hk_.2.2.2.2.2.2.2.2⟩⟩⟩⟩ : (some k_ ≠ (.slice Ao186 t185.length co186 : Value).ownBlock ∧ (some k_ ≠ (.slice Ao188 t188.length co188 : Value).ownBlock ∧ (some k_ ≠ (.slice Ao42 t117.length co42 : Value).ownBlock ∧ (some k_ ≠ (.slice Ao44 t120.length co44 : Value).ownBlock ∧ some k_ ≠ (.slice Ao70 t139.length co70 : Value).ownBlock)))))))
         replace HO187 := aK (Kd.R_mono HO187.out (fun k_ hk_ => (⟨hk_.2.2.2.2.1, ⟨hk_.2.2.2.2.2.1, ⟨hk_.2.2.2.2.2.2.1, ⟨hk_.2.2.2.2.2.2.2.1, hk_.2.2.2.2.2.2.2.2⟩⟩⟩⟩ : (some k_ ≠ (.slice Ao188 t188.length co188 : Value).ownBlock ∧ (some k_ ≠ (.slice Ao42 t117.length co42 : Value).ownBlock ∧ (some k_ ≠ (.slice Ao44 t120.length co44 : Value).ownBlock ∧ (some k_ ≠ (.slice Ao70 t139.length co70 : Value).ownBlock ∧ some k_ ≠ (.slice Ao77 t142.length co77 : Value).ownBlock)))))))
         replace HO190 := aK (Kd.R_mono HO190.out (fun k_ hk_ => (⟨hk_.2.2.2.2.1, ⟨hk_.2.2.2.2.2.1, ⟨hk_.2.2.2.2.2.2.1, ⟨hk_.2.2.2.2.2.2.2.1, hk_.2.2.2.2.2.2.2.2⟩⟩⟩⟩ : (some k_ ≠ (.slice Ao186 t185.length co186 : Value).ownBlock ∧ (some k_ ≠ (.slice Ao42 t117.length co42 : Value).ownBlock ∧ (some k_ ≠ (.slice Ao44 t120.length co44 : Value).ownBlock ∧ (some k_ ≠ (.slice Ao70 t139.length co70 : Value).ownBlock ∧ some k_ ≠ (.slice Ao77 t142.length co77 : Value).ownBlock)))))))
         try go_wp2_with (first | ((with_reducible refine gate_callee (f := 46) rfl ?_); refine gl (some 104) Try.func46 #[.agg #[.slice Ao186 t185.length co186, .slice Ao188 t188.length co188], .agg #[.slice Ao42 t117.length co42, .slice Ao44 t120.length co44]] ?_; (with_reducible refine (laws_eqTally.calls kj112 _ _ t185 _ _ t188 _ _ t117 _ _ t120 false _ ?side1 ?side2 ?side3 ?side4 ?side5 ?side6 ?side7 ?side8 A190.out).mono ?_); (case side1 => exact rC (pR (rF2 HO187.out BK192.out (.slice Ao186 t185.length co186) (.slice Ao188 t188.length co188)))); (case side2 => exact (Kd.R_reads' HO187.out).2.1); (case side3 => exact rC (pR (rF2 HO190.out BK192.out (.slice Ao186 t185.length co186) (.slice Ao188 t188.length co188)))); (case side4 => exact (Kd.R_reads' HO190.out).2.1); (case side5 => exact rC (pR (rF2 HO_125000.out BK192.out (.slice Ao186 t185.length co186) (.slice Ao188 t188.length co188)))); (case side6 => exact (Kd.R_reads' HO_125000.out).2.1); (case side7 => exact rC (pR (rF2 HO_125001.out BK192.out (.slice Ao186 t185.length co186) (.slice Ao188 t188.length co188)))); (case side8 => exact (Kd.R_reads' HO_125001.out).2.1); rintro e w203 ⟨rfl, hb⟩; refine ⟨_, rfl, ?_⟩; have n0_ := aK (Kd.R_below (pR (rF2 HO_125000.out BK192.out (.slice Ao186 t185.length co186) (.slice Ao188 t188.length co188))) hb); have n1_ := aK (Kd.R_below (pR (rF2 HO_125001.out BK192.out (.slice Ao186 t185.length co186) (.slice Ao188 t188.length co188))) hb); have n2_ := aK (Kd.R_below (pR (rF2 HO_147000.out BK192.out (.slice Ao186 t185.length co186) (.slice Ao188 t188.length co188))) hb); have n3_ := aK (Kd.R_below (pR (rF2 HO_147001.out BK192.out (.slice Ao186 t185.length co186) (.slice Ao188 t188.length co188))) hb); have n4_ := aK (Kd.R_below (pR (rF2 HO187.out BK192.out (.slice Ao186 t185.length co186) (.slice Ao188 t188.length co188))) hb); have n5_ := aK (Kd.R_below (pR (rF2 HO190.out BK192.out (.slice Ao186 t185.length co186) (.slice Ao188 t188.length co188))) hb); have n6_ := aK (blk_below (g := gb146) (o := .cells #[.slice Ao70 t139.length co70, .slice Ao77 t142.length co77] 44 (0, 0)) (by refine bk ?_; refine blk_far ?_ NB146_192.out _; refine bk ?_; refine blk_far ?_ NB146_192.out _; refine bk ?_; exact BK146.out) hb); have n7_ := aK (blk_below (g := gb192) (o := .cells #[.slice Ao186 t185.length co186, .slice Ao188 t188.length co188] 44 (0, 0)) (by refine bk ?_; refine blk_put (cs := #[.slice Ao186 t185.length co186, .slice none 0 0]) ?_ 1 _ rfl; refine bk ?_; refine blk_put (cs := #[.slice none 0 0, .slice none 0 0]) ?_ 0 _ rfl; refine bk ?_; exact BK192.out) hb); replace HB := bS HB hb; clear HO_125000 HO_125001 HO_147000 HO_147001 HO187 HO190 BK146 BK192; have HO_125000 := n0_; have HO_125001 := n1_; have HO_147000 := n2_; have HO_147001 := n3_; have HO187 := n4_; have HO190 := n5_; have BK146 := n6_; have BK192 := n7_; clear n0_ n1_ n2_ n3_ n4_ n5_ n6_ n7_; (try clear hb); (try clear hb2); (try clear hk); (try clear hi)))
         go_meet
         case rel => exact ⟨_, (true), (by first | rfl | (simp; done) | (simp [*]; done)), H', ⟨by have := HJ23.out; have := HJ112.out; first | omega | exact Nat.le_refl _⟩, ⟨pR (Kd.R_mono HO_147000.out (fun _ hk => hk.2.2.2.2))⟩, ⟨pR (Kd.R_mono HO_147001.out (fun _ hk => hk.2.2.2.2))⟩, ⟨by refine bk ?_; exact BK146.out⟩, ⟨pT HB.out⟩⟩
        case rest => as_aux_lemma =>
         clear HC168
         try clear c1
         try clear c2
         try clear p2
         try clear c4
         try clear c19
         try clear c20
         try clear c44
         try clear c45
         try clear c46
         try clear c191
         try clear c192
         try clear c193
         try clear c195
         try clear c198
         try clear c199
         try clear c201
         try clear hcz194_0
         try clear hcz194_1
         try clear hcz196_0
         try clear hcz196_1
         try clear hcz200_0
         try clear hcz200_1
         try clear hcz202_0
         try clear hcz202_1
         try clear hfz194_0
         try clear hfz194_1
         try clear hfz196_0
         try clear hfz196_1
         try clear hfz200_0
         try clear hfz200_1
         try clear hfz202_0
         try clear hfz202_1
         obtain ⟨kq, x110_167, rfl, HA, HJ167, HO_147000, HO_147001, BK146, HB⟩ := hcut
         have hl147000_167 := (Kd.R_reads' HO_147000.out).1
         rw [hl147000_167] at HO_147000
         (try simp only [hl147000_167])
         (try simp only [hl147000_167] at BK146)
         (try simp only [hl147000_167] at HO_147001)
         have hl147001_167 := (Kd.R_reads' HO_147001.out).1
         rw [hl147001_167] at HO_147001
         (try simp only [hl147001_167])
         (try simp only [hl147001_167] at BK146)
         (try simp only [hl147001_167] at HO_147000)
         cases kq with
         | zero => exact absurd HA.out (by simp [laws_FnExactAddTallies.j2])
         | succ kj167 =>
          have H := HA.out
          clear HA
          simp only [laws_FnExactAddTallies.j2] at H
          by_cases c204 : x110_167 = true
          ·
           subst c204
           have H1 : (some false) = some r := by rw [if_pos rfl] at H; exact H
           clear H
           have H := H1
           clear H1
           obtain rfl := Option.some.inj H
           go_wp2
           go_ret
           exact ⟨by first | rfl | (simp [errW_none, errW_some] <;> rfl) | (simp [*, errW_none, errW_some] <;> rfl), pT HB.out⟩
          replace c204 := Bool.eq_false_iff.mpr c204
          subst c204
          have H1 : ((laws_heldTally.f kj167 t170 t171 1).bind fun t194 => (if t194 < 0 then (some false) else (if t194 = t169 then (some true) else (some false)))) = some r := by rw [if_neg (show ¬ (false = true) by decide)] at H; exact H
          clear H
          have H := H1
          clear H1
          replace H := Option.bind_eq_some_iff.mp H
          obtain ⟨t194, A2050, H⟩ := H
          replace H : (if t194 < 0 then (some false) else (if t194 = t169 then (some true) else (some false))) = some r := H
          have A205 := Aside0.mk A2050
          clear A2050
          by_cases c206 : t194 < 0
          ·
           rw [if_pos c206] at H
           have c206b0 : decide (t194 < 0) = true := decide_eq_true c206
           clear c206
           obtain rfl := Option.some.inj H
           obtain ⟨hcz207_0, hcz207_1, hfz207_0, hfz207_1⟩ := bc2 BK146.out
           go_wp2_with (first | ((with_reducible refine gate_callee (f := 48) rfl ?_); refine gl (some 113) Try.func48 #[.agg #[.slice Ao70 t170.length co70, .slice Ao77 t171.length co77], .int .i64 1] ?_; (with_reducible refine (laws_heldTally.calls kj167 _ _ t170 _ _ t171 1 t194 _ ?side1 ?side2 ?side3 ?side4 A205.out).mono ?_); (case side1 => exact pC (Kd.R_reads' HO_147000.out).2.2); (case side2 => exact (Kd.R_reads' HO_147000.out).2.1); (case side3 => exact pC (Kd.R_reads' HO_147001.out).2.2); (case side4 => exact (Kd.R_reads' HO_147001.out).2.1); rintro e w208 ⟨rfl, hb⟩; refine ⟨_, rfl, ?_⟩; have n0_ := aK (Kd.R_below (pR HO_147000.out) hb); have n1_ := aK (Kd.R_below (pR HO_147001.out) hb); replace HB := bS HB hb; clear HO_147000 HO_147001; have HO_147000 := n0_; have HO_147001 := n1_; clear n0_ n1_; (try clear hb); (try clear hb2); (try clear hk); (try clear hi)))
           go_ret
           exact ⟨by first | rfl | (simp [errW_none, errW_some] <;> rfl) | (simp [*, errW_none, errW_some] <;> rfl), pT HB.out⟩
          rw [if_neg c206] at H
          have c206b0 : decide (t194 < 0) = false := decide_eq_false c206
          clear c206
          by_cases c209 : t194 = t169
          ·
           rw [if_pos c209] at H
           have c209b0 : (t194 == t169) = true := beq_iff_eq.mpr c209
           have c209b1 : (t194 != t169) = false := bne_eq_false_iff_eq.mpr c209
           clear c209
           obtain rfl := Option.some.inj H
           obtain ⟨hcz210_0, hcz210_1, hfz210_0, hfz210_1⟩ := bc2 BK146.out
           go_wp2_with (first | ((with_reducible refine gate_callee (f := 48) rfl ?_); refine gl (some 113) Try.func48 #[.agg #[.slice Ao70 t170.length co70, .slice Ao77 t171.length co77], .int .i64 1] ?_; (with_reducible refine (laws_heldTally.calls kj167 _ _ t170 _ _ t171 1 t194 _ ?side1 ?side2 ?side3 ?side4 A205.out).mono ?_); (case side1 => exact pC (Kd.R_reads' HO_147000.out).2.2); (case side2 => exact (Kd.R_reads' HO_147000.out).2.1); (case side3 => exact pC (Kd.R_reads' HO_147001.out).2.2); (case side4 => exact (Kd.R_reads' HO_147001.out).2.1); rintro e w211 ⟨rfl, hb⟩; refine ⟨_, rfl, ?_⟩; have n0_ := aK (Kd.R_below (pR HO_147000.out) hb); have n1_ := aK (Kd.R_below (pR HO_147001.out) hb); replace HB := bS HB hb; clear HO_147000 HO_147001; have HO_147000 := n0_; have HO_147001 := n1_; clear n0_ n1_; (try clear hb); (try clear hb2); (try clear hk); (try clear hi)))
           go_ret
           exact ⟨by first | rfl | (simp [errW_none, errW_some] <;> rfl) | (simp [*, errW_none, errW_some] <;> rfl), pT HB.out⟩
          rw [if_neg c209] at H
          have c209b0 : (t194 == t169) = false := beq_eq_false_iff_ne.mpr c209
          have c209b1 : (t194 != t169) = true := bne_iff_ne.mpr c209
          obtain rfl := Option.some.inj H
          obtain ⟨hcz212_0, hcz212_1, hfz212_0, hfz212_1⟩ := bc2 BK146.out
          go_wp2_with (first | ((with_reducible refine gate_callee (f := 48) rfl ?_); refine gl (some 113) Try.func48 #[.agg #[.slice Ao70 t170.length co70, .slice Ao77 t171.length co77], .int .i64 1] ?_; (with_reducible refine (laws_heldTally.calls kj167 _ _ t170 _ _ t171 1 t194 _ ?side1 ?side2 ?side3 ?side4 A205.out).mono ?_); (case side1 => exact pC (Kd.R_reads' HO_147000.out).2.2); (case side2 => exact (Kd.R_reads' HO_147000.out).2.1); (case side3 => exact pC (Kd.R_reads' HO_147001.out).2.2); (case side4 => exact (Kd.R_reads' HO_147001.out).2.1); rintro e w213 ⟨rfl, hb⟩; refine ⟨_, rfl, ?_⟩; have n0_ := aK (Kd.R_below (pR HO_147000.out) hb); have n1_ := aK (Kd.R_below (pR HO_147001.out) hb); replace HB := bS HB hb; clear HO_147000 HO_147001; have HO_147000 := n0_; have HO_147001 := n1_; clear n0_ n1_; (try clear hb); (try clear hb2); (try clear hk); (try clear hi)))
          go_ret
          exact ⟨by first | rfl | (simp [errW_none, errW_some] <;> rfl) | (simp [*, errW_none, errW_some] <;> rfl), pT HB.out⟩
       rw [if_neg c164] at H
       have c164b0 : (t172 == t169) = false := beq_eq_false_iff_ne.mpr c164
       have c164b1 : (t172 != t169) = true := bne_iff_ne.mpr c164
       obtain rfl := Option.some.inj H
       obtain ⟨hcz214_0, hcz214_1, hfz214_0, hfz214_1⟩ := bc2 BK146.out
       replace HO_147000 := aK (Kd.R_mono HO_147000.out (fun _ h => h.2.2))
       replace HO_147001 := aK (Kd.R_mono HO_147001.out (fun _ h => h.2.2))
       try go_wp2_with (first | ((with_reducible refine gate_callee (f := 47) rfl ?_); refine gl (some 85) Try.func47 #[.agg #[.slice Ao70 t139.length co70, .slice Ao77 t142.length co77], .int .i64 1] ?_; (with_reducible refine (laws_markTally.calls kj112 (fun k_ => some k_ = (.slice Ao70 t139.length co70 : Value).ownBlock) (.slice Ao70 t139.length co70) t139 (fun k_ => some k_ = (.slice Ao77 t142.length co77 : Value).ownBlock) (.slice Ao77 t142.length co77) t142 1 t169 t170 t171 w _ ?side1 ?side2 ?side3 ?side4 ?side5 A157.out).mono ?_); (case side1 => exact pT HB.out); (case side2 => exact Kd.R_tight rfl HO_147000.out); (case side3 => exact fun k_ e_ => (HO_147000.out.1 k_ e_.symm)); (case side4 => exact Kd.R_tight rfl HO_147001.out); (case side5 => exact fun k_ e_ => (HO_147001.out.1 k_ e_.symm)); rintro e w215 ⟨rfl, hy0, hy1, hb, hkp⟩; refine ⟨_, rfl, ?_⟩; have n0_ := aK (Kd.R_reok rfl hy0 (fun k_ e_ => HO_147000.out.1 k_ e_)); have n1_ := aK (Kd.R_reok rfl hy1 (fun k_ e_ => HO_147001.out.1 k_ e_)); have n2_ := aK (blk_kept (pB BK146.out) hkp (fun hs_ => Or.elim hs_ (fun e_ => (fun e_ => (Kd.R_ne HO_147000.out BK146.out (by decide)) e_) e_) (fun e_ => (fun e_ => (Kd.R_ne HO_147001.out BK146.out (by decide)) e_) e_))); have n3_ := aK (hb); clear HO_147000 HO_147001 BK146 HB; have HO_147000 := n0_; have HO_147001 := n1_; have BK146 := n2_; have HB := n3_; clear n0_ n1_ n2_ n3_; (try clear hb); (try clear hkp); (try clear hy0); (try clear hy1); obtain ⟨hcz216_0, hcz216_1, hfz216_0, hfz216_1⟩ := bc2 BK146.out) | ((with_reducible refine gate_callee (f := 48) rfl ?_); refine goesL_ (some 88) rfl rfl Try.func48 (by kernel_rfl) rfl #[.agg #[.slice Ao70 t170.length co70, .slice Ao77 t171.length co77], .int .i64 1] rfl (by (try simp only [List.map_toArray, List.map_cons, List.map_nil]); first | done | (rw [show t170.length = t139.length from (Kd.R_reads' HO_147000.out).1.symm, show t171.length = t142.length from (Kd.R_reads' HO_147001.out).1.symm] <;> rfl) | rfl | (simp only [List.length_drop, List.length_take]; rfl)) ?_; (with_reducible refine (laws_heldTally.calls kj112 _ _ t170 _ _ t171 1 t172 _ ?side1 ?side2 ?side3 ?side4 A158.out).mono ?_); (case side1 => exact pC (Kd.R_reads' HO_147000.out).2.2); (case side2 => rw [show t170.length = t139.length from (Kd.R_reads' HO_147000.out).1.symm]; exact (Kd.R_reads' HO_147000.out).2.1); (case side3 => exact pC (Kd.R_reads' HO_147001.out).2.2); (case side4 => rw [show t171.length = t142.length from (Kd.R_reads' HO_147001.out).1.symm]; exact (Kd.R_reads' HO_147001.out).2.1); rintro e w217 ⟨rfl, hb⟩; refine ⟨_, rfl, ?_⟩; have n0_ := aK (Kd.R_below (pR HO_147000.out) hb); have n1_ := aK (Kd.R_below (pR HO_147001.out) hb); replace HB := bS HB hb; clear HO_147000 HO_147001; have HO_147000 := n0_; have HO_147001 := n1_; clear n0_ n1_; (try clear hb); (try clear hb2); (try clear hk); (try clear hi)))
       go_ret
       exact ⟨by first | rfl | (simp [errW_none, errW_some] <;> rfl) | (simp [*, errW_none, errW_some] <;> rfl), pT HB.out⟩
    replace c110 := Bool.eq_false_iff.mpr c110
    subst c110
    have H1 : (some false) = some r := by rw [if_neg (show ¬ (false = true) by decide)] at H; exact H
    clear H
    have H := H1
    clear H1
    obtain rfl := Option.some.inj H
    replace HO_132000 := aK (Kd.R_mono HO_132000.out (fun _ h => And.intro h.2.2.1 (And.intro h.2.2.2.1 h.2.2.2.2.1)))
    replace HO_132001 := aK (Kd.R_mono HO_132001.out (fun _ h => And.intro h.2.2.1 (And.intro h.2.2.2.1 h.2.2.2.2.1)))
    replace HO_139000 := aK (Kd.R_mono HO_139000.out (fun _ h => And.intro h.2.2.1 (And.intro h.2.2.2.1 h.2.2.2.2.1)))
    replace HO_139001 := aK (Kd.R_mono HO_139001.out (fun _ h => And.intro h.2.2.1 (And.intro h.2.2.2.1 h.2.2.2.2.1)))
    try go_wp2
    have n0_ := aK (Kd.R_drew HO_132000.out)
    have n1_ := aK (Kd.R_drew HO_132001.out)
    have n2_ := aK (Kd.R_drew HO_139000.out)
    have n3_ := aK (Kd.R_drew HO_139001.out)
    have n4_ := aK (blk_drew BK101.out)
    have n5_ := aK (blk_drew BK102.out)
    have n6_ := aK (blk_drew BK131.out)
    have n7_ := aK (blk_drew BK138.out)
    have n8_ := aK (below_drew1 HB.out)
    clear HO_132000 HO_132001 HO_139000 HO_139001 BK101 BK102 BK131 BK138 HB
    have HO_132000 := n0_
    have HO_132001 := n1_
    have HO_139000 := n2_
    have HO_139001 := n3_
    have BK101 := n4_
    have BK102 := n5_
    have BK131 := n6_
    have BK138 := n7_
    have HB := n8_
    clear n0_ n1_ n2_ n3_ n4_ n5_ n6_ n7_ n8_
    refine start_ (n := 5) (S := fun w' => w'.cell? ⟨gb131, 0, none⟩ = some (.slice Ao50 t125.length co50) ∧ w'.cell? ⟨gb131, 1, none⟩ = some (.slice Ao55 t128.length co55) ∧ w'.cell? ⟨gb101, 0, none⟩ = some (.slice A0_0 l0_0.length c0_0) ∧ w'.cell? ⟨gb101, 1, none⟩ = some (.slice A0_1 l0_1.length c0_1)) (ds := []) #[false, false, false, false, false] (by kernel_rfl) rfl rfl (cj2 BK131.out (cz2 BK101.out)) (fun hHeld => ?_)
    generalize wc.drew = w218 at HO_132000 HO_132001 HO_139000 HO_139001 BK101 BK102 BK131 BK138 HB hHeld ⊢
    refine take_ (i := 0) (N := some 54) (v := ?_) (a' := ?_) #[true, false, false, false, false] rfl rfl (by kernel_rfl) (fun _ _ _ h => h) (Or.inl ⟨by rfl, ?_⟩) hHeld ?_ ?_
    rotate_left
    ·
     rintro w' ⟨s0, s1, s2, s3⟩
     go_simp
     with_reducible rfl
    rotate_left
    ·
     simp only [sP]
     rfl
    refine take_ (i := 1) (N := some 55) (v := ?_) (a' := ?_) #[true, true, false, false, false] rfl rfl (by kernel_rfl) (fun _ _ _ h => h) (Or.inl ⟨by rfl, ?_⟩) hHeld ?_ ?_
    rotate_left
    ·
     rintro w' ⟨s0, s1, s2, s3⟩
     go_simp
     with_reducible rfl
    rotate_left
    ·
     simp only [sP]
     rfl
    refine one_ (i := 2) (N := some 56) #[true, true, true, false, false] rfl rfl (by kernel_rfl) (by decide) (fun K hK => ?_)
    refine goes_ Try.func44 (by kernel_rfl) rfl #[.agg #[.slice A0_0 l0_0.length c0_0, .slice A0_1 l0_1.length c0_1]] (by rfl) rfl rfl (by (try simp only [List.map_toArray, List.map_cons, List.map_nil]); first | done | rfl | (simp only [List.length_drop, List.length_take]; rfl)) ?_
    with_reducible refine (laws_toTally.calls kj23 _ _ l0_0 _ _ l0_1 t148 t151 _ ?side1 ?side2 ?side3 ?side4 A105.out).mono ?_
    (case side1 => exact pC (Kd.C_below HR0_0.out HB.out))
    (case side2 => exact HC0_0.out)
    (case side3 => exact pC (Kd.C_below HR0_1.out HB.out))
    (case side4 => exact HC0_1.out)
    rintro e w219 ⟨v149, v152, rfl, ho0, ho1, hb⟩
    refine ⟨_, rfl, ?_⟩
    have n0_ := aK (rO2 (pR HO_132000.out) hb ho0 ho1)
    have n1_ := aK (rO2 (pR HO_132001.out) hb ho0 ho1)
    have n2_ := aK (rO2 (pR HO_139000.out) hb ho0 ho1)
    have n3_ := aK (rO2 (pR HO_139001.out) hb ho0 ho1)
    have HO150 := aK (Kd.R_lower (nw4 ho0 (pR HO_132000.out) (pR HO_132001.out) (pR HO_139000.out) (pR HO_139001.out)) (below_size (pS HB.out)))
    have HO153 := aK (Kd.R_lower (nw4 ho1 (pR HO_132000.out) (pR HO_132001.out) (pR HO_139000.out) (pR HO_139001.out)) (below_size (pS HB.out)))
    replace BK101 := bB BK101 hb
    replace BK102 := bB BK102 hb
    replace BK131 := bB BK131 hb
    replace BK138 := bB BK138 hb
    replace HB := bS HB hb
    clear HO_132000 HO_132001 HO_139000 HO_139001
    have HO_132000 := n0_
    have HO_132001 := n1_
    have HO_139000 := n2_
    have HO_139001 := n3_
    clear n0_ n1_ n2_ n3_
    (try clear hb)
    (try clear hb2)
    (try clear hk)
    (try clear hi)
    (try clear ho0)
    (try clear ho1)
    obtain ⟨Ao220, co220, eo220⟩ := Kd.R_slice HO150.out
    (first | subst eo220 | (obtain ⟨f4_, f5_⟩ := sI eo220; subst f4_; subst f5_))
    obtain ⟨Ao221, co221, eo221⟩ := Kd.R_slice HO153.out
    (first | subst eo221 | (obtain ⟨f4_, f5_⟩ := sI eo221; subst f4_; subst f5_))
    refine hK.out _ _ (cj2 BK131.out (cz2 BK101.out)) (fun hHeld => ?_)
    clear hK K
    refine norm_ (a' := ?_) ?_ ?_
    rotate_left
    ·
     show Act.put _ (some 56) _ = _
     simp only [sP]
     rfl
    refine one_ (i := 3) (N := some 57) #[true, true, true, true, false] rfl rfl (by kernel_rfl) (by decide) (fun K hK => ?_)
    refine goes_ Try.func46 (by kernel_rfl) rfl #[.agg #[.slice Ao50 t125.length co50, .slice Ao55 t128.length co55], .agg #[.slice Ao220 t148.length co220, .slice Ao221 t151.length co221]] (by rfl) rfl rfl (by (try simp only [List.map_toArray, List.map_cons, List.map_nil]); first | done | rfl | (simp only [List.length_drop, List.length_take]; rfl)) ?_
    with_reducible refine (laws_eqTally.calls kj23 _ _ t125 _ _ t128 _ _ t148 _ _ t151 true _ ?side1 ?side2 ?side3 ?side4 ?side5 ?side6 ?side7 ?side8 A106.out).mono ?_
    (case side1 => exact pC (Kd.R_reads' HO_132000.out).2.2)
    (case side2 => exact (Kd.R_reads' HO_132000.out).2.1)
    (case side3 => exact pC (Kd.R_reads' HO_132001.out).2.2)
    (case side4 => exact (Kd.R_reads' HO_132001.out).2.1)
    (case side5 => exact pC (Kd.R_reads' HO150.out).2.2)
    (case side6 => exact (Kd.R_reads' HO150.out).2.1)
    (case side7 => exact pC (Kd.R_reads' HO153.out).2.2)
    (case side8 => exact (Kd.R_reads' HO153.out).2.1)
    rintro e w222 ⟨rfl, hb⟩
    refine ⟨_, rfl, ?_⟩
    have n0_ := aK (Kd.R_below (pR HO_132000.out) hb)
    have n1_ := aK (Kd.R_below (pR HO_132001.out) hb)
    have n2_ := aK (Kd.R_below (pR HO_139000.out) hb)
    have n3_ := aK (Kd.R_below (pR HO_139001.out) hb)
    have n4_ := aK (Kd.R_below (pR HO150.out) hb)
    have n5_ := aK (Kd.R_below (pR HO153.out) hb)
    replace BK101 := bB BK101 hb
    replace BK102 := bB BK102 hb
    replace BK131 := bB BK131 hb
    replace BK138 := bB BK138 hb
    replace HB := bS HB hb
    clear HO_132000 HO_132001 HO_139000 HO_139001 HO150 HO153
    have HO_132000 := n0_
    have HO_132001 := n1_
    have HO_139000 := n2_
    have HO_139001 := n3_
    have HO150 := n4_
    have HO153 := n5_
    clear n0_ n1_ n2_ n3_ n4_ n5_
    (try clear hb)
    (try clear hb2)
    (try clear hk)
    (try clear hi)
    refine hK.out _ _ (cj2 BK131.out (cz2 BK101.out)) (fun hHeld => ?_)
    clear hK K
    refine norm_ (a' := ?_) ?_ ?_
    rotate_left
    ·
     show Act.put _ (some 57) _ = _
     simp only [sP]
     rfl
    refine pure_ (i := 4) (N := some 58) (v := ?_) (a' := ?_) #[true, true, true, true, true] rfl rfl (by kernel_rfl) (fun _ _ _ h => h) (Or.inl ⟨by rfl, ?_⟩) ?_ ?_
    rotate_left
    ·
     intro w'
     go_simp
     with_reducible rfl
    rotate_left
    ·
     simp only [sP]
     rfl
    refine done_ (by kernel_rfl) ?_
    replace HO_139000 := aK (Kd.R_mono HO_139000.out (fun _ h => h.1.1.2.2))
    replace HO_139001 := aK (Kd.R_mono HO_139001.out (fun _ h => h.1.1.2.2))
    try go_wp2
    have n0_ := aK (Kd.R_drew HO_139000.out)
    have n1_ := aK (Kd.R_drew HO_139001.out)
    have n2_ := aK (blk_drew BK102.out)
    have n3_ := aK (blk_drew BK138.out)
    have n4_ := aK (below_drew1 HB.out)
    clear HO_139000 HO_139001 BK102 BK138 HB
    have HO_139000 := n0_
    have HO_139001 := n1_
    have BK102 := n2_
    have BK138 := n3_
    have HB := n4_
    clear n0_ n1_ n2_ n3_ n4_
    refine start_ (n := 5) (S := fun w' => w'.cell? ⟨gb138, 0, none⟩ = some (.slice Ao60 t132.length co60) ∧ w'.cell? ⟨gb138, 1, none⟩ = some (.slice Ao66 t135.length co66) ∧ w'.cell? ⟨gb102, 0, none⟩ = some (.slice A1_0 l1_0.length c1_0) ∧ w'.cell? ⟨gb102, 1, none⟩ = some (.slice A1_1 l1_1.length c1_1)) (ds := []) #[false, false, false, false, false] (by kernel_rfl) rfl rfl (cj2 BK138.out (cz2 BK102.out)) (fun hHeld => ?_)
    generalize w222.drew = w223 at HO_139000 HO_139001 BK102 BK138 HB hHeld ⊢
    refine take_ (i := 0) (N := some 59) (v := ?_) (a' := ?_) #[true, false, false, false, false] rfl rfl (by kernel_rfl) (fun _ _ _ h => h) (Or.inl ⟨by rfl, ?_⟩) hHeld ?_ ?_
    rotate_left
    ·
     rintro w' ⟨s0, s1, s2, s3⟩
     go_simp
     with_reducible rfl
    rotate_left
    ·
     simp only [sP]
     rfl
    refine take_ (i := 1) (N := some 60) (v := ?_) (a' := ?_) #[true, true, false, false, false] rfl rfl (by kernel_rfl) (fun _ _ _ h => h) (Or.inl ⟨by rfl, ?_⟩) hHeld ?_ ?_
    rotate_left
    ·
     rintro w' ⟨s0, s1, s2, s3⟩
     go_simp
     with_reducible rfl
    rotate_left
    ·
     simp only [sP]
     rfl
    refine one_ (i := 2) (N := some 61) #[true, true, true, false, false] rfl rfl (by kernel_rfl) (by decide) (fun K hK => ?_)
    refine goes_ Try.func44 (by kernel_rfl) rfl #[.agg #[.slice A1_0 l1_0.length c1_0, .slice A1_1 l1_1.length c1_1]] (by rfl) rfl rfl (by (try simp only [List.map_toArray, List.map_cons, List.map_nil]); first | done | rfl | (simp only [List.length_drop, List.length_take]; rfl)) ?_
    with_reducible refine (laws_toTally.calls kj23 _ _ l1_0 _ _ l1_1 t155 t158 _ ?side1 ?side2 ?side3 ?side4 A108.out).mono ?_
    (case side1 => exact pC (Kd.C_below HR1_0.out HB.out))
    (case side2 => exact HC1_0.out)
    (case side3 => exact pC (Kd.C_below HR1_1.out HB.out))
    (case side4 => exact HC1_1.out)
    rintro e w224 ⟨v156, v159, rfl, ho0, ho1, hb⟩
    refine ⟨_, rfl, ?_⟩
    have n0_ := aK (rO2 (pR HO_139000.out) hb ho0 ho1)
    have n1_ := aK (rO2 (pR HO_139001.out) hb ho0 ho1)
    have HO157 := aK (Kd.R_lower (nw2 ho0 (pR HO_139000.out) (pR HO_139001.out)) (below_size (pS HB.out)))
    have HO160 := aK (Kd.R_lower (nw2 ho1 (pR HO_139000.out) (pR HO_139001.out)) (below_size (pS HB.out)))
    replace BK102 := bB BK102 hb
    replace BK138 := bB BK138 hb
    replace HB := bS HB hb
    clear HO_139000 HO_139001
    have HO_139000 := n0_
    have HO_139001 := n1_
    clear n0_ n1_
    (try clear hb)
    (try clear hb2)
    (try clear hk)
    (try clear hi)
    (try clear ho0)
    (try clear ho1)
    obtain ⟨Ao225, co225, eo225⟩ := Kd.R_slice HO157.out
    (first | subst eo225 | (obtain ⟨f4_, f5_⟩ := sI eo225; subst f4_; subst f5_))
    obtain ⟨Ao226, co226, eo226⟩ := Kd.R_slice HO160.out
    (first | subst eo226 | (obtain ⟨f4_, f5_⟩ := sI eo226; subst f4_; subst f5_))
    refine hK.out _ _ (cj2 BK138.out (cz2 BK102.out)) (fun hHeld => ?_)
    clear hK K
    refine norm_ (a' := ?_) ?_ ?_
    rotate_left
    ·
     show Act.put _ (some 61) _ = _
     simp only [sP]
     rfl
    refine one_ (i := 3) (N := some 62) #[true, true, true, true, false] rfl rfl (by kernel_rfl) (by decide) (fun K hK => ?_)
    refine goes_ Try.func46 (by kernel_rfl) rfl #[.agg #[.slice Ao60 t132.length co60, .slice Ao66 t135.length co66], .agg #[.slice Ao225 t155.length co225, .slice Ao226 t158.length co226]] (by rfl) rfl rfl (by (try simp only [List.map_toArray, List.map_cons, List.map_nil]); first | done | rfl | (simp only [List.length_drop, List.length_take]; rfl)) ?_
    with_reducible refine (laws_eqTally.calls kj23 _ _ t132 _ _ t135 _ _ t155 _ _ t158 false _ ?side1 ?side2 ?side3 ?side4 ?side5 ?side6 ?side7 ?side8 A109.out).mono ?_
    (case side1 => exact pC (Kd.R_reads' HO_139000.out).2.2)
    (case side2 => exact (Kd.R_reads' HO_139000.out).2.1)
    (case side3 => exact pC (Kd.R_reads' HO_139001.out).2.2)
    (case side4 => exact (Kd.R_reads' HO_139001.out).2.1)
    (case side5 => exact pC (Kd.R_reads' HO157.out).2.2)
    (case side6 => exact (Kd.R_reads' HO157.out).2.1)
    (case side7 => exact pC (Kd.R_reads' HO160.out).2.2)
    (case side8 => exact (Kd.R_reads' HO160.out).2.1)
    rintro e w227 ⟨rfl, hb⟩
    refine ⟨_, rfl, ?_⟩
    have n0_ := aK (Kd.R_below (pR HO_139000.out) hb)
    have n1_ := aK (Kd.R_below (pR HO_139001.out) hb)
    have n2_ := aK (Kd.R_below (pR HO157.out) hb)
    have n3_ := aK (Kd.R_below (pR HO160.out) hb)
    replace BK102 := bB BK102 hb
    replace BK138 := bB BK138 hb
    replace HB := bS HB hb
    clear HO_139000 HO_139001 HO157 HO160
    have HO_139000 := n0_
    have HO_139001 := n1_
    have HO157 := n2_
    have HO160 := n3_
    clear n0_ n1_ n2_ n3_
    (try clear hb)
    (try clear hb2)
    (try clear hk)
    (try clear hi)
    refine hK.out _ _ (cj2 BK138.out (cz2 BK102.out)) (fun hHeld => ?_)
    clear hK K
    refine norm_ (a' := ?_) ?_ ?_
    rotate_left
    ·
     show Act.put _ (some 62) _ = _
     simp only [sP]
     rfl
    refine pure_ (i := 4) (N := some 63) (v := ?_) (a' := ?_) #[true, true, true, true, true] rfl rfl (by kernel_rfl) (fun _ _ _ h => h) (Or.inl ⟨by rfl, ?_⟩) ?_ ?_
    rotate_left
    ·
     intro w'
     go_simp
     with_reducible rfl
    rotate_left
    ·
     simp only [sP]
     rfl
    refine done_ (by kernel_rfl) ?_
    try go_wp2
    go_ret
    exact ⟨by first | rfl | (simp [errW_none, errW_some] <;> rfl) | (simp [*, errW_none, errW_some] <;> rfl), pT HB.out⟩
   replace c107 := Bool.eq_false_iff.mpr c107
   subst c107
   have H1 : (some false) = some r := by rw [if_neg (show ¬ (false = true) by decide)] at H; exact H
   clear H
   have H := H1
   clear H1
   obtain rfl := Option.some.inj H
   replace HO_132000 := aK (Kd.R_mono HO_132000.out (fun _ h => h.2.2.1))
   replace HO_132001 := aK (Kd.R_mono HO_132001.out (fun _ h => h.2.2.1))
   try go_wp2
   have n0_ := aK (Kd.R_drew HO_132000.out)
   have n1_ := aK (Kd.R_drew HO_132001.out)
   have n2_ := aK (blk_drew BK101.out)
   have n3_ := aK (blk_drew BK131.out)
   have n4_ := aK (below_drew1 HB.out)
   clear HO_132000 HO_132001 BK101 BK131 HB
   have HO_132000 := n0_
   have HO_132001 := n1_
   have BK101 := n2_
   have BK131 := n3_
   have HB := n4_
   clear n0_ n1_ n2_ n3_ n4_
   refine start_ (n := 5) (S := fun w' => w'.cell? ⟨gb131, 0, none⟩ = some (.slice Ao50 t125.length co50) ∧ w'.cell? ⟨gb131, 1, none⟩ = some (.slice Ao55 t128.length co55) ∧ w'.cell? ⟨gb101, 0, none⟩ = some (.slice A0_0 l0_0.length c0_0) ∧ w'.cell? ⟨gb101, 1, none⟩ = some (.slice A0_1 l0_1.length c0_1)) (ds := []) #[false, false, false, false, false] (by kernel_rfl) rfl rfl (cj2 BK131.out (cz2 BK101.out)) (fun hHeld => ?_)
   generalize wc.drew = w228 at HO_132000 HO_132001 BK101 BK131 HB hHeld ⊢
   refine take_ (i := 0) (N := some 54) (v := ?_) (a' := ?_) #[true, false, false, false, false] rfl rfl (by kernel_rfl) (fun _ _ _ h => h) (Or.inl ⟨by rfl, ?_⟩) hHeld ?_ ?_
   rotate_left
   ·
    rintro w' ⟨s0, s1, s2, s3⟩
    go_simp
    with_reducible rfl
   rotate_left
   ·
    simp only [sP]
    rfl
   refine take_ (i := 1) (N := some 55) (v := ?_) (a' := ?_) #[true, true, false, false, false] rfl rfl (by kernel_rfl) (fun _ _ _ h => h) (Or.inl ⟨by rfl, ?_⟩) hHeld ?_ ?_
   rotate_left
   ·
    rintro w' ⟨s0, s1, s2, s3⟩
    go_simp
    with_reducible rfl
   rotate_left
   ·
    simp only [sP]
    rfl
   refine one_ (i := 2) (N := some 56) #[true, true, true, false, false] rfl rfl (by kernel_rfl) (by decide) (fun K hK => ?_)
   refine goes_ Try.func44 (by kernel_rfl) rfl #[.agg #[.slice A0_0 l0_0.length c0_0, .slice A0_1 l0_1.length c0_1]] (by rfl) rfl rfl (by (try simp only [List.map_toArray, List.map_cons, List.map_nil]); first | done | rfl | (simp only [List.length_drop, List.length_take]; rfl)) ?_
   with_reducible refine (laws_toTally.calls kj23 _ _ l0_0 _ _ l0_1 t148 t151 _ ?side1 ?side2 ?side3 ?side4 A105.out).mono ?_
   (case side1 => exact pC (Kd.C_below HR0_0.out HB.out))
   (case side2 => exact HC0_0.out)
   (case side3 => exact pC (Kd.C_below HR0_1.out HB.out))
   (case side4 => exact HC0_1.out)
   rintro e w229 ⟨v149, v152, rfl, ho0, ho1, hb⟩
   refine ⟨_, rfl, ?_⟩
   have n0_ := aK (rO2 (pR HO_132000.out) hb ho0 ho1)
   have n1_ := aK (rO2 (pR HO_132001.out) hb ho0 ho1)
   have HO150 := aK (Kd.R_lower (nw2 ho0 (pR HO_132000.out) (pR HO_132001.out)) (below_size (pS HB.out)))
   have HO153 := aK (Kd.R_lower (nw2 ho1 (pR HO_132000.out) (pR HO_132001.out)) (below_size (pS HB.out)))
   replace BK101 := bB BK101 hb
   replace BK131 := bB BK131 hb
   replace HB := bS HB hb
   clear HO_132000 HO_132001
   have HO_132000 := n0_
   have HO_132001 := n1_
   clear n0_ n1_
   (try clear hb)
   (try clear hb2)
   (try clear hk)
   (try clear hi)
   (try clear ho0)
   (try clear ho1)
   obtain ⟨Ao230, co230, eo230⟩ := Kd.R_slice HO150.out
   (first | subst eo230 | (obtain ⟨f4_, f5_⟩ := sI eo230; subst f4_; subst f5_))
   obtain ⟨Ao231, co231, eo231⟩ := Kd.R_slice HO153.out
   (first | subst eo231 | (obtain ⟨f4_, f5_⟩ := sI eo231; subst f4_; subst f5_))
   refine hK.out _ _ (cj2 BK131.out (cz2 BK101.out)) (fun hHeld => ?_)
   clear hK K
   refine norm_ (a' := ?_) ?_ ?_
   rotate_left
   ·
    show Act.put _ (some 56) _ = _
    simp only [sP]
    rfl
   refine one_ (i := 3) (N := some 57) #[true, true, true, true, false] rfl rfl (by kernel_rfl) (by decide) (fun K hK => ?_)
   refine goes_ Try.func46 (by kernel_rfl) rfl #[.agg #[.slice Ao50 t125.length co50, .slice Ao55 t128.length co55], .agg #[.slice Ao230 t148.length co230, .slice Ao231 t151.length co231]] (by rfl) rfl rfl (by (try simp only [List.map_toArray, List.map_cons, List.map_nil]); first | done | rfl | (simp only [List.length_drop, List.length_take]; rfl)) ?_
   with_reducible refine (laws_eqTally.calls kj23 _ _ t125 _ _ t128 _ _ t148 _ _ t151 false _ ?side1 ?side2 ?side3 ?side4 ?side5 ?side6 ?side7 ?side8 A106.out).mono ?_
   (case side1 => exact pC (Kd.R_reads' HO_132000.out).2.2)
   (case side2 => exact (Kd.R_reads' HO_132000.out).2.1)
   (case side3 => exact pC (Kd.R_reads' HO_132001.out).2.2)
   (case side4 => exact (Kd.R_reads' HO_132001.out).2.1)
   (case side5 => exact pC (Kd.R_reads' HO150.out).2.2)
   (case side6 => exact (Kd.R_reads' HO150.out).2.1)
   (case side7 => exact pC (Kd.R_reads' HO153.out).2.2)
   (case side8 => exact (Kd.R_reads' HO153.out).2.1)
   rintro e w232 ⟨rfl, hb⟩
   refine ⟨_, rfl, ?_⟩
   have n0_ := aK (Kd.R_below (pR HO_132000.out) hb)
   have n1_ := aK (Kd.R_below (pR HO_132001.out) hb)
   have n2_ := aK (Kd.R_below (pR HO150.out) hb)
   have n3_ := aK (Kd.R_below (pR HO153.out) hb)
   replace BK101 := bB BK101 hb
   replace BK131 := bB BK131 hb
   replace HB := bS HB hb
   clear HO_132000 HO_132001 HO150 HO153
   have HO_132000 := n0_
   have HO_132001 := n1_
   have HO150 := n2_
   have HO153 := n3_
   clear n0_ n1_ n2_ n3_
   (try clear hb)
   (try clear hb2)
   (try clear hk)
   (try clear hi)
   refine hK.out _ _ (cj2 BK131.out (cz2 BK101.out)) (fun hHeld => ?_)
   clear hK K
   refine norm_ (a' := ?_) ?_ ?_
   rotate_left
   ·
    show Act.put _ (some 57) _ = _
    simp only [sP]
    rfl
   refine pure_ (i := 4) (N := some 58) (v := ?_) (a' := ?_) #[true, true, true, true, true] rfl rfl (by kernel_rfl) (fun _ _ _ h => h) (Or.inl ⟨by rfl, ?_⟩) ?_ ?_
   rotate_left
   ·
    intro w'
    go_simp
    with_reducible rfl
   rotate_left
   ·
    simp only [sP]
    rfl
   refine done_ (by kernel_rfl) ?_
   try go_wp2
   go_ret
   exact ⟨by first | rfl | (simp [errW_none, errW_some] <;> rfl) | (simp [*, errW_none, errW_some] <;> rfl), pT HB.out⟩
def laws_FnExactAddTallies.Pure : Prop := ∀ (l0_0 : List Int) (l0_1 : List Int) (l1_0 : List Int) (l1_1 : List Int), (l0_0.length ≤ 9223372036854775807 ∧ ∀ z0 ∈ l0_0, (Lit.int .i64 z0).wf = true) → (l0_1.length ≤ 9223372036854775807 ∧ ∀ z0 ∈ l0_1, (Lit.int .i64 z0).wf = true) → (l1_0.length ≤ 9223372036854775807 ∧ ∀ z0 ∈ l1_0, (Lit.int .i64 z0).wf = true) → (l1_1.length ≤ 9223372036854775807 ∧ ∀ z0 ∈ l1_1, (Lit.int .i64 z0).wf = true) → ∃ k, laws_FnExactAddTallies.f k l0_0 l0_1 l1_0 l1_1 = some true
end Go.Proofs.Ythekngnkajjhnaa.P
