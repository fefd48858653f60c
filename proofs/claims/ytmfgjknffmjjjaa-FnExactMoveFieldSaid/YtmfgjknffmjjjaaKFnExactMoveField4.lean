/- Texts of the claim FnExactMoveField, merged: part 4 of 6: the program's and the reference's functions as Lean functions, the walks that show it, and plain lemmas; no conditions. -/
import Derived.Test.YtmfgjknffmjjjaaKFnExactMoveField1
import Derived.Test.YtmfgjknffmjjjaaKFnExactMoveField2
import Derived.Test.YtmfgjknffmjjjaaKFnExactMoveField3
namespace Go.Proofs.Ytmfgjknffmjjjaa.P
open Go.RowKit Go.Proofs.YtmfgjknffmjjjaaW.PrintWords Go.Proofs.YtmfgjknffmjjjaaW.PrintLast Go.Proofs.YtmfgjknffmjjjaaW.PrintMore
attribute [local go_sem] max2_int min2_int max_two min_two max_three min_three max_four min_four   -- for this text's walks alone
set_option linter.unusedVariables false
set_option linter.unusedSimpArgs false

/-! ### laws_FnExactMoveField: function 6 -/
mutual
def laws_FnExactMoveField.j0 : Nat → Bool → Bool → Bool → Int → Int → List Int → Int → Int → Int → Int → List Int → Int → Int → List Int → Int → Int → List Int → Option (Bool)
 | 0, _, _, _, _, _, _, _, _, _, _, _, _, _, _, _, _, _ => none
 | k + 1, x7, x10, x46, x102000, x102001, x102002, x103000, x103001, x118000, x118001, x118002, x124000, x124001, x124002, x133000, x133001, x133002 => if x46 = true then (some false) else ((laws_toField.f k x102000 x102001 x102002).bind fun bt134 => ((laws_eqField.f k x124000 x124001 x124002 bt134.1 bt134.2.1 bt134.2.2).bind fun t139 => (if t139 = true then ((laws_markField.f k x124000 x124001 x124002 1).bind fun bt140 => (if bt140.1 < 0 then (laws_FnExactMoveField.j1 k x7 true x102000 x102001 x102002 x103000 x103001 x118000 x118001 x118002 x133000 x133001 x133002) else ((laws_eqField.f k x133000 x133001 x133002 x118000 x118001 x118002).bind fun t142 => (if t142 = true then (laws_FnExactMoveField.j1 k x7 (x10 != x7) x102000 x102001 x102002 x103000 x103001 x118000 x118001 x118002 x133000 x133001 x133002) else (laws_FnExactMoveField.j1 k x7 true x102000 x102001 x102002 x103000 x103001 x118000 x118001 x118002 x133000 x133001 x133002))))) else (some false))))
def laws_FnExactMoveField.j1 : Nat → Bool → Bool → Int → Int → List Int → Int → Int → Int → Int → List Int → Int → Int → List Int → Option (Bool)
 | 0, _, _, _, _, _, _, _, _, _, _, _, _, _ => none
 | k + 1, x7, x67, x102000, x102001, x102002, x103000, x103001, x118000, x118001, x118002, x133000, x133001, x133002 => if x67 = true then (some false) else ((laws_markField.f k x133000 x133001 x133002 1).bind fun bt143 => ((laws_heldField.f k x133000 x133001 bt143.2 1).bind fun t145 => (if t145 < 0 then (some false) else (if t145 = bt143.1 then ((laws_toField.f k x102000 x102001 x102002).bind fun bt146 => ((laws_toMotion.f x103000 x103001).bind fun bt151 => ((impl_MoveField.f k bt146.1 bt146.2.1 bt146.2.2 bt151.1 bt151.2).bind fun bt153 => ((laws_eqField.f k bt153.1 bt153.2.1 bt153.2.2.1 x118000 x118001 x118002).bind fun t160 => (if t160 = true then (laws_FnExactMoveField.j2 k bt143.1 (bt153.2.2.2 != x7) x133000 x133001 bt143.2) else (laws_FnExactMoveField.j2 k bt143.1 true x133000 x133001 bt143.2)))))) else (some false)))))
def laws_FnExactMoveField.j2 : Nat → Int → Bool → Int → Int → List Int → Option (Bool)
 | 0, _, _, _, _, _ => none
 | k + 1, x12, x95, x133000, x133001, x133002 => if x95 = true then (some false) else ((laws_heldField.f k x133000 x133001 x133002 1).bind fun t161 => (if t161 < 0 then (some false) else (if t161 = x12 then (some true) else (some false))))
end
def laws_FnExactMoveField.f (k : Nat) (a0_0 : Int) (a0_1 : Int) (l0_2 : List Int) (a1_0 : Int) (a1_1 : Int) : Option (Bool) := (laws_szField.f a0_0 a0_1 l0_2 1048576).bind fun t103 => (if t103 < 0 then (some true) else ((laws_toField.f k a0_0 a0_1 l0_2).bind fun bt104 => ((laws_toMotion.f a1_0 a1_1).bind fun bt109 => ((spec_MoveField.f k bt104.1 bt104.2.1 bt104.2.2 bt109.1 bt109.2).bind fun bt111 => ((laws_toField.f k a0_0 a0_1 l0_2).bind fun bt118 => ((laws_toMotion.f a1_0 a1_1).bind fun bt124 => ((impl_MoveField.f k bt118.1 bt118.2.1 bt118.2.2 bt124.1 bt124.2).bind fun bt126 => ((laws_eqField.f k bt126.1 bt126.2.1 bt126.2.2.1 bt111.1 bt111.2.1 bt111.2.2.1).bind fun t133 => (if t133 = true then (laws_FnExactMoveField.j0 k bt111.2.2.2 bt126.2.2.2 (bt126.2.2.2 != bt111.2.2.2) a0_0 a0_1 l0_2 a1_0 a1_1 bt111.1 bt111.2.1 bt111.2.2.1 bt118.1 bt118.2.1 bt118.2.2 bt126.1 bt126.2.1 bt126.2.2.1) else (laws_FnExactMoveField.j0 k bt111.2.2.2 bt126.2.2.2 true a0_0 a0_1 l0_2 a1_0 a1_1 bt111.1 bt111.2.1 bt111.2.2.1 bt118.1 bt118.2.1 bt118.2.2 bt126.1 bt126.2.1 bt126.2.2.1))))))))))

def laws_FnExactMoveField.T5 : Bool × List (List Nat × List Nat) := (true, [([], []), ([0], [0]), ([], []), ([2, 1], [2]), ([1, 3, 3], [1, 3]), ([4], [4]), ([5], [5]), ([5], [5]), ([], []), ([8, 6, 4, 0, 1, 2, 3, 4, 5, 6, 8], [6, 8]), ([7, 9, 0, 1, 2, 3, 4, 5, 6, 7, 8, 9], [7])])
def laws_FnExactMoveField.B5 : List Nat := [0, 1, 0, 7, 15, 31, 63, 63, 0, 383, 1023]
theorem laws_FnExactMoveField.tab5 : rtab .any (opsOf Try.f6 5) = laws_FnExactMoveField.T5 := by kernel_rfl
theorem laws_FnExactMoveField.bits5 : waitsOk laws_FnExactMoveField.T5.2 laws_FnExactMoveField.B5 = true := by kernel_rfl
def laws_FnExactMoveField.T7 : Bool × List (List Nat × List Nat) := (true, [([], []), ([], []), ([1], [1]), ([0, 2, 2], [0, 2]), ([3], [3]), ([4], [4]), ([4], [4]), ([], []), ([7, 5, 3, 0, 1, 2, 3, 4, 5, 7], [5, 7]), ([6, 8, 0, 1, 2, 3, 4, 5, 6, 7, 8], [6])])
def laws_FnExactMoveField.B7 : List Nat := [0, 0, 2, 7, 15, 31, 31, 0, 191, 511]
theorem laws_FnExactMoveField.tab7 : rtab .any (opsOf Try.f6 7) = laws_FnExactMoveField.T7 := by kernel_rfl
theorem laws_FnExactMoveField.bits7 : waitsOk laws_FnExactMoveField.T7.2 laws_FnExactMoveField.B7 = true := by kernel_rfl
def laws_FnExactMoveField.T24 : Bool × List (List Nat × List Nat) := (true, [([], []), ([0], [0]), ([], []), ([2, 1], [2]), ([1, 3, 3], [1, 3]), ([4], [4]), ([5], [5]), ([5], [5]), ([], []), ([8, 6, 4, 0, 1, 2, 3, 4, 5, 6, 8], [6, 8]), ([7, 9, 0, 1, 2, 3, 4, 5, 6, 7, 8, 9], [7])])
def laws_FnExactMoveField.B24 : List Nat := [0, 1, 0, 7, 15, 31, 63, 63, 0, 383, 1023]
theorem laws_FnExactMoveField.tab24 : rtab .any (opsOf Try.f6 24) = laws_FnExactMoveField.T24 := by kernel_rfl
theorem laws_FnExactMoveField.bits24 : waitsOk laws_FnExactMoveField.T24.2 laws_FnExactMoveField.B24 = true := by kernel_rfl
set_option maxHeartbeats 8000000 in
set_option maxRecDepth 100000 in
theorem laws_FnExactMoveField.calls (k : Nat) (a0_0 : Int) (a0_1 : Int) (A0_2 : Option Addr) (c0_2 : Nat) (l0_2 : List Int) (a1_0 : Int) (a1_1 : Int) (r : Bool) (w : World) (hr0_2 : Kd.C (Kd.int .i64) w A0_2 l0_2.length l0_2) (hc0_2 : l0_2.length ≤ c0_2) (h : laws_FnExactMoveField.f k a0_0 a0_1 l0_2 a1_0 a1_1 = some r) :
  Calls Try.prog 6 #[.agg #[.int .i64 a0_0, .int .i64 a0_1, .slice A0_2 l0_2.length c0_2], .agg #[.int .i64 a1_0, .int .i64 a1_1]] w fun e w' => e = .returned (.bool r) ∧ Below w.heap.size w w' := by
 have hu38 := Try.underlying38
 have hu40 := Try.underlying40
 have hu42 := Try.underlying42
 have HR0_2 := Aside0.mk hr0_2
 have HC0_2 := Aside0.mk hc0_2
 clear hr0_2 hc0_2
 have HB := aK (Below.refl w.heap.size w)
 have H : ((laws_szField.f a0_0 a0_1 l0_2 1048576).bind fun t103 => (if t103 < 0 then (some true) else ((laws_toField.f k a0_0 a0_1 l0_2).bind fun bt104 => ((laws_toMotion.f a1_0 a1_1).bind fun bt109 => ((spec_MoveField.f k bt104.1 bt104.2.1 bt104.2.2 bt109.1 bt109.2).bind fun bt111 => ((laws_toField.f k a0_0 a0_1 l0_2).bind fun bt118 => ((laws_toMotion.f a1_0 a1_1).bind fun bt124 => ((impl_MoveField.f k bt118.1 bt118.2.1 bt118.2.2 bt124.1 bt124.2).bind fun bt126 => ((laws_eqField.f k bt126.1 bt126.2.1 bt126.2.2.1 bt111.1 bt111.2.1 bt111.2.2.1).bind fun t133 => (if t133 = true then (laws_FnExactMoveField.j0 k bt111.2.2.2 bt126.2.2.2 (bt126.2.2.2 != bt111.2.2.2) a0_0 a0_1 l0_2 a1_0 a1_1 bt111.1 bt111.2.1 bt111.2.2.1 bt118.1 bt118.2.1 bt118.2.2 bt126.1 bt126.2.1 bt126.2.2.1) else (laws_FnExactMoveField.j0 k bt111.2.2.2 bt126.2.2.2 true a0_0 a0_1 l0_2 a1_0 a1_1 bt111.1 bt111.2.1 bt111.2.2.1 bt118.1 bt118.2.1 bt118.2.2 bt126.1 bt126.2.1 bt126.2.2.1))))))))))) = some r := h
 clear h
 replace H := Option.bind_eq_some_iff.mp H
 obtain ⟨t103, A30, H⟩ := H
 replace H : (if t103 < 0 then (some true) else ((laws_toField.f k a0_0 a0_1 l0_2).bind fun bt104 => ((laws_toMotion.f a1_0 a1_1).bind fun bt109 => ((spec_MoveField.f k bt104.1 bt104.2.1 bt104.2.2 bt109.1 bt109.2).bind fun bt111 => ((laws_toField.f k a0_0 a0_1 l0_2).bind fun bt118 => ((laws_toMotion.f a1_0 a1_1).bind fun bt124 => ((impl_MoveField.f k bt118.1 bt118.2.1 bt118.2.2 bt124.1 bt124.2).bind fun bt126 => ((laws_eqField.f k bt126.1 bt126.2.1 bt126.2.2.1 bt111.1 bt111.2.1 bt111.2.2.1).bind fun t133 => (if t133 = true then (laws_FnExactMoveField.j0 k bt111.2.2.2 bt126.2.2.2 (bt126.2.2.2 != bt111.2.2.2) a0_0 a0_1 l0_2 a1_0 a1_1 bt111.1 bt111.2.1 bt111.2.2.1 bt118.1 bt118.2.1 bt118.2.2 bt126.1 bt126.2.1 bt126.2.2.1) else (laws_FnExactMoveField.j0 k bt111.2.2.2 bt126.2.2.2 true a0_0 a0_1 l0_2 a1_0 a1_1 bt111.1 bt111.2.1 bt111.2.2.1 bt118.1 bt118.2.1 bt118.2.2 bt126.1 bt126.2.1 bt126.2.2.1)))))))))) = some r := H
 have A3 := Aside0.mk A30
 clear A30
 by_cases c4 : t103 < 0
 ·
  rw [if_pos c4] at H
  have c4b0 : decide (t103 < 0) = true := decide_eq_true c4
  clear c4
  obtain rfl := Option.some.inj H
  go_enter Try.func6, Try.ntmps6
  go_wp2_with (first | ((with_reducible refine gate_dst (N := 2) rfl ?_); refine box_event ?hg (N := 2) ?hd (cs := #[.int .i64 a0_0, .int .i64 a0_1, .slice A0_2 l0_2.length c0_2]) (t := 38) ?hr ?_; (case hd => rfl); (case hg => rfl); (case hr => first | (go_simp; done) | (go_simp; rfl)); intro gb101 hg w5 hbox hb; have BK101 := aK (hbox); have GW101 := aK (gE hg (pS HB.out)); have GE101 := aK (gE hg (pS HB.out)); replace HB := bS HB hb; clear hb hbox hg) | ((with_reducible refine gate_dst (N := 3) rfl ?_); refine box_event ?hg (N := 3) ?hd (cs := #[.int .i64 a1_0, .int .i64 a1_1]) (t := 40) ?hr ?_; (case hd => rfl); (case hg => rfl); (case hr => first | (go_simp; done) | (go_simp; rfl)); intro gb102 hg w6 hbox hb; have BK102 := aK (hbox); have GW102 := aK (gE hg (pS HB.out)); have GE102 := aK (gE hg (pS HB.out)); have NB101_102 := aK (nL hg (pB BK101.out)); have NB102_101 := aK (nG hg (pB BK101.out)); replace BK101 := bB BK101 hb; replace HB := bS HB hb; clear hb hbox hg; have hcz7_0 : w6.cell? ⟨gb101, 0, none⟩ = some (.int .i64 a0_0) := (blk_cell BK101.out 0).trans rfl; have hcz7_1 : w6.cell? ⟨gb101, 1, none⟩ = some (.int .i64 a0_1) := (blk_cell BK101.out 1).trans rfl; have hcz7_2 : w6.cell? ⟨gb101, 2, none⟩ = some (.slice A0_2 l0_2.length c0_2) := (blk_cell BK101.out 2).trans rfl; have hfz7_0 := blk_frozen BK101.out 0; have hfz7_1 := blk_frozen BK101.out 1; have hfz7_2 := blk_frozen BK101.out 2) | ((with_reducible refine gate_callee (f := 26) rfl ?_); refine goesL_ (some 18) rfl rfl Try.func26 (by kernel_rfl) rfl #[.agg #[.int .i64 a0_0, .int .i64 a0_1, .slice A0_2 l0_2.length c0_2], .int .i64 1048576] rfl (by (try simp only [List.map_toArray, List.map_cons, List.map_nil]); first | done | rfl | (simp only [List.length_drop, List.length_take]; rfl)) ?_; (with_reducible refine (laws_szField.calls a0_0 a0_1 _ _ l0_2 1048576 t103 _ ?side1 ?side2 A3.out).mono ?_); (case side1 => repeat (first | exact (Kd.C_below HR0_2.out HB.out) | (with_reducible refine Kd.C_alloc ?_ _) | (with_reducible refine Kd.C_drewN ?_ _) | (with_reducible refine Kd.C_drew ?_))); (case side2 => exact HC0_2.out); rintro e w8 ⟨rfl, hb⟩; refine ⟨_, rfl, ?_⟩; replace HB := bS HB hb; (try clear hb); (try clear hb2); (try clear hk); (try clear hi)))
  go_ret
  exact ⟨by first | rfl | (simp [errW_none, errW_some] <;> rfl) | (simp [*, errW_none, errW_some] <;> rfl), by repeat (first | (with_reducible first | exact HB.out | apply below_alloc | apply pw_below_drewN | apply below_drew1) | exact HB.out)⟩
 ·
  rw [if_neg c4] at H
  have c4b0 : decide (t103 < 0) = false := decide_eq_false c4
  clear c4
  replace H := Option.bind_eq_some_iff.mp H
  obtain ⟨⟨t104, t105, t106⟩, A90, H⟩ := H
  replace H : ((laws_toMotion.f a1_0 a1_1).bind fun bt109 => ((spec_MoveField.f k t104 t105 t106 bt109.1 bt109.2).bind fun bt111 => ((laws_toField.f k a0_0 a0_1 l0_2).bind fun bt118 => ((laws_toMotion.f a1_0 a1_1).bind fun bt124 => ((impl_MoveField.f k bt118.1 bt118.2.1 bt118.2.2 bt124.1 bt124.2).bind fun bt126 => ((laws_eqField.f k bt126.1 bt126.2.1 bt126.2.2.1 bt111.1 bt111.2.1 bt111.2.2.1).bind fun t133 => (if t133 = true then (laws_FnExactMoveField.j0 k bt111.2.2.2 bt126.2.2.2 (bt126.2.2.2 != bt111.2.2.2) a0_0 a0_1 l0_2 a1_0 a1_1 bt111.1 bt111.2.1 bt111.2.2.1 bt118.1 bt118.2.1 bt118.2.2 bt126.1 bt126.2.1 bt126.2.2.1) else (laws_FnExactMoveField.j0 k bt111.2.2.2 bt126.2.2.2 true a0_0 a0_1 l0_2 a1_0 a1_1 bt111.1 bt111.2.1 bt111.2.2.1 bt118.1 bt118.2.1 bt118.2.2 bt126.1 bt126.2.1 bt126.2.2.1)))))))) = some r := H
  have A9 := Aside0.mk A90
  clear A90
  replace H := Option.bind_eq_some_iff.mp H
  obtain ⟨⟨t109, t110⟩, A100, H⟩ := H
  replace H : ((spec_MoveField.f k t104 t105 t106 t109 t110).bind fun bt111 => ((laws_toField.f k a0_0 a0_1 l0_2).bind fun bt118 => ((laws_toMotion.f a1_0 a1_1).bind fun bt124 => ((impl_MoveField.f k bt118.1 bt118.2.1 bt118.2.2 bt124.1 bt124.2).bind fun bt126 => ((laws_eqField.f k bt126.1 bt126.2.1 bt126.2.2.1 bt111.1 bt111.2.1 bt111.2.2.1).bind fun t133 => (if t133 = true then (laws_FnExactMoveField.j0 k bt111.2.2.2 bt126.2.2.2 (bt126.2.2.2 != bt111.2.2.2) a0_0 a0_1 l0_2 a1_0 a1_1 bt111.1 bt111.2.1 bt111.2.2.1 bt118.1 bt118.2.1 bt118.2.2 bt126.1 bt126.2.1 bt126.2.2.1) else (laws_FnExactMoveField.j0 k bt111.2.2.2 bt126.2.2.2 true a0_0 a0_1 l0_2 a1_0 a1_1 bt111.1 bt111.2.1 bt111.2.2.1 bt118.1 bt118.2.1 bt118.2.2 bt126.1 bt126.2.1 bt126.2.2.1))))))) = some r := H
  have A10 := Aside0.mk A100
  clear A100
  replace H := Option.bind_eq_some_iff.mp H
  obtain ⟨⟨t111, t112, t113, t116⟩, A110, H⟩ := H
  replace H : ((laws_toField.f k a0_0 a0_1 l0_2).bind fun bt118 => ((laws_toMotion.f a1_0 a1_1).bind fun bt124 => ((impl_MoveField.f k bt118.1 bt118.2.1 bt118.2.2 bt124.1 bt124.2).bind fun bt126 => ((laws_eqField.f k bt126.1 bt126.2.1 bt126.2.2.1 t111 t112 t113).bind fun t133 => (if t133 = true then (laws_FnExactMoveField.j0 k t116 bt126.2.2.2 (bt126.2.2.2 != t116) a0_0 a0_1 l0_2 a1_0 a1_1 t111 t112 t113 bt118.1 bt118.2.1 bt118.2.2 bt126.1 bt126.2.1 bt126.2.2.1) else (laws_FnExactMoveField.j0 k t116 bt126.2.2.2 true a0_0 a0_1 l0_2 a1_0 a1_1 t111 t112 t113 bt118.1 bt118.2.1 bt118.2.2 bt126.1 bt126.2.1 bt126.2.2.1)))))) = some r := H
  have A11 := Aside0.mk A110
  clear A110
  replace H := Option.bind_eq_some_iff.mp H
  obtain ⟨⟨t118, t119, t120⟩, A120, H⟩ := H
  replace H : ((laws_toMotion.f a1_0 a1_1).bind fun bt124 => ((impl_MoveField.f k t118 t119 t120 bt124.1 bt124.2).bind fun bt126 => ((laws_eqField.f k bt126.1 bt126.2.1 bt126.2.2.1 t111 t112 t113).bind fun t133 => (if t133 = true then (laws_FnExactMoveField.j0 k t116 bt126.2.2.2 (bt126.2.2.2 != t116) a0_0 a0_1 l0_2 a1_0 a1_1 t111 t112 t113 t118 t119 t120 bt126.1 bt126.2.1 bt126.2.2.1) else (laws_FnExactMoveField.j0 k t116 bt126.2.2.2 true a0_0 a0_1 l0_2 a1_0 a1_1 t111 t112 t113 t118 t119 t120 bt126.1 bt126.2.1 bt126.2.2.1))))) = some r := H
  have A12 := Aside0.mk A120
  clear A120
  replace H := Option.bind_eq_some_iff.mp H
  obtain ⟨⟨t124, t125⟩, A130, H⟩ := H
  replace H : ((impl_MoveField.f k t118 t119 t120 t124 t125).bind fun bt126 => ((laws_eqField.f k bt126.1 bt126.2.1 bt126.2.2.1 t111 t112 t113).bind fun t133 => (if t133 = true then (laws_FnExactMoveField.j0 k t116 bt126.2.2.2 (bt126.2.2.2 != t116) a0_0 a0_1 l0_2 a1_0 a1_1 t111 t112 t113 t118 t119 t120 bt126.1 bt126.2.1 bt126.2.2.1) else (laws_FnExactMoveField.j0 k t116 bt126.2.2.2 true a0_0 a0_1 l0_2 a1_0 a1_1 t111 t112 t113 t118 t119 t120 bt126.1 bt126.2.1 bt126.2.2.1)))) = some r := H
  have A13 := Aside0.mk A130
  clear A130
  replace H := Option.bind_eq_some_iff.mp H
  obtain ⟨⟨t126, t127, t128, t131⟩, A140, H⟩ := H
  replace H : ((laws_eqField.f k t126 t127 t128 t111 t112 t113).bind fun t133 => (if t133 = true then (laws_FnExactMoveField.j0 k t116 t131 (t131 != t116) a0_0 a0_1 l0_2 a1_0 a1_1 t111 t112 t113 t118 t119 t120 t126 t127 t128) else (laws_FnExactMoveField.j0 k t116 t131 true a0_0 a0_1 l0_2 a1_0 a1_1 t111 t112 t113 t118 t119 t120 t126 t127 t128))) = some r := H
  have A14 := Aside0.mk A140
  clear A140
  have HC15 := Aside0.mk H
  clear H
  go_enter Try.func6, Try.ntmps6
  try go_wp2_with (first | ((with_reducible refine gate_dst (N := 2) rfl ?_); refine box_event ?hg (N := 2) ?hd (cs := #[.int .i64 a0_0, .int .i64 a0_1, .slice A0_2 l0_2.length c0_2]) (t := 38) ?hr ?_; (case hd => rfl); (case hg => rfl); (case hr => first | (go_simp; done) | (go_simp; rfl)); intro gb101 hg w16 hbox hb; have BK101 := aK (hbox); have GW101 := aK (gE hg (pS HB.out)); have GE101 := aK (gE hg (pS HB.out)); replace HB := bS HB hb; clear hb hbox hg) | ((with_reducible refine gate_dst (N := 3) rfl ?_); refine box_event ?hg (N := 3) ?hd (cs := #[.int .i64 a1_0, .int .i64 a1_1]) (t := 40) ?hr ?_; (case hd => rfl); (case hg => rfl); (case hr => first | (go_simp; done) | (go_simp; rfl)); intro gb102 hg w17 hbox hb; have BK102 := aK (hbox); have GW102 := aK (gE hg (pS HB.out)); have GE102 := aK (gE hg (pS HB.out)); have NB101_102 := aK (nL hg (pB BK101.out)); have NB102_101 := aK (nG hg (pB BK101.out)); replace BK101 := bB BK101 hb; replace HB := bS HB hb; clear hb hbox hg; have hnb18 := NB101_102.out; have hnc18 := NB102_101.out; have hcz19_0 : w17.cell? ⟨gb101, 0, none⟩ = some (.int .i64 a0_0) := (blk_cell BK101.out 0).trans rfl; have hcz19_1 : w17.cell? ⟨gb101, 1, none⟩ = some (.int .i64 a0_1) := (blk_cell BK101.out 1).trans rfl; have hcz19_2 : w17.cell? ⟨gb101, 2, none⟩ = some (.slice A0_2 l0_2.length c0_2) := (blk_cell BK101.out 2).trans rfl; have hfz19_0 := blk_frozen BK101.out 0; have hfz19_1 := blk_frozen BK101.out 1; have hfz19_2 := blk_frozen BK101.out 2) | ((with_reducible refine gate_callee (f := 26) rfl ?_); refine goesL_ (some 18) rfl rfl Try.func26 (by kernel_rfl) rfl #[.agg #[.int .i64 a0_0, .int .i64 a0_1, .slice A0_2 l0_2.length c0_2], .int .i64 1048576] rfl (by (try simp only [List.map_toArray, List.map_cons, List.map_nil]); first | done | rfl | (simp only [List.length_drop, List.length_take]; rfl)) ?_; (with_reducible refine (laws_szField.calls a0_0 a0_1 _ _ l0_2 1048576 t103 _ ?side1 ?side2 A3.out).mono ?_); (case side1 => repeat (first | exact (Kd.C_below HR0_2.out HB.out) | (with_reducible refine Kd.C_alloc ?_ _) | (with_reducible refine Kd.C_drewN ?_ _) | (with_reducible refine Kd.C_drew ?_))); (case side2 => exact HC0_2.out); rintro e w20 ⟨rfl, hb⟩; refine ⟨_, rfl, ?_⟩; replace BK101 := bB BK101 hb; replace BK102 := bB BK102 hb; replace HB := bS HB hb; (try clear hb); (try clear hb2); (try clear hk); (try clear hi)))
  have n0_ := aK (blk_drew BK101.out)
  have n1_ := aK (blk_drew BK102.out)
  have n2_ := aK (below_drew1 HB.out)
  clear BK101 BK102 HB
  have BK101 := n0_
  have BK102 := n1_
  have HB := n2_
  clear n0_ n1_ n2_
  refine start_ (n := 11) (S := fun w' => w'.cell? ⟨gb101, 0, none⟩ = some (.int .i64 a0_0) ∧ w'.cell? ⟨gb101, 1, none⟩ = some (.int .i64 a0_1) ∧ w'.cell? ⟨gb101, 2, none⟩ = some (.slice A0_2 l0_2.length c0_2) ∧ w'.cell? ⟨gb102, 0, none⟩ = some (.int .i64 a1_0) ∧ w'.cell? ⟨gb102, 1, none⟩ = some (.int .i64 a1_1)) (ds := []) #[false, false, false, false, false, false, false, false, false, false, false] (by kernel_rfl) rfl rfl ⟨(blk_cell BK101.out 0).trans rfl, (blk_cell BK101.out 1).trans rfl, (blk_cell BK101.out 2).trans rfl, (blk_cell BK102.out 0).trans rfl, (blk_cell BK102.out 1).trans rfl⟩ (fun hHeld => ?_); refine with_tabW laws_FnExactMoveField.tab5 laws_FnExactMoveField.bits5 (fun HT_ HW_ => ?_)
  generalize w20.drew = w21 at BK101 BK102 HB hHeld ⊢
  refine take_ (i := 0) (N := some 22) (v := ?_) (a' := ?_) #[true, false, false, false, false, false, false, false, false, false, false] rfl rfl (take_ofW HT_.out HW_.out (by kernel_rfl)) (fun _ _ _ h => h) (Or.inl ⟨by rfl, ?_⟩) hHeld ?_ ?_
  rotate_left
  ·
   rintro w' ⟨s0, s1, s2, s3, s4⟩
   go_simp
   with_reducible rfl
  rotate_left
  ·
   simp only [Act.put, List.setIfInBounds_toArray, List.set_cons_zero, List.set_cons_succ, i64_w, i32_w]
   rfl
  refine take_ (i := 2) (N := some 24) (v := ?_) (a' := ?_) #[true, false, true, false, false, false, false, false, false, false, false] rfl rfl (take_ofW HT_.out HW_.out (by kernel_rfl)) (fun _ _ _ h => h) (Or.inl ⟨by rfl, ?_⟩) hHeld ?_ ?_
  rotate_left
  ·
   rintro w' ⟨s0, s1, s2, s3, s4⟩
   go_simp
   with_reducible rfl
  rotate_left
  ·
   simp only [Act.put, List.setIfInBounds_toArray, List.set_cons_zero, List.set_cons_succ, i64_w, i32_w]
   rfl
  refine join_ (σ := Value × Value × Nat) 2 #[true, true, true, true, true, true, true, true, true, false, false] (fun s_ => [(23, .agg #[.int .i64 t104, .int .i64 t105, s_.1]), (25, .agg #[.int .i64 t109, .int .i64 t110]), (26, .tuple #[.agg #[.int .i64 t111, .int .i64 t112, s_.2.1], .bool t116]), (6, .pointer (some ⟨s_.2.2, 0, none⟩)), (21, .tuple #[.agg #[.int .i64 t111, .int .i64 t112, s_.2.1], .bool t116]), (27, .agg #[.int .i64 t111, .int .i64 t112, s_.2.1]), (28, .bool t116)]) (fun s_ w' => (w'.cell? ⟨gb101, 0, none⟩ = some (.int .i64 a0_0) ∧ w'.cell? ⟨gb101, 1, none⟩ = some (.int .i64 a0_1) ∧ w'.cell? ⟨gb101, 2, none⟩ = some (.slice A0_2 l0_2.length c0_2) ∧ w'.cell? ⟨gb102, 0, none⟩ = some (.int .i64 a1_0) ∧ w'.cell? ⟨gb102, 1, none⟩ = some (.int .i64 a1_1)) ∧ (Kd.R (Kd.int .i64) 3 w' w.heap.size (fun k_ => some k_ ≠ (s_.2.1 : Value).ownBlock) s_.1 t106) ∧ (Kd.R (Kd.int .i64) 3 w' w.heap.size (fun k_ => some k_ ≠ (s_.1 : Value).ownBlock) s_.2.1 t113) ∧ (w'.heap[gb101]? = some (.cells #[.int .i64 a0_0, .int .i64 a0_1, .slice A0_2 l0_2.length c0_2] 38 (0, 0))) ∧ (w'.heap[gb102]? = some (.cells #[.int .i64 a1_0, .int .i64 a1_1] 40 (0, 0))) ∧ (w'.heap[s_.2.2]? = some (.cells #[.int .i64 0, .int .i64 0, .slice none 0 0] 42 (0, 0))) ∧ (w.heap.size ≤ s_.2.2) ∧ (w.heap.size ≤ s_.2.2) ∧ (gb101 ≠ s_.2.2) ∧ (s_.2.2 ≠ gb101) ∧ (gb102 ≠ s_.2.2) ∧ (s_.2.2 ≠ gb102) ∧ (Below w.heap.size w w')) ?_ ?_
  rotate_left
  ·
   intro hCont
   refine two_ (i := 1) (j := 8) (Ni := some 23) (Nj := some 6) #[true, true, true, false, false, false, false, false, false, false, false] #[true, false, true, false, false, false, false, false, true, false, false] rfl rfl rfl rfl (two_of HT_.out (by kernel_rfl)) (by decide) (by decide) (fun K hK => ?_) (fun K hK => ?_)
   ·
    skip
    refine goes_ Try.func28 (by kernel_rfl) rfl #[.agg #[.int .i64 a0_0, .int .i64 a0_1, .slice A0_2 l0_2.length c0_2]] (by rfl) rfl rfl (by (try simp only [List.map_toArray, List.map_cons, List.map_nil]); first | done | rfl | (simp only [List.length_drop, List.length_take]; rfl)) ?_
    with_reducible refine (laws_toField.calls k a0_0 a0_1 _ _ l0_2 t104 t105 t106 _ ?side1 ?side2 A9.out).mono ?_
    (case side1 => repeat (first | exact (Kd.C_below HR0_2.out HB.out) | (with_reducible refine Kd.C_alloc ?_ _) | (with_reducible refine Kd.C_drewN ?_ _) | (with_reducible refine Kd.C_drew ?_)))
    (case side2 => exact HC0_2.out)
    rintro e w22 ⟨v107, rfl, ho0, hb⟩
    refine ⟨_, rfl, ?_⟩
    have HO108 := aK (Kd.R_lower ho0 (below_size (pS HB.out)))
    replace BK101 := bB BK101 hb
    replace BK102 := bB BK102 hb
    replace HB := bS HB hb
    (try clear hb)
    (try clear hb2)
    (try clear hk)
    (try clear hi)
    (try clear ho0)
    refine hK.out _ _ ⟨(blk_cell BK101.out 0).trans rfl, (blk_cell BK101.out 1).trans rfl, (blk_cell BK101.out 2).trans rfl, (blk_cell BK102.out 0).trans rfl, (blk_cell BK102.out 1).trans rfl⟩ (fun hHeld => ?_)
    clear hK K
    refine norm_ (a' := ?_) ?_ ?_
    rotate_left
    ·
     show Act.put _ (some 23) _ = _
     simp only [Act.put, List.setIfInBounds_toArray, List.set_cons_zero, List.set_cons_succ, i64_w, i32_w]
     rfl
    refine two_ (i := 3) (j := 8) (Ni := some 25) (Nj := some 6) #[true, true, true, true, false, false, false, false, false, false, false] #[true, true, true, false, false, false, false, false, true, false, false] rfl rfl rfl rfl (two_of HT_.out (by kernel_rfl)) (by decide) (by decide) (fun K hK => ?_) (fun K hK => ?_)
    ·
     skip
     refine goes_ Try.func29 (by kernel_rfl) rfl #[.agg #[.int .i64 a1_0, .int .i64 a1_1]] (by rfl) rfl rfl (by (try simp only [List.map_toArray, List.map_cons, List.map_nil]); first | done | rfl | (simp only [List.length_drop, List.length_take]; rfl)) ?_
     with_reducible refine (laws_toMotion.calls a1_0 a1_1 t109 t110 _ A10.out).mono ?_
     rintro e w23 ⟨rfl, hb⟩
     refine ⟨_, rfl, ?_⟩
     have n0_ := aK (Kd.R_below (pR HO108.out) hb)
     replace BK101 := bB BK101 hb
     replace BK102 := bB BK102 hb
     replace HB := bS HB hb
     clear HO108
     have HO108 := n0_
     clear n0_
     (try clear hb)
     (try clear hb2)
     (try clear hk)
     (try clear hi)
     obtain ⟨Ao24, co24, eo24⟩ := Kd.R_slice HO108.out
     (first | subst eo24 | (injection eo24 with f1_ f2_ f3_; have f4_ := f1_.symm; have f5_ := f3_.symm; clear f1_ f2_ f3_; subst f4_; subst f5_))
     refine hK.out _ _ ⟨(blk_cell BK101.out 0).trans rfl, (blk_cell BK101.out 1).trans rfl, (blk_cell BK101.out 2).trans rfl, (blk_cell BK102.out 0).trans rfl, (blk_cell BK102.out 1).trans rfl⟩ (fun hHeld => ?_)
     clear hK K
     refine norm_ (a' := ?_) ?_ ?_
     rotate_left
     ·
      show Act.put _ (some 25) _ = _
      simp only [Act.put, List.setIfInBounds_toArray, List.set_cons_zero, List.set_cons_succ, i64_w, i32_w]
      rfl
     refine two_ (i := 4) (j := 8) (Ni := some 26) (Nj := some 6) #[true, true, true, true, true, false, false, false, false, false, false] #[true, true, true, true, false, false, false, false, true, false, false] rfl rfl rfl rfl (two_of HT_.out (by kernel_rfl)) (by decide) (by decide) (fun K hK => ?_) (fun K hK => ?_)
     ·
      skip
      refine goes_ Try.func27 (by kernel_rfl) rfl #[.agg #[.int .i64 t104, .int .i64 t105, .slice Ao24 t106.length co24], .agg #[.int .i64 t109, .int .i64 t110]] (by rfl) rfl rfl (by (try simp only [List.map_toArray, List.map_cons, List.map_nil]); first | done | rfl | (simp only [List.length_drop, List.length_take]; rfl)) ?_
      with_reducible refine (spec_MoveField.calls k t104 t105 _ _ t106 t109 t110 t111 t112 t113 t116 _ ?side1 ?side2 A11.out).mono ?_
      (case side1 => repeat (first | exact (Kd.R_reads' HO108.out).2.2 | (with_reducible refine Kd.C_alloc ?_ _) | (with_reducible refine Kd.C_drewN ?_ _) | (with_reducible refine Kd.C_drew ?_)))
      (case side2 => exact (Kd.R_reads' HO108.out).2.1)
      rintro e w25 ⟨v114, rfl, ho0, hb⟩
      refine ⟨_, rfl, ?_⟩
      have n0_ := aK (Kd.R_elder' (pR HO108.out) (Kd.R_base ho0) hb)
      have HO115 := aK (Kd.R_lower (Kd.R_new' ho0 (Kd.R_lt (pR HO108.out))) (below_size (pS HB.out)))
      replace BK101 := bB BK101 hb
      replace BK102 := bB BK102 hb
      replace HB := bS HB hb
      clear HO108
      have HO108 := n0_
      clear n0_
      (try clear hb)
      (try clear hb2)
      (try clear hk)
      (try clear hi)
      (try clear ho0)
      refine hK.out _ _ ⟨(blk_cell BK101.out 0).trans rfl, (blk_cell BK101.out 1).trans rfl, (blk_cell BK101.out 2).trans rfl, (blk_cell BK102.out 0).trans rfl, (blk_cell BK102.out 1).trans rfl⟩ (fun hHeld => ?_)
      clear hK K
      refine norm_ (a' := ?_) ?_ ?_
      rotate_left
      ·
       show Act.put _ (some 26) _ = _
       simp only [Act.put, List.setIfInBounds_toArray, List.set_cons_zero, List.set_cons_succ, i64_w, i32_w]
       rfl
      refine pure_ (i := 5) (N := some 21) (v := ?_) (a' := ?_) #[true, true, true, true, true, true, false, false, false, false, false] rfl rfl (any_of HT_.out (by kernel_rfl)) (fun _ _ _ h => h) (Or.inl ⟨by rfl, ?_⟩) ?_ ?_
      rotate_left
      ·
       intro w'
       go_simp
       with_reducible rfl
      rotate_left
      ·
       simp only [Act.put, List.setIfInBounds_toArray, List.set_cons_zero, List.set_cons_succ, i64_w, i32_w]
       rfl
      refine pure_ (i := 6) (N := some 27) (v := ?_) (a' := ?_) #[true, true, true, true, true, true, true, false, false, false, false] rfl rfl (any_of HT_.out (by kernel_rfl)) (fun _ _ _ h => h) (Or.inl ⟨by rfl, ?_⟩) ?_ ?_
      rotate_left
      ·
       intro w'
       go_simp
       with_reducible rfl
      rotate_left
      ·
       simp only [Act.put, List.setIfInBounds_toArray, List.set_cons_zero, List.set_cons_succ, i64_w, i32_w]
       rfl
      refine pure_ (i := 7) (N := some 28) (v := ?_) (a' := ?_) #[true, true, true, true, true, true, true, true, false, false, false] rfl rfl (any_of HT_.out (by kernel_rfl)) (fun _ _ _ h => h) (Or.inl ⟨by rfl, ?_⟩) ?_ ?_
      rotate_left
      ·
       intro w'
       go_simp
       with_reducible rfl
      rotate_left
      ·
       simp only [Act.put, List.setIfInBounds_toArray, List.set_cons_zero, List.set_cons_succ, i64_w, i32_w]
       rfl
      refine one_ (i := 8) (N := some 6) #[true, true, true, true, true, true, true, true, true, false, false] rfl rfl (one_of HT_.out (by kernel_rfl)) (by decide) (fun K hK => ?_)
      refine box_step ?hg (N := 6) ?hd (cs := #[.int .i64 0, .int .i64 0, .slice none 0 0]) (t := 42) ?hr ?_; (case hd => rfl); (case hg => rfl); (case hr => first | (go_simp; done) | (go_simp; rfl))
      intro gb117 hg w26 hbox hb
      have n0_ := aK (Kd.R_below (pR HO108.out) hb)
      have n1_ := aK (Kd.R_below (pR HO115.out) hb)
      have BK117 := aK (hbox)
      have GW117 := aK (gE hg (pS HB.out))
      have GE117 := aK (gE hg (pS HB.out))
      have NB101_117 := aK (nL hg (pB BK101.out))
      have NB117_101 := aK (nG hg (pB BK101.out))
      have NB102_117 := aK (nL hg (pB BK102.out))
      have NB117_102 := aK (nG hg (pB BK102.out))
      replace BK101 := bB BK101 hb
      replace BK102 := bB BK102 hb
      replace HB := bS HB hb
      clear HO108 HO115
      have HO108 := n0_
      have HO115 := n1_
      clear n0_ n1_ hb hbox hg
      refine hK.out _ _ ⟨(blk_cell BK101.out 0).trans rfl, (blk_cell BK101.out 1).trans rfl, (blk_cell BK101.out 2).trans rfl, (blk_cell BK102.out 0).trans rfl, (blk_cell BK102.out 1).trans rfl⟩ (fun hHeld => ?_)
      clear hK K
      refine norm_ (a' := ?_) ?_ ?_
      rotate_left
      ·
       show Act.put _ (some 6) _ = _
       simp only [Act.put, List.setIfInBounds_toArray, List.set_cons_zero, List.set_cons_succ, i64_w, i32_w]
       rfl
      exact norm_ (by simp only [putAll, Act.put, List.setIfInBounds_toArray, List.set_cons_zero, List.set_cons_succ]) (hCont (.slice Ao24 t106.length co24, v114, gb117) _ ⟨hHeld, (pR (Kd.R_mono HO108.out (fun _ hk => hk.2))), (pR (Kd.R_mono HO115.out (fun _ hk => hk.2))), (pB BK101.out), (pB BK102.out), (pB BK117.out), GW117.out, GE117.out, NB101_117.out, NB117_101.out, NB102_117.out, NB117_102.out, (pS HB.out)⟩)
     ·
      skip
      refine box_step ?hg (N := 6) ?hd (cs := #[.int .i64 0, .int .i64 0, .slice none 0 0]) (t := 42) ?hr ?_; (case hd => rfl); (case hg => rfl); (case hr => first | (go_simp; done) | (go_simp; rfl))
      intro gb117 hg w24 hbox hb
      have n0_ := aK (Kd.R_below (pR HO108.out) hb)
      have BK117 := aK (hbox)
      have GW117 := aK (gE hg (pS HB.out))
      have GE117 := aK (gE hg (pS HB.out))
      have NB101_117 := aK (nL hg (pB BK101.out))
      have NB117_101 := aK (nG hg (pB BK101.out))
      have NB102_117 := aK (nL hg (pB BK102.out))
      have NB117_102 := aK (nG hg (pB BK102.out))
      replace BK101 := bB BK101 hb
      replace BK102 := bB BK102 hb
      replace HB := bS HB hb
      clear HO108
      have HO108 := n0_
      clear n0_ hb hbox hg
      obtain ⟨Ao25, co25, eo25⟩ := Kd.R_slice HO108.out
      (first | subst eo25 | (injection eo25 with f1_ f2_ f3_; have f4_ := f1_.symm; have f5_ := f3_.symm; clear f1_ f2_ f3_; subst f4_; subst f5_))
      refine hK.out _ _ ⟨(blk_cell BK101.out 0).trans rfl, (blk_cell BK101.out 1).trans rfl, (blk_cell BK101.out 2).trans rfl, (blk_cell BK102.out 0).trans rfl, (blk_cell BK102.out 1).trans rfl⟩ (fun hHeld => ?_)
      clear hK K
      refine norm_ (a' := ?_) ?_ ?_
      rotate_left
      ·
       show Act.put _ (some 6) _ = _
       simp only [Act.put, List.setIfInBounds_toArray, List.set_cons_zero, List.set_cons_succ, i64_w, i32_w]
       rfl
      refine one_ (i := 4) (N := some 26) #[true, true, true, true, true, false, false, false, true, false, false] rfl rfl (one_of HT_.out (by kernel_rfl)) (by decide) (fun K hK => ?_)
      refine goes_ Try.func27 (by kernel_rfl) rfl #[.agg #[.int .i64 t104, .int .i64 t105, .slice Ao25 t106.length co25], .agg #[.int .i64 t109, .int .i64 t110]] (by rfl) rfl rfl (by (try simp only [List.map_toArray, List.map_cons, List.map_nil]); first | done | rfl | (simp only [List.length_drop, List.length_take]; rfl)) ?_
      with_reducible refine (spec_MoveField.calls k t104 t105 _ _ t106 t109 t110 t111 t112 t113 t116 _ ?side1 ?side2 A11.out).mono ?_
      (case side1 => repeat (first | exact (Kd.R_reads' HO108.out).2.2 | (with_reducible refine Kd.C_alloc ?_ _) | (with_reducible refine Kd.C_drewN ?_ _) | (with_reducible refine Kd.C_drew ?_)))
      (case side2 => exact (Kd.R_reads' HO108.out).2.1)
      rintro e w26 ⟨v114, rfl, ho0, hb⟩
      refine ⟨_, rfl, ?_⟩
      have n0_ := aK (Kd.R_elder' (pR HO108.out) (Kd.R_base ho0) hb)
      have HO115 := aK (Kd.R_lower (Kd.R_new' ho0 (Kd.R_lt (pR HO108.out))) (below_size (pS HB.out)))
      replace BK101 := bB BK101 hb
      replace BK102 := bB BK102 hb
      replace BK117 := bB BK117 hb
      replace HB := bS HB hb
      clear HO108
      have HO108 := n0_
      clear n0_
      (try clear hb)
      (try clear hb2)
      (try clear hk)
      (try clear hi)
      (try clear ho0)
      refine hK.out _ _ ⟨(blk_cell BK101.out 0).trans rfl, (blk_cell BK101.out 1).trans rfl, (blk_cell BK101.out 2).trans rfl, (blk_cell BK102.out 0).trans rfl, (blk_cell BK102.out 1).trans rfl⟩ (fun hHeld => ?_)
      clear hK K
      refine norm_ (a' := ?_) ?_ ?_
      rotate_left
      ·
       show Act.put _ (some 26) _ = _
       simp only [Act.put, List.setIfInBounds_toArray, List.set_cons_zero, List.set_cons_succ, i64_w, i32_w]
       rfl
      refine pure_ (i := 5) (N := some 21) (v := ?_) (a' := ?_) #[true, true, true, true, true, true, false, false, true, false, false] rfl rfl (any_of HT_.out (by kernel_rfl)) (fun _ _ _ h => h) (Or.inl ⟨by rfl, ?_⟩) ?_ ?_
      rotate_left
      ·
       intro w'
       go_simp
       with_reducible rfl
      rotate_left
      ·
       simp only [Act.put, List.setIfInBounds_toArray, List.set_cons_zero, List.set_cons_succ, i64_w, i32_w]
       rfl
      refine pure_ (i := 6) (N := some 27) (v := ?_) (a' := ?_) #[true, true, true, true, true, true, true, false, true, false, false] rfl rfl (any_of HT_.out (by kernel_rfl)) (fun _ _ _ h => h) (Or.inl ⟨by rfl, ?_⟩) ?_ ?_
      rotate_left
      ·
       intro w'
       go_simp
       with_reducible rfl
      rotate_left
      ·
       simp only [Act.put, List.setIfInBounds_toArray, List.set_cons_zero, List.set_cons_succ, i64_w, i32_w]
       rfl
      refine pure_ (i := 7) (N := some 28) (v := ?_) (a' := ?_) #[true, true, true, true, true, true, true, true, true, false, false] rfl rfl (any_of HT_.out (by kernel_rfl)) (fun _ _ _ h => h) (Or.inl ⟨by rfl, ?_⟩) ?_ ?_
      rotate_left
      ·
       intro w'
       go_simp
       with_reducible rfl
      rotate_left
      ·
       simp only [Act.put, List.setIfInBounds_toArray, List.set_cons_zero, List.set_cons_succ, i64_w, i32_w]
       rfl
      exact norm_ (by simp only [putAll, Act.put, List.setIfInBounds_toArray, List.set_cons_zero, List.set_cons_succ]) (hCont (.slice Ao25 t106.length co25, v114, gb117) _ ⟨hHeld, (pR (Kd.R_mono HO108.out (fun _ hk => hk.2))), (pR (Kd.R_mono HO115.out (fun _ hk => hk.2))), (pB BK101.out), (pB BK102.out), (pB BK117.out), GW117.out, GE117.out, NB101_117.out, NB117_101.out, NB102_117.out, NB117_102.out, (pS HB.out)⟩)
    ·
     skip
     refine box_step ?hg (N := 6) ?hd (cs := #[.int .i64 0, .int .i64 0, .slice none 0 0]) (t := 42) ?hr ?_; (case hd => rfl); (case hg => rfl); (case hr => first | (go_simp; done) | (go_simp; rfl))
     intro gb117 hg w23 hbox hb
     have n0_ := aK (Kd.R_below (pR HO108.out) hb)
     have BK117 := aK (hbox)
     have GW117 := aK (gE hg (pS HB.out))
     have GE117 := aK (gE hg (pS HB.out))
     have NB101_117 := aK (nL hg (pB BK101.out))
     have NB117_101 := aK (nG hg (pB BK101.out))
     have NB102_117 := aK (nL hg (pB BK102.out))
     have NB117_102 := aK (nG hg (pB BK102.out))
     replace BK101 := bB BK101 hb
     replace BK102 := bB BK102 hb
     replace HB := bS HB hb
     clear HO108
     have HO108 := n0_
     clear n0_ hb hbox hg
     refine hK.out _ _ ⟨(blk_cell BK101.out 0).trans rfl, (blk_cell BK101.out 1).trans rfl, (blk_cell BK101.out 2).trans rfl, (blk_cell BK102.out 0).trans rfl, (blk_cell BK102.out 1).trans rfl⟩ (fun hHeld => ?_)
     clear hK K
     refine norm_ (a' := ?_) ?_ ?_
     rotate_left
     ·
      show Act.put _ (some 6) _ = _
      simp only [Act.put, List.setIfInBounds_toArray, List.set_cons_zero, List.set_cons_succ, i64_w, i32_w]
      rfl
     refine one_ (i := 3) (N := some 25) #[true, true, true, true, false, false, false, false, true, false, false] rfl rfl (one_of HT_.out (by kernel_rfl)) (by decide) (fun K hK => ?_)
     refine goes_ Try.func29 (by kernel_rfl) rfl #[.agg #[.int .i64 a1_0, .int .i64 a1_1]] (by rfl) rfl rfl (by (try simp only [List.map_toArray, List.map_cons, List.map_nil]); first | done | rfl | (simp only [List.length_drop, List.length_take]; rfl)) ?_
     with_reducible refine (laws_toMotion.calls a1_0 a1_1 t109 t110 _ A10.out).mono ?_
     rintro e w24 ⟨rfl, hb⟩
     refine ⟨_, rfl, ?_⟩
     have n0_ := aK (Kd.R_below (pR HO108.out) hb)
     replace BK101 := bB BK101 hb
     replace BK102 := bB BK102 hb
     replace BK117 := bB BK117 hb
     replace HB := bS HB hb
     clear HO108
     have HO108 := n0_
     clear n0_
     (try clear hb)
     (try clear hb2)
     (try clear hk)
     (try clear hi)
     obtain ⟨Ao25, co25, eo25⟩ := Kd.R_slice HO108.out
     (first | subst eo25 | (injection eo25 with f1_ f2_ f3_; have f4_ := f1_.symm; have f5_ := f3_.symm; clear f1_ f2_ f3_; subst f4_; subst f5_))
     refine hK.out _ _ ⟨(blk_cell BK101.out 0).trans rfl, (blk_cell BK101.out 1).trans rfl, (blk_cell BK101.out 2).trans rfl, (blk_cell BK102.out 0).trans rfl, (blk_cell BK102.out 1).trans rfl⟩ (fun hHeld => ?_)
     clear hK K
     refine norm_ (a' := ?_) ?_ ?_
     rotate_left
     ·
      show Act.put _ (some 25) _ = _
      simp only [Act.put, List.setIfInBounds_toArray, List.set_cons_zero, List.set_cons_succ, i64_w, i32_w]
      rfl
     refine one_ (i := 4) (N := some 26) #[true, true, true, true, true, false, false, false, true, false, false] rfl rfl (one_of HT_.out (by kernel_rfl)) (by decide) (fun K hK => ?_)
     refine goes_ Try.func27 (by kernel_rfl) rfl #[.agg #[.int .i64 t104, .int .i64 t105, .slice Ao25 t106.length co25], .agg #[.int .i64 t109, .int .i64 t110]] (by rfl) rfl rfl (by (try simp only [List.map_toArray, List.map_cons, List.map_nil]); first | done | rfl | (simp only [List.length_drop, List.length_take]; rfl)) ?_
     with_reducible refine (spec_MoveField.calls k t104 t105 _ _ t106 t109 t110 t111 t112 t113 t116 _ ?side1 ?side2 A11.out).mono ?_
     (case side1 => repeat (first | exact (Kd.R_reads' HO108.out).2.2 | (with_reducible refine Kd.C_alloc ?_ _) | (with_reducible refine Kd.C_drewN ?_ _) | (with_reducible refine Kd.C_drew ?_)))
     (case side2 => exact (Kd.R_reads' HO108.out).2.1)
     rintro e w26 ⟨v114, rfl, ho0, hb⟩
     refine ⟨_, rfl, ?_⟩
     have n0_ := aK (Kd.R_elder' (pR HO108.out) (Kd.R_base ho0) hb)
     have HO115 := aK (Kd.R_lower (Kd.R_new' ho0 (Kd.R_lt (pR HO108.out))) (below_size (pS HB.out)))
     replace BK101 := bB BK101 hb
     replace BK102 := bB BK102 hb
     replace BK117 := bB BK117 hb
     replace HB := bS HB hb
     clear HO108
     have HO108 := n0_
     clear n0_
     (try clear hb)
     (try clear hb2)
     (try clear hk)
     (try clear hi)
     (try clear ho0)
     refine hK.out _ _ ⟨(blk_cell BK101.out 0).trans rfl, (blk_cell BK101.out 1).trans rfl, (blk_cell BK101.out 2).trans rfl, (blk_cell BK102.out 0).trans rfl, (blk_cell BK102.out 1).trans rfl⟩ (fun hHeld => ?_)
     clear hK K
     refine norm_ (a' := ?_) ?_ ?_
     rotate_left
     ·
      show Act.put _ (some 26) _ = _
      simp only [Act.put, List.setIfInBounds_toArray, List.set_cons_zero, List.set_cons_succ, i64_w, i32_w]
      rfl
     refine pure_ (i := 5) (N := some 21) (v := ?_) (a' := ?_) #[true, true, true, true, true, true, false, false, true, false, false] rfl rfl (any_of HT_.out (by kernel_rfl)) (fun _ _ _ h => h) (Or.inl ⟨by rfl, ?_⟩) ?_ ?_
     rotate_left
     ·
      intro w'
      go_simp
      with_reducible rfl
     rotate_left
     ·
      simp only [Act.put, List.setIfInBounds_toArray, List.set_cons_zero, List.set_cons_succ, i64_w, i32_w]
      rfl
     refine pure_ (i := 6) (N := some 27) (v := ?_) (a' := ?_) #[true, true, true, true, true, true, true, false, true, false, false] rfl rfl (any_of HT_.out (by kernel_rfl)) (fun _ _ _ h => h) (Or.inl ⟨by rfl, ?_⟩) ?_ ?_
     rotate_left
     ·
      intro w'
      go_simp
      with_reducible rfl
     rotate_left
     ·
      simp only [Act.put, List.setIfInBounds_toArray, List.set_cons_zero, List.set_cons_succ, i64_w, i32_w]
      rfl
     refine pure_ (i := 7) (N := some 28) (v := ?_) (a' := ?_) #[true, true, true, true, true, true, true, true, true, false, false] rfl rfl (any_of HT_.out (by kernel_rfl)) (fun _ _ _ h => h) (Or.inl ⟨by rfl, ?_⟩) ?_ ?_
     rotate_left
     ·
      intro w'
      go_simp
      with_reducible rfl
     rotate_left
     ·
      simp only [Act.put, List.setIfInBounds_toArray, List.set_cons_zero, List.set_cons_succ, i64_w, i32_w]
      rfl
     exact norm_ (by simp only [putAll, Act.put, List.setIfInBounds_toArray, List.set_cons_zero, List.set_cons_succ]) (hCont (.slice Ao25 t106.length co25, v114, gb117) _ ⟨hHeld, (pR (Kd.R_mono HO108.out (fun _ hk => hk.2))), (pR (Kd.R_mono HO115.out (fun _ hk => hk.2))), (pB BK101.out), (pB BK102.out), (pB BK117.out), GW117.out, GE117.out, NB101_117.out, NB117_101.out, NB102_117.out, NB117_102.out, (pS HB.out)⟩)
   ·
    skip
    refine box_step ?hg (N := 6) ?hd (cs := #[.int .i64 0, .int .i64 0, .slice none 0 0]) (t := 42) ?hr ?_; (case hd => rfl); (case hg => rfl); (case hr => first | (go_simp; done) | (go_simp; rfl))
    intro gb117 hg w22 hbox hb
    have BK117 := aK (hbox)
    have GW117 := aK (gE hg (pS HB.out))
    have GE117 := aK (gE hg (pS HB.out))
    have NB101_117 := aK (nL hg (pB BK101.out))
    have NB117_101 := aK (nG hg (pB BK101.out))
    have NB102_117 := aK (nL hg (pB BK102.out))
    have NB117_102 := aK (nG hg (pB BK102.out))
    replace BK101 := bB BK101 hb
    replace BK102 := bB BK102 hb
    replace HB := bS HB hb
    clear hb hbox hg
    refine hK.out _ _ ⟨(blk_cell BK101.out 0).trans rfl, (blk_cell BK101.out 1).trans rfl, (blk_cell BK101.out 2).trans rfl, (blk_cell BK102.out 0).trans rfl, (blk_cell BK102.out 1).trans rfl⟩ (fun hHeld => ?_)
    clear hK K
    refine norm_ (a' := ?_) ?_ ?_
    rotate_left
    ·
     show Act.put _ (some 6) _ = _
     simp only [Act.put, List.setIfInBounds_toArray, List.set_cons_zero, List.set_cons_succ, i64_w, i32_w]
     rfl
    refine one_ (i := 1) (N := some 23) #[true, true, true, false, false, false, false, false, true, false, false] rfl rfl (one_of HT_.out (by kernel_rfl)) (by decide) (fun K hK => ?_)
    refine goes_ Try.func28 (by kernel_rfl) rfl #[.agg #[.int .i64 a0_0, .int .i64 a0_1, .slice A0_2 l0_2.length c0_2]] (by rfl) rfl rfl (by (try simp only [List.map_toArray, List.map_cons, List.map_nil]); first | done | rfl | (simp only [List.length_drop, List.length_take]; rfl)) ?_
    with_reducible refine (laws_toField.calls k a0_0 a0_1 _ _ l0_2 t104 t105 t106 _ ?side1 ?side2 A9.out).mono ?_
    (case side1 => repeat (first | exact (Kd.C_below HR0_2.out HB.out) | (with_reducible refine Kd.C_alloc ?_ _) | (with_reducible refine Kd.C_drewN ?_ _) | (with_reducible refine Kd.C_drew ?_)))
    (case side2 => exact HC0_2.out)
    rintro e w23 ⟨v107, rfl, ho0, hb⟩
    refine ⟨_, rfl, ?_⟩
    have HO108 := aK (Kd.R_lower ho0 (below_size (pS HB.out)))
    replace BK101 := bB BK101 hb
    replace BK102 := bB BK102 hb
    replace BK117 := bB BK117 hb
    replace HB := bS HB hb
    (try clear hb)
    (try clear hb2)
    (try clear hk)
    (try clear hi)
    (try clear ho0)
    refine hK.out _ _ ⟨(blk_cell BK101.out 0).trans rfl, (blk_cell BK101.out 1).trans rfl, (blk_cell BK101.out 2).trans rfl, (blk_cell BK102.out 0).trans rfl, (blk_cell BK102.out 1).trans rfl⟩ (fun hHeld => ?_)
    clear hK K
    refine norm_ (a' := ?_) ?_ ?_
    rotate_left
    ·
     show Act.put _ (some 23) _ = _
     simp only [Act.put, List.setIfInBounds_toArray, List.set_cons_zero, List.set_cons_succ, i64_w, i32_w]
     rfl
    refine one_ (i := 3) (N := some 25) #[true, true, true, true, false, false, false, false, true, false, false] rfl rfl (one_of HT_.out (by kernel_rfl)) (by decide) (fun K hK => ?_)
    refine goes_ Try.func29 (by kernel_rfl) rfl #[.agg #[.int .i64 a1_0, .int .i64 a1_1]] (by rfl) rfl rfl (by (try simp only [List.map_toArray, List.map_cons, List.map_nil]); first | done | rfl | (simp only [List.length_drop, List.length_take]; rfl)) ?_
    with_reducible refine (laws_toMotion.calls a1_0 a1_1 t109 t110 _ A10.out).mono ?_
    rintro e w24 ⟨rfl, hb⟩
    refine ⟨_, rfl, ?_⟩
    have n0_ := aK (Kd.R_below (pR HO108.out) hb)
    replace BK101 := bB BK101 hb
    replace BK102 := bB BK102 hb
    replace BK117 := bB BK117 hb
    replace HB := bS HB hb
    clear HO108
    have HO108 := n0_
    clear n0_
    (try clear hb)
    (try clear hb2)
    (try clear hk)
    (try clear hi)
    obtain ⟨Ao25, co25, eo25⟩ := Kd.R_slice HO108.out
    (first | subst eo25 | (injection eo25 with f1_ f2_ f3_; have f4_ := f1_.symm; have f5_ := f3_.symm; clear f1_ f2_ f3_; subst f4_; subst f5_))
    refine hK.out _ _ ⟨(blk_cell BK101.out 0).trans rfl, (blk_cell BK101.out 1).trans rfl, (blk_cell BK101.out 2).trans rfl, (blk_cell BK102.out 0).trans rfl, (blk_cell BK102.out 1).trans rfl⟩ (fun hHeld => ?_)
    clear hK K
    refine norm_ (a' := ?_) ?_ ?_
    rotate_left
    ·
     show Act.put _ (some 25) _ = _
     simp only [Act.put, List.setIfInBounds_toArray, List.set_cons_zero, List.set_cons_succ, i64_w, i32_w]
     rfl
    refine one_ (i := 4) (N := some 26) #[true, true, true, true, true, false, false, false, true, false, false] rfl rfl (one_of HT_.out (by kernel_rfl)) (by decide) (fun K hK => ?_)
    refine goes_ Try.func27 (by kernel_rfl) rfl #[.agg #[.int .i64 t104, .int .i64 t105, .slice Ao25 t106.length co25], .agg #[.int .i64 t109, .int .i64 t110]] (by rfl) rfl rfl (by (try simp only [List.map_toArray, List.map_cons, List.map_nil]); first | done | rfl | (simp only [List.length_drop, List.length_take]; rfl)) ?_
    with_reducible refine (spec_MoveField.calls k t104 t105 _ _ t106 t109 t110 t111 t112 t113 t116 _ ?side1 ?side2 A11.out).mono ?_
    (case side1 => repeat (first | exact (Kd.R_reads' HO108.out).2.2 | (with_reducible refine Kd.C_alloc ?_ _) | (with_reducible refine Kd.C_drewN ?_ _) | (with_reducible refine Kd.C_drew ?_)))
    (case side2 => exact (Kd.R_reads' HO108.out).2.1)
    rintro e w26 ⟨v114, rfl, ho0, hb⟩
    refine ⟨_, rfl, ?_⟩
    have n0_ := aK (Kd.R_elder' (pR HO108.out) (Kd.R_base ho0) hb)
    have HO115 := aK (Kd.R_lower (Kd.R_new' ho0 (Kd.R_lt (pR HO108.out))) (below_size (pS HB.out)))
    replace BK101 := bB BK101 hb
    replace BK102 := bB BK102 hb
    replace BK117 := bB BK117 hb
    replace HB := bS HB hb
    clear HO108
    have HO108 := n0_
    clear n0_
    (try clear hb)
    (try clear hb2)
    (try clear hk)
    (try clear hi)
    (try clear ho0)
    refine hK.out _ _ ⟨(blk_cell BK101.out 0).trans rfl, (blk_cell BK101.out 1).trans rfl, (blk_cell BK101.out 2).trans rfl, (blk_cell BK102.out 0).trans rfl, (blk_cell BK102.out 1).trans rfl⟩ (fun hHeld => ?_)
    clear hK K
    refine norm_ (a' := ?_) ?_ ?_
    rotate_left
    ·
     show Act.put _ (some 26) _ = _
     simp only [Act.put, List.setIfInBounds_toArray, List.set_cons_zero, List.set_cons_succ, i64_w, i32_w]
     rfl
    refine pure_ (i := 5) (N := some 21) (v := ?_) (a' := ?_) #[true, true, true, true, true, true, false, false, true, false, false] rfl rfl (any_of HT_.out (by kernel_rfl)) (fun _ _ _ h => h) (Or.inl ⟨by rfl, ?_⟩) ?_ ?_
    rotate_left
    ·
     intro w'
     go_simp
     with_reducible rfl
    rotate_left
    ·
     simp only [Act.put, List.setIfInBounds_toArray, List.set_cons_zero, List.set_cons_succ, i64_w, i32_w]
     rfl
    refine pure_ (i := 6) (N := some 27) (v := ?_) (a' := ?_) #[true, true, true, true, true, true, true, false, true, false, false] rfl rfl (any_of HT_.out (by kernel_rfl)) (fun _ _ _ h => h) (Or.inl ⟨by rfl, ?_⟩) ?_ ?_
    rotate_left
    ·
     intro w'
     go_simp
     with_reducible rfl
    rotate_left
    ·
     simp only [Act.put, List.setIfInBounds_toArray, List.set_cons_zero, List.set_cons_succ, i64_w, i32_w]
     rfl
    refine pure_ (i := 7) (N := some 28) (v := ?_) (a' := ?_) #[true, true, true, true, true, true, true, true, true, false, false] rfl rfl (any_of HT_.out (by kernel_rfl)) (fun _ _ _ h => h) (Or.inl ⟨by rfl, ?_⟩) ?_ ?_
    rotate_left
    ·
     intro w'
     go_simp
     with_reducible rfl
    rotate_left
    ·
     simp only [Act.put, List.setIfInBounds_toArray, List.set_cons_zero, List.set_cons_succ, i64_w, i32_w]
     rfl
    exact norm_ (by simp only [putAll, Act.put, List.setIfInBounds_toArray, List.set_cons_zero, List.set_cons_succ]) (hCont (.slice Ao25 t106.length co25, v114, gb117) _ ⟨hHeld, (pR (Kd.R_mono HO108.out (fun _ hk => hk.2))), (pR (Kd.R_mono HO115.out (fun _ hk => hk.2))), (pB BK101.out), (pB BK102.out), (pB BK117.out), GW117.out, GE117.out, NB101_117.out, NB117_101.out, NB102_117.out, NB117_102.out, (pS HB.out)⟩)
  rintro ⟨v107, v114, gb117⟩ w27 ⟨hS_, h0_, h1_, h2_, h3_, h4_, h5_, h6_, h7_, h8_, h9_, h10_, h11_⟩
  have n0_ : Aside0 (Kd.R (Kd.int .i64) 3 w27 w.heap.size (fun k_ => some k_ ≠ (v114 : Value).ownBlock) v107 t106) := ⟨h0_⟩
  have n1_ : Aside0 (Kd.R (Kd.int .i64) 3 w27 w.heap.size (fun k_ => some k_ ≠ (v107 : Value).ownBlock) v114 t113) := ⟨h1_⟩
  have n2_ : Aside0 (w27.heap[gb101]? = some (.cells #[.int .i64 a0_0, .int .i64 a0_1, .slice A0_2 l0_2.length c0_2] 38 (0, 0))) := ⟨h2_⟩
  have n3_ : Aside0 (w27.heap[gb102]? = some (.cells #[.int .i64 a1_0, .int .i64 a1_1] 40 (0, 0))) := ⟨h3_⟩
  have n4_ : Aside0 (w27.heap[gb117]? = some (.cells #[.int .i64 0, .int .i64 0, .slice none 0 0] 42 (0, 0))) := ⟨h4_⟩
  have n5_ : Aside0 (w.heap.size ≤ gb117) := ⟨h5_⟩
  have n6_ : Aside0 (w.heap.size ≤ gb117) := ⟨h6_⟩
  have n7_ : Aside0 (gb101 ≠ gb117) := ⟨h7_⟩
  have n8_ : Aside0 (gb117 ≠ gb101) := ⟨h8_⟩
  have n9_ : Aside0 (gb102 ≠ gb117) := ⟨h9_⟩
  have n10_ : Aside0 (gb117 ≠ gb102) := ⟨h10_⟩
  have n11_ : Aside0 (Below w.heap.size w w27) := ⟨h11_⟩
  clear BK101 BK102 HB h0_ h1_ h2_ h3_ h4_ h5_ h6_ h7_ h8_ h9_ h10_ h11_
  have HO108 := n0_
  have HO115 := n1_
  have BK101 := n2_
  have BK102 := n3_
  have BK117 := n4_
  have GW117 := n5_
  have GE117 := n6_
  have NB101_117 := n7_
  have NB117_101 := n8_
  have NB102_117 := n9_
  have NB117_102 := n10_
  have HB := n11_
  clear n0_ n1_ n2_ n3_ n4_ n5_ n6_ n7_ n8_ n9_ n10_ n11_
  have hHeld : w27.cell? ⟨gb101, 0, none⟩ = some (.int .i64 a0_0) ∧ w27.cell? ⟨gb101, 1, none⟩ = some (.int .i64 a0_1) ∧ w27.cell? ⟨gb101, 2, none⟩ = some (.slice A0_2 l0_2.length c0_2) ∧ w27.cell? ⟨gb102, 0, none⟩ = some (.int .i64 a1_0) ∧ w27.cell? ⟨gb102, 1, none⟩ = some (.int .i64 a1_1) := hS_
  obtain ⟨Ao30, co30, eo30⟩ := Kd.R_slice HO115.out
  (first | subst eo30 | (injection eo30 with f1_ f2_ f3_; have f4_ := f1_.symm; have f5_ := f3_.symm; clear f1_ f2_ f3_; subst f4_; subst f5_))
  refine norm_ (a' := ?_) ?_ ?_
  rotate_left
  ·
   simp only [putAll, Act.put, List.setIfInBounds_toArray, List.set_cons_zero, List.set_cons_succ]
   rfl
  refine one_ (i := 9) (N := none) #[true, true, true, true, true, true, true, true, true, true, false] rfl rfl (one_of HT_.out (by kernel_rfl)) (by decide) (fun K hK => ?_)
  have hs28 : w27.cell? ⟨gb117, 0, none⟩ = some (.int .i64 0) := (blk_cell BK117.out 0).trans rfl
  have hfs28 := blk_frozen BK117.out 0
  have hns28_0 := NB101_117.out
  have hns28_1 := NB102_117.out
  have hms28_0 := NB117_101.out
  have hms28_1 := NB117_102.out
  have hs29 : w27.cell? ⟨gb117, 1, none⟩ = some (.int .i64 0) := (blk_cell BK117.out 1).trans rfl
  have hfs29 := blk_frozen BK117.out 1
  have hns29_0 := NB101_117.out
  have hns29_1 := NB102_117.out
  have hms29_0 := NB117_101.out
  have hms29_1 := NB117_102.out
  have hs31 : w27.cell? ⟨gb117, 2, none⟩ = some (.slice none 0 0) := (blk_cell BK117.out 2).trans rfl
  have hfs31 := blk_frozen BK117.out 2
  have hns31_0 := NB101_117.out
  have hns31_1 := NB102_117.out
  have hms31_0 := NB117_101.out
  have hms31_1 := NB117_102.out
  refine skip_ (w1 := ?_) (by rfl) rfl ?_ ?_
  rotate_left
  ·
   go_simp
   rfl
  refine hK.out _ _ ⟨((cell_far (p := ⟨gb117, _, none⟩) NB101_117.out _).trans (((cell_far (p := ⟨gb117, _, none⟩) NB101_117.out _).trans (((cell_far (p := ⟨gb117, _, none⟩) NB101_117.out _).trans (hHeld.1)))))), ((cell_far (p := ⟨gb117, _, none⟩) NB101_117.out _).trans (((cell_far (p := ⟨gb117, _, none⟩) NB101_117.out _).trans (((cell_far (p := ⟨gb117, _, none⟩) NB101_117.out _).trans (hHeld.2.1)))))), ((cell_far (p := ⟨gb117, _, none⟩) NB101_117.out _).trans (((cell_far (p := ⟨gb117, _, none⟩) NB101_117.out _).trans (((cell_far (p := ⟨gb117, _, none⟩) NB101_117.out _).trans (hHeld.2.2.1)))))), ((cell_far (p := ⟨gb117, _, none⟩) NB102_117.out _).trans (((cell_far (p := ⟨gb117, _, none⟩) NB102_117.out _).trans (((cell_far (p := ⟨gb117, _, none⟩) NB102_117.out _).trans (hHeld.2.2.2.1)))))), ((cell_far (p := ⟨gb117, _, none⟩) NB102_117.out _).trans (((cell_far (p := ⟨gb117, _, none⟩) NB102_117.out _).trans (((cell_far (p := ⟨gb117, _, none⟩) NB102_117.out _).trans (hHeld.2.2.2.2))))))⟩ (fun hHeld => ?_)
  clear hK K
  refine pure_ (i := 10) (N := some 7) (v := ?_) (a' := ?_) #[true, true, true, true, true, true, true, true, true, true, true] rfl rfl (any_of HT_.out (by kernel_rfl)) (fun _ _ _ h => h) (Or.inl ⟨by rfl, ?_⟩) ?_ ?_
  rotate_left
  ·
   intro w'
   go_simp
   with_reducible rfl
  rotate_left
  ·
   simp only [Act.put, List.setIfInBounds_toArray, List.set_cons_zero, List.set_cons_succ, i64_w, i32_w]
   rfl
  refine done_ (done_of HT_.out (by kernel_rfl)) ?_
  have hnb32 := NB101_117.out
  have hnc32 := NB117_101.out
  have hcz33_0 : w27.cell? ⟨gb101, 0, none⟩ = some (.int .i64 a0_0) := (blk_cell BK101.out 0).trans rfl
  have hcz33_1 : w27.cell? ⟨gb101, 1, none⟩ = some (.int .i64 a0_1) := (blk_cell BK101.out 1).trans rfl
  have hcz33_2 : w27.cell? ⟨gb101, 2, none⟩ = some (.slice A0_2 l0_2.length c0_2) := (blk_cell BK101.out 2).trans rfl
  have hfz33_0 := blk_frozen BK101.out 0
  have hfz33_1 := blk_frozen BK101.out 1
  have hfz33_2 := blk_frozen BK101.out 2
  try go_wp2_with (first | ((with_reducible refine gate_callee (f := 28) rfl ?_); refine goesL_ (some 30) rfl rfl Try.func28 (by kernel_rfl) rfl #[.agg #[.int .i64 a0_0, .int .i64 a0_1, .slice A0_2 l0_2.length c0_2]] rfl (by (try simp only [List.map_toArray, List.map_cons, List.map_nil]); first | done | rfl | (simp only [List.length_drop, List.length_take]; rfl)) ?_; (with_reducible refine (laws_toField.calls k a0_0 a0_1 _ _ l0_2 t118 t119 t120 _ ?side1 ?side2 A12.out).mono ?_); (case side1 => exact Kd.C_below HR0_2.out (pS HB.out)); (case side2 => exact HC0_2.out); rintro e w34 ⟨v121, rfl, ho0, hb⟩; refine ⟨_, rfl, ?_⟩; have n0_ := aK (Kd.R_elder' (pR ((Kd.R_mono (Kd.R_far (p := ⟨gb117, 2, none⟩) (Kd.R_far (p := ⟨gb117, 1, none⟩) (Kd.R_far (p := ⟨gb117, 0, none⟩) (Kd.R_types HO108.out BK117.out (by decide)) (fun _ hk => hk.2) (.int .i64 t111)) (fun _ hk => hk.2) (.int .i64 t112)) (fun _ hk => hk.2) (.slice Ao30 t113.length co30)) (fun _ h_ => h_.1)))) (Kd.R_base ho0) hb); have n1_ := aK (Kd.R_elder' (pR ((Kd.R_mono (Kd.R_far (p := ⟨gb117, 2, none⟩) (Kd.R_far (p := ⟨gb117, 1, none⟩) (Kd.R_far (p := ⟨gb117, 0, none⟩) (Kd.R_types HO115.out BK117.out (by decide)) (fun _ hk => hk.2) (.int .i64 t111)) (fun _ hk => hk.2) (.int .i64 t112)) (fun _ hk => hk.2) (.slice Ao30 t113.length co30)) (fun _ h_ => h_.1)))) (Kd.R_base ho0) hb); have HO122 := aK (Kd.R_lower (Kd.R_new' (Kd.R_new' ho0 (Kd.R_lt (pR ((Kd.R_mono (Kd.R_far (p := ⟨gb117, 2, none⟩) (Kd.R_far (p := ⟨gb117, 1, none⟩) (Kd.R_far (p := ⟨gb117, 0, none⟩) (Kd.R_types HO108.out BK117.out (by decide)) (fun _ hk => hk.2) (.int .i64 t111)) (fun _ hk => hk.2) (.int .i64 t112)) (fun _ hk => hk.2) (.slice Ao30 t113.length co30)) (fun _ h_ => h_.1)))))) (Kd.R_lt (pR ((Kd.R_mono (Kd.R_far (p := ⟨gb117, 2, none⟩) (Kd.R_far (p := ⟨gb117, 1, none⟩) (Kd.R_far (p := ⟨gb117, 0, none⟩) (Kd.R_types HO115.out BK117.out (by decide)) (fun _ hk => hk.2) (.int .i64 t111)) (fun _ hk => hk.2) (.int .i64 t112)) (fun _ hk => hk.2) (.slice Ao30 t113.length co30)) (fun _ h_ => h_.1)))))) (below_size (pS HB.out))); have n3_ := aK (blk_below (g := gb101) (o := .cells #[.int .i64 a0_0, .int .i64 a0_1, .slice A0_2 l0_2.length c0_2] 38 (0, 0)) (by (with_reducible repeat (first | refine blk_drewN ?_ _ | refine blk_drew ?_ | refine blk_alloc ?_ _)); refine blk_far ?_ NB101_117.out _; (with_reducible repeat (first | refine blk_drewN ?_ _ | refine blk_drew ?_ | refine blk_alloc ?_ _)); refine blk_far ?_ NB101_117.out _; (with_reducible repeat (first | refine blk_drewN ?_ _ | refine blk_drew ?_ | refine blk_alloc ?_ _)); refine blk_far ?_ NB101_117.out _; (with_reducible repeat (first | refine blk_drewN ?_ _ | refine blk_drew ?_ | refine blk_alloc ?_ _)); exact BK101.out) hb); have n4_ := aK (blk_below (g := gb102) (o := .cells #[.int .i64 a1_0, .int .i64 a1_1] 40 (0, 0)) (by (with_reducible repeat (first | refine blk_drewN ?_ _ | refine blk_drew ?_ | refine blk_alloc ?_ _)); refine blk_far ?_ NB102_117.out _; (with_reducible repeat (first | refine blk_drewN ?_ _ | refine blk_drew ?_ | refine blk_alloc ?_ _)); refine blk_far ?_ NB102_117.out _; (with_reducible repeat (first | refine blk_drewN ?_ _ | refine blk_drew ?_ | refine blk_alloc ?_ _)); refine blk_far ?_ NB102_117.out _; (with_reducible repeat (first | refine blk_drewN ?_ _ | refine blk_drew ?_ | refine blk_alloc ?_ _)); exact BK102.out) hb); have n5_ := aK (blk_below (g := gb117) (o := .cells #[.int .i64 t111, .int .i64 t112, .slice Ao30 t113.length co30] 42 (0, 0)) (by (with_reducible repeat (first | refine blk_drewN ?_ _ | refine blk_drew ?_ | refine blk_alloc ?_ _)); refine blk_put (cs := #[.int .i64 t111, .int .i64 t112, .slice none 0 0]) ?_ 2 _ rfl; (with_reducible repeat (first | refine blk_drewN ?_ _ | refine blk_drew ?_ | refine blk_alloc ?_ _)); refine blk_put (cs := #[.int .i64 t111, .int .i64 0, .slice none 0 0]) ?_ 1 _ rfl; (with_reducible repeat (first | refine blk_drewN ?_ _ | refine blk_drew ?_ | refine blk_alloc ?_ _)); refine blk_put (cs := #[.int .i64 0, .int .i64 0, .slice none 0 0]) ?_ 0 _ rfl; (with_reducible repeat (first | refine blk_drewN ?_ _ | refine blk_drew ?_ | refine blk_alloc ?_ _)); exact BK117.out) hb); replace HB := bS HB hb; clear HO108 HO115 BK101 BK102 BK117; have HO108 := n0_; have HO115 := n1_; have BK101 := n3_; have BK102 := n4_; have BK117 := n5_; clear n0_ n1_ n3_ n4_ n5_; (try clear hb); (try clear hb2); (try clear hk); (try clear hi); (try clear ho0)) | ((with_reducible refine gate_dst (N := 8) rfl ?_); refine box_event ?hg (N := 8) ?hd (cs := #[.int .i64 0, .int .i64 0, .slice none 0 0]) (t := 42) ?hr ?_; (case hd => rfl); (case hg => rfl); (case hr => first | (go_simp; done) | (go_simp; rfl)); intro gb123 hg w35 hbox hb; have n0_ := aK (Kd.R_below (pR HO108.out) hb); have n1_ := aK (Kd.R_below (pR HO115.out) hb); have n2_ := aK (Kd.R_below (pR HO122.out) hb); have BK123 := aK (hbox); have GW123 := aK (gE hg (pS HB.out)); have GE123 := aK (gE hg (pS HB.out)); have NB101_123 := aK (nL hg (pB BK101.out)); have NB123_101 := aK (nG hg (pB BK101.out)); have NB102_123 := aK (nL hg (pB BK102.out)); have NB123_102 := aK (nG hg (pB BK102.out)); have NB117_123 := aK (nL hg (pB BK117.out)); have NB123_117 := aK (nG hg (pB BK117.out)); replace BK101 := bB BK101 hb; replace BK102 := bB BK102 hb; replace BK117 := bB BK117 hb; replace HB := bS HB hb; clear HO108 HO115 HO122; have HO108 := n0_; have HO115 := n1_; have HO122 := n2_; clear n0_ n1_ n2_ hb hbox hg; have hnb36 := NB123_101.out; have hnc36 := NB101_123.out; have hnb37 := NB123_102.out; have hnc37 := NB102_123.out; have hnb38 := NB123_117.out; have hnc38 := NB117_123.out; have hcz39_0 : w35.cell? ⟨gb123, 0, none⟩ = some (.int .i64 0) := (blk_cell BK123.out 0).trans rfl; have hcz39_1 : w35.cell? ⟨gb123, 1, none⟩ = some (.int .i64 0) := (blk_cell BK123.out 1).trans rfl; have hcz39_2 : w35.cell? ⟨gb123, 2, none⟩ = some (.slice none 0 0) := (blk_cell BK123.out 2).trans rfl; have hfz39_0 := blk_frozen BK123.out 0; have hfz39_1 := blk_frozen BK123.out 1; have hfz39_2 := blk_frozen BK123.out 2; obtain ⟨Ao40, co40, eo40⟩ := Kd.R_slice HO122.out; subst eo40))
  have n0_ : Aside0 (Kd.R (Kd.int .i64) 3 (((w35.setCell ⟨gb123, 0, none⟩ (.int .i64 t118)).setCell ⟨gb123, 1, none⟩ (.int .i64 t119)).setCell ⟨gb123, 2, none⟩ (.slice Ao40 t120.length co40)) w.heap.size (fun k_ => some k_ ≠ (.slice Ao30 t113.length co30 : Value).ownBlock ∧ some k_ ≠ (.slice Ao40 t120.length co40 : Value).ownBlock) v107 t106) := ⟨by (with_reducible repeat (first | apply Kd.R_alloc | apply Kd.R_drewN | apply Kd.R_drew)); exact Kd.R_mono (Kd.R_far (p := ⟨gb123, 2, none⟩) (Kd.R_far (p := ⟨gb123, 1, none⟩) (Kd.R_far (p := ⟨gb123, 0, none⟩) (Kd.R_types HO108.out BK123.out (by decide)) (fun _ hk => hk.2) (.int .i64 t118)) (fun _ hk => hk.2) (.int .i64 t119)) (fun _ hk => hk.2) (.slice Ao40 t120.length co40)) (fun _ hk => ⟨hk.1.1, hk.1.2⟩)⟩
  have n1_ : Aside0 (Kd.R (Kd.int .i64) 3 (((w35.setCell ⟨gb123, 0, none⟩ (.int .i64 t118)).setCell ⟨gb123, 1, none⟩ (.int .i64 t119)).setCell ⟨gb123, 2, none⟩ (.slice Ao40 t120.length co40)) w.heap.size (fun k_ => some k_ ≠ (v107 : Value).ownBlock ∧ some k_ ≠ (.slice Ao40 t120.length co40 : Value).ownBlock) (.slice Ao30 t113.length co30) t113) := ⟨by (with_reducible repeat (first | apply Kd.R_alloc | apply Kd.R_drewN | apply Kd.R_drew)); exact Kd.R_mono (Kd.R_far (p := ⟨gb123, 2, none⟩) (Kd.R_far (p := ⟨gb123, 1, none⟩) (Kd.R_far (p := ⟨gb123, 0, none⟩) (Kd.R_types HO115.out BK123.out (by decide)) (fun _ hk => hk.2) (.int .i64 t118)) (fun _ hk => hk.2) (.int .i64 t119)) (fun _ hk => hk.2) (.slice Ao40 t120.length co40)) (fun _ hk => ⟨hk.1.1, hk.1.2⟩)⟩
  have n2_ : Aside0 (Kd.R (Kd.int .i64) 3 (((w35.setCell ⟨gb123, 0, none⟩ (.int .i64 t118)).setCell ⟨gb123, 1, none⟩ (.int .i64 t119)).setCell ⟨gb123, 2, none⟩ (.slice Ao40 t120.length co40)) w.heap.size (fun k_ => some k_ ≠ (v107 : Value).ownBlock ∧ some k_ ≠ (.slice Ao30 t113.length co30 : Value).ownBlock) (.slice Ao40 t120.length co40) t120) := ⟨by (with_reducible repeat (first | apply Kd.R_alloc | apply Kd.R_drewN | apply Kd.R_drew)); exact Kd.R_mono (Kd.R_far (p := ⟨gb123, 2, none⟩) (Kd.R_far (p := ⟨gb123, 1, none⟩) (Kd.R_far (p := ⟨gb123, 0, none⟩) (Kd.R_types HO122.out BK123.out (by decide)) (fun _ hk => hk.2) (.int .i64 t118)) (fun _ hk => hk.2) (.int .i64 t119)) (fun _ hk => hk.2) (.slice Ao40 t120.length co40)) (fun _ hk => ⟨hk.1.1.2, hk.1.2⟩)⟩
  have n3_ : Aside0 ((((w35.setCell ⟨gb123, 0, none⟩ (.int .i64 t118)).setCell ⟨gb123, 1, none⟩ (.int .i64 t119)).setCell ⟨gb123, 2, none⟩ (.slice Ao40 t120.length co40)).heap[gb101]? = some (.cells #[.int .i64 a0_0, .int .i64 a0_1, .slice A0_2 l0_2.length c0_2] 38 (0, 0))) := ⟨by (with_reducible repeat (first | refine blk_drewN ?_ _ | refine blk_drew ?_ | refine blk_alloc ?_ _)); refine blk_far ?_ NB101_123.out _; (with_reducible repeat (first | refine blk_drewN ?_ _ | refine blk_drew ?_ | refine blk_alloc ?_ _)); refine blk_far ?_ NB101_123.out _; (with_reducible repeat (first | refine blk_drewN ?_ _ | refine blk_drew ?_ | refine blk_alloc ?_ _)); refine blk_far ?_ NB101_123.out _; (with_reducible repeat (first | refine blk_drewN ?_ _ | refine blk_drew ?_ | refine blk_alloc ?_ _)); exact BK101.out⟩
  have n4_ : Aside0 ((((w35.setCell ⟨gb123, 0, none⟩ (.int .i64 t118)).setCell ⟨gb123, 1, none⟩ (.int .i64 t119)).setCell ⟨gb123, 2, none⟩ (.slice Ao40 t120.length co40)).heap[gb102]? = some (.cells #[.int .i64 a1_0, .int .i64 a1_1] 40 (0, 0))) := ⟨by (with_reducible repeat (first | refine blk_drewN ?_ _ | refine blk_drew ?_ | refine blk_alloc ?_ _)); refine blk_far ?_ NB102_123.out _; (with_reducible repeat (first | refine blk_drewN ?_ _ | refine blk_drew ?_ | refine blk_alloc ?_ _)); refine blk_far ?_ NB102_123.out _; (with_reducible repeat (first | refine blk_drewN ?_ _ | refine blk_drew ?_ | refine blk_alloc ?_ _)); refine blk_far ?_ NB102_123.out _; (with_reducible repeat (first | refine blk_drewN ?_ _ | refine blk_drew ?_ | refine blk_alloc ?_ _)); exact BK102.out⟩
  have n5_ : Aside0 ((((w35.setCell ⟨gb123, 0, none⟩ (.int .i64 t118)).setCell ⟨gb123, 1, none⟩ (.int .i64 t119)).setCell ⟨gb123, 2, none⟩ (.slice Ao40 t120.length co40)).heap[gb117]? = some (.cells #[.int .i64 t111, .int .i64 t112, .slice Ao30 t113.length co30] 42 (0, 0))) := ⟨by (with_reducible repeat (first | refine blk_drewN ?_ _ | refine blk_drew ?_ | refine blk_alloc ?_ _)); refine blk_far ?_ NB117_123.out _; (with_reducible repeat (first | refine blk_drewN ?_ _ | refine blk_drew ?_ | refine blk_alloc ?_ _)); refine blk_far ?_ NB117_123.out _; (with_reducible repeat (first | refine blk_drewN ?_ _ | refine blk_drew ?_ | refine blk_alloc ?_ _)); refine blk_far ?_ NB117_123.out _; (with_reducible repeat (first | refine blk_drewN ?_ _ | refine blk_drew ?_ | refine blk_alloc ?_ _)); exact BK117.out⟩
  have n6_ : Aside0 ((((w35.setCell ⟨gb123, 0, none⟩ (.int .i64 t118)).setCell ⟨gb123, 1, none⟩ (.int .i64 t119)).setCell ⟨gb123, 2, none⟩ (.slice Ao40 t120.length co40)).heap[gb123]? = some (.cells #[.int .i64 t118, .int .i64 t119, .slice Ao40 t120.length co40] 42 (0, 0))) := ⟨by (with_reducible repeat (first | refine blk_drewN ?_ _ | refine blk_drew ?_ | refine blk_alloc ?_ _)); refine blk_put (cs := #[.int .i64 t118, .int .i64 t119, .slice none 0 0]) ?_ 2 _ rfl; (with_reducible repeat (first | refine blk_drewN ?_ _ | refine blk_drew ?_ | refine blk_alloc ?_ _)); refine blk_put (cs := #[.int .i64 t118, .int .i64 0, .slice none 0 0]) ?_ 1 _ rfl; (with_reducible repeat (first | refine blk_drewN ?_ _ | refine blk_drew ?_ | refine blk_alloc ?_ _)); refine blk_put (cs := #[.int .i64 0, .int .i64 0, .slice none 0 0]) ?_ 0 _ rfl; (with_reducible repeat (first | refine blk_drewN ?_ _ | refine blk_drew ?_ | refine blk_alloc ?_ _)); exact BK123.out⟩
  have n7_ : Aside0 (Below w.heap.size w (((w35.setCell ⟨gb123, 0, none⟩ (.int .i64 t118)).setCell ⟨gb123, 1, none⟩ (.int .i64 t119)).setCell ⟨gb123, 2, none⟩ (.slice Ao40 t120.length co40))) := ⟨by repeat (first | (with_reducible first | exact HB.out | apply below_alloc | apply pw_below_drewN | apply below_drew1 | refine below_set ?_ GE101.out | refine below_set ?_ GE102.out | refine below_set ?_ GE117.out | refine below_set ?_ GE123.out) | exact HB.out)⟩
  (try clear HO108)
  (try clear HO115)
  (try clear HO122)
  (try clear BK101)
  (try clear BK102)
  (try clear BK117)
  (try clear BK123)
  (try clear HB)
  generalize (((w35.setCell ⟨gb123, 0, none⟩ (.int .i64 t118)).setCell ⟨gb123, 1, none⟩ (.int .i64 t119)).setCell ⟨gb123, 2, none⟩ (.slice Ao40 t120.length co40)) = w41 at n0_ n1_ n2_ n3_ n4_ n5_ n6_ n7_ ⊢
  have HO108 := n0_
  have HO115 := n1_
  have HO122 := n2_
  have BK101 := n3_
  have BK102 := n4_
  have BK117 := n5_
  have BK123 := n6_
  have HB := n7_
  clear n0_ n1_ n2_ n3_ n4_ n5_ n6_ n7_
  have n0_ := aK (Kd.R_drew HO108.out)
  have n1_ := aK (Kd.R_drew HO115.out)
  have n2_ := aK (Kd.R_drew HO122.out)
  have n3_ := aK (blk_drew BK101.out)
  have n4_ := aK (blk_drew BK102.out)
  have n5_ := aK (blk_drew BK117.out)
  have n6_ := aK (blk_drew BK123.out)
  have n7_ := aK (below_drew1 HB.out)
  clear HO108 HO115 HO122 BK101 BK102 BK117 BK123 HB
  have HO108 := n0_
  have HO115 := n1_
  have HO122 := n2_
  have BK101 := n3_
  have BK102 := n4_
  have BK117 := n5_
  have BK123 := n6_
  have HB := n7_
  clear n0_ n1_ n2_ n3_ n4_ n5_ n6_ n7_
  refine start_ (n := 10) (S := fun w' => w'.cell? ⟨gb123, 0, none⟩ = some (.int .i64 t118) ∧ w'.cell? ⟨gb123, 1, none⟩ = some (.int .i64 t119) ∧ w'.cell? ⟨gb123, 2, none⟩ = some (.slice Ao40 t120.length co40) ∧ w'.cell? ⟨gb102, 0, none⟩ = some (.int .i64 a1_0) ∧ w'.cell? ⟨gb102, 1, none⟩ = some (.int .i64 a1_1)) (ds := []) #[false, false, false, false, false, false, false, false, false, false] (by kernel_rfl) rfl rfl ⟨(blk_cell BK123.out 0).trans rfl, (blk_cell BK123.out 1).trans rfl, (blk_cell BK123.out 2).trans rfl, (blk_cell BK102.out 0).trans rfl, (blk_cell BK102.out 1).trans rfl⟩ (fun hHeld => ?_); refine with_tabW laws_FnExactMoveField.tab7 laws_FnExactMoveField.bits7 (fun HT_ HW_ => ?_)
  generalize w41.drew = w42 at HO108 HO115 HO122 BK101 BK102 BK117 BK123 HB hHeld ⊢
  refine take_ (i := 0) (N := some 32) (v := ?_) (a' := ?_) #[true, false, false, false, false, false, false, false, false, false] rfl rfl (take_ofW HT_.out HW_.out (by kernel_rfl)) (fun _ _ _ h => h) (Or.inl ⟨by rfl, ?_⟩) hHeld ?_ ?_
  rotate_left
  ·
   rintro w' ⟨s0, s1, s2, s3, s4⟩
   go_simp
   with_reducible rfl
  rotate_left
  ·
   simp only [Act.put, List.setIfInBounds_toArray, List.set_cons_zero, List.set_cons_succ, i64_w, i32_w]
   rfl
  refine take_ (i := 1) (N := some 33) (v := ?_) (a' := ?_) #[true, true, false, false, false, false, false, false, false, false] rfl rfl (take_ofW HT_.out HW_.out (by kernel_rfl)) (fun _ _ _ h => h) (Or.inl ⟨by rfl, ?_⟩) hHeld ?_ ?_
  rotate_left
  ·
   rintro w' ⟨s0, s1, s2, s3, s4⟩
   go_simp
   with_reducible rfl
  rotate_left
  ·
   simp only [Act.put, List.setIfInBounds_toArray, List.set_cons_zero, List.set_cons_succ, i64_w, i32_w]
   rfl
  refine join_ (σ := Value × Nat) 2 #[true, true, true, true, true, true, true, true, false, false] (fun s_ => [(34, .agg #[.int .i64 t124, .int .i64 t125]), (35, .tuple #[.agg #[.int .i64 t126, .int .i64 t127, s_.1], .bool t131]), (9, .pointer (some ⟨s_.2, 0, none⟩)), (31, .tuple #[.agg #[.int .i64 t126, .int .i64 t127, s_.1], .bool t131]), (36, .agg #[.int .i64 t126, .int .i64 t127, s_.1]), (37, .bool t131)]) (fun s_ w' => (w'.cell? ⟨gb123, 0, none⟩ = some (.int .i64 t118) ∧ w'.cell? ⟨gb123, 1, none⟩ = some (.int .i64 t119) ∧ w'.cell? ⟨gb123, 2, none⟩ = some (.slice Ao40 t120.length co40) ∧ w'.cell? ⟨gb102, 0, none⟩ = some (.int .i64 a1_0) ∧ w'.cell? ⟨gb102, 1, none⟩ = some (.int .i64 a1_1)) ∧ (Kd.R (Kd.int .i64) 3 w' w.heap.size (fun k_ => some k_ ≠ (.slice Ao30 t113.length co30 : Value).ownBlock ∧ some k_ ≠ (.slice Ao40 t120.length co40 : Value).ownBlock ∧ some k_ ≠ (s_.1 : Value).ownBlock) v107 t106) ∧ (Kd.R (Kd.int .i64) 3 w' w.heap.size (fun k_ => some k_ ≠ (v107 : Value).ownBlock ∧ some k_ ≠ (.slice Ao40 t120.length co40 : Value).ownBlock ∧ some k_ ≠ (s_.1 : Value).ownBlock) (.slice Ao30 t113.length co30) t113) ∧ (Kd.R (Kd.int .i64) 3 w' w.heap.size (fun k_ => some k_ ≠ (v107 : Value).ownBlock ∧ some k_ ≠ (.slice Ao30 t113.length co30 : Value).ownBlock ∧ some k_ ≠ (s_.1 : Value).ownBlock) (.slice Ao40 t120.length co40) t120) ∧ (Kd.R (Kd.int .i64) 3 w' w.heap.size (fun k_ => some k_ ≠ (v107 : Value).ownBlock ∧ some k_ ≠ (.slice Ao30 t113.length co30 : Value).ownBlock ∧ some k_ ≠ (.slice Ao40 t120.length co40 : Value).ownBlock) s_.1 t128) ∧ (w'.heap[gb101]? = some (.cells #[.int .i64 a0_0, .int .i64 a0_1, .slice A0_2 l0_2.length c0_2] 38 (0, 0))) ∧ (w'.heap[gb102]? = some (.cells #[.int .i64 a1_0, .int .i64 a1_1] 40 (0, 0))) ∧ (w'.heap[gb117]? = some (.cells #[.int .i64 t111, .int .i64 t112, .slice Ao30 t113.length co30] 42 (0, 0))) ∧ (w'.heap[gb123]? = some (.cells #[.int .i64 t118, .int .i64 t119, .slice Ao40 t120.length co40] 42 (0, 0))) ∧ (w'.heap[s_.2]? = some (.cells #[.int .i64 0, .int .i64 0, .slice none 0 0] 42 (0, 0))) ∧ (w.heap.size ≤ s_.2) ∧ (w.heap.size ≤ s_.2) ∧ (gb101 ≠ s_.2) ∧ (s_.2 ≠ gb101) ∧ (gb102 ≠ s_.2) ∧ (s_.2 ≠ gb102) ∧ (gb117 ≠ s_.2) ∧ (s_.2 ≠ gb117) ∧ (gb123 ≠ s_.2) ∧ (s_.2 ≠ gb123) ∧ (Below w.heap.size w w')) ?_ ?_
  rotate_left
  ·
   intro hCont
   refine two_ (i := 2) (j := 7) (Ni := some 34) (Nj := some 9) #[true, true, true, false, false, false, false, false, false, false] #[true, true, false, false, false, false, false, true, false, false] rfl rfl rfl rfl (two_of HT_.out (by kernel_rfl)) (by decide) (by decide) (fun K hK => ?_) (fun K hK => ?_)
   ·
    skip
    refine goes_ Try.func29 (by kernel_rfl) rfl #[.agg #[.int .i64 a1_0, .int .i64 a1_1]] (by rfl) rfl rfl (by (try simp only [List.map_toArray, List.map_cons, List.map_nil]); first | done | rfl | (simp only [List.length_drop, List.length_take]; rfl)) ?_
    with_reducible refine (laws_toMotion.calls a1_0 a1_1 t124 t125 _ A13.out).mono ?_
    rintro e w43 ⟨rfl, hb⟩
    refine ⟨_, rfl, ?_⟩
    have n0_ := aK (Kd.R_below (pR HO108.out) hb)
    have n1_ := aK (Kd.R_below (pR HO115.out) hb)
    have n2_ := aK (Kd.R_below (pR HO122.out) hb)
    replace BK101 := bB BK101 hb
    replace BK102 := bB BK102 hb
    replace BK117 := bB BK117 hb
    replace BK123 := bB BK123 hb
    replace HB := bS HB hb
    clear HO108 HO115 HO122
    have HO108 := n0_
    have HO115 := n1_
    have HO122 := n2_
    clear n0_ n1_ n2_
    (try clear hb)
    (try clear hb2)
    (try clear hk)
    (try clear hi)
    refine hK.out _ _ ⟨(blk_cell BK123.out 0).trans rfl, (blk_cell BK123.out 1).trans rfl, (blk_cell BK123.out 2).trans rfl, (blk_cell BK102.out 0).trans rfl, (blk_cell BK102.out 1).trans rfl⟩ (fun hHeld => ?_)
    clear hK K
    refine norm_ (a' := ?_) ?_ ?_
    rotate_left
    ·
     show Act.put _ (some 34) _ = _
     simp only [Act.put, List.setIfInBounds_toArray, List.set_cons_zero, List.set_cons_succ, i64_w, i32_w]
     rfl
    refine two_ (i := 3) (j := 7) (Ni := some 35) (Nj := some 9) #[true, true, true, true, false, false, false, false, false, false] #[true, true, true, false, false, false, false, true, false, false] rfl rfl rfl rfl (two_of HT_.out (by kernel_rfl)) (by decide) (by decide) (fun K hK => ?_) (fun K hK => ?_)
    ·
     skip
     refine goes_ Try.func30 (by kernel_rfl) rfl #[.agg #[.int .i64 t118, .int .i64 t119, .slice Ao40 t120.length co40], .agg #[.int .i64 t124, .int .i64 t125]] (by rfl) rfl rfl (by (try simp only [List.map_toArray, List.map_cons, List.map_nil]); first | done | rfl | (simp only [List.length_drop, List.length_take]; rfl)) ?_
     with_reducible refine (impl_MoveField.calls k t118 t119 _ _ t120 t124 t125 t126 t127 t128 t131 _ ?side1 ?side2 A14.out).mono ?_
     (case side1 => repeat (first | exact (Kd.R_reads' HO122.out).2.2 | (with_reducible refine Kd.C_alloc ?_ _) | (with_reducible refine Kd.C_drewN ?_ _) | (with_reducible refine Kd.C_drew ?_)))
     (case side2 => exact (Kd.R_reads' HO122.out).2.1)
     rintro e w44 ⟨v129, rfl, ho0, hb⟩
     refine ⟨_, rfl, ?_⟩
     have n0_ := aK (Kd.R_elder' (pR HO108.out) (Kd.R_base ho0) hb)
     have n1_ := aK (Kd.R_elder' (pR HO115.out) (Kd.R_base ho0) hb)
     have n2_ := aK (Kd.R_elder' (pR HO122.out) (Kd.R_base ho0) hb)
     have HO130 := aK (Kd.R_lower (Kd.R_new' (Kd.R_new' (Kd.R_new' ho0 (Kd.R_lt (pR HO108.out))) (Kd.R_lt (pR HO115.out))) (Kd.R_lt (pR HO122.out))) (below_size (pS HB.out)))
     replace BK101 := bB BK101 hb
     replace BK102 := bB BK102 hb
     replace BK117 := bB BK117 hb
     replace BK123 := bB BK123 hb
     replace HB := bS HB hb
     clear HO108 HO115 HO122
     have HO108 := n0_
     have HO115 := n1_
     have HO122 := n2_
     clear n0_ n1_ n2_
     (try clear hb)
     (try clear hb2)
     (try clear hk)
     (try clear hi)
     (try clear ho0)
     refine hK.out _ _ ⟨(blk_cell BK123.out 0).trans rfl, (blk_cell BK123.out 1).trans rfl, (blk_cell BK123.out 2).trans rfl, (blk_cell BK102.out 0).trans rfl, (blk_cell BK102.out 1).trans rfl⟩ (fun hHeld => ?_)
     clear hK K
     refine norm_ (a' := ?_) ?_ ?_
     rotate_left
     ·
      show Act.put _ (some 35) _ = _
      simp only [Act.put, List.setIfInBounds_toArray, List.set_cons_zero, List.set_cons_succ, i64_w, i32_w]
      rfl
     refine pure_ (i := 4) (N := some 31) (v := ?_) (a' := ?_) #[true, true, true, true, true, false, false, false, false, false] rfl rfl (any_of HT_.out (by kernel_rfl)) (fun _ _ _ h => h) (Or.inl ⟨by rfl, ?_⟩) ?_ ?_
     rotate_left
     ·
      intro w'
      go_simp
      with_reducible rfl
     rotate_left
     ·
      simp only [Act.put, List.setIfInBounds_toArray, List.set_cons_zero, List.set_cons_succ, i64_w, i32_w]
      rfl
     refine pure_ (i := 5) (N := some 36) (v := ?_) (a' := ?_) #[true, true, true, true, true, true, false, false, false, false] rfl rfl (any_of HT_.out (by kernel_rfl)) (fun _ _ _ h => h) (Or.inl ⟨by rfl, ?_⟩) ?_ ?_
     rotate_left
     ·
      intro w'
      go_simp
      with_reducible rfl
     rotate_left
     ·
      simp only [Act.put, List.setIfInBounds_toArray, List.set_cons_zero, List.set_cons_succ, i64_w, i32_w]
      rfl
     refine pure_ (i := 6) (N := some 37) (v := ?_) (a' := ?_) #[true, true, true, true, true, true, true, false, false, false] rfl rfl (any_of HT_.out (by kernel_rfl)) (fun _ _ _ h => h) (Or.inl ⟨by rfl, ?_⟩) ?_ ?_
     rotate_left
     ·
      intro w'
      go_simp
      with_reducible rfl
     rotate_left
     ·
      simp only [Act.put, List.setIfInBounds_toArray, List.set_cons_zero, List.set_cons_succ, i64_w, i32_w]
      rfl
     refine one_ (i := 7) (N := some 9) #[true, true, true, true, true, true, true, true, false, false] rfl rfl (one_of HT_.out (by kernel_rfl)) (by decide) (fun K hK => ?_)
     refine box_step ?hg (N := 9) ?hd (cs := #[.int .i64 0, .int .i64 0, .slice none 0 0]) (t := 42) ?hr ?_; (case hd => rfl); (case hg => rfl); (case hr => first | (go_simp; done) | (go_simp; rfl))
     intro gb132 hg w45 hbox hb
     have n0_ := aK (Kd.R_below (pR HO108.out) hb)
     have n1_ := aK (Kd.R_below (pR HO115.out) hb)
     have n2_ := aK (Kd.R_below (pR HO122.out) hb)
     have n3_ := aK (Kd.R_below (pR HO130.out) hb)
     have BK132 := aK (hbox)
     have GW132 := aK (gE hg (pS HB.out))
     have GE132 := aK (gE hg (pS HB.out))
     have NB101_132 := aK (nL hg (pB BK101.out))
     have NB132_101 := aK (nG hg (pB BK101.out))
     have NB102_132 := aK (nL hg (pB BK102.out))
     have NB132_102 := aK (nG hg (pB BK102.out))
     have NB117_132 := aK (nL hg (pB BK117.out))
     have NB132_117 := aK (nG hg (pB BK117.out))
     have NB123_132 := aK (nL hg (pB BK123.out))
     have NB132_123 := aK (nG hg (pB BK123.out))
     replace BK101 := bB BK101 hb
     replace BK102 := bB BK102 hb
     replace BK117 := bB BK117 hb
     replace BK123 := bB BK123 hb
     replace HB := bS HB hb
     clear HO108 HO115 HO122 HO130
     have HO108 := n0_
     have HO115 := n1_
     have HO122 := n2_
     have HO130 := n3_
     clear n0_ n1_ n2_ n3_ hb hbox hg
     refine hK.out _ _ ⟨(blk_cell BK123.out 0).trans rfl, (blk_cell BK123.out 1).trans rfl, (blk_cell BK123.out 2).trans rfl, (blk_cell BK102.out 0).trans rfl, (blk_cell BK102.out 1).trans rfl⟩ (fun hHeld => ?_)
     clear hK K
     refine norm_ (a' := ?_) ?_ ?_
     rotate_left
     ·
      show Act.put _ (some 9) _ = _
      simp only [Act.put, List.setIfInBounds_toArray, List.set_cons_zero, List.set_cons_succ, i64_w, i32_w]
      rfl
     exact norm_ (by simp only [putAll, Act.put, List.setIfInBounds_toArray, List.set_cons_zero, List.set_cons_succ]) (hCont (v129, gb132) _ ⟨hHeld, (pR (Kd.R_mono HO108.out (fun _ hk => ⟨hk.1.1, ⟨hk.1.2, hk.2⟩⟩))), (pR (Kd.R_mono HO115.out (fun _ hk => ⟨hk.1.1, ⟨hk.1.2, hk.2⟩⟩))), (pR (Kd.R_mono HO122.out (fun _ hk => ⟨hk.1.1, ⟨hk.1.2, hk.2⟩⟩))), (pR (Kd.R_mono HO130.out (fun _ hk => ⟨hk.1.1.2, ⟨hk.1.2, hk.2⟩⟩))), (pB BK101.out), (pB BK102.out), (pB BK117.out), (pB BK123.out), (pB BK132.out), GW132.out, GE132.out, NB101_132.out, NB132_101.out, NB102_132.out, NB132_102.out, NB117_132.out, NB132_117.out, NB123_132.out, NB132_123.out, (pS HB.out)⟩)
    ·
     skip
     refine box_step ?hg (N := 9) ?hd (cs := #[.int .i64 0, .int .i64 0, .slice none 0 0]) (t := 42) ?hr ?_; (case hd => rfl); (case hg => rfl); (case hr => first | (go_simp; done) | (go_simp; rfl))
     intro gb132 hg w44 hbox hb
     have n0_ := aK (Kd.R_below (pR HO108.out) hb)
     have n1_ := aK (Kd.R_below (pR HO115.out) hb)
     have n2_ := aK (Kd.R_below (pR HO122.out) hb)
     have BK132 := aK (hbox)
     have GW132 := aK (gE hg (pS HB.out))
     have GE132 := aK (gE hg (pS HB.out))
     have NB101_132 := aK (nL hg (pB BK101.out))
     have NB132_101 := aK (nG hg (pB BK101.out))
     have NB102_132 := aK (nL hg (pB BK102.out))
     have NB132_102 := aK (nG hg (pB BK102.out))
     have NB117_132 := aK (nL hg (pB BK117.out))
     have NB132_117 := aK (nG hg (pB BK117.out))
     have NB123_132 := aK (nL hg (pB BK123.out))
     have NB132_123 := aK (nG hg (pB BK123.out))
     replace BK101 := bB BK101 hb
     replace BK102 := bB BK102 hb
     replace BK117 := bB BK117 hb
     replace BK123 := bB BK123 hb
     replace HB := bS HB hb
     clear HO108 HO115 HO122
     have HO108 := n0_
     have HO115 := n1_
     have HO122 := n2_
     clear n0_ n1_ n2_ hb hbox hg
     refine hK.out _ _ ⟨(blk_cell BK123.out 0).trans rfl, (blk_cell BK123.out 1).trans rfl, (blk_cell BK123.out 2).trans rfl, (blk_cell BK102.out 0).trans rfl, (blk_cell BK102.out 1).trans rfl⟩ (fun hHeld => ?_)
     clear hK K
     refine norm_ (a' := ?_) ?_ ?_
     rotate_left
     ·
      show Act.put _ (some 9) _ = _
      simp only [Act.put, List.setIfInBounds_toArray, List.set_cons_zero, List.set_cons_succ, i64_w, i32_w]
      rfl
     refine one_ (i := 3) (N := some 35) #[true, true, true, true, false, false, false, true, false, false] rfl rfl (one_of HT_.out (by kernel_rfl)) (by decide) (fun K hK => ?_)
     refine goes_ Try.func30 (by kernel_rfl) rfl #[.agg #[.int .i64 t118, .int .i64 t119, .slice Ao40 t120.length co40], .agg #[.int .i64 t124, .int .i64 t125]] (by rfl) rfl rfl (by (try simp only [List.map_toArray, List.map_cons, List.map_nil]); first | done | rfl | (simp only [List.length_drop, List.length_take]; rfl)) ?_
     with_reducible refine (impl_MoveField.calls k t118 t119 _ _ t120 t124 t125 t126 t127 t128 t131 _ ?side1 ?side2 A14.out).mono ?_
     (case side1 => repeat (first | exact (Kd.R_reads' HO122.out).2.2 | (with_reducible refine Kd.C_alloc ?_ _) | (with_reducible refine Kd.C_drewN ?_ _) | (with_reducible refine Kd.C_drew ?_)))
     (case side2 => exact (Kd.R_reads' HO122.out).2.1)
     rintro e w45 ⟨v129, rfl, ho0, hb⟩
     refine ⟨_, rfl, ?_⟩
     have n0_ := aK (Kd.R_elder' (pR HO108.out) (Kd.R_base ho0) hb)
     have n1_ := aK (Kd.R_elder' (pR HO115.out) (Kd.R_base ho0) hb)
     have n2_ := aK (Kd.R_elder' (pR HO122.out) (Kd.R_base ho0) hb)
     have HO130 := aK (Kd.R_lower (Kd.R_new' (Kd.R_new' (Kd.R_new' ho0 (Kd.R_lt (pR HO108.out))) (Kd.R_lt (pR HO115.out))) (Kd.R_lt (pR HO122.out))) (below_size (pS HB.out)))
     replace BK101 := bB BK101 hb
     replace BK102 := bB BK102 hb
     replace BK117 := bB BK117 hb
     replace BK123 := bB BK123 hb
     replace BK132 := bB BK132 hb
     replace HB := bS HB hb
     clear HO108 HO115 HO122
     have HO108 := n0_
     have HO115 := n1_
     have HO122 := n2_
     clear n0_ n1_ n2_
     (try clear hb)
     (try clear hb2)
     (try clear hk)
     (try clear hi)
     (try clear ho0)
     refine hK.out _ _ ⟨(blk_cell BK123.out 0).trans rfl, (blk_cell BK123.out 1).trans rfl, (blk_cell BK123.out 2).trans rfl, (blk_cell BK102.out 0).trans rfl, (blk_cell BK102.out 1).trans rfl⟩ (fun hHeld => ?_)
     clear hK K
     refine norm_ (a' := ?_) ?_ ?_
     rotate_left
     ·
      show Act.put _ (some 35) _ = _
      simp only [Act.put, List.setIfInBounds_toArray, List.set_cons_zero, List.set_cons_succ, i64_w, i32_w]
      rfl
     refine pure_ (i := 4) (N := some 31) (v := ?_) (a' := ?_) #[true, true, true, true, true, false, false, true, false, false] rfl rfl (any_of HT_.out (by kernel_rfl)) (fun _ _ _ h => h) (Or.inl ⟨by rfl, ?_⟩) ?_ ?_
     rotate_left
     ·
      intro w'
      go_simp
      with_reducible rfl
     rotate_left
     ·
      simp only [Act.put, List.setIfInBounds_toArray, List.set_cons_zero, List.set_cons_succ, i64_w, i32_w]
      rfl
     refine pure_ (i := 5) (N := some 36) (v := ?_) (a' := ?_) #[true, true, true, true, true, true, false, true, false, false] rfl rfl (any_of HT_.out (by kernel_rfl)) (fun _ _ _ h => h) (Or.inl ⟨by rfl, ?_⟩) ?_ ?_
     rotate_left
     ·
      intro w'
      go_simp
      with_reducible rfl
     rotate_left
     ·
      simp only [Act.put, List.setIfInBounds_toArray, List.set_cons_zero, List.set_cons_succ, i64_w, i32_w]
      rfl
     refine pure_ (i := 6) (N := some 37) (v := ?_) (a' := ?_) #[true, true, true, true, true, true, true, true, false, false] rfl rfl (any_of HT_.out (by kernel_rfl)) (fun _ _ _ h => h) (Or.inl ⟨by rfl, ?_⟩) ?_ ?_
     rotate_left
     ·
      intro w'
      go_simp
      with_reducible rfl
     rotate_left
     ·
      simp only [Act.put, List.setIfInBounds_toArray, List.set_cons_zero, List.set_cons_succ, i64_w, i32_w]
      rfl
     exact norm_ (by simp only [putAll, Act.put, List.setIfInBounds_toArray, List.set_cons_zero, List.set_cons_succ]) (hCont (v129, gb132) _ ⟨hHeld, (pR (Kd.R_mono HO108.out (fun _ hk => ⟨hk.1.1, ⟨hk.1.2, hk.2⟩⟩))), (pR (Kd.R_mono HO115.out (fun _ hk => ⟨hk.1.1, ⟨hk.1.2, hk.2⟩⟩))), (pR (Kd.R_mono HO122.out (fun _ hk => ⟨hk.1.1, ⟨hk.1.2, hk.2⟩⟩))), (pR (Kd.R_mono HO130.out (fun _ hk => ⟨hk.1.1.2, ⟨hk.1.2, hk.2⟩⟩))), (pB BK101.out), (pB BK102.out), (pB BK117.out), (pB BK123.out), (pB BK132.out), GW132.out, GE132.out, NB101_132.out, NB132_101.out, NB102_132.out, NB132_102.out, NB117_132.out, NB132_117.out, NB123_132.out, NB132_123.out, (pS HB.out)⟩)
   ·
    skip
    refine box_step ?hg (N := 9) ?hd (cs := #[.int .i64 0, .int .i64 0, .slice none 0 0]) (t := 42) ?hr ?_; (case hd => rfl); (case hg => rfl); (case hr => first | (go_simp; done) | (go_simp; rfl))
    intro gb132 hg w43 hbox hb
    have n0_ := aK (Kd.R_below (pR HO108.out) hb)
    have n1_ := aK (Kd.R_below (pR HO115.out) hb)
    have n2_ := aK (Kd.R_below (pR HO122.out) hb)
    have BK132 := aK (hbox)
    have GW132 := aK (gE hg (pS HB.out))
    have GE132 := aK (gE hg (pS HB.out))
    have NB101_132 := aK (nL hg (pB BK101.out))
    have NB132_101 := aK (nG hg (pB BK101.out))
    have NB102_132 := aK (nL hg (pB BK102.out))
    have NB132_102 := aK (nG hg (pB BK102.out))
    have NB117_132 := aK (nL hg (pB BK117.out))
    have NB132_117 := aK (nG hg (pB BK117.out))
    have NB123_132 := aK (nL hg (pB BK123.out))
    have NB132_123 := aK (nG hg (pB BK123.out))
    replace BK101 := bB BK101 hb
    replace BK102 := bB BK102 hb
    replace BK117 := bB BK117 hb
    replace BK123 := bB BK123 hb
    replace HB := bS HB hb
    clear HO108 HO115 HO122
    have HO108 := n0_
    have HO115 := n1_
    have HO122 := n2_
    clear n0_ n1_ n2_ hb hbox hg
    refine hK.out _ _ ⟨(blk_cell BK123.out 0).trans rfl, (blk_cell BK123.out 1).trans rfl, (blk_cell BK123.out 2).trans rfl, (blk_cell BK102.out 0).trans rfl, (blk_cell BK102.out 1).trans rfl⟩ (fun hHeld => ?_)
    clear hK K
    refine norm_ (a' := ?_) ?_ ?_
    rotate_left
    ·
     show Act.put _ (some 9) _ = _
     simp only [Act.put, List.setIfInBounds_toArray, List.set_cons_zero, List.set_cons_succ, i64_w, i32_w]
     rfl
    refine one_ (i := 2) (N := some 34) #[true, true, true, false, false, false, false, true, false, false] rfl rfl (one_of HT_.out (by kernel_rfl)) (by decide) (fun K hK => ?_)
    refine goes_ Try.func29 (by kernel_rfl) rfl #[.agg #[.int .i64 a1_0, .int .i64 a1_1]] (by rfl) rfl rfl (by (try simp only [List.map_toArray, List.map_cons, List.map_nil]); first | done | rfl | (simp only [List.length_drop, List.length_take]; rfl)) ?_
    with_reducible refine (laws_toMotion.calls a1_0 a1_1 t124 t125 _ A13.out).mono ?_
    rintro e w44 ⟨rfl, hb⟩
    refine ⟨_, rfl, ?_⟩
    have n0_ := aK (Kd.R_below (pR HO108.out) hb)
    have n1_ := aK (Kd.R_below (pR HO115.out) hb)
    have n2_ := aK (Kd.R_below (pR HO122.out) hb)
    replace BK101 := bB BK101 hb
    replace BK102 := bB BK102 hb
    replace BK117 := bB BK117 hb
    replace BK123 := bB BK123 hb
    replace BK132 := bB BK132 hb
    replace HB := bS HB hb
    clear HO108 HO115 HO122
    have HO108 := n0_
    have HO115 := n1_
    have HO122 := n2_
    clear n0_ n1_ n2_
    (try clear hb)
    (try clear hb2)
    (try clear hk)
    (try clear hi)
    refine hK.out _ _ ⟨(blk_cell BK123.out 0).trans rfl, (blk_cell BK123.out 1).trans rfl, (blk_cell BK123.out 2).trans rfl, (blk_cell BK102.out 0).trans rfl, (blk_cell BK102.out 1).trans rfl⟩ (fun hHeld => ?_)
    clear hK K
    refine norm_ (a' := ?_) ?_ ?_
    rotate_left
    ·
     show Act.put _ (some 34) _ = _
     simp only [Act.put, List.setIfInBounds_toArray, List.set_cons_zero, List.set_cons_succ, i64_w, i32_w]
     rfl
    refine one_ (i := 3) (N := some 35) #[true, true, true, true, false, false, false, true, false, false] rfl rfl (one_of HT_.out (by kernel_rfl)) (by decide) (fun K hK => ?_)
    refine goes_ Try.func30 (by kernel_rfl) rfl #[.agg #[.int .i64 t118, .int .i64 t119, .slice Ao40 t120.length co40], .agg #[.int .i64 t124, .int .i64 t125]] (by rfl) rfl rfl (by (try simp only [List.map_toArray, List.map_cons, List.map_nil]); first | done | rfl | (simp only [List.length_drop, List.length_take]; rfl)) ?_
    with_reducible refine (impl_MoveField.calls k t118 t119 _ _ t120 t124 t125 t126 t127 t128 t131 _ ?side1 ?side2 A14.out).mono ?_
    (case side1 => repeat (first | exact (Kd.R_reads' HO122.out).2.2 | (with_reducible refine Kd.C_alloc ?_ _) | (with_reducible refine Kd.C_drewN ?_ _) | (with_reducible refine Kd.C_drew ?_)))
    (case side2 => exact (Kd.R_reads' HO122.out).2.1)
    rintro e w45 ⟨v129, rfl, ho0, hb⟩
    refine ⟨_, rfl, ?_⟩
    have n0_ := aK (Kd.R_elder' (pR HO108.out) (Kd.R_base ho0) hb)
    have n1_ := aK (Kd.R_elder' (pR HO115.out) (Kd.R_base ho0) hb)
    have n2_ := aK (Kd.R_elder' (pR HO122.out) (Kd.R_base ho0) hb)
    have HO130 := aK (Kd.R_lower (Kd.R_new' (Kd.R_new' (Kd.R_new' ho0 (Kd.R_lt (pR HO108.out))) (Kd.R_lt (pR HO115.out))) (Kd.R_lt (pR HO122.out))) (below_size (pS HB.out)))
    replace BK101 := bB BK101 hb
    replace BK102 := bB BK102 hb
    replace BK117 := bB BK117 hb
    replace BK123 := bB BK123 hb
    replace BK132 := bB BK132 hb
    replace HB := bS HB hb
    clear HO108 HO115 HO122
    have HO108 := n0_
    have HO115 := n1_
    have HO122 := n2_
    clear n0_ n1_ n2_
    (try clear hb)
    (try clear hb2)
    (try clear hk)
    (try clear hi)
    (try clear ho0)
    refine hK.out _ _ ⟨(blk_cell BK123.out 0).trans rfl, (blk_cell BK123.out 1).trans rfl, (blk_cell BK123.out 2).trans rfl, (blk_cell BK102.out 0).trans rfl, (blk_cell BK102.out 1).trans rfl⟩ (fun hHeld => ?_)
    clear hK K
    refine norm_ (a' := ?_) ?_ ?_
    rotate_left
    ·
     show Act.put _ (some 35) _ = _
     simp only [Act.put, List.setIfInBounds_toArray, List.set_cons_zero, List.set_cons_succ, i64_w, i32_w]
     rfl
    refine pure_ (i := 4) (N := some 31) (v := ?_) (a' := ?_) #[true, true, true, true, true, false, false, true, false, false] rfl rfl (any_of HT_.out (by kernel_rfl)) (fun _ _ _ h => h) (Or.inl ⟨by rfl, ?_⟩) ?_ ?_
    rotate_left
    ·
     intro w'
     go_simp
     with_reducible rfl
    rotate_left
    ·
     simp only [Act.put, List.setIfInBounds_toArray, List.set_cons_zero, List.set_cons_succ, i64_w, i32_w]
     rfl
    refine pure_ (i := 5) (N := some 36) (v := ?_) (a' := ?_) #[true, true, true, true, true, true, false, true, false, false] rfl rfl (any_of HT_.out (by kernel_rfl)) (fun _ _ _ h => h) (Or.inl ⟨by rfl, ?_⟩) ?_ ?_
    rotate_left
    ·
     intro w'
     go_simp
     with_reducible rfl
    rotate_left
    ·
     simp only [Act.put, List.setIfInBounds_toArray, List.set_cons_zero, List.set_cons_succ, i64_w, i32_w]
     rfl
    refine pure_ (i := 6) (N := some 37) (v := ?_) (a' := ?_) #[true, true, true, true, true, true, true, true, false, false] rfl rfl (any_of HT_.out (by kernel_rfl)) (fun _ _ _ h => h) (Or.inl ⟨by rfl, ?_⟩) ?_ ?_
    rotate_left
    ·
     intro w'
     go_simp
     with_reducible rfl
    rotate_left
    ·
     simp only [Act.put, List.setIfInBounds_toArray, List.set_cons_zero, List.set_cons_succ, i64_w, i32_w]
     rfl
    exact norm_ (by simp only [putAll, Act.put, List.setIfInBounds_toArray, List.set_cons_zero, List.set_cons_succ]) (hCont (v129, gb132) _ ⟨hHeld, (pR (Kd.R_mono HO108.out (fun _ hk => ⟨hk.1.1, ⟨hk.1.2, hk.2⟩⟩))), (pR (Kd.R_mono HO115.out (fun _ hk => ⟨hk.1.1, ⟨hk.1.2, hk.2⟩⟩))), (pR (Kd.R_mono HO122.out (fun _ hk => ⟨hk.1.1, ⟨hk.1.2, hk.2⟩⟩))), (pR (Kd.R_mono HO130.out (fun _ hk => ⟨hk.1.1.2, ⟨hk.1.2, hk.2⟩⟩))), (pB BK101.out), (pB BK102.out), (pB BK117.out), (pB BK123.out), (pB BK132.out), GW132.out, GE132.out, NB101_132.out, NB132_101.out, NB102_132.out, NB132_102.out, NB117_132.out, NB132_117.out, NB123_132.out, NB132_123.out, (pS HB.out)⟩)
  rintro ⟨v129, gb132⟩ w46 ⟨hS_, h0_, h1_, h2_, h3_, h4_, h5_, h6_, h7_, h8_, h9_, h10_, h11_, h12_, h13_, h14_, h15_, h16_, h17_, h18_, h19_⟩
  have n0_ : Aside0 (Kd.R (Kd.int .i64) 3 w46 w.heap.size (fun k_ => some k_ ≠ (.slice Ao30 t113.length co30 : Value).ownBlock ∧ some k_ ≠ (.slice Ao40 t120.length co40 : Value).ownBlock ∧ some k_ ≠ (v129 : Value).ownBlock) v107 t106) := ⟨h0_⟩
  have n1_ : Aside0 (Kd.R (Kd.int .i64) 3 w46 w.heap.size (fun k_ => some k_ ≠ (v107 : Value).ownBlock ∧ some k_ ≠ (.slice Ao40 t120.length co40 : Value).ownBlock ∧ some k_ ≠ (v129 : Value).ownBlock) (.slice Ao30 t113.length co30) t113) := ⟨h1_⟩
  have n2_ : Aside0 (Kd.R (Kd.int .i64) 3 w46 w.heap.size (fun k_ => some k_ ≠ (v107 : Value).ownBlock ∧ some k_ ≠ (.slice Ao30 t113.length co30 : Value).ownBlock ∧ some k_ ≠ (v129 : Value).ownBlock) (.slice Ao40 t120.length co40) t120) := ⟨h2_⟩
  have n3_ : Aside0 (Kd.R (Kd.int .i64) 3 w46 w.heap.size (fun k_ => some k_ ≠ (v107 : Value).ownBlock ∧ some k_ ≠ (.slice Ao30 t113.length co30 : Value).ownBlock ∧ some k_ ≠ (.slice Ao40 t120.length co40 : Value).ownBlock) v129 t128) := ⟨h3_⟩
  have n4_ : Aside0 (w46.heap[gb101]? = some (.cells #[.int .i64 a0_0, .int .i64 a0_1, .slice A0_2 l0_2.length c0_2] 38 (0, 0))) := ⟨h4_⟩
  have n5_ : Aside0 (w46.heap[gb102]? = some (.cells #[.int .i64 a1_0, .int .i64 a1_1] 40 (0, 0))) := ⟨h5_⟩
  have n6_ : Aside0 (w46.heap[gb117]? = some (.cells #[.int .i64 t111, .int .i64 t112, .slice Ao30 t113.length co30] 42 (0, 0))) := ⟨h6_⟩
  have n7_ : Aside0 (w46.heap[gb123]? = some (.cells #[.int .i64 t118, .int .i64 t119, .slice Ao40 t120.length co40] 42 (0, 0))) := ⟨h7_⟩
  have n8_ : Aside0 (w46.heap[gb132]? = some (.cells #[.int .i64 0, .int .i64 0, .slice none 0 0] 42 (0, 0))) := ⟨h8_⟩
  have n9_ : Aside0 (w.heap.size ≤ gb132) := ⟨h9_⟩
  have n10_ : Aside0 (w.heap.size ≤ gb132) := ⟨h10_⟩
  have n11_ : Aside0 (gb101 ≠ gb132) := ⟨h11_⟩
  have n12_ : Aside0 (gb132 ≠ gb101) := ⟨h12_⟩
  have n13_ : Aside0 (gb102 ≠ gb132) := ⟨h13_⟩
  have n14_ : Aside0 (gb132 ≠ gb102) := ⟨h14_⟩
  have n15_ : Aside0 (gb117 ≠ gb132) := ⟨h15_⟩
  have n16_ : Aside0 (gb132 ≠ gb117) := ⟨h16_⟩
  have n17_ : Aside0 (gb123 ≠ gb132) := ⟨h17_⟩
  have n18_ : Aside0 (gb132 ≠ gb123) := ⟨h18_⟩
  have n19_ : Aside0 (Below w.heap.size w w46) := ⟨h19_⟩
  clear HO108 HO115 HO122 BK101 BK102 BK117 BK123 HB h0_ h1_ h2_ h3_ h4_ h5_ h6_ h7_ h8_ h9_ h10_ h11_ h12_ h13_ h14_ h15_ h16_ h17_ h18_ h19_
  have HO108 := n0_
  have HO115 := n1_
  have HO122 := n2_
  have HO130 := n3_
  have BK101 := n4_
  have BK102 := n5_
  have BK117 := n6_
  have BK123 := n7_
  have BK132 := n8_
  have GW132 := n9_
  have GE132 := n10_
  have NB101_132 := n11_
  have NB132_101 := n12_
  have NB102_132 := n13_
  have NB132_102 := n14_
  have NB117_132 := n15_
  have NB132_117 := n16_
  have NB123_132 := n17_
  have NB132_123 := n18_
  have HB := n19_
  clear n0_ n1_ n2_ n3_ n4_ n5_ n6_ n7_ n8_ n9_ n10_ n11_ n12_ n13_ n14_ n15_ n16_ n17_ n18_ n19_
  have hHeld : w46.cell? ⟨gb123, 0, none⟩ = some (.int .i64 t118) ∧ w46.cell? ⟨gb123, 1, none⟩ = some (.int .i64 t119) ∧ w46.cell? ⟨gb123, 2, none⟩ = some (.slice Ao40 t120.length co40) ∧ w46.cell? ⟨gb102, 0, none⟩ = some (.int .i64 a1_0) ∧ w46.cell? ⟨gb102, 1, none⟩ = some (.int .i64 a1_1) := hS_
  obtain ⟨Ao49, co49, eo49⟩ := Kd.R_slice HO130.out
  (first | subst eo49 | (injection eo49 with f1_ f2_ f3_; have f4_ := f1_.symm; have f5_ := f3_.symm; clear f1_ f2_ f3_; subst f4_; subst f5_))
  refine norm_ (a' := ?_) ?_ ?_
  rotate_left
  ·
   simp only [putAll, Act.put, List.setIfInBounds_toArray, List.set_cons_zero, List.set_cons_succ]
   rfl
  refine one_ (i := 8) (N := none) #[true, true, true, true, true, true, true, true, true, false] rfl rfl (one_of HT_.out (by kernel_rfl)) (by decide) (fun K hK => ?_)
  have hs47 : w46.cell? ⟨gb132, 0, none⟩ = some (.int .i64 0) := (blk_cell BK132.out 0).trans rfl
  have hfs47 := blk_frozen BK132.out 0
  have hns47_0 := NB101_132.out
  have hns47_1 := NB102_132.out
  have hns47_2 := NB117_132.out
  have hns47_3 := NB123_132.out
  have hms47_0 := NB132_101.out
  have hms47_1 := NB132_102.out
  have hms47_2 := NB132_117.out
  have hms47_3 := NB132_123.out
  have hs48 : w46.cell? ⟨gb132, 1, none⟩ = some (.int .i64 0) := (blk_cell BK132.out 1).trans rfl
  have hfs48 := blk_frozen BK132.out 1
  have hns48_0 := NB101_132.out
  have hns48_1 := NB102_132.out
  have hns48_2 := NB117_132.out
  have hns48_3 := NB123_132.out
  have hms48_0 := NB132_101.out
  have hms48_1 := NB132_102.out
  have hms48_2 := NB132_117.out
  have hms48_3 := NB132_123.out
  have hs50 : w46.cell? ⟨gb132, 2, none⟩ = some (.slice none 0 0) := (blk_cell BK132.out 2).trans rfl
  have hfs50 := blk_frozen BK132.out 2
  have hns50_0 := NB101_132.out
  have hns50_1 := NB102_132.out
  have hns50_2 := NB117_132.out
  have hns50_3 := NB123_132.out
  have hms50_0 := NB132_101.out
  have hms50_1 := NB132_102.out
  have hms50_2 := NB132_117.out
  have hms50_3 := NB132_123.out
  refine skip_ (w1 := ?_) (by rfl) rfl ?_ ?_
  rotate_left
  ·
   go_simp
   rfl
  refine hK.out _ _ ⟨((cell_far (p := ⟨gb132, _, none⟩) NB123_132.out _).trans (((cell_far (p := ⟨gb132, _, none⟩) NB123_132.out _).trans (((cell_far (p := ⟨gb132, _, none⟩) NB123_132.out _).trans (hHeld.1)))))), ((cell_far (p := ⟨gb132, _, none⟩) NB123_132.out _).trans (((cell_far (p := ⟨gb132, _, none⟩) NB123_132.out _).trans (((cell_far (p := ⟨gb132, _, none⟩) NB123_132.out _).trans (hHeld.2.1)))))), ((cell_far (p := ⟨gb132, _, none⟩) NB123_132.out _).trans (((cell_far (p := ⟨gb132, _, none⟩) NB123_132.out _).trans (((cell_far (p := ⟨gb132, _, none⟩) NB123_132.out _).trans (hHeld.2.2.1)))))), ((cell_far (p := ⟨gb132, _, none⟩) NB102_132.out _).trans (((cell_far (p := ⟨gb132, _, none⟩) NB102_132.out _).trans (((cell_far (p := ⟨gb132, _, none⟩) NB102_132.out _).trans (hHeld.2.2.2.1)))))), ((cell_far (p := ⟨gb132, _, none⟩) NB102_132.out _).trans (((cell_far (p := ⟨gb132, _, none⟩) NB102_132.out _).trans (((cell_far (p := ⟨gb132, _, none⟩) NB102_132.out _).trans (hHeld.2.2.2.2))))))⟩ (fun hHeld => ?_)
  clear hK K
  refine pure_ (i := 9) (N := some 10) (v := ?_) (a' := ?_) #[true, true, true, true, true, true, true, true, true, true] rfl rfl (any_of HT_.out (by kernel_rfl)) (fun _ _ _ h => h) (Or.inl ⟨by rfl, ?_⟩) ?_ ?_
  rotate_left
  ·
   intro w'
   go_simp
   with_reducible rfl
  rotate_left
  ·
   simp only [Act.put, List.setIfInBounds_toArray, List.set_cons_zero, List.set_cons_succ, i64_w, i32_w]
   rfl
  refine done_ (done_of HT_.out (by kernel_rfl)) ?_
  go_upto_region 8 with (fail)
  go_cut [46] (fun v46 wc => ∃ (kq : Nat) (x46_14 : Bool), v46 = .bool x46_14 ∧ Aside0 (laws_FnExactMoveField.j0 kq t116 t131 x46_14 a0_0 a0_1 l0_2 a1_0 a1_1 t111 t112 t113 t118 t119 t120 t126 t127 t128 = some r) ∧ Aside0 (kq ≤ k) ∧ Aside0 (Kd.R (Kd.int .i64) 3 wc w.heap.size (fun k_ => some k_ ≠ ((.slice Ao40 t120.length co40) : Value).ownBlock ∧ some k_ ≠ ((.slice Ao49 t128.length co49) : Value).ownBlock) (.slice Ao30 t113.length co30) t113) ∧ Aside0 (Kd.R (Kd.int .i64) 3 wc w.heap.size (fun k_ => some k_ ≠ ((.slice Ao30 t113.length co30) : Value).ownBlock ∧ some k_ ≠ ((.slice Ao49 t128.length co49) : Value).ownBlock) (.slice Ao40 t120.length co40) t120) ∧ Aside0 (Kd.R (Kd.int .i64) 3 wc w.heap.size (fun k_ => some k_ ≠ ((.slice Ao30 t113.length co30) : Value).ownBlock ∧ some k_ ≠ ((.slice Ao40 t120.length co40) : Value).ownBlock) (.slice Ao49 t128.length co49) t128) ∧ Aside0 (wc.heap[gb101]? = some (.cells #[.int .i64 a0_0, .int .i64 a0_1, (.slice A0_2 l0_2.length c0_2)] 38 (0, 0))) ∧ Aside0 (wc.heap[gb102]? = some (.cells #[.int .i64 a1_0, .int .i64 a1_1] 40 (0, 0))) ∧ Aside0 (wc.heap[gb117]? = some (.cells #[.int .i64 t111, .int .i64 t112, (.slice Ao30 t113.length co30)] 42 (0, 0))) ∧ Aside0 (wc.heap[gb123]? = some (.cells #[.int .i64 t118, .int .i64 t119, (.slice Ao40 t120.length co40)] 42 (0, 0))) ∧ Aside0 (wc.heap[gb132]? = some (.cells #[.int .i64 t126, .int .i64 t127, (.slice Ao49 t128.length co49)] 42 (0, 0))) ∧ Aside0 (Below w.heap.size w wc))
  case first =>
   have H := HC15.out
   clear HC15
   replace H := Option.bind_eq_some_iff.mp H
   obtain ⟨t133, A510, H⟩ := H
   replace H : (if t133 = true then (laws_FnExactMoveField.j0 k t116 t131 (t131 != t116) a0_0 a0_1 l0_2 a1_0 a1_1 t111 t112 t113 t118 t119 t120 t126 t127 t128) else (laws_FnExactMoveField.j0 k t116 t131 true a0_0 a0_1 l0_2 a1_0 a1_1 t111 t112 t113 t118 t119 t120 t126 t127 t128)) = some r := H
   have A51 := Aside0.mk A510
   clear A510
   by_cases c52 : t133 = true
   ·
    subst c52
    have H1 : (laws_FnExactMoveField.j0 k t116 t131 (t131 != t116) a0_0 a0_1 l0_2 a1_0 a1_1 t111 t112 t113 t118 t119 t120 t126 t127 t128) = some r := by rw [if_pos rfl] at H; exact H
    clear H
    have H := H1
    clear H1
    have H' := Aside0.mk H
    clear H
    have hnb53 := NB132_101.out
    have hnc53 := NB101_132.out
    have hnb54 := NB132_102.out
    have hnc54 := NB102_132.out
    have hnb55 := NB132_117.out
    have hnc55 := NB117_132.out
    have hnb56 := NB132_123.out
    have hnc56 := NB123_132.out
    have hcz57_0 : w46.cell? ⟨gb132, 0, none⟩ = some (.int .i64 0) := (blk_cell BK132.out 0).trans rfl
    have hcz57_1 : w46.cell? ⟨gb132, 1, none⟩ = some (.int .i64 0) := (blk_cell BK132.out 1).trans rfl
    have hcz57_2 : w46.cell? ⟨gb132, 2, none⟩ = some (.slice none 0 0) := (blk_cell BK132.out 2).trans rfl
    have hfz57_0 := blk_frozen BK132.out 0
    have hfz57_1 := blk_frozen BK132.out 1
    have hfz57_2 := blk_frozen BK132.out 2
    have hnb58 := NB117_101.out
    have hnc58 := NB101_117.out
    have hnb59 := NB117_102.out
    have hnc59 := NB102_117.out
    have hnb60 := NB117_123.out
    have hnc60 := NB123_117.out
    have hcz61_0 : w46.cell? ⟨gb117, 0, none⟩ = some (.int .i64 t111) := (blk_cell BK117.out 0).trans rfl
    have hcz61_1 : w46.cell? ⟨gb117, 1, none⟩ = some (.int .i64 t112) := (blk_cell BK117.out 1).trans rfl
    have hcz61_2 : w46.cell? ⟨gb117, 2, none⟩ = some (.slice Ao30 t113.length co30) := (blk_cell BK117.out 2).trans rfl
    have hfz61_0 := blk_frozen BK117.out 0
    have hfz61_1 := blk_frozen BK117.out 1
    have hfz61_2 := blk_frozen BK117.out 2
    go_wp2_with (first | ((with_reducible refine gate_callee (f := 31) rfl ?_); refine goesL_ (some 40) rfl rfl Try.func31 (by kernel_rfl) rfl #[.agg #[.int .i64 t126, .int .i64 t127, .slice Ao49 t128.length co49], .agg #[.int .i64 t111, .int .i64 t112, .slice Ao30 t113.length co30]] rfl (by (try simp only [List.map_toArray, List.map_cons, List.map_nil]); first | done | rfl | (simp only [List.length_drop, List.length_take]; rfl)) ?_; (with_reducible refine (laws_eqField.calls k t126 t127 _ _ t128 t111 t112 _ _ t113 true _ ?side1 ?side2 ?side3 ?side4 A51.out).mono ?_); (case side1 => refine (Kd.R_reads' (e := 3) (base := w.heap.size) (ok := fun k_ => (some k_ ≠ (v107 : Value).ownBlock ∧ (some k_ ≠ (.slice Ao30 t113.length co30 : Value).ownBlock ∧ some k_ ≠ (.slice Ao40 t120.length co40 : Value).ownBlock))) (n := t128.length) (c := co49) ?_).2.2; exact (pR ((Kd.R_mono (Kd.R_far (p := ⟨gb132, 2, none⟩) (Kd.R_far (p := ⟨gb132, 1, none⟩) (Kd.R_far (p := ⟨gb132, 0, none⟩) (Kd.R_types HO130.out BK132.out (by decide)) (fun _ hk => hk.2) (.int .i64 t126)) (fun _ hk => hk.2) (.int .i64 t127)) (fun _ hk => hk.2) (.slice Ao49 t128.length co49)) (fun _ h_ => h_.1))))); (case side2 => exact (Kd.R_reads' HO130.out).2.1); (case side3 => refine (Kd.R_reads' (e := 3) (base := w.heap.size) (ok := fun k_ => (some k_ ≠ (v107 : Value).ownBlock ∧ (some k_ ≠ (.slice Ao40 t120.length co40 : Value).ownBlock ∧ some k_ ≠ (.slice Ao49 t128.length co49 : Value).ownBlock))) (n := t113.length) (c := co30) ?_).2.2; exact (pR ((Kd.R_mono (Kd.R_far (p := ⟨gb132, 2, none⟩) (Kd.R_far (p := ⟨gb132, 1, none⟩) (Kd.R_far (p := ⟨gb132, 0, none⟩) (Kd.R_types HO115.out BK132.out (by decide)) (fun _ hk => hk.2) (.int .i64 t126)) (fun _ hk => hk.2) (.int .i64 t127)) (fun _ hk => hk.2) (.slice Ao49 t128.length co49)) (fun _ h_ => h_.1))))); (case side4 => exact (Kd.R_reads' HO115.out).2.1); rintro e w62 ⟨rfl, hb⟩; refine ⟨_, rfl, ?_⟩; have n0_ := aK (Kd.R_below (pR ((Kd.R_mono (Kd.R_far (p := ⟨gb132, 2, none⟩) (Kd.R_far (p := ⟨gb132, 1, none⟩) (Kd.R_far (p := ⟨gb132, 0, none⟩) (Kd.R_types HO108.out BK132.out (by decide)) (fun _ hk => hk.2) (.int .i64 t126)) (fun _ hk => hk.2) (.int .i64 t127)) (fun _ hk => hk.2) (.slice Ao49 t128.length co49)) (fun _ h_ => h_.1)))) hb); have n1_ := aK (Kd.R_below (pR ((Kd.R_mono (Kd.R_far (p := ⟨gb132, 2, none⟩) (Kd.R_far (p := ⟨gb132, 1, none⟩) (Kd.R_far (p := ⟨gb132, 0, none⟩) (Kd.R_types HO115.out BK132.out (by decide)) (fun _ hk => hk.2) (.int .i64 t126)) (fun _ hk => hk.2) (.int .i64 t127)) (fun _ hk => hk.2) (.slice Ao49 t128.length co49)) (fun _ h_ => h_.1)))) hb); have n2_ := aK (Kd.R_below (pR ((Kd.R_mono (Kd.R_far (p := ⟨gb132, 2, none⟩) (Kd.R_far (p := ⟨gb132, 1, none⟩) (Kd.R_far (p := ⟨gb132, 0, none⟩) (Kd.R_types HO122.out BK132.out (by decide)) (fun _ hk => hk.2) (.int .i64 t126)) (fun _ hk => hk.2) (.int .i64 t127)) (fun _ hk => hk.2) (.slice Ao49 t128.length co49)) (fun _ h_ => h_.1)))) hb); have n3_ := aK (Kd.R_below (pR ((Kd.R_mono (Kd.R_far (p := ⟨gb132, 2, none⟩) (Kd.R_far (p := ⟨gb132, 1, none⟩) (Kd.R_far (p := ⟨gb132, 0, none⟩) (Kd.R_types HO130.out BK132.out (by decide)) (fun _ hk => hk.2) (.int .i64 t126)) (fun _ hk => hk.2) (.int .i64 t127)) (fun _ hk => hk.2) (.slice Ao49 t128.length co49)) (fun _ h_ => h_.1)))) hb); have n4_ := aK (blk_below (g := gb101) (o := .cells #[.int .i64 a0_0, .int .i64 a0_1, .slice A0_2 l0_2.length c0_2] 38 (0, 0)) (by (with_reducible repeat (first | refine blk_drewN ?_ _ | refine blk_drew ?_ | refine blk_alloc ?_ _)); refine blk_far ?_ NB101_132.out _; (with_reducible repeat (first | refine blk_drewN ?_ _ | refine blk_drew ?_ | refine blk_alloc ?_ _)); refine blk_far ?_ NB101_132.out _; (with_reducible repeat (first | refine blk_drewN ?_ _ | refine blk_drew ?_ | refine blk_alloc ?_ _)); refine blk_far ?_ NB101_132.out _; (with_reducible repeat (first | refine blk_drewN ?_ _ | refine blk_drew ?_ | refine blk_alloc ?_ _)); exact BK101.out) hb); have n5_ := aK (blk_below (g := gb102) (o := .cells #[.int .i64 a1_0, .int .i64 a1_1] 40 (0, 0)) (by (with_reducible repeat (first | refine blk_drewN ?_ _ | refine blk_drew ?_ | refine blk_alloc ?_ _)); refine blk_far ?_ NB102_132.out _; (with_reducible repeat (first | refine blk_drewN ?_ _ | refine blk_drew ?_ | refine blk_alloc ?_ _)); refine blk_far ?_ NB102_132.out _; (with_reducible repeat (first | refine blk_drewN ?_ _ | refine blk_drew ?_ | refine blk_alloc ?_ _)); refine blk_far ?_ NB102_132.out _; (with_reducible repeat (first | refine blk_drewN ?_ _ | refine blk_drew ?_ | refine blk_alloc ?_ _)); exact BK102.out) hb); have n6_ := aK (blk_below (g := gb117) (o := .cells #[.int .i64 t111, .int .i64 t112, .slice Ao30 t113.length co30] 42 (0, 0)) (by (with_reducible repeat (first | refine blk_drewN ?_ _ | refine blk_drew ?_ | refine blk_alloc ?_ _)); refine blk_far ?_ NB117_132.out _; (with_reducible repeat (first | refine blk_drewN ?_ _ | refine blk_drew ?_ | refine blk_alloc ?_ _)); refine blk_far ?_ NB117_132.out _; (with_reducible repeat (first | refine blk_drewN ?_ _ | refine blk_drew ?_ | refine blk_alloc ?_ _)); refine blk_far ?_ NB117_132.out _; (with_reducible repeat (first | refine blk_drewN ?_ _ | refine blk_drew ?_ | refine blk_alloc ?_ _)); exact BK117.out) hb); have n7_ := aK (blk_below (g := gb123) (o := .cells #[.int .i64 t118, .int .i64 t119, .slice Ao40 t120.length co40] 42 (0, 0)) (by (with_reducible repeat (first | refine blk_drewN ?_ _ | refine blk_drew ?_ | refine blk_alloc ?_ _)); refine blk_far ?_ NB123_132.out _; (with_reducible repeat (first | refine blk_drewN ?_ _ | refine blk_drew ?_ | refine blk_alloc ?_ _)); refine blk_far ?_ NB123_132.out _; (with_reducible repeat (first | refine blk_drewN ?_ _ | refine blk_drew ?_ | refine blk_alloc ?_ _)); refine blk_far ?_ NB123_132.out _; (with_reducible repeat (first | refine blk_drewN ?_ _ | refine blk_drew ?_ | refine blk_alloc ?_ _)); exact BK123.out) hb); have n8_ := aK (blk_below (g := gb132) (o := .cells #[.int .i64 t126, .int .i64 t127, .slice Ao49 t128.length co49] 42 (0, 0)) (by (with_reducible repeat (first | refine blk_drewN ?_ _ | refine blk_drew ?_ | refine blk_alloc ?_ _)); refine blk_put (cs := #[.int .i64 t126, .int .i64 t127, .slice none 0 0]) ?_ 2 _ rfl; (with_reducible repeat (first | refine blk_drewN ?_ _ | refine blk_drew ?_ | refine blk_alloc ?_ _)); refine blk_put (cs := #[.int .i64 t126, .int .i64 0, .slice none 0 0]) ?_ 1 _ rfl; (with_reducible repeat (first | refine blk_drewN ?_ _ | refine blk_drew ?_ | refine blk_alloc ?_ _)); refine blk_put (cs := #[.int .i64 0, .int .i64 0, .slice none 0 0]) ?_ 0 _ rfl; (with_reducible repeat (first | refine blk_drewN ?_ _ | refine blk_drew ?_ | refine blk_alloc ?_ _)); exact BK132.out) hb); replace HB := bS HB hb; clear HO108 HO115 HO122 HO130 BK101 BK102 BK117 BK123 BK132; have HO108 := n0_; have HO115 := n1_; have HO122 := n2_; have HO130 := n3_; have BK101 := n4_; have BK102 := n5_; have BK117 := n6_; have BK123 := n7_; have BK132 := n8_; clear n0_ n1_ n2_ n3_ n4_ n5_ n6_ n7_ n8_; (try clear hb); (try clear hb2); (try clear hk); (try clear hi)))
    go_meet
    case rel => exact ⟨_, ((t131 != t116)), (by first | rfl | (simp; done) | (simp [*]; done)), H', ⟨by first | omega | exact Nat.le_refl _⟩, ⟨by (with_reducible repeat (first | apply Kd.R_alloc | apply Kd.R_drewN | apply Kd.R_drew)); exact Kd.R_mono HO115.out (fun _ hk => ⟨hk.2.1, hk.2.2⟩)⟩, ⟨by (with_reducible repeat (first | apply Kd.R_alloc | apply Kd.R_drewN | apply Kd.R_drew)); exact Kd.R_mono HO122.out (fun _ hk => ⟨hk.2.1, hk.2.2⟩)⟩, ⟨by (with_reducible repeat (first | apply Kd.R_alloc | apply Kd.R_drewN | apply Kd.R_drew)); exact Kd.R_mono HO130.out (fun _ hk => ⟨hk.2.1, hk.2.2⟩)⟩, ⟨by (with_reducible repeat (first | refine blk_drewN ?_ _ | refine blk_drew ?_ | refine blk_alloc ?_ _)); exact BK101.out⟩, ⟨by (with_reducible repeat (first | refine blk_drewN ?_ _ | refine blk_drew ?_ | refine blk_alloc ?_ _)); exact BK102.out⟩, ⟨by (with_reducible repeat (first | refine blk_drewN ?_ _ | refine blk_drew ?_ | refine blk_alloc ?_ _)); exact BK117.out⟩, ⟨by (with_reducible repeat (first | refine blk_drewN ?_ _ | refine blk_drew ?_ | refine blk_alloc ?_ _)); exact BK123.out⟩, ⟨by (with_reducible repeat (first | refine blk_drewN ?_ _ | refine blk_drew ?_ | refine blk_alloc ?_ _)); exact BK132.out⟩, ⟨by repeat (first | (with_reducible first | exact HB.out | apply below_alloc | apply pw_below_drewN | apply below_drew1 | refine below_set ?_ GE101.out | refine below_set ?_ GE102.out | refine below_set ?_ GE117.out | refine below_set ?_ GE123.out | refine below_set ?_ GE132.out) | exact HB.out)⟩⟩
   ·
    replace c52 := Bool.eq_false_iff.mpr c52
    subst c52
    have H1 : (laws_FnExactMoveField.j0 k t116 t131 true a0_0 a0_1 l0_2 a1_0 a1_1 t111 t112 t113 t118 t119 t120 t126 t127 t128) = some r := by rw [if_neg (show ¬ (false = true) by decide)] at H; exact H
    clear H
    have H := H1
    clear H1
    have H' := Aside0.mk H
    clear H
    have hnb63 := NB132_101.out
    have hnc63 := NB101_132.out
    have hnb64 := NB132_102.out
    have hnc64 := NB102_132.out
    have hnb65 := NB132_117.out
    have hnc65 := NB117_132.out
    have hnb66 := NB132_123.out
    have hnc66 := NB123_132.out
    have hcz67_0 : w46.cell? ⟨gb132, 0, none⟩ = some (.int .i64 0) := (blk_cell BK132.out 0).trans rfl
    have hcz67_1 : w46.cell? ⟨gb132, 1, none⟩ = some (.int .i64 0) := (blk_cell BK132.out 1).trans rfl
    have hcz67_2 : w46.cell? ⟨gb132, 2, none⟩ = some (.slice none 0 0) := (blk_cell BK132.out 2).trans rfl
    have hfz67_0 := blk_frozen BK132.out 0
    have hfz67_1 := blk_frozen BK132.out 1
    have hfz67_2 := blk_frozen BK132.out 2
    have hnb68 := NB117_101.out
    have hnc68 := NB101_117.out
    have hnb69 := NB117_102.out
    have hnc69 := NB102_117.out
    have hnb70 := NB117_123.out
    have hnc70 := NB123_117.out
    have hcz71_0 : w46.cell? ⟨gb117, 0, none⟩ = some (.int .i64 t111) := (blk_cell BK117.out 0).trans rfl
    have hcz71_1 : w46.cell? ⟨gb117, 1, none⟩ = some (.int .i64 t112) := (blk_cell BK117.out 1).trans rfl
    have hcz71_2 : w46.cell? ⟨gb117, 2, none⟩ = some (.slice Ao30 t113.length co30) := (blk_cell BK117.out 2).trans rfl
    have hfz71_0 := blk_frozen BK117.out 0
    have hfz71_1 := blk_frozen BK117.out 1
    have hfz71_2 := blk_frozen BK117.out 2
    go_wp2_with (first | ((with_reducible refine gate_callee (f := 31) rfl ?_); refine goesL_ (some 40) rfl rfl Try.func31 (by kernel_rfl) rfl #[.agg #[.int .i64 t126, .int .i64 t127, .slice Ao49 t128.length co49], .agg #[.int .i64 t111, .int .i64 t112, .slice Ao30 t113.length co30]] rfl (by (try simp only [List.map_toArray, List.map_cons, List.map_nil]); first | done | rfl | (simp only [List.length_drop, List.length_take]; rfl)) ?_; (with_reducible refine (laws_eqField.calls k t126 t127 _ _ t128 t111 t112 _ _ t113 false _ ?side1 ?side2 ?side3 ?side4 A51.out).mono ?_); (case side1 => refine (Kd.R_reads' (e := 3) (base := w.heap.size) (ok := fun k_ => (some k_ ≠ (v107 : Value).ownBlock ∧ (some k_ ≠ (.slice Ao30 t113.length co30 : Value).ownBlock ∧ some k_ ≠ (.slice Ao40 t120.length co40 : Value).ownBlock))) (n := t128.length) (c := co49) ?_).2.2; exact (pR ((Kd.R_mono (Kd.R_far (p := ⟨gb132, 2, none⟩) (Kd.R_far (p := ⟨gb132, 1, none⟩) (Kd.R_far (p := ⟨gb132, 0, none⟩) (Kd.R_types HO130.out BK132.out (by decide)) (fun _ hk => hk.2) (.int .i64 t126)) (fun _ hk => hk.2) (.int .i64 t127)) (fun _ hk => hk.2) (.slice Ao49 t128.length co49)) (fun _ h_ => h_.1))))); (case side2 => exact (Kd.R_reads' HO130.out).2.1); (case side3 => refine (Kd.R_reads' (e := 3) (base := w.heap.size) (ok := fun k_ => (some k_ ≠ (v107 : Value).ownBlock ∧ (some k_ ≠ (.slice Ao40 t120.length co40 : Value).ownBlock ∧ some k_ ≠ (.slice Ao49 t128.length co49 : Value).ownBlock))) (n := t113.length) (c := co30) ?_).2.2; exact (pR ((Kd.R_mono (Kd.R_far (p := ⟨gb132, 2, none⟩) (Kd.R_far (p := ⟨gb132, 1, none⟩) (Kd.R_far (p := ⟨gb132, 0, none⟩) (Kd.R_types HO115.out BK132.out (by decide)) (fun _ hk => hk.2) (.int .i64 t126)) (fun _ hk => hk.2) (.int .i64 t127)) (fun _ hk => hk.2) (.slice Ao49 t128.length co49)) (fun _ h_ => h_.1))))); (case side4 => exact (Kd.R_reads' HO115.out).2.1); rintro e w72 ⟨rfl, hb⟩; refine ⟨_, rfl, ?_⟩; have n0_ := aK (Kd.R_below (pR ((Kd.R_mono (Kd.R_far (p := ⟨gb132, 2, none⟩) (Kd.R_far (p := ⟨gb132, 1, none⟩) (Kd.R_far (p := ⟨gb132, 0, none⟩) (Kd.R_types HO108.out BK132.out (by decide)) (fun _ hk => hk.2) (.int .i64 t126)) (fun _ hk => hk.2) (.int .i64 t127)) (fun _ hk => hk.2) (.slice Ao49 t128.length co49)) (fun _ h_ => h_.1)))) hb); have n1_ := aK (Kd.R_below (pR ((Kd.R_mono (Kd.R_far (p := ⟨gb132, 2, none⟩) (Kd.R_far (p := ⟨gb132, 1, none⟩) (Kd.R_far (p := ⟨gb132, 0, none⟩) (Kd.R_types HO115.out BK132.out (by decide)) (fun _ hk => hk.2) (.int .i64 t126)) (fun _ hk => hk.2) (.int .i64 t127)) (fun _ hk => hk.2) (.slice Ao49 t128.length co49)) (fun _ h_ => h_.1)))) hb); have n2_ := aK (Kd.R_below (pR ((Kd.R_mono (Kd.R_far (p := ⟨gb132, 2, none⟩) (Kd.R_far (p := ⟨gb132, 1, none⟩) (Kd.R_far (p := ⟨gb132, 0, none⟩) (Kd.R_types HO122.out BK132.out (by decide)) (fun _ hk => hk.2) (.int .i64 t126)) (fun _ hk => hk.2) (.int .i64 t127)) (fun _ hk => hk.2) (.slice Ao49 t128.length co49)) (fun _ h_ => h_.1)))) hb); have n3_ := aK (Kd.R_below (pR ((Kd.R_mono (Kd.R_far (p := ⟨gb132, 2, none⟩) (Kd.R_far (p := ⟨gb132, 1, none⟩) (Kd.R_far (p := ⟨gb132, 0, none⟩) (Kd.R_types HO130.out BK132.out (by decide)) (fun _ hk => hk.2) (.int .i64 t126)) (fun _ hk => hk.2) (.int .i64 t127)) (fun _ hk => hk.2) (.slice Ao49 t128.length co49)) (fun _ h_ => h_.1)))) hb); have n4_ := aK (blk_below (g := gb101) (o := .cells #[.int .i64 a0_0, .int .i64 a0_1, .slice A0_2 l0_2.length c0_2] 38 (0, 0)) (by (with_reducible repeat (first | refine blk_drewN ?_ _ | refine blk_drew ?_ | refine blk_alloc ?_ _)); refine blk_far ?_ NB101_132.out _; (with_reducible repeat (first | refine blk_drewN ?_ _ | refine blk_drew ?_ | refine blk_alloc ?_ _)); refine blk_far ?_ NB101_132.out _; (with_reducible repeat (first | refine blk_drewN ?_ _ | refine blk_drew ?_ | refine blk_alloc ?_ _)); refine blk_far ?_ NB101_132.out _; (with_reducible repeat (first | refine blk_drewN ?_ _ | refine blk_drew ?_ | refine blk_alloc ?_ _)); exact BK101.out) hb); have n5_ := aK (blk_below (g := gb102) (o := .cells #[.int .i64 a1_0, .int .i64 a1_1] 40 (0, 0)) (by (with_reducible repeat (first | refine blk_drewN ?_ _ | refine blk_drew ?_ | refine blk_alloc ?_ _)); refine blk_far ?_ NB102_132.out _; (with_reducible repeat (first | refine blk_drewN ?_ _ | refine blk_drew ?_ | refine blk_alloc ?_ _)); refine blk_far ?_ NB102_132.out _; (with_reducible repeat (first | refine blk_drewN ?_ _ | refine blk_drew ?_ | refine blk_alloc ?_ _)); refine blk_far ?_ NB102_132.out _; (with_reducible repeat (first | refine blk_drewN ?_ _ | refine blk_drew ?_ | refine blk_alloc ?_ _)); exact BK102.out) hb); have n6_ := aK (blk_below (g := gb117) (o := .cells #[.int .i64 t111, .int .i64 t112, .slice Ao30 t113.length co30] 42 (0, 0)) (by (with_reducible repeat (first | refine blk_drewN ?_ _ | refine blk_drew ?_ | refine blk_alloc ?_ _)); refine blk_far ?_ NB117_132.out _; (with_reducible repeat (first | refine blk_drewN ?_ _ | refine blk_drew ?_ | refine blk_alloc ?_ _)); refine blk_far ?_ NB117_132.out _; (with_reducible repeat (first | refine blk_drewN ?_ _ | refine blk_drew ?_ | refine blk_alloc ?_ _)); refine blk_far ?_ NB117_132.out _; (with_reducible repeat (first | refine blk_drewN ?_ _ | refine blk_drew ?_ | refine blk_alloc ?_ _)); exact BK117.out) hb); have n7_ := aK (blk_below (g := gb123) (o := .cells #[.int .i64 t118, .int .i64 t119, .slice Ao40 t120.length co40] 42 (0, 0)) (by (with_reducible repeat (first | refine blk_drewN ?_ _ | refine blk_drew ?_ | refine blk_alloc ?_ _)); refine blk_far ?_ NB123_132.out _; (with_reducible repeat (first | refine blk_drewN ?_ _ | refine blk_drew ?_ | refine blk_alloc ?_ _)); refine blk_far ?_ NB123_132.out _; (with_reducible repeat (first | refine blk_drewN ?_ _ | refine blk_drew ?_ | refine blk_alloc ?_ _)); refine blk_far ?_ NB123_132.out _; (with_reducible repeat (first | refine blk_drewN ?_ _ | refine blk_drew ?_ | refine blk_alloc ?_ _)); exact BK123.out) hb); have n8_ := aK (blk_below (g := gb132) (o := .cells #[.int .i64 t126, .int .i64 t127, .slice Ao49 t128.length co49] 42 (0, 0)) (by (with_reducible repeat (first | refine blk_drewN ?_ _ | refine blk_drew ?_ | refine blk_alloc ?_ _)); refine blk_put (cs := #[.int .i64 t126, .int .i64 t127, .slice none 0 0]) ?_ 2 _ rfl; (with_reducible repeat (first | refine blk_drewN ?_ _ | refine blk_drew ?_ | refine blk_alloc ?_ _)); refine blk_put (cs := #[.int .i64 t126, .int .i64 0, .slice none 0 0]) ?_ 1 _ rfl; (with_reducible repeat (first | refine blk_drewN ?_ _ | refine blk_drew ?_ | refine blk_alloc ?_ _)); refine blk_put (cs := #[.int .i64 0, .int .i64 0, .slice none 0 0]) ?_ 0 _ rfl; (with_reducible repeat (first | refine blk_drewN ?_ _ | refine blk_drew ?_ | refine blk_alloc ?_ _)); exact BK132.out) hb); replace HB := bS HB hb; clear HO108 HO115 HO122 HO130 BK101 BK102 BK117 BK123 BK132; have HO108 := n0_; have HO115 := n1_; have HO122 := n2_; have HO130 := n3_; have BK101 := n4_; have BK102 := n5_; have BK117 := n6_; have BK123 := n7_; have BK132 := n8_; clear n0_ n1_ n2_ n3_ n4_ n5_ n6_ n7_ n8_; (try clear hb); (try clear hb2); (try clear hk); (try clear hi)))
    go_meet
    case rel => exact ⟨_, (true), (by first | rfl | (simp; done) | (simp [*]; done)), H', ⟨by first | omega | exact Nat.le_refl _⟩, ⟨by (with_reducible repeat (first | apply Kd.R_alloc | apply Kd.R_drewN | apply Kd.R_drew)); exact Kd.R_mono HO115.out (fun _ hk => ⟨hk.2.1, hk.2.2⟩)⟩, ⟨by (with_reducible repeat (first | apply Kd.R_alloc | apply Kd.R_drewN | apply Kd.R_drew)); exact Kd.R_mono HO122.out (fun _ hk => ⟨hk.2.1, hk.2.2⟩)⟩, ⟨by (with_reducible repeat (first | apply Kd.R_alloc | apply Kd.R_drewN | apply Kd.R_drew)); exact Kd.R_mono HO130.out (fun _ hk => ⟨hk.2.1, hk.2.2⟩)⟩, ⟨by (with_reducible repeat (first | refine blk_drewN ?_ _ | refine blk_drew ?_ | refine blk_alloc ?_ _)); exact BK101.out⟩, ⟨by (with_reducible repeat (first | refine blk_drewN ?_ _ | refine blk_drew ?_ | refine blk_alloc ?_ _)); exact BK102.out⟩, ⟨by (with_reducible repeat (first | refine blk_drewN ?_ _ | refine blk_drew ?_ | refine blk_alloc ?_ _)); exact BK117.out⟩, ⟨by (with_reducible repeat (first | refine blk_drewN ?_ _ | refine blk_drew ?_ | refine blk_alloc ?_ _)); exact BK123.out⟩, ⟨by (with_reducible repeat (first | refine blk_drewN ?_ _ | refine blk_drew ?_ | refine blk_alloc ?_ _)); exact BK132.out⟩, ⟨by repeat (first | (with_reducible first | exact HB.out | apply below_alloc | apply pw_below_drewN | apply below_drew1 | refine below_set ?_ GE101.out | refine below_set ?_ GE102.out | refine below_set ?_ GE117.out | refine below_set ?_ GE123.out | refine below_set ?_ GE132.out) | exact HB.out)⟩⟩
  case rest =>
   clear HC15
   try clear c2
   try clear p2
   try clear c3
   try clear c5
   try clear c6
   try clear c7
   try clear c29
   try clear c30
   try clear c31
   try clear c52
   try clear c53
   try clear c54
   try clear c55
   try clear c56
   try clear c58
   try clear c59
   try clear c60
   try clear c63
   try clear c64
   try clear c65
   try clear c66
   try clear c68
   try clear c69
   try clear c70
   try clear hcz57_0
   try clear hcz57_1
   try clear hcz57_2
   try clear hcz61_0
   try clear hcz61_1
   try clear hcz61_2
   try clear hcz67_0
   try clear hcz67_1
   try clear hcz67_2
   try clear hcz71_0
   try clear hcz71_1
   try clear hcz71_2
   try clear hfz57_0
   try clear hfz57_1
   try clear hfz57_2
   try clear hfz61_0
   try clear hfz61_1
   try clear hfz61_2
   try clear hfz67_0
   try clear hfz67_1
   try clear hfz67_2
   try clear hfz71_0
   try clear hfz71_1
   try clear hfz71_2
   obtain ⟨kq, x46_14, rfl, HA, HJ14, HO_118002, HO_124002, HO_133002, BK101, BK102, BK117, BK123, BK132, HB⟩ := hcut
   cases kq with
   | zero => exact absurd HA.out (by simp [laws_FnExactMoveField.j0])
   | succ kj14 =>
    have H := HA.out
    clear HA
    simp only [laws_FnExactMoveField.j0] at H
    by_cases c73 : x46_14 = true
    ·
     subst c73
     have H1 : (some false) = some r := by rw [if_pos rfl] at H; exact H
     clear H
     have H := H1
     clear H1
     obtain rfl := Option.some.inj H
     go_wp2
     go_ret
     exact ⟨by first | rfl | (simp [errW_none, errW_some] <;> rfl) | (simp [*, errW_none, errW_some] <;> rfl), by repeat (first | (with_reducible first | exact HB.out | apply below_alloc | apply pw_below_drewN | apply below_drew1) | exact HB.out)⟩
    ·
     replace c73 := Bool.eq_false_iff.mpr c73
     subst c73
     have H1 : ((laws_toField.f kj14 a0_0 a0_1 l0_2).bind fun bt134 => ((laws_eqField.f kj14 t118 t119 t120 bt134.1 bt134.2.1 bt134.2.2).bind fun t139 => (if t139 = true then ((laws_markField.f kj14 t118 t119 t120 1).bind fun bt140 => (if bt140.1 < 0 then (laws_FnExactMoveField.j1 kj14 t116 true a0_0 a0_1 l0_2 a1_0 a1_1 t111 t112 t113 t126 t127 t128) else ((laws_eqField.f kj14 t126 t127 t128 t111 t112 t113).bind fun t142 => (if t142 = true then (laws_FnExactMoveField.j1 kj14 t116 (t131 != t116) a0_0 a0_1 l0_2 a1_0 a1_1 t111 t112 t113 t126 t127 t128) else (laws_FnExactMoveField.j1 kj14 t116 true a0_0 a0_1 l0_2 a1_0 a1_1 t111 t112 t113 t126 t127 t128))))) else (some false)))) = some r := by rw [if_neg (show ¬ (false = true) by decide)] at H; exact H
     clear H
     have H := H1
     clear H1
     replace H := Option.bind_eq_some_iff.mp H
     obtain ⟨⟨t134, t135, t136⟩, A740, H⟩ := H
     replace H : ((laws_eqField.f kj14 t118 t119 t120 t134 t135 t136).bind fun t139 => (if t139 = true then ((laws_markField.f kj14 t118 t119 t120 1).bind fun bt140 => (if bt140.1 < 0 then (laws_FnExactMoveField.j1 kj14 t116 true a0_0 a0_1 l0_2 a1_0 a1_1 t111 t112 t113 t126 t127 t128) else ((laws_eqField.f kj14 t126 t127 t128 t111 t112 t113).bind fun t142 => (if t142 = true then (laws_FnExactMoveField.j1 kj14 t116 (t131 != t116) a0_0 a0_1 l0_2 a1_0 a1_1 t111 t112 t113 t126 t127 t128) else (laws_FnExactMoveField.j1 kj14 t116 true a0_0 a0_1 l0_2 a1_0 a1_1 t111 t112 t113 t126 t127 t128))))) else (some false))) = some r := H
     have A74 := Aside0.mk A740
     clear A740
     replace H := Option.bind_eq_some_iff.mp H
     obtain ⟨t139, A750, H⟩ := H
     replace H : (if t139 = true then ((laws_markField.f kj14 t118 t119 t120 1).bind fun bt140 => (if bt140.1 < 0 then (laws_FnExactMoveField.j1 kj14 t116 true a0_0 a0_1 l0_2 a1_0 a1_1 t111 t112 t113 t126 t127 t128) else ((laws_eqField.f kj14 t126 t127 t128 t111 t112 t113).bind fun t142 => (if t142 = true then (laws_FnExactMoveField.j1 kj14 t116 (t131 != t116) a0_0 a0_1 l0_2 a1_0 a1_1 t111 t112 t113 t126 t127 t128) else (laws_FnExactMoveField.j1 kj14 t116 true a0_0 a0_1 l0_2 a1_0 a1_1 t111 t112 t113 t126 t127 t128))))) else (some false)) = some r := H
     have A75 := Aside0.mk A750
     clear A750
     by_cases c76 : t139 = true
     ·
      subst c76
      have H1 : ((laws_markField.f kj14 t118 t119 t120 1).bind fun bt140 => (if bt140.1 < 0 then (laws_FnExactMoveField.j1 kj14 t116 true a0_0 a0_1 l0_2 a1_0 a1_1 t111 t112 t113 t126 t127 t128) else ((laws_eqField.f kj14 t126 t127 t128 t111 t112 t113).bind fun t142 => (if t142 = true then (laws_FnExactMoveField.j1 kj14 t116 (t131 != t116) a0_0 a0_1 l0_2 a1_0 a1_1 t111 t112 t113 t126 t127 t128) else (laws_FnExactMoveField.j1 kj14 t116 true a0_0 a0_1 l0_2 a1_0 a1_1 t111 t112 t113 t126 t127 t128))))) = some r := by rw [if_pos rfl] at H; exact H
      clear H
      have H := H1
      clear H1
      replace H := Option.bind_eq_some_iff.mp H
      obtain ⟨⟨t140, t141⟩, A770, H⟩ := H
      replace H : (if t140 < 0 then (laws_FnExactMoveField.j1 kj14 t116 true a0_0 a0_1 l0_2 a1_0 a1_1 t111 t112 t113 t126 t127 t128) else ((laws_eqField.f kj14 t126 t127 t128 t111 t112 t113).bind fun t142 => (if t142 = true then (laws_FnExactMoveField.j1 kj14 t116 (t131 != t116) a0_0 a0_1 l0_2 a1_0 a1_1 t111 t112 t113 t126 t127 t128) else (laws_FnExactMoveField.j1 kj14 t116 true a0_0 a0_1 l0_2 a1_0 a1_1 t111 t112 t113 t126 t127 t128)))) = some r := H
      have A77 := Aside0.mk A770
      clear A770
      have HC78 := Aside0.mk H
      clear H
      try go_wp2
      have n0_ := aK (Kd.R_drew HO_118002.out)
      have n1_ := aK (Kd.R_drew HO_124002.out)
      have n2_ := aK (Kd.R_drew HO_133002.out)
      have n3_ := aK (blk_drew BK101.out)
      have n4_ := aK (blk_drew BK102.out)
      have n5_ := aK (blk_drew BK117.out)
      have n6_ := aK (blk_drew BK123.out)
      have n7_ := aK (blk_drew BK132.out)
      have n8_ := aK (below_drew1 HB.out)
      clear HO_118002 HO_124002 HO_133002 BK101 BK102 BK117 BK123 BK132 HB
      have HO_118002 := n0_
      have HO_124002 := n1_
      have HO_133002 := n2_
      have BK101 := n3_
      have BK102 := n4_
      have BK117 := n5_
      have BK123 := n6_
      have BK132 := n7_
      have HB := n8_
      clear n0_ n1_ n2_ n3_ n4_ n5_ n6_ n7_ n8_
      refine start_ (n := 5) (S := fun w' => w'.cell? ⟨gb123, 0, none⟩ = some (.int .i64 t118) ∧ w'.cell? ⟨gb123, 1, none⟩ = some (.int .i64 t119) ∧ w'.cell? ⟨gb123, 2, none⟩ = some (.slice Ao40 t120.length co40) ∧ w'.cell? ⟨gb101, 0, none⟩ = some (.int .i64 a0_0) ∧ w'.cell? ⟨gb101, 1, none⟩ = some (.int .i64 a0_1) ∧ w'.cell? ⟨gb101, 2, none⟩ = some (.slice A0_2 l0_2.length c0_2)) (ds := []) #[false, false, false, false, false] (by kernel_rfl) rfl rfl ⟨(blk_cell BK123.out 0).trans rfl, (blk_cell BK123.out 1).trans rfl, (blk_cell BK123.out 2).trans rfl, (blk_cell BK101.out 0).trans rfl, (blk_cell BK101.out 1).trans rfl, (blk_cell BK101.out 2).trans rfl⟩ (fun hHeld => ?_)
      generalize wc.drew = w79 at HO_118002 HO_124002 HO_133002 BK101 BK102 BK117 BK123 BK132 HB hHeld ⊢
      refine take_ (i := 0) (N := some 47) (v := ?_) (a' := ?_) #[true, false, false, false, false] rfl rfl (by kernel_rfl) (fun _ _ _ h => h) (Or.inl ⟨by rfl, ?_⟩) hHeld ?_ ?_
      rotate_left
      ·
       rintro w' ⟨s0, s1, s2, s3, s4, s5⟩
       go_simp
       with_reducible rfl
      rotate_left
      ·
       simp only [Act.put, List.setIfInBounds_toArray, List.set_cons_zero, List.set_cons_succ, i64_w, i32_w]
       rfl
      refine take_ (i := 1) (N := some 48) (v := ?_) (a' := ?_) #[true, true, false, false, false] rfl rfl (by kernel_rfl) (fun _ _ _ h => h) (Or.inl ⟨by rfl, ?_⟩) hHeld ?_ ?_
      rotate_left
      ·
       rintro w' ⟨s0, s1, s2, s3, s4, s5⟩
       go_simp
       with_reducible rfl
      rotate_left
      ·
       simp only [Act.put, List.setIfInBounds_toArray, List.set_cons_zero, List.set_cons_succ, i64_w, i32_w]
       rfl
      refine one_ (i := 2) (N := some 49) #[true, true, true, false, false] rfl rfl (by kernel_rfl) (by decide) (fun K hK => ?_)
      refine goes_ Try.func28 (by kernel_rfl) rfl #[.agg #[.int .i64 a0_0, .int .i64 a0_1, .slice A0_2 l0_2.length c0_2]] (by rfl) rfl rfl (by (try simp only [List.map_toArray, List.map_cons, List.map_nil]); first | done | rfl | (simp only [List.length_drop, List.length_take]; rfl)) ?_
      with_reducible refine (laws_toField.calls kj14 a0_0 a0_1 _ _ l0_2 t134 t135 t136 _ ?side1 ?side2 A74.out).mono ?_
      (case side1 => repeat (first | exact (Kd.C_below HR0_2.out HB.out) | (with_reducible refine Kd.C_alloc ?_ _) | (with_reducible refine Kd.C_drewN ?_ _) | (with_reducible refine Kd.C_drew ?_)))
      (case side2 => exact HC0_2.out)
      rintro e w80 ⟨v137, rfl, ho0, hb⟩
      refine ⟨_, rfl, ?_⟩
      have n0_ := aK (Kd.R_elder' (pR HO_118002.out) (Kd.R_base ho0) hb)
      have n1_ := aK (Kd.R_elder' (pR HO_124002.out) (Kd.R_base ho0) hb)
      have n2_ := aK (Kd.R_elder' (pR HO_133002.out) (Kd.R_base ho0) hb)
      have HO138 := aK (Kd.R_lower (Kd.R_new' (Kd.R_new' (Kd.R_new' ho0 (Kd.R_lt (pR HO_118002.out))) (Kd.R_lt (pR HO_124002.out))) (Kd.R_lt (pR HO_133002.out))) (below_size (pS HB.out)))
      replace BK101 := bB BK101 hb
      replace BK102 := bB BK102 hb
      replace BK117 := bB BK117 hb
      replace BK123 := bB BK123 hb
      replace BK132 := bB BK132 hb
      replace HB := bS HB hb
      clear HO_118002 HO_124002 HO_133002
      have HO_118002 := n0_
      have HO_124002 := n1_
      have HO_133002 := n2_
      clear n0_ n1_ n2_
      (try clear hb)
      (try clear hb2)
      (try clear hk)
      (try clear hi)
      (try clear ho0)
      obtain ⟨Ao81, co81, eo81⟩ := Kd.R_slice HO138.out
      (first | subst eo81 | (injection eo81 with f1_ f2_ f3_; have f4_ := f1_.symm; have f5_ := f3_.symm; clear f1_ f2_ f3_; subst f4_; subst f5_))
      refine hK.out _ _ ⟨(blk_cell BK123.out 0).trans rfl, (blk_cell BK123.out 1).trans rfl, (blk_cell BK123.out 2).trans rfl, (blk_cell BK101.out 0).trans rfl, (blk_cell BK101.out 1).trans rfl, (blk_cell BK101.out 2).trans rfl⟩ (fun hHeld => ?_)
      clear hK K
      refine norm_ (a' := ?_) ?_ ?_
      rotate_left
      ·
       show Act.put _ (some 49) _ = _
       simp only [Act.put, List.setIfInBounds_toArray, List.set_cons_zero, List.set_cons_succ, i64_w, i32_w]
       rfl
      refine one_ (i := 3) (N := some 50) #[true, true, true, true, false] rfl rfl (by kernel_rfl) (by decide) (fun K hK => ?_)
      refine goes_ Try.func31 (by kernel_rfl) rfl #[.agg #[.int .i64 t118, .int .i64 t119, .slice Ao40 t120.length co40], .agg #[.int .i64 t134, .int .i64 t135, .slice Ao81 t136.length co81]] (by rfl) rfl rfl (by (try simp only [List.map_toArray, List.map_cons, List.map_nil]); first | done | rfl | (simp only [List.length_drop, List.length_take]; rfl)) ?_
      with_reducible refine (laws_eqField.calls kj14 t118 t119 _ _ t120 t134 t135 _ _ t136 true _ ?side1 ?side2 ?side3 ?side4 A75.out).mono ?_
      (case side1 => repeat (first | exact (Kd.R_reads' HO_124002.out).2.2 | (with_reducible refine Kd.C_alloc ?_ _) | (with_reducible refine Kd.C_drewN ?_ _) | (with_reducible refine Kd.C_drew ?_)))
      (case side2 => exact (Kd.R_reads' HO_124002.out).2.1)
      (case side3 => repeat (first | exact (Kd.R_reads' HO138.out).2.2 | (with_reducible refine Kd.C_alloc ?_ _) | (with_reducible refine Kd.C_drewN ?_ _) | (with_reducible refine Kd.C_drew ?_)))
      (case side4 => exact (Kd.R_reads' HO138.out).2.1)
      rintro e w82 ⟨rfl, hb⟩
      refine ⟨_, rfl, ?_⟩
      have n0_ := aK (Kd.R_below (pR HO_118002.out) hb)
      have n1_ := aK (Kd.R_below (pR HO_124002.out) hb)
      have n2_ := aK (Kd.R_below (pR HO_133002.out) hb)
      have n3_ := aK (Kd.R_below (pR HO138.out) hb)
      replace BK101 := bB BK101 hb
      replace BK102 := bB BK102 hb
      replace BK117 := bB BK117 hb
      replace BK123 := bB BK123 hb
      replace BK132 := bB BK132 hb
      replace HB := bS HB hb
      clear HO_118002 HO_124002 HO_133002 HO138
      have HO_118002 := n0_
      have HO_124002 := n1_
      have HO_133002 := n2_
      have HO138 := n3_
      clear n0_ n1_ n2_ n3_
      (try clear hb)
      (try clear hb2)
      (try clear hk)
      (try clear hi)
      refine hK.out _ _ ⟨(blk_cell BK123.out 0).trans rfl, (blk_cell BK123.out 1).trans rfl, (blk_cell BK123.out 2).trans rfl, (blk_cell BK101.out 0).trans rfl, (blk_cell BK101.out 1).trans rfl, (blk_cell BK101.out 2).trans rfl⟩ (fun hHeld => ?_)
      clear hK K
      refine norm_ (a' := ?_) ?_ ?_
      rotate_left
      ·
       show Act.put _ (some 50) _ = _
       simp only [Act.put, List.setIfInBounds_toArray, List.set_cons_zero, List.set_cons_succ, i64_w, i32_w]
       rfl
      refine pure_ (i := 4) (N := some 51) (v := ?_) (a' := ?_) #[true, true, true, true, true] rfl rfl (by kernel_rfl) (fun _ _ _ h => h) (Or.inl ⟨by rfl, ?_⟩) ?_ ?_
      rotate_left
      ·
       intro w'
       go_simp
       with_reducible rfl
      rotate_left
      ·
       simp only [Act.put, List.setIfInBounds_toArray, List.set_cons_zero, List.set_cons_succ, i64_w, i32_w]
       rfl
      refine done_ (by kernel_rfl) ?_
      have hnb83 := NB123_101.out
      have hnc83 := NB101_123.out
      have hnb84 := NB123_102.out
      have hnc84 := NB102_123.out
      have hnb85 := NB123_117.out
      have hnc85 := NB117_123.out
      have hnb86 := NB123_132.out
      have hnc86 := NB132_123.out
      have hcz87_0 : w82.cell? ⟨gb123, 0, none⟩ = some (.int .i64 t118) := (blk_cell BK123.out 0).trans rfl
      have hcz87_1 : w82.cell? ⟨gb123, 1, none⟩ = some (.int .i64 t119) := (blk_cell BK123.out 1).trans rfl
      have hcz87_2 : w82.cell? ⟨gb123, 2, none⟩ = some (.slice Ao40 t120.length co40) := (blk_cell BK123.out 2).trans rfl
      have hfz87_0 := blk_frozen BK123.out 0
      have hfz87_1 := blk_frozen BK123.out 1
      have hfz87_2 := blk_frozen BK123.out 2
      go_upto_region 14 with (first | ((with_reducible refine gate_callee (f := 32) rfl ?_); refine goesL_ (some 54) rfl rfl Try.func32 (by kernel_rfl) rfl #[.agg #[.int .i64 t118, .int .i64 t119, .slice Ao40 t120.length co40], .int .i64 1] rfl (by (try simp only [List.map_toArray, List.map_cons, List.map_nil]); first | done | rfl | (simp only [List.length_drop, List.length_take]; rfl)) ?_; (with_reducible refine (laws_markField.calls kj14 t118 t119 (fun k_ => some k_ = (.slice Ao40 t120.length co40 : Value).ownBlock) (.slice Ao40 t120.length co40) t120 1 t140 t141 w _ ?side1 ?side2 A77.out).mono ?_); (case side1 => repeat (first | (with_reducible first | exact HB.out | apply below_alloc | apply pw_below_drewN | apply below_drew1 | refine below_set ?_ GE101.out | refine below_set ?_ GE102.out | refine below_set ?_ GE117.out | refine below_set ?_ GE123.out | refine below_set ?_ GE132.out) | exact HB.out)); (case side2 => exact Kd.R_tight rfl HO_124002.out); rintro e w88 ⟨rfl, hy0, hb, hkp⟩; refine ⟨_, rfl, ?_⟩; have n0_ := aK (Kd.R_mono (ok' := fun k_ => some k_ ≠ (.slice Ao40 t120.length co40 : Value).ownBlock ∧ some k_ ≠ (.slice Ao49 t128.length co49 : Value).ownBlock ∧ some k_ ≠ (.slice Ao81 t136.length co81 : Value).ownBlock) (Kd.R_keptB (HO_118002.out) hkp (fun k_ hk_ hs_ => (hk_.1.1) hs_)) (fun k_ hk_ => ⟨hk_.1.1.1, hk_.1.1.2, hk_.1.2⟩)); have n1_ := aK (Kd.R_reok rfl hy0 (fun k_ e_ => HO_124002.out.1 k_ e_)); have n2_ := aK (Kd.R_mono (ok' := fun k_ => some k_ ≠ (.slice Ao30 t113.length co30 : Value).ownBlock ∧ some k_ ≠ (.slice Ao40 t120.length co40 : Value).ownBlock ∧ some k_ ≠ (.slice Ao81 t136.length co81 : Value).ownBlock) (Kd.R_keptB (HO_133002.out) hkp (fun k_ hk_ hs_ => (hk_.1.2) hs_)) (fun k_ hk_ => ⟨hk_.1.1.1, hk_.1.1.2, hk_.1.2⟩)); have n3_ := aK (blk_kept (pB BK101.out) hkp (fun hs_ => (fun e_ => (Kd.R_ne HO_124002.out BK101.out (by decide)) e_) hs_)); have n4_ := aK (blk_kept (pB BK102.out) hkp (fun hs_ => (fun e_ => (Kd.R_ne HO_124002.out BK102.out (by decide)) e_) hs_)); have n5_ := aK (blk_kept (pB BK117.out) hkp (fun hs_ => (fun e_ => (Kd.R_ne HO_124002.out BK117.out (by decide)) e_) hs_)); have n6_ := aK (blk_kept (pB BK123.out) hkp (fun hs_ => (fun e_ => (Kd.R_ne HO_124002.out BK123.out (by decide)) e_) hs_)); have n7_ := aK (blk_kept (pB BK132.out) hkp (fun hs_ => (fun e_ => (Kd.R_ne HO_124002.out BK132.out (by decide)) e_) hs_)); have n8_ := aK (Kd.R_mono (ok' := fun k_ => some k_ ≠ (.slice Ao30 t113.length co30 : Value).ownBlock ∧ some k_ ≠ (.slice Ao40 t120.length co40 : Value).ownBlock ∧ some k_ ≠ (.slice Ao49 t128.length co49 : Value).ownBlock) (Kd.R_keptB (HO138.out) hkp (fun k_ hk_ hs_ => (hk_.1.2) hs_)) (fun k_ hk_ => ⟨hk_.1.1.1.2, hk_.1.1.2, hk_.1.2⟩)); have n9_ := aK (hb); clear HO_118002 HO_124002 HO_133002 BK101 BK102 BK117 BK123 BK132 HO138 HB; have HO_118002 := n0_; have HO_124002 := n1_; have HO_133002 := n2_; have BK101 := n3_; have BK102 := n4_; have BK117 := n5_; have BK123 := n6_; have BK132 := n7_; have HO138 := n8_; have HB := n9_; clear n0_ n1_ n2_ n3_ n4_ n5_ n6_ n7_ n8_ n9_; (try clear hb); (try clear hkp); (try clear hy0)))
      (try simp only [Act.put, List.setIfInBounds_toArray, List.set_cons_zero, List.set_cons_succ])
      go_cut [67] (fun v67 wc => ∃ (kq : Nat) (x67_77 : Bool), v67 = .bool x67_77 ∧ Aside0 (laws_FnExactMoveField.j1 kq t116 x67_77 a0_0 a0_1 l0_2 a1_0 a1_1 t111 t112 t113 t126 t127 t128 = some r) ∧ Aside0 (kq ≤ kj14) ∧ Aside0 (Kd.R (Kd.int .i64) 3 wc w.heap.size (fun k_ => some k_ ≠ ((.slice Ao40 t120.length co40) : Value).ownBlock ∧ some k_ ≠ ((.slice Ao49 t128.length co49) : Value).ownBlock) (.slice Ao30 t113.length co30) t113) ∧ Aside0 (Kd.R (Kd.int .i64) 3 wc w.heap.size (fun k_ => some k_ ≠ ((.slice Ao30 t113.length co30) : Value).ownBlock ∧ some k_ ≠ ((.slice Ao49 t128.length co49) : Value).ownBlock) (.slice Ao40 t120.length co40) t141) ∧ Aside0 (Kd.R (Kd.int .i64) 3 wc w.heap.size (fun k_ => some k_ ≠ ((.slice Ao30 t113.length co30) : Value).ownBlock ∧ some k_ ≠ ((.slice Ao40 t120.length co40) : Value).ownBlock) (.slice Ao49 t128.length co49) t128) ∧ Aside0 (wc.heap[gb101]? = some (.cells #[.int .i64 a0_0, .int .i64 a0_1, (.slice A0_2 l0_2.length c0_2)] 38 (0, 0))) ∧ Aside0 (wc.heap[gb102]? = some (.cells #[.int .i64 a1_0, .int .i64 a1_1] 40 (0, 0))) ∧ Aside0 (wc.heap[gb117]? = some (.cells #[.int .i64 t111, .int .i64 t112, (.slice Ao30 t113.length co30)] 42 (0, 0))) ∧ Aside0 (wc.heap[gb123]? = some (.cells #[.int .i64 t118, .int .i64 t119, (.slice Ao40 t120.length co40)] 42 (0, 0))) ∧ Aside0 (wc.heap[gb132]? = some (.cells #[.int .i64 t126, .int .i64 t127, (.slice Ao49 t128.length co49)] 42 (0, 0))) ∧ Aside0 (Below w.heap.size w wc))
      case first =>
       have H := HC78.out
       clear HC78
       by_cases c89 : t140 < 0
       ·
        rw [if_pos c89] at H
        have c89b0 : decide (t140 < 0) = true := decide_eq_true c89
        clear c89
        (first | rw [c89b0] | (simp only [i64_w, i32_w]; rw [c89b0]) | skip)
        have H' := Aside0.mk H
        clear H
        go_wp2
        go_meet
        case rel => exact ⟨_, (true), (by first | rfl | (simp; done) | (simp [*]; done)), H', ⟨by have := HJ14.out; first | omega | exact Nat.le_refl _⟩, ⟨by (with_reducible repeat (first | apply Kd.R_alloc | apply Kd.R_drewN | apply Kd.R_drew)); exact Kd.R_mono HO_118002.out (fun _ hk => ⟨hk.1, hk.2.1⟩)⟩, ⟨by (with_reducible repeat (first | apply Kd.R_alloc | apply Kd.R_drewN | apply Kd.R_drew)); exact Kd.R_mono HO_124002.out (fun _ hk => ⟨hk.1.1, hk.1.2⟩)⟩, ⟨by (with_reducible repeat (first | apply Kd.R_alloc | apply Kd.R_drewN | apply Kd.R_drew)); exact Kd.R_mono HO_133002.out (fun _ hk => ⟨hk.1, hk.2.1⟩)⟩, ⟨by (with_reducible repeat (first | refine blk_drewN ?_ _ | refine blk_drew ?_ | refine blk_alloc ?_ _)); exact BK101.out⟩, ⟨by (with_reducible repeat (first | refine blk_drewN ?_ _ | refine blk_drew ?_ | refine blk_alloc ?_ _)); exact BK102.out⟩, ⟨by (with_reducible repeat (first | refine blk_drewN ?_ _ | refine blk_drew ?_ | refine blk_alloc ?_ _)); exact BK117.out⟩, ⟨by (with_reducible repeat (first | refine blk_drewN ?_ _ | refine blk_drew ?_ | refine blk_alloc ?_ _)); exact BK123.out⟩, ⟨by (with_reducible repeat (first | refine blk_drewN ?_ _ | refine blk_drew ?_ | refine blk_alloc ?_ _)); exact BK132.out⟩, ⟨by repeat (first | (with_reducible first | exact HB.out | apply below_alloc | apply pw_below_drewN | apply below_drew1 | refine below_set ?_ GE101.out | refine below_set ?_ GE102.out | refine below_set ?_ GE117.out | refine below_set ?_ GE123.out | refine below_set ?_ GE132.out) | exact HB.out)⟩⟩
       ·
        rw [if_neg c89] at H
        have c89b0 : decide (t140 < 0) = false := decide_eq_false c89
        clear c89
        (first | rw [c89b0] | (simp only [i64_w, i32_w]; rw [c89b0]) | skip)
        replace H := Option.bind_eq_some_iff.mp H
        obtain ⟨t142, A900, H⟩ := H
        replace H : (if t142 = true then (laws_FnExactMoveField.j1 kj14 t116 (t131 != t116) a0_0 a0_1 l0_2 a1_0 a1_1 t111 t112 t113 t126 t127 t128) else (laws_FnExactMoveField.j1 kj14 t116 true a0_0 a0_1 l0_2 a1_0 a1_1 t111 t112 t113 t126 t127 t128)) = some r := H
        have A90 := Aside0.mk A900
        clear A900
        by_cases c91 : t142 = true
        ·
         subst c91
         have H1 : (laws_FnExactMoveField.j1 kj14 t116 (t131 != t116) a0_0 a0_1 l0_2 a1_0 a1_1 t111 t112 t113 t126 t127 t128) = some r := by rw [if_pos rfl] at H; exact H
         clear H
         have H := H1
         clear H1
         have H' := Aside0.mk H
         clear H
         have hnb92 := NB132_101.out
         have hnc92 := NB101_132.out
         have hnb93 := NB132_102.out
         have hnc93 := NB102_132.out
         have hnb94 := NB132_117.out
         have hnc94 := NB117_132.out
         have hnb95 := NB132_123.out
         have hnc95 := NB123_132.out
         have hcz96_0 : w88.cell? ⟨gb132, 0, none⟩ = some (.int .i64 t126) := (blk_cell BK132.out 0).trans rfl
         have hcz96_1 : w88.cell? ⟨gb132, 1, none⟩ = some (.int .i64 t127) := (blk_cell BK132.out 1).trans rfl
         have hcz96_2 : w88.cell? ⟨gb132, 2, none⟩ = some (.slice Ao49 t128.length co49) := (blk_cell BK132.out 2).trans rfl
         have hfz96_0 := blk_frozen BK132.out 0
         have hfz96_1 := blk_frozen BK132.out 1
         have hfz96_2 := blk_frozen BK132.out 2
         have hnb97 := NB117_101.out
         have hnc97 := NB101_117.out
         have hnb98 := NB117_102.out
         have hnc98 := NB102_117.out
         have hnb99 := NB117_123.out
         have hnc99 := NB123_117.out
         have hcz100_0 : w88.cell? ⟨gb117, 0, none⟩ = some (.int .i64 t111) := (blk_cell BK117.out 0).trans rfl
         have hcz100_1 : w88.cell? ⟨gb117, 1, none⟩ = some (.int .i64 t112) := (blk_cell BK117.out 1).trans rfl
         have hcz100_2 : w88.cell? ⟨gb117, 2, none⟩ = some (.slice Ao30 t113.length co30) := (blk_cell BK117.out 2).trans rfl
         have hfz100_0 := blk_frozen BK117.out 0
         have hfz100_1 := blk_frozen BK117.out 1
         have hfz100_2 := blk_frozen BK117.out 2
         go_wp2_with (first | (go_at_call 31; (with_reducible refine (laws_eqField.calls kj14 t126 t127 _ _ t128 t111 t112 _ _ t113 true _ ?side1 ?side2 ?side3 ?side4 A90.out).mono ?_); (case side1 => repeat (first | exact (Kd.R_reads' HO_133002.out).2.2 | (with_reducible refine Kd.C_alloc ?_ _) | (with_reducible refine Kd.C_drewN ?_ _) | (with_reducible refine Kd.C_drew ?_))); (case side2 => exact (Kd.R_reads' HO_133002.out).2.1); (case side3 => repeat (first | exact (Kd.R_reads' HO_118002.out).2.2 | (with_reducible refine Kd.C_alloc ?_ _) | (with_reducible refine Kd.C_drewN ?_ _) | (with_reducible refine Kd.C_drew ?_))); (case side4 => exact (Kd.R_reads' HO_118002.out).2.1); rintro e w101 ⟨rfl, hb⟩; have n0_ := aK (Kd.R_below (pR HO_118002.out) hb); have n1_ := aK (Kd.R_below (pR HO_124002.out) hb); have n2_ := aK (Kd.R_below (pR HO_133002.out) hb); have n3_ := aK (Kd.R_below (pR HO138.out) hb); replace BK101 := bB BK101 hb; replace BK102 := bB BK102 hb; replace BK117 := bB BK117 hb; replace BK123 := bB BK123 hb; replace BK132 := bB BK132 hb; replace HB := bS HB hb; clear HO_118002 HO_124002 HO_133002 HO138; have HO_118002 := n0_; have HO_124002 := n1_; have HO_133002 := n2_; have HO138 := n3_; clear n0_ n1_ n2_ n3_; (try clear hb); (try clear hb2); (try clear hk); (try clear hi)))
         go_meet
         case rel => exact ⟨_, ((t131 != t116)), (by first | rfl | (simp; done) | (simp [*]; done)), H', ⟨by have := HJ14.out; first | omega | exact Nat.le_refl _⟩, ⟨by (with_reducible repeat (first | apply Kd.R_alloc | apply Kd.R_drewN | apply Kd.R_drew)); exact Kd.R_mono HO_118002.out (fun _ hk => ⟨hk.1, hk.2.1⟩)⟩, ⟨by (with_reducible repeat (first | apply Kd.R_alloc | apply Kd.R_drewN | apply Kd.R_drew)); exact Kd.R_mono HO_124002.out (fun _ hk => ⟨hk.1.1, hk.1.2⟩)⟩, ⟨by (with_reducible repeat (first | apply Kd.R_alloc | apply Kd.R_drewN | apply Kd.R_drew)); exact Kd.R_mono HO_133002.out (fun _ hk => ⟨hk.1, hk.2.1⟩)⟩, ⟨by (with_reducible repeat (first | refine blk_drewN ?_ _ | refine blk_drew ?_ | refine blk_alloc ?_ _)); exact BK101.out⟩, ⟨by (with_reducible repeat (first | refine blk_drewN ?_ _ | refine blk_drew ?_ | refine blk_alloc ?_ _)); exact BK102.out⟩, ⟨by (with_reducible repeat (first | refine blk_drewN ?_ _ | refine blk_drew ?_ | refine blk_alloc ?_ _)); exact BK117.out⟩, ⟨by (with_reducible repeat (first | refine blk_drewN ?_ _ | refine blk_drew ?_ | refine blk_alloc ?_ _)); exact BK123.out⟩, ⟨by (with_reducible repeat (first | refine blk_drewN ?_ _ | refine blk_drew ?_ | refine blk_alloc ?_ _)); exact BK132.out⟩, ⟨by repeat (first | (with_reducible first | exact HB.out | apply below_alloc | apply pw_below_drewN | apply below_drew1 | refine below_set ?_ GE101.out | refine below_set ?_ GE102.out | refine below_set ?_ GE117.out | refine below_set ?_ GE123.out | refine below_set ?_ GE132.out) | exact HB.out)⟩⟩
        ·
         replace c91 := Bool.eq_false_iff.mpr c91
         subst c91
         have H1 : (laws_FnExactMoveField.j1 kj14 t116 true a0_0 a0_1 l0_2 a1_0 a1_1 t111 t112 t113 t126 t127 t128) = some r := by rw [if_neg (show ¬ (false = true) by decide)] at H; exact H
         clear H
         have H := H1
         clear H1
         have H' := Aside0.mk H
         clear H
         have hnb102 := NB132_101.out
         have hnc102 := NB101_132.out
         have hnb103 := NB132_102.out
         have hnc103 := NB102_132.out
         have hnb104 := NB132_117.out
         have hnc104 := NB117_132.out
         have hnb105 := NB132_123.out
         have hnc105 := NB123_132.out
         have hcz106_0 : w88.cell? ⟨gb132, 0, none⟩ = some (.int .i64 t126) := (blk_cell BK132.out 0).trans rfl
         have hcz106_1 : w88.cell? ⟨gb132, 1, none⟩ = some (.int .i64 t127) := (blk_cell BK132.out 1).trans rfl
         have hcz106_2 : w88.cell? ⟨gb132, 2, none⟩ = some (.slice Ao49 t128.length co49) := (blk_cell BK132.out 2).trans rfl
         have hfz106_0 := blk_frozen BK132.out 0
         have hfz106_1 := blk_frozen BK132.out 1
         have hfz106_2 := blk_frozen BK132.out 2
         have hnb107 := NB117_101.out
         have hnc107 := NB101_117.out
         have hnb108 := NB117_102.out
         have hnc108 := NB102_117.out
         have hnb109 := NB117_123.out
         have hnc109 := NB123_117.out
         have hcz110_0 : w88.cell? ⟨gb117, 0, none⟩ = some (.int .i64 t111) := (blk_cell BK117.out 0).trans rfl
         have hcz110_1 : w88.cell? ⟨gb117, 1, none⟩ = some (.int .i64 t112) := (blk_cell BK117.out 1).trans rfl
         have hcz110_2 : w88.cell? ⟨gb117, 2, none⟩ = some (.slice Ao30 t113.length co30) := (blk_cell BK117.out 2).trans rfl
         have hfz110_0 := blk_frozen BK117.out 0
         have hfz110_1 := blk_frozen BK117.out 1
         have hfz110_2 := blk_frozen BK117.out 2
         go_wp2_with (first | (go_at_call 31; (with_reducible refine (laws_eqField.calls kj14 t126 t127 _ _ t128 t111 t112 _ _ t113 false _ ?side1 ?side2 ?side3 ?side4 A90.out).mono ?_); (case side1 => repeat (first | exact (Kd.R_reads' HO_133002.out).2.2 | (with_reducible refine Kd.C_alloc ?_ _) | (with_reducible refine Kd.C_drewN ?_ _) | (with_reducible refine Kd.C_drew ?_))); (case side2 => exact (Kd.R_reads' HO_133002.out).2.1); (case side3 => repeat (first | exact (Kd.R_reads' HO_118002.out).2.2 | (with_reducible refine Kd.C_alloc ?_ _) | (with_reducible refine Kd.C_drewN ?_ _) | (with_reducible refine Kd.C_drew ?_))); (case side4 => exact (Kd.R_reads' HO_118002.out).2.1); rintro e w111 ⟨rfl, hb⟩; have n0_ := aK (Kd.R_below (pR HO_118002.out) hb); have n1_ := aK (Kd.R_below (pR HO_124002.out) hb); have n2_ := aK (Kd.R_below (pR HO_133002.out) hb); have n3_ := aK (Kd.R_below (pR HO138.out) hb); replace BK101 := bB BK101 hb; replace BK102 := bB BK102 hb; replace BK117 := bB BK117 hb; replace BK123 := bB BK123 hb; replace BK132 := bB BK132 hb; replace HB := bS HB hb; clear HO_118002 HO_124002 HO_133002 HO138; have HO_118002 := n0_; have HO_124002 := n1_; have HO_133002 := n2_; have HO138 := n3_; clear n0_ n1_ n2_ n3_; (try clear hb); (try clear hb2); (try clear hk); (try clear hi)))
         go_meet
         case rel => exact ⟨_, (true), (by first | rfl | (simp; done) | (simp [*]; done)), H', ⟨by have := HJ14.out; first | omega | exact Nat.le_refl _⟩, ⟨by (with_reducible repeat (first | apply Kd.R_alloc | apply Kd.R_drewN | apply Kd.R_drew)); exact Kd.R_mono HO_118002.out (fun _ hk => ⟨hk.1, hk.2.1⟩)⟩, ⟨by (with_reducible repeat (first | apply Kd.R_alloc | apply Kd.R_drewN | apply Kd.R_drew)); exact Kd.R_mono HO_124002.out (fun _ hk => ⟨hk.1.1, hk.1.2⟩)⟩, ⟨by (with_reducible repeat (first | apply Kd.R_alloc | apply Kd.R_drewN | apply Kd.R_drew)); exact Kd.R_mono HO_133002.out (fun _ hk => ⟨hk.1, hk.2.1⟩)⟩, ⟨by (with_reducible repeat (first | refine blk_drewN ?_ _ | refine blk_drew ?_ | refine blk_alloc ?_ _)); exact BK101.out⟩, ⟨by (with_reducible repeat (first | refine blk_drewN ?_ _ | refine blk_drew ?_ | refine blk_alloc ?_ _)); exact BK102.out⟩, ⟨by (with_reducible repeat (first | refine blk_drewN ?_ _ | refine blk_drew ?_ | refine blk_alloc ?_ _)); exact BK117.out⟩, ⟨by (with_reducible repeat (first | refine blk_drewN ?_ _ | refine blk_drew ?_ | refine blk_alloc ?_ _)); exact BK123.out⟩, ⟨by (with_reducible repeat (first | refine blk_drewN ?_ _ | refine blk_drew ?_ | refine blk_alloc ?_ _)); exact BK132.out⟩, ⟨by repeat (first | (with_reducible first | exact HB.out | apply below_alloc | apply pw_below_drewN | apply below_drew1 | refine below_set ?_ GE101.out | refine below_set ?_ GE102.out | refine below_set ?_ GE117.out | refine below_set ?_ GE123.out | refine below_set ?_ GE132.out) | exact HB.out)⟩⟩
      case rest =>
       clear HC78
       try clear c1
       try clear c2
       try clear p2
       try clear c3
       try clear c5
       try clear c6
       try clear c7
       try clear c8
       try clear c9
       try clear c10
       try clear c28
       try clear c29
       try clear c30
       try clear c31
       try clear c32
       try clear c52
       try clear c53
       try clear c54
       try clear c55
       try clear c56
       try clear c58
       try clear c59
       try clear c60
       try clear c63
       try clear c64
       try clear c65
       try clear c66
       try clear c68
       try clear c69
       try clear c70
       try clear c73
       try clear c76
       try clear c83
       try clear c84
       try clear c85
       try clear c86
       try clear c89
       try clear c89b0
       try clear c91
       try clear c92
       try clear c93
       try clear c94
       try clear c95
       try clear c97
       try clear c98
       try clear c99
       try clear c102
       try clear c103
       try clear c104
       try clear c105
       try clear c107
       try clear c108
       try clear c109
       try clear hcz100_0
       try clear hcz100_1
       try clear hcz100_2
       try clear hcz106_0
       try clear hcz106_1
       try clear hcz106_2
       try clear hcz110_0
       try clear hcz110_1
       try clear hcz110_2
       try clear hcz57_0
       try clear hcz57_1
       try clear hcz57_2
       try clear hcz61_0
       try clear hcz61_1
       try clear hcz61_2
       try clear hcz67_0
       try clear hcz67_1
       try clear hcz67_2
       try clear hcz71_0
       try clear hcz71_1
       try clear hcz71_2
       try clear hcz87_0
       try clear hcz87_1
       try clear hcz87_2
       try clear hcz96_0
       try clear hcz96_1
       try clear hcz96_2
       try clear hfz100_0
       try clear hfz100_1
       try clear hfz100_2
       try clear hfz106_0
       try clear hfz106_1
       try clear hfz106_2
       try clear hfz110_0
       try clear hfz110_1
       try clear hfz110_2
       try clear hfz57_0
       try clear hfz57_1
       try clear hfz57_2
       try clear hfz61_0
       try clear hfz61_1
       try clear hfz61_2
       try clear hfz67_0
       try clear hfz67_1
       try clear hfz67_2
       try clear hfz71_0
       try clear hfz71_1
       try clear hfz71_2
       try clear hfz87_0
       try clear hfz87_1
       try clear hfz87_2
       try clear hfz96_0
       try clear hfz96_1
       try clear hfz96_2
       try clear p2
       obtain ⟨kq, x67_77, rfl, HA, HJ77, HO_118002, HO_124002, HO_133002, BK101, BK102, BK117, BK123, BK132, HB⟩ := hcut
       have hl124002_77 := (Kd.R_reads' HO_124002.out).1
       rw [hl124002_77] at HO_124002
       (try simp only [hl124002_77])
       (try simp only [hl124002_77] at BK101)
       (try simp only [hl124002_77] at BK102)
       (try simp only [hl124002_77] at BK117)
       (try simp only [hl124002_77] at BK123)
       (try simp only [hl124002_77] at BK132)
       (try simp only [hl124002_77] at HO_118002)
       (try simp only [hl124002_77] at HO_133002)
       cases kq with
       | zero => exact absurd HA.out (by simp [laws_FnExactMoveField.j1])
       | succ kj77 =>
        have H := HA.out
        clear HA
        simp only [laws_FnExactMoveField.j1] at H
        by_cases c112 : x67_77 = true
        ·
         subst c112
         have H1 : (some false) = some r := by rw [if_pos rfl] at H; exact H
         clear H
         have H := H1
         clear H1
         obtain rfl := Option.some.inj H
         go_wp2
         go_ret
         exact ⟨by first | rfl | (simp [errW_none, errW_some] <;> rfl) | (simp [*, errW_none, errW_some] <;> rfl), by repeat (first | (with_reducible first | exact HB.out | apply below_alloc | apply pw_below_drewN | apply below_drew1) | exact HB.out)⟩
        ·
         replace c112 := Bool.eq_false_iff.mpr c112
         subst c112
         have H1 : ((laws_markField.f kj77 t126 t127 t128 1).bind fun bt143 => ((laws_heldField.f kj77 t126 t127 bt143.2 1).bind fun t145 => (if t145 < 0 then (some false) else (if t145 = bt143.1 then ((laws_toField.f kj77 a0_0 a0_1 l0_2).bind fun bt146 => ((laws_toMotion.f a1_0 a1_1).bind fun bt151 => ((impl_MoveField.f kj77 bt146.1 bt146.2.1 bt146.2.2 bt151.1 bt151.2).bind fun bt153 => ((laws_eqField.f kj77 bt153.1 bt153.2.1 bt153.2.2.1 t111 t112 t113).bind fun t160 => (if t160 = true then (laws_FnExactMoveField.j2 kj77 bt143.1 (bt153.2.2.2 != t116) t126 t127 bt143.2) else (laws_FnExactMoveField.j2 kj77 bt143.1 true t126 t127 bt143.2)))))) else (some false))))) = some r := by rw [if_neg (show ¬ (false = true) by decide)] at H; exact H
         clear H
         have H := H1
         clear H1
         replace H := Option.bind_eq_some_iff.mp H
         obtain ⟨⟨t143, t144⟩, A1130, H⟩ := H
         replace H : ((laws_heldField.f kj77 t126 t127 t144 1).bind fun t145 => (if t145 < 0 then (some false) else (if t145 = t143 then ((laws_toField.f kj77 a0_0 a0_1 l0_2).bind fun bt146 => ((laws_toMotion.f a1_0 a1_1).bind fun bt151 => ((impl_MoveField.f kj77 bt146.1 bt146.2.1 bt146.2.2 bt151.1 bt151.2).bind fun bt153 => ((laws_eqField.f kj77 bt153.1 bt153.2.1 bt153.2.2.1 t111 t112 t113).bind fun t160 => (if t160 = true then (laws_FnExactMoveField.j2 kj77 t143 (bt153.2.2.2 != t116) t126 t127 t144) else (laws_FnExactMoveField.j2 kj77 t143 true t126 t127 t144)))))) else (some false)))) = some r := H
         have A113 := Aside0.mk A1130
         clear A1130
         replace H := Option.bind_eq_some_iff.mp H
         obtain ⟨t145, A1140, H⟩ := H
         replace H : (if t145 < 0 then (some false) else (if t145 = t143 then ((laws_toField.f kj77 a0_0 a0_1 l0_2).bind fun bt146 => ((laws_toMotion.f a1_0 a1_1).bind fun bt151 => ((impl_MoveField.f kj77 bt146.1 bt146.2.1 bt146.2.2 bt151.1 bt151.2).bind fun bt153 => ((laws_eqField.f kj77 bt153.1 bt153.2.1 bt153.2.2.1 t111 t112 t113).bind fun t160 => (if t160 = true then (laws_FnExactMoveField.j2 kj77 t143 (bt153.2.2.2 != t116) t126 t127 t144) else (laws_FnExactMoveField.j2 kj77 t143 true t126 t127 t144)))))) else (some false))) = some r := H
         have A114 := Aside0.mk A1140
         clear A1140
         by_cases c115 : t145 < 0
         ·
          rw [if_pos c115] at H
          have c115b0 : decide (t145 < 0) = true := decide_eq_true c115
          clear c115
          obtain rfl := Option.some.inj H
          have hcz116_0 : wc.cell? ⟨gb132, 0, none⟩ = some (.int .i64 t126) := (blk_cell BK132.out 0).trans rfl
          have hcz116_1 : wc.cell? ⟨gb132, 1, none⟩ = some (.int .i64 t127) := (blk_cell BK132.out 1).trans rfl
          have hcz116_2 : wc.cell? ⟨gb132, 2, none⟩ = some (.slice Ao49 t128.length co49) := (blk_cell BK132.out 2).trans rfl
          have hfz116_0 := blk_frozen BK132.out 0
          have hfz116_1 := blk_frozen BK132.out 1
          have hfz116_2 := blk_frozen BK132.out 2
          go_wp2_with (first | ((with_reducible refine gate_callee (f := 32) rfl ?_); refine goesL_ (some 70) rfl rfl Try.func32 (by kernel_rfl) rfl #[.agg #[.int .i64 t126, .int .i64 t127, .slice Ao49 t128.length co49], .int .i64 1] rfl (by (try simp only [List.map_toArray, List.map_cons, List.map_nil]); first | done | rfl | (simp only [List.length_drop, List.length_take]; rfl)) ?_; (with_reducible refine (laws_markField.calls kj77 t126 t127 (fun k_ => some k_ = (.slice Ao49 t128.length co49 : Value).ownBlock) (.slice Ao49 t128.length co49) t128 1 t143 t144 w _ ?side1 ?side2 A113.out).mono ?_); (case side1 => repeat (first | (with_reducible first | exact HB.out | apply below_alloc | apply pw_below_drewN | apply below_drew1 | refine below_set ?_ GE132.out) | exact HB.out)); (case side2 => exact Kd.R_tight rfl HO_133002.out); rintro e w117 ⟨rfl, hy0, hb, hkp⟩; refine ⟨_, rfl, ?_⟩; have n0_ := aK (Kd.R_mono (ok' := fun k_ => some k_ ≠ (.slice Ao40 t141.length co40 : Value).ownBlock ∧ some k_ ≠ (.slice Ao49 t128.length co49 : Value).ownBlock) (Kd.R_keptB (HO_118002.out) hkp (fun k_ hk_ hs_ => (hk_.2) hs_)) (fun k_ hk_ => ⟨hk_.1.1, hk_.1.2⟩)); have n1_ := aK (Kd.R_mono (ok' := fun k_ => some k_ ≠ (.slice Ao30 t113.length co30 : Value).ownBlock ∧ some k_ ≠ (.slice Ao49 t128.length co49 : Value).ownBlock) (Kd.R_keptB (HO_124002.out) hkp (fun k_ hk_ hs_ => (hk_.2) hs_)) (fun k_ hk_ => ⟨hk_.1.1, hk_.1.2⟩)); have n2_ := aK (Kd.R_reok rfl hy0 (fun k_ e_ => HO_133002.out.1 k_ e_)); have n3_ := aK (blk_kept (pB BK132.out) hkp (fun hs_ => (fun e_ => (Kd.R_ne HO_133002.out BK132.out (by decide)) e_) hs_)); have n4_ := aK (hb); clear HO_118002 HO_124002 HO_133002 BK132 HB; have HO_118002 := n0_; have HO_124002 := n1_; have HO_133002 := n2_; have BK132 := n3_; have HB := n4_; clear n0_ n1_ n2_ n3_ n4_; (try clear hb); (try clear hkp); (try clear hy0); have hcz118_0 : w117.cell? ⟨gb132, 0, none⟩ = some (.int .i64 t126) := (blk_cell BK132.out 0).trans rfl; have hcz118_1 : w117.cell? ⟨gb132, 1, none⟩ = some (.int .i64 t127) := (blk_cell BK132.out 1).trans rfl; have hcz118_2 : w117.cell? ⟨gb132, 2, none⟩ = some (.slice Ao49 t128.length co49) := (blk_cell BK132.out 2).trans rfl; have hfz118_0 := blk_frozen BK132.out 0; have hfz118_1 := blk_frozen BK132.out 1; have hfz118_2 := blk_frozen BK132.out 2) | ((with_reducible refine gate_callee (f := 33) rfl ?_); refine goesL_ (some 73) rfl rfl Try.func33 (by kernel_rfl) rfl #[.agg #[.int .i64 t126, .int .i64 t127, .slice Ao49 t144.length co49], .int .i64 1] rfl (by (try simp only [List.map_toArray, List.map_cons, List.map_nil]); first | done | (rw [show t144.length = t128.length from (Kd.R_reads' HO_133002.out).1.symm] <;> rfl) | rfl | (simp only [List.length_drop, List.length_take]; rfl)) ?_; (with_reducible refine (laws_heldField.calls kj77 t126 t127 _ _ t144 1 t145 _ ?side1 ?side2 A114.out).mono ?_); (case side1 => repeat (first | exact (Kd.R_reads' HO_133002.out).2.2 | (with_reducible refine Kd.C_alloc ?_ _) | (with_reducible refine Kd.C_drewN ?_ _) | (with_reducible refine Kd.C_drew ?_))); (case side2 => rw [show t144.length = t128.length from (Kd.R_reads' HO_133002.out).1.symm]; exact (Kd.R_reads' HO_133002.out).2.1); rintro e w119 ⟨rfl, hb⟩; refine ⟨_, rfl, ?_⟩; have n0_ := aK (Kd.R_below (pR HO_118002.out) hb); have n1_ := aK (Kd.R_below (pR HO_124002.out) hb); have n2_ := aK (Kd.R_below (pR HO_133002.out) hb); replace HB := bS HB hb; clear HO_118002 HO_124002 HO_133002; have HO_118002 := n0_; have HO_124002 := n1_; have HO_133002 := n2_; clear n0_ n1_ n2_; (try clear hb); (try clear hb2); (try clear hk); (try clear hi)))
          go_ret
          exact ⟨by first | rfl | (simp [errW_none, errW_some] <;> rfl) | (simp [*, errW_none, errW_some] <;> rfl), by repeat (first | (with_reducible first | exact HB.out | apply below_alloc | apply pw_below_drewN | apply below_drew1) | exact HB.out)⟩
         ·
          rw [if_neg c115] at H
          have c115b0 : decide (t145 < 0) = false := decide_eq_false c115
          clear c115
          by_cases c120 : t145 = t143
          ·
           rw [if_pos c120] at H
           have c120b0 : (t145 == t143) = true := beq_iff_eq.mpr c120
           have c120b1 : (t145 != t143) = false := bne_eq_false_iff_eq.mpr c120
           clear c120
           replace H := Option.bind_eq_some_iff.mp H
           obtain ⟨⟨t146, t147, t148⟩, A1210, H⟩ := H
           replace H : ((laws_toMotion.f a1_0 a1_1).bind fun bt151 => ((impl_MoveField.f kj77 t146 t147 t148 bt151.1 bt151.2).bind fun bt153 => ((laws_eqField.f kj77 bt153.1 bt153.2.1 bt153.2.2.1 t111 t112 t113).bind fun t160 => (if t160 = true then (laws_FnExactMoveField.j2 kj77 t143 (bt153.2.2.2 != t116) t126 t127 t144) else (laws_FnExactMoveField.j2 kj77 t143 true t126 t127 t144))))) = some r := H
           have A121 := Aside0.mk A1210
           clear A1210
           replace H := Option.bind_eq_some_iff.mp H
           obtain ⟨⟨t151, t152⟩, A1220, H⟩ := H
           replace H : ((impl_MoveField.f kj77 t146 t147 t148 t151 t152).bind fun bt153 => ((laws_eqField.f kj77 bt153.1 bt153.2.1 bt153.2.2.1 t111 t112 t113).bind fun t160 => (if t160 = true then (laws_FnExactMoveField.j2 kj77 t143 (bt153.2.2.2 != t116) t126 t127 t144) else (laws_FnExactMoveField.j2 kj77 t143 true t126 t127 t144)))) = some r := H
           have A122 := Aside0.mk A1220
           clear A1220
           replace H := Option.bind_eq_some_iff.mp H
           obtain ⟨⟨t153, t154, t155, t158⟩, A1230, H⟩ := H
           replace H : ((laws_eqField.f kj77 t153 t154 t155 t111 t112 t113).bind fun t160 => (if t160 = true then (laws_FnExactMoveField.j2 kj77 t143 (t158 != t116) t126 t127 t144) else (laws_FnExactMoveField.j2 kj77 t143 true t126 t127 t144))) = some r := H
           have A123 := Aside0.mk A1230
           clear A1230
           have HC124 := Aside0.mk H
           clear H
           have hnb125 := NB132_101.out
           have hnc125 := NB101_132.out
           have hnb126 := NB132_102.out
           have hnc126 := NB102_132.out
           have hnb127 := NB132_117.out
           have hnc127 := NB117_132.out
           have hnb128 := NB132_123.out
           have hnc128 := NB123_132.out
           have hcz129_0 : wc.cell? ⟨gb132, 0, none⟩ = some (.int .i64 t126) := (blk_cell BK132.out 0).trans rfl
           have hcz129_1 : wc.cell? ⟨gb132, 1, none⟩ = some (.int .i64 t127) := (blk_cell BK132.out 1).trans rfl
           have hcz129_2 : wc.cell? ⟨gb132, 2, none⟩ = some (.slice Ao49 t128.length co49) := (blk_cell BK132.out 2).trans rfl
           have hfz129_0 := blk_frozen BK132.out 0
           have hfz129_1 := blk_frozen BK132.out 1
           have hfz129_2 := blk_frozen BK132.out 2
           try go_wp2_with (first | ((with_reducible refine gate_callee (f := 32) rfl ?_); refine goesL_ (some 70) rfl rfl Try.func32 (by kernel_rfl) rfl #[.agg #[.int .i64 t126, .int .i64 t127, .slice Ao49 t128.length co49], .int .i64 1] rfl (by (try simp only [List.map_toArray, List.map_cons, List.map_nil]); first | done | rfl | (simp only [List.length_drop, List.length_take]; rfl)) ?_; (with_reducible refine (laws_markField.calls kj77 t126 t127 (fun k_ => some k_ = (.slice Ao49 t128.length co49 : Value).ownBlock) (.slice Ao49 t128.length co49) t128 1 t143 t144 w _ ?side1 ?side2 A113.out).mono ?_); (case side1 => repeat (first | (with_reducible first | exact HB.out | apply below_alloc | apply pw_below_drewN | apply below_drew1 | refine below_set ?_ GE101.out | refine below_set ?_ GE102.out | refine below_set ?_ GE117.out | refine below_set ?_ GE123.out | refine below_set ?_ GE132.out) | exact HB.out)); (case side2 => exact Kd.R_tight rfl HO_133002.out); rintro e w130 ⟨rfl, hy0, hb, hkp⟩; refine ⟨_, rfl, ?_⟩; have n0_ := aK (Kd.R_mono (ok' := fun k_ => some k_ ≠ (.slice Ao40 t141.length co40 : Value).ownBlock ∧ some k_ ≠ (.slice Ao49 t128.length co49 : Value).ownBlock) (Kd.R_keptB (HO_118002.out) hkp (fun k_ hk_ hs_ => (hk_.2) hs_)) (fun k_ hk_ => ⟨hk_.1.1, hk_.1.2⟩)); have n1_ := aK (Kd.R_mono (ok' := fun k_ => some k_ ≠ (.slice Ao30 t113.length co30 : Value).ownBlock ∧ some k_ ≠ (.slice Ao49 t128.length co49 : Value).ownBlock) (Kd.R_keptB (HO_124002.out) hkp (fun k_ hk_ hs_ => (hk_.2) hs_)) (fun k_ hk_ => ⟨hk_.1.1, hk_.1.2⟩)); have n2_ := aK (Kd.R_reok rfl hy0 (fun k_ e_ => HO_133002.out.1 k_ e_)); have n3_ := aK (blk_kept (pB BK101.out) hkp (fun hs_ => (fun e_ => (Kd.R_ne HO_133002.out BK101.out (by decide)) e_) hs_)); have n4_ := aK (blk_kept (pB BK102.out) hkp (fun hs_ => (fun e_ => (Kd.R_ne HO_133002.out BK102.out (by decide)) e_) hs_)); have n5_ := aK (blk_kept (pB BK117.out) hkp (fun hs_ => (fun e_ => (Kd.R_ne HO_133002.out BK117.out (by decide)) e_) hs_)); have n6_ := aK (blk_kept (pB BK123.out) hkp (fun hs_ => (fun e_ => (Kd.R_ne HO_133002.out BK123.out (by decide)) e_) hs_)); have n7_ := aK (blk_kept (pB BK132.out) hkp (fun hs_ => (fun e_ => (Kd.R_ne HO_133002.out BK132.out (by decide)) e_) hs_)); have n8_ := aK (hb); clear HO_118002 HO_124002 HO_133002 BK101 BK102 BK117 BK123 BK132 HB; have HO_118002 := n0_; have HO_124002 := n1_; have HO_133002 := n2_; have BK101 := n3_; have BK102 := n4_; have BK117 := n5_; have BK123 := n6_; have BK132 := n7_; have HB := n8_; clear n0_ n1_ n2_ n3_ n4_ n5_ n6_ n7_ n8_; (try clear hb); (try clear hkp); (try clear hy0); have hcz131_0 : w130.cell? ⟨gb132, 0, none⟩ = some (.int .i64 t126) := (blk_cell BK132.out 0).trans rfl; have hcz131_1 : w130.cell? ⟨gb132, 1, none⟩ = some (.int .i64 t127) := (blk_cell BK132.out 1).trans rfl; have hcz131_2 : w130.cell? ⟨gb132, 2, none⟩ = some (.slice Ao49 t128.length co49) := (blk_cell BK132.out 2).trans rfl; have hfz131_0 := blk_frozen BK132.out 0; have hfz131_1 := blk_frozen BK132.out 1; have hfz131_2 := blk_frozen BK132.out 2) | ((with_reducible refine gate_callee (f := 33) rfl ?_); refine goesL_ (some 73) rfl rfl Try.func33 (by kernel_rfl) rfl #[.agg #[.int .i64 t126, .int .i64 t127, .slice Ao49 t144.length co49], .int .i64 1] rfl (by (try simp only [List.map_toArray, List.map_cons, List.map_nil]); first | done | (rw [show t144.length = t128.length from (Kd.R_reads' HO_133002.out).1.symm] <;> rfl) | rfl | (simp only [List.length_drop, List.length_take]; rfl)) ?_; (with_reducible refine (laws_heldField.calls kj77 t126 t127 _ _ t144 1 t145 _ ?side1 ?side2 A114.out).mono ?_); (case side1 => repeat (first | exact (Kd.R_reads' HO_133002.out).2.2 | (with_reducible refine Kd.C_alloc ?_ _) | (with_reducible refine Kd.C_drewN ?_ _) | (with_reducible refine Kd.C_drew ?_))); (case side2 => rw [show t144.length = t128.length from (Kd.R_reads' HO_133002.out).1.symm]; exact (Kd.R_reads' HO_133002.out).2.1); rintro e w132 ⟨rfl, hb⟩; refine ⟨_, rfl, ?_⟩; have n0_ := aK (Kd.R_below (pR HO_118002.out) hb); have n1_ := aK (Kd.R_below (pR HO_124002.out) hb); have n2_ := aK (Kd.R_below (pR HO_133002.out) hb); replace BK101 := bB BK101 hb; replace BK102 := bB BK102 hb; replace BK117 := bB BK117 hb; replace BK123 := bB BK123 hb; replace BK132 := bB BK132 hb; replace HB := bS HB hb; clear HO_118002 HO_124002 HO_133002; have HO_118002 := n0_; have HO_124002 := n1_; have HO_133002 := n2_; clear n0_ n1_ n2_; (try clear hb); (try clear hb2); (try clear hk); (try clear hi)))
           have n0_ := aK (Kd.R_drew HO_118002.out)
           have n1_ := aK (Kd.R_drew HO_124002.out)
           have n2_ := aK (Kd.R_drew HO_133002.out)
           have n3_ := aK (blk_drew BK101.out)
           have n4_ := aK (blk_drew BK102.out)
           have n5_ := aK (blk_drew BK117.out)
           have n6_ := aK (blk_drew BK123.out)
           have n7_ := aK (blk_drew BK132.out)
           have n8_ := aK (below_drew1 HB.out)
           clear HO_118002 HO_124002 HO_133002 BK101 BK102 BK117 BK123 BK132 HB
           have HO_118002 := n0_
           have HO_124002 := n1_
           have HO_133002 := n2_
           have BK101 := n3_
           have BK102 := n4_
           have BK117 := n5_
           have BK123 := n6_
           have BK132 := n7_
           have HB := n8_
           clear n0_ n1_ n2_ n3_ n4_ n5_ n6_ n7_ n8_
           refine start_ (n := 11) (S := fun w' => w'.cell? ⟨gb101, 0, none⟩ = some (.int .i64 a0_0) ∧ w'.cell? ⟨gb101, 1, none⟩ = some (.int .i64 a0_1) ∧ w'.cell? ⟨gb101, 2, none⟩ = some (.slice A0_2 l0_2.length c0_2) ∧ w'.cell? ⟨gb102, 0, none⟩ = some (.int .i64 a1_0) ∧ w'.cell? ⟨gb102, 1, none⟩ = some (.int .i64 a1_1)) (ds := []) #[false, false, false, false, false, false, false, false, false, false, false] (by kernel_rfl) rfl rfl ⟨(blk_cell BK101.out 0).trans rfl, (blk_cell BK101.out 1).trans rfl, (blk_cell BK101.out 2).trans rfl, (blk_cell BK102.out 0).trans rfl, (blk_cell BK102.out 1).trans rfl⟩ (fun hHeld => ?_); refine with_tabW laws_FnExactMoveField.tab24 laws_FnExactMoveField.bits24 (fun HT_ HW_ => ?_)
           generalize w132.drew = w133 at HO_118002 HO_124002 HO_133002 BK101 BK102 BK117 BK123 BK132 HB hHeld ⊢
           refine take_ (i := 0) (N := some 80) (v := ?_) (a' := ?_) #[true, false, false, false, false, false, false, false, false, false, false] rfl rfl (take_ofW HT_.out HW_.out (by kernel_rfl)) (fun _ _ _ h => h) (Or.inl ⟨by rfl, ?_⟩) hHeld ?_ ?_
           rotate_left
           ·
            rintro w' ⟨s0, s1, s2, s3, s4⟩
            go_simp
            with_reducible rfl
           rotate_left
           ·
            simp only [Act.put, List.setIfInBounds_toArray, List.set_cons_zero, List.set_cons_succ, i64_w, i32_w]
            rfl
           refine take_ (i := 2) (N := some 82) (v := ?_) (a' := ?_) #[true, false, true, false, false, false, false, false, false, false, false] rfl rfl (take_ofW HT_.out HW_.out (by kernel_rfl)) (fun _ _ _ h => h) (Or.inl ⟨by rfl, ?_⟩) hHeld ?_ ?_
           rotate_left
           ·
            rintro w' ⟨s0, s1, s2, s3, s4⟩
            go_simp
            with_reducible rfl
           rotate_left
           ·
            simp only [Act.put, List.setIfInBounds_toArray, List.set_cons_zero, List.set_cons_succ, i64_w, i32_w]
            rfl
           refine join_ (σ := Value × Value × Nat) 2 #[true, true, true, true, true, true, true, true, true, false, false] (fun s_ => [(81, .agg #[.int .i64 t146, .int .i64 t147, s_.1]), (83, .agg #[.int .i64 t151, .int .i64 t152]), (84, .tuple #[.agg #[.int .i64 t153, .int .i64 t154, s_.2.1], .bool t158]), (14, .pointer (some ⟨s_.2.2, 0, none⟩)), (79, .tuple #[.agg #[.int .i64 t153, .int .i64 t154, s_.2.1], .bool t158]), (85, .agg #[.int .i64 t153, .int .i64 t154, s_.2.1]), (86, .bool t158)]) (fun s_ w' => (w'.cell? ⟨gb101, 0, none⟩ = some (.int .i64 a0_0) ∧ w'.cell? ⟨gb101, 1, none⟩ = some (.int .i64 a0_1) ∧ w'.cell? ⟨gb101, 2, none⟩ = some (.slice A0_2 l0_2.length c0_2) ∧ w'.cell? ⟨gb102, 0, none⟩ = some (.int .i64 a1_0) ∧ w'.cell? ⟨gb102, 1, none⟩ = some (.int .i64 a1_1)) ∧ (Kd.R (Kd.int .i64) 3 w' w.heap.size (fun k_ => some k_ ≠ (s_.2.1 : Value).ownBlock ∧ some k_ ≠ (.slice Ao30 t113.length co30 : Value).ownBlock ∧ some k_ ≠ (.slice Ao40 t141.length co40 : Value).ownBlock ∧ some k_ ≠ (.slice Ao49 t128.length co49 : Value).ownBlock) s_.1 t148) ∧ (Kd.R (Kd.int .i64) 3 w' w.heap.size (fun k_ => some k_ ≠ (s_.1 : Value).ownBlock ∧ some k_ ≠ (.slice Ao30 t113.length co30 : Value).ownBlock ∧ some k_ ≠ (.slice Ao40 t141.length co40 : Value).ownBlock ∧ some k_ ≠ (.slice Ao49 t128.length co49 : Value).ownBlock) s_.2.1 t155) ∧ (Kd.R (Kd.int .i64) 3 w' w.heap.size (fun k_ => some k_ ≠ (s_.1 : Value).ownBlock ∧ some k_ ≠ (s_.2.1 : Value).ownBlock ∧ some k_ ≠ (.slice Ao40 t141.length co40 : Value).ownBlock ∧ some k_ ≠ (.slice Ao49 t128.length co49 : Value).ownBlock) (.slice Ao30 t113.length co30) t113) ∧ (Kd.R (Kd.int .i64) 3 w' w.heap.size (fun k_ => some k_ ≠ (s_.1 : Value).ownBlock ∧ some k_ ≠ (s_.2.1 : Value).ownBlock ∧ some k_ ≠ (.slice Ao30 t113.length co30 : Value).ownBlock ∧ some k_ ≠ (.slice Ao49 t128.length co49 : Value).ownBlock) (.slice Ao40 t141.length co40) t141) ∧ (Kd.R (Kd.int .i64) 3 w' w.heap.size (fun k_ => some k_ ≠ (s_.1 : Value).ownBlock ∧ some k_ ≠ (s_.2.1 : Value).ownBlock ∧ some k_ ≠ (.slice Ao30 t113.length co30 : Value).ownBlock ∧ some k_ ≠ (.slice Ao40 t141.length co40 : Value).ownBlock) (.slice Ao49 t128.length co49) t144) ∧ (w'.heap[gb101]? = some (.cells #[.int .i64 a0_0, .int .i64 a0_1, .slice A0_2 l0_2.length c0_2] 38 (0, 0))) ∧ (w'.heap[gb102]? = some (.cells #[.int .i64 a1_0, .int .i64 a1_1] 40 (0, 0))) ∧ (w'.heap[gb117]? = some (.cells #[.int .i64 t111, .int .i64 t112, .slice Ao30 t113.length co30] 42 (0, 0))) ∧ (w'.heap[gb123]? = some (.cells #[.int .i64 t118, .int .i64 t119, .slice Ao40 t141.length co40] 42 (0, 0))) ∧ (w'.heap[gb132]? = some (.cells #[.int .i64 t126, .int .i64 t127, .slice Ao49 t128.length co49] 42 (0, 0))) ∧ (w'.heap[s_.2.2]? = some (.cells #[.int .i64 0, .int .i64 0, .slice none 0 0] 42 (0, 0))) ∧ (w.heap.size ≤ s_.2.2) ∧ (w.heap.size ≤ s_.2.2) ∧ (gb101 ≠ s_.2.2) ∧ (s_.2.2 ≠ gb101) ∧ (gb102 ≠ s_.2.2) ∧ (s_.2.2 ≠ gb102) ∧ (gb117 ≠ s_.2.2) ∧ (s_.2.2 ≠ gb117) ∧ (gb123 ≠ s_.2.2) ∧ (s_.2.2 ≠ gb123) ∧ (gb132 ≠ s_.2.2) ∧ (s_.2.2 ≠ gb132) ∧ (Below w.heap.size w w')) ?_ ?_
           rotate_left
           ·
            intro hCont
            refine two_ (i := 1) (j := 8) (Ni := some 81) (Nj := some 14) #[true, true, true, false, false, false, false, false, false, false, false] #[true, false, true, false, false, false, false, false, true, false, false] rfl rfl rfl rfl (two_of HT_.out (by kernel_rfl)) (by decide) (by decide) (fun K hK => ?_) (fun K hK => ?_)
            ·
             skip
             refine goes_ Try.func28 (by kernel_rfl) rfl #[.agg #[.int .i64 a0_0, .int .i64 a0_1, .slice A0_2 l0_2.length c0_2]] (by rfl) rfl rfl (by (try simp only [List.map_toArray, List.map_cons, List.map_nil]); first | done | rfl | (simp only [List.length_drop, List.length_take]; rfl)) ?_
             with_reducible refine (laws_toField.calls kj77 a0_0 a0_1 _ _ l0_2 t146 t147 t148 _ ?side1 ?side2 A121.out).mono ?_
             (case side1 => repeat (first | exact (Kd.C_below HR0_2.out HB.out) | (with_reducible refine Kd.C_alloc ?_ _) | (with_reducible refine Kd.C_drewN ?_ _) | (with_reducible refine Kd.C_drew ?_)))
             (case side2 => exact HC0_2.out)
             rintro e w134 ⟨v149, rfl, ho0, hb⟩
             refine ⟨_, rfl, ?_⟩
             have n0_ := aK (Kd.R_elder' (pR HO_118002.out) (Kd.R_base ho0) hb)
             have n1_ := aK (Kd.R_elder' (pR HO_124002.out) (Kd.R_base ho0) hb)
             have n2_ := aK (Kd.R_elder' (pR HO_133002.out) (Kd.R_base ho0) hb)
             have HO150 := aK (Kd.R_lower (Kd.R_new' (Kd.R_new' (Kd.R_new' ho0 (Kd.R_lt (pR HO_118002.out))) (Kd.R_lt (pR HO_124002.out))) (Kd.R_lt (pR HO_133002.out))) (below_size (pS HB.out)))
             replace BK101 := bB BK101 hb
             replace BK102 := bB BK102 hb
             replace BK117 := bB BK117 hb
             replace BK123 := bB BK123 hb
             replace BK132 := bB BK132 hb
             replace HB := bS HB hb
             clear HO_118002 HO_124002 HO_133002
             have HO_118002 := n0_
             have HO_124002 := n1_
             have HO_133002 := n2_
             clear n0_ n1_ n2_
             (try clear hb)
             (try clear hb2)
             (try clear hk)
             (try clear hi)
             (try clear ho0)
             refine hK.out _ _ ⟨(blk_cell BK101.out 0).trans rfl, (blk_cell BK101.out 1).trans rfl, (blk_cell BK101.out 2).trans rfl, (blk_cell BK102.out 0).trans rfl, (blk_cell BK102.out 1).trans rfl⟩ (fun hHeld => ?_)
             clear hK K
             refine norm_ (a' := ?_) ?_ ?_
             rotate_left
             ·
              show Act.put _ (some 81) _ = _
              simp only [Act.put, List.setIfInBounds_toArray, List.set_cons_zero, List.set_cons_succ, i64_w, i32_w]
              rfl
             refine two_ (i := 3) (j := 8) (Ni := some 83) (Nj := some 14) #[true, true, true, true, false, false, false, false, false, false, false] #[true, true, true, false, false, false, false, false, true, false, false] rfl rfl rfl rfl (two_of HT_.out (by kernel_rfl)) (by decide) (by decide) (fun K hK => ?_) (fun K hK => ?_)
             ·
              skip
              refine goes_ Try.func29 (by kernel_rfl) rfl #[.agg #[.int .i64 a1_0, .int .i64 a1_1]] (by rfl) rfl rfl (by (try simp only [List.map_toArray, List.map_cons, List.map_nil]); first | done | rfl | (simp only [List.length_drop, List.length_take]; rfl)) ?_
              with_reducible refine (laws_toMotion.calls a1_0 a1_1 t151 t152 _ A122.out).mono ?_
              rintro e w135 ⟨rfl, hb⟩
              refine ⟨_, rfl, ?_⟩
              have n0_ := aK (Kd.R_below (pR HO_118002.out) hb)
              have n1_ := aK (Kd.R_below (pR HO_124002.out) hb)
              have n2_ := aK (Kd.R_below (pR HO_133002.out) hb)
              have n3_ := aK (Kd.R_below (pR HO150.out) hb)
              replace BK101 := bB BK101 hb
              replace BK102 := bB BK102 hb
              replace BK117 := bB BK117 hb
              replace BK123 := bB BK123 hb
              replace BK132 := bB BK132 hb
              replace HB := bS HB hb
              clear HO_118002 HO_124002 HO_133002 HO150
              have HO_118002 := n0_
              have HO_124002 := n1_
              have HO_133002 := n2_
              have HO150 := n3_
              clear n0_ n1_ n2_ n3_
              (try clear hb)
              (try clear hb2)
              (try clear hk)
              (try clear hi)
              obtain ⟨Ao136, co136, eo136⟩ := Kd.R_slice HO150.out
              (first | subst eo136 | (injection eo136 with f1_ f2_ f3_; have f4_ := f1_.symm; have f5_ := f3_.symm; clear f1_ f2_ f3_; subst f4_; subst f5_))
              refine hK.out _ _ ⟨(blk_cell BK101.out 0).trans rfl, (blk_cell BK101.out 1).trans rfl, (blk_cell BK101.out 2).trans rfl, (blk_cell BK102.out 0).trans rfl, (blk_cell BK102.out 1).trans rfl⟩ (fun hHeld => ?_)
              clear hK K
              refine norm_ (a' := ?_) ?_ ?_
              rotate_left
              ·
               show Act.put _ (some 83) _ = _
               simp only [Act.put, List.setIfInBounds_toArray, List.set_cons_zero, List.set_cons_succ, i64_w, i32_w]
               rfl
              refine two_ (i := 4) (j := 8) (Ni := some 84) (Nj := some 14) #[true, true, true, true, true, false, false, false, false, false, false] #[true, true, true, true, false, false, false, false, true, false, false] rfl rfl rfl rfl (two_of HT_.out (by kernel_rfl)) (by decide) (by decide) (fun K hK => ?_) (fun K hK => ?_)
              ·
               skip
               refine goes_ Try.func30 (by kernel_rfl) rfl #[.agg #[.int .i64 t146, .int .i64 t147, .slice Ao136 t148.length co136], .agg #[.int .i64 t151, .int .i64 t152]] (by rfl) rfl rfl (by (try simp only [List.map_toArray, List.map_cons, List.map_nil]); first | done | rfl | (simp only [List.length_drop, List.length_take]; rfl)) ?_
               with_reducible refine (impl_MoveField.calls kj77 t146 t147 _ _ t148 t151 t152 t153 t154 t155 t158 _ ?side1 ?side2 A123.out).mono ?_
               (case side1 => repeat (first | exact (Kd.R_reads' HO150.out).2.2 | (with_reducible refine Kd.C_alloc ?_ _) | (with_reducible refine Kd.C_drewN ?_ _) | (with_reducible refine Kd.C_drew ?_)))
               (case side2 => exact (Kd.R_reads' HO150.out).2.1)
               rintro e w137 ⟨v156, rfl, ho0, hb⟩
               refine ⟨_, rfl, ?_⟩
               have n0_ := aK (Kd.R_elder' (pR HO_118002.out) (Kd.R_base ho0) hb)
               have n1_ := aK (Kd.R_elder' (pR HO_124002.out) (Kd.R_base ho0) hb)
               have n2_ := aK (Kd.R_elder' (pR HO_133002.out) (Kd.R_base ho0) hb)
               have n3_ := aK (Kd.R_elder' (pR HO150.out) (Kd.R_base ho0) hb)
               have HO157 := aK (Kd.R_lower (Kd.R_new' (Kd.R_new' (Kd.R_new' (Kd.R_new' ho0 (Kd.R_lt (pR HO_118002.out))) (Kd.R_lt (pR HO_124002.out))) (Kd.R_lt (pR HO_133002.out))) (Kd.R_lt (pR HO150.out))) (below_size (pS HB.out)))
               replace BK101 := bB BK101 hb
               replace BK102 := bB BK102 hb
               replace BK117 := bB BK117 hb
               replace BK123 := bB BK123 hb
               replace BK132 := bB BK132 hb
               replace HB := bS HB hb
               clear HO_118002 HO_124002 HO_133002 HO150
               have HO_118002 := n0_
               have HO_124002 := n1_
               have HO_133002 := n2_
               have HO150 := n3_
               clear n0_ n1_ n2_ n3_
               (try clear hb)
               (try clear hb2)
               (try clear hk)
               (try clear hi)
               (try clear ho0)
               refine hK.out _ _ ⟨(blk_cell BK101.out 0).trans rfl, (blk_cell BK101.out 1).trans rfl, (blk_cell BK101.out 2).trans rfl, (blk_cell BK102.out 0).trans rfl, (blk_cell BK102.out 1).trans rfl⟩ (fun hHeld => ?_)
               clear hK K
               refine norm_ (a' := ?_) ?_ ?_
               rotate_left
               ·
                show Act.put _ (some 84) _ = _
                simp only [Act.put, List.setIfInBounds_toArray, List.set_cons_zero, List.set_cons_succ, i64_w, i32_w]
                rfl
               refine pure_ (i := 5) (N := some 79) (v := ?_) (a' := ?_) #[true, true, true, true, true, true, false, false, false, false, false] rfl rfl (any_of HT_.out (by kernel_rfl)) (fun _ _ _ h => h) (Or.inl ⟨by rfl, ?_⟩) ?_ ?_
               rotate_left
               ·
                intro w'
                go_simp
                with_reducible rfl
               rotate_left
               ·
                simp only [Act.put, List.setIfInBounds_toArray, List.set_cons_zero, List.set_cons_succ, i64_w, i32_w]
                rfl
               refine pure_ (i := 6) (N := some 85) (v := ?_) (a' := ?_) #[true, true, true, true, true, true, true, false, false, false, false] rfl rfl (any_of HT_.out (by kernel_rfl)) (fun _ _ _ h => h) (Or.inl ⟨by rfl, ?_⟩) ?_ ?_
               rotate_left
               ·
                intro w'
                go_simp
                with_reducible rfl
               rotate_left
               ·
                simp only [Act.put, List.setIfInBounds_toArray, List.set_cons_zero, List.set_cons_succ, i64_w, i32_w]
                rfl
               refine pure_ (i := 7) (N := some 86) (v := ?_) (a' := ?_) #[true, true, true, true, true, true, true, true, false, false, false] rfl rfl (any_of HT_.out (by kernel_rfl)) (fun _ _ _ h => h) (Or.inl ⟨by rfl, ?_⟩) ?_ ?_
               rotate_left
               ·
                intro w'
                go_simp
                with_reducible rfl
               rotate_left
               ·
                simp only [Act.put, List.setIfInBounds_toArray, List.set_cons_zero, List.set_cons_succ, i64_w, i32_w]
                rfl
               refine one_ (i := 8) (N := some 14) #[true, true, true, true, true, true, true, true, true, false, false] rfl rfl (one_of HT_.out (by kernel_rfl)) (by decide) (fun K hK => ?_)
               refine box_step ?hg (N := 14) ?hd (cs := #[.int .i64 0, .int .i64 0, .slice none 0 0]) (t := 42) ?hr ?_; (case hd => rfl); (case hg => rfl); (case hr => first | (go_simp; done) | (go_simp; rfl))
               intro gb159 hg w138 hbox hb
               have n0_ := aK (Kd.R_below (pR HO_118002.out) hb)
               have n1_ := aK (Kd.R_below (pR HO_124002.out) hb)
               have n2_ := aK (Kd.R_below (pR HO_133002.out) hb)
               have n3_ := aK (Kd.R_below (pR HO150.out) hb)
               have n4_ := aK (Kd.R_below (pR HO157.out) hb)
               have BK159 := aK (hbox)
               have GW159 := aK (gE hg (pS HB.out))
               have GE159 := aK (gE hg (pS HB.out))
               have NB101_159 := aK (nL hg (pB BK101.out))
               have NB159_101 := aK (nG hg (pB BK101.out))
               have NB102_159 := aK (nL hg (pB BK102.out))
               have NB159_102 := aK (nG hg (pB BK102.out))
               have NB117_159 := aK (nL hg (pB BK117.out))
               have NB159_117 := aK (nG hg (pB BK117.out))
               have NB123_159 := aK (nL hg (pB BK123.out))
               have NB159_123 := aK (nG hg (pB BK123.out))
               have NB132_159 := aK (nL hg (pB BK132.out))
               have NB159_132 := aK (nG hg (pB BK132.out))
               replace BK101 := bB BK101 hb
               replace BK102 := bB BK102 hb
               replace BK117 := bB BK117 hb
               replace BK123 := bB BK123 hb
               replace BK132 := bB BK132 hb
               replace HB := bS HB hb
               clear HO_118002 HO_124002 HO_133002 HO150 HO157
               have HO_118002 := n0_
               have HO_124002 := n1_
               have HO_133002 := n2_
               have HO150 := n3_
               have HO157 := n4_
               clear n0_ n1_ n2_ n3_ n4_ hb hbox hg
               refine hK.out _ _ ⟨(blk_cell BK101.out 0).trans rfl, (blk_cell BK101.out 1).trans rfl, (blk_cell BK101.out 2).trans rfl, (blk_cell BK102.out 0).trans rfl, (blk_cell BK102.out 1).trans rfl⟩ (fun hHeld => ?_)
               clear hK K
               refine norm_ (a' := ?_) ?_ ?_
               rotate_left
               ·
                show Act.put _ (some 14) _ = _
                simp only [Act.put, List.setIfInBounds_toArray, List.set_cons_zero, List.set_cons_succ, i64_w, i32_w]
                rfl
               exact norm_ (by simp only [putAll, Act.put, List.setIfInBounds_toArray, List.set_cons_zero, List.set_cons_succ]) (hCont (.slice Ao136 t148.length co136, v156, gb159) _ ⟨hHeld, (pR (Kd.R_mono HO150.out (fun _ hk => ⟨hk.2, ⟨hk.1.1.1.2, ⟨hk.1.1.2, hk.1.2⟩⟩⟩))), (pR (Kd.R_mono HO157.out (fun _ hk => ⟨hk.2, ⟨hk.1.1.1.2, ⟨hk.1.1.2, hk.1.2⟩⟩⟩))), (pR (Kd.R_mono HO_118002.out (fun _ hk => ⟨hk.1.2, ⟨hk.2, ⟨hk.1.1.1, hk.1.1.2⟩⟩⟩))), (pR (Kd.R_mono HO_124002.out (fun _ hk => ⟨hk.1.2, ⟨hk.2, ⟨hk.1.1.1, hk.1.1.2⟩⟩⟩))), (pR (Kd.R_mono HO_133002.out (fun _ hk => ⟨hk.1.2, ⟨hk.2, ⟨hk.1.1.1, hk.1.1.2⟩⟩⟩))), (pB BK101.out), (pB BK102.out), (pB BK117.out), (pB BK123.out), (pB BK132.out), (pB BK159.out), GW159.out, GE159.out, NB101_159.out, NB159_101.out, NB102_159.out, NB159_102.out, NB117_159.out, NB159_117.out, NB123_159.out, NB159_123.out, NB132_159.out, NB159_132.out, (pS HB.out)⟩)
              ·
               skip
               refine box_step ?hg (N := 14) ?hd (cs := #[.int .i64 0, .int .i64 0, .slice none 0 0]) (t := 42) ?hr ?_; (case hd => rfl); (case hg => rfl); (case hr => first | (go_simp; done) | (go_simp; rfl))
               intro gb159 hg w136 hbox hb
               have n0_ := aK (Kd.R_below (pR HO_118002.out) hb)
               have n1_ := aK (Kd.R_below (pR HO_124002.out) hb)
               have n2_ := aK (Kd.R_below (pR HO_133002.out) hb)
               have n3_ := aK (Kd.R_below (pR HO150.out) hb)
               have BK159 := aK (hbox)
               have GW159 := aK (gE hg (pS HB.out))
               have GE159 := aK (gE hg (pS HB.out))
               have NB101_159 := aK (nL hg (pB BK101.out))
               have NB159_101 := aK (nG hg (pB BK101.out))
               have NB102_159 := aK (nL hg (pB BK102.out))
               have NB159_102 := aK (nG hg (pB BK102.out))
               have NB117_159 := aK (nL hg (pB BK117.out))
               have NB159_117 := aK (nG hg (pB BK117.out))
               have NB123_159 := aK (nL hg (pB BK123.out))
               have NB159_123 := aK (nG hg (pB BK123.out))
               have NB132_159 := aK (nL hg (pB BK132.out))
               have NB159_132 := aK (nG hg (pB BK132.out))
               replace BK101 := bB BK101 hb
               replace BK102 := bB BK102 hb
               replace BK117 := bB BK117 hb
               replace BK123 := bB BK123 hb
               replace BK132 := bB BK132 hb
               replace HB := bS HB hb
               clear HO_118002 HO_124002 HO_133002 HO150
               have HO_118002 := n0_
               have HO_124002 := n1_
               have HO_133002 := n2_
               have HO150 := n3_
               clear n0_ n1_ n2_ n3_ hb hbox hg
               obtain ⟨Ao137, co137, eo137⟩ := Kd.R_slice HO150.out
               (first | subst eo137 | (injection eo137 with f1_ f2_ f3_; have f4_ := f1_.symm; have f5_ := f3_.symm; clear f1_ f2_ f3_; subst f4_; subst f5_))
               refine hK.out _ _ ⟨(blk_cell BK101.out 0).trans rfl, (blk_cell BK101.out 1).trans rfl, (blk_cell BK101.out 2).trans rfl, (blk_cell BK102.out 0).trans rfl, (blk_cell BK102.out 1).trans rfl⟩ (fun hHeld => ?_)
               clear hK K
               refine norm_ (a' := ?_) ?_ ?_
               rotate_left
               ·
                show Act.put _ (some 14) _ = _
                simp only [Act.put, List.setIfInBounds_toArray, List.set_cons_zero, List.set_cons_succ, i64_w, i32_w]
                rfl
               refine one_ (i := 4) (N := some 84) #[true, true, true, true, true, false, false, false, true, false, false] rfl rfl (one_of HT_.out (by kernel_rfl)) (by decide) (fun K hK => ?_)
               refine goes_ Try.func30 (by kernel_rfl) rfl #[.agg #[.int .i64 t146, .int .i64 t147, .slice Ao137 t148.length co137], .agg #[.int .i64 t151, .int .i64 t152]] (by rfl) rfl rfl (by (try simp only [List.map_toArray, List.map_cons, List.map_nil]); first | done | rfl | (simp only [List.length_drop, List.length_take]; rfl)) ?_
               with_reducible refine (impl_MoveField.calls kj77 t146 t147 _ _ t148 t151 t152 t153 t154 t155 t158 _ ?side1 ?side2 A123.out).mono ?_
               (case side1 => repeat (first | exact (Kd.R_reads' HO150.out).2.2 | (with_reducible refine Kd.C_alloc ?_ _) | (with_reducible refine Kd.C_drewN ?_ _) | (with_reducible refine Kd.C_drew ?_)))
               (case side2 => exact (Kd.R_reads' HO150.out).2.1)
               rintro e w138 ⟨v156, rfl, ho0, hb⟩
               refine ⟨_, rfl, ?_⟩
               have n0_ := aK (Kd.R_elder' (pR HO_118002.out) (Kd.R_base ho0) hb)
               have n1_ := aK (Kd.R_elder' (pR HO_124002.out) (Kd.R_base ho0) hb)
               have n2_ := aK (Kd.R_elder' (pR HO_133002.out) (Kd.R_base ho0) hb)
               have n3_ := aK (Kd.R_elder' (pR HO150.out) (Kd.R_base ho0) hb)
               have HO157 := aK (Kd.R_lower (Kd.R_new' (Kd.R_new' (Kd.R_new' (Kd.R_new' ho0 (Kd.R_lt (pR HO_118002.out))) (Kd.R_lt (pR HO_124002.out))) (Kd.R_lt (pR HO_133002.out))) (Kd.R_lt (pR HO150.out))) (below_size (pS HB.out)))
               replace BK101 := bB BK101 hb
               replace BK102 := bB BK102 hb
               replace BK117 := bB BK117 hb
               replace BK123 := bB BK123 hb
               replace BK132 := bB BK132 hb
               replace BK159 := bB BK159 hb
               replace HB := bS HB hb
               clear HO_118002 HO_124002 HO_133002 HO150
               have HO_118002 := n0_
               have HO_124002 := n1_
               have HO_133002 := n2_
               have HO150 := n3_
               clear n0_ n1_ n2_ n3_
               (try clear hb)
               (try clear hb2)
               (try clear hk)
               (try clear hi)
               (try clear ho0)
               refine hK.out _ _ ⟨(blk_cell BK101.out 0).trans rfl, (blk_cell BK101.out 1).trans rfl, (blk_cell BK101.out 2).trans rfl, (blk_cell BK102.out 0).trans rfl, (blk_cell BK102.out 1).trans rfl⟩ (fun hHeld => ?_)
               clear hK K
               refine norm_ (a' := ?_) ?_ ?_
               rotate_left
               ·
                show Act.put _ (some 84) _ = _
                simp only [Act.put, List.setIfInBounds_toArray, List.set_cons_zero, List.set_cons_succ, i64_w, i32_w]
                rfl
               refine pure_ (i := 5) (N := some 79) (v := ?_) (a' := ?_) #[true, true, true, true, true, true, false, false, true, false, false] rfl rfl (any_of HT_.out (by kernel_rfl)) (fun _ _ _ h => h) (Or.inl ⟨by rfl, ?_⟩) ?_ ?_
               rotate_left
               ·
                intro w'
                go_simp
                with_reducible rfl
               rotate_left
               ·
                simp only [Act.put, List.setIfInBounds_toArray, List.set_cons_zero, List.set_cons_succ, i64_w, i32_w]
                rfl
               refine pure_ (i := 6) (N := some 85) (v := ?_) (a' := ?_) #[true, true, true, true, true, true, true, false, true, false, false] rfl rfl (any_of HT_.out (by kernel_rfl)) (fun _ _ _ h => h) (Or.inl ⟨by rfl, ?_⟩) ?_ ?_
               rotate_left
               ·
                intro w'
                go_simp
                with_reducible rfl
               rotate_left
               ·
                simp only [Act.put, List.setIfInBounds_toArray, List.set_cons_zero, List.set_cons_succ, i64_w, i32_w]
                rfl
               refine pure_ (i := 7) (N := some 86) (v := ?_) (a' := ?_) #[true, true, true, true, true, true, true, true, true, false, false] rfl rfl (any_of HT_.out (by kernel_rfl)) (fun _ _ _ h => h) (Or.inl ⟨by rfl, ?_⟩) ?_ ?_
               rotate_left
               ·
                intro w'
                go_simp
                with_reducible rfl
               rotate_left
               ·
                simp only [Act.put, List.setIfInBounds_toArray, List.set_cons_zero, List.set_cons_succ, i64_w, i32_w]
                rfl
               exact norm_ (by simp only [putAll, Act.put, List.setIfInBounds_toArray, List.set_cons_zero, List.set_cons_succ]) (hCont (.slice Ao137 t148.length co137, v156, gb159) _ ⟨hHeld, (pR (Kd.R_mono HO150.out (fun _ hk => ⟨hk.2, ⟨hk.1.1.1.2, ⟨hk.1.1.2, hk.1.2⟩⟩⟩))), (pR (Kd.R_mono HO157.out (fun _ hk => ⟨hk.2, ⟨hk.1.1.1.2, ⟨hk.1.1.2, hk.1.2⟩⟩⟩))), (pR (Kd.R_mono HO_118002.out (fun _ hk => ⟨hk.1.2, ⟨hk.2, ⟨hk.1.1.1, hk.1.1.2⟩⟩⟩))), (pR (Kd.R_mono HO_124002.out (fun _ hk => ⟨hk.1.2, ⟨hk.2, ⟨hk.1.1.1, hk.1.1.2⟩⟩⟩))), (pR (Kd.R_mono HO_133002.out (fun _ hk => ⟨hk.1.2, ⟨hk.2, ⟨hk.1.1.1, hk.1.1.2⟩⟩⟩))), (pB BK101.out), (pB BK102.out), (pB BK117.out), (pB BK123.out), (pB BK132.out), (pB BK159.out), GW159.out, GE159.out, NB101_159.out, NB159_101.out, NB102_159.out, NB159_102.out, NB117_159.out, NB159_117.out, NB123_159.out, NB159_123.out, NB132_159.out, NB159_132.out, (pS HB.out)⟩)
             ·
              skip
              refine box_step ?hg (N := 14) ?hd (cs := #[.int .i64 0, .int .i64 0, .slice none 0 0]) (t := 42) ?hr ?_; (case hd => rfl); (case hg => rfl); (case hr => first | (go_simp; done) | (go_simp; rfl))
              intro gb159 hg w135 hbox hb
              have n0_ := aK (Kd.R_below (pR HO_118002.out) hb)
              have n1_ := aK (Kd.R_below (pR HO_124002.out) hb)
              have n2_ := aK (Kd.R_below (pR HO_133002.out) hb)
              have n3_ := aK (Kd.R_below (pR HO150.out) hb)
              have BK159 := aK (hbox)
              have GW159 := aK (gE hg (pS HB.out))
              have GE159 := aK (gE hg (pS HB.out))
              have NB101_159 := aK (nL hg (pB BK101.out))
              have NB159_101 := aK (nG hg (pB BK101.out))
              have NB102_159 := aK (nL hg (pB BK102.out))
              have NB159_102 := aK (nG hg (pB BK102.out))
              have NB117_159 := aK (nL hg (pB BK117.out))
              have NB159_117 := aK (nG hg (pB BK117.out))
              have NB123_159 := aK (nL hg (pB BK123.out))
              have NB159_123 := aK (nG hg (pB BK123.out))
              have NB132_159 := aK (nL hg (pB BK132.out))
              have NB159_132 := aK (nG hg (pB BK132.out))
              replace BK101 := bB BK101 hb
              replace BK102 := bB BK102 hb
              replace BK117 := bB BK117 hb
              replace BK123 := bB BK123 hb
              replace BK132 := bB BK132 hb
              replace HB := bS HB hb
              clear HO_118002 HO_124002 HO_133002 HO150
              have HO_118002 := n0_
              have HO_124002 := n1_
              have HO_133002 := n2_
              have HO150 := n3_
              clear n0_ n1_ n2_ n3_ hb hbox hg
              refine hK.out _ _ ⟨(blk_cell BK101.out 0).trans rfl, (blk_cell BK101.out 1).trans rfl, (blk_cell BK101.out 2).trans rfl, (blk_cell BK102.out 0).trans rfl, (blk_cell BK102.out 1).trans rfl⟩ (fun hHeld => ?_)
              clear hK K
              refine norm_ (a' := ?_) ?_ ?_
              rotate_left
              ·
               show Act.put _ (some 14) _ = _
               simp only [Act.put, List.setIfInBounds_toArray, List.set_cons_zero, List.set_cons_succ, i64_w, i32_w]
               rfl
              refine one_ (i := 3) (N := some 83) #[true, true, true, true, false, false, false, false, true, false, false] rfl rfl (one_of HT_.out (by kernel_rfl)) (by decide) (fun K hK => ?_)
              refine goes_ Try.func29 (by kernel_rfl) rfl #[.agg #[.int .i64 a1_0, .int .i64 a1_1]] (by rfl) rfl rfl (by (try simp only [List.map_toArray, List.map_cons, List.map_nil]); first | done | rfl | (simp only [List.length_drop, List.length_take]; rfl)) ?_
              with_reducible refine (laws_toMotion.calls a1_0 a1_1 t151 t152 _ A122.out).mono ?_
              rintro e w136 ⟨rfl, hb⟩
              refine ⟨_, rfl, ?_⟩
              have n0_ := aK (Kd.R_below (pR HO_118002.out) hb)
              have n1_ := aK (Kd.R_below (pR HO_124002.out) hb)
              have n2_ := aK (Kd.R_below (pR HO_133002.out) hb)
              have n3_ := aK (Kd.R_below (pR HO150.out) hb)
              replace BK101 := bB BK101 hb
              replace BK102 := bB BK102 hb
              replace BK117 := bB BK117 hb
              replace BK123 := bB BK123 hb
              replace BK132 := bB BK132 hb
              replace BK159 := bB BK159 hb
              replace HB := bS HB hb
              clear HO_118002 HO_124002 HO_133002 HO150
              have HO_118002 := n0_
              have HO_124002 := n1_
              have HO_133002 := n2_
              have HO150 := n3_
              clear n0_ n1_ n2_ n3_
              (try clear hb)
              (try clear hb2)
              (try clear hk)
              (try clear hi)
              obtain ⟨Ao137, co137, eo137⟩ := Kd.R_slice HO150.out
              (first | subst eo137 | (injection eo137 with f1_ f2_ f3_; have f4_ := f1_.symm; have f5_ := f3_.symm; clear f1_ f2_ f3_; subst f4_; subst f5_))
              refine hK.out _ _ ⟨(blk_cell BK101.out 0).trans rfl, (blk_cell BK101.out 1).trans rfl, (blk_cell BK101.out 2).trans rfl, (blk_cell BK102.out 0).trans rfl, (blk_cell BK102.out 1).trans rfl⟩ (fun hHeld => ?_)
              clear hK K
              refine norm_ (a' := ?_) ?_ ?_
              rotate_left
              ·
               show Act.put _ (some 83) _ = _
               simp only [Act.put, List.setIfInBounds_toArray, List.set_cons_zero, List.set_cons_succ, i64_w, i32_w]
               rfl
              refine one_ (i := 4) (N := some 84) #[true, true, true, true, true, false, false, false, true, false, false] rfl rfl (one_of HT_.out (by kernel_rfl)) (by decide) (fun K hK => ?_)
              refine goes_ Try.func30 (by kernel_rfl) rfl #[.agg #[.int .i64 t146, .int .i64 t147, .slice Ao137 t148.length co137], .agg #[.int .i64 t151, .int .i64 t152]] (by rfl) rfl rfl (by (try simp only [List.map_toArray, List.map_cons, List.map_nil]); first | done | rfl | (simp only [List.length_drop, List.length_take]; rfl)) ?_
              with_reducible refine (impl_MoveField.calls kj77 t146 t147 _ _ t148 t151 t152 t153 t154 t155 t158 _ ?side1 ?side2 A123.out).mono ?_
              (case side1 => repeat (first | exact (Kd.R_reads' HO150.out).2.2 | (with_reducible refine Kd.C_alloc ?_ _) | (with_reducible refine Kd.C_drewN ?_ _) | (with_reducible refine Kd.C_drew ?_)))
              (case side2 => exact (Kd.R_reads' HO150.out).2.1)
              rintro e w138 ⟨v156, rfl, ho0, hb⟩
              refine ⟨_, rfl, ?_⟩
              have n0_ := aK (Kd.R_elder' (pR HO_118002.out) (Kd.R_base ho0) hb)
              have n1_ := aK (Kd.R_elder' (pR HO_124002.out) (Kd.R_base ho0) hb)
              have n2_ := aK (Kd.R_elder' (pR HO_133002.out) (Kd.R_base ho0) hb)
              have n3_ := aK (Kd.R_elder' (pR HO150.out) (Kd.R_base ho0) hb)
              have HO157 := aK (Kd.R_lower (Kd.R_new' (Kd.R_new' (Kd.R_new' (Kd.R_new' ho0 (Kd.R_lt (pR HO_118002.out))) (Kd.R_lt (pR HO_124002.out))) (Kd.R_lt (pR HO_133002.out))) (Kd.R_lt (pR HO150.out))) (below_size (pS HB.out)))
              replace BK101 := bB BK101 hb
              replace BK102 := bB BK102 hb
              replace BK117 := bB BK117 hb
              replace BK123 := bB BK123 hb
              replace BK132 := bB BK132 hb
              replace BK159 := bB BK159 hb
              replace HB := bS HB hb
              clear HO_118002 HO_124002 HO_133002 HO150
              have HO_118002 := n0_
              have HO_124002 := n1_
              have HO_133002 := n2_
              have HO150 := n3_
              clear n0_ n1_ n2_ n3_
              (try clear hb)
              (try clear hb2)
              (try clear hk)
              (try clear hi)
              (try clear ho0)
              refine hK.out _ _ ⟨(blk_cell BK101.out 0).trans rfl, (blk_cell BK101.out 1).trans rfl, (blk_cell BK101.out 2).trans rfl, (blk_cell BK102.out 0).trans rfl, (blk_cell BK102.out 1).trans rfl⟩ (fun hHeld => ?_)
              clear hK K
              refine norm_ (a' := ?_) ?_ ?_
              rotate_left
              ·
               show Act.put _ (some 84) _ = _
               simp only [Act.put, List.setIfInBounds_toArray, List.set_cons_zero, List.set_cons_succ, i64_w, i32_w]
               rfl
              refine pure_ (i := 5) (N := some 79) (v := ?_) (a' := ?_) #[true, true, true, true, true, true, false, false, true, false, false] rfl rfl (any_of HT_.out (by kernel_rfl)) (fun _ _ _ h => h) (Or.inl ⟨by rfl, ?_⟩) ?_ ?_
              rotate_left
              ·
               intro w'
               go_simp
               with_reducible rfl
              rotate_left
              ·
               simp only [Act.put, List.setIfInBounds_toArray, List.set_cons_zero, List.set_cons_succ, i64_w, i32_w]
               rfl
              refine pure_ (i := 6) (N := some 85) (v := ?_) (a' := ?_) #[true, true, true, true, true, true, true, false, true, false, false] rfl rfl (any_of HT_.out (by kernel_rfl)) (fun _ _ _ h => h) (Or.inl ⟨by rfl, ?_⟩) ?_ ?_
              rotate_left
              ·
               intro w'
               go_simp
               with_reducible rfl
              rotate_left
              ·
               simp only [Act.put, List.setIfInBounds_toArray, List.set_cons_zero, List.set_cons_succ, i64_w, i32_w]
               rfl
              refine pure_ (i := 7) (N := some 86) (v := ?_) (a' := ?_) #[true, true, true, true, true, true, true, true, true, false, false] rfl rfl (any_of HT_.out (by kernel_rfl)) (fun _ _ _ h => h) (Or.inl ⟨by rfl, ?_⟩) ?_ ?_
              rotate_left
              ·
               intro w'
               go_simp
               with_reducible rfl
              rotate_left
              ·
               simp only [Act.put, List.setIfInBounds_toArray, List.set_cons_zero, List.set_cons_succ, i64_w, i32_w]
               rfl
              exact norm_ (by simp only [putAll, Act.put, List.setIfInBounds_toArray, List.set_cons_zero, List.set_cons_succ]) (hCont (.slice Ao137 t148.length co137, v156, gb159) _ ⟨hHeld, (pR (Kd.R_mono HO150.out (fun _ hk => ⟨hk.2, ⟨hk.1.1.1.2, ⟨hk.1.1.2, hk.1.2⟩⟩⟩))), (pR (Kd.R_mono HO157.out (fun _ hk => ⟨hk.2, ⟨hk.1.1.1.2, ⟨hk.1.1.2, hk.1.2⟩⟩⟩))), (pR (Kd.R_mono HO_118002.out (fun _ hk => ⟨hk.1.2, ⟨hk.2, ⟨hk.1.1.1, hk.1.1.2⟩⟩⟩))), (pR (Kd.R_mono HO_124002.out (fun _ hk => ⟨hk.1.2, ⟨hk.2, ⟨hk.1.1.1, hk.1.1.2⟩⟩⟩))), (pR (Kd.R_mono HO_133002.out (fun _ hk => ⟨hk.1.2, ⟨hk.2, ⟨hk.1.1.1, hk.1.1.2⟩⟩⟩))), (pB BK101.out), (pB BK102.out), (pB BK117.out), (pB BK123.out), (pB BK132.out), (pB BK159.out), GW159.out, GE159.out, NB101_159.out, NB159_101.out, NB102_159.out, NB159_102.out, NB117_159.out, NB159_117.out, NB123_159.out, NB159_123.out, NB132_159.out, NB159_132.out, (pS HB.out)⟩)
            ·
             skip
             refine box_step ?hg (N := 14) ?hd (cs := #[.int .i64 0, .int .i64 0, .slice none 0 0]) (t := 42) ?hr ?_; (case hd => rfl); (case hg => rfl); (case hr => first | (go_simp; done) | (go_simp; rfl))
             intro gb159 hg w134 hbox hb
             have n0_ := aK (Kd.R_below (pR HO_118002.out) hb)
             have n1_ := aK (Kd.R_below (pR HO_124002.out) hb)
             have n2_ := aK (Kd.R_below (pR HO_133002.out) hb)
             have BK159 := aK (hbox)
             have GW159 := aK (gE hg (pS HB.out))
             have GE159 := aK (gE hg (pS HB.out))
             have NB101_159 := aK (nL hg (pB BK101.out))
             have NB159_101 := aK (nG hg (pB BK101.out))
             have NB102_159 := aK (nL hg (pB BK102.out))
             have NB159_102 := aK (nG hg (pB BK102.out))
             have NB117_159 := aK (nL hg (pB BK117.out))
             have NB159_117 := aK (nG hg (pB BK117.out))
             have NB123_159 := aK (nL hg (pB BK123.out))
             have NB159_123 := aK (nG hg (pB BK123.out))
             have NB132_159 := aK (nL hg (pB BK132.out))
             have NB159_132 := aK (nG hg (pB BK132.out))
             replace BK101 := bB BK101 hb
             replace BK102 := bB BK102 hb
             replace BK117 := bB BK117 hb
             replace BK123 := bB BK123 hb
             replace BK132 := bB BK132 hb
             replace HB := bS HB hb
             clear HO_118002 HO_124002 HO_133002
             have HO_118002 := n0_
             have HO_124002 := n1_
             have HO_133002 := n2_
             clear n0_ n1_ n2_ hb hbox hg
             refine hK.out _ _ ⟨(blk_cell BK101.out 0).trans rfl, (blk_cell BK101.out 1).trans rfl, (blk_cell BK101.out 2).trans rfl, (blk_cell BK102.out 0).trans rfl, (blk_cell BK102.out 1).trans rfl⟩ (fun hHeld => ?_)
             clear hK K
             refine norm_ (a' := ?_) ?_ ?_
             rotate_left
             ·
              show Act.put _ (some 14) _ = _
              simp only [Act.put, List.setIfInBounds_toArray, List.set_cons_zero, List.set_cons_succ, i64_w, i32_w]
              rfl
             refine one_ (i := 1) (N := some 81) #[true, true, true, false, false, false, false, false, true, false, false] rfl rfl (one_of HT_.out (by kernel_rfl)) (by decide) (fun K hK => ?_)
             refine goes_ Try.func28 (by kernel_rfl) rfl #[.agg #[.int .i64 a0_0, .int .i64 a0_1, .slice A0_2 l0_2.length c0_2]] (by rfl) rfl rfl (by (try simp only [List.map_toArray, List.map_cons, List.map_nil]); first | done | rfl | (simp only [List.length_drop, List.length_take]; rfl)) ?_
             with_reducible refine (laws_toField.calls kj77 a0_0 a0_1 _ _ l0_2 t146 t147 t148 _ ?side1 ?side2 A121.out).mono ?_
             (case side1 => repeat (first | exact (Kd.C_below HR0_2.out HB.out) | (with_reducible refine Kd.C_alloc ?_ _) | (with_reducible refine Kd.C_drewN ?_ _) | (with_reducible refine Kd.C_drew ?_)))
             (case side2 => exact HC0_2.out)
             rintro e w135 ⟨v149, rfl, ho0, hb⟩
             refine ⟨_, rfl, ?_⟩
             have n0_ := aK (Kd.R_elder' (pR HO_118002.out) (Kd.R_base ho0) hb)
             have n1_ := aK (Kd.R_elder' (pR HO_124002.out) (Kd.R_base ho0) hb)
             have n2_ := aK (Kd.R_elder' (pR HO_133002.out) (Kd.R_base ho0) hb)
             have HO150 := aK (Kd.R_lower (Kd.R_new' (Kd.R_new' (Kd.R_new' ho0 (Kd.R_lt (pR HO_118002.out))) (Kd.R_lt (pR HO_124002.out))) (Kd.R_lt (pR HO_133002.out))) (below_size (pS HB.out)))
             replace BK101 := bB BK101 hb
             replace BK102 := bB BK102 hb
             replace BK117 := bB BK117 hb
             replace BK123 := bB BK123 hb
             replace BK132 := bB BK132 hb
             replace BK159 := bB BK159 hb
             replace HB := bS HB hb
             clear HO_118002 HO_124002 HO_133002
             have HO_118002 := n0_
             have HO_124002 := n1_
             have HO_133002 := n2_
             clear n0_ n1_ n2_
             (try clear hb)
             (try clear hb2)
             (try clear hk)
             (try clear hi)
             (try clear ho0)
             refine hK.out _ _ ⟨(blk_cell BK101.out 0).trans rfl, (blk_cell BK101.out 1).trans rfl, (blk_cell BK101.out 2).trans rfl, (blk_cell BK102.out 0).trans rfl, (blk_cell BK102.out 1).trans rfl⟩ (fun hHeld => ?_)
             clear hK K
             refine norm_ (a' := ?_) ?_ ?_
             rotate_left
             ·
              show Act.put _ (some 81) _ = _
              simp only [Act.put, List.setIfInBounds_toArray, List.set_cons_zero, List.set_cons_succ, i64_w, i32_w]
              rfl
             refine one_ (i := 3) (N := some 83) #[true, true, true, true, false, false, false, false, true, false, false] rfl rfl (one_of HT_.out (by kernel_rfl)) (by decide) (fun K hK => ?_)
             refine goes_ Try.func29 (by kernel_rfl) rfl #[.agg #[.int .i64 a1_0, .int .i64 a1_1]] (by rfl) rfl rfl (by (try simp only [List.map_toArray, List.map_cons, List.map_nil]); first | done | rfl | (simp only [List.length_drop, List.length_take]; rfl)) ?_
             with_reducible refine (laws_toMotion.calls a1_0 a1_1 t151 t152 _ A122.out).mono ?_
             rintro e w136 ⟨rfl, hb⟩
             refine ⟨_, rfl, ?_⟩
             have n0_ := aK (Kd.R_below (pR HO_118002.out) hb)
             have n1_ := aK (Kd.R_below (pR HO_124002.out) hb)
             have n2_ := aK (Kd.R_below (pR HO_133002.out) hb)
             have n3_ := aK (Kd.R_below (pR HO150.out) hb)
             replace BK101 := bB BK101 hb
             replace BK102 := bB BK102 hb
             replace BK117 := bB BK117 hb
             replace BK123 := bB BK123 hb
             replace BK132 := bB BK132 hb
             replace BK159 := bB BK159 hb
             replace HB := bS HB hb
             clear HO_118002 HO_124002 HO_133002 HO150
             have HO_118002 := n0_
             have HO_124002 := n1_
             have HO_133002 := n2_
             have HO150 := n3_
             clear n0_ n1_ n2_ n3_
             (try clear hb)
             (try clear hb2)
             (try clear hk)
             (try clear hi)
             obtain ⟨Ao137, co137, eo137⟩ := Kd.R_slice HO150.out
             (first | subst eo137 | (injection eo137 with f1_ f2_ f3_; have f4_ := f1_.symm; have f5_ := f3_.symm; clear f1_ f2_ f3_; subst f4_; subst f5_))
             refine hK.out _ _ ⟨(blk_cell BK101.out 0).trans rfl, (blk_cell BK101.out 1).trans rfl, (blk_cell BK101.out 2).trans rfl, (blk_cell BK102.out 0).trans rfl, (blk_cell BK102.out 1).trans rfl⟩ (fun hHeld => ?_)
             clear hK K
             refine norm_ (a' := ?_) ?_ ?_
             rotate_left
             ·
              show Act.put _ (some 83) _ = _
              simp only [Act.put, List.setIfInBounds_toArray, List.set_cons_zero, List.set_cons_succ, i64_w, i32_w]
              rfl
             refine one_ (i := 4) (N := some 84) #[true, true, true, true, true, false, false, false, true, false, false] rfl rfl (one_of HT_.out (by kernel_rfl)) (by decide) (fun K hK => ?_)
             refine goes_ Try.func30 (by kernel_rfl) rfl #[.agg #[.int .i64 t146, .int .i64 t147, .slice Ao137 t148.length co137], .agg #[.int .i64 t151, .int .i64 t152]] (by rfl) rfl rfl (by (try simp only [List.map_toArray, List.map_cons, List.map_nil]); first | done | rfl | (simp only [List.length_drop, List.length_take]; rfl)) ?_
             with_reducible refine (impl_MoveField.calls kj77 t146 t147 _ _ t148 t151 t152 t153 t154 t155 t158 _ ?side1 ?side2 A123.out).mono ?_
             (case side1 => repeat (first | exact (Kd.R_reads' HO150.out).2.2 | (with_reducible refine Kd.C_alloc ?_ _) | (with_reducible refine Kd.C_drewN ?_ _) | (with_reducible refine Kd.C_drew ?_)))
             (case side2 => exact (Kd.R_reads' HO150.out).2.1)
             rintro e w138 ⟨v156, rfl, ho0, hb⟩
             refine ⟨_, rfl, ?_⟩
             have n0_ := aK (Kd.R_elder' (pR HO_118002.out) (Kd.R_base ho0) hb)
             have n1_ := aK (Kd.R_elder' (pR HO_124002.out) (Kd.R_base ho0) hb)
             have n2_ := aK (Kd.R_elder' (pR HO_133002.out) (Kd.R_base ho0) hb)
             have n3_ := aK (Kd.R_elder' (pR HO150.out) (Kd.R_base ho0) hb)
             have HO157 := aK (Kd.R_lower (Kd.R_new' (Kd.R_new' (Kd.R_new' (Kd.R_new' ho0 (Kd.R_lt (pR HO_118002.out))) (Kd.R_lt (pR HO_124002.out))) (Kd.R_lt (pR HO_133002.out))) (Kd.R_lt (pR HO150.out))) (below_size (pS HB.out)))
             replace BK101 := bB BK101 hb
             replace BK102 := bB BK102 hb
             replace BK117 := bB BK117 hb
             replace BK123 := bB BK123 hb
             replace BK132 := bB BK132 hb
             replace BK159 := bB BK159 hb
             replace HB := bS HB hb
             clear HO_118002 HO_124002 HO_133002 HO150
             have HO_118002 := n0_
             have HO_124002 := n1_
             have HO_133002 := n2_
             have HO150 := n3_
             clear n0_ n1_ n2_ n3_
             (try clear hb)
             (try clear hb2)
             (try clear hk)
             (try clear hi)
             (try clear ho0)
             refine hK.out _ _ ⟨(blk_cell BK101.out 0).trans rfl, (blk_cell BK101.out 1).trans rfl, (blk_cell BK101.out 2).trans rfl, (blk_cell BK102.out 0).trans rfl, (blk_cell BK102.out 1).trans rfl⟩ (fun hHeld => ?_)
             clear hK K
             refine norm_ (a' := ?_) ?_ ?_
             rotate_left
             ·
              show Act.put _ (some 84) _ = _
              simp only [Act.put, List.setIfInBounds_toArray, List.set_cons_zero, List.set_cons_succ, i64_w, i32_w]
              rfl
             refine pure_ (i := 5) (N := some 79) (v := ?_) (a' := ?_) #[true, true, true, true, true, true, false, false, true, false, false] rfl rfl (any_of HT_.out (by kernel_rfl)) (fun _ _ _ h => h) (Or.inl ⟨by rfl, ?_⟩) ?_ ?_
             rotate_left
             ·
              intro w'
              go_simp
              with_reducible rfl
             rotate_left
             ·
              simp only [Act.put, List.setIfInBounds_toArray, List.set_cons_zero, List.set_cons_succ, i64_w, i32_w]
              rfl
             refine pure_ (i := 6) (N := some 85) (v := ?_) (a' := ?_) #[true, true, true, true, true, true, true, false, true, false, false] rfl rfl (any_of HT_.out (by kernel_rfl)) (fun _ _ _ h => h) (Or.inl ⟨by rfl, ?_⟩) ?_ ?_
             rotate_left
             ·
              intro w'
              go_simp
              with_reducible rfl
             rotate_left
             ·
              simp only [Act.put, List.setIfInBounds_toArray, List.set_cons_zero, List.set_cons_succ, i64_w, i32_w]
              rfl
             refine pure_ (i := 7) (N := some 86) (v := ?_) (a' := ?_) #[true, true, true, true, true, true, true, true, true, false, false] rfl rfl (any_of HT_.out (by kernel_rfl)) (fun _ _ _ h => h) (Or.inl ⟨by rfl, ?_⟩) ?_ ?_
             rotate_left
             ·
              intro w'
              go_simp
              with_reducible rfl
             rotate_left
             ·
              simp only [Act.put, List.setIfInBounds_toArray, List.set_cons_zero, List.set_cons_succ, i64_w, i32_w]
              rfl
             exact norm_ (by simp only [putAll, Act.put, List.setIfInBounds_toArray, List.set_cons_zero, List.set_cons_succ]) (hCont (.slice Ao137 t148.length co137, v156, gb159) _ ⟨hHeld, (pR (Kd.R_mono HO150.out (fun _ hk => ⟨hk.2, ⟨hk.1.1.1.2, ⟨hk.1.1.2, hk.1.2⟩⟩⟩))), (pR (Kd.R_mono HO157.out (fun _ hk => ⟨hk.2, ⟨hk.1.1.1.2, ⟨hk.1.1.2, hk.1.2⟩⟩⟩))), (pR (Kd.R_mono HO_118002.out (fun _ hk => ⟨hk.1.2, ⟨hk.2, ⟨hk.1.1.1, hk.1.1.2⟩⟩⟩))), (pR (Kd.R_mono HO_124002.out (fun _ hk => ⟨hk.1.2, ⟨hk.2, ⟨hk.1.1.1, hk.1.1.2⟩⟩⟩))), (pR (Kd.R_mono HO_133002.out (fun _ hk => ⟨hk.1.2, ⟨hk.2, ⟨hk.1.1.1, hk.1.1.2⟩⟩⟩))), (pB BK101.out), (pB BK102.out), (pB BK117.out), (pB BK123.out), (pB BK132.out), (pB BK159.out), GW159.out, GE159.out, NB101_159.out, NB159_101.out, NB102_159.out, NB159_102.out, NB117_159.out, NB159_117.out, NB123_159.out, NB159_123.out, NB132_159.out, NB159_132.out, (pS HB.out)⟩)
           rintro ⟨v149, v156, gb159⟩ w139 ⟨hS_, h0_, h1_, h2_, h3_, h4_, h5_, h6_, h7_, h8_, h9_, h10_, h11_, h12_, h13_, h14_, h15_, h16_, h17_, h18_, h19_, h20_, h21_, h22_, h23_⟩
           have n0_ : Aside0 (Kd.R (Kd.int .i64) 3 w139 w.heap.size (fun k_ => some k_ ≠ (v156 : Value).ownBlock ∧ some k_ ≠ (.slice Ao30 t113.length co30 : Value).ownBlock ∧ some k_ ≠ (.slice Ao40 t141.length co40 : Value).ownBlock ∧ some k_ ≠ (.slice Ao49 t128.length co49 : Value).ownBlock) v149 t148) := ⟨h0_⟩
           have n1_ : Aside0 (Kd.R (Kd.int .i64) 3 w139 w.heap.size (fun k_ => some k_ ≠ (v149 : Value).ownBlock ∧ some k_ ≠ (.slice Ao30 t113.length co30 : Value).ownBlock ∧ some k_ ≠ (.slice Ao40 t141.length co40 : Value).ownBlock ∧ some k_ ≠ (.slice Ao49 t128.length co49 : Value).ownBlock) v156 t155) := ⟨h1_⟩
           have n2_ : Aside0 (Kd.R (Kd.int .i64) 3 w139 w.heap.size (fun k_ => some k_ ≠ (v149 : Value).ownBlock ∧ some k_ ≠ (v156 : Value).ownBlock ∧ some k_ ≠ (.slice Ao40 t141.length co40 : Value).ownBlock ∧ some k_ ≠ (.slice Ao49 t128.length co49 : Value).ownBlock) (.slice Ao30 t113.length co30) t113) := ⟨h2_⟩
           have n3_ : Aside0 (Kd.R (Kd.int .i64) 3 w139 w.heap.size (fun k_ => some k_ ≠ (v149 : Value).ownBlock ∧ some k_ ≠ (v156 : Value).ownBlock ∧ some k_ ≠ (.slice Ao30 t113.length co30 : Value).ownBlock ∧ some k_ ≠ (.slice Ao49 t128.length co49 : Value).ownBlock) (.slice Ao40 t141.length co40) t141) := ⟨h3_⟩
           have n4_ : Aside0 (Kd.R (Kd.int .i64) 3 w139 w.heap.size (fun k_ => some k_ ≠ (v149 : Value).ownBlock ∧ some k_ ≠ (v156 : Value).ownBlock ∧ some k_ ≠ (.slice Ao30 t113.length co30 : Value).ownBlock ∧ some k_ ≠ (.slice Ao40 t141.length co40 : Value).ownBlock) (.slice Ao49 t128.length co49) t144) := ⟨h4_⟩
           have n5_ : Aside0 (w139.heap[gb101]? = some (.cells #[.int .i64 a0_0, .int .i64 a0_1, .slice A0_2 l0_2.length c0_2] 38 (0, 0))) := ⟨h5_⟩
           have n6_ : Aside0 (w139.heap[gb102]? = some (.cells #[.int .i64 a1_0, .int .i64 a1_1] 40 (0, 0))) := ⟨h6_⟩
           have n7_ : Aside0 (w139.heap[gb117]? = some (.cells #[.int .i64 t111, .int .i64 t112, .slice Ao30 t113.length co30] 42 (0, 0))) := ⟨h7_⟩
           have n8_ : Aside0 (w139.heap[gb123]? = some (.cells #[.int .i64 t118, .int .i64 t119, .slice Ao40 t141.length co40] 42 (0, 0))) := ⟨h8_⟩
           have n9_ : Aside0 (w139.heap[gb132]? = some (.cells #[.int .i64 t126, .int .i64 t127, .slice Ao49 t128.length co49] 42 (0, 0))) := ⟨h9_⟩
           have n10_ : Aside0 (w139.heap[gb159]? = some (.cells #[.int .i64 0, .int .i64 0, .slice none 0 0] 42 (0, 0))) := ⟨h10_⟩
           have n11_ : Aside0 (w.heap.size ≤ gb159) := ⟨h11_⟩
           have n12_ : Aside0 (w.heap.size ≤ gb159) := ⟨h12_⟩
           have n13_ : Aside0 (gb101 ≠ gb159) := ⟨h13_⟩
           have n14_ : Aside0 (gb159 ≠ gb101) := ⟨h14_⟩
           have n15_ : Aside0 (gb102 ≠ gb159) := ⟨h15_⟩
           have n16_ : Aside0 (gb159 ≠ gb102) := ⟨h16_⟩
           have n17_ : Aside0 (gb117 ≠ gb159) := ⟨h17_⟩
           have n18_ : Aside0 (gb159 ≠ gb117) := ⟨h18_⟩
           have n19_ : Aside0 (gb123 ≠ gb159) := ⟨h19_⟩
           have n20_ : Aside0 (gb159 ≠ gb123) := ⟨h20_⟩
           have n21_ : Aside0 (gb132 ≠ gb159) := ⟨h21_⟩
           have n22_ : Aside0 (gb159 ≠ gb132) := ⟨h22_⟩
           have n23_ : Aside0 (Below w.heap.size w w139) := ⟨h23_⟩
           clear HO_118002 HO_124002 HO_133002 BK101 BK102 BK117 BK123 BK132 HB h0_ h1_ h2_ h3_ h4_ h5_ h6_ h7_ h8_ h9_ h10_ h11_ h12_ h13_ h14_ h15_ h16_ h17_ h18_ h19_ h20_ h21_ h22_ h23_
           have HO150 := n0_
           have HO157 := n1_
           have HO_118002 := n2_
           have HO_124002 := n3_
           have HO_133002 := n4_
           have BK101 := n5_
           have BK102 := n6_
           have BK117 := n7_
           have BK123 := n8_
           have BK132 := n9_
           have BK159 := n10_
           have GW159 := n11_
           have GE159 := n12_
           have NB101_159 := n13_
           have NB159_101 := n14_
           have NB102_159 := n15_
           have NB159_102 := n16_
           have NB117_159 := n17_
           have NB159_117 := n18_
           have NB123_159 := n19_
           have NB159_123 := n20_
           have NB132_159 := n21_
           have NB159_132 := n22_
           have HB := n23_
           clear n0_ n1_ n2_ n3_ n4_ n5_ n6_ n7_ n8_ n9_ n10_ n11_ n12_ n13_ n14_ n15_ n16_ n17_ n18_ n19_ n20_ n21_ n22_ n23_
           have hHeld : w139.cell? ⟨gb101, 0, none⟩ = some (.int .i64 a0_0) ∧ w139.cell? ⟨gb101, 1, none⟩ = some (.int .i64 a0_1) ∧ w139.cell? ⟨gb101, 2, none⟩ = some (.slice A0_2 l0_2.length c0_2) ∧ w139.cell? ⟨gb102, 0, none⟩ = some (.int .i64 a1_0) ∧ w139.cell? ⟨gb102, 1, none⟩ = some (.int .i64 a1_1) := hS_
           obtain ⟨Ao142, co142, eo142⟩ := Kd.R_slice HO157.out
           (first | subst eo142 | (injection eo142 with f1_ f2_ f3_; have f4_ := f1_.symm; have f5_ := f3_.symm; clear f1_ f2_ f3_; subst f4_; subst f5_))
           refine norm_ (a' := ?_) ?_ ?_
           rotate_left
           ·
            simp only [putAll, Act.put, List.setIfInBounds_toArray, List.set_cons_zero, List.set_cons_succ]
            rfl
           refine one_ (i := 9) (N := none) #[true, true, true, true, true, true, true, true, true, true, false] rfl rfl (one_of HT_.out (by kernel_rfl)) (by decide) (fun K hK => ?_)
           have hs140 : w139.cell? ⟨gb159, 0, none⟩ = some (.int .i64 0) := (blk_cell BK159.out 0).trans rfl
           have hfs140 := blk_frozen BK159.out 0
           have hns140_0 := NB101_159.out
           have hns140_1 := NB102_159.out
           have hns140_2 := NB117_159.out
           have hns140_3 := NB123_159.out
           have hns140_4 := NB132_159.out
           have hms140_0 := NB159_101.out
           have hms140_1 := NB159_102.out
           have hms140_2 := NB159_117.out
           have hms140_3 := NB159_123.out
           have hms140_4 := NB159_132.out
           have hs141 : w139.cell? ⟨gb159, 1, none⟩ = some (.int .i64 0) := (blk_cell BK159.out 1).trans rfl
           have hfs141 := blk_frozen BK159.out 1
           have hns141_0 := NB101_159.out
           have hns141_1 := NB102_159.out
           have hns141_2 := NB117_159.out
           have hns141_3 := NB123_159.out
           have hns141_4 := NB132_159.out
           have hms141_0 := NB159_101.out
           have hms141_1 := NB159_102.out
           have hms141_2 := NB159_117.out
           have hms141_3 := NB159_123.out
           have hms141_4 := NB159_132.out
           have hs143 : w139.cell? ⟨gb159, 2, none⟩ = some (.slice none 0 0) := (blk_cell BK159.out 2).trans rfl
           have hfs143 := blk_frozen BK159.out 2
           have hns143_0 := NB101_159.out
           have hns143_1 := NB102_159.out
           have hns143_2 := NB117_159.out
           have hns143_3 := NB123_159.out
           have hns143_4 := NB132_159.out
           have hms143_0 := NB159_101.out
           have hms143_1 := NB159_102.out
           have hms143_2 := NB159_117.out
           have hms143_3 := NB159_123.out
           have hms143_4 := NB159_132.out
           refine skip_ (w1 := ?_) (by rfl) rfl ?_ ?_
           rotate_left
           ·
            go_simp
            rfl
           refine hK.out _ _ ⟨((cell_far (p := ⟨gb159, _, none⟩) NB101_159.out _).trans (((cell_far (p := ⟨gb159, _, none⟩) NB101_159.out _).trans (((cell_far (p := ⟨gb159, _, none⟩) NB101_159.out _).trans (hHeld.1)))))), ((cell_far (p := ⟨gb159, _, none⟩) NB101_159.out _).trans (((cell_far (p := ⟨gb159, _, none⟩) NB101_159.out _).trans (((cell_far (p := ⟨gb159, _, none⟩) NB101_159.out _).trans (hHeld.2.1)))))), ((cell_far (p := ⟨gb159, _, none⟩) NB101_159.out _).trans (((cell_far (p := ⟨gb159, _, none⟩) NB101_159.out _).trans (((cell_far (p := ⟨gb159, _, none⟩) NB101_159.out _).trans (hHeld.2.2.1)))))), ((cell_far (p := ⟨gb159, _, none⟩) NB102_159.out _).trans (((cell_far (p := ⟨gb159, _, none⟩) NB102_159.out _).trans (((cell_far (p := ⟨gb159, _, none⟩) NB102_159.out _).trans (hHeld.2.2.2.1)))))), ((cell_far (p := ⟨gb159, _, none⟩) NB102_159.out _).trans (((cell_far (p := ⟨gb159, _, none⟩) NB102_159.out _).trans (((cell_far (p := ⟨gb159, _, none⟩) NB102_159.out _).trans (hHeld.2.2.2.2))))))⟩ (fun hHeld => ?_)
           clear hK K
           refine pure_ (i := 10) (N := some 15) (v := ?_) (a' := ?_) #[true, true, true, true, true, true, true, true, true, true, true] rfl rfl (any_of HT_.out (by kernel_rfl)) (fun _ _ _ h => h) (Or.inl ⟨by rfl, ?_⟩) ?_ ?_
           rotate_left
           ·
            intro w'
            go_simp
            with_reducible rfl
           rotate_left
           ·
            simp only [Act.put, List.setIfInBounds_toArray, List.set_cons_zero, List.set_cons_succ, i64_w, i32_w]
            rfl
           refine done_ (done_of HT_.out (by kernel_rfl)) ?_
           go_upto_region 25 with (fail)
           go_cut [95] (fun v95 wc => ∃ (kq : Nat) (x95_123 : Bool), v95 = .bool x95_123 ∧ Aside0 (laws_FnExactMoveField.j2 kq t143 x95_123 t126 t127 t144 = some r) ∧ Aside0 (kq ≤ kj77) ∧ Aside0 (Kd.R (Kd.int .i64) 3 wc w.heap.size (fun _ => True) (.slice Ao49 t128.length co49) t144) ∧ Aside0 (wc.heap[gb132]? = some (.cells #[.int .i64 t126, .int .i64 t127, (.slice Ao49 t128.length co49)] 42 (0, 0))) ∧ Aside0 (Below w.heap.size w wc))
           case first =>
            have H := HC124.out
            clear HC124
            replace H := Option.bind_eq_some_iff.mp H
            obtain ⟨t160, A1440, H⟩ := H
            replace H : (if t160 = true then (laws_FnExactMoveField.j2 kj77 t143 (t158 != t116) t126 t127 t144) else (laws_FnExactMoveField.j2 kj77 t143 true t126 t127 t144)) = some r := H
            have A144 := Aside0.mk A1440
            clear A1440
            by_cases c145 : t160 = true
            ·
             subst c145
             have H1 : (laws_FnExactMoveField.j2 kj77 t143 (t158 != t116) t126 t127 t144) = some r := by rw [if_pos rfl] at H; exact H
             clear H
             have H := H1
             clear H1
             have H' := Aside0.mk H
             clear H
             have hnb146 := NB159_117.out
             have hnc146 := NB117_159.out
             have hnb147 := NB159_132.out
             have hnc147 := NB132_159.out
             have hcz148_0 : w139.cell? ⟨gb159, 0, none⟩ = some (.int .i64 0) := (blk_cell BK159.out 0).trans rfl
             have hcz148_1 : w139.cell? ⟨gb159, 1, none⟩ = some (.int .i64 0) := (blk_cell BK159.out 1).trans rfl
             have hcz148_2 : w139.cell? ⟨gb159, 2, none⟩ = some (.slice none 0 0) := (blk_cell BK159.out 2).trans rfl
             have hfz148_0 := blk_frozen BK159.out 0
             have hfz148_1 := blk_frozen BK159.out 1
             have hfz148_2 := blk_frozen BK159.out 2
             have hnb149 := NB117_132.out
             have hnc149 := NB132_117.out
             have hcz150_0 : w139.cell? ⟨gb117, 0, none⟩ = some (.int .i64 t111) := (blk_cell BK117.out 0).trans rfl
             have hcz150_1 : w139.cell? ⟨gb117, 1, none⟩ = some (.int .i64 t112) := (blk_cell BK117.out 1).trans rfl
             have hcz150_2 : w139.cell? ⟨gb117, 2, none⟩ = some (.slice Ao30 t113.length co30) := (blk_cell BK117.out 2).trans rfl
             have hfz150_0 := blk_frozen BK117.out 0
             have hfz150_1 := blk_frozen BK117.out 1
             have hfz150_2 := blk_frozen BK117.out 2
             go_wp2_with (first | ((with_reducible refine gate_callee (f := 31) rfl ?_); refine goesL_ (some 89) rfl rfl Try.func31 (by kernel_rfl) rfl #[.agg #[.int .i64 t153, .int .i64 t154, .slice Ao142 t155.length co142], .agg #[.int .i64 t111, .int .i64 t112, .slice Ao30 t113.length co30]] rfl (by (try simp only [List.map_toArray, List.map_cons, List.map_nil]); first | done | rfl | (simp only [List.length_drop, List.length_take]; rfl)) ?_; (with_reducible refine (laws_eqField.calls kj77 t153 t154 _ _ t155 t111 t112 _ _ t113 true _ ?side1 ?side2 ?side3 ?side4 A144.out).mono ?_); (case side1 => refine (Kd.R_reads' (e := 3) (base := w.heap.size) (ok := fun k_ => (some k_ ≠ (v149 : Value).ownBlock ∧ (some k_ ≠ (.slice Ao30 t113.length co30 : Value).ownBlock ∧ (some k_ ≠ (.slice Ao40 t141.length co40 : Value).ownBlock ∧ some k_ ≠ (.slice Ao49 t128.length co49 : Value).ownBlock)))) (n := t155.length) (c := co142) ?_).2.2; exact (pR ((Kd.R_mono (Kd.R_far (p := ⟨gb159, 2, none⟩) (Kd.R_far (p := ⟨gb159, 1, none⟩) (Kd.R_far (p := ⟨gb159, 0, none⟩) (Kd.R_types HO157.out BK159.out (by decide)) (fun _ hk => hk.2) (.int .i64 t153)) (fun _ hk => hk.2) (.int .i64 t154)) (fun _ hk => hk.2) (.slice Ao142 t155.length co142)) (fun _ h_ => h_.1))))); (case side2 => exact (Kd.R_reads' HO157.out).2.1); (case side3 => refine (Kd.R_reads' (e := 3) (base := w.heap.size) (ok := fun k_ => (some k_ ≠ (v149 : Value).ownBlock ∧ (some k_ ≠ (.slice Ao142 t155.length co142 : Value).ownBlock ∧ (some k_ ≠ (.slice Ao40 t141.length co40 : Value).ownBlock ∧ some k_ ≠ (.slice Ao49 t128.length co49 : Value).ownBlock)))) (n := t113.length) (c := co30) ?_).2.2; exact (pR ((Kd.R_mono (Kd.R_far (p := ⟨gb159, 2, none⟩) (Kd.R_far (p := ⟨gb159, 1, none⟩) (Kd.R_far (p := ⟨gb159, 0, none⟩) (Kd.R_types HO_118002.out BK159.out (by decide)) (fun _ hk => hk.2) (.int .i64 t153)) (fun _ hk => hk.2) (.int .i64 t154)) (fun _ hk => hk.2) (.slice Ao142 t155.length co142)) (fun _ h_ => h_.1))))); (case side4 => exact (Kd.R_reads' HO_118002.out).2.1); rintro e w151 ⟨rfl, hb⟩; refine ⟨_, rfl, ?_⟩; have n0_ := aK (Kd.R_below (pR ((Kd.R_mono (Kd.R_far (p := ⟨gb159, 2, none⟩) (Kd.R_far (p := ⟨gb159, 1, none⟩) (Kd.R_far (p := ⟨gb159, 0, none⟩) (Kd.R_types HO_118002.out BK159.out (by decide)) (fun _ hk => hk.2) (.int .i64 t153)) (fun _ hk => hk.2) (.int .i64 t154)) (fun _ hk => hk.2) (.slice Ao142 t155.length co142)) (fun _ h_ => h_.1)))) hb); have n1_ := aK (Kd.R_below (pR ((Kd.R_mono (Kd.R_far (p := ⟨gb159, 2, none⟩) (Kd.R_far (p := ⟨gb159, 1, none⟩) (Kd.R_far (p := ⟨gb159, 0, none⟩) (Kd.R_types HO_124002.out BK159.out (by decide)) (fun _ hk => hk.2) (.int .i64 t153)) (fun _ hk => hk.2) (.int .i64 t154)) (fun _ hk => hk.2) (.slice Ao142 t155.length co142)) (fun _ h_ => h_.1)))) hb); have n2_ := aK (Kd.R_below (pR ((Kd.R_mono (Kd.R_far (p := ⟨gb159, 2, none⟩) (Kd.R_far (p := ⟨gb159, 1, none⟩) (Kd.R_far (p := ⟨gb159, 0, none⟩) (Kd.R_types HO_133002.out BK159.out (by decide)) (fun _ hk => hk.2) (.int .i64 t153)) (fun _ hk => hk.2) (.int .i64 t154)) (fun _ hk => hk.2) (.slice Ao142 t155.length co142)) (fun _ h_ => h_.1)))) hb); have n3_ := aK (Kd.R_below (pR ((Kd.R_mono (Kd.R_far (p := ⟨gb159, 2, none⟩) (Kd.R_far (p := ⟨gb159, 1, none⟩) (Kd.R_far (p := ⟨gb159, 0, none⟩) (Kd.R_types HO150.out BK159.out (by decide)) (fun _ hk => hk.2) (.int .i64 t153)) (fun _ hk => hk.2) (.int .i64 t154)) (fun _ hk => hk.2) (.slice Ao142 t155.length co142)) (fun _ h_ => h_.1)))) hb); have n4_ := aK (Kd.R_below (pR ((Kd.R_mono (Kd.R_far (p := ⟨gb159, 2, none⟩) (Kd.R_far (p := ⟨gb159, 1, none⟩) (Kd.R_far (p := ⟨gb159, 0, none⟩) (Kd.R_types HO157.out BK159.out (by decide)) (fun _ hk => hk.2) (.int .i64 t153)) (fun _ hk => hk.2) (.int .i64 t154)) (fun _ hk => hk.2) (.slice Ao142 t155.length co142)) (fun _ h_ => h_.1)))) hb); have n5_ := aK (blk_below (g := gb132) (o := .cells #[.int .i64 t126, .int .i64 t127, .slice Ao49 t128.length co49] 42 (0, 0)) (by (with_reducible repeat (first | refine blk_drewN ?_ _ | refine blk_drew ?_ | refine blk_alloc ?_ _)); refine blk_far ?_ NB132_159.out _; (with_reducible repeat (first | refine blk_drewN ?_ _ | refine blk_drew ?_ | refine blk_alloc ?_ _)); refine blk_far ?_ NB132_159.out _; (with_reducible repeat (first | refine blk_drewN ?_ _ | refine blk_drew ?_ | refine blk_alloc ?_ _)); refine blk_far ?_ NB132_159.out _; (with_reducible repeat (first | refine blk_drewN ?_ _ | refine blk_drew ?_ | refine blk_alloc ?_ _)); exact BK132.out) hb); have n6_ := aK (blk_below (g := gb159) (o := .cells #[.int .i64 t153, .int .i64 t154, .slice Ao142 t155.length co142] 42 (0, 0)) (by (with_reducible repeat (first | refine blk_drewN ?_ _ | refine blk_drew ?_ | refine blk_alloc ?_ _)); refine blk_put (cs := #[.int .i64 t153, .int .i64 t154, .slice none 0 0]) ?_ 2 _ rfl; (with_reducible repeat (first | refine blk_drewN ?_ _ | refine blk_drew ?_ | refine blk_alloc ?_ _)); refine blk_put (cs := #[.int .i64 t153, .int .i64 0, .slice none 0 0]) ?_ 1 _ rfl; (with_reducible repeat (first | refine blk_drewN ?_ _ | refine blk_drew ?_ | refine blk_alloc ?_ _)); refine blk_put (cs := #[.int .i64 0, .int .i64 0, .slice none 0 0]) ?_ 0 _ rfl; (with_reducible repeat (first | refine blk_drewN ?_ _ | refine blk_drew ?_ | refine blk_alloc ?_ _)); exact BK159.out) hb); replace HB := bS HB hb; clear HO_118002 HO_124002 HO_133002 HO150 HO157 BK132 BK159; have HO_118002 := n0_; have HO_124002 := n1_; have HO_133002 := n2_; have HO150 := n3_; have HO157 := n4_; have BK132 := n5_; have BK159 := n6_; clear n0_ n1_ n2_ n3_ n4_ n5_ n6_; (try clear hb); (try clear hb2); (try clear hk); (try clear hi)))
             go_meet
             case rel => exact ⟨_, ((t158 != t116)), (by first | rfl | (simp; done) | (simp [*]; done)), H', ⟨by have := HJ14.out; have := HJ77.out; first | omega | exact Nat.le_refl _⟩, ⟨by (try simp only [hl124002_77]); (with_reducible repeat (first | apply Kd.R_alloc | apply Kd.R_drewN | apply Kd.R_drew)); exact Kd.R_mono HO_133002.out (fun _ hk => trivial)⟩, ⟨by (try simp only [hl124002_77]); (with_reducible repeat (first | refine blk_drewN ?_ _ | refine blk_drew ?_ | refine blk_alloc ?_ _)); exact BK132.out⟩, ⟨by repeat (first | (with_reducible first | exact HB.out | apply below_alloc | apply pw_below_drewN | apply below_drew1 | refine below_set ?_ GE132.out) | exact HB.out)⟩⟩
            ·
             replace c145 := Bool.eq_false_iff.mpr c145
             subst c145
             have H1 : (laws_FnExactMoveField.j2 kj77 t143 true t126 t127 t144) = some r := by rw [if_neg (show ¬ (false = true) by decide)] at H; exact H
             clear H
             have H := H1
             clear H1
             have H' := Aside0.mk H
             clear H
             have hnb152 := NB159_117.out
             have hnc152 := NB117_159.out
             have hnb153 := NB159_132.out
             have hnc153 := NB132_159.out
             have hcz154_0 : w139.cell? ⟨gb159, 0, none⟩ = some (.int .i64 0) := (blk_cell BK159.out 0).trans rfl
             have hcz154_1 : w139.cell? ⟨gb159, 1, none⟩ = some (.int .i64 0) := (blk_cell BK159.out 1).trans rfl
             have hcz154_2 : w139.cell? ⟨gb159, 2, none⟩ = some (.slice none 0 0) := (blk_cell BK159.out 2).trans rfl
             have hfz154_0 := blk_frozen BK159.out 0
             have hfz154_1 := blk_frozen BK159.out 1
             have hfz154_2 := blk_frozen BK159.out 2
             have hnb155 := NB117_132.out
             have hnc155 := NB132_117.out
             have hcz156_0 : w139.cell? ⟨gb117, 0, none⟩ = some (.int .i64 t111) := (blk_cell BK117.out 0).trans rfl
             have hcz156_1 : w139.cell? ⟨gb117, 1, none⟩ = some (.int .i64 t112) := (blk_cell BK117.out 1).trans rfl
             have hcz156_2 : w139.cell? ⟨gb117, 2, none⟩ = some (.slice Ao30 t113.length co30) := (blk_cell BK117.out 2).trans rfl
             have hfz156_0 := blk_frozen BK117.out 0
             have hfz156_1 := blk_frozen BK117.out 1
             have hfz156_2 := blk_frozen BK117.out 2
             go_wp2_with (first | ((with_reducible refine gate_callee (f := 31) rfl ?_); refine goesL_ (some 89) rfl rfl Try.func31 (by kernel_rfl) rfl #[.agg #[.int .i64 t153, .int .i64 t154, .slice Ao142 t155.length co142], .agg #[.int .i64 t111, .int .i64 t112, .slice Ao30 t113.length co30]] rfl (by (try simp only [List.map_toArray, List.map_cons, List.map_nil]); first | done | rfl | (simp only [List.length_drop, List.length_take]; rfl)) ?_; (with_reducible refine (laws_eqField.calls kj77 t153 t154 _ _ t155 t111 t112 _ _ t113 false _ ?side1 ?side2 ?side3 ?side4 A144.out).mono ?_); (case side1 => refine (Kd.R_reads' (e := 3) (base := w.heap.size) (ok := fun k_ => (some k_ ≠ (v149 : Value).ownBlock ∧ (some k_ ≠ (.slice Ao30 t113.length co30 : Value).ownBlock ∧ (some k_ ≠ (.slice Ao40 t141.length co40 : Value).ownBlock ∧ some k_ ≠ (.slice Ao49 t128.length co49 : Value).ownBlock)))) (n := t155.length) (c := co142) ?_).2.2; exact (pR ((Kd.R_mono (Kd.R_far (p := ⟨gb159, 2, none⟩) (Kd.R_far (p := ⟨gb159, 1, none⟩) (Kd.R_far (p := ⟨gb159, 0, none⟩) (Kd.R_types HO157.out BK159.out (by decide)) (fun _ hk => hk.2) (.int .i64 t153)) (fun _ hk => hk.2) (.int .i64 t154)) (fun _ hk => hk.2) (.slice Ao142 t155.length co142)) (fun _ h_ => h_.1))))); (case side2 => exact (Kd.R_reads' HO157.out).2.1); (case side3 => refine (Kd.R_reads' (e := 3) (base := w.heap.size) (ok := fun k_ => (some k_ ≠ (v149 : Value).ownBlock ∧ (some k_ ≠ (.slice Ao142 t155.length co142 : Value).ownBlock ∧ (some k_ ≠ (.slice Ao40 t141.length co40 : Value).ownBlock ∧ some k_ ≠ (.slice Ao49 t128.length co49 : Value).ownBlock)))) (n := t113.length) (c := co30) ?_).2.2; exact (pR ((Kd.R_mono (Kd.R_far (p := ⟨gb159, 2, none⟩) (Kd.R_far (p := ⟨gb159, 1, none⟩) (Kd.R_far (p := ⟨gb159, 0, none⟩) (Kd.R_types HO_118002.out BK159.out (by decide)) (fun _ hk => hk.2) (.int .i64 t153)) (fun _ hk => hk.2) (.int .i64 t154)) (fun _ hk => hk.2) (.slice Ao142 t155.length co142)) (fun _ h_ => h_.1))))); (case side4 => exact (Kd.R_reads' HO_118002.out).2.1); rintro e w157 ⟨rfl, hb⟩; refine ⟨_, rfl, ?_⟩; have n0_ := aK (Kd.R_below (pR ((Kd.R_mono (Kd.R_far (p := ⟨gb159, 2, none⟩) (Kd.R_far (p := ⟨gb159, 1, none⟩) (Kd.R_far (p := ⟨gb159, 0, none⟩) (Kd.R_types HO_118002.out BK159.out (by decide)) (fun _ hk => hk.2) (.int .i64 t153)) (fun _ hk => hk.2) (.int .i64 t154)) (fun _ hk => hk.2) (.slice Ao142 t155.length co142)) (fun _ h_ => h_.1)))) hb); have n1_ := aK (Kd.R_below (pR ((Kd.R_mono (Kd.R_far (p := ⟨gb159, 2, none⟩) (Kd.R_far (p := ⟨gb159, 1, none⟩) (Kd.R_far (p := ⟨gb159, 0, none⟩) (Kd.R_types HO_124002.out BK159.out (by decide)) (fun _ hk => hk.2) (.int .i64 t153)) (fun _ hk => hk.2) (.int .i64 t154)) (fun _ hk => hk.2) (.slice Ao142 t155.length co142)) (fun _ h_ => h_.1)))) hb); have n2_ := aK (Kd.R_below (pR ((Kd.R_mono (Kd.R_far (p := ⟨gb159, 2, none⟩) (Kd.R_far (p := ⟨gb159, 1, none⟩) (Kd.R_far (p := ⟨gb159, 0, none⟩) (Kd.R_types HO_133002.out BK159.out (by decide)) (fun _ hk => hk.2) (.int .i64 t153)) (fun _ hk => hk.2) (.int .i64 t154)) (fun _ hk => hk.2) (.slice Ao142 t155.length co142)) (fun _ h_ => h_.1)))) hb); have n3_ := aK (Kd.R_below (pR ((Kd.R_mono (Kd.R_far (p := ⟨gb159, 2, none⟩) (Kd.R_far (p := ⟨gb159, 1, none⟩) (Kd.R_far (p := ⟨gb159, 0, none⟩) (Kd.R_types HO150.out BK159.out (by decide)) (fun _ hk => hk.2) (.int .i64 t153)) (fun _ hk => hk.2) (.int .i64 t154)) (fun _ hk => hk.2) (.slice Ao142 t155.length co142)) (fun _ h_ => h_.1)))) hb); have n4_ := aK (Kd.R_below (pR ((Kd.R_mono (Kd.R_far (p := ⟨gb159, 2, none⟩) (Kd.R_far (p := ⟨gb159, 1, none⟩) (Kd.R_far (p := ⟨gb159, 0, none⟩) (Kd.R_types HO157.out BK159.out (by decide)) (fun _ hk => hk.2) (.int .i64 t153)) (fun _ hk => hk.2) (.int .i64 t154)) (fun _ hk => hk.2) (.slice Ao142 t155.length co142)) (fun _ h_ => h_.1)))) hb); have n5_ := aK (blk_below (g := gb132) (o := .cells #[.int .i64 t126, .int .i64 t127, .slice Ao49 t128.length co49] 42 (0, 0)) (by (with_reducible repeat (first | refine blk_drewN ?_ _ | refine blk_drew ?_ | refine blk_alloc ?_ _)); refine blk_far ?_ NB132_159.out _; (with_reducible repeat (first | refine blk_drewN ?_ _ | refine blk_drew ?_ | refine blk_alloc ?_ _)); refine blk_far ?_ NB132_159.out _; (with_reducible repeat (first | refine blk_drewN ?_ _ | refine blk_drew ?_ | refine blk_alloc ?_ _)); refine blk_far ?_ NB132_159.out _; (with_reducible repeat (first | refine blk_drewN ?_ _ | refine blk_drew ?_ | refine blk_alloc ?_ _)); exact BK132.out) hb); have n6_ := aK (blk_below (g := gb159) (o := .cells #[.int .i64 t153, .int .i64 t154, .slice Ao142 t155.length co142] 42 (0, 0)) (by (with_reducible repeat (first | refine blk_drewN ?_ _ | refine blk_drew ?_ | refine blk_alloc ?_ _)); refine blk_put (cs := #[.int .i64 t153, .int .i64 t154, .slice none 0 0]) ?_ 2 _ rfl; (with_reducible repeat (first | refine blk_drewN ?_ _ | refine blk_drew ?_ | refine blk_alloc ?_ _)); refine blk_put (cs := #[.int .i64 t153, .int .i64 0, .slice none 0 0]) ?_ 1 _ rfl; (with_reducible repeat (first | refine blk_drewN ?_ _ | refine blk_drew ?_ | refine blk_alloc ?_ _)); refine blk_put (cs := #[.int .i64 0, .int .i64 0, .slice none 0 0]) ?_ 0 _ rfl; (with_reducible repeat (first | refine blk_drewN ?_ _ | refine blk_drew ?_ | refine blk_alloc ?_ _)); exact BK159.out) hb); replace HB := bS HB hb; clear HO_118002 HO_124002 HO_133002 HO150 HO157 BK132 BK159; have HO_118002 := n0_; have HO_124002 := n1_; have HO_133002 := n2_; have HO150 := n3_; have HO157 := n4_; have BK132 := n5_; have BK159 := n6_; clear n0_ n1_ n2_ n3_ n4_ n5_ n6_; (try clear hb); (try clear hb2); (try clear hk); (try clear hi)))
             go_meet
             case rel => exact ⟨_, (true), (by first | rfl | (simp; done) | (simp [*]; done)), H', ⟨by have := HJ14.out; have := HJ77.out; first | omega | exact Nat.le_refl _⟩, ⟨by (try simp only [hl124002_77]); (with_reducible repeat (first | apply Kd.R_alloc | apply Kd.R_drewN | apply Kd.R_drew)); exact Kd.R_mono HO_133002.out (fun _ hk => trivial)⟩, ⟨by (try simp only [hl124002_77]); (with_reducible repeat (first | refine blk_drewN ?_ _ | refine blk_drew ?_ | refine blk_alloc ?_ _)); exact BK132.out⟩, ⟨by repeat (first | (with_reducible first | exact HB.out | apply below_alloc | apply pw_below_drewN | apply below_drew1 | refine below_set ?_ GE132.out) | exact HB.out)⟩⟩
           case rest =>
            clear HC124
            try clear c1
            try clear c2
            try clear p2
            try clear c3
            try clear c14
            try clear c15
            try clear c28
            try clear c29
            try clear c30
            try clear c31
            try clear c145
            try clear c146
            try clear c147
            try clear c149
            try clear c152
            try clear c153
            try clear c155
            try clear hcz148_0
            try clear hcz148_1
            try clear hcz148_2
            try clear hcz150_0
            try clear hcz150_1
            try clear hcz150_2
            try clear hcz154_0
            try clear hcz154_1
            try clear hcz154_2
            try clear hcz156_0
            try clear hcz156_1
            try clear hcz156_2
            try clear hfz148_0
            try clear hfz148_1
            try clear hfz148_2
            try clear hfz150_0
            try clear hfz150_1
            try clear hfz150_2
            try clear hfz154_0
            try clear hfz154_1
            try clear hfz154_2
            try clear hfz156_0
            try clear hfz156_1
            try clear hfz156_2
            obtain ⟨kq, x95_123, rfl, HA, HJ123, HO_133002, BK132, HB⟩ := hcut
            have hl133002_123 := (Kd.R_reads' HO_133002.out).1
            rw [hl133002_123] at HO_133002
            (try simp only [hl133002_123])
            (try simp only [hl133002_123] at BK132)
            cases kq with
            | zero => exact absurd HA.out (by simp [laws_FnExactMoveField.j2])
            | succ kj123 =>
             have H := HA.out
             clear HA
             simp only [laws_FnExactMoveField.j2] at H
             by_cases c158 : x95_123 = true
             ·
              subst c158
              have H1 : (some false) = some r := by rw [if_pos rfl] at H; exact H
              clear H
              have H := H1
              clear H1
              obtain rfl := Option.some.inj H
              go_wp2
              go_ret
              exact ⟨by first | rfl | (simp [errW_none, errW_some] <;> rfl) | (simp [*, errW_none, errW_some] <;> rfl), by repeat (first | (with_reducible first | exact HB.out | apply below_alloc | apply pw_below_drewN | apply below_drew1) | exact HB.out)⟩
             ·
              replace c158 := Bool.eq_false_iff.mpr c158
              subst c158
              have H1 : ((laws_heldField.f kj123 t126 t127 t144 1).bind fun t161 => (if t161 < 0 then (some false) else (if t161 = t143 then (some true) else (some false)))) = some r := by rw [if_neg (show ¬ (false = true) by decide)] at H; exact H
              clear H
              have H := H1
              clear H1
              replace H := Option.bind_eq_some_iff.mp H
              obtain ⟨t161, A1590, H⟩ := H
              replace H : (if t161 < 0 then (some false) else (if t161 = t143 then (some true) else (some false))) = some r := H
              have A159 := Aside0.mk A1590
              clear A1590
              by_cases c160 : t161 < 0
              ·
               rw [if_pos c160] at H
               have c160b0 : decide (t161 < 0) = true := decide_eq_true c160
               clear c160
               obtain rfl := Option.some.inj H
               have hcz161_0 : wc.cell? ⟨gb132, 0, none⟩ = some (.int .i64 t126) := (blk_cell BK132.out 0).trans rfl
               have hcz161_1 : wc.cell? ⟨gb132, 1, none⟩ = some (.int .i64 t127) := (blk_cell BK132.out 1).trans rfl
               have hcz161_2 : wc.cell? ⟨gb132, 2, none⟩ = some (.slice Ao49 t144.length co49) := (blk_cell BK132.out 2).trans rfl
               have hfz161_0 := blk_frozen BK132.out 0
               have hfz161_1 := blk_frozen BK132.out 1
               have hfz161_2 := blk_frozen BK132.out 2
               go_wp2_with (first | ((with_reducible refine gate_callee (f := 33) rfl ?_); refine goesL_ (some 98) rfl rfl Try.func33 (by kernel_rfl) rfl #[.agg #[.int .i64 t126, .int .i64 t127, .slice Ao49 t144.length co49], .int .i64 1] rfl (by (try simp only [List.map_toArray, List.map_cons, List.map_nil]); first | done | rfl | (simp only [List.length_drop, List.length_take]; rfl)) ?_; (with_reducible refine (laws_heldField.calls kj123 t126 t127 _ _ t144 1 t161 _ ?side1 ?side2 A159.out).mono ?_); (case side1 => repeat (first | exact (Kd.R_reads' HO_133002.out).2.2 | (with_reducible refine Kd.C_alloc ?_ _) | (with_reducible refine Kd.C_drewN ?_ _) | (with_reducible refine Kd.C_drew ?_))); (case side2 => exact (Kd.R_reads' HO_133002.out).2.1); rintro e w162 ⟨rfl, hb⟩; refine ⟨_, rfl, ?_⟩; have n0_ := aK (Kd.R_below (pR HO_133002.out) hb); replace HB := bS HB hb; clear HO_133002; have HO_133002 := n0_; clear n0_; (try clear hb); (try clear hb2); (try clear hk); (try clear hi)))
               go_ret
               exact ⟨by first | rfl | (simp [errW_none, errW_some] <;> rfl) | (simp [*, errW_none, errW_some] <;> rfl), by repeat (first | (with_reducible first | exact HB.out | apply below_alloc | apply pw_below_drewN | apply below_drew1) | exact HB.out)⟩
              ·
               rw [if_neg c160] at H
               have c160b0 : decide (t161 < 0) = false := decide_eq_false c160
               clear c160
               by_cases c163 : t161 = t143
               ·
                rw [if_pos c163] at H
                have c163b0 : (t161 == t143) = true := beq_iff_eq.mpr c163
                have c163b1 : (t161 != t143) = false := bne_eq_false_iff_eq.mpr c163
                clear c163
                obtain rfl := Option.some.inj H
                have hcz164_0 : wc.cell? ⟨gb132, 0, none⟩ = some (.int .i64 t126) := (blk_cell BK132.out 0).trans rfl
                have hcz164_1 : wc.cell? ⟨gb132, 1, none⟩ = some (.int .i64 t127) := (blk_cell BK132.out 1).trans rfl
                have hcz164_2 : wc.cell? ⟨gb132, 2, none⟩ = some (.slice Ao49 t144.length co49) := (blk_cell BK132.out 2).trans rfl
                have hfz164_0 := blk_frozen BK132.out 0
                have hfz164_1 := blk_frozen BK132.out 1
                have hfz164_2 := blk_frozen BK132.out 2
                go_wp2_with (first | ((with_reducible refine gate_callee (f := 33) rfl ?_); refine goesL_ (some 98) rfl rfl Try.func33 (by kernel_rfl) rfl #[.agg #[.int .i64 t126, .int .i64 t127, .slice Ao49 t144.length co49], .int .i64 1] rfl (by (try simp only [List.map_toArray, List.map_cons, List.map_nil]); first | done | rfl | (simp only [List.length_drop, List.length_take]; rfl)) ?_; (with_reducible refine (laws_heldField.calls kj123 t126 t127 _ _ t144 1 t161 _ ?side1 ?side2 A159.out).mono ?_); (case side1 => repeat (first | exact (Kd.R_reads' HO_133002.out).2.2 | (with_reducible refine Kd.C_alloc ?_ _) | (with_reducible refine Kd.C_drewN ?_ _) | (with_reducible refine Kd.C_drew ?_))); (case side2 => exact (Kd.R_reads' HO_133002.out).2.1); rintro e w165 ⟨rfl, hb⟩; refine ⟨_, rfl, ?_⟩; have n0_ := aK (Kd.R_below (pR HO_133002.out) hb); replace HB := bS HB hb; clear HO_133002; have HO_133002 := n0_; clear n0_; (try clear hb); (try clear hb2); (try clear hk); (try clear hi)))
                go_ret
                exact ⟨by first | rfl | (simp [errW_none, errW_some] <;> rfl) | (simp [*, errW_none, errW_some] <;> rfl), by repeat (first | (with_reducible first | exact HB.out | apply below_alloc | apply pw_below_drewN | apply below_drew1) | exact HB.out)⟩
               ·
                rw [if_neg c163] at H
                have c163b0 : (t161 == t143) = false := beq_eq_false_iff_ne.mpr c163
                have c163b1 : (t161 != t143) = true := bne_iff_ne.mpr c163
                obtain rfl := Option.some.inj H
                have hcz166_0 : wc.cell? ⟨gb132, 0, none⟩ = some (.int .i64 t126) := (blk_cell BK132.out 0).trans rfl
                have hcz166_1 : wc.cell? ⟨gb132, 1, none⟩ = some (.int .i64 t127) := (blk_cell BK132.out 1).trans rfl
                have hcz166_2 : wc.cell? ⟨gb132, 2, none⟩ = some (.slice Ao49 t144.length co49) := (blk_cell BK132.out 2).trans rfl
                have hfz166_0 := blk_frozen BK132.out 0
                have hfz166_1 := blk_frozen BK132.out 1
                have hfz166_2 := blk_frozen BK132.out 2
                go_wp2_with (first | ((with_reducible refine gate_callee (f := 33) rfl ?_); refine goesL_ (some 98) rfl rfl Try.func33 (by kernel_rfl) rfl #[.agg #[.int .i64 t126, .int .i64 t127, .slice Ao49 t144.length co49], .int .i64 1] rfl (by (try simp only [List.map_toArray, List.map_cons, List.map_nil]); first | done | rfl | (simp only [List.length_drop, List.length_take]; rfl)) ?_; (with_reducible refine (laws_heldField.calls kj123 t126 t127 _ _ t144 1 t161 _ ?side1 ?side2 A159.out).mono ?_); (case side1 => repeat (first | exact (Kd.R_reads' HO_133002.out).2.2 | (with_reducible refine Kd.C_alloc ?_ _) | (with_reducible refine Kd.C_drewN ?_ _) | (with_reducible refine Kd.C_drew ?_))); (case side2 => exact (Kd.R_reads' HO_133002.out).2.1); rintro e w167 ⟨rfl, hb⟩; refine ⟨_, rfl, ?_⟩; have n0_ := aK (Kd.R_below (pR HO_133002.out) hb); replace HB := bS HB hb; clear HO_133002; have HO_133002 := n0_; clear n0_; (try clear hb); (try clear hb2); (try clear hk); (try clear hi)))
                go_ret
                exact ⟨by first | rfl | (simp [errW_none, errW_some] <;> rfl) | (simp [*, errW_none, errW_some] <;> rfl), by repeat (first | (with_reducible first | exact HB.out | apply below_alloc | apply pw_below_drewN | apply below_drew1) | exact HB.out)⟩
          ·
           rw [if_neg c120] at H
           have c120b0 : (t145 == t143) = false := beq_eq_false_iff_ne.mpr c120
           have c120b1 : (t145 != t143) = true := bne_iff_ne.mpr c120
           obtain rfl := Option.some.inj H
           have hcz168_0 : wc.cell? ⟨gb132, 0, none⟩ = some (.int .i64 t126) := (blk_cell BK132.out 0).trans rfl
           have hcz168_1 : wc.cell? ⟨gb132, 1, none⟩ = some (.int .i64 t127) := (blk_cell BK132.out 1).trans rfl
           have hcz168_2 : wc.cell? ⟨gb132, 2, none⟩ = some (.slice Ao49 t128.length co49) := (blk_cell BK132.out 2).trans rfl
           have hfz168_0 := blk_frozen BK132.out 0
           have hfz168_1 := blk_frozen BK132.out 1
           have hfz168_2 := blk_frozen BK132.out 2
           go_wp2_with (first | ((with_reducible refine gate_callee (f := 32) rfl ?_); refine goesL_ (some 70) rfl rfl Try.func32 (by kernel_rfl) rfl #[.agg #[.int .i64 t126, .int .i64 t127, .slice Ao49 t128.length co49], .int .i64 1] rfl (by (try simp only [List.map_toArray, List.map_cons, List.map_nil]); first | done | rfl | (simp only [List.length_drop, List.length_take]; rfl)) ?_; (with_reducible refine (laws_markField.calls kj77 t126 t127 (fun k_ => some k_ = (.slice Ao49 t128.length co49 : Value).ownBlock) (.slice Ao49 t128.length co49) t128 1 t143 t144 w _ ?side1 ?side2 A113.out).mono ?_); (case side1 => repeat (first | (with_reducible first | exact HB.out | apply below_alloc | apply pw_below_drewN | apply below_drew1 | refine below_set ?_ GE132.out) | exact HB.out)); (case side2 => exact Kd.R_tight rfl HO_133002.out); rintro e w169 ⟨rfl, hy0, hb, hkp⟩; refine ⟨_, rfl, ?_⟩; have n0_ := aK (Kd.R_mono (ok' := fun k_ => some k_ ≠ (.slice Ao40 t141.length co40 : Value).ownBlock ∧ some k_ ≠ (.slice Ao49 t128.length co49 : Value).ownBlock) (Kd.R_keptB (HO_118002.out) hkp (fun k_ hk_ hs_ => (hk_.2) hs_)) (fun k_ hk_ => ⟨hk_.1.1, hk_.1.2⟩)); have n1_ := aK (Kd.R_mono (ok' := fun k_ => some k_ ≠ (.slice Ao30 t113.length co30 : Value).ownBlock ∧ some k_ ≠ (.slice Ao49 t128.length co49 : Value).ownBlock) (Kd.R_keptB (HO_124002.out) hkp (fun k_ hk_ hs_ => (hk_.2) hs_)) (fun k_ hk_ => ⟨hk_.1.1, hk_.1.2⟩)); have n2_ := aK (Kd.R_reok rfl hy0 (fun k_ e_ => HO_133002.out.1 k_ e_)); have n3_ := aK (blk_kept (pB BK132.out) hkp (fun hs_ => (fun e_ => (Kd.R_ne HO_133002.out BK132.out (by decide)) e_) hs_)); have n4_ := aK (hb); clear HO_118002 HO_124002 HO_133002 BK132 HB; have HO_118002 := n0_; have HO_124002 := n1_; have HO_133002 := n2_; have BK132 := n3_; have HB := n4_; clear n0_ n1_ n2_ n3_ n4_; (try clear hb); (try clear hkp); (try clear hy0); have hcz170_0 : w169.cell? ⟨gb132, 0, none⟩ = some (.int .i64 t126) := (blk_cell BK132.out 0).trans rfl; have hcz170_1 : w169.cell? ⟨gb132, 1, none⟩ = some (.int .i64 t127) := (blk_cell BK132.out 1).trans rfl; have hcz170_2 : w169.cell? ⟨gb132, 2, none⟩ = some (.slice Ao49 t128.length co49) := (blk_cell BK132.out 2).trans rfl; have hfz170_0 := blk_frozen BK132.out 0; have hfz170_1 := blk_frozen BK132.out 1; have hfz170_2 := blk_frozen BK132.out 2) | ((with_reducible refine gate_callee (f := 33) rfl ?_); refine goesL_ (some 73) rfl rfl Try.func33 (by kernel_rfl) rfl #[.agg #[.int .i64 t126, .int .i64 t127, .slice Ao49 t144.length co49], .int .i64 1] rfl (by (try simp only [List.map_toArray, List.map_cons, List.map_nil]); first | done | (rw [show t144.length = t128.length from (Kd.R_reads' HO_133002.out).1.symm] <;> rfl) | rfl | (simp only [List.length_drop, List.length_take]; rfl)) ?_; (with_reducible refine (laws_heldField.calls kj77 t126 t127 _ _ t144 1 t145 _ ?side1 ?side2 A114.out).mono ?_); (case side1 => repeat (first | exact (Kd.R_reads' HO_133002.out).2.2 | (with_reducible refine Kd.C_alloc ?_ _) | (with_reducible refine Kd.C_drewN ?_ _) | (with_reducible refine Kd.C_drew ?_))); (case side2 => rw [show t144.length = t128.length from (Kd.R_reads' HO_133002.out).1.symm]; exact (Kd.R_reads' HO_133002.out).2.1); rintro e w171 ⟨rfl, hb⟩; refine ⟨_, rfl, ?_⟩; have n0_ := aK (Kd.R_below (pR HO_118002.out) hb); have n1_ := aK (Kd.R_below (pR HO_124002.out) hb); have n2_ := aK (Kd.R_below (pR HO_133002.out) hb); replace HB := bS HB hb; clear HO_118002 HO_124002 HO_133002; have HO_118002 := n0_; have HO_124002 := n1_; have HO_133002 := n2_; clear n0_ n1_ n2_; (try clear hb); (try clear hb2); (try clear hk); (try clear hi)))
           go_ret
           exact ⟨by first | rfl | (simp [errW_none, errW_some] <;> rfl) | (simp [*, errW_none, errW_some] <;> rfl), by repeat (first | (with_reducible first | exact HB.out | apply below_alloc | apply pw_below_drewN | apply below_drew1) | exact HB.out)⟩
     ·
      replace c76 := Bool.eq_false_iff.mpr c76
      subst c76
      have H1 : (some false) = some r := by rw [if_neg (show ¬ (false = true) by decide)] at H; exact H
      clear H
      have H := H1
      clear H1
      obtain rfl := Option.some.inj H
      try go_wp2
      have n0_ := aK (Kd.R_drew HO_118002.out)
      have n1_ := aK (Kd.R_drew HO_124002.out)
      have n2_ := aK (Kd.R_drew HO_133002.out)
      have n3_ := aK (blk_drew BK101.out)
      have n4_ := aK (blk_drew BK102.out)
      have n5_ := aK (blk_drew BK117.out)
      have n6_ := aK (blk_drew BK123.out)
      have n7_ := aK (blk_drew BK132.out)
      have n8_ := aK (below_drew1 HB.out)
      clear HO_118002 HO_124002 HO_133002 BK101 BK102 BK117 BK123 BK132 HB
      have HO_118002 := n0_
      have HO_124002 := n1_
      have HO_133002 := n2_
      have BK101 := n3_
      have BK102 := n4_
      have BK117 := n5_
      have BK123 := n6_
      have BK132 := n7_
      have HB := n8_
      clear n0_ n1_ n2_ n3_ n4_ n5_ n6_ n7_ n8_
      refine start_ (n := 5) (S := fun w' => w'.cell? ⟨gb123, 0, none⟩ = some (.int .i64 t118) ∧ w'.cell? ⟨gb123, 1, none⟩ = some (.int .i64 t119) ∧ w'.cell? ⟨gb123, 2, none⟩ = some (.slice Ao40 t120.length co40) ∧ w'.cell? ⟨gb101, 0, none⟩ = some (.int .i64 a0_0) ∧ w'.cell? ⟨gb101, 1, none⟩ = some (.int .i64 a0_1) ∧ w'.cell? ⟨gb101, 2, none⟩ = some (.slice A0_2 l0_2.length c0_2)) (ds := []) #[false, false, false, false, false] (by kernel_rfl) rfl rfl ⟨(blk_cell BK123.out 0).trans rfl, (blk_cell BK123.out 1).trans rfl, (blk_cell BK123.out 2).trans rfl, (blk_cell BK101.out 0).trans rfl, (blk_cell BK101.out 1).trans rfl, (blk_cell BK101.out 2).trans rfl⟩ (fun hHeld => ?_)
      generalize wc.drew = w172 at HO_118002 HO_124002 HO_133002 BK101 BK102 BK117 BK123 BK132 HB hHeld ⊢
      refine take_ (i := 0) (N := some 47) (v := ?_) (a' := ?_) #[true, false, false, false, false] rfl rfl (by kernel_rfl) (fun _ _ _ h => h) (Or.inl ⟨by rfl, ?_⟩) hHeld ?_ ?_
      rotate_left
      ·
       rintro w' ⟨s0, s1, s2, s3, s4, s5⟩
       go_simp
       with_reducible rfl
      rotate_left
      ·
       simp only [Act.put, List.setIfInBounds_toArray, List.set_cons_zero, List.set_cons_succ, i64_w, i32_w]
       rfl
      refine take_ (i := 1) (N := some 48) (v := ?_) (a' := ?_) #[true, true, false, false, false] rfl rfl (by kernel_rfl) (fun _ _ _ h => h) (Or.inl ⟨by rfl, ?_⟩) hHeld ?_ ?_
      rotate_left
      ·
       rintro w' ⟨s0, s1, s2, s3, s4, s5⟩
       go_simp
       with_reducible rfl
      rotate_left
      ·
       simp only [Act.put, List.setIfInBounds_toArray, List.set_cons_zero, List.set_cons_succ, i64_w, i32_w]
       rfl
      refine one_ (i := 2) (N := some 49) #[true, true, true, false, false] rfl rfl (by kernel_rfl) (by decide) (fun K hK => ?_)
      refine goes_ Try.func28 (by kernel_rfl) rfl #[.agg #[.int .i64 a0_0, .int .i64 a0_1, .slice A0_2 l0_2.length c0_2]] (by rfl) rfl rfl (by (try simp only [List.map_toArray, List.map_cons, List.map_nil]); first | done | rfl | (simp only [List.length_drop, List.length_take]; rfl)) ?_
      with_reducible refine (laws_toField.calls kj14 a0_0 a0_1 _ _ l0_2 t134 t135 t136 _ ?side1 ?side2 A74.out).mono ?_
      (case side1 => repeat (first | exact (Kd.C_below HR0_2.out HB.out) | (with_reducible refine Kd.C_alloc ?_ _) | (with_reducible refine Kd.C_drewN ?_ _) | (with_reducible refine Kd.C_drew ?_)))
      (case side2 => exact HC0_2.out)
      rintro e w173 ⟨v137, rfl, ho0, hb⟩
      refine ⟨_, rfl, ?_⟩
      have n0_ := aK (Kd.R_elder' (pR HO_118002.out) (Kd.R_base ho0) hb)
      have n1_ := aK (Kd.R_elder' (pR HO_124002.out) (Kd.R_base ho0) hb)
      have n2_ := aK (Kd.R_elder' (pR HO_133002.out) (Kd.R_base ho0) hb)
      have HO138 := aK (Kd.R_lower (Kd.R_new' (Kd.R_new' (Kd.R_new' ho0 (Kd.R_lt (pR HO_118002.out))) (Kd.R_lt (pR HO_124002.out))) (Kd.R_lt (pR HO_133002.out))) (below_size (pS HB.out)))
      replace BK101 := bB BK101 hb
      replace BK102 := bB BK102 hb
      replace BK117 := bB BK117 hb
      replace BK123 := bB BK123 hb
      replace BK132 := bB BK132 hb
      replace HB := bS HB hb
      clear HO_118002 HO_124002 HO_133002
      have HO_118002 := n0_
      have HO_124002 := n1_
      have HO_133002 := n2_
      clear n0_ n1_ n2_
      (try clear hb)
      (try clear hb2)
      (try clear hk)
      (try clear hi)
      (try clear ho0)
      obtain ⟨Ao174, co174, eo174⟩ := Kd.R_slice HO138.out
      (first | subst eo174 | (injection eo174 with f1_ f2_ f3_; have f4_ := f1_.symm; have f5_ := f3_.symm; clear f1_ f2_ f3_; subst f4_; subst f5_))
      refine hK.out _ _ ⟨(blk_cell BK123.out 0).trans rfl, (blk_cell BK123.out 1).trans rfl, (blk_cell BK123.out 2).trans rfl, (blk_cell BK101.out 0).trans rfl, (blk_cell BK101.out 1).trans rfl, (blk_cell BK101.out 2).trans rfl⟩ (fun hHeld => ?_)
      clear hK K
      refine norm_ (a' := ?_) ?_ ?_
      rotate_left
      ·
       show Act.put _ (some 49) _ = _
       simp only [Act.put, List.setIfInBounds_toArray, List.set_cons_zero, List.set_cons_succ, i64_w, i32_w]
       rfl
      refine one_ (i := 3) (N := some 50) #[true, true, true, true, false] rfl rfl (by kernel_rfl) (by decide) (fun K hK => ?_)
      refine goes_ Try.func31 (by kernel_rfl) rfl #[.agg #[.int .i64 t118, .int .i64 t119, .slice Ao40 t120.length co40], .agg #[.int .i64 t134, .int .i64 t135, .slice Ao174 t136.length co174]] (by rfl) rfl rfl (by (try simp only [List.map_toArray, List.map_cons, List.map_nil]); first | done | rfl | (simp only [List.length_drop, List.length_take]; rfl)) ?_
      with_reducible refine (laws_eqField.calls kj14 t118 t119 _ _ t120 t134 t135 _ _ t136 false _ ?side1 ?side2 ?side3 ?side4 A75.out).mono ?_
      (case side1 => repeat (first | exact (Kd.R_reads' HO_124002.out).2.2 | (with_reducible refine Kd.C_alloc ?_ _) | (with_reducible refine Kd.C_drewN ?_ _) | (with_reducible refine Kd.C_drew ?_)))
      (case side2 => exact (Kd.R_reads' HO_124002.out).2.1)
      (case side3 => repeat (first | exact (Kd.R_reads' HO138.out).2.2 | (with_reducible refine Kd.C_alloc ?_ _) | (with_reducible refine Kd.C_drewN ?_ _) | (with_reducible refine Kd.C_drew ?_)))
      (case side4 => exact (Kd.R_reads' HO138.out).2.1)
      rintro e w175 ⟨rfl, hb⟩
      refine ⟨_, rfl, ?_⟩
      have n0_ := aK (Kd.R_below (pR HO_118002.out) hb)
      have n1_ := aK (Kd.R_below (pR HO_124002.out) hb)
      have n2_ := aK (Kd.R_below (pR HO_133002.out) hb)
      have n3_ := aK (Kd.R_below (pR HO138.out) hb)
      replace BK101 := bB BK101 hb
      replace BK102 := bB BK102 hb
      replace BK117 := bB BK117 hb
      replace BK123 := bB BK123 hb
      replace BK132 := bB BK132 hb
      replace HB := bS HB hb
      clear HO_118002 HO_124002 HO_133002 HO138
      have HO_118002 := n0_
      have HO_124002 := n1_
      have HO_133002 := n2_
      have HO138 := n3_
      clear n0_ n1_ n2_ n3_
      (try clear hb)
      (try clear hb2)
      (try clear hk)
      (try clear hi)
      refine hK.out _ _ ⟨(blk_cell BK123.out 0).trans rfl, (blk_cell BK123.out 1).trans rfl, (blk_cell BK123.out 2).trans rfl, (blk_cell BK101.out 0).trans rfl, (blk_cell BK101.out 1).trans rfl, (blk_cell BK101.out 2).trans rfl⟩ (fun hHeld => ?_)
      clear hK K
      refine norm_ (a' := ?_) ?_ ?_
      rotate_left
      ·
       show Act.put _ (some 50) _ = _
       simp only [Act.put, List.setIfInBounds_toArray, List.set_cons_zero, List.set_cons_succ, i64_w, i32_w]
       rfl
      refine pure_ (i := 4) (N := some 51) (v := ?_) (a' := ?_) #[true, true, true, true, true] rfl rfl (by kernel_rfl) (fun _ _ _ h => h) (Or.inl ⟨by rfl, ?_⟩) ?_ ?_
      rotate_left
      ·
       intro w'
       go_simp
       with_reducible rfl
      rotate_left
      ·
       simp only [Act.put, List.setIfInBounds_toArray, List.set_cons_zero, List.set_cons_succ, i64_w, i32_w]
       rfl
      refine done_ (by kernel_rfl) ?_
      try go_wp2
      go_ret
      exact ⟨by first | rfl | (simp [errW_none, errW_some] <;> rfl) | (simp [*, errW_none, errW_some] <;> rfl), by repeat (first | (with_reducible first | exact HB.out | apply below_alloc | apply pw_below_drewN | apply below_drew1) | exact HB.out)⟩

/-- The one plain statement of FnExactMoveField. -/
def laws_FnExactMoveField.Pure : Prop := ∀ (a0_0 : Int) (a0_1 : Int) (l0_2 : List Int) (a1_0 : Int) (a1_1 : Int), (Lit.int .i64 a0_0).wf = true → (Lit.int .i64 a0_1).wf = true → (l0_2.length ≤ 9223372036854775807 ∧ ∀ z0 ∈ l0_2, (Lit.int .i64 z0).wf = true) → (Lit.int .i64 a1_0).wf = true → (Lit.int .i64 a1_1).wf = true → ∃ k, laws_FnExactMoveField.f k a0_0 a0_1 l0_2 a1_0 a1_1 = some true

end Go.Proofs.Ytmfgjknffmjjjaa.P
