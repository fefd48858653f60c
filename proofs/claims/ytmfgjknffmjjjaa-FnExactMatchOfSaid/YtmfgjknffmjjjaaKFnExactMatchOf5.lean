/- Texts of the claim FnExactMatchOf, merged: part 5 of 7: the program's and the reference's functions as Lean functions, the walks that show it, and plain lemmas; no conditions. -/
import Derived.Test.YtmfgjknffmjjjaaKFnExactMatchOf1
import Derived.Test.YtmfgjknffmjjjaaKFnExactMatchOf2
import Derived.Test.YtmfgjknffmjjjaaKFnExactMatchOf4
import Derived.Test.YtmfgjknffmjjjaaWMore
import Derived.Test.YtmfgjknffmjjjaaWSized
import Derived.ProofKit
import Derived.OpenShut
import Derived.Deep.Slices
import Derived.Deep.Strs
import Derived.Deep.Fields
import Derived.Lib.SmallJoins
namespace Go.Proofs.Ytmfgjknffmjjjaa.P
open Go.RowKit Go.Proofs.YtmfgjknffmjjjaaW.PrintWords Go.Proofs.YtmfgjknffmjjjaaW.PrintLast Go.Proofs.YtmfgjknffmjjjaaW.PrintMore
attribute [local go_sem] max2_int min2_int max_two min_two max_three min_three max_four min_four   -- for this text's walks alone
set_option linter.unusedVariables false
set_option linter.unusedSimpArgs false

/-! ### laws_FnExactMatchOf: function 8 -/
def laws_FnExactMatchOf.j0 : Nat → Bool → Int → Int → List Int → Int → Int → List Int → Int → Int → List Int → Int → Int → List Int → Option (Bool)
 | 0, _, _, _, _, _, _, _, _, _, _, _, _, _ => none
 | k + 1, x62, x102000, x102001, x102002, x103000, x103001, x103002, x127000, x127001, x127002, x133000, x133001, x133002 => if x62 = true then (some false) else ((laws_toField.f k x102000 x102001 x102002).bind fun bt138 => ((laws_eqField.f k x127000 x127001 x127002 bt138.1 bt138.2.1 bt138.2.2).bind fun t143 => (if t143 = true then ((laws_toField.f k x103000 x103001 x103002).bind fun bt144 => ((laws_eqField.f k x133000 x133001 x133002 bt144.1 bt144.2.1 bt144.2.2).bind fun t149 => (if t149 = true then (some true) else (some false)))) else (some false))))
def laws_FnExactMatchOf.f (k : Nat) (a0_0 : Int) (a0_1 : Int) (l0_2 : List Int) (a1_0 : Int) (a1_1 : Int) (l1_2 : List Int) (a2_0 : Int) (a2_1 : Int) : Option (Bool) := (laws_szField.f a0_0 a0_1 l0_2 1048576).bind fun t104 => (if t104 < 0 then (some true) else ((laws_szField.f a1_0 a1_1 l1_2 t104).bind fun t105 => (if t105 < 0 then (some true) else ((laws_toField.f k a0_0 a0_1 l0_2).bind fun bt106 => ((laws_toField.f k a1_0 a1_1 l1_2).bind fun bt111 => ((laws_toMotion.f a2_0 a2_1).bind fun bt116 => ((spec_MatchOf.f k bt106.1 bt106.2.1 bt106.2.2 bt111.1 bt111.2.1 bt111.2.2 bt116.1 bt116.2).bind fun bt118 => ((laws_toField.f k a0_0 a0_1 l0_2).bind fun bt121 => ((laws_toField.f k a1_0 a1_1 l1_2).bind fun bt127 => ((laws_toMotion.f a2_0 a2_1).bind fun bt133 => ((impl_MatchOf.f k bt121.1 bt121.2.1 bt121.2.2 bt127.1 bt127.2.1 bt127.2.2 bt133.1 bt133.2).bind fun bt135 => (if bt135.1 = bt118.1 then (if bt135.2.1 = bt118.2.1 then (laws_FnExactMatchOf.j0 k (bt135.2.2 != bt118.2.2) a0_0 a0_1 l0_2 a1_0 a1_1 l1_2 bt121.1 bt121.2.1 bt121.2.2 bt127.1 bt127.2.1 bt127.2.2) else (laws_FnExactMatchOf.j0 k true a0_0 a0_1 l0_2 a1_0 a1_1 l1_2 bt121.1 bt121.2.1 bt121.2.2 bt127.1 bt127.2.1 bt127.2.2)) else (laws_FnExactMatchOf.j0 k true a0_0 a0_1 l0_2 a1_0 a1_1 l1_2 bt121.1 bt121.2.1 bt121.2.2 bt127.1 bt127.2.1 bt127.2.2)))))))))))))

def laws_FnExactMatchOf.T8 : Bool × List (List Nat × List Nat) := (true, [([], []), ([0], [0]), ([], []), ([2, 1], [2]), ([], []), ([4, 3], [4]), ([1, 3, 5, 5], [1, 3, 5]), ([6], [6]), ([7], [7]), ([7], [7]), ([7], [7]), ([8, 6, 0, 1, 2, 3, 4, 5, 6, 7, 8], [8]), ([9, 11, 0, 1, 2, 3, 4, 5, 6, 7, 8, 9, 11], [9]), ([10, 12, 0, 1, 2, 3, 4, 5, 6, 7, 8, 9, 10, 11, 12], [10])])
def laws_FnExactMatchOf.B8 : List Nat := [0, 1, 0, 7, 0, 31, 63, 127, 255, 255, 255, 511, 3071, 8191]
theorem laws_FnExactMatchOf.tab8 : rtab .any (opsOf Try.f8 8) = laws_FnExactMatchOf.T8 := by kernel_rfl
theorem laws_FnExactMatchOf.bits8 : waitsOk laws_FnExactMatchOf.T8.2 laws_FnExactMatchOf.B8 = true := by kernel_rfl
def laws_FnExactMatchOf.T11 : Bool × List (List Nat × List Nat) := (true, [([], []), ([], []), ([], []), ([2], [2]), ([0, 1, 3, 3], [0, 1, 3]), ([4], [4]), ([5], [5]), ([5], [5]), ([5], [5]), ([6, 4, 0, 1, 2, 3, 4, 5, 6], [6]), ([7, 9, 0, 1, 2, 3, 4, 5, 6, 7, 9], [7]), ([8, 10, 0, 1, 2, 3, 4, 5, 6, 7, 8, 9, 10], [8])])
def laws_FnExactMatchOf.B11 : List Nat := [0, 0, 0, 4, 15, 31, 63, 63, 63, 127, 767, 2047]
theorem laws_FnExactMatchOf.tab11 : rtab .any (opsOf Try.f8 11) = laws_FnExactMatchOf.T11 := by kernel_rfl
theorem laws_FnExactMatchOf.bits11 : waitsOk laws_FnExactMatchOf.T11.2 laws_FnExactMatchOf.B11 = true := by kernel_rfl
set_option maxHeartbeats 8000000 in
set_option maxRecDepth 100000 in
theorem laws_FnExactMatchOf.calls (k : Nat) (a0_0 : Int) (a0_1 : Int) (A0_2 : Option Addr) (c0_2 : Nat) (l0_2 : List Int) (a1_0 : Int) (a1_1 : Int) (A1_2 : Option Addr) (c1_2 : Nat) (l1_2 : List Int) (a2_0 : Int) (a2_1 : Int) (r : Bool) (w : World) (hr0_2 : Kd.C (Kd.int .i64) w A0_2 l0_2.length l0_2) (hc0_2 : l0_2.length ≤ c0_2) (hr1_2 : Kd.C (Kd.int .i64) w A1_2 l1_2.length l1_2) (hc1_2 : l1_2.length ≤ c1_2) (h : laws_FnExactMatchOf.f k a0_0 a0_1 l0_2 a1_0 a1_1 l1_2 a2_0 a2_1 = some r) :
  Calls Try.prog 8 #[.agg #[.int .i64 a0_0, .int .i64 a0_1, .slice A0_2 l0_2.length c0_2], .agg #[.int .i64 a1_0, .int .i64 a1_1, .slice A1_2 l1_2.length c1_2], .agg #[.int .i64 a2_0, .int .i64 a2_1]] w fun e w' => e = .returned (.bool r) ∧ Below w.heap.size w w' := by
 have hu38 := Try.underlying38
 have hu40 := Try.underlying40
 have hu42 := Try.underlying42
 have HR0_2 := Aside0.mk hr0_2
 have HC0_2 := Aside0.mk hc0_2
 clear hr0_2 hc0_2
 have HR1_2 := Aside0.mk hr1_2
 have HC1_2 := Aside0.mk hc1_2
 clear hr1_2 hc1_2
 have HB := aK (Below.refl w.heap.size w)
 have H : ((laws_szField.f a0_0 a0_1 l0_2 1048576).bind fun t104 => (if t104 < 0 then (some true) else ((laws_szField.f a1_0 a1_1 l1_2 t104).bind fun t105 => (if t105 < 0 then (some true) else ((laws_toField.f k a0_0 a0_1 l0_2).bind fun bt106 => ((laws_toField.f k a1_0 a1_1 l1_2).bind fun bt111 => ((laws_toMotion.f a2_0 a2_1).bind fun bt116 => ((spec_MatchOf.f k bt106.1 bt106.2.1 bt106.2.2 bt111.1 bt111.2.1 bt111.2.2 bt116.1 bt116.2).bind fun bt118 => ((laws_toField.f k a0_0 a0_1 l0_2).bind fun bt121 => ((laws_toField.f k a1_0 a1_1 l1_2).bind fun bt127 => ((laws_toMotion.f a2_0 a2_1).bind fun bt133 => ((impl_MatchOf.f k bt121.1 bt121.2.1 bt121.2.2 bt127.1 bt127.2.1 bt127.2.2 bt133.1 bt133.2).bind fun bt135 => (if bt135.1 = bt118.1 then (if bt135.2.1 = bt118.2.1 then (laws_FnExactMatchOf.j0 k (bt135.2.2 != bt118.2.2) a0_0 a0_1 l0_2 a1_0 a1_1 l1_2 bt121.1 bt121.2.1 bt121.2.2 bt127.1 bt127.2.1 bt127.2.2) else (laws_FnExactMatchOf.j0 k true a0_0 a0_1 l0_2 a1_0 a1_1 l1_2 bt121.1 bt121.2.1 bt121.2.2 bt127.1 bt127.2.1 bt127.2.2)) else (laws_FnExactMatchOf.j0 k true a0_0 a0_1 l0_2 a1_0 a1_1 l1_2 bt121.1 bt121.2.1 bt121.2.2 bt127.1 bt127.2.1 bt127.2.2)))))))))))))) = some r := h
 clear h
 replace H := Option.bind_eq_some_iff.mp H
 obtain ⟨t104, A40, H⟩ := H
 replace H : (if t104 < 0 then (some true) else ((laws_szField.f a1_0 a1_1 l1_2 t104).bind fun t105 => (if t105 < 0 then (some true) else ((laws_toField.f k a0_0 a0_1 l0_2).bind fun bt106 => ((laws_toField.f k a1_0 a1_1 l1_2).bind fun bt111 => ((laws_toMotion.f a2_0 a2_1).bind fun bt116 => ((spec_MatchOf.f k bt106.1 bt106.2.1 bt106.2.2 bt111.1 bt111.2.1 bt111.2.2 bt116.1 bt116.2).bind fun bt118 => ((laws_toField.f k a0_0 a0_1 l0_2).bind fun bt121 => ((laws_toField.f k a1_0 a1_1 l1_2).bind fun bt127 => ((laws_toMotion.f a2_0 a2_1).bind fun bt133 => ((impl_MatchOf.f k bt121.1 bt121.2.1 bt121.2.2 bt127.1 bt127.2.1 bt127.2.2 bt133.1 bt133.2).bind fun bt135 => (if bt135.1 = bt118.1 then (if bt135.2.1 = bt118.2.1 then (laws_FnExactMatchOf.j0 k (bt135.2.2 != bt118.2.2) a0_0 a0_1 l0_2 a1_0 a1_1 l1_2 bt121.1 bt121.2.1 bt121.2.2 bt127.1 bt127.2.1 bt127.2.2) else (laws_FnExactMatchOf.j0 k true a0_0 a0_1 l0_2 a1_0 a1_1 l1_2 bt121.1 bt121.2.1 bt121.2.2 bt127.1 bt127.2.1 bt127.2.2)) else (laws_FnExactMatchOf.j0 k true a0_0 a0_1 l0_2 a1_0 a1_1 l1_2 bt121.1 bt121.2.1 bt121.2.2 bt127.1 bt127.2.1 bt127.2.2))))))))))))) = some r := H
 have A4 := Aside0.mk A40
 clear A40
 by_cases c5 : t104 < 0
 ·
  rw [if_pos c5] at H
  have c5b0 : decide (t104 < 0) = true := decide_eq_true c5
  clear c5
  obtain rfl := Option.some.inj H
  go_enter Try.func8, Try.ntmps8
  go_wp2_with (first | ((with_reducible refine gate_dst (N := 3) rfl ?_); refine box_event ?hg (N := 3) ?hd (cs := #[.int .i64 a0_0, .int .i64 a0_1, .slice A0_2 l0_2.length c0_2]) (t := 38) ?hr ?_; (case hd => rfl); (case hg => rfl); (case hr => first | (go_simp; done) | (go_simp; rfl)); intro gb101 hg w6 hbox hb; have BK101 := aK (hbox); have GW101 := aK (gE hg (pS HB.out)); have GE101 := aK (gE hg (pS HB.out)); replace HB := bS HB hb; clear hb hbox hg) | ((with_reducible refine gate_dst (N := 4) rfl ?_); refine box_event ?hg (N := 4) ?hd (cs := #[.int .i64 a1_0, .int .i64 a1_1, .slice A1_2 l1_2.length c1_2]) (t := 38) ?hr ?_; (case hd => rfl); (case hg => rfl); (case hr => first | (go_simp; done) | (go_simp; rfl)); intro gb102 hg w7 hbox hb; have BK102 := aK (hbox); have GW102 := aK (gE hg (pS HB.out)); have GE102 := aK (gE hg (pS HB.out)); have NB101_102 := aK (nL hg (pB BK101.out)); have NB102_101 := aK (nG hg (pB BK101.out)); replace BK101 := bB BK101 hb; replace HB := bS HB hb; clear hb hbox hg) | ((with_reducible refine gate_dst (N := 5) rfl ?_); refine box_event ?hg (N := 5) ?hd (cs := #[.int .i64 a2_0, .int .i64 a2_1]) (t := 40) ?hr ?_; (case hd => rfl); (case hg => rfl); (case hr => first | (go_simp; done) | (go_simp; rfl)); intro gb103 hg w8 hbox hb; have BK103 := aK (hbox); have GW103 := aK (gE hg (pS HB.out)); have GE103 := aK (gE hg (pS HB.out)); have NB101_103 := aK (nL hg (pB BK101.out)); have NB103_101 := aK (nG hg (pB BK101.out)); replace BK101 := bB BK101 hb; replace HB := bS HB hb; clear hb hbox hg; have hcz9_0 : w8.cell? ⟨gb101, 0, none⟩ = some (.int .i64 a0_0) := (blk_cell BK101.out 0).trans rfl; have hcz9_1 : w8.cell? ⟨gb101, 1, none⟩ = some (.int .i64 a0_1) := (blk_cell BK101.out 1).trans rfl; have hcz9_2 : w8.cell? ⟨gb101, 2, none⟩ = some (.slice A0_2 l0_2.length c0_2) := (blk_cell BK101.out 2).trans rfl; have hfz9_0 := blk_frozen BK101.out 0; have hfz9_1 := blk_frozen BK101.out 1; have hfz9_2 := blk_frozen BK101.out 2) | ((with_reducible refine gate_callee (f := 26) rfl ?_); refine goesL_ (some 18) rfl rfl Try.func26 (by kernel_rfl) rfl #[.agg #[.int .i64 a0_0, .int .i64 a0_1, .slice A0_2 l0_2.length c0_2], .int .i64 1048576] rfl (by (try simp only [List.map_toArray, List.map_cons, List.map_nil]); first | done | rfl | (simp only [List.length_drop, List.length_take]; rfl)) ?_; (with_reducible refine (laws_szField.calls a0_0 a0_1 _ _ l0_2 1048576 t104 _ ?side1 ?side2 A4.out).mono ?_); (case side1 => repeat (first | exact (Kd.C_below HR0_2.out HB.out) | (with_reducible refine Kd.C_alloc ?_ _) | (with_reducible refine Kd.C_drewN ?_ _) | (with_reducible refine Kd.C_drew ?_))); (case side2 => exact HC0_2.out); rintro e w10 ⟨rfl, hb⟩; refine ⟨_, rfl, ?_⟩; replace HB := bS HB hb; (try clear hb); (try clear hb2); (try clear hk); (try clear hi)))
  go_ret
  exact ⟨by first | rfl | (simp [errW_none, errW_some] <;> rfl) | (simp [*, errW_none, errW_some] <;> rfl), by repeat (first | (with_reducible first | exact HB.out | apply below_alloc | apply pw_below_drewN | apply below_drew1) | exact HB.out)⟩
 ·
  rw [if_neg c5] at H
  have c5b0 : decide (t104 < 0) = false := decide_eq_false c5
  clear c5
  replace H := Option.bind_eq_some_iff.mp H
  obtain ⟨t105, A110, H⟩ := H
  replace H : (if t105 < 0 then (some true) else ((laws_toField.f k a0_0 a0_1 l0_2).bind fun bt106 => ((laws_toField.f k a1_0 a1_1 l1_2).bind fun bt111 => ((laws_toMotion.f a2_0 a2_1).bind fun bt116 => ((spec_MatchOf.f k bt106.1 bt106.2.1 bt106.2.2 bt111.1 bt111.2.1 bt111.2.2 bt116.1 bt116.2).bind fun bt118 => ((laws_toField.f k a0_0 a0_1 l0_2).bind fun bt121 => ((laws_toField.f k a1_0 a1_1 l1_2).bind fun bt127 => ((laws_toMotion.f a2_0 a2_1).bind fun bt133 => ((impl_MatchOf.f k bt121.1 bt121.2.1 bt121.2.2 bt127.1 bt127.2.1 bt127.2.2 bt133.1 bt133.2).bind fun bt135 => (if bt135.1 = bt118.1 then (if bt135.2.1 = bt118.2.1 then (laws_FnExactMatchOf.j0 k (bt135.2.2 != bt118.2.2) a0_0 a0_1 l0_2 a1_0 a1_1 l1_2 bt121.1 bt121.2.1 bt121.2.2 bt127.1 bt127.2.1 bt127.2.2) else (laws_FnExactMatchOf.j0 k true a0_0 a0_1 l0_2 a1_0 a1_1 l1_2 bt121.1 bt121.2.1 bt121.2.2 bt127.1 bt127.2.1 bt127.2.2)) else (laws_FnExactMatchOf.j0 k true a0_0 a0_1 l0_2 a1_0 a1_1 l1_2 bt121.1 bt121.2.1 bt121.2.2 bt127.1 bt127.2.1 bt127.2.2))))))))))) = some r := H
  have A11 := Aside0.mk A110
  clear A110
  by_cases c12 : t105 < 0
  ·
   rw [if_pos c12] at H
   have c12b0 : decide (t105 < 0) = true := decide_eq_true c12
   clear c12
   obtain rfl := Option.some.inj H
   go_enter Try.func8, Try.ntmps8
   go_wp2_with (first | ((with_reducible refine gate_dst (N := 3) rfl ?_); refine box_event ?hg (N := 3) ?hd (cs := #[.int .i64 a0_0, .int .i64 a0_1, .slice A0_2 l0_2.length c0_2]) (t := 38) ?hr ?_; (case hd => rfl); (case hg => rfl); (case hr => first | (go_simp; done) | (go_simp; rfl)); intro gb101 hg w13 hbox hb; have BK101 := aK (hbox); have GW101 := aK (gE hg (pS HB.out)); have GE101 := aK (gE hg (pS HB.out)); replace HB := bS HB hb; clear hb hbox hg) | ((with_reducible refine gate_dst (N := 4) rfl ?_); refine box_event ?hg (N := 4) ?hd (cs := #[.int .i64 a1_0, .int .i64 a1_1, .slice A1_2 l1_2.length c1_2]) (t := 38) ?hr ?_; (case hd => rfl); (case hg => rfl); (case hr => first | (go_simp; done) | (go_simp; rfl)); intro gb102 hg w14 hbox hb; have BK102 := aK (hbox); have GW102 := aK (gE hg (pS HB.out)); have GE102 := aK (gE hg (pS HB.out)); have NB101_102 := aK (nL hg (pB BK101.out)); have NB102_101 := aK (nG hg (pB BK101.out)); replace BK101 := bB BK101 hb; replace HB := bS HB hb; clear hb hbox hg) | ((with_reducible refine gate_dst (N := 5) rfl ?_); refine box_event ?hg (N := 5) ?hd (cs := #[.int .i64 a2_0, .int .i64 a2_1]) (t := 40) ?hr ?_; (case hd => rfl); (case hg => rfl); (case hr => first | (go_simp; done) | (go_simp; rfl)); intro gb103 hg w15 hbox hb; have BK103 := aK (hbox); have GW103 := aK (gE hg (pS HB.out)); have GE103 := aK (gE hg (pS HB.out)); have NB101_103 := aK (nL hg (pB BK101.out)); have NB103_101 := aK (nG hg (pB BK101.out)); have NB102_103 := aK (nL hg (pB BK102.out)); have NB103_102 := aK (nG hg (pB BK102.out)); replace BK101 := bB BK101 hb; replace BK102 := bB BK102 hb; replace HB := bS HB hb; clear hb hbox hg; have hnb16 := NB101_102.out; have hnc16 := NB102_101.out; have hcz17_0 : w15.cell? ⟨gb101, 0, none⟩ = some (.int .i64 a0_0) := (blk_cell BK101.out 0).trans rfl; have hcz17_1 : w15.cell? ⟨gb101, 1, none⟩ = some (.int .i64 a0_1) := (blk_cell BK101.out 1).trans rfl; have hcz17_2 : w15.cell? ⟨gb101, 2, none⟩ = some (.slice A0_2 l0_2.length c0_2) := (blk_cell BK101.out 2).trans rfl; have hfz17_0 := blk_frozen BK101.out 0; have hfz17_1 := blk_frozen BK101.out 1; have hfz17_2 := blk_frozen BK101.out 2) | ((with_reducible refine gate_callee (f := 26) rfl ?_); refine goesL_ (some 18) rfl rfl Try.func26 (by kernel_rfl) rfl #[.agg #[.int .i64 a0_0, .int .i64 a0_1, .slice A0_2 l0_2.length c0_2], .int .i64 1048576] rfl (by (try simp only [List.map_toArray, List.map_cons, List.map_nil]); first | done | rfl | (simp only [List.length_drop, List.length_take]; rfl)) ?_; (with_reducible refine (laws_szField.calls a0_0 a0_1 _ _ l0_2 1048576 t104 _ ?side1 ?side2 A4.out).mono ?_); (case side1 => repeat (first | exact (Kd.C_below HR0_2.out HB.out) | (with_reducible refine Kd.C_alloc ?_ _) | (with_reducible refine Kd.C_drewN ?_ _) | (with_reducible refine Kd.C_drew ?_))); (case side2 => exact HC0_2.out); rintro e w18 ⟨rfl, hb⟩; refine ⟨_, rfl, ?_⟩; replace BK102 := bB BK102 hb; replace HB := bS HB hb; (try clear hb); (try clear hb2); (try clear hk); (try clear hi); have hcz19_0 : w18.cell? ⟨gb102, 0, none⟩ = some (.int .i64 a1_0) := (blk_cell BK102.out 0).trans rfl; have hcz19_1 : w18.cell? ⟨gb102, 1, none⟩ = some (.int .i64 a1_1) := (blk_cell BK102.out 1).trans rfl; have hcz19_2 : w18.cell? ⟨gb102, 2, none⟩ = some (.slice A1_2 l1_2.length c1_2) := (blk_cell BK102.out 2).trans rfl; have hfz19_0 := blk_frozen BK102.out 0; have hfz19_1 := blk_frozen BK102.out 1; have hfz19_2 := blk_frozen BK102.out 2) | ((with_reducible refine gate_callee (f := 26) rfl ?_); refine goesL_ (some 23) rfl rfl Try.func26 (by kernel_rfl) rfl #[.agg #[.int .i64 a1_0, .int .i64 a1_1, .slice A1_2 l1_2.length c1_2], .int .i64 t104] rfl (by (try simp only [List.map_toArray, List.map_cons, List.map_nil]); first | done | rfl | (simp only [List.length_drop, List.length_take]; rfl)) ?_; (with_reducible refine (laws_szField.calls a1_0 a1_1 _ _ l1_2 t104 t105 _ ?side1 ?side2 A11.out).mono ?_); (case side1 => repeat (first | exact (Kd.C_below HR1_2.out HB.out) | (with_reducible refine Kd.C_alloc ?_ _) | (with_reducible refine Kd.C_drewN ?_ _) | (with_reducible refine Kd.C_drew ?_))); (case side2 => exact HC1_2.out); rintro e w20 ⟨rfl, hb⟩; refine ⟨_, rfl, ?_⟩; replace HB := bS HB hb; (try clear hb); (try clear hb2); (try clear hk); (try clear hi)))
   go_ret
   exact ⟨by first | rfl | (simp [errW_none, errW_some] <;> rfl) | (simp [*, errW_none, errW_some] <;> rfl), by repeat (first | (with_reducible first | exact HB.out | apply below_alloc | apply pw_below_drewN | apply below_drew1) | exact HB.out)⟩
  ·
   rw [if_neg c12] at H
   have c12b0 : decide (t105 < 0) = false := decide_eq_false c12
   clear c12
   replace H := Option.bind_eq_some_iff.mp H
   obtain ⟨⟨t106, t107, t108⟩, A210, H⟩ := H
   replace H : ((laws_toField.f k a1_0 a1_1 l1_2).bind fun bt111 => ((laws_toMotion.f a2_0 a2_1).bind fun bt116 => ((spec_MatchOf.f k t106 t107 t108 bt111.1 bt111.2.1 bt111.2.2 bt116.1 bt116.2).bind fun bt118 => ((laws_toField.f k a0_0 a0_1 l0_2).bind fun bt121 => ((laws_toField.f k a1_0 a1_1 l1_2).bind fun bt127 => ((laws_toMotion.f a2_0 a2_1).bind fun bt133 => ((impl_MatchOf.f k bt121.1 bt121.2.1 bt121.2.2 bt127.1 bt127.2.1 bt127.2.2 bt133.1 bt133.2).bind fun bt135 => (if bt135.1 = bt118.1 then (if bt135.2.1 = bt118.2.1 then (laws_FnExactMatchOf.j0 k (bt135.2.2 != bt118.2.2) a0_0 a0_1 l0_2 a1_0 a1_1 l1_2 bt121.1 bt121.2.1 bt121.2.2 bt127.1 bt127.2.1 bt127.2.2) else (laws_FnExactMatchOf.j0 k true a0_0 a0_1 l0_2 a1_0 a1_1 l1_2 bt121.1 bt121.2.1 bt121.2.2 bt127.1 bt127.2.1 bt127.2.2)) else (laws_FnExactMatchOf.j0 k true a0_0 a0_1 l0_2 a1_0 a1_1 l1_2 bt121.1 bt121.2.1 bt121.2.2 bt127.1 bt127.2.1 bt127.2.2))))))))) = some r := H
   have A21 := Aside0.mk A210
   clear A210
   replace H := Option.bind_eq_some_iff.mp H
   obtain ⟨⟨t111, t112, t113⟩, A220, H⟩ := H
   replace H : ((laws_toMotion.f a2_0 a2_1).bind fun bt116 => ((spec_MatchOf.f k t106 t107 t108 t111 t112 t113 bt116.1 bt116.2).bind fun bt118 => ((laws_toField.f k a0_0 a0_1 l0_2).bind fun bt121 => ((laws_toField.f k a1_0 a1_1 l1_2).bind fun bt127 => ((laws_toMotion.f a2_0 a2_1).bind fun bt133 => ((impl_MatchOf.f k bt121.1 bt121.2.1 bt121.2.2 bt127.1 bt127.2.1 bt127.2.2 bt133.1 bt133.2).bind fun bt135 => (if bt135.1 = bt118.1 then (if bt135.2.1 = bt118.2.1 then (laws_FnExactMatchOf.j0 k (bt135.2.2 != bt118.2.2) a0_0 a0_1 l0_2 a1_0 a1_1 l1_2 bt121.1 bt121.2.1 bt121.2.2 bt127.1 bt127.2.1 bt127.2.2) else (laws_FnExactMatchOf.j0 k true a0_0 a0_1 l0_2 a1_0 a1_1 l1_2 bt121.1 bt121.2.1 bt121.2.2 bt127.1 bt127.2.1 bt127.2.2)) else (laws_FnExactMatchOf.j0 k true a0_0 a0_1 l0_2 a1_0 a1_1 l1_2 bt121.1 bt121.2.1 bt121.2.2 bt127.1 bt127.2.1 bt127.2.2)))))))) = some r := H
   have A22 := Aside0.mk A220
   clear A220
   replace H := Option.bind_eq_some_iff.mp H
   obtain ⟨⟨t116, t117⟩, A230, H⟩ := H
   replace H : ((spec_MatchOf.f k t106 t107 t108 t111 t112 t113 t116 t117).bind fun bt118 => ((laws_toField.f k a0_0 a0_1 l0_2).bind fun bt121 => ((laws_toField.f k a1_0 a1_1 l1_2).bind fun bt127 => ((laws_toMotion.f a2_0 a2_1).bind fun bt133 => ((impl_MatchOf.f k bt121.1 bt121.2.1 bt121.2.2 bt127.1 bt127.2.1 bt127.2.2 bt133.1 bt133.2).bind fun bt135 => (if bt135.1 = bt118.1 then (if bt135.2.1 = bt118.2.1 then (laws_FnExactMatchOf.j0 k (bt135.2.2 != bt118.2.2) a0_0 a0_1 l0_2 a1_0 a1_1 l1_2 bt121.1 bt121.2.1 bt121.2.2 bt127.1 bt127.2.1 bt127.2.2) else (laws_FnExactMatchOf.j0 k true a0_0 a0_1 l0_2 a1_0 a1_1 l1_2 bt121.1 bt121.2.1 bt121.2.2 bt127.1 bt127.2.1 bt127.2.2)) else (laws_FnExactMatchOf.j0 k true a0_0 a0_1 l0_2 a1_0 a1_1 l1_2 bt121.1 bt121.2.1 bt121.2.2 bt127.1 bt127.2.1 bt127.2.2))))))) = some r := H
   have A23 := Aside0.mk A230
   clear A230
   replace H := Option.bind_eq_some_iff.mp H
   obtain ⟨⟨t118, t119, t120⟩, A240, H⟩ := H
   replace H : ((laws_toField.f k a0_0 a0_1 l0_2).bind fun bt121 => ((laws_toField.f k a1_0 a1_1 l1_2).bind fun bt127 => ((laws_toMotion.f a2_0 a2_1).bind fun bt133 => ((impl_MatchOf.f k bt121.1 bt121.2.1 bt121.2.2 bt127.1 bt127.2.1 bt127.2.2 bt133.1 bt133.2).bind fun bt135 => (if bt135.1 = t118 then (if bt135.2.1 = t119 then (laws_FnExactMatchOf.j0 k (bt135.2.2 != t120) a0_0 a0_1 l0_2 a1_0 a1_1 l1_2 bt121.1 bt121.2.1 bt121.2.2 bt127.1 bt127.2.1 bt127.2.2) else (laws_FnExactMatchOf.j0 k true a0_0 a0_1 l0_2 a1_0 a1_1 l1_2 bt121.1 bt121.2.1 bt121.2.2 bt127.1 bt127.2.1 bt127.2.2)) else (laws_FnExactMatchOf.j0 k true a0_0 a0_1 l0_2 a1_0 a1_1 l1_2 bt121.1 bt121.2.1 bt121.2.2 bt127.1 bt127.2.1 bt127.2.2)))))) = some r := H
   have A24 := Aside0.mk A240
   clear A240
   replace H := Option.bind_eq_some_iff.mp H
   obtain ⟨⟨t121, t122, t123⟩, A250, H⟩ := H
   replace H : ((laws_toField.f k a1_0 a1_1 l1_2).bind fun bt127 => ((laws_toMotion.f a2_0 a2_1).bind fun bt133 => ((impl_MatchOf.f k t121 t122 t123 bt127.1 bt127.2.1 bt127.2.2 bt133.1 bt133.2).bind fun bt135 => (if bt135.1 = t118 then (if bt135.2.1 = t119 then (laws_FnExactMatchOf.j0 k (bt135.2.2 != t120) a0_0 a0_1 l0_2 a1_0 a1_1 l1_2 t121 t122 t123 bt127.1 bt127.2.1 bt127.2.2) else (laws_FnExactMatchOf.j0 k true a0_0 a0_1 l0_2 a1_0 a1_1 l1_2 t121 t122 t123 bt127.1 bt127.2.1 bt127.2.2)) else (laws_FnExactMatchOf.j0 k true a0_0 a0_1 l0_2 a1_0 a1_1 l1_2 t121 t122 t123 bt127.1 bt127.2.1 bt127.2.2))))) = some r := H
   have A25 := Aside0.mk A250
   clear A250
   replace H := Option.bind_eq_some_iff.mp H
   obtain ⟨⟨t127, t128, t129⟩, A260, H⟩ := H
   replace H : ((laws_toMotion.f a2_0 a2_1).bind fun bt133 => ((impl_MatchOf.f k t121 t122 t123 t127 t128 t129 bt133.1 bt133.2).bind fun bt135 => (if bt135.1 = t118 then (if bt135.2.1 = t119 then (laws_FnExactMatchOf.j0 k (bt135.2.2 != t120) a0_0 a0_1 l0_2 a1_0 a1_1 l1_2 t121 t122 t123 t127 t128 t129) else (laws_FnExactMatchOf.j0 k true a0_0 a0_1 l0_2 a1_0 a1_1 l1_2 t121 t122 t123 t127 t128 t129)) else (laws_FnExactMatchOf.j0 k true a0_0 a0_1 l0_2 a1_0 a1_1 l1_2 t121 t122 t123 t127 t128 t129)))) = some r := H
   have A26 := Aside0.mk A260
   clear A260
   replace H := Option.bind_eq_some_iff.mp H
   obtain ⟨⟨t133, t134⟩, A270, H⟩ := H
   replace H : ((impl_MatchOf.f k t121 t122 t123 t127 t128 t129 t133 t134).bind fun bt135 => (if bt135.1 = t118 then (if bt135.2.1 = t119 then (laws_FnExactMatchOf.j0 k (bt135.2.2 != t120) a0_0 a0_1 l0_2 a1_0 a1_1 l1_2 t121 t122 t123 t127 t128 t129) else (laws_FnExactMatchOf.j0 k true a0_0 a0_1 l0_2 a1_0 a1_1 l1_2 t121 t122 t123 t127 t128 t129)) else (laws_FnExactMatchOf.j0 k true a0_0 a0_1 l0_2 a1_0 a1_1 l1_2 t121 t122 t123 t127 t128 t129))) = some r := H
   have A27 := Aside0.mk A270
   clear A270
   replace H := Option.bind_eq_some_iff.mp H
   obtain ⟨⟨t135, t136, t137⟩, A280, H⟩ := H
   replace H : (if t135 = t118 then (if t136 = t119 then (laws_FnExactMatchOf.j0 k (t137 != t120) a0_0 a0_1 l0_2 a1_0 a1_1 l1_2 t121 t122 t123 t127 t128 t129) else (laws_FnExactMatchOf.j0 k true a0_0 a0_1 l0_2 a1_0 a1_1 l1_2 t121 t122 t123 t127 t128 t129)) else (laws_FnExactMatchOf.j0 k true a0_0 a0_1 l0_2 a1_0 a1_1 l1_2 t121 t122 t123 t127 t128 t129)) = some r := H
   have A28 := Aside0.mk A280
   clear A280
   have HC29 := Aside0.mk H
   clear H
   go_enter Try.func8, Try.ntmps8
   try go_wp2_with (first | ((with_reducible refine gate_dst (N := 3) rfl ?_); refine box_event ?hg (N := 3) ?hd (cs := #[.int .i64 a0_0, .int .i64 a0_1, .slice A0_2 l0_2.length c0_2]) (t := 38) ?hr ?_; (case hd => rfl); (case hg => rfl); (case hr => first | (go_simp; done) | (go_simp; rfl)); intro gb101 hg w30 hbox hb; have BK101 := aK (hbox); have GW101 := aK (gE hg (pS HB.out)); have GE101 := aK (gE hg (pS HB.out)); replace HB := bS HB hb; clear hb hbox hg) | ((with_reducible refine gate_dst (N := 4) rfl ?_); refine box_event ?hg (N := 4) ?hd (cs := #[.int .i64 a1_0, .int .i64 a1_1, .slice A1_2 l1_2.length c1_2]) (t := 38) ?hr ?_; (case hd => rfl); (case hg => rfl); (case hr => first | (go_simp; done) | (go_simp; rfl)); intro gb102 hg w31 hbox hb; have BK102 := aK (hbox); have GW102 := aK (gE hg (pS HB.out)); have GE102 := aK (gE hg (pS HB.out)); have NB101_102 := aK (nL hg (pB BK101.out)); have NB102_101 := aK (nG hg (pB BK101.out)); replace BK101 := bB BK101 hb; replace HB := bS HB hb; clear hb hbox hg) | ((with_reducible refine gate_dst (N := 5) rfl ?_); refine box_event ?hg (N := 5) ?hd (cs := #[.int .i64 a2_0, .int .i64 a2_1]) (t := 40) ?hr ?_; (case hd => rfl); (case hg => rfl); (case hr => first | (go_simp; done) | (go_simp; rfl)); intro gb103 hg w32 hbox hb; have BK103 := aK (hbox); have GW103 := aK (gE hg (pS HB.out)); have GE103 := aK (gE hg (pS HB.out)); have NB101_103 := aK (nL hg (pB BK101.out)); have NB103_101 := aK (nG hg (pB BK101.out)); have NB102_103 := aK (nL hg (pB BK102.out)); have NB103_102 := aK (nG hg (pB BK102.out)); replace BK101 := bB BK101 hb; replace BK102 := bB BK102 hb; replace HB := bS HB hb; clear hb hbox hg; have hnb33 := NB101_102.out; have hnc33 := NB102_101.out; have hnb34 := NB101_103.out; have hnc34 := NB103_101.out; have hcz35_0 : w32.cell? ⟨gb101, 0, none⟩ = some (.int .i64 a0_0) := (blk_cell BK101.out 0).trans rfl; have hcz35_1 : w32.cell? ⟨gb101, 1, none⟩ = some (.int .i64 a0_1) := (blk_cell BK101.out 1).trans rfl; have hcz35_2 : w32.cell? ⟨gb101, 2, none⟩ = some (.slice A0_2 l0_2.length c0_2) := (blk_cell BK101.out 2).trans rfl; have hfz35_0 := blk_frozen BK101.out 0; have hfz35_1 := blk_frozen BK101.out 1; have hfz35_2 := blk_frozen BK101.out 2) | ((with_reducible refine gate_callee (f := 26) rfl ?_); refine goesL_ (some 18) rfl rfl Try.func26 (by kernel_rfl) rfl #[.agg #[.int .i64 a0_0, .int .i64 a0_1, .slice A0_2 l0_2.length c0_2], .int .i64 1048576] rfl (by (try simp only [List.map_toArray, List.map_cons, List.map_nil]); first | done | rfl | (simp only [List.length_drop, List.length_take]; rfl)) ?_; (with_reducible refine (laws_szField.calls a0_0 a0_1 _ _ l0_2 1048576 t104 _ ?side1 ?side2 A4.out).mono ?_); (case side1 => repeat (first | exact (Kd.C_below HR0_2.out HB.out) | (with_reducible refine Kd.C_alloc ?_ _) | (with_reducible refine Kd.C_drewN ?_ _) | (with_reducible refine Kd.C_drew ?_))); (case side2 => exact HC0_2.out); rintro e w36 ⟨rfl, hb⟩; refine ⟨_, rfl, ?_⟩; replace BK101 := bB BK101 hb; replace BK102 := bB BK102 hb; replace BK103 := bB BK103 hb; replace HB := bS HB hb; (try clear hb); (try clear hb2); (try clear hk); (try clear hi); have hnb37 := NB102_103.out; have hnc37 := NB103_102.out; have hcz38_0 : w36.cell? ⟨gb102, 0, none⟩ = some (.int .i64 a1_0) := (blk_cell BK102.out 0).trans rfl; have hcz38_1 : w36.cell? ⟨gb102, 1, none⟩ = some (.int .i64 a1_1) := (blk_cell BK102.out 1).trans rfl; have hcz38_2 : w36.cell? ⟨gb102, 2, none⟩ = some (.slice A1_2 l1_2.length c1_2) := (blk_cell BK102.out 2).trans rfl; have hfz38_0 := blk_frozen BK102.out 0; have hfz38_1 := blk_frozen BK102.out 1; have hfz38_2 := blk_frozen BK102.out 2) | ((with_reducible refine gate_callee (f := 26) rfl ?_); refine goesL_ (some 23) rfl rfl Try.func26 (by kernel_rfl) rfl #[.agg #[.int .i64 a1_0, .int .i64 a1_1, .slice A1_2 l1_2.length c1_2], .int .i64 t104] rfl (by (try simp only [List.map_toArray, List.map_cons, List.map_nil]); first | done | rfl | (simp only [List.length_drop, List.length_take]; rfl)) ?_; (with_reducible refine (laws_szField.calls a1_0 a1_1 _ _ l1_2 t104 t105 _ ?side1 ?side2 A11.out).mono ?_); (case side1 => repeat (first | exact (Kd.C_below HR1_2.out HB.out) | (with_reducible refine Kd.C_alloc ?_ _) | (with_reducible refine Kd.C_drewN ?_ _) | (with_reducible refine Kd.C_drew ?_))); (case side2 => exact HC1_2.out); rintro e w39 ⟨rfl, hb⟩; refine ⟨_, rfl, ?_⟩; replace BK101 := bB BK101 hb; replace BK102 := bB BK102 hb; replace BK103 := bB BK103 hb; replace HB := bS HB hb; (try clear hb); (try clear hb2); (try clear hk); (try clear hi)))
   have n0_ := aK (blk_drew BK101.out)
   have n1_ := aK (blk_drew BK102.out)
   have n2_ := aK (blk_drew BK103.out)
   have n3_ := aK (below_drew1 HB.out)
   clear BK101 BK102 BK103 HB
   have BK101 := n0_
   have BK102 := n1_
   have BK103 := n2_
   have HB := n3_
   clear n0_ n1_ n2_ n3_
   refine start_ (n := 14) (S := fun w' => w'.cell? ⟨gb101, 0, none⟩ = some (.int .i64 a0_0) ∧ w'.cell? ⟨gb101, 1, none⟩ = some (.int .i64 a0_1) ∧ w'.cell? ⟨gb101, 2, none⟩ = some (.slice A0_2 l0_2.length c0_2) ∧ w'.cell? ⟨gb102, 0, none⟩ = some (.int .i64 a1_0) ∧ w'.cell? ⟨gb102, 1, none⟩ = some (.int .i64 a1_1) ∧ w'.cell? ⟨gb102, 2, none⟩ = some (.slice A1_2 l1_2.length c1_2) ∧ w'.cell? ⟨gb103, 0, none⟩ = some (.int .i64 a2_0) ∧ w'.cell? ⟨gb103, 1, none⟩ = some (.int .i64 a2_1)) (ds := []) #[false, false, false, false, false, false, false, false, false, false, false, false, false, false] (by kernel_rfl) rfl rfl ⟨(blk_cell BK101.out 0).trans rfl, (blk_cell BK101.out 1).trans rfl, (blk_cell BK101.out 2).trans rfl, (blk_cell BK102.out 0).trans rfl, (blk_cell BK102.out 1).trans rfl, (blk_cell BK102.out 2).trans rfl, (blk_cell BK103.out 0).trans rfl, (blk_cell BK103.out 1).trans rfl⟩ (fun hHeld => ?_); refine with_tabW laws_FnExactMatchOf.tab8 laws_FnExactMatchOf.bits8 (fun HT_ HW_ => ?_)
   generalize w39.drew = w40 at BK101 BK102 BK103 HB hHeld ⊢
   refine take_ (i := 0) (N := some 27) (v := ?_) (a' := ?_) #[true, false, false, false, false, false, false, false, false, false, false, false, false, false] rfl rfl (take_ofW HT_.out HW_.out (by kernel_rfl)) (fun _ _ _ h => h) (Or.inl ⟨by rfl, ?_⟩) hHeld ?_ ?_
   rotate_left
   ·
    rintro w' ⟨s0, s1, s2, s3, s4, s5, s6, s7⟩
    go_simp
    with_reducible rfl
   rotate_left
   ·
    simp only [Act.put, List.setIfInBounds_toArray, List.set_cons_zero, List.set_cons_succ, i64_w, i32_w]
    rfl
   refine take_ (i := 2) (N := some 29) (v := ?_) (a' := ?_) #[true, false, true, false, false, false, false, false, false, false, false, false, false, false] rfl rfl (take_ofW HT_.out HW_.out (by kernel_rfl)) (fun _ _ _ h => h) (Or.inl ⟨by rfl, ?_⟩) hHeld ?_ ?_
   rotate_left
   ·
    rintro w' ⟨s0, s1, s2, s3, s4, s5, s6, s7⟩
    go_simp
    with_reducible rfl
   rotate_left
   ·
    simp only [Act.put, List.setIfInBounds_toArray, List.set_cons_zero, List.set_cons_succ, i64_w, i32_w]
    rfl
   refine take_ (i := 4) (N := some 31) (v := ?_) (a' := ?_) #[true, false, true, false, true, false, false, false, false, false, false, false, false, false] rfl rfl (take_ofW HT_.out HW_.out (by kernel_rfl)) (fun _ _ _ h => h) (Or.inl ⟨by rfl, ?_⟩) hHeld ?_ ?_
   rotate_left
   ·
    rintro w' ⟨s0, s1, s2, s3, s4, s5, s6, s7⟩
    go_simp
    with_reducible rfl
   rotate_left
   ·
    simp only [Act.put, List.setIfInBounds_toArray, List.set_cons_zero, List.set_cons_succ, i64_w, i32_w]
    rfl
   refine one_ (i := 1) (N := some 28) #[true, true, true, false, true, false, false, false, false, false, false, false, false, false] rfl rfl (one_of HT_.out (by kernel_rfl)) (by decide) (fun K hK => ?_)
   refine goes_ Try.func28 (by kernel_rfl) rfl #[.agg #[.int .i64 a0_0, .int .i64 a0_1, .slice A0_2 l0_2.length c0_2]] (by rfl) rfl rfl (by (try simp only [List.map_toArray, List.map_cons, List.map_nil]); first | done | rfl | (simp only [List.length_drop, List.length_take]; rfl)) ?_
   with_reducible refine (laws_toField.calls k a0_0 a0_1 _ _ l0_2 t106 t107 t108 _ ?side1 ?side2 A21.out).mono ?_
   (case side1 => repeat (first | exact (Kd.C_below HR0_2.out HB.out) | (with_reducible refine Kd.C_alloc ?_ _) | (with_reducible refine Kd.C_drewN ?_ _) | (with_reducible refine Kd.C_drew ?_)))
   (case side2 => exact HC0_2.out)
   rintro e w41 ⟨v109, rfl, ho0, hb⟩
   refine ⟨_, rfl, ?_⟩
   have HO110 := aK (Kd.R_lower ho0 (below_size (pS HB.out)))
   replace BK101 := bB BK101 hb
   replace BK102 := bB BK102 hb
   replace BK103 := bB BK103 hb
   replace HB := bS HB hb
   (try clear hb)
   (try clear hb2)
   (try clear hk)
   (try clear hi)
   (try clear ho0)
   refine hK.out _ _ ⟨(blk_cell BK101.out 0).trans rfl, (blk_cell BK101.out 1).trans rfl, (blk_cell BK101.out 2).trans rfl, (blk_cell BK102.out 0).trans rfl, (blk_cell BK102.out 1).trans rfl, (blk_cell BK102.out 2).trans rfl, (blk_cell BK103.out 0).trans rfl, (blk_cell BK103.out 1).trans rfl⟩ (fun hHeld => ?_)
   clear hK K
   refine norm_ (a' := ?_) ?_ ?_
   rotate_left
   ·
    show Act.put _ (some 28) _ = _
    simp only [Act.put, List.setIfInBounds_toArray, List.set_cons_zero, List.set_cons_succ, i64_w, i32_w]
    rfl
   refine one_ (i := 3) (N := some 30) #[true, true, true, true, true, false, false, false, false, false, false, false, false, false] rfl rfl (one_of HT_.out (by kernel_rfl)) (by decide) (fun K hK => ?_)
   refine goes_ Try.func28 (by kernel_rfl) rfl #[.agg #[.int .i64 a1_0, .int .i64 a1_1, .slice A1_2 l1_2.length c1_2]] (by rfl) rfl rfl (by (try simp only [List.map_toArray, List.map_cons, List.map_nil]); first | done | rfl | (simp only [List.length_drop, List.length_take]; rfl)) ?_
   with_reducible refine (laws_toField.calls k a1_0 a1_1 _ _ l1_2 t111 t112 t113 _ ?side1 ?side2 A22.out).mono ?_
   (case side1 => repeat (first | exact (Kd.C_below HR1_2.out HB.out) | (with_reducible refine Kd.C_alloc ?_ _) | (with_reducible refine Kd.C_drewN ?_ _) | (with_reducible refine Kd.C_drew ?_)))
   (case side2 => exact HC1_2.out)
   rintro e w42 ⟨v114, rfl, ho0, hb⟩
   refine ⟨_, rfl, ?_⟩
   have n0_ := aK (Kd.R_elder' (pR HO110.out) (Kd.R_base ho0) hb)
   have HO115 := aK (Kd.R_lower (Kd.R_new' ho0 (Kd.R_lt (pR HO110.out))) (below_size (pS HB.out)))
   replace BK101 := bB BK101 hb
   replace BK102 := bB BK102 hb
   replace BK103 := bB BK103 hb
   replace HB := bS HB hb
   clear HO110
   have HO110 := n0_
   clear n0_
   (try clear hb)
   (try clear hb2)
   (try clear hk)
   (try clear hi)
   (try clear ho0)
   refine hK.out _ _ ⟨(blk_cell BK101.out 0).trans rfl, (blk_cell BK101.out 1).trans rfl, (blk_cell BK101.out 2).trans rfl, (blk_cell BK102.out 0).trans rfl, (blk_cell BK102.out 1).trans rfl, (blk_cell BK102.out 2).trans rfl, (blk_cell BK103.out 0).trans rfl, (blk_cell BK103.out 1).trans rfl⟩ (fun hHeld => ?_)
   clear hK K
   refine norm_ (a' := ?_) ?_ ?_
   rotate_left
   ·
    show Act.put _ (some 30) _ = _
    simp only [Act.put, List.setIfInBounds_toArray, List.set_cons_zero, List.set_cons_succ, i64_w, i32_w]
    rfl
   refine one_ (i := 5) (N := some 32) #[true, true, true, true, true, true, false, false, false, false, false, false, false, false] rfl rfl (one_of HT_.out (by kernel_rfl)) (by decide) (fun K hK => ?_)
   refine goes_ Try.func29 (by kernel_rfl) rfl #[.agg #[.int .i64 a2_0, .int .i64 a2_1]] (by rfl) rfl rfl (by (try simp only [List.map_toArray, List.map_cons, List.map_nil]); first | done | rfl | (simp only [List.length_drop, List.length_take]; rfl)) ?_
   with_reducible refine (laws_toMotion.calls a2_0 a2_1 t116 t117 _ A23.out).mono ?_
   rintro e w43 ⟨rfl, hb⟩
   refine ⟨_, rfl, ?_⟩
   have n0_ := aK (Kd.R_below (pR HO110.out) hb)
   have n1_ := aK (Kd.R_below (pR HO115.out) hb)
   replace BK101 := bB BK101 hb
   replace BK102 := bB BK102 hb
   replace BK103 := bB BK103 hb
   replace HB := bS HB hb
   clear HO110 HO115
   have HO110 := n0_
   have HO115 := n1_
   clear n0_ n1_
   (try clear hb)
   (try clear hb2)
   (try clear hk)
   (try clear hi)
   obtain ⟨Ao44, co44, eo44⟩ := Kd.R_slice HO110.out
   (first | subst eo44 | (injection eo44 with f1_ f2_ f3_; have f4_ := f1_.symm; have f5_ := f3_.symm; clear f1_ f2_ f3_; subst f4_; subst f5_))
   obtain ⟨Ao45, co45, eo45⟩ := Kd.R_slice HO115.out
   (first | subst eo45 | (injection eo45 with f1_ f2_ f3_; have f4_ := f1_.symm; have f5_ := f3_.symm; clear f1_ f2_ f3_; subst f4_; subst f5_))
   refine hK.out _ _ ⟨(blk_cell BK101.out 0).trans rfl, (blk_cell BK101.out 1).trans rfl, (blk_cell BK101.out 2).trans rfl, (blk_cell BK102.out 0).trans rfl, (blk_cell BK102.out 1).trans rfl, (blk_cell BK102.out 2).trans rfl, (blk_cell BK103.out 0).trans rfl, (blk_cell BK103.out 1).trans rfl⟩ (fun hHeld => ?_)
   clear hK K
   refine norm_ (a' := ?_) ?_ ?_
   rotate_left
   ·
    show Act.put _ (some 32) _ = _
    simp only [Act.put, List.setIfInBounds_toArray, List.set_cons_zero, List.set_cons_succ, i64_w, i32_w]
    rfl
   refine one_ (i := 6) (N := some 33) #[true, true, true, true, true, true, true, false, false, false, false, false, false, false] rfl rfl (one_of HT_.out (by kernel_rfl)) (by decide) (fun K hK => ?_)
   refine goes_ Try.func43 (by kernel_rfl) rfl #[.agg #[.int .i64 t106, .int .i64 t107, .slice Ao44 t108.length co44], .agg #[.int .i64 t111, .int .i64 t112, .slice Ao45 t113.length co45], .agg #[.int .i64 t116, .int .i64 t117]] (by rfl) rfl rfl (by (try simp only [List.map_toArray, List.map_cons, List.map_nil]); first | done | rfl | (simp only [List.length_drop, List.length_take]; rfl)) ?_
   with_reducible refine (spec_MatchOf.calls k t106 t107 _ _ t108 t111 t112 _ _ t113 t116 t117 t118 t119 t120 _ ?side1 ?side2 ?side3 ?side4 A24.out).mono ?_
   (case side1 => repeat (first | exact (Kd.R_reads' HO110.out).2.2 | (with_reducible refine Kd.C_alloc ?_ _) | (with_reducible refine Kd.C_drewN ?_ _) | (with_reducible refine Kd.C_drew ?_)))
   (case side2 => exact (Kd.R_reads' HO110.out).2.1)
   (case side3 => repeat (first | exact (Kd.R_reads' HO115.out).2.2 | (with_reducible refine Kd.C_alloc ?_ _) | (with_reducible refine Kd.C_drewN ?_ _) | (with_reducible refine Kd.C_drew ?_)))
   (case side4 => exact (Kd.R_reads' HO115.out).2.1)
   rintro e w46 ⟨rfl, hb⟩
   refine ⟨_, rfl, ?_⟩
   have n0_ := aK (Kd.R_below (pR HO110.out) hb)
   have n1_ := aK (Kd.R_below (pR HO115.out) hb)
   replace BK101 := bB BK101 hb
   replace BK102 := bB BK102 hb
   replace BK103 := bB BK103 hb
   replace HB := bS HB hb
   clear HO110 HO115
   have HO110 := n0_
   have HO115 := n1_
   clear n0_ n1_
   (try clear hb)
   (try clear hb2)
   (try clear hk)
   (try clear hi)
   refine hK.out _ _ ⟨(blk_cell BK101.out 0).trans rfl, (blk_cell BK101.out 1).trans rfl, (blk_cell BK101.out 2).trans rfl, (blk_cell BK102.out 0).trans rfl, (blk_cell BK102.out 1).trans rfl, (blk_cell BK102.out 2).trans rfl, (blk_cell BK103.out 0).trans rfl, (blk_cell BK103.out 1).trans rfl⟩ (fun hHeld => ?_)
   clear hK K
   refine norm_ (a' := ?_) ?_ ?_
   rotate_left
   ·
    show Act.put _ (some 33) _ = _
    simp only [Act.put, List.setIfInBounds_toArray, List.set_cons_zero, List.set_cons_succ, i64_w, i32_w]
    rfl
   refine pure_ (i := 7) (N := some 26) (v := ?_) (a' := ?_) #[true, true, true, true, true, true, true, true, false, false, false, false, false, false] rfl rfl (any_of HT_.out (by kernel_rfl)) (fun _ _ _ h => h) (Or.inl ⟨by rfl, ?_⟩) ?_ ?_
   rotate_left
   ·
    intro w'
    go_simp
    with_reducible rfl
   rotate_left
   ·
    simp only [Act.put, List.setIfInBounds_toArray, List.set_cons_zero, List.set_cons_succ, i64_w, i32_w]
    rfl
   refine pure_ (i := 8) (N := some 34) (v := ?_) (a' := ?_) #[true, true, true, true, true, true, true, true, true, false, false, false, false, false] rfl rfl (any_of HT_.out (by kernel_rfl)) (fun _ _ _ h => h) (Or.inl ⟨by rfl, ?_⟩) ?_ ?_
   rotate_left
   ·
    intro w'
    go_simp
    with_reducible rfl
   rotate_left
   ·
    simp only [Act.put, List.setIfInBounds_toArray, List.set_cons_zero, List.set_cons_succ, i64_w, i32_w]
    rfl
   refine pure_ (i := 9) (N := some 35) (v := ?_) (a' := ?_) #[true, true, true, true, true, true, true, true, true, true, false, false, false, false] rfl rfl (any_of HT_.out (by kernel_rfl)) (fun _ _ _ h => h) (Or.inl ⟨by rfl, ?_⟩) ?_ ?_
   rotate_left
   ·
    intro w'
    go_simp
    with_reducible rfl
   rotate_left
   ·
    simp only [Act.put, List.setIfInBounds_toArray, List.set_cons_zero, List.set_cons_succ, i64_w, i32_w]
    rfl
   refine pure_ (i := 10) (N := some 36) (v := ?_) (a' := ?_) #[true, true, true, true, true, true, true, true, true, true, true, false, false, false] rfl rfl (any_of HT_.out (by kernel_rfl)) (fun _ _ _ h => h) (Or.inl ⟨by rfl, ?_⟩) ?_ ?_
   rotate_left
   ·
    intro w'
    go_simp
    with_reducible rfl
   rotate_left
   ·
    simp only [Act.put, List.setIfInBounds_toArray, List.set_cons_zero, List.set_cons_succ, i64_w, i32_w]
    rfl
   refine pure_ (i := 11) (N := some 8) (v := ?_) (a' := ?_) #[true, true, true, true, true, true, true, true, true, true, true, true, false, false] rfl rfl (any_of HT_.out (by kernel_rfl)) (fun _ _ _ h => h) (Or.inl ⟨by rfl, ?_⟩) ?_ ?_
   rotate_left
   ·
    intro w'
    go_simp
    with_reducible rfl
   rotate_left
   ·
    simp only [Act.put, List.setIfInBounds_toArray, List.set_cons_zero, List.set_cons_succ, i64_w, i32_w]
    rfl
   refine pure_ (i := 12) (N := some 9) (v := ?_) (a' := ?_) #[true, true, true, true, true, true, true, true, true, true, true, true, true, false] rfl rfl (any_of HT_.out (by kernel_rfl)) (fun _ _ _ h => h) (Or.inl ⟨by rfl, ?_⟩) ?_ ?_
   rotate_left
   ·
    intro w'
    go_simp
    with_reducible rfl
   rotate_left
   ·
    simp only [Act.put, List.setIfInBounds_toArray, List.set_cons_zero, List.set_cons_succ, i64_w, i32_w]
    rfl
   refine pure_ (i := 13) (N := some 10) (v := ?_) (a' := ?_) #[true, true, true, true, true, true, true, true, true, true, true, true, true, true] rfl rfl (any_of HT_.out (by kernel_rfl)) (fun _ _ _ h => h) (Or.inl ⟨by rfl, ?_⟩) ?_ ?_
   rotate_left
   ·
    intro w'
    go_simp
    with_reducible rfl
   rotate_left
   ·
    simp only [Act.put, List.setIfInBounds_toArray, List.set_cons_zero, List.set_cons_succ, i64_w, i32_w]
    rfl
   refine done_ (done_of HT_.out (by kernel_rfl)) ?_
   have hcz47_0 : w46.cell? ⟨gb101, 0, none⟩ = some (.int .i64 a0_0) := (blk_cell BK101.out 0).trans rfl
   have hcz47_1 : w46.cell? ⟨gb101, 1, none⟩ = some (.int .i64 a0_1) := (blk_cell BK101.out 1).trans rfl
   have hcz47_2 : w46.cell? ⟨gb101, 2, none⟩ = some (.slice A0_2 l0_2.length c0_2) := (blk_cell BK101.out 2).trans rfl
   have hfz47_0 := blk_frozen BK101.out 0
   have hfz47_1 := blk_frozen BK101.out 1
   have hfz47_2 := blk_frozen BK101.out 2
   try go_wp2_with (first | ((with_reducible refine gate_callee (f := 28) rfl ?_); refine goesL_ (some 38) rfl rfl Try.func28 (by kernel_rfl) rfl #[.agg #[.int .i64 a0_0, .int .i64 a0_1, .slice A0_2 l0_2.length c0_2]] rfl (by (try simp only [List.map_toArray, List.map_cons, List.map_nil]); first | done | rfl | (simp only [List.length_drop, List.length_take]; rfl)) ?_; (with_reducible refine (laws_toField.calls k a0_0 a0_1 _ _ l0_2 t121 t122 t123 _ ?side1 ?side2 A25.out).mono ?_); (case side1 => repeat (first | exact (Kd.C_below HR0_2.out HB.out) | (with_reducible refine Kd.C_alloc ?_ _) | (with_reducible refine Kd.C_drewN ?_ _) | (with_reducible refine Kd.C_drew ?_))); (case side2 => exact HC0_2.out); rintro e w48 ⟨v124, rfl, ho0, hb⟩; refine ⟨_, rfl, ?_⟩; have n0_ := aK (Kd.R_elder' (pR HO110.out) (Kd.R_base ho0) hb); have n1_ := aK (Kd.R_elder' (pR HO115.out) (Kd.R_base ho0) hb); have HO125 := aK (Kd.R_lower (Kd.R_new' (Kd.R_new' ho0 (Kd.R_lt (pR HO110.out))) (Kd.R_lt (pR HO115.out))) (below_size (pS HB.out))); replace BK101 := bB BK101 hb; replace BK102 := bB BK102 hb; replace BK103 := bB BK103 hb; replace HB := bS HB hb; clear HO110 HO115; have HO110 := n0_; have HO115 := n1_; clear n0_ n1_; (try clear hb); (try clear hb2); (try clear hk); (try clear hi); (try clear ho0)) | ((with_reducible refine gate_dst (N := 11) rfl ?_); refine box_event ?hg (N := 11) ?hd (cs := #[.int .i64 0, .int .i64 0, .slice none 0 0]) (t := 42) ?hr ?_; (case hd => rfl); (case hg => rfl); (case hr => first | (go_simp; done) | (go_simp; rfl)); intro gb126 hg w49 hbox hb; have n0_ := aK (Kd.R_below (pR HO110.out) hb); have n1_ := aK (Kd.R_below (pR HO115.out) hb); have n2_ := aK (Kd.R_below (pR HO125.out) hb); have BK126 := aK (hbox); have GW126 := aK (gE hg (pS HB.out)); have GE126 := aK (gE hg (pS HB.out)); have NB101_126 := aK (nL hg (pB BK101.out)); have NB126_101 := aK (nG hg (pB BK101.out)); have NB102_126 := aK (nL hg (pB BK102.out)); have NB126_102 := aK (nG hg (pB BK102.out)); have NB103_126 := aK (nL hg (pB BK103.out)); have NB126_103 := aK (nG hg (pB BK103.out)); replace BK101 := bB BK101 hb; replace BK102 := bB BK102 hb; replace BK103 := bB BK103 hb; replace HB := bS HB hb; clear HO110 HO115 HO125; have HO110 := n0_; have HO115 := n1_; have HO125 := n2_; clear n0_ n1_ n2_ hb hbox hg; have hnb50 := NB126_101.out; have hnc50 := NB101_126.out; have hnb51 := NB126_102.out; have hnc51 := NB102_126.out; have hnb52 := NB126_103.out; have hnc52 := NB103_126.out; have hcz53_0 : w49.cell? ⟨gb126, 0, none⟩ = some (.int .i64 0) := (blk_cell BK126.out 0).trans rfl; have hcz53_1 : w49.cell? ⟨gb126, 1, none⟩ = some (.int .i64 0) := (blk_cell BK126.out 1).trans rfl; have hcz53_2 : w49.cell? ⟨gb126, 2, none⟩ = some (.slice none 0 0) := (blk_cell BK126.out 2).trans rfl; have hfz53_0 := blk_frozen BK126.out 0; have hfz53_1 := blk_frozen BK126.out 1; have hfz53_2 := blk_frozen BK126.out 2; obtain ⟨Ao54, co54, eo54⟩ := Kd.R_slice HO125.out; subst eo54; have hcz55_0 : w49.cell? ⟨gb102, 0, none⟩ = some (.int .i64 a1_0) := (blk_cell BK102.out 0).trans rfl; have hcz55_1 : w49.cell? ⟨gb102, 1, none⟩ = some (.int .i64 a1_1) := (blk_cell BK102.out 1).trans rfl; have hcz55_2 : w49.cell? ⟨gb102, 2, none⟩ = some (.slice A1_2 l1_2.length c1_2) := (blk_cell BK102.out 2).trans rfl; have hfz55_0 := blk_frozen BK102.out 0; have hfz55_1 := blk_frozen BK102.out 1; have hfz55_2 := blk_frozen BK102.out 2) | ((with_reducible refine gate_callee (f := 28) rfl ?_); refine goesL_ (some 40) rfl rfl Try.func28 (by kernel_rfl) rfl #[.agg #[.int .i64 a1_0, .int .i64 a1_1, .slice A1_2 l1_2.length c1_2]] rfl (by (try simp only [List.map_toArray, List.map_cons, List.map_nil]); first | done | rfl | (simp only [List.length_drop, List.length_take]; rfl)) ?_; (with_reducible refine (laws_toField.calls k a1_0 a1_1 _ _ l1_2 t127 t128 t129 _ ?side1 ?side2 A26.out).mono ?_); (case side1 => exact Kd.C_below HR1_2.out (pS HB.out)); (case side2 => exact HC1_2.out); rintro e w56 ⟨v130, rfl, ho0, hb⟩; refine ⟨_, rfl, ?_⟩; have n0_ := aK (Kd.R_elder' (pR ((Kd.R_mono (Kd.R_far (p := ⟨gb126, 2, none⟩) (Kd.R_far (p := ⟨gb126, 1, none⟩) (Kd.R_far (p := ⟨gb126, 0, none⟩) (Kd.R_types HO110.out BK126.out (by decide)) (fun _ hk => hk.2) (.int .i64 t121)) (fun _ hk => hk.2) (.int .i64 t122)) (fun _ hk => hk.2) (.slice Ao54 t123.length co54)) (fun _ h_ => h_.1)))) (Kd.R_base ho0) hb); have n1_ := aK (Kd.R_elder' (pR ((Kd.R_mono (Kd.R_far (p := ⟨gb126, 2, none⟩) (Kd.R_far (p := ⟨gb126, 1, none⟩) (Kd.R_far (p := ⟨gb126, 0, none⟩) (Kd.R_types HO115.out BK126.out (by decide)) (fun _ hk => hk.2) (.int .i64 t121)) (fun _ hk => hk.2) (.int .i64 t122)) (fun _ hk => hk.2) (.slice Ao54 t123.length co54)) (fun _ h_ => h_.1)))) (Kd.R_base ho0) hb); have n2_ := aK (Kd.R_elder' (pR ((Kd.R_mono (Kd.R_far (p := ⟨gb126, 2, none⟩) (Kd.R_far (p := ⟨gb126, 1, none⟩) (Kd.R_far (p := ⟨gb126, 0, none⟩) (Kd.R_types HO125.out BK126.out (by decide)) (fun _ hk => hk.2) (.int .i64 t121)) (fun _ hk => hk.2) (.int .i64 t122)) (fun _ hk => hk.2) (.slice Ao54 t123.length co54)) (fun _ h_ => h_.1)))) (Kd.R_base ho0) hb); have HO131 := aK (Kd.R_lower (Kd.R_new' (Kd.R_new' (Kd.R_new' ho0 (Kd.R_lt (pR ((Kd.R_mono (Kd.R_far (p := ⟨gb126, 2, none⟩) (Kd.R_far (p := ⟨gb126, 1, none⟩) (Kd.R_far (p := ⟨gb126, 0, none⟩) (Kd.R_types HO110.out BK126.out (by decide)) (fun _ hk => hk.2) (.int .i64 t121)) (fun _ hk => hk.2) (.int .i64 t122)) (fun _ hk => hk.2) (.slice Ao54 t123.length co54)) (fun _ h_ => h_.1)))))) (Kd.R_lt (pR ((Kd.R_mono (Kd.R_far (p := ⟨gb126, 2, none⟩) (Kd.R_far (p := ⟨gb126, 1, none⟩) (Kd.R_far (p := ⟨gb126, 0, none⟩) (Kd.R_types HO115.out BK126.out (by decide)) (fun _ hk => hk.2) (.int .i64 t121)) (fun _ hk => hk.2) (.int .i64 t122)) (fun _ hk => hk.2) (.slice Ao54 t123.length co54)) (fun _ h_ => h_.1)))))) (Kd.R_lt (pR ((Kd.R_mono (Kd.R_far (p := ⟨gb126, 2, none⟩) (Kd.R_far (p := ⟨gb126, 1, none⟩) (Kd.R_far (p := ⟨gb126, 0, none⟩) (Kd.R_types HO125.out BK126.out (by decide)) (fun _ hk => hk.2) (.int .i64 t121)) (fun _ hk => hk.2) (.int .i64 t122)) (fun _ hk => hk.2) (.slice Ao54 t123.length co54)) (fun _ h_ => h_.1)))))) (below_size (pS HB.out))); have n4_ := aK (blk_below (g := gb101) (o := .cells #[.int .i64 a0_0, .int .i64 a0_1, .slice A0_2 l0_2.length c0_2] 38 (0, 0)) (by (with_reducible repeat (first | refine blk_drewN ?_ _ | refine blk_drew ?_ | refine blk_alloc ?_ _)); refine blk_far ?_ NB101_126.out _; (with_reducible repeat (first | refine blk_drewN ?_ _ | refine blk_drew ?_ | refine blk_alloc ?_ _)); refine blk_far ?_ NB101_126.out _; (with_reducible repeat (first | refine blk_drewN ?_ _ | refine blk_drew ?_ | refine blk_alloc ?_ _)); refine blk_far ?_ NB101_126.out _; (with_reducible repeat (first | refine blk_drewN ?_ _ | refine blk_drew ?_ | refine blk_alloc ?_ _)); exact BK101.out) hb); have n5_ := aK (blk_below (g := gb102) (o := .cells #[.int .i64 a1_0, .int .i64 a1_1, .slice A1_2 l1_2.length c1_2] 38 (0, 0)) (by (with_reducible repeat (first | refine blk_drewN ?_ _ | refine blk_drew ?_ | refine blk_alloc ?_ _)); refine blk_far ?_ NB102_126.out _; (with_reducible repeat (first | refine blk_drewN ?_ _ | refine blk_drew ?_ | refine blk_alloc ?_ _)); refine blk_far ?_ NB102_126.out _; (with_reducible repeat (first | refine blk_drewN ?_ _ | refine blk_drew ?_ | refine blk_alloc ?_ _)); refine blk_far ?_ NB102_126.out _; (with_reducible repeat (first | refine blk_drewN ?_ _ | refine blk_drew ?_ | refine blk_alloc ?_ _)); exact BK102.out) hb); have n6_ := aK (blk_below (g := gb103) (o := .cells #[.int .i64 a2_0, .int .i64 a2_1] 40 (0, 0)) (by (with_reducible repeat (first | refine blk_drewN ?_ _ | refine blk_drew ?_ | refine blk_alloc ?_ _)); refine blk_far ?_ NB103_126.out _; (with_reducible repeat (first | refine blk_drewN ?_ _ | refine blk_drew ?_ | refine blk_alloc ?_ _)); refine blk_far ?_ NB103_126.out _; (with_reducible repeat (first | refine blk_drewN ?_ _ | refine blk_drew ?_ | refine blk_alloc ?_ _)); refine blk_far ?_ NB103_126.out _; (with_reducible repeat (first | refine blk_drewN ?_ _ | refine blk_drew ?_ | refine blk_alloc ?_ _)); exact BK103.out) hb); have n7_ := aK (blk_below (g := gb126) (o := .cells #[.int .i64 t121, .int .i64 t122, .slice Ao54 t123.length co54] 42 (0, 0)) (by (with_reducible repeat (first | refine blk_drewN ?_ _ | refine blk_drew ?_ | refine blk_alloc ?_ _)); refine blk_put (cs := #[.int .i64 t121, .int .i64 t122, .slice none 0 0]) ?_ 2 _ rfl; (with_reducible repeat (first | refine blk_drewN ?_ _ | refine blk_drew ?_ | refine blk_alloc ?_ _)); refine blk_put (cs := #[.int .i64 t121, .int .i64 0, .slice none 0 0]) ?_ 1 _ rfl; (with_reducible repeat (first | refine blk_drewN ?_ _ | refine blk_drew ?_ | refine blk_alloc ?_ _)); refine blk_put (cs := #[.int .i64 0, .int .i64 0, .slice none 0 0]) ?_ 0 _ rfl; (with_reducible repeat (first | refine blk_drewN ?_ _ | refine blk_drew ?_ | refine blk_alloc ?_ _)); exact BK126.out) hb); replace HB := bS HB hb; clear HO110 HO115 HO125 BK101 BK102 BK103 BK126; have HO110 := n0_; have HO115 := n1_; have HO125 := n2_; have BK101 := n4_; have BK102 := n5_; have BK103 := n6_; have BK126 := n7_; clear n0_ n1_ n2_ n4_ n5_ n6_ n7_; (try clear hb); (try clear hb2); (try clear hk); (try clear hi); (try clear ho0)) | ((with_reducible refine gate_dst (N := 12) rfl ?_); refine box_event ?hg (N := 12) ?hd (cs := #[.int .i64 0, .int .i64 0, .slice none 0 0]) (t := 42) ?hr ?_; (case hd => rfl); (case hg => rfl); (case hr => first | (go_simp; done) | (go_simp; rfl)); intro gb132 hg w57 hbox hb; have n0_ := aK (Kd.R_below (pR HO110.out) hb); have n1_ := aK (Kd.R_below (pR HO115.out) hb); have n2_ := aK (Kd.R_below (pR HO125.out) hb); have n3_ := aK (Kd.R_below (pR HO131.out) hb); have BK132 := aK (hbox); have GW132 := aK (gE hg (pS HB.out)); have GE132 := aK (gE hg (pS HB.out)); have NB101_132 := aK (nL hg (pB BK101.out)); have NB132_101 := aK (nG hg (pB BK101.out)); have NB102_132 := aK (nL hg (pB BK102.out)); have NB132_102 := aK (nG hg (pB BK102.out)); have NB103_132 := aK (nL hg (pB BK103.out)); have NB132_103 := aK (nG hg (pB BK103.out)); have NB126_132 := aK (nL hg (pB BK126.out)); have NB132_126 := aK (nG hg (pB BK126.out)); replace BK101 := bB BK101 hb; replace BK102 := bB BK102 hb; replace BK103 := bB BK103 hb; replace BK126 := bB BK126 hb; replace HB := bS HB hb; clear HO110 HO115 HO125 HO131; have HO110 := n0_; have HO115 := n1_; have HO125 := n2_; have HO131 := n3_; clear n0_ n1_ n2_ n3_ hb hbox hg; have hnb58 := NB132_101.out; have hnc58 := NB101_132.out; have hnb59 := NB132_102.out; have hnc59 := NB102_132.out; have hnb60 := NB132_103.out; have hnc60 := NB103_132.out; have hnb61 := NB132_126.out; have hnc61 := NB126_132.out; have hcz62_0 : w57.cell? ⟨gb132, 0, none⟩ = some (.int .i64 0) := (blk_cell BK132.out 0).trans rfl; have hcz62_1 : w57.cell? ⟨gb132, 1, none⟩ = some (.int .i64 0) := (blk_cell BK132.out 1).trans rfl; have hcz62_2 : w57.cell? ⟨gb132, 2, none⟩ = some (.slice none 0 0) := (blk_cell BK132.out 2).trans rfl; have hfz62_0 := blk_frozen BK132.out 0; have hfz62_1 := blk_frozen BK132.out 1; have hfz62_2 := blk_frozen BK132.out 2; obtain ⟨Ao63, co63, eo63⟩ := Kd.R_slice HO131.out; subst eo63))
   have n0_ : Aside0 (Kd.R (Kd.int .i64) 3 (((w57.setCell ⟨gb132, 0, none⟩ (.int .i64 t127)).setCell ⟨gb132, 1, none⟩ (.int .i64 t128)).setCell ⟨gb132, 2, none⟩ (.slice Ao63 t129.length co63)) w.heap.size (fun k_ => some k_ ≠ (.slice Ao45 t113.length co45 : Value).ownBlock ∧ some k_ ≠ (.slice Ao54 t123.length co54 : Value).ownBlock ∧ some k_ ≠ (.slice Ao63 t129.length co63 : Value).ownBlock) (.slice Ao44 t108.length co44) t108) := ⟨by (with_reducible repeat (first | apply Kd.R_alloc | apply Kd.R_drewN | apply Kd.R_drew)); exact Kd.R_mono (Kd.R_far (p := ⟨gb132, 2, none⟩) (Kd.R_far (p := ⟨gb132, 1, none⟩) (Kd.R_far (p := ⟨gb132, 0, none⟩) (Kd.R_types HO110.out BK132.out (by decide)) (fun _ hk => hk.2) (.int .i64 t127)) (fun _ hk => hk.2) (.int .i64 t128)) (fun _ hk => hk.2) (.slice Ao63 t129.length co63)) (fun _ hk => ⟨hk.1.1.1.2, ⟨hk.1.1.2, hk.1.2⟩⟩)⟩
   have n1_ : Aside0 (Kd.R (Kd.int .i64) 3 (((w57.setCell ⟨gb132, 0, none⟩ (.int .i64 t127)).setCell ⟨gb132, 1, none⟩ (.int .i64 t128)).setCell ⟨gb132, 2, none⟩ (.slice Ao63 t129.length co63)) w.heap.size (fun k_ => some k_ ≠ (.slice Ao44 t108.length co44 : Value).ownBlock ∧ some k_ ≠ (.slice Ao54 t123.length co54 : Value).ownBlock ∧ some k_ ≠ (.slice Ao63 t129.length co63 : Value).ownBlock) (.slice Ao45 t113.length co45) t113) := ⟨by (with_reducible repeat (first | apply Kd.R_alloc | apply Kd.R_drewN | apply Kd.R_drew)); exact Kd.R_mono (Kd.R_far (p := ⟨gb132, 2, none⟩) (Kd.R_far (p := ⟨gb132, 1, none⟩) (Kd.R_far (p := ⟨gb132, 0, none⟩) (Kd.R_types HO115.out BK132.out (by decide)) (fun _ hk => hk.2) (.int .i64 t127)) (fun _ hk => hk.2) (.int .i64 t128)) (fun _ hk => hk.2) (.slice Ao63 t129.length co63)) (fun _ hk => ⟨hk.1.1.1.2, ⟨hk.1.1.2, hk.1.2⟩⟩)⟩
   have n2_ : Aside0 (Kd.R (Kd.int .i64) 3 (((w57.setCell ⟨gb132, 0, none⟩ (.int .i64 t127)).setCell ⟨gb132, 1, none⟩ (.int .i64 t128)).setCell ⟨gb132, 2, none⟩ (.slice Ao63 t129.length co63)) w.heap.size (fun k_ => some k_ ≠ (.slice Ao44 t108.length co44 : Value).ownBlock ∧ some k_ ≠ (.slice Ao45 t113.length co45 : Value).ownBlock ∧ some k_ ≠ (.slice Ao63 t129.length co63 : Value).ownBlock) (.slice Ao54 t123.length co54) t123) := ⟨by (with_reducible repeat (first | apply Kd.R_alloc | apply Kd.R_drewN | apply Kd.R_drew)); exact Kd.R_mono (Kd.R_far (p := ⟨gb132, 2, none⟩) (Kd.R_far (p := ⟨gb132, 1, none⟩) (Kd.R_far (p := ⟨gb132, 0, none⟩) (Kd.R_types HO125.out BK132.out (by decide)) (fun _ hk => hk.2) (.int .i64 t127)) (fun _ hk => hk.2) (.int .i64 t128)) (fun _ hk => hk.2) (.slice Ao63 t129.length co63)) (fun _ hk => ⟨hk.1.1.1.2, ⟨hk.1.1.2, hk.1.2⟩⟩)⟩
   have n3_ : Aside0 (Kd.R (Kd.int .i64) 3 (((w57.setCell ⟨gb132, 0, none⟩ (.int .i64 t127)).setCell ⟨gb132, 1, none⟩ (.int .i64 t128)).setCell ⟨gb132, 2, none⟩ (.slice Ao63 t129.length co63)) w.heap.size (fun k_ => some k_ ≠ (.slice Ao44 t108.length co44 : Value).ownBlock ∧ some k_ ≠ (.slice Ao45 t113.length co45 : Value).ownBlock ∧ some k_ ≠ (.slice Ao54 t123.length co54 : Value).ownBlock) (.slice Ao63 t129.length co63) t129) := ⟨by (with_reducible repeat (first | apply Kd.R_alloc | apply Kd.R_drewN | apply Kd.R_drew)); exact Kd.R_mono (Kd.R_far (p := ⟨gb132, 2, none⟩) (Kd.R_far (p := ⟨gb132, 1, none⟩) (Kd.R_far (p := ⟨gb132, 0, none⟩) (Kd.R_types HO131.out BK132.out (by decide)) (fun _ hk => hk.2) (.int .i64 t127)) (fun _ hk => hk.2) (.int .i64 t128)) (fun _ hk => hk.2) (.slice Ao63 t129.length co63)) (fun _ hk => ⟨hk.1.1.1.2, ⟨hk.1.1.2, hk.1.2⟩⟩)⟩
   have n4_ : Aside0 ((((w57.setCell ⟨gb132, 0, none⟩ (.int .i64 t127)).setCell ⟨gb132, 1, none⟩ (.int .i64 t128)).setCell ⟨gb132, 2, none⟩ (.slice Ao63 t129.length co63)).heap[gb101]? = some (.cells #[.int .i64 a0_0, .int .i64 a0_1, .slice A0_2 l0_2.length c0_2] 38 (0, 0))) := ⟨by (with_reducible repeat (first | refine blk_drewN ?_ _ | refine blk_drew ?_ | refine blk_alloc ?_ _)); refine blk_far ?_ NB101_132.out _; (with_reducible repeat (first | refine blk_drewN ?_ _ | refine blk_drew ?_ | refine blk_alloc ?_ _)); refine blk_far ?_ NB101_132.out _; (with_reducible repeat (first | refine blk_drewN ?_ _ | refine blk_drew ?_ | refine blk_alloc ?_ _)); refine blk_far ?_ NB101_132.out _; (with_reducible repeat (first | refine blk_drewN ?_ _ | refine blk_drew ?_ | refine blk_alloc ?_ _)); exact BK101.out⟩
   have n5_ : Aside0 ((((w57.setCell ⟨gb132, 0, none⟩ (.int .i64 t127)).setCell ⟨gb132, 1, none⟩ (.int .i64 t128)).setCell ⟨gb132, 2, none⟩ (.slice Ao63 t129.length co63)).heap[gb102]? = some (.cells #[.int .i64 a1_0, .int .i64 a1_1, .slice A1_2 l1_2.length c1_2] 38 (0, 0))) := ⟨by (with_reducible repeat (first | refine blk_drewN ?_ _ | refine blk_drew ?_ | refine blk_alloc ?_ _)); refine blk_far ?_ NB102_132.out _; (with_reducible repeat (first | refine blk_drewN ?_ _ | refine blk_drew ?_ | refine blk_alloc ?_ _)); refine blk_far ?_ NB102_132.out _; (with_reducible repeat (first | refine blk_drewN ?_ _ | refine blk_drew ?_ | refine blk_alloc ?_ _)); refine blk_far ?_ NB102_132.out _; (with_reducible repeat (first | refine blk_drewN ?_ _ | refine blk_drew ?_ | refine blk_alloc ?_ _)); exact BK102.out⟩
   have n6_ : Aside0 ((((w57.setCell ⟨gb132, 0, none⟩ (.int .i64 t127)).setCell ⟨gb132, 1, none⟩ (.int .i64 t128)).setCell ⟨gb132, 2, none⟩ (.slice Ao63 t129.length co63)).heap[gb103]? = some (.cells #[.int .i64 a2_0, .int .i64 a2_1] 40 (0, 0))) := ⟨by (with_reducible repeat (first | refine blk_drewN ?_ _ | refine blk_drew ?_ | refine blk_alloc ?_ _)); refine blk_far ?_ NB103_132.out _; (with_reducible repeat (first | refine blk_drewN ?_ _ | refine blk_drew ?_ | refine blk_alloc ?_ _)); refine blk_far ?_ NB103_132.out _; (with_reducible repeat (first | refine blk_drewN ?_ _ | refine blk_drew ?_ | refine blk_alloc ?_ _)); refine blk_far ?_ NB103_132.out _; (with_reducible repeat (first | refine blk_drewN ?_ _ | refine blk_drew ?_ | refine blk_alloc ?_ _)); exact BK103.out⟩
   have n7_ : Aside0 ((((w57.setCell ⟨gb132, 0, none⟩ (.int .i64 t127)).setCell ⟨gb132, 1, none⟩ (.int .i64 t128)).setCell ⟨gb132, 2, none⟩ (.slice Ao63 t129.length co63)).heap[gb126]? = some (.cells #[.int .i64 t121, .int .i64 t122, .slice Ao54 t123.length co54] 42 (0, 0))) := ⟨by (with_reducible repeat (first | refine blk_drewN ?_ _ | refine blk_drew ?_ | refine blk_alloc ?_ _)); refine blk_far ?_ NB126_132.out _; (with_reducible repeat (first | refine blk_drewN ?_ _ | refine blk_drew ?_ | refine blk_alloc ?_ _)); refine blk_far ?_ NB126_132.out _; (with_reducible repeat (first | refine blk_drewN ?_ _ | refine blk_drew ?_ | refine blk_alloc ?_ _)); refine blk_far ?_ NB126_132.out _; (with_reducible repeat (first | refine blk_drewN ?_ _ | refine blk_drew ?_ | refine blk_alloc ?_ _)); exact BK126.out⟩
   have n8_ : Aside0 ((((w57.setCell ⟨gb132, 0, none⟩ (.int .i64 t127)).setCell ⟨gb132, 1, none⟩ (.int .i64 t128)).setCell ⟨gb132, 2, none⟩ (.slice Ao63 t129.length co63)).heap[gb132]? = some (.cells #[.int .i64 t127, .int .i64 t128, .slice Ao63 t129.length co63] 42 (0, 0))) := ⟨by (with_reducible repeat (first | refine blk_drewN ?_ _ | refine blk_drew ?_ | refine blk_alloc ?_ _)); refine blk_put (cs := #[.int .i64 t127, .int .i64 t128, .slice none 0 0]) ?_ 2 _ rfl; (with_reducible repeat (first | refine blk_drewN ?_ _ | refine blk_drew ?_ | refine blk_alloc ?_ _)); refine blk_put (cs := #[.int .i64 t127, .int .i64 0, .slice none 0 0]) ?_ 1 _ rfl; (with_reducible repeat (first | refine blk_drewN ?_ _ | refine blk_drew ?_ | refine blk_alloc ?_ _)); refine blk_put (cs := #[.int .i64 0, .int .i64 0, .slice none 0 0]) ?_ 0 _ rfl; (with_reducible repeat (first | refine blk_drewN ?_ _ | refine blk_drew ?_ | refine blk_alloc ?_ _)); exact BK132.out⟩
   have n9_ : Aside0 (Below w.heap.size w (((w57.setCell ⟨gb132, 0, none⟩ (.int .i64 t127)).setCell ⟨gb132, 1, none⟩ (.int .i64 t128)).setCell ⟨gb132, 2, none⟩ (.slice Ao63 t129.length co63))) := ⟨by repeat (first | (with_reducible first | exact HB.out | apply below_alloc | apply pw_below_drewN | apply below_drew1 | refine below_set ?_ GE101.out | refine below_set ?_ GE102.out | refine below_set ?_ GE103.out | refine below_set ?_ GE126.out | refine below_set ?_ GE132.out) | exact HB.out)⟩
   (try clear HO110)
   (try clear HO115)
   (try clear HO125)
   (try clear HO131)
   (try clear BK101)
   (try clear BK102)
   (try clear BK103)
   (try clear BK126)
   (try clear BK132)
   (try clear HB)
   generalize (((w57.setCell ⟨gb132, 0, none⟩ (.int .i64 t127)).setCell ⟨gb132, 1, none⟩ (.int .i64 t128)).setCell ⟨gb132, 2, none⟩ (.slice Ao63 t129.length co63)) = w64 at n0_ n1_ n2_ n3_ n4_ n5_ n6_ n7_ n8_ n9_ ⊢
   have HO110 := n0_
   have HO115 := n1_
   have HO125 := n2_
   have HO131 := n3_
   have BK101 := n4_
   have BK102 := n5_
   have BK103 := n6_
   have BK126 := n7_
   have BK132 := n8_
   have HB := n9_
   clear n0_ n1_ n2_ n3_ n4_ n5_ n6_ n7_ n8_ n9_
   have n0_ := aK (Kd.R_drew HO110.out)
   have n1_ := aK (Kd.R_drew HO115.out)
   have n2_ := aK (Kd.R_drew HO125.out)
   have n3_ := aK (Kd.R_drew HO131.out)
   have n4_ := aK (blk_drew BK101.out)
   have n5_ := aK (blk_drew BK102.out)
   have n6_ := aK (blk_drew BK103.out)
   have n7_ := aK (blk_drew BK126.out)
   have n8_ := aK (blk_drew BK132.out)
   have n9_ := aK (below_drew1 HB.out)
   clear HO110 HO115 HO125 HO131 BK101 BK102 BK103 BK126 BK132 HB
   have HO110 := n0_
   have HO115 := n1_
   have HO125 := n2_
   have HO131 := n3_
   have BK101 := n4_
   have BK102 := n5_
   have BK103 := n6_
   have BK126 := n7_
   have BK132 := n8_
   have HB := n9_
   clear n0_ n1_ n2_ n3_ n4_ n5_ n6_ n7_ n8_ n9_
   refine start_ (n := 12) (S := fun w' => w'.cell? ⟨gb126, 0, none⟩ = some (.int .i64 t121) ∧ w'.cell? ⟨gb126, 1, none⟩ = some (.int .i64 t122) ∧ w'.cell? ⟨gb126, 2, none⟩ = some (.slice Ao54 t123.length co54) ∧ w'.cell? ⟨gb132, 0, none⟩ = some (.int .i64 t127) ∧ w'.cell? ⟨gb132, 1, none⟩ = some (.int .i64 t128) ∧ w'.cell? ⟨gb132, 2, none⟩ = some (.slice Ao63 t129.length co63) ∧ w'.cell? ⟨gb103, 0, none⟩ = some (.int .i64 a2_0) ∧ w'.cell? ⟨gb103, 1, none⟩ = some (.int .i64 a2_1)) (ds := []) #[false, false, false, false, false, false, false, false, false, false, false, false] (by kernel_rfl) rfl rfl ⟨(blk_cell BK126.out 0).trans rfl, (blk_cell BK126.out 1).trans rfl, (blk_cell BK126.out 2).trans rfl, (blk_cell BK132.out 0).trans rfl, (blk_cell BK132.out 1).trans rfl, (blk_cell BK132.out 2).trans rfl, (blk_cell BK103.out 0).trans rfl, (blk_cell BK103.out 1).trans rfl⟩ (fun hHeld => ?_); refine with_tabW laws_FnExactMatchOf.tab11 laws_FnExactMatchOf.bits11 (fun HT_ HW_ => ?_)
   generalize w64.drew = w65 at HO110 HO115 HO125 HO131 BK101 BK102 BK103 BK126 BK132 HB hHeld ⊢
   refine take_ (i := 0) (N := some 42) (v := ?_) (a' := ?_) #[true, false, false, false, false, false, false, false, false, false, false, false] rfl rfl (take_ofW HT_.out HW_.out (by kernel_rfl)) (fun _ _ _ h => h) (Or.inl ⟨by rfl, ?_⟩) hHeld ?_ ?_
   rotate_left
   ·
    rintro w' ⟨s0, s1, s2, s3, s4, s5, s6, s7⟩
    go_simp
    with_reducible rfl
   rotate_left
   ·
    simp only [Act.put, List.setIfInBounds_toArray, List.set_cons_zero, List.set_cons_succ, i64_w, i32_w]
    rfl
   refine take_ (i := 1) (N := some 43) (v := ?_) (a' := ?_) #[true, true, false, false, false, false, false, false, false, false, false, false] rfl rfl (take_ofW HT_.out HW_.out (by kernel_rfl)) (fun _ _ _ h => h) (Or.inl ⟨by rfl, ?_⟩) hHeld ?_ ?_
   rotate_left
   ·
    rintro w' ⟨s0, s1, s2, s3, s4, s5, s6, s7⟩
    go_simp
    with_reducible rfl
   rotate_left
   ·
    simp only [Act.put, List.setIfInBounds_toArray, List.set_cons_zero, List.set_cons_succ, i64_w, i32_w]
    rfl
   refine take_ (i := 2) (N := some 44) (v := ?_) (a' := ?_) #[true, true, true, false, false, false, false, false, false, false, false, false] rfl rfl (take_ofW HT_.out HW_.out (by kernel_rfl)) (fun _ _ _ h => h) (Or.inl ⟨by rfl, ?_⟩) hHeld ?_ ?_
   rotate_left
   ·
    rintro w' ⟨s0, s1, s2, s3, s4, s5, s6, s7⟩
    go_simp
    with_reducible rfl
   rotate_left
   ·
    simp only [Act.put, List.setIfInBounds_toArray, List.set_cons_zero, List.set_cons_succ, i64_w, i32_w]
    rfl
   refine one_ (i := 3) (N := some 45) #[true, true, true, true, false, false, false, false, false, false, false, false] rfl rfl (one_of HT_.out (by kernel_rfl)) (by decide) (fun K hK => ?_)
   refine goes_ Try.func29 (by kernel_rfl) rfl #[.agg #[.int .i64 a2_0, .int .i64 a2_1]] (by rfl) rfl rfl (by (try simp only [List.map_toArray, List.map_cons, List.map_nil]); first | done | rfl | (simp only [List.length_drop, List.length_take]; rfl)) ?_
   with_reducible refine (laws_toMotion.calls a2_0 a2_1 t133 t134 _ A27.out).mono ?_
   rintro e w66 ⟨rfl, hb⟩
   refine ⟨_, rfl, ?_⟩
   have n0_ := aK (Kd.R_below (pR HO110.out) hb)
   have n1_ := aK (Kd.R_below (pR HO115.out) hb)
   have n2_ := aK (Kd.R_below (pR HO125.out) hb)
   have n3_ := aK (Kd.R_below (pR HO131.out) hb)
   replace BK101 := bB BK101 hb
   replace BK102 := bB BK102 hb
   replace BK103 := bB BK103 hb
   replace BK126 := bB BK126 hb
   replace BK132 := bB BK132 hb
   replace HB := bS HB hb
   clear HO110 HO115 HO125 HO131
   have HO110 := n0_
   have HO115 := n1_
   have HO125 := n2_
   have HO131 := n3_
   clear n0_ n1_ n2_ n3_
   (try clear hb)
   (try clear hb2)
   (try clear hk)
   (try clear hi)
   refine hK.out _ _ ⟨(blk_cell BK126.out 0).trans rfl, (blk_cell BK126.out 1).trans rfl, (blk_cell BK126.out 2).trans rfl, (blk_cell BK132.out 0).trans rfl, (blk_cell BK132.out 1).trans rfl, (blk_cell BK132.out 2).trans rfl, (blk_cell BK103.out 0).trans rfl, (blk_cell BK103.out 1).trans rfl⟩ (fun hHeld => ?_)
   clear hK K
   refine norm_ (a' := ?_) ?_ ?_
   rotate_left
   ·
    show Act.put _ (some 45) _ = _
    simp only [Act.put, List.setIfInBounds_toArray, List.set_cons_zero, List.set_cons_succ, i64_w, i32_w]
    rfl
   refine one_ (i := 4) (N := some 46) #[true, true, true, true, true, false, false, false, false, false, false, false] rfl rfl (one_of HT_.out (by kernel_rfl)) (by decide) (fun K hK => ?_)
   refine goes_ Try.func44 (by kernel_rfl) rfl #[.agg #[.int .i64 t121, .int .i64 t122, .slice Ao54 t123.length co54], .agg #[.int .i64 t127, .int .i64 t128, .slice Ao63 t129.length co63], .agg #[.int .i64 t133, .int .i64 t134]] (by rfl) rfl rfl (by (try simp only [List.map_toArray, List.map_cons, List.map_nil]); first | done | rfl | (simp only [List.length_drop, List.length_take]; rfl)) ?_
   with_reducible refine (impl_MatchOf.calls k t121 t122 (fun k_ => some k_ = (.slice Ao54 t123.length co54 : Value).ownBlock) _ _ t123 t127 t128 (fun k_ => some k_ = (.slice Ao63 t129.length co63 : Value).ownBlock) _ _ t129 t133 t134 t135 t136 t137 _ ?side1 ?side2 A28.out).mono ?_
   (case side1 => exact Kd.R_V (Kd.R_tight rfl (Kd.R_types (Kd.R_types (Kd.R_types (Kd.R_types (Kd.R_types (HO125.out) BK101.out (by decide)) BK102.out (by decide)) BK103.out (by decide)) BK126.out (by decide)) BK132.out (by decide))))
   (case side2 => exact Kd.R_V (Kd.R_tight rfl (Kd.R_types (Kd.R_types (Kd.R_types (Kd.R_types (Kd.R_types (HO131.out) BK101.out (by decide)) BK102.out (by decide)) BK103.out (by decide)) BK126.out (by decide)) BK132.out (by decide))))
   rintro e w67 ⟨rfl, hb⟩
   refine ⟨_, rfl, ?_⟩
   have n0_ := aK (Kd.R_below (pR HO110.out) hb)
   have n1_ := aK (Kd.R_below (pR HO115.out) hb)
   have n2_ := aK (Kd.R_below (pR HO125.out) hb)
   have n3_ := aK (Kd.R_below (pR HO131.out) hb)
   replace BK101 := bB BK101 hb
   replace BK102 := bB BK102 hb
   replace BK103 := bB BK103 hb
   replace BK126 := bB BK126 hb
   replace BK132 := bB BK132 hb
   replace HB := bS HB hb
   clear HO110 HO115 HO125 HO131
   have HO110 := n0_
   have HO115 := n1_
   have HO125 := n2_
   have HO131 := n3_
   clear n0_ n1_ n2_ n3_
   (try clear hb)
   (try clear hb2)
   (try clear hk)
   (try clear hi)
   refine hK.out _ _ ⟨(blk_cell BK126.out 0).trans rfl, (blk_cell BK126.out 1).trans rfl, (blk_cell BK126.out 2).trans rfl, (blk_cell BK132.out 0).trans rfl, (blk_cell BK132.out 1).trans rfl, (blk_cell BK132.out 2).trans rfl, (blk_cell BK103.out 0).trans rfl, (blk_cell BK103.out 1).trans rfl⟩ (fun hHeld => ?_)
   clear hK K
   refine norm_ (a' := ?_) ?_ ?_
   rotate_left
   ·
    show Act.put _ (some 46) _ = _
    simp only [Act.put, List.setIfInBounds_toArray, List.set_cons_zero, List.set_cons_succ, i64_w, i32_w]
    rfl
   refine pure_ (i := 5) (N := some 41) (v := ?_) (a' := ?_) #[true, true, true, true, true, true, false, false, false, false, false, false] rfl rfl (any_of HT_.out (by kernel_rfl)) (fun _ _ _ h => h) (Or.inl ⟨by rfl, ?_⟩) ?_ ?_
   rotate_left
   ·
    intro w'
    go_simp
    with_reducible rfl
   rotate_left
   ·
    simp only [Act.put, List.setIfInBounds_toArray, List.set_cons_zero, List.set_cons_succ, i64_w, i32_w]
    rfl
   refine pure_ (i := 6) (N := some 47) (v := ?_) (a' := ?_) #[true, true, true, true, true, true, true, false, false, false, false, false] rfl rfl (any_of HT_.out (by kernel_rfl)) (fun _ _ _ h => h) (Or.inl ⟨by rfl, ?_⟩) ?_ ?_
   rotate_left
   ·
    intro w'
    go_simp
    with_reducible rfl
   rotate_left
   ·
    simp only [Act.put, List.setIfInBounds_toArray, List.set_cons_zero, List.set_cons_succ, i64_w, i32_w]
    rfl
   refine pure_ (i := 7) (N := some 48) (v := ?_) (a' := ?_) #[true, true, true, true, true, true, true, true, false, false, false, false] rfl rfl (any_of HT_.out (by kernel_rfl)) (fun _ _ _ h => h) (Or.inl ⟨by rfl, ?_⟩) ?_ ?_
   rotate_left
   ·
    intro w'
    go_simp
    with_reducible rfl
   rotate_left
   ·
    simp only [Act.put, List.setIfInBounds_toArray, List.set_cons_zero, List.set_cons_succ, i64_w, i32_w]
    rfl
   refine pure_ (i := 8) (N := some 49) (v := ?_) (a' := ?_) #[true, true, true, true, true, true, true, true, true, false, false, false] rfl rfl (any_of HT_.out (by kernel_rfl)) (fun _ _ _ h => h) (Or.inl ⟨by rfl, ?_⟩) ?_ ?_
   rotate_left
   ·
    intro w'
    go_simp
    with_reducible rfl
   rotate_left
   ·
    simp only [Act.put, List.setIfInBounds_toArray, List.set_cons_zero, List.set_cons_succ, i64_w, i32_w]
    rfl
   refine pure_ (i := 9) (N := some 13) (v := ?_) (a' := ?_) #[true, true, true, true, true, true, true, true, true, true, false, false] rfl rfl (any_of HT_.out (by kernel_rfl)) (fun _ _ _ h => h) (Or.inl ⟨by rfl, ?_⟩) ?_ ?_
   rotate_left
   ·
    intro w'
    go_simp
    with_reducible rfl
   rotate_left
   ·
    simp only [Act.put, List.setIfInBounds_toArray, List.set_cons_zero, List.set_cons_succ, i64_w, i32_w]
    rfl
   refine pure_ (i := 10) (N := some 14) (v := ?_) (a' := ?_) #[true, true, true, true, true, true, true, true, true, true, true, false] rfl rfl (any_of HT_.out (by kernel_rfl)) (fun _ _ _ h => h) (Or.inl ⟨by rfl, ?_⟩) ?_ ?_
   rotate_left
   ·
    intro w'
    go_simp
    with_reducible rfl
   rotate_left
   ·
    simp only [Act.put, List.setIfInBounds_toArray, List.set_cons_zero, List.set_cons_succ, i64_w, i32_w]
    rfl
   refine pure_ (i := 11) (N := some 15) (v := ?_) (a' := ?_) #[true, true, true, true, true, true, true, true, true, true, true, true] rfl rfl (any_of HT_.out (by kernel_rfl)) (fun _ _ _ h => h) (Or.inl ⟨by rfl, ?_⟩) ?_ ?_
   rotate_left
   ·
    intro w'
    go_simp
    with_reducible rfl
   rotate_left
   ·
    simp only [Act.put, List.setIfInBounds_toArray, List.set_cons_zero, List.set_cons_succ, i64_w, i32_w]
    rfl
   refine done_ (done_of HT_.out (by kernel_rfl)) ?_
   go_upto_region 12 with (fail)
   go_cut [62] (fun v62 wc => ∃ (kq : Nat) (x62_28 : Bool), v62 = .bool x62_28 ∧ Aside0 (laws_FnExactMatchOf.j0 kq x62_28 a0_0 a0_1 l0_2 a1_0 a1_1 l1_2 t121 t122 t123 t127 t128 t129 = some r) ∧ Aside0 (kq ≤ k) ∧ Aside0 (Kd.R (Kd.int .i64) 3 wc w.heap.size (fun k_ => some k_ ≠ ((.slice Ao63 t129.length co63) : Value).ownBlock) (.slice Ao54 t123.length co54) t123) ∧ Aside0 (Kd.R (Kd.int .i64) 3 wc w.heap.size (fun k_ => some k_ ≠ ((.slice Ao54 t123.length co54) : Value).ownBlock) (.slice Ao63 t129.length co63) t129) ∧ Aside0 (wc.heap[gb101]? = some (.cells #[.int .i64 a0_0, .int .i64 a0_1, (.slice A0_2 l0_2.length c0_2)] 38 (0, 0))) ∧ Aside0 (wc.heap[gb102]? = some (.cells #[.int .i64 a1_0, .int .i64 a1_1, (.slice A1_2 l1_2.length c1_2)] 38 (0, 0))) ∧ Aside0 (wc.heap[gb103]? = some (.cells #[.int .i64 a2_0, .int .i64 a2_1] 40 (0, 0))) ∧ Aside0 (wc.heap[gb126]? = some (.cells #[.int .i64 t121, .int .i64 t122, (.slice Ao54 t123.length co54)] 42 (0, 0))) ∧ Aside0 (wc.heap[gb132]? = some (.cells #[.int .i64 t127, .int .i64 t128, (.slice Ao63 t129.length co63)] 42 (0, 0))) ∧ Aside0 (Below w.heap.size w wc))
   case first =>
    have H := HC29.out
    clear HC29
    by_cases c68 : t135 = t118
    ·
     rw [if_pos c68] at H
     have c68b0 : (t135 == t118) = true := beq_iff_eq.mpr c68
     have c68b1 : (t135 != t118) = false := bne_eq_false_iff_eq.mpr c68
     clear c68
     (first | rw [c68b0] | (simp only [i64_w, i32_w]; rw [c68b0]) | skip)
     by_cases c69 : t136 = t119
     ·
      rw [if_pos c69] at H
      have c69b0 : (t136 == t119) = true := beq_iff_eq.mpr c69
      have c69b1 : (t136 != t119) = false := bne_eq_false_iff_eq.mpr c69
      clear c69
      have H' := Aside0.mk H
      clear H
      go_wp2
      go_meet
      case rel => exact ⟨_, ((t137 != t120)), (by first | rfl | (simp; done) | (simp [*]; done)), H', ⟨by first | omega | exact Nat.le_refl _⟩, ⟨by (with_reducible repeat (first | apply Kd.R_alloc | apply Kd.R_drewN | apply Kd.R_drew)); exact Kd.R_mono HO125.out (fun _ hk => hk.2.2)⟩, ⟨by (with_reducible repeat (first | apply Kd.R_alloc | apply Kd.R_drewN | apply Kd.R_drew)); exact Kd.R_mono HO131.out (fun _ hk => hk.2.2)⟩, ⟨by (with_reducible repeat (first | refine blk_drewN ?_ _ | refine blk_drew ?_ | refine blk_alloc ?_ _)); exact BK101.out⟩, ⟨by (with_reducible repeat (first | refine blk_drewN ?_ _ | refine blk_drew ?_ | refine blk_alloc ?_ _)); exact BK102.out⟩, ⟨by (with_reducible repeat (first | refine blk_drewN ?_ _ | refine blk_drew ?_ | refine blk_alloc ?_ _)); exact BK103.out⟩, ⟨by (with_reducible repeat (first | refine blk_drewN ?_ _ | refine blk_drew ?_ | refine blk_alloc ?_ _)); exact BK126.out⟩, ⟨by (with_reducible repeat (first | refine blk_drewN ?_ _ | refine blk_drew ?_ | refine blk_alloc ?_ _)); exact BK132.out⟩, ⟨by repeat (first | (with_reducible first | exact HB.out | apply below_alloc | apply pw_below_drewN | apply below_drew1 | refine below_set ?_ GE101.out | refine below_set ?_ GE102.out | refine below_set ?_ GE103.out | refine below_set ?_ GE126.out | refine below_set ?_ GE132.out) | exact HB.out)⟩⟩
     ·
      rw [if_neg c69] at H
      have c69b0 : (t136 == t119) = false := beq_eq_false_iff_ne.mpr c69
      have c69b1 : (t136 != t119) = true := bne_iff_ne.mpr c69
      have H' := Aside0.mk H
      clear H
      go_wp2
      go_meet
      case rel => exact ⟨_, (true), (by first | rfl | (simp; done) | (simp [*]; done)), H', ⟨by first | omega | exact Nat.le_refl _⟩, ⟨by (with_reducible repeat (first | apply Kd.R_alloc | apply Kd.R_drewN | apply Kd.R_drew)); exact Kd.R_mono HO125.out (fun _ hk => hk.2.2)⟩, ⟨by (with_reducible repeat (first | apply Kd.R_alloc | apply Kd.R_drewN | apply Kd.R_drew)); exact Kd.R_mono HO131.out (fun _ hk => hk.2.2)⟩, ⟨by (with_reducible repeat (first | refine blk_drewN ?_ _ | refine blk_drew ?_ | refine blk_alloc ?_ _)); exact BK101.out⟩, ⟨by (with_reducible repeat (first | refine blk_drewN ?_ _ | refine blk_drew ?_ | refine blk_alloc ?_ _)); exact BK102.out⟩, ⟨by (with_reducible repeat (first | refine blk_drewN ?_ _ | refine blk_drew ?_ | refine blk_alloc ?_ _)); exact BK103.out⟩, ⟨by (with_reducible repeat (first | refine blk_drewN ?_ _ | refine blk_drew ?_ | refine blk_alloc ?_ _)); exact BK126.out⟩, ⟨by (with_reducible repeat (first | refine blk_drewN ?_ _ | refine blk_drew ?_ | refine blk_alloc ?_ _)); exact BK132.out⟩, ⟨by repeat (first | (with_reducible first | exact HB.out | apply below_alloc | apply pw_below_drewN | apply below_drew1 | refine below_set ?_ GE101.out | refine below_set ?_ GE102.out | refine below_set ?_ GE103.out | refine below_set ?_ GE126.out | refine below_set ?_ GE132.out) | exact HB.out)⟩⟩
    ·
     rw [if_neg c68] at H
     have c68b0 : (t135 == t118) = false := beq_eq_false_iff_ne.mpr c68
     have c68b1 : (t135 != t118) = true := bne_iff_ne.mpr c68
     (first | rw [c68b0] | (simp only [i64_w, i32_w]; rw [c68b0]) | skip)
     have H' := Aside0.mk H
     clear H
     go_wp2
     go_meet
     case rel => exact ⟨_, (true), (by first | rfl | (simp; done) | (simp [*]; done)), H', ⟨by first | omega | exact Nat.le_refl _⟩, ⟨by (with_reducible repeat (first | apply Kd.R_alloc | apply Kd.R_drewN | apply Kd.R_drew)); exact Kd.R_mono HO125.out (fun _ hk => hk.2.2)⟩, ⟨by (with_reducible repeat (first | apply Kd.R_alloc | apply Kd.R_drewN | apply Kd.R_drew)); exact Kd.R_mono HO131.out (fun _ hk => hk.2.2)⟩, ⟨by (with_reducible repeat (first | refine blk_drewN ?_ _ | refine blk_drew ?_ | refine blk_alloc ?_ _)); exact BK101.out⟩, ⟨by (with_reducible repeat (first | refine blk_drewN ?_ _ | refine blk_drew ?_ | refine blk_alloc ?_ _)); exact BK102.out⟩, ⟨by (with_reducible repeat (first | refine blk_drewN ?_ _ | refine blk_drew ?_ | refine blk_alloc ?_ _)); exact BK103.out⟩, ⟨by (with_reducible repeat (first | refine blk_drewN ?_ _ | refine blk_drew ?_ | refine blk_alloc ?_ _)); exact BK126.out⟩, ⟨by (with_reducible repeat (first | refine blk_drewN ?_ _ | refine blk_drew ?_ | refine blk_alloc ?_ _)); exact BK132.out⟩, ⟨by repeat (first | (with_reducible first | exact HB.out | apply below_alloc | apply pw_below_drewN | apply below_drew1 | refine below_set ?_ GE101.out | refine below_set ?_ GE102.out | refine below_set ?_ GE103.out | refine below_set ?_ GE126.out | refine below_set ?_ GE132.out) | exact HB.out)⟩⟩
   case rest =>
    clear HC29
    try clear c1
    try clear c2
    try clear p2
    try clear c3
    try clear c4
    try clear c5
    try clear c5b0
    try clear c6
    try clear c8
    try clear c12
    try clear c12b0
    try clear c16
    try clear c26
    try clear c28
    try clear c29
    try clear c33
    try clear c34
    try clear c37
    try clear c43
    try clear c44
    try clear c50
    try clear c51
    try clear c52
    try clear c58
    try clear c59
    try clear c60
    try clear c61
    try clear c68
    try clear c68b0
    try clear c68b1
    try clear c69
    try clear c69b0
    try clear c69b1
    try clear hcz17_0
    try clear hcz17_1
    try clear hcz17_2
    try clear hcz19_0
    try clear hcz19_1
    try clear hcz19_2
    try clear hcz35_0
    try clear hcz35_1
    try clear hcz35_2
    try clear hcz38_0
    try clear hcz38_1
    try clear hcz38_2
    try clear hcz47_0
    try clear hcz47_1
    try clear hcz47_2
    try clear hcz53_0
    try clear hcz53_1
    try clear hcz53_2
    try clear hcz55_0
    try clear hcz55_1
    try clear hcz55_2
    try clear hcz62_0
    try clear hcz62_1
    try clear hcz62_2
    try clear hfz17_0
    try clear hfz17_1
    try clear hfz17_2
    try clear hfz19_0
    try clear hfz19_1
    try clear hfz19_2
    try clear hfz35_0
    try clear hfz35_1
    try clear hfz35_2
    try clear hfz38_0
    try clear hfz38_1
    try clear hfz38_2
    try clear hfz47_0
    try clear hfz47_1
    try clear hfz47_2
    try clear hfz53_0
    try clear hfz53_1
    try clear hfz53_2
    try clear hfz55_0
    try clear hfz55_1
    try clear hfz55_2
    try clear hfz62_0
    try clear hfz62_1
    try clear hfz62_2
    obtain ⟨kq, x62_28, rfl, HA, HJ28, HO_127002, HO_133002, BK101, BK102, BK103, BK126, BK132, HB⟩ := hcut
    cases kq with
    | zero => exact absurd HA.out (by simp [laws_FnExactMatchOf.j0])
    | succ kj28 =>
     have H := HA.out
     clear HA
     simp only [laws_FnExactMatchOf.j0] at H
     by_cases c70 : x62_28 = true
     ·
      subst c70
      have H1 : (some false) = some r := by rw [if_pos rfl] at H; exact H
      clear H
      have H := H1
      clear H1
      obtain rfl := Option.some.inj H
      go_wp2
      go_ret
      exact ⟨by first | rfl | (simp [errW_none, errW_some] <;> rfl) | (simp [*, errW_none, errW_some] <;> rfl), by repeat (first | (with_reducible first | exact HB.out | apply below_alloc | apply pw_below_drewN | apply below_drew1) | exact HB.out)⟩
     ·
      replace c70 := Bool.eq_false_iff.mpr c70
      subst c70
      have H1 : ((laws_toField.f kj28 a0_0 a0_1 l0_2).bind fun bt138 => ((laws_eqField.f kj28 t121 t122 t123 bt138.1 bt138.2.1 bt138.2.2).bind fun t143 => (if t143 = true then ((laws_toField.f kj28 a1_0 a1_1 l1_2).bind fun bt144 => ((laws_eqField.f kj28 t127 t128 t129 bt144.1 bt144.2.1 bt144.2.2).bind fun t149 => (if t149 = true then (some true) else (some false)))) else (some false)))) = some r := by rw [if_neg (show ¬ (false = true) by decide)] at H; exact H
      clear H
      have H := H1
      clear H1
      replace H := Option.bind_eq_some_iff.mp H
      obtain ⟨⟨t138, t139, t140⟩, A710, H⟩ := H
      replace H : ((laws_eqField.f kj28 t121 t122 t123 t138 t139 t140).bind fun t143 => (if t143 = true then ((laws_toField.f kj28 a1_0 a1_1 l1_2).bind fun bt144 => ((laws_eqField.f kj28 t127 t128 t129 bt144.1 bt144.2.1 bt144.2.2).bind fun t149 => (if t149 = true then (some true) else (some false)))) else (some false))) = some r := H
      have A71 := Aside0.mk A710
      clear A710
      replace H := Option.bind_eq_some_iff.mp H
      obtain ⟨t143, A720, H⟩ := H
      replace H : (if t143 = true then ((laws_toField.f kj28 a1_0 a1_1 l1_2).bind fun bt144 => ((laws_eqField.f kj28 t127 t128 t129 bt144.1 bt144.2.1 bt144.2.2).bind fun t149 => (if t149 = true then (some true) else (some false)))) else (some false)) = some r := H
      have A72 := Aside0.mk A720
      clear A720
      by_cases c73 : t143 = true
      ·
       subst c73
       have H1 : ((laws_toField.f kj28 a1_0 a1_1 l1_2).bind fun bt144 => ((laws_eqField.f kj28 t127 t128 t129 bt144.1 bt144.2.1 bt144.2.2).bind fun t149 => (if t149 = true then (some true) else (some false)))) = some r := by rw [if_pos rfl] at H; exact H
       clear H
       have H := H1
       clear H1
       replace H := Option.bind_eq_some_iff.mp H
       obtain ⟨⟨t144, t145, t146⟩, A740, H⟩ := H
       replace H : ((laws_eqField.f kj28 t127 t128 t129 t144 t145 t146).bind fun t149 => (if t149 = true then (some true) else (some false))) = some r := H
       have A74 := Aside0.mk A740
       clear A740
       replace H := Option.bind_eq_some_iff.mp H
       obtain ⟨t149, A750, H⟩ := H
       replace H : (if t149 = true then (some true) else (some false)) = some r := H
       have A75 := Aside0.mk A750
       clear A750
       by_cases c76 : t149 = true
       ·
        subst c76
        have H1 : (some true) = some r := by rw [if_pos rfl] at H; exact H
        clear H
        have H := H1
        clear H1
        obtain rfl := Option.some.inj H
        try go_wp2
        have n0_ := aK (Kd.R_drew HO_127002.out)
        have n1_ := aK (Kd.R_drew HO_133002.out)
        have n2_ := aK (blk_drew BK101.out)
        have n3_ := aK (blk_drew BK102.out)
        have n4_ := aK (blk_drew BK103.out)
        have n5_ := aK (blk_drew BK126.out)
        have n6_ := aK (blk_drew BK132.out)
        have n7_ := aK (below_drew1 HB.out)
        clear HO_127002 HO_133002 BK101 BK102 BK103 BK126 BK132 HB
        have HO_127002 := n0_
        have HO_133002 := n1_
        have BK101 := n2_
        have BK102 := n3_
        have BK103 := n4_
        have BK126 := n5_
        have BK132 := n6_
        have HB := n7_
        clear n0_ n1_ n2_ n3_ n4_ n5_ n6_ n7_
        refine start_ (n := 5) (S := fun w' => w'.cell? ⟨gb126, 0, none⟩ = some (.int .i64 t121) ∧ w'.cell? ⟨gb126, 1, none⟩ = some (.int .i64 t122) ∧ w'.cell? ⟨gb126, 2, none⟩ = some (.slice Ao54 t123.length co54) ∧ w'.cell? ⟨gb101, 0, none⟩ = some (.int .i64 a0_0) ∧ w'.cell? ⟨gb101, 1, none⟩ = some (.int .i64 a0_1) ∧ w'.cell? ⟨gb101, 2, none⟩ = some (.slice A0_2 l0_2.length c0_2)) (ds := []) #[false, false, false, false, false] (by kernel_rfl) rfl rfl ⟨(blk_cell BK126.out 0).trans rfl, (blk_cell BK126.out 1).trans rfl, (blk_cell BK126.out 2).trans rfl, (blk_cell BK101.out 0).trans rfl, (blk_cell BK101.out 1).trans rfl, (blk_cell BK101.out 2).trans rfl⟩ (fun hHeld => ?_)
        generalize wc.drew = w77 at HO_127002 HO_133002 BK101 BK102 BK103 BK126 BK132 HB hHeld ⊢
        refine take_ (i := 0) (N := some 63) (v := ?_) (a' := ?_) #[true, false, false, false, false] rfl rfl (by kernel_rfl) (fun _ _ _ h => h) (Or.inl ⟨by rfl, ?_⟩) hHeld ?_ ?_
        rotate_left
        ·
         rintro w' ⟨s0, s1, s2, s3, s4, s5⟩
         go_simp
         with_reducible rfl
        rotate_left
        ·
         simp only [Act.put, List.setIfInBounds_toArray, List.set_cons_zero, List.set_cons_succ, i64_w, i32_w]
         rfl
        refine take_ (i := 1) (N := some 64) (v := ?_) (a' := ?_) #[true, true, false, false, false] rfl rfl (by kernel_rfl) (fun _ _ _ h => h) (Or.inl ⟨by rfl, ?_⟩) hHeld ?_ ?_
        rotate_left
        ·
         rintro w' ⟨s0, s1, s2, s3, s4, s5⟩
         go_simp
         with_reducible rfl
        rotate_left
        ·
         simp only [Act.put, List.setIfInBounds_toArray, List.set_cons_zero, List.set_cons_succ, i64_w, i32_w]
         rfl
        refine one_ (i := 2) (N := some 65) #[true, true, true, false, false] rfl rfl (by kernel_rfl) (by decide) (fun K hK => ?_)
        refine goes_ Try.func28 (by kernel_rfl) rfl #[.agg #[.int .i64 a0_0, .int .i64 a0_1, .slice A0_2 l0_2.length c0_2]] (by rfl) rfl rfl (by (try simp only [List.map_toArray, List.map_cons, List.map_nil]); first | done | rfl | (simp only [List.length_drop, List.length_take]; rfl)) ?_
        with_reducible refine (laws_toField.calls kj28 a0_0 a0_1 _ _ l0_2 t138 t139 t140 _ ?side1 ?side2 A71.out).mono ?_
        (case side1 => repeat (first | exact (Kd.C_below HR0_2.out HB.out) | (with_reducible refine Kd.C_alloc ?_ _) | (with_reducible refine Kd.C_drewN ?_ _) | (with_reducible refine Kd.C_drew ?_)))
        (case side2 => exact HC0_2.out)
        rintro e w78 ⟨v141, rfl, ho0, hb⟩
        refine ⟨_, rfl, ?_⟩
        have n0_ := aK (Kd.R_elder' (pR HO_127002.out) (Kd.R_base ho0) hb)
        have n1_ := aK (Kd.R_elder' (pR HO_133002.out) (Kd.R_base ho0) hb)
        have HO142 := aK (Kd.R_lower (Kd.R_new' (Kd.R_new' ho0 (Kd.R_lt (pR HO_127002.out))) (Kd.R_lt (pR HO_133002.out))) (below_size (pS HB.out)))
        replace BK101 := bB BK101 hb
        replace BK102 := bB BK102 hb
        replace BK103 := bB BK103 hb
        replace BK126 := bB BK126 hb
        replace BK132 := bB BK132 hb
        replace HB := bS HB hb
        clear HO_127002 HO_133002
        have HO_127002 := n0_
        have HO_133002 := n1_
        clear n0_ n1_
        (try clear hb)
        (try clear hb2)
        (try clear hk)
        (try clear hi)
        (try clear ho0)
        obtain ⟨Ao79, co79, eo79⟩ := Kd.R_slice HO142.out
        (first | subst eo79 | (injection eo79 with f1_ f2_ f3_; have f4_ := f1_.symm; have f5_ := f3_.symm; clear f1_ f2_ f3_; subst f4_; subst f5_))
        refine hK.out _ _ ⟨(blk_cell BK126.out 0).trans rfl, (blk_cell BK126.out 1).trans rfl, (blk_cell BK126.out 2).trans rfl, (blk_cell BK101.out 0).trans rfl, (blk_cell BK101.out 1).trans rfl, (blk_cell BK101.out 2).trans rfl⟩ (fun hHeld => ?_)
        clear hK K
        refine norm_ (a' := ?_) ?_ ?_
        rotate_left
        ·
         show Act.put _ (some 65) _ = _
         simp only [Act.put, List.setIfInBounds_toArray, List.set_cons_zero, List.set_cons_succ, i64_w, i32_w]
         rfl
        refine one_ (i := 3) (N := some 66) #[true, true, true, true, false] rfl rfl (by kernel_rfl) (by decide) (fun K hK => ?_)
        refine goes_ Try.func31 (by kernel_rfl) rfl #[.agg #[.int .i64 t121, .int .i64 t122, .slice Ao54 t123.length co54], .agg #[.int .i64 t138, .int .i64 t139, .slice Ao79 t140.length co79]] (by rfl) rfl rfl (by (try simp only [List.map_toArray, List.map_cons, List.map_nil]); first | done | rfl | (simp only [List.length_drop, List.length_take]; rfl)) ?_
        with_reducible refine (laws_eqField.calls kj28 t121 t122 _ _ t123 t138 t139 _ _ t140 true _ ?side1 ?side2 ?side3 ?side4 A72.out).mono ?_
        (case side1 => repeat (first | exact (Kd.R_reads' HO_127002.out).2.2 | (with_reducible refine Kd.C_alloc ?_ _) | (with_reducible refine Kd.C_drewN ?_ _) | (with_reducible refine Kd.C_drew ?_)))
        (case side2 => exact (Kd.R_reads' HO_127002.out).2.1)
        (case side3 => repeat (first | exact (Kd.R_reads' HO142.out).2.2 | (with_reducible refine Kd.C_alloc ?_ _) | (with_reducible refine Kd.C_drewN ?_ _) | (with_reducible refine Kd.C_drew ?_)))
        (case side4 => exact (Kd.R_reads' HO142.out).2.1)
        rintro e w80 ⟨rfl, hb⟩
        refine ⟨_, rfl, ?_⟩
        have n0_ := aK (Kd.R_below (pR HO_127002.out) hb)
        have n1_ := aK (Kd.R_below (pR HO_133002.out) hb)
        have n2_ := aK (Kd.R_below (pR HO142.out) hb)
        replace BK101 := bB BK101 hb
        replace BK102 := bB BK102 hb
        replace BK103 := bB BK103 hb
        replace BK126 := bB BK126 hb
        replace BK132 := bB BK132 hb
        replace HB := bS HB hb
        clear HO_127002 HO_133002 HO142
        have HO_127002 := n0_
        have HO_133002 := n1_
        have HO142 := n2_
        clear n0_ n1_ n2_
        (try clear hb)
        (try clear hb2)
        (try clear hk)
        (try clear hi)
        refine hK.out _ _ ⟨(blk_cell BK126.out 0).trans rfl, (blk_cell BK126.out 1).trans rfl, (blk_cell BK126.out 2).trans rfl, (blk_cell BK101.out 0).trans rfl, (blk_cell BK101.out 1).trans rfl, (blk_cell BK101.out 2).trans rfl⟩ (fun hHeld => ?_)
        clear hK K
        refine norm_ (a' := ?_) ?_ ?_
        rotate_left
        ·
         show Act.put _ (some 66) _ = _
         simp only [Act.put, List.setIfInBounds_toArray, List.set_cons_zero, List.set_cons_succ, i64_w, i32_w]
         rfl
        refine pure_ (i := 4) (N := some 67) (v := ?_) (a' := ?_) #[true, true, true, true, true] rfl rfl (by kernel_rfl) (fun _ _ _ h => h) (Or.inl ⟨by rfl, ?_⟩) ?_ ?_
        rotate_left
        ·
         intro w'
         go_simp
         with_reducible rfl
        rotate_left
        ·
         simp only [Act.put, List.setIfInBounds_toArray, List.set_cons_zero, List.set_cons_succ, i64_w, i32_w]
         rfl
        refine done_ (by kernel_rfl) ?_
        try go_wp2
        have n0_ := aK (Kd.R_drew HO_127002.out)
        have n1_ := aK (Kd.R_drew HO_133002.out)
        have n2_ := aK (Kd.R_drew HO142.out)
        have n3_ := aK (blk_drew BK101.out)
        have n4_ := aK (blk_drew BK102.out)
        have n5_ := aK (blk_drew BK103.out)
        have n6_ := aK (blk_drew BK126.out)
        have n7_ := aK (blk_drew BK132.out)
        have n8_ := aK (below_drew1 HB.out)
        clear HO_127002 HO_133002 HO142 BK101 BK102 BK103 BK126 BK132 HB
        have HO_127002 := n0_
        have HO_133002 := n1_
        have HO142 := n2_
        have BK101 := n3_
        have BK102 := n4_
        have BK103 := n5_
        have BK126 := n6_
        have BK132 := n7_
        have HB := n8_
        clear n0_ n1_ n2_ n3_ n4_ n5_ n6_ n7_ n8_
        refine start_ (n := 5) (S := fun w' => w'.cell? ⟨gb132, 0, none⟩ = some (.int .i64 t127) ∧ w'.cell? ⟨gb132, 1, none⟩ = some (.int .i64 t128) ∧ w'.cell? ⟨gb132, 2, none⟩ = some (.slice Ao63 t129.length co63) ∧ w'.cell? ⟨gb102, 0, none⟩ = some (.int .i64 a1_0) ∧ w'.cell? ⟨gb102, 1, none⟩ = some (.int .i64 a1_1) ∧ w'.cell? ⟨gb102, 2, none⟩ = some (.slice A1_2 l1_2.length c1_2)) (ds := []) #[false, false, false, false, false] (by kernel_rfl) rfl rfl ⟨(blk_cell BK132.out 0).trans rfl, (blk_cell BK132.out 1).trans rfl, (blk_cell BK132.out 2).trans rfl, (blk_cell BK102.out 0).trans rfl, (blk_cell BK102.out 1).trans rfl, (blk_cell BK102.out 2).trans rfl⟩ (fun hHeld => ?_)
        generalize w80.drew = w81 at HO_127002 HO_133002 HO142 BK101 BK102 BK103 BK126 BK132 HB hHeld ⊢
        refine take_ (i := 0) (N := some 68) (v := ?_) (a' := ?_) #[true, false, false, false, false] rfl rfl (by kernel_rfl) (fun _ _ _ h => h) (Or.inl ⟨by rfl, ?_⟩) hHeld ?_ ?_
        rotate_left
        ·
         rintro w' ⟨s0, s1, s2, s3, s4, s5⟩
         go_simp
         with_reducible rfl
        rotate_left
        ·
         simp only [Act.put, List.setIfInBounds_toArray, List.set_cons_zero, List.set_cons_succ, i64_w, i32_w]
         rfl
        refine take_ (i := 1) (N := some 69) (v := ?_) (a' := ?_) #[true, true, false, false, false] rfl rfl (by kernel_rfl) (fun _ _ _ h => h) (Or.inl ⟨by rfl, ?_⟩) hHeld ?_ ?_
        rotate_left
        ·
         rintro w' ⟨s0, s1, s2, s3, s4, s5⟩
         go_simp
         with_reducible rfl
        rotate_left
        ·
         simp only [Act.put, List.setIfInBounds_toArray, List.set_cons_zero, List.set_cons_succ, i64_w, i32_w]
         rfl
        refine one_ (i := 2) (N := some 70) #[true, true, true, false, false] rfl rfl (by kernel_rfl) (by decide) (fun K hK => ?_)
        refine goes_ Try.func28 (by kernel_rfl) rfl #[.agg #[.int .i64 a1_0, .int .i64 a1_1, .slice A1_2 l1_2.length c1_2]] (by rfl) rfl rfl (by (try simp only [List.map_toArray, List.map_cons, List.map_nil]); first | done | rfl | (simp only [List.length_drop, List.length_take]; rfl)) ?_
        with_reducible refine (laws_toField.calls kj28 a1_0 a1_1 _ _ l1_2 t144 t145 t146 _ ?side1 ?side2 A74.out).mono ?_
        (case side1 => repeat (first | exact (Kd.C_below HR1_2.out HB.out) | (with_reducible refine Kd.C_alloc ?_ _) | (with_reducible refine Kd.C_drewN ?_ _) | (with_reducible refine Kd.C_drew ?_)))
        (case side2 => exact HC1_2.out)
        rintro e w82 ⟨v147, rfl, ho0, hb⟩
        refine ⟨_, rfl, ?_⟩
        have n0_ := aK (Kd.R_elder' (pR HO_127002.out) (Kd.R_base ho0) hb)
        have n1_ := aK (Kd.R_elder' (pR HO_133002.out) (Kd.R_base ho0) hb)
        have n2_ := aK (Kd.R_elder' (pR HO142.out) (Kd.R_base ho0) hb)
        have HO148 := aK (Kd.R_lower (Kd.R_new' (Kd.R_new' (Kd.R_new' ho0 (Kd.R_lt (pR HO_127002.out))) (Kd.R_lt (pR HO_133002.out))) (Kd.R_lt (pR HO142.out))) (below_size (pS HB.out)))
        replace BK101 := bB BK101 hb
        replace BK102 := bB BK102 hb
        replace BK103 := bB BK103 hb
        replace BK126 := bB BK126 hb
        replace BK132 := bB BK132 hb
        replace HB := bS HB hb
        clear HO_127002 HO_133002 HO142
        have HO_127002 := n0_
        have HO_133002 := n1_
        have HO142 := n2_
        clear n0_ n1_ n2_
        (try clear hb)
        (try clear hb2)
        (try clear hk)
        (try clear hi)
        (try clear ho0)
        obtain ⟨Ao83, co83, eo83⟩ := Kd.R_slice HO148.out
        (first | subst eo83 | (injection eo83 with f1_ f2_ f3_; have f4_ := f1_.symm; have f5_ := f3_.symm; clear f1_ f2_ f3_; subst f4_; subst f5_))
        refine hK.out _ _ ⟨(blk_cell BK132.out 0).trans rfl, (blk_cell BK132.out 1).trans rfl, (blk_cell BK132.out 2).trans rfl, (blk_cell BK102.out 0).trans rfl, (blk_cell BK102.out 1).trans rfl, (blk_cell BK102.out 2).trans rfl⟩ (fun hHeld => ?_)
        clear hK K
        refine norm_ (a' := ?_) ?_ ?_
        rotate_left
        ·
         show Act.put _ (some 70) _ = _
         simp only [Act.put, List.setIfInBounds_toArray, List.set_cons_zero, List.set_cons_succ, i64_w, i32_w]
         rfl
        refine one_ (i := 3) (N := some 71) #[true, true, true, true, false] rfl rfl (by kernel_rfl) (by decide) (fun K hK => ?_)
        refine goes_ Try.func31 (by kernel_rfl) rfl #[.agg #[.int .i64 t127, .int .i64 t128, .slice Ao63 t129.length co63], .agg #[.int .i64 t144, .int .i64 t145, .slice Ao83 t146.length co83]] (by rfl) rfl rfl (by (try simp only [List.map_toArray, List.map_cons, List.map_nil]); first | done | rfl | (simp only [List.length_drop, List.length_take]; rfl)) ?_
        with_reducible refine (laws_eqField.calls kj28 t127 t128 _ _ t129 t144 t145 _ _ t146 true _ ?side1 ?side2 ?side3 ?side4 A75.out).mono ?_
        (case side1 => repeat (first | exact (Kd.R_reads' HO_133002.out).2.2 | (with_reducible refine Kd.C_alloc ?_ _) | (with_reducible refine Kd.C_drewN ?_ _) | (with_reducible refine Kd.C_drew ?_)))
        (case side2 => exact (Kd.R_reads' HO_133002.out).2.1)
        (case side3 => repeat (first | exact (Kd.R_reads' HO148.out).2.2 | (with_reducible refine Kd.C_alloc ?_ _) | (with_reducible refine Kd.C_drewN ?_ _) | (with_reducible refine Kd.C_drew ?_)))
        (case side4 => exact (Kd.R_reads' HO148.out).2.1)
        rintro e w84 ⟨rfl, hb⟩
        refine ⟨_, rfl, ?_⟩
        have n0_ := aK (Kd.R_below (pR HO_127002.out) hb)
        have n1_ := aK (Kd.R_below (pR HO_133002.out) hb)
        have n2_ := aK (Kd.R_below (pR HO142.out) hb)
        have n3_ := aK (Kd.R_below (pR HO148.out) hb)
        replace BK101 := bB BK101 hb
        replace BK102 := bB BK102 hb
        replace BK103 := bB BK103 hb
        replace BK126 := bB BK126 hb
        replace BK132 := bB BK132 hb
        replace HB := bS HB hb
        clear HO_127002 HO_133002 HO142 HO148
        have HO_127002 := n0_
        have HO_133002 := n1_
        have HO142 := n2_
        have HO148 := n3_
        clear n0_ n1_ n2_ n3_
        (try clear hb)
        (try clear hb2)
        (try clear hk)
        (try clear hi)
        refine hK.out _ _ ⟨(blk_cell BK132.out 0).trans rfl, (blk_cell BK132.out 1).trans rfl, (blk_cell BK132.out 2).trans rfl, (blk_cell BK102.out 0).trans rfl, (blk_cell BK102.out 1).trans rfl, (blk_cell BK102.out 2).trans rfl⟩ (fun hHeld => ?_)
        clear hK K
        refine norm_ (a' := ?_) ?_ ?_
        rotate_left
        ·
         show Act.put _ (some 71) _ = _
         simp only [Act.put, List.setIfInBounds_toArray, List.set_cons_zero, List.set_cons_succ, i64_w, i32_w]
         rfl
        refine pure_ (i := 4) (N := some 72) (v := ?_) (a' := ?_) #[true, true, true, true, true] rfl rfl (by kernel_rfl) (fun _ _ _ h => h) (Or.inl ⟨by rfl, ?_⟩) ?_ ?_
        rotate_left
        ·
         intro w'
         go_simp
         with_reducible rfl
        rotate_left
        ·
         simp only [Act.put, List.setIfInBounds_toArray, List.set_cons_zero, List.set_cons_succ, i64_w, i32_w]
         rfl
        refine done_ (by kernel_rfl) ?_
        try go_wp2
        go_ret
        exact ⟨by first | rfl | (simp [errW_none, errW_some] <;> rfl) | (simp [*, errW_none, errW_some] <;> rfl), by repeat (first | (with_reducible first | exact HB.out | apply below_alloc | apply pw_below_drewN | apply below_drew1) | exact HB.out)⟩
       ·
        replace c76 := Bool.eq_false_iff.mpr c76
        subst c76
        have H1 : (some false) = some r := by rw [if_neg (show ¬ (false = true) by decide)] at H; exact H
        clear H
        have H := H1
        clear H1
        obtain rfl := Option.some.inj H
        try go_wp2
        have n0_ := aK (Kd.R_drew HO_127002.out)
        have n1_ := aK (Kd.R_drew HO_133002.out)
        have n2_ := aK (blk_drew BK101.out)
        have n3_ := aK (blk_drew BK102.out)
        have n4_ := aK (blk_drew BK103.out)
        have n5_ := aK (blk_drew BK126.out)
        have n6_ := aK (blk_drew BK132.out)
        have n7_ := aK (below_drew1 HB.out)
        clear HO_127002 HO_133002 BK101 BK102 BK103 BK126 BK132 HB
        have HO_127002 := n0_
        have HO_133002 := n1_
        have BK101 := n2_
        have BK102 := n3_
        have BK103 := n4_
        have BK126 := n5_
        have BK132 := n6_
        have HB := n7_
        clear n0_ n1_ n2_ n3_ n4_ n5_ n6_ n7_
        refine start_ (n := 5) (S := fun w' => w'.cell? ⟨gb126, 0, none⟩ = some (.int .i64 t121) ∧ w'.cell? ⟨gb126, 1, none⟩ = some (.int .i64 t122) ∧ w'.cell? ⟨gb126, 2, none⟩ = some (.slice Ao54 t123.length co54) ∧ w'.cell? ⟨gb101, 0, none⟩ = some (.int .i64 a0_0) ∧ w'.cell? ⟨gb101, 1, none⟩ = some (.int .i64 a0_1) ∧ w'.cell? ⟨gb101, 2, none⟩ = some (.slice A0_2 l0_2.length c0_2)) (ds := []) #[false, false, false, false, false] (by kernel_rfl) rfl rfl ⟨(blk_cell BK126.out 0).trans rfl, (blk_cell BK126.out 1).trans rfl, (blk_cell BK126.out 2).trans rfl, (blk_cell BK101.out 0).trans rfl, (blk_cell BK101.out 1).trans rfl, (blk_cell BK101.out 2).trans rfl⟩ (fun hHeld => ?_)
        generalize wc.drew = w85 at HO_127002 HO_133002 BK101 BK102 BK103 BK126 BK132 HB hHeld ⊢
        refine take_ (i := 0) (N := some 63) (v := ?_) (a' := ?_) #[true, false, false, false, false] rfl rfl (by kernel_rfl) (fun _ _ _ h => h) (Or.inl ⟨by rfl, ?_⟩) hHeld ?_ ?_
        rotate_left
        ·
         rintro w' ⟨s0, s1, s2, s3, s4, s5⟩
         go_simp
         with_reducible rfl
        rotate_left
        ·
         simp only [Act.put, List.setIfInBounds_toArray, List.set_cons_zero, List.set_cons_succ, i64_w, i32_w]
         rfl
        refine take_ (i := 1) (N := some 64) (v := ?_) (a' := ?_) #[true, true, false, false, false] rfl rfl (by kernel_rfl) (fun _ _ _ h => h) (Or.inl ⟨by rfl, ?_⟩) hHeld ?_ ?_
        rotate_left
        ·
         rintro w' ⟨s0, s1, s2, s3, s4, s5⟩
         go_simp
         with_reducible rfl
        rotate_left
        ·
         simp only [Act.put, List.setIfInBounds_toArray, List.set_cons_zero, List.set_cons_succ, i64_w, i32_w]
         rfl
        refine one_ (i := 2) (N := some 65) #[true, true, true, false, false] rfl rfl (by kernel_rfl) (by decide) (fun K hK => ?_)
        refine goes_ Try.func28 (by kernel_rfl) rfl #[.agg #[.int .i64 a0_0, .int .i64 a0_1, .slice A0_2 l0_2.length c0_2]] (by rfl) rfl rfl (by (try simp only [List.map_toArray, List.map_cons, List.map_nil]); first | done | rfl | (simp only [List.length_drop, List.length_take]; rfl)) ?_
        with_reducible refine (laws_toField.calls kj28 a0_0 a0_1 _ _ l0_2 t138 t139 t140 _ ?side1 ?side2 A71.out).mono ?_
        (case side1 => repeat (first | exact (Kd.C_below HR0_2.out HB.out) | (with_reducible refine Kd.C_alloc ?_ _) | (with_reducible refine Kd.C_drewN ?_ _) | (with_reducible refine Kd.C_drew ?_)))
        (case side2 => exact HC0_2.out)
        rintro e w86 ⟨v141, rfl, ho0, hb⟩
        refine ⟨_, rfl, ?_⟩
        have n0_ := aK (Kd.R_elder' (pR HO_127002.out) (Kd.R_base ho0) hb)
        have n1_ := aK (Kd.R_elder' (pR HO_133002.out) (Kd.R_base ho0) hb)
        have HO142 := aK (Kd.R_lower (Kd.R_new' (Kd.R_new' ho0 (Kd.R_lt (pR HO_127002.out))) (Kd.R_lt (pR HO_133002.out))) (below_size (pS HB.out)))
        replace BK101 := bB BK101 hb
        replace BK102 := bB BK102 hb
        replace BK103 := bB BK103 hb
        replace BK126 := bB BK126 hb
        replace BK132 := bB BK132 hb
        replace HB := bS HB hb
        clear HO_127002 HO_133002
        have HO_127002 := n0_
        have HO_133002 := n1_
        clear n0_ n1_
        (try clear hb)
        (try clear hb2)
        (try clear hk)
        (try clear hi)
        (try clear ho0)
        obtain ⟨Ao87, co87, eo87⟩ := Kd.R_slice HO142.out
        (first | subst eo87 | (injection eo87 with f1_ f2_ f3_; have f4_ := f1_.symm; have f5_ := f3_.symm; clear f1_ f2_ f3_; subst f4_; subst f5_))
        refine hK.out _ _ ⟨(blk_cell BK126.out 0).trans rfl, (blk_cell BK126.out 1).trans rfl, (blk_cell BK126.out 2).trans rfl, (blk_cell BK101.out 0).trans rfl, (blk_cell BK101.out 1).trans rfl, (blk_cell BK101.out 2).trans rfl⟩ (fun hHeld => ?_)
        clear hK K
        refine norm_ (a' := ?_) ?_ ?_
        rotate_left
        ·
         show Act.put _ (some 65) _ = _
         simp only [Act.put, List.setIfInBounds_toArray, List.set_cons_zero, List.set_cons_succ, i64_w, i32_w]
         rfl
        refine one_ (i := 3) (N := some 66) #[true, true, true, true, false] rfl rfl (by kernel_rfl) (by decide) (fun K hK => ?_)
        refine goes_ Try.func31 (by kernel_rfl) rfl #[.agg #[.int .i64 t121, .int .i64 t122, .slice Ao54 t123.length co54], .agg #[.int .i64 t138, .int .i64 t139, .slice Ao87 t140.length co87]] (by rfl) rfl rfl (by (try simp only [List.map_toArray, List.map_cons, List.map_nil]); first | done | rfl | (simp only [List.length_drop, List.length_take]; rfl)) ?_
        with_reducible refine (laws_eqField.calls kj28 t121 t122 _ _ t123 t138 t139 _ _ t140 true _ ?side1 ?side2 ?side3 ?side4 A72.out).mono ?_
        (case side1 => repeat (first | exact (Kd.R_reads' HO_127002.out).2.2 | (with_reducible refine Kd.C_alloc ?_ _) | (with_reducible refine Kd.C_drewN ?_ _) | (with_reducible refine Kd.C_drew ?_)))
        (case side2 => exact (Kd.R_reads' HO_127002.out).2.1)
        (case side3 => repeat (first | exact (Kd.R_reads' HO142.out).2.2 | (with_reducible refine Kd.C_alloc ?_ _) | (with_reducible refine Kd.C_drewN ?_ _) | (with_reducible refine Kd.C_drew ?_)))
        (case side4 => exact (Kd.R_reads' HO142.out).2.1)
        rintro e w88 ⟨rfl, hb⟩
        refine ⟨_, rfl, ?_⟩
        have n0_ := aK (Kd.R_below (pR HO_127002.out) hb)
        have n1_ := aK (Kd.R_below (pR HO_133002.out) hb)
        have n2_ := aK (Kd.R_below (pR HO142.out) hb)
        replace BK101 := bB BK101 hb
        replace BK102 := bB BK102 hb
        replace BK103 := bB BK103 hb
        replace BK126 := bB BK126 hb
        replace BK132 := bB BK132 hb
        replace HB := bS HB hb
        clear HO_127002 HO_133002 HO142
        have HO_127002 := n0_
        have HO_133002 := n1_
        have HO142 := n2_
        clear n0_ n1_ n2_
        (try clear hb)
        (try clear hb2)
        (try clear hk)
        (try clear hi)
        refine hK.out _ _ ⟨(blk_cell BK126.out 0).trans rfl, (blk_cell BK126.out 1).trans rfl, (blk_cell BK126.out 2).trans rfl, (blk_cell BK101.out 0).trans rfl, (blk_cell BK101.out 1).trans rfl, (blk_cell BK101.out 2).trans rfl⟩ (fun hHeld => ?_)
        clear hK K
        refine norm_ (a' := ?_) ?_ ?_
        rotate_left
        ·
         show Act.put _ (some 66) _ = _
         simp only [Act.put, List.setIfInBounds_toArray, List.set_cons_zero, List.set_cons_succ, i64_w, i32_w]
         rfl
        refine pure_ (i := 4) (N := some 67) (v := ?_) (a' := ?_) #[true, true, true, true, true] rfl rfl (by kernel_rfl) (fun _ _ _ h => h) (Or.inl ⟨by rfl, ?_⟩) ?_ ?_
        rotate_left
        ·
         intro w'
         go_simp
         with_reducible rfl
        rotate_left
        ·
         simp only [Act.put, List.setIfInBounds_toArray, List.set_cons_zero, List.set_cons_succ, i64_w, i32_w]
         rfl
        refine done_ (by kernel_rfl) ?_
        try go_wp2
        have n0_ := aK (Kd.R_drew HO_127002.out)
        have n1_ := aK (Kd.R_drew HO_133002.out)
        have n2_ := aK (Kd.R_drew HO142.out)
        have n3_ := aK (blk_drew BK101.out)
        have n4_ := aK (blk_drew BK102.out)
        have n5_ := aK (blk_drew BK103.out)
        have n6_ := aK (blk_drew BK126.out)
        have n7_ := aK (blk_drew BK132.out)
        have n8_ := aK (below_drew1 HB.out)
        clear HO_127002 HO_133002 HO142 BK101 BK102 BK103 BK126 BK132 HB
        have HO_127002 := n0_
        have HO_133002 := n1_
        have HO142 := n2_
        have BK101 := n3_
        have BK102 := n4_
        have BK103 := n5_
        have BK126 := n6_
        have BK132 := n7_
        have HB := n8_
        clear n0_ n1_ n2_ n3_ n4_ n5_ n6_ n7_ n8_
        refine start_ (n := 5) (S := fun w' => w'.cell? ⟨gb132, 0, none⟩ = some (.int .i64 t127) ∧ w'.cell? ⟨gb132, 1, none⟩ = some (.int .i64 t128) ∧ w'.cell? ⟨gb132, 2, none⟩ = some (.slice Ao63 t129.length co63) ∧ w'.cell? ⟨gb102, 0, none⟩ = some (.int .i64 a1_0) ∧ w'.cell? ⟨gb102, 1, none⟩ = some (.int .i64 a1_1) ∧ w'.cell? ⟨gb102, 2, none⟩ = some (.slice A1_2 l1_2.length c1_2)) (ds := []) #[false, false, false, false, false] (by kernel_rfl) rfl rfl ⟨(blk_cell BK132.out 0).trans rfl, (blk_cell BK132.out 1).trans rfl, (blk_cell BK132.out 2).trans rfl, (blk_cell BK102.out 0).trans rfl, (blk_cell BK102.out 1).trans rfl, (blk_cell BK102.out 2).trans rfl⟩ (fun hHeld => ?_)
        generalize w88.drew = w89 at HO_127002 HO_133002 HO142 BK101 BK102 BK103 BK126 BK132 HB hHeld ⊢
        refine take_ (i := 0) (N := some 68) (v := ?_) (a' := ?_) #[true, false, false, false, false] rfl rfl (by kernel_rfl) (fun _ _ _ h => h) (Or.inl ⟨by rfl, ?_⟩) hHeld ?_ ?_
        rotate_left
        ·
         rintro w' ⟨s0, s1, s2, s3, s4, s5⟩
         go_simp
         with_reducible rfl
        rotate_left
        ·
         simp only [Act.put, List.setIfInBounds_toArray, List.set_cons_zero, List.set_cons_succ, i64_w, i32_w]
         rfl
        refine take_ (i := 1) (N := some 69) (v := ?_) (a' := ?_) #[true, true, false, false, false] rfl rfl (by kernel_rfl) (fun _ _ _ h => h) (Or.inl ⟨by rfl, ?_⟩) hHeld ?_ ?_
        rotate_left
        ·
         rintro w' ⟨s0, s1, s2, s3, s4, s5⟩
         go_simp
         with_reducible rfl
        rotate_left
        ·
         simp only [Act.put, List.setIfInBounds_toArray, List.set_cons_zero, List.set_cons_succ, i64_w, i32_w]
         rfl
        refine one_ (i := 2) (N := some 70) #[true, true, true, false, false] rfl rfl (by kernel_rfl) (by decide) (fun K hK => ?_)
        refine goes_ Try.func28 (by kernel_rfl) rfl #[.agg #[.int .i64 a1_0, .int .i64 a1_1, .slice A1_2 l1_2.length c1_2]] (by rfl) rfl rfl (by (try simp only [List.map_toArray, List.map_cons, List.map_nil]); first | done | rfl | (simp only [List.length_drop, List.length_take]; rfl)) ?_
        with_reducible refine (laws_toField.calls kj28 a1_0 a1_1 _ _ l1_2 t144 t145 t146 _ ?side1 ?side2 A74.out).mono ?_
        (case side1 => repeat (first | exact (Kd.C_below HR1_2.out HB.out) | (with_reducible refine Kd.C_alloc ?_ _) | (with_reducible refine Kd.C_drewN ?_ _) | (with_reducible refine Kd.C_drew ?_)))
        (case side2 => exact HC1_2.out)
        rintro e w90 ⟨v147, rfl, ho0, hb⟩
        refine ⟨_, rfl, ?_⟩
        have n0_ := aK (Kd.R_elder' (pR HO_127002.out) (Kd.R_base ho0) hb)
        have n1_ := aK (Kd.R_elder' (pR HO_133002.out) (Kd.R_base ho0) hb)
        have n2_ := aK (Kd.R_elder' (pR HO142.out) (Kd.R_base ho0) hb)
        have HO148 := aK (Kd.R_lower (Kd.R_new' (Kd.R_new' (Kd.R_new' ho0 (Kd.R_lt (pR HO_127002.out))) (Kd.R_lt (pR HO_133002.out))) (Kd.R_lt (pR HO142.out))) (below_size (pS HB.out)))
        replace BK101 := bB BK101 hb
        replace BK102 := bB BK102 hb
        replace BK103 := bB BK103 hb
        replace BK126 := bB BK126 hb
        replace BK132 := bB BK132 hb
        replace HB := bS HB hb
        clear HO_127002 HO_133002 HO142
        have HO_127002 := n0_
        have HO_133002 := n1_
        have HO142 := n2_
        clear n0_ n1_ n2_
        (try clear hb)
        (try clear hb2)
        (try clear hk)
        (try clear hi)
        (try clear ho0)
        obtain ⟨Ao91, co91, eo91⟩ := Kd.R_slice HO148.out
        (first | subst eo91 | (injection eo91 with f1_ f2_ f3_; have f4_ := f1_.symm; have f5_ := f3_.symm; clear f1_ f2_ f3_; subst f4_; subst f5_))
        refine hK.out _ _ ⟨(blk_cell BK132.out 0).trans rfl, (blk_cell BK132.out 1).trans rfl, (blk_cell BK132.out 2).trans rfl, (blk_cell BK102.out 0).trans rfl, (blk_cell BK102.out 1).trans rfl, (blk_cell BK102.out 2).trans rfl⟩ (fun hHeld => ?_)
        clear hK K
        refine norm_ (a' := ?_) ?_ ?_
        rotate_left
        ·
         show Act.put _ (some 70) _ = _
         simp only [Act.put, List.setIfInBounds_toArray, List.set_cons_zero, List.set_cons_succ, i64_w, i32_w]
         rfl
        refine one_ (i := 3) (N := some 71) #[true, true, true, true, false] rfl rfl (by kernel_rfl) (by decide) (fun K hK => ?_)
        refine goes_ Try.func31 (by kernel_rfl) rfl #[.agg #[.int .i64 t127, .int .i64 t128, .slice Ao63 t129.length co63], .agg #[.int .i64 t144, .int .i64 t145, .slice Ao91 t146.length co91]] (by rfl) rfl rfl (by (try simp only [List.map_toArray, List.map_cons, List.map_nil]); first | done | rfl | (simp only [List.length_drop, List.length_take]; rfl)) ?_
        with_reducible refine (laws_eqField.calls kj28 t127 t128 _ _ t129 t144 t145 _ _ t146 false _ ?side1 ?side2 ?side3 ?side4 A75.out).mono ?_
        (case side1 => repeat (first | exact (Kd.R_reads' HO_133002.out).2.2 | (with_reducible refine Kd.C_alloc ?_ _) | (with_reducible refine Kd.C_drewN ?_ _) | (with_reducible refine Kd.C_drew ?_)))
        (case side2 => exact (Kd.R_reads' HO_133002.out).2.1)
        (case side3 => repeat (first | exact (Kd.R_reads' HO148.out).2.2 | (with_reducible refine Kd.C_alloc ?_ _) | (with_reducible refine Kd.C_drewN ?_ _) | (with_reducible refine Kd.C_drew ?_)))
        (case side4 => exact (Kd.R_reads' HO148.out).2.1)
        rintro e w92 ⟨rfl, hb⟩
        refine ⟨_, rfl, ?_⟩
        have n0_ := aK (Kd.R_below (pR HO_127002.out) hb)
        have n1_ := aK (Kd.R_below (pR HO_133002.out) hb)
        have n2_ := aK (Kd.R_below (pR HO142.out) hb)
        have n3_ := aK (Kd.R_below (pR HO148.out) hb)
        replace BK101 := bB BK101 hb
        replace BK102 := bB BK102 hb
        replace BK103 := bB BK103 hb
        replace BK126 := bB BK126 hb
        replace BK132 := bB BK132 hb
        replace HB := bS HB hb
        clear HO_127002 HO_133002 HO142 HO148
        have HO_127002 := n0_
        have HO_133002 := n1_
        have HO142 := n2_
        have HO148 := n3_
        clear n0_ n1_ n2_ n3_
        (try clear hb)
        (try clear hb2)
        (try clear hk)
        (try clear hi)
        refine hK.out _ _ ⟨(blk_cell BK132.out 0).trans rfl, (blk_cell BK132.out 1).trans rfl, (blk_cell BK132.out 2).trans rfl, (blk_cell BK102.out 0).trans rfl, (blk_cell BK102.out 1).trans rfl, (blk_cell BK102.out 2).trans rfl⟩ (fun hHeld => ?_)
        clear hK K
        refine norm_ (a' := ?_) ?_ ?_
        rotate_left
        ·
         show Act.put _ (some 71) _ = _
         simp only [Act.put, List.setIfInBounds_toArray, List.set_cons_zero, List.set_cons_succ, i64_w, i32_w]
         rfl
        refine pure_ (i := 4) (N := some 72) (v := ?_) (a' := ?_) #[true, true, true, true, true] rfl rfl (by kernel_rfl) (fun _ _ _ h => h) (Or.inl ⟨by rfl, ?_⟩) ?_ ?_
        rotate_left
        ·
         intro w'
         go_simp
         with_reducible rfl
        rotate_left
        ·
         simp only [Act.put, List.setIfInBounds_toArray, List.set_cons_zero, List.set_cons_succ, i64_w, i32_w]
         rfl
        refine done_ (by kernel_rfl) ?_
        try go_wp2
        go_ret
        exact ⟨by first | rfl | (simp [errW_none, errW_some] <;> rfl) | (simp [*, errW_none, errW_some] <;> rfl), by repeat (first | (with_reducible first | exact HB.out | apply below_alloc | apply pw_below_drewN | apply below_drew1) | exact HB.out)⟩
      ·
       replace c73 := Bool.eq_false_iff.mpr c73
       subst c73
       have H1 : (some false) = some r := by rw [if_neg (show ¬ (false = true) by decide)] at H; exact H
       clear H
       have H := H1
       clear H1
       obtain rfl := Option.some.inj H
       try go_wp2
       have n0_ := aK (Kd.R_drew HO_127002.out)
       have n1_ := aK (Kd.R_drew HO_133002.out)
       have n2_ := aK (blk_drew BK101.out)
       have n3_ := aK (blk_drew BK102.out)
       have n4_ := aK (blk_drew BK103.out)
       have n5_ := aK (blk_drew BK126.out)
       have n6_ := aK (blk_drew BK132.out)
       have n7_ := aK (below_drew1 HB.out)
       clear HO_127002 HO_133002 BK101 BK102 BK103 BK126 BK132 HB
       have HO_127002 := n0_
       have HO_133002 := n1_
       have BK101 := n2_
       have BK102 := n3_
       have BK103 := n4_
       have BK126 := n5_
       have BK132 := n6_
       have HB := n7_
       clear n0_ n1_ n2_ n3_ n4_ n5_ n6_ n7_
       refine start_ (n := 5) (S := fun w' => w'.cell? ⟨gb126, 0, none⟩ = some (.int .i64 t121) ∧ w'.cell? ⟨gb126, 1, none⟩ = some (.int .i64 t122) ∧ w'.cell? ⟨gb126, 2, none⟩ = some (.slice Ao54 t123.length co54) ∧ w'.cell? ⟨gb101, 0, none⟩ = some (.int .i64 a0_0) ∧ w'.cell? ⟨gb101, 1, none⟩ = some (.int .i64 a0_1) ∧ w'.cell? ⟨gb101, 2, none⟩ = some (.slice A0_2 l0_2.length c0_2)) (ds := []) #[false, false, false, false, false] (by kernel_rfl) rfl rfl ⟨(blk_cell BK126.out 0).trans rfl, (blk_cell BK126.out 1).trans rfl, (blk_cell BK126.out 2).trans rfl, (blk_cell BK101.out 0).trans rfl, (blk_cell BK101.out 1).trans rfl, (blk_cell BK101.out 2).trans rfl⟩ (fun hHeld => ?_)
       generalize wc.drew = w93 at HO_127002 HO_133002 BK101 BK102 BK103 BK126 BK132 HB hHeld ⊢
       refine take_ (i := 0) (N := some 63) (v := ?_) (a' := ?_) #[true, false, false, false, false] rfl rfl (by kernel_rfl) (fun _ _ _ h => h) (Or.inl ⟨by rfl, ?_⟩) hHeld ?_ ?_
       rotate_left
       ·
        rintro w' ⟨s0, s1, s2, s3, s4, s5⟩
        go_simp
        with_reducible rfl
       rotate_left
       ·
        simp only [Act.put, List.setIfInBounds_toArray, List.set_cons_zero, List.set_cons_succ, i64_w, i32_w]
        rfl
       refine take_ (i := 1) (N := some 64) (v := ?_) (a' := ?_) #[true, true, false, false, false] rfl rfl (by kernel_rfl) (fun _ _ _ h => h) (Or.inl ⟨by rfl, ?_⟩) hHeld ?_ ?_
       rotate_left
       ·
        rintro w' ⟨s0, s1, s2, s3, s4, s5⟩
        go_simp
        with_reducible rfl
       rotate_left
       ·
        simp only [Act.put, List.setIfInBounds_toArray, List.set_cons_zero, List.set_cons_succ, i64_w, i32_w]
        rfl
       refine one_ (i := 2) (N := some 65) #[true, true, true, false, false] rfl rfl (by kernel_rfl) (by decide) (fun K hK => ?_)
       refine goes_ Try.func28 (by kernel_rfl) rfl #[.agg #[.int .i64 a0_0, .int .i64 a0_1, .slice A0_2 l0_2.length c0_2]] (by rfl) rfl rfl (by (try simp only [List.map_toArray, List.map_cons, List.map_nil]); first | done | rfl | (simp only [List.length_drop, List.length_take]; rfl)) ?_
       with_reducible refine (laws_toField.calls kj28 a0_0 a0_1 _ _ l0_2 t138 t139 t140 _ ?side1 ?side2 A71.out).mono ?_
       (case side1 => repeat (first | exact (Kd.C_below HR0_2.out HB.out) | (with_reducible refine Kd.C_alloc ?_ _) | (with_reducible refine Kd.C_drewN ?_ _) | (with_reducible refine Kd.C_drew ?_)))
       (case side2 => exact HC0_2.out)
       rintro e w94 ⟨v141, rfl, ho0, hb⟩
       refine ⟨_, rfl, ?_⟩
       have n0_ := aK (Kd.R_elder' (pR HO_127002.out) (Kd.R_base ho0) hb)
       have n1_ := aK (Kd.R_elder' (pR HO_133002.out) (Kd.R_base ho0) hb)
       have HO142 := aK (Kd.R_lower (Kd.R_new' (Kd.R_new' ho0 (Kd.R_lt (pR HO_127002.out))) (Kd.R_lt (pR HO_133002.out))) (below_size (pS HB.out)))
       replace BK101 := bB BK101 hb
       replace BK102 := bB BK102 hb
       replace BK103 := bB BK103 hb
       replace BK126 := bB BK126 hb
       replace BK132 := bB BK132 hb
       replace HB := bS HB hb
       clear HO_127002 HO_133002
       have HO_127002 := n0_
       have HO_133002 := n1_
       clear n0_ n1_
       (try clear hb)
       (try clear hb2)
       (try clear hk)
       (try clear hi)
       (try clear ho0)
       obtain ⟨Ao95, co95, eo95⟩ := Kd.R_slice HO142.out
       (first | subst eo95 | (injection eo95 with f1_ f2_ f3_; have f4_ := f1_.symm; have f5_ := f3_.symm; clear f1_ f2_ f3_; subst f4_; subst f5_))
       refine hK.out _ _ ⟨(blk_cell BK126.out 0).trans rfl, (blk_cell BK126.out 1).trans rfl, (blk_cell BK126.out 2).trans rfl, (blk_cell BK101.out 0).trans rfl, (blk_cell BK101.out 1).trans rfl, (blk_cell BK101.out 2).trans rfl⟩ (fun hHeld => ?_)
       clear hK K
       refine norm_ (a' := ?_) ?_ ?_
       rotate_left
       ·
        show Act.put _ (some 65) _ = _
        simp only [Act.put, List.setIfInBounds_toArray, List.set_cons_zero, List.set_cons_succ, i64_w, i32_w]
        rfl
       refine one_ (i := 3) (N := some 66) #[true, true, true, true, false] rfl rfl (by kernel_rfl) (by decide) (fun K hK => ?_)
       refine goes_ Try.func31 (by kernel_rfl) rfl #[.agg #[.int .i64 t121, .int .i64 t122, .slice Ao54 t123.length co54], .agg #[.int .i64 t138, .int .i64 t139, .slice Ao95 t140.length co95]] (by rfl) rfl rfl (by (try simp only [List.map_toArray, List.map_cons, List.map_nil]); first | done | rfl | (simp only [List.length_drop, List.length_take]; rfl)) ?_
       with_reducible refine (laws_eqField.calls kj28 t121 t122 _ _ t123 t138 t139 _ _ t140 false _ ?side1 ?side2 ?side3 ?side4 A72.out).mono ?_
       (case side1 => repeat (first | exact (Kd.R_reads' HO_127002.out).2.2 | (with_reducible refine Kd.C_alloc ?_ _) | (with_reducible refine Kd.C_drewN ?_ _) | (with_reducible refine Kd.C_drew ?_)))
       (case side2 => exact (Kd.R_reads' HO_127002.out).2.1)
       (case side3 => repeat (first | exact (Kd.R_reads' HO142.out).2.2 | (with_reducible refine Kd.C_alloc ?_ _) | (with_reducible refine Kd.C_drewN ?_ _) | (with_reducible refine Kd.C_drew ?_)))
       (case side4 => exact (Kd.R_reads' HO142.out).2.1)
       rintro e w96 ⟨rfl, hb⟩
       refine ⟨_, rfl, ?_⟩
       have n0_ := aK (Kd.R_below (pR HO_127002.out) hb)
       have n1_ := aK (Kd.R_below (pR HO_133002.out) hb)
       have n2_ := aK (Kd.R_below (pR HO142.out) hb)
       replace BK101 := bB BK101 hb
       replace BK102 := bB BK102 hb
       replace BK103 := bB BK103 hb
       replace BK126 := bB BK126 hb
       replace BK132 := bB BK132 hb
       replace HB := bS HB hb
       clear HO_127002 HO_133002 HO142
       have HO_127002 := n0_
       have HO_133002 := n1_
       have HO142 := n2_
       clear n0_ n1_ n2_
       (try clear hb)
       (try clear hb2)
       (try clear hk)
       (try clear hi)
       refine hK.out _ _ ⟨(blk_cell BK126.out 0).trans rfl, (blk_cell BK126.out 1).trans rfl, (blk_cell BK126.out 2).trans rfl, (blk_cell BK101.out 0).trans rfl, (blk_cell BK101.out 1).trans rfl, (blk_cell BK101.out 2).trans rfl⟩ (fun hHeld => ?_)
       clear hK K
       refine norm_ (a' := ?_) ?_ ?_
       rotate_left
       ·
        show Act.put _ (some 66) _ = _
        simp only [Act.put, List.setIfInBounds_toArray, List.set_cons_zero, List.set_cons_succ, i64_w, i32_w]
        rfl
       refine pure_ (i := 4) (N := some 67) (v := ?_) (a' := ?_) #[true, true, true, true, true] rfl rfl (by kernel_rfl) (fun _ _ _ h => h) (Or.inl ⟨by rfl, ?_⟩) ?_ ?_
       rotate_left
       ·
        intro w'
        go_simp
        with_reducible rfl
       rotate_left
       ·
        simp only [Act.put, List.setIfInBounds_toArray, List.set_cons_zero, List.set_cons_succ, i64_w, i32_w]
        rfl
       refine done_ (by kernel_rfl) ?_
       try go_wp2
       go_ret
       exact ⟨by first | rfl | (simp [errW_none, errW_some] <;> rfl) | (simp [*, errW_none, errW_some] <;> rfl), by repeat (first | (with_reducible first | exact HB.out | apply below_alloc | apply pw_below_drewN | apply below_drew1) | exact HB.out)⟩

/-- The one plain statement of FnExactMatchOf. -/
def laws_FnExactMatchOf.Pure : Prop := ∀ (a0_0 : Int) (a0_1 : Int) (l0_2 : List Int) (a1_0 : Int) (a1_1 : Int) (l1_2 : List Int) (a2_0 : Int) (a2_1 : Int), (Lit.int .i64 a0_0).wf = true → (Lit.int .i64 a0_1).wf = true → (l0_2.length ≤ 9223372036854775807 ∧ ∀ z0 ∈ l0_2, (Lit.int .i64 z0).wf = true) → (Lit.int .i64 a1_0).wf = true → (Lit.int .i64 a1_1).wf = true → (l1_2.length ≤ 9223372036854775807 ∧ ∀ z0 ∈ l1_2, (Lit.int .i64 z0).wf = true) → (Lit.int .i64 a2_0).wf = true → (Lit.int .i64 a2_1).wf = true → ∃ k, laws_FnExactMatchOf.f k a0_0 a0_1 l0_2 a1_0 a1_1 l1_2 a2_0 a2_1 = some true

end Go.Proofs.Ytmfgjknffmjjjaa.P
/- What a Go argument reads as, opened into a Lean value of the print's kinds: whole numbers, slices, structs of two, three and four one-cell fields. No conditions. -/
namespace Go.Proofs.Ytmfgjknffmjjjaa.Open
open Go.ChangeShapes Go.WideShapes Go.RowKit Go.Deep Go.Joins Go.Proofs.YtmfgjknffmjjjaaW.PrintWords

/-- Whatever is read as a datum of type t holds a value of kind d that meets wf. -/
def Opens {α : Type} (P : Program) (t : TypeId) (d : Kd α) (wf : α → Prop) : Prop :=
  ∀ {H : Type} {enc : TypeId × Value → H} {W : World} {fuel : Nat} {cs : List Value} {x : DataW H × List MemPlace},
    DataW.trod enc P W 0 (fun _ => true) true fuel t cs = some x → ∃ y, d.K W y cs ∧ wf y

theorem opens_int {P : Program} {t : TypeId} {k : IntKind} (h : P.underlying t = some (.int k)) : Opens P t (Kd.int k) (fun n => (Lit.int k n).wf = true) := by
  intro H enc W fuel cs x hx
  obtain ⟨n, rfl, _, hw⟩ := DataW.trod_int h hx
  exact ⟨n, rfl, hw⟩

theorem list_of {α : Type} {p : Nat → α → Prop} : ∀ (n : Nat), (∀ i, i < n → ∃ y, p i y) → ∃ ys : List α, ys.length = n ∧ ∀ (i : Nat) (y : α), ys[i]? = some y → p i y
  | 0, _ => ⟨[], rfl, fun i y h => by simp at h⟩
  | n + 1, h => by
    obtain ⟨ys, hl, hy⟩ := list_of n (fun i hi => h i (by omega))
    obtain ⟨y, hp⟩ := h n (by omega)
    refine ⟨ys ++ [y], by simp [hl], fun i z hz => ?_⟩
    by_cases hi : i < n
    · rw [List.getElem?_append_left (by omega)] at hz
      exact hy i z hz
    · have hi2 : i = n := by
        have := (List.getElem?_eq_some_iff.1 hz).1
        simp [hl] at this
        omega
      subst hi2
      rw [List.getElem?_append_right (by omega), hl] at hz
      simp at hz
      subst hz
      exact hp

theorem opens_slice {α : Type} {P : Program} {t e : TypeId} {d : Kd α} {wf : α → Prop} (h : P.underlying t = some (.slice e)) (hc : P.cellsOf e = d.sz) (he : Opens P e d wf) :
    Opens P t (Kd.slice e d) (fun l => l.length ≤ 9223372036854775807 ∧ ∀ x ∈ l, wf x) := by
  intro H enc W fuel cs x hx
  rcases open_slice h hx with ⟨rfl, _⟩ | ⟨a, len, cap, m, n, D, Pl, rfl, _, hl, hm, hmm, _, hx⟩
  · exact ⟨[], ⟨none, 0, rfl, by simp, Kd.C_nil d W⟩, by simp, by simp⟩
  · obtain ⟨ys, hlen, hy⟩ := list_of (p := fun i y => ∃ cs', W.cells? 0 (a.add (i * P.cellsOf e)) (P.cellsOf e) = some cs' ∧ d.K W y cs' ∧ wf y) len (fun i hi => by
      obtain ⟨cs', h1, h2⟩ := hx i (by rw [hmm]; split <;> omega)
      obtain ⟨y, hK, hw⟩ := he h2
      exact ⟨y, cs', h1, hK, hw⟩)
    have hm' : cap ≤ 9223372036854775807 := by simpa [maxLen] using hm
    refine ⟨ys, ⟨some a, cap, by rw [hlen], by omega, ⟨rfl, by omega, fun _ => ⟨a, rfl, fun j y hj => ?_⟩⟩⟩, by omega, fun y hmem => ?_⟩
    · obtain ⟨cs', h1, hK, _⟩ := hy j y hj
      obtain ⟨_, hl2, hcell⟩ := World.cells?_some h1
      refine ⟨cs', d.K_len hK, hK, fun i u hu => ?_⟩
      have hi : i < P.cellsOf e := by
        have := (List.getElem?_eq_some_iff.1 hu).1
        omega
      rw [← hc, ← Go.Deep.add_add, hcell i hi]
      exact hu
    · obtain ⟨j, hj⟩ := List.getElem?_of_mem hmem
      obtain ⟨_, _, _, hw⟩ := hy j y hj
      exact hw

theorem int_cell {k : IntKind} {W : World} {y : Int} {v : Value} (h : (Kd.int k).K W y [v]) : v = .int k y := by
  have h' : [v] = [Value.int k y] := h
  simpa using h'
theorem slice_cell {α : Type} {d : Kd α} {e : Nat} {W : World} {l : List α} {v : Value} (h : (Kd.slice e d).K W l [v]) : ∃ A c, v = .slice A l.length c ∧ l.length ≤ c ∧ d.C W A l.length l := by
  obtain ⟨A, c, hc, hl, hC⟩ := h
  exact ⟨A, c, by simpa using hc, hl, hC⟩

section
variable {P : Program} {t : TypeId} {W : World} {H : Type} {enc : TypeId × Value → H} {r : Reach} {b0 : Nat} {v : Value} {d : DataW H} {p : List MemPlace}
theorem agg2_at {α0 α1 : Type} {f0 f1 : Field} {d0 : Kd α0} {d1 : Kd α1} {w0 : α0 → Prop} {w1 : α1 → Prop} (hs : P.underlying t = some (.struct #[f0, f1])) (hone : oneCellFields P #[f0, f1] = true) (hC : P.cellsOf t = 2)
    (h0 : Opens P f0.type d0 w0) (h1 : Opens P f1.type d1 w1) (hv : Value.okWide P W r b0 t v) (h : DataW.Trod enc P W 0 (fun _ => true) true t v d p) :
    ∃ (v0 v1 : Value) (y0 : α0) (y1 : α1), v = .agg #[v0, v1] ∧ d0.K W y0 [v0] ∧ w0 y0 ∧ d1.K W y1 [v1] ∧ w1 y1 := by
  obtain ⟨v0, v1, _, _, _, rfl, _, _, e0, e1⟩ := open_agg2 hs hone hC hv h
  obtain ⟨y0, K0, W0⟩ := h0 e0
  obtain ⟨y1, K1, W1⟩ := h1 e1
  exact ⟨v0, v1, y0, y1, rfl, K0, W0, K1, W1⟩
theorem agg3_at {α0 α1 α2 : Type} {f0 f1 f2 : Field} {d0 : Kd α0} {d1 : Kd α1} {d2 : Kd α2} {w0 : α0 → Prop} {w1 : α1 → Prop} {w2 : α2 → Prop} (hs : P.underlying t = some (.struct #[f0, f1, f2])) (hone : oneCellFields P #[f0, f1, f2] = true)
    (hC : P.cellsOf t = 3) (h0 : Opens P f0.type d0 w0) (h1 : Opens P f1.type d1 w1) (h2 : Opens P f2.type d2 w2) (hv : Value.okWide P W r b0 t v) (h : DataW.Trod enc P W 0 (fun _ => true) true t v d p) :
    ∃ (v0 v1 v2 : Value) (y0 : α0) (y1 : α1) (y2 : α2), v = .agg #[v0, v1, v2] ∧ d0.K W y0 [v0] ∧ w0 y0 ∧ d1.K W y1 [v1] ∧ w1 y1 ∧ d2.K W y2 [v2] ∧ w2 y2 := by
  obtain ⟨v0, v1, v2, _, _, _, _, rfl, _, _, e0, e1, e2⟩ := open_agg3 hs hone hC hv h
  obtain ⟨y0, K0, W0⟩ := h0 e0
  obtain ⟨y1, K1, W1⟩ := h1 e1
  obtain ⟨y2, K2, W2⟩ := h2 e2
  exact ⟨v0, v1, v2, y0, y1, y2, rfl, K0, W0, K1, W1, K2, W2⟩
end

end Go.Proofs.Ytmfgjknffmjjjaa.Open
namespace Go.Proofs.Ytmfgjknffmjjjaa.P
open Go.RowKit Go.Proofs.YtmfgjknffmjjjaaW.PrintWords Go.Proofs.YtmfgjknffmjjjaaW.PrintLast Go.Proofs.YtmfgjknffmjjjaaW.PrintMore
attribute [local go_sem] max2_int min2_int max_two min_two max_three min_three max_four min_four   -- for this text's walks alone
set_option linter.unusedVariables false
set_option linter.unusedSimpArgs false

open Go.Proofs.Ytmfgjknffmjjjaa.Open
end Go.Proofs.Ytmfgjknffmjjjaa.P
/- Plain words for the laws' plain proofs: rounds that end, loops over an index, lists read at an index. No conditions. -/
namespace Go.Proofs.Ytmfgjknffmjjjaa.Pure
set_option linter.unusedVariables false
set_option linter.unusedSimpArgs false
open Go.RowKit Go.Proofs.YtmfgjknffmjjjaaW.PrintWords Go.Proofs.YtmfgjknffmjjjaaW.PrintLast Go.Proofs.YtmfgjknffmjjjaaW.PrintMore

theorem w64 {x : Int} (h0 : -9223372036854775808 ≤ x) (h1 : x ≤ 9223372036854775807) : wrap64 x = x := by
  unfold wrap64
  omega
theorem w64n {n : Nat} (h : n ≤ 9223372036854775807) : wrap64 (n : Int) = (n : Int) := w64 (by omega) (by omega)
theorem rd_nat (xs : List Int) (i : Nat) : rd xs (i : Int) = xs.getD i 0 := by simp [rd]
section
variable {α β : Type} {f g : Nat → Option α} {r : α}
theorem ev_some (r : α) : Ev (fun _ => some r) r := ⟨0, fun _ _ => rfl⟩
theorem ev_ifp {c : Prop} [Decidable c] (h : c) (k : Ev f r) : Ev (fun n => if c then f n else g n) r := Ev.congr (fun _ => if_pos h) k
theorem ev_ifn {c : Prop} [Decidable c] (h : ¬ c) (k : Ev g r) : Ev (fun n => if c then f n else g n) r := Ev.congr (fun _ => if_neg h) k
theorem ev_bind {F : Nat → α → Option β} {q : β} (h : Ev g r) (k : Ev (fun n => F n r) q) : Ev (fun n => (g n).bind (fun x => F n x)) q := by
  obtain ⟨K1, h1⟩ := h
  obtain ⟨K2, h2⟩ := k
  exact ⟨K1 + K2, fun n hn => by show (g n).bind (fun x => F n x) = some q; rw [h1 n (by omega)]; exact h2 n (by omega)⟩
theorem ev_const {a : Option α} (h : a = some r) : Ev (fun _ => a) r := ⟨0, fun _ _ => h⟩
theorem ev_step (h : ∀ k, g (k + 1) = f k) (k : Ev f r) : Ev g r := by
  obtain ⟨K, h1⟩ := k
  refine ⟨K + 1, fun n hn => ?_⟩
  obtain ⟨m, rfl⟩ : ∃ m, n = m + 1 := ⟨n - 1, by omega⟩
  rw [h m]
  exact h1 m (by omega)
end

/-- A state that d rounds turn, from round i on. -/
def iter {σ : Type} (g : Nat → σ → σ) : Nat → Nat → σ → σ
  | _, 0, s => s
  | i, d + 1, s => iter g (i + 1) d (g i s)

theorem loop_ev {σ ρ : Type} (F : Nat → σ → Nat → Option ρ) (n : Nat) (g : Nat → σ → σ) (fin : σ → ρ) (I : Nat → σ → Prop)
    (hs : ∀ i s r, I i s → i < n → Ev (fun k => F k (g i s) (i + 1)) r → Ev (fun k => F k s i) r) (hI : ∀ i s, I i s → i < n → I (i + 1) (g i s))
    (he : ∀ s, I n s → Ev (fun k => F k s n) (fin s)) : ∀ i s, i ≤ n → I i s → Ev (fun k => F k s i) (fin (iter g i (n - i) s)) := by
  have key : ∀ d i s, n - i = d → i ≤ n → I i s → Ev (fun k => F k s i) (fin (iter g i d s)) := by
    intro d
    induction d with
    | zero =>
      intro i s h0 h1 h2
      obtain rfl : i = n := by omega
      exact he s h2
    | succ d ih =>
      intro i s h0 h1 h2
      exact hs i s _ h2 (by omega) (ih (i + 1) (g i s) (by omega) (by omega) (hI i s h2 (by omega)))
  exact fun i s h1 h2 => key (n - i) i s rfl h1 h2

theorem iter_inv {σ : Type} (g : Nat → σ → σ) (I : Nat → σ → Prop) (n : Nat) (hI : ∀ i s, I i s → i < n → I (i + 1) (g i s)) : ∀ d i s, i + d = n → I i s → I n (iter g i d s) := by
  intro d
  induction d with
  | zero => intro i s h0 h1; obtain rfl : i = n := by omega
            exact h1
  | succ d ih => intro i s h0 h1; exact ih (i + 1) _ (by omega) (hI i s h1 (by omega))

/-- Do all of d indices from i on say yes? -/
def rall (p : Nat → Bool) : Nat → Nat → Bool
  | _, 0 => true
  | i, d + 1 => p i && rall p (i + 1) d
theorem rall_iff (p : Nat → Bool) : ∀ d i, rall p i d = true ↔ ∀ j, i ≤ j → j < i + d → p j = true
  | 0, i => ⟨fun _ j h1 h2 => by omega, fun _ => rfl⟩
  | d + 1, i => by
    show (p i && rall p (i + 1) d) = true ↔ _
    rw [Bool.and_eq_true, rall_iff p d (i + 1)]
    constructor
    · rintro ⟨h0, h1⟩ j h2 h3
      by_cases e : j = i
      · rw [e]; exact h0
      · exact h1 j (by omega) (by omega)
    · intro h
      exact ⟨h i (Nat.le_refl _) (by omega), fun j h2 h3 => h j (by omega) (by omega)⟩
/-- A loop that ends with 'no' at the first index that fails, and with 'yes' (or what follows) behind all. -/
theorem all_ev {ρ : Type} (F : Nat → Nat → Option ρ) (n : Nat) (p : Nat → Bool) (no yes : ρ) (hs : ∀ i r, i < n → p i = true → Ev (fun k => F k (i + 1)) r → Ev (fun k => F k i) r)
    (hn : ∀ i, i < n → p i = false → Ev (fun k => F k i) no) (he : Ev (fun k => F k n) yes) :
    ∀ i, i ≤ n → Ev (fun k => F k i) (if rall p i (n - i) = true then yes else no) := by
  have key : ∀ d i, n - i = d → i ≤ n → Ev (fun k => F k i) (if rall p i d = true then yes else no) := by
    intro d
    induction d with
    | zero =>
      intro i h0 h1
      obtain rfl : i = n := by omega
      rw [show rall p i 0 = true from rfl, if_pos rfl]
      exact he
    | succ d ih =>
      intro i h0 h1
      have h := ih (i + 1) (by omega) (by omega)
      have e : rall p i (d + 1) = (p i && rall p (i + 1) d) := rfl
      cases hp : p i with
      | true =>
        rw [e, hp, Bool.true_and]
        exact hs i _ (by omega) hp h
      | false =>
        rw [e, hp, Bool.false_and, if_neg (by simp)]
        exact hn i (by omega) hp
  exact fun i h1 => key (n - i) i rfl h1
/-- The same, where the answer is a bool. -/
theorem allb_ev (F : Nat → Nat → Option Bool) (n : Nat) (p : Nat → Bool) (hs : ∀ i r, i < n → p i = true → Ev (fun k => F k (i + 1)) r → Ev (fun k => F k i) r)
    (hn : ∀ i, i < n → p i = false → Ev (fun k => F k i) false) (he : Ev (fun k => F k n) true) : Ev (fun k => F k 0) (rall p 0 n) := by
  have h := all_ev F n p false true hs hn he 0 (Nat.zero_le _)
  rw [Nat.sub_zero] at h
  cases e : rall p 0 n <;> simpa [e] using h

theorem getD_eq_get {α : Type} {xs : List α} {i : Nat} (z : α) (h : i < xs.length) : xs.getD i z = xs[i] := by simp [List.getD, List.getElem?_eq_getElem h]
theorem rall_list {α : Type} (xs : List α) (z : α) (p : α → Bool) : rall (fun j => p (xs.getD j z)) 0 xs.length = xs.all p := by
  rw [Bool.eq_iff_iff, rall_iff, List.all_eq_true]
  constructor
  · intro h x hx
    obtain ⟨i, hi, rfl⟩ := List.getElem_of_mem hx
    rw [← getD_eq_get z hi]
    exact h i (Nat.zero_le _) (by omega)
  · intro h j _ hj
    rw [getD_eq_get z (by omega)]
    exact h _ (List.getElem_mem (by omega))
theorem eq_index {α : Type} {xs ys : List α} (z : α) (h : xs.length = ys.length) (hh : ∀ j, j < xs.length → xs.getD j z = ys.getD j z) : xs = ys := by
  refine List.ext_getElem h (fun i h1 h2 => ?_)
  rw [← getD_eq_get z h1, ← getD_eq_get z h2]
  exact hh i h1
theorem rall_eq {α : Type} [DecidableEq α] {xs ys : List α} (z : α) (h : xs.length = ys.length) : rall (fun j => decide (xs.getD j z = ys.getD j z)) 0 xs.length = decide (xs = ys) := by
  rw [Bool.eq_iff_iff, rall_iff, decide_eq_true_eq]
  constructor
  · exact fun hh => eq_index z h (fun j hj => by simpa using hh j (Nat.zero_le _) (by omega))
  · rintro rfl j _ _
    simp

theorem iter_add {σ : Type} (g : Nat → σ → σ) : ∀ a i b s, iter g i (a + b) s = iter g (i + a) b (iter g i a s) := by
  intro a
  induction a with
  | zero => intro i b s; rw [Nat.zero_add]; rfl
  | succ a ih =>
    intro i b s
    rw [show a + 1 + b = (a + b) + 1 by omega]
    show iter g (i + 1) (a + b) (g i s) = _
    rw [ih (i + 1) b (g i s)]
    show _ = iter g (i + (a + 1)) b (iter g (i + 1) a (g i s))
    rw [show i + 1 + a = i + (a + 1) by omega]
theorem iter_congr {σ : Type} {g h : Nat → σ → σ} : ∀ d i s, (∀ j s, i ≤ j → j < i + d → g j s = h j s) → iter g i d s = iter h i d s := by
  intro d
  induction d with
  | zero => intro i s _; rfl
  | succ d ih =>
    intro i s hh
    show iter g (i + 1) d (g i s) = iter h (i + 1) d (h i s)
    rw [hh i s (Nat.le_refl _) (by omega)]
    exact ih (i + 1) _ (fun j s h1 h2 => hh j s (by omega) (by omega))
/-- Rows of w cells, one behind the other: the rounds of two loops are the rounds of one. -/
theorem grid_ev {σ ρ : Type} (F0 : Nat → σ → Nat → Option ρ) (F1 : Nat → σ → Nat → Nat → Option ρ) (w h : Nat) (g : Nat → σ → σ) (fin : σ → ρ) (I : Nat → σ → Prop)
    (hout : ∀ y s r, I (y * w) s → y < h → Ev (fun k => F1 k s y 0) r → Ev (fun k => F0 k s y) r)
    (hin : ∀ y x s r, I (y * w + x) s → y < h → x < w → Ev (fun k => F1 k (g (y * w + x) s) y (x + 1)) r → Ev (fun k => F1 k s y x) r)
    (hI : ∀ y x s, I (y * w + x) s → y < h → x < w → I (y * w + (x + 1)) (g (y * w + x) s))
    (hrow : ∀ y s r, I (y * w + w) s → y < h → Ev (fun k => F0 k s (y + 1)) r → Ev (fun k => F1 k s y w) r)
    (hend : ∀ s, I (h * w) s → Ev (fun k => F0 k s h) (fin s)) : ∀ s, I 0 s → Ev (fun k => F0 k s 0) (fin (iter g 0 (h * w) s)) := by
  have row : ∀ d y x s r, w - x = d → x ≤ w → y < h → I (y * w + x) s → Ev (fun k => F0 k (iter g (y * w + x) d s) (y + 1)) r → Ev (fun k => F1 k s y x) r := by
    intro d
    induction d with
    | zero =>
      intro y x s r h0 h1 h2 h3 h4
      obtain rfl : x = w := by omega
      exact hrow y s r h3 h2 h4
    | succ d ih =>
      intro y x s r h0 h1 h2 h3 h4
      exact hin y x s r h3 h2 (by omega) (ih y (x + 1) _ r (by omega) (by omega) h2 (hI y x s h3 h2 (by omega)) h4)
  have rowI : ∀ d y x s, w - x = d → x ≤ w → y < h → I (y * w + x) s → I (y * w + w) (iter g (y * w + x) d s) := by
    intro d
    induction d with
    | zero =>
      intro y x s h0 h1 h2 h3
      obtain rfl : x = w := by omega
      exact h3
    | succ d ih =>
      intro y x s h0 h1 h2 h3
      exact ih y (x + 1) _ (by omega) (by omega) h2 (hI y x s h3 h2 (by omega))
  have key : ∀ d y s, h - y = d → y ≤ h → I (y * w) s → Ev (fun k => F0 k s y) (fin (iter g (y * w) (d * w) s)) := by
    intro d
    induction d with
    | zero =>
      intro y s h0 h1 h2
      obtain rfl : y = h := by omega
      rw [Nat.zero_mul]
      exact hend s h2
    | succ d ih =>
      intro y s h0 h1 h2
      have hb := rowI w y 0 s (by omega) (Nat.zero_le _) (by omega) h2
      have e1 : y * w + w = (y + 1) * w := by rw [Nat.add_mul, Nat.one_mul]
      rw [Nat.add_zero] at hb
      rw [e1] at hb
      have hk := ih (y + 1) _ (by omega) (by omega) hb
      rw [show (d + 1) * w = w + d * w by rw [Nat.add_mul, Nat.one_mul]; omega, iter_add, e1]
      exact hout y s _ h2 (by omega) (row w y 0 s _ (by omega) (Nat.zero_le _) (by omega) h2 hk)
  intro s h0
  have hk := key h 0 s (by omega) (Nat.zero_le _) (by rw [Nat.zero_mul]; exact h0)
  rw [Nat.zero_mul] at hk
  exact hk

end Go.Proofs.Ytmfgjknffmjjjaa.Pure
/- Lists told index by index, and loops with a number of rounds that is told. No conditions. -/
namespace Go.Proofs.Ytmfgjknffmjjjaa.Pure
set_option linter.unusedVariables false
set_option linter.unusedSimpArgs false
open Go.RowKit Go.Proofs.YtmfgjknffmjjjaaW.PrintWords Go.Proofs.YtmfgjknffmjjjaaW.PrintLast Go.Proofs.YtmfgjknffmjjjaaW.PrintMore
/-- The list of q 0, q 1, .., q (n - 1). -/
def tab {α : Type} (n : Nat) (q : Nat → α) : List α := (List.range n).map q
theorem tab_length {α : Type} (n : Nat) (q : Nat → α) : (tab n q).length = n := by simp [tab]
theorem tab_getD {α : Type} (n : Nat) (q : Nat → α) (z : α) {i : Nat} (h : i < n) : (tab n q).getD i z = q i := by simp [tab, List.getD, h]
theorem tab_mem {α : Type} {n : Nat} {q : Nat → α} {x : α} : x ∈ tab n q ↔ ∃ i, i < n ∧ q i = x := by simp [tab]
/-- Cells that are set one behind the other. -/
theorem iter_set_tab {α : Type} (z : α) (q : Nat → α) (n : Nat) (s : List α) (hs : s.length = n) : iter (fun i (s : List α) => s.set i (q i)) 0 n s = tab n q := by
  have hi := iter_inv (fun i (s : List α) => s.set i (q i)) (fun i s => s.length = n ∧ ∀ j, j < i → s.getD j z = q j) n
    (fun i s hI hi => ⟨by simp [hI.1], fun j hj => by
      by_cases e : j = i
      · subst e
        have := hI.1
        simp [List.getD, List.getElem?_set_self (show j < s.length by omega)]
      · rw [← hI.2 j (by omega)]
        simp [List.getD, List.getElem?_set_ne (Ne.symm e)]⟩) n 0 s (by omega) ⟨hs, fun j hj => by omega⟩
  exact eq_index z (by rw [hi.1, tab_length]) (fun j hj => by rw [hi.2 j (by have := hi.1; omega), tab_getD _ _ z (by have := hi.1; omega)])
/-- A loop, with more rounds than it takes. -/
theorem loop_at {σ ρ : Type} (F : Nat → σ → Nat → Option ρ) (n : Nat) (g : Nat → σ → σ) (fin : σ → ρ) (I : Nat → σ → Prop)
    (hs : ∀ k i s, I i s → i < n → F (k + 1) s i = F k (g i s) (i + 1)) (hI : ∀ i s, I i s → i < n → I (i + 1) (g i s))
    (he : ∀ k s, I n s → F (k + 1) s n = some (fin s)) : ∀ d k i s, n - i = d → i ≤ n → I i s → d < k → F k s i = some (fin (iter g i d s)) := by
  intro d
  induction d with
  | zero =>
    intro k i s h0 h1 h2 hk
    obtain ⟨k, rfl⟩ : ∃ m, k = m + 1 := ⟨k - 1, by omega⟩
    obtain rfl : i = n := by omega
    exact he k s h2
  | succ d ih =>
    intro k i s h0 h1 h2 hk
    obtain ⟨k, rfl⟩ : ∃ m, k = m + 1 := ⟨k - 1, by omega⟩
    rw [hs k i s h2 (by omega)]
    exact ih k (i + 1) (g i s) (by omega) (by omega) (hI i s h2 (by omega)) (by omega)
/-- Finitely many answers, with one number of rounds. -/
theorem ev_all {β : Type} (f : Nat → Nat → Option β) (q : Nat → β) (n : Nat) (h : ∀ i, i < n → Ev (fun k => f k i) (q i)) : ∃ K, ∀ k, K ≤ k → ∀ i, i < n → f k i = some (q i) := by
  induction n with
  | zero => exact ⟨0, fun k _ i hi => by omega⟩
  | succ n ih =>
    obtain ⟨K1, h1⟩ := ih (fun i hi => h i (by omega))
    obtain ⟨K2, h2⟩ := h n (by omega)
    refine ⟨K1 + K2, fun k hk i hi => ?_⟩
    by_cases e : i = n
    · rw [e]; exact h2 k (by omega)
    · exact h1 k (by omega) i (by omega)
end Go.Proofs.Ytmfgjknffmjjjaa.Pure
/- 'Within' of the program and of the reference: the same test. No conditions. -/
namespace Go.Proofs.Ytmfgjknffmjjjaa.Pure
set_option linter.unusedVariables false
set_option linter.unusedSimpArgs false
open Go.RowKit Go.Proofs.Ytmfgjknffmjjjaa.P Go.Proofs.YtmfgjknffmjjjaaW.PrintWords Go.Proofs.YtmfgjknffmjjjaaW.PrintLast
def inb (x a b : Int) : Bool := decide (a ≤ x) && decide (x ≤ b)
theorem inb_iff {x a b : Int} : inb x a b = true ↔ a ≤ x ∧ x ≤ b := by simp [inb]
theorem l1In_is (x a b : Int) : spec_l1In.f x a b = some (inb x a b) := by
  unfold spec_l1In.f inb
  split
  · rename_i h; simp [show a ≤ x from h]
  · rename_i h; simp [show ¬ a ≤ x from h]
theorem within_is (x a b : Int) : impl_within.f x a b = some (inb x a b) := l1In_is x a b
end Go.Proofs.Ytmfgjknffmjjjaa.Pure
