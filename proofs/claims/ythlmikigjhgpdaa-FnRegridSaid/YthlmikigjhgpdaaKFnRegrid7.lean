/- Texts of the claim FnRegrid, merged: part 7 of 13: the program's and the reference's functions as Lean functions, the walks that show it, and plain lemmas; no conditions. -/
import Derived.Test.YthlmikigjhgpdaaKFnRegrid3
import Derived.Test.YthlmikigjhgpdaaKFnRegrid6
namespace Go.Proofs.Ythlmikigjhgpdaa.P
open Go.RowKit Go.Proofs.YthlmikigjhgpdaaW.PrintWords Go.Proofs.YthlmikigjhgpdaaW.PrintLast Go.Proofs.YthlmikigjhgpdaaW.PrintMore
attribute [local go_sem] max2_int min2_int max_two min_two max_three min_three max_four min_four
set_option linter.unusedVariables false
set_option linter.unusedSimpArgs false
set_option maxHeartbeats 8000000
set_option maxRecDepth 100000
mutual
def spec_l7Blocks.l0 : Nat → Int → Int → Int → Int → Int → List Int → Int → Int → List Int → Option (Int × Int × List Int)
 | 0, _, _, _, _, _, _, _, _, _ => none
 | k + 1, x1, x2, x8, x102000, x102001, x102002, x109000, x109001, x109002 => if x8 < x102001 then (spec_l7Blocks.l1 k x1 x2 x8 0 x102000 x102001 x102002 x109000 x109001 x109002) else (some (x109000, x109001, x109002))
def spec_l7Blocks.l1 : Nat → Int → Int → Int → Int → Int → Int → List Int → Int → Int → List Int → Option (Int × Int × List Int)
 | 0, _, _, _, _, _, _, _, _, _, _ => none
 | k + 1, x1, x2, x8, x9, x102000, x102001, x102002, x109000, x109001, x109002 => if x9 < x102000 then (if x2 = 0 then (none) else (if x1 = 0 then (none) else (if 0 ≤ (wrap64 ((wrap64 ((wrap64 (Int.tdiv x8 x2)) * x109000)) + (wrap64 (Int.tdiv x9 x1)))) then (if (wrap64 ((wrap64 ((wrap64 (Int.tdiv x8 x2)) * x109000)) + (wrap64 (Int.tdiv x9 x1)))) < (x109002.length : Int) then ((spec_l2At.f x102000 x102001 x102002 x9 x8).bind fun t110 => (spec_l7Blocks.l1 k x1 x2 x8 (wrap64 (x9 + 1)) x102000 x102001 x102002 x109000 x109001 (x109002.set ((wrap64 ((wrap64 ((wrap64 (Int.tdiv x8 x2)) * x109000)) + (wrap64 (Int.tdiv x9 x1)))) : Int).toNat (wrap64 ((rd x109002 (wrap64 ((wrap64 ((wrap64 (Int.tdiv x8 x2)) * x109000)) + (wrap64 (Int.tdiv x9 x1))))) + t110))))) else (none)) else (none)))) else (spec_l7Blocks.l0 k x1 x2 (wrap64 (x8 + 1)) x102000 x102001 x102002 x109000 x109001 x109002)
end
def spec_l7Blocks.f (k : Nat) (a0_0 : Int) (a0_1 : Int) (l0_2 : List Int) (a1 : Int) (a2 : Int) : Option (Int × Int × List Int) := if a1 = 0 then (none) else (if a2 = 0 then (none) else ((spec_l2Fill.f k (wrap64 (Int.tdiv a0_0 a1)) (wrap64 (Int.tdiv a0_1 a2)) 0).bind fun bt103 => (spec_l7Blocks.l0 k a1 a2 0 a0_0 a0_1 l0_2 bt103.1 bt103.2.1 bt103.2.2)))
def spec_l7Blocks.T1 : Bool × List (List Nat × List Nat) := (true, [([], []), ([0], [0]), ([], []), ([1, 2], [1, 2]), ([], []), ([4], [4]), ([], []), ([5, 6], [5, 6]), ([3, 7], [3, 7]), ([], []), ([9, 8, 8, 0, 1, 2, 3, 4, 5, 6, 7, 8, 9], [8, 9])])
def spec_l7Blocks.B1 : List Nat := [0, 1, 0, 7, 0, 16, 0, 112, 255, 0, 1023]
theorem spec_l7Blocks.tab1 : rtab .any (opsOf Try.f41 1) = spec_l7Blocks.T1 := by kernel_rfl
theorem spec_l7Blocks.bits1 : waitsOk spec_l7Blocks.T1.2 spec_l7Blocks.B1 = true := by kernel_rfl
def spec_l7Blocks.T8 : Bool × List (List Nat × List Nat) := (true, [([], []), ([], []), ([0, 1], [0, 1]), ([], []), ([3], [3]), ([2, 4], [2, 4]), ([], []), ([], []), ([6, 7], [6, 7]), ([5, 8], [5, 8]), ([9, 0, 1, 2, 3, 4, 5, 6, 7, 8, 9], [9])])
def spec_l7Blocks.B8 : List Nat := [0, 0, 3, 0, 8, 31, 0, 0, 192, 511, 1023]
theorem spec_l7Blocks.tab8 : rtab .any (opsOf Try.f41 8) = spec_l7Blocks.T8 := by kernel_rfl
theorem spec_l7Blocks.bits8 : waitsOk spec_l7Blocks.T8.2 spec_l7Blocks.B8 = true := by kernel_rfl
def spec_l7Blocks.T9 : Bool × List (List Nat × List Nat) := (true, [([], []), ([0], [0]), ([], []), ([], []), ([3], [3]), ([], []), ([4, 5], [4, 5]), ([6], [6]), ([], []), ([], []), ([], []), ([8, 9, 10], [8, 9, 10]), ([7, 11], [7, 11]), ([1, 2, 0, 1, 2, 3, 4, 5, 6, 7, 8, 9, 10, 11, 12], [1, 2]), ([13, 12, 11, 0, 1, 2, 3, 4, 5, 6, 7, 8, 9, 10, 11, 12], [12, 13])])
def spec_l7Blocks.B9 : List Nat := [0, 1, 0, 0, 8, 0, 56, 120, 0, 0, 0, 1792, 4088, 8191, 16383]
theorem spec_l7Blocks.tab9 : rtab .any (opsOf Try.f41 9) = spec_l7Blocks.T9 := by kernel_rfl
theorem spec_l7Blocks.bits9 : waitsOk spec_l7Blocks.T9.2 spec_l7Blocks.B9 = true := by kernel_rfl
theorem spec_l7Blocks.calls (k : Nat) (a0_0 : Int) (a0_1 : Int) (A0_2 : Option Addr) (c0_2 : Nat) (l0_2 : List Int) (a1 : Int) (a2 : Int) (r1 : Int) (r2 : Int) (r3 : List Int) (w : World) (hr0_2 : Kd.C (Kd.int .i64) w A0_2 l0_2.length l0_2) (hc0_2 : l0_2.length ≤ c0_2) (h : spec_l7Blocks.f k a0_0 a0_1 l0_2 a1 a2 = some (r1, r2, r3)) :
  Calls Try.prog 41 #[.agg #[.int .i64 a0_0, .int .i64 a0_1, .slice A0_2 l0_2.length c0_2], .int .i64 a1, .int .i64 a2] w fun e w' => ∃ v2_ : Value, e = .returned (.agg #[.int .i64 r1, .int .i64 r2, v2_]) ∧ Kd.R (Kd.int .i64) 3 w' w.heap.size (fun _ => True) v2_ r3 ∧ Below w.heap.size w w' := by
 have hu26 := Try.underlying26
 have HR0_2 := Aside0.mk hr0_2
 have HC0_2 := Aside0.mk hc0_2
 clear hr0_2 hc0_2
 have HB := aK (Below.refl w.heap.size w)
 have H : (if a1 = 0 then (none) else (if a2 = 0 then (none) else ((spec_l2Fill.f k (wrap64 (Int.tdiv a0_0 a1)) (wrap64 (Int.tdiv a0_1 a2)) 0).bind fun bt103 => (spec_l7Blocks.l0 k a1 a2 0 a0_0 a0_1 l0_2 bt103.1 bt103.2.1 bt103.2.2)))) = some (r1, r2, r3) := h
 clear h
 by_cases c4 : a1 = 0
 ·
  rw [if_pos c4] at H
  exact absurd H (by simp)
 rw [if_neg c4] at H
 have c4b0 : (a1 == 0) = false := beq_eq_false_iff_ne.mpr c4
 have c4b1 : (a1 != 0) = true := bne_iff_ne.mpr c4
 by_cases c5 : a2 = 0
 ·
  rw [if_pos c5] at H
  exact absurd H (by simp)
 rw [if_neg c5] at H
 have c5b0 : (a2 == 0) = false := beq_eq_false_iff_ne.mpr c5
 have c5b1 : (a2 != 0) = true := bne_iff_ne.mpr c5
 replace H := Option.bind_eq_some_iff.mp H
 obtain ⟨⟨t103, t104, t105⟩, A60, H⟩ := H
 replace H : (spec_l7Blocks.l0 k a1 a2 0 a0_0 a0_1 l0_2 t103 t104 t105) = some (r1, r2, r3) := H
 have A6 := Aside0.mk A60
 clear A60
 have H' := Aside0.mk H
 clear H
 go_enter Try.func41, Try.ntmps41
 try go_wp2_with (first | ((with_reducible refine gate_dst (N := 3) rfl ?_); refine bxe (cs := #[.int .i64 a0_0, .int .i64 a0_1, .slice A0_2 l0_2.length c0_2]) (t := 26) ?_; intro gb101 hg w7 hbox hb; have BK101 := aK (hbox); have GW101 := aK (gE hg (pS HB.out)); have GE101 := GW101; replace HB := bS HB hb; clear hb hbox hg) | ((with_reducible refine gate_dst (N := 6) rfl ?_); refine bxe (cs := #[.int .i64 0, .int .i64 0, .slice none 0 0]) (t := 26) ?_; intro gb102 hg w8 hbox hb; have BK102 := aK (hbox); have GW102 := aK (gE hg (pS HB.out)); have GE102 := GW102; obtain ⟨NB101_102, NB102_101⟩ := nb hg (pB BK101.out); replace BK101 := bB BK101 hb; replace HB := bS HB hb; clear hb hbox hg))
 have n0_ := aK (blk_drew BK101.out)
 have n1_ := aK (blk_drew BK102.out)
 have n2_ := aK (below_drew1 HB.out)
 clear BK101 BK102 HB
 have BK101 := n0_
 have BK102 := n1_
 have HB := n2_
 clear n0_ n1_ n2_
 refine start_ (n := 11) (S := fun w' => w'.cell? ⟨gb101, 0, none⟩ = some (.int .i64 a0_0) ∧ w'.cell? ⟨gb101, 1, none⟩ = some (.int .i64 a0_1) ∧ w'.cell? ⟨gb101, 2, none⟩ = some (.slice A0_2 l0_2.length c0_2)) (ds := []) #[false, false, false, false, false, false, false, false, false, false, false] (by kernel_rfl) rfl rfl (cz3 BK101.out) (fun hHeld => ?_); refine with_tabW spec_l7Blocks.tab1 spec_l7Blocks.bits1 (fun HT_ HW_ => ?_)
 generalize w8.drew = w9 at BK101 BK102 HB hHeld ⊢
 refine pu (i := 0) (N := some 11) #[true, false, false, false, false, false, false, false, false, false, false] rfl rfl HT_.out ?_
 refine pu (i := 2) (N := some 13) #[true, false, true, false, false, false, false, false, false, false, false] rfl rfl HT_.out ?_
 refine pu (i := 4) (N := some 15) #[true, false, true, false, true, false, false, false, false, false, false] rfl rfl HT_.out ?_
 refine pu (i := 6) (N := some 17) #[true, false, true, false, true, false, true, false, false, false, false] rfl rfl HT_.out ?_
 refine tk (i := 1) (N := some 12) #[true, true, true, false, true, false, true, false, false, false, false] rfl rfl HT_.out HW_.out (Or.inl ⟨by rfl, by rintro w' ⟨s0, s1, s2⟩; go_simp; with_reducible rfl⟩) hHeld ?_
 refine pu (i := 3) (N := some 14) #[true, true, true, true, true, false, true, false, false, false, false] rfl rfl HT_.out ?_
 refine tk (i := 5) (N := some 16) #[true, true, true, true, true, true, true, false, false, false, false] rfl rfl HT_.out HW_.out (Or.inl ⟨by rfl, by rintro w' ⟨s0, s1, s2⟩; go_simp; with_reducible rfl⟩) hHeld ?_
 refine pu (i := 7) (N := some 18) #[true, true, true, true, true, true, true, true, false, false, false] rfl rfl HT_.out ?_
 refine join_ (σ := Value × Nat) 1 #[true, true, true, true, true, true, true, true, true, true, false] (fun s_ => [(19, .agg #[.int .i64 t103, .int .i64 t104, s_.1]), (7, .pointer (some ⟨s_.2, 0, none⟩))]) (fun s_ w' => (w'.cell? ⟨gb101, 0, none⟩ = some (.int .i64 a0_0) ∧ w'.cell? ⟨gb101, 1, none⟩ = some (.int .i64 a0_1) ∧ w'.cell? ⟨gb101, 2, none⟩ = some (.slice A0_2 l0_2.length c0_2)) ∧ (Kd.R (Kd.int .i64) 3 w' w.heap.size (fun _ => True) s_.1 t105) ∧ (w'.heap[gb101]? = some (.cells #[.int .i64 a0_0, .int .i64 a0_1, .slice A0_2 l0_2.length c0_2] 26 (0, 0))) ∧ (w'.heap[gb102]? = some (.cells #[.int .i64 0, .int .i64 0, .slice none 0 0] 26 (0, 0))) ∧ (w'.heap[s_.2]? = some (.cells #[.int .i64 0, .int .i64 0, .slice none 0 0] 26 (0, 0))) ∧ (w.heap.size ≤ s_.2) ∧ (w.heap.size ≤ s_.2) ∧ (gb101 ≠ s_.2) ∧ (s_.2 ≠ gb101) ∧ (gb102 ≠ s_.2) ∧ (s_.2 ≠ gb102) ∧ (Below w.heap.size w w')) ?_ ?_
 rotate_left
 ·
  intro hCont
  refine two_ (i := 8) (j := 9) (Ni := some 19) (Nj := some 7) #[true, true, true, true, true, true, true, true, true, false, false] #[true, true, true, true, true, true, true, true, false, true, false] rfl rfl rfl rfl (two_of HT_.out (by kernel_rfl)) (by decide) (by decide) (fun K hK => ?_) (fun K hK => ?_)
  ·
   skip
   refine goes_ Try.func31 (by kernel_rfl) rfl #[.int .i64 (wrap64 (Int.tdiv a0_0 a1)), .int .i64 (wrap64 (Int.tdiv a0_1 a2)), .int .i64 0] (by rfl) rfl rfl (by (try simp only [List.map_toArray, List.map_cons, List.map_nil]); first | done | rfl | (simp only [List.length_drop, List.length_take]; rfl)) ?_
   with_reducible refine (spec_l2Fill.calls k (wrap64 (Int.tdiv a0_0 a1)) (wrap64 (Int.tdiv a0_1 a2)) 0 t103 t104 t105 _ A6.out).mono ?_
   rintro e w10 ⟨v106, rfl, ho0, hb⟩
   refine ⟨_, rfl, ?_⟩
   have HO107 := aK (Kd.R_lower ho0 (below_size (pS HB.out))); replace BK101 := bB BK101 hb; replace BK102 := bB BK102 hb; replace HB := bS HB hb
   (try clear hb)
   (try clear hb2)
   (try clear hk)
   (try clear hi)
   (try clear ho0)
   refine hK.out _ _ (cz3 BK101.out) (fun hHeld => ?_)
   clear hK K
   refine norm_ (a' := ?_) ?_ ?_
   rotate_left
   ·
    show Act.put _ (some 19) _ = _
    simp only [sP]
    rfl
   refine one_ (i := 9) (N := some 7) #[true, true, true, true, true, true, true, true, true, true, false] rfl rfl (one_of HT_.out (by kernel_rfl)) (by decide) (fun K hK => ?_)
   refine box_step ?hg (N := 7) ?hd (cs := #[.int .i64 0, .int .i64 0, .slice none 0 0]) (t := 26) ?hr ?_; (case hd => rfl); (case hg => rfl); (case hr => first | (go_simp; done) | (go_simp; rfl))
   intro gb108 hg w11 hbox hb
   have n0_ := aK (Kd.R_below (pR HO107.out) hb); have BK108 := aK (hbox); have GW108 := aK (gE hg (pS HB.out)); have GE108 := GW108; obtain ⟨NB101_108, NB108_101⟩ := nb hg (pB BK101.out); obtain ⟨NB102_108, NB108_102⟩ := nb hg (pB BK102.out); replace BK101 := bB BK101 hb; replace BK102 := bB BK102 hb; replace HB := bS HB hb; clear HO107; have HO107 := n0_; clear n0_ hb hbox hg
   refine hK.out _ _ (cz3 BK101.out) (fun hHeld => ?_)
   clear hK K
   refine norm_ (a' := ?_) ?_ ?_
   rotate_left
   ·
    show Act.put _ (some 7) _ = _
    simp only [sP]
    rfl
   exact norm_ (by simp only [putAll, Act.put, List.setIfInBounds_toArray, List.set_cons_zero, List.set_cons_succ]) (hCont (v106, gb108) _ ⟨hHeld, (pR HO107.out), (pB BK101.out), (pB BK102.out), (pB BK108.out), GW108.out, GE108.out, NB101_108.out, NB108_101.out, NB102_108.out, NB108_102.out, (pS HB.out)⟩)
  skip
  refine box_step ?hg (N := 7) ?hd (cs := #[.int .i64 0, .int .i64 0, .slice none 0 0]) (t := 26) ?hr ?_; (case hd => rfl); (case hg => rfl); (case hr => first | (go_simp; done) | (go_simp; rfl))
  intro gb108 hg w10 hbox hb
  have BK108 := aK (hbox); have GW108 := aK (gE hg (pS HB.out)); have GE108 := GW108; obtain ⟨NB101_108, NB108_101⟩ := nb hg (pB BK101.out); obtain ⟨NB102_108, NB108_102⟩ := nb hg (pB BK102.out); replace BK101 := bB BK101 hb; replace BK102 := bB BK102 hb; replace HB := bS HB hb; clear hb hbox hg
  refine hK.out _ _ (cz3 BK101.out) (fun hHeld => ?_)
  clear hK K
  refine norm_ (a' := ?_) ?_ ?_
  rotate_left
  ·
   show Act.put _ (some 7) _ = _
   simp only [sP]
   rfl
  refine one_ (i := 8) (N := some 19) #[true, true, true, true, true, true, true, true, true, true, false] rfl rfl (one_of HT_.out (by kernel_rfl)) (by decide) (fun K hK => ?_)
  refine goes_ Try.func31 (by kernel_rfl) rfl #[.int .i64 (wrap64 (Int.tdiv a0_0 a1)), .int .i64 (wrap64 (Int.tdiv a0_1 a2)), .int .i64 0] (by rfl) rfl rfl (by (try simp only [List.map_toArray, List.map_cons, List.map_nil]); first | done | rfl | (simp only [List.length_drop, List.length_take]; rfl)) ?_
  with_reducible refine (spec_l2Fill.calls k (wrap64 (Int.tdiv a0_0 a1)) (wrap64 (Int.tdiv a0_1 a2)) 0 t103 t104 t105 _ A6.out).mono ?_
  rintro e w11 ⟨v106, rfl, ho0, hb⟩
  refine ⟨_, rfl, ?_⟩
  have HO107 := aK (Kd.R_lower ho0 (below_size (pS HB.out))); replace BK101 := bB BK101 hb; replace BK102 := bB BK102 hb; replace BK108 := bB BK108 hb; replace HB := bS HB hb
  (try clear hb)
  (try clear hb2)
  (try clear hk)
  (try clear hi)
  (try clear ho0)
  refine hK.out _ _ (cz3 BK101.out) (fun hHeld => ?_)
  clear hK K
  refine norm_ (a' := ?_) ?_ ?_
  rotate_left
  ·
   show Act.put _ (some 19) _ = _
   simp only [sP]
   rfl
  exact norm_ (by simp only [putAll, Act.put, List.setIfInBounds_toArray, List.set_cons_zero, List.set_cons_succ]) (hCont (v106, gb108) _ ⟨hHeld, (pR HO107.out), (pB BK101.out), (pB BK102.out), (pB BK108.out), GW108.out, GE108.out, NB101_108.out, NB108_101.out, NB102_108.out, NB108_102.out, (pS HB.out)⟩)
 rintro ⟨v106, gb108⟩ w12 ⟨hS_, h0_, h1_, h2_, h3_, h4_, h5_, h6_, h7_, h8_, h9_, h10_⟩
 have n0_ : Aside0 (Kd.R (Kd.int .i64) 3 w12 w.heap.size (fun _ => True) v106 t105) := ⟨h0_⟩
 have n1_ : Aside0 (w12.heap[gb101]? = some (.cells #[.int .i64 a0_0, .int .i64 a0_1, .slice A0_2 l0_2.length c0_2] 26 (0, 0))) := ⟨h1_⟩
 have n2_ : Aside0 (w12.heap[gb102]? = some (.cells #[.int .i64 0, .int .i64 0, .slice none 0 0] 26 (0, 0))) := ⟨h2_⟩
 have n3_ : Aside0 (w12.heap[gb108]? = some (.cells #[.int .i64 0, .int .i64 0, .slice none 0 0] 26 (0, 0))) := ⟨h3_⟩
 have n4_ : Aside0 (w.heap.size ≤ gb108) := ⟨h4_⟩
 have n5_ : Aside0 (w.heap.size ≤ gb108) := ⟨h5_⟩
 have n6_ : Aside0 (gb101 ≠ gb108) := ⟨h6_⟩
 have n7_ : Aside0 (gb108 ≠ gb101) := ⟨h7_⟩
 have n8_ : Aside0 (gb102 ≠ gb108) := ⟨h8_⟩
 have n9_ : Aside0 (gb108 ≠ gb102) := ⟨h9_⟩
 have n10_ : Aside0 (Below w.heap.size w w12) := ⟨h10_⟩
 clear BK101 BK102 HB h0_ h1_ h2_ h3_ h4_ h5_ h6_ h7_ h8_ h9_ h10_
 have HO107 := n0_
 have BK101 := n1_
 have BK102 := n2_
 have BK108 := n3_
 have GW108 := n4_
 have GE108 := n5_
 have NB101_108 := n6_
 have NB108_101 := n7_
 have NB102_108 := n8_
 have NB108_102 := n9_
 have HB := n10_
 clear n0_ n1_ n2_ n3_ n4_ n5_ n6_ n7_ n8_ n9_ n10_
 have hHeld : w12.cell? ⟨gb101, 0, none⟩ = some (.int .i64 a0_0) ∧ w12.cell? ⟨gb101, 1, none⟩ = some (.int .i64 a0_1) ∧ w12.cell? ⟨gb101, 2, none⟩ = some (.slice A0_2 l0_2.length c0_2) := hS_
 obtain ⟨Ao15, co15, eo15⟩ := Kd.R_slice HO107.out
 (first | subst eo15 | (obtain ⟨f4_, f5_⟩ := sI eo15; subst f4_; subst f5_))
 refine norm_ (a' := ?_) ?_ ?_
 rotate_left
 ·
  simp only [putAll, Act.put, List.setIfInBounds_toArray, List.set_cons_zero, List.set_cons_succ]
  rfl
 refine one_ (i := 10) (N := none) #[true, true, true, true, true, true, true, true, true, true, true] rfl rfl (one_of HT_.out (by kernel_rfl)) (by decide) (fun K hK => ?_)
 have hs13 : w12.cell? ⟨gb108, 0, none⟩ = some (.int .i64 0) := (blk_cell BK108.out 0).trans rfl
 have hfs13 := blk_frozen BK108.out 0
 have hns13_0 := NB101_108.out
 have hns13_1 := NB102_108.out
 have hms13_0 := NB108_101.out
 have hms13_1 := NB108_102.out
 have hs14 : w12.cell? ⟨gb108, 1, none⟩ = some (.int .i64 0) := (blk_cell BK108.out 1).trans rfl
 have hfs14 := blk_frozen BK108.out 1
 have hns14_0 := NB101_108.out
 have hns14_1 := NB102_108.out
 have hms14_0 := NB108_101.out
 have hms14_1 := NB108_102.out
 have hs16 : w12.cell? ⟨gb108, 2, none⟩ = some (.slice none 0 0) := (blk_cell BK108.out 2).trans rfl
 have hfs16 := blk_frozen BK108.out 2
 have hns16_0 := NB101_108.out
 have hns16_1 := NB102_108.out
 have hms16_0 := NB108_101.out
 have hms16_1 := NB108_102.out
 refine skip_ (w1 := ?_) (by rfl) rfl ?_ ?_
 rotate_left
 ·
  go_simp
  rfl
 refine hK.out _ _ ⟨((cell_far (p := ⟨gb108, _, none⟩) NB101_108.out _).trans (((cell_far (p := ⟨gb108, _, none⟩) NB101_108.out _).trans (((cell_far (p := ⟨gb108, _, none⟩) NB101_108.out _).trans (hHeld.1)))))), ((cell_far (p := ⟨gb108, _, none⟩) NB101_108.out _).trans (((cell_far (p := ⟨gb108, _, none⟩) NB101_108.out _).trans (((cell_far (p := ⟨gb108, _, none⟩) NB101_108.out _).trans (hHeld.2.1)))))), ((cell_far (p := ⟨gb108, _, none⟩) NB101_108.out _).trans (((cell_far (p := ⟨gb108, _, none⟩) NB101_108.out _).trans (((cell_far (p := ⟨gb108, _, none⟩) NB101_108.out _).trans (hHeld.2.2))))))⟩ (fun hHeld => ?_)
 clear hK K
 refine done_ (done_of HT_.out (by kernel_rfl)) ?_
 try go_wp2
 go_loopg [8] k (fun kq v8 w' => ∃ (x8_1 : Int) (x109002_1 : List Int) (u109002 : Value), v8 = .int .i64 x8_1 ∧ Aside0 (spec_l7Blocks.l0 kq a1 a2 x8_1 a0_0 a0_1 l0_2 t103 t104 x109002_1 = some (r1, r2, r3)) ∧ Aside0 (kq ≤ k) ∧ Aside0 (Kd.R (Kd.int .i64) 3 w' w.heap.size (fun _ => True) u109002 x109002_1) ∧ Aside0 (w'.heap[gb101]? = some (.cells #[.int .i64 a0_0, .int .i64 a0_1, (.slice A0_2 l0_2.length c0_2)] 26 (0, 0))) ∧ Aside0 (w'.heap[gb102]? = some (.cells #[.int .i64 0, .int .i64 0, (.slice none 0 0)] 26 (0, 0))) ∧ Aside0 (w'.heap[gb108]? = some (.cells #[.int .i64 t103, .int .i64 t104, u109002] 26 (0, 0))) ∧ Aside0 (Below w.heap.size w w'))
 case atStart => exact ⟨(0), (t105), (.slice Ao15 t105.length co15), (by first | rfl | (simp; done) | (simp [*]; done)), H', ⟨Nat.le_refl _⟩, ⟨pR (Kd.R_mono (rF3 HO107.out BK108.out (.int .i64 t103) (.int .i64 t104) (.slice Ao15 t105.length co15)) (fun _ h => trivial))⟩, ⟨by refine bk ?_; refine blk_far ?_ NB101_108.out _; refine bk ?_; refine blk_far ?_ NB101_108.out _; refine bk ?_; refine blk_far ?_ NB101_108.out _; refine bk ?_; exact BK101.out⟩, ⟨by refine bk ?_; refine blk_far ?_ NB102_108.out _; refine bk ?_; refine blk_far ?_ NB102_108.out _; refine bk ?_; refine blk_far ?_ NB102_108.out _; refine bk ?_; exact BK102.out⟩, ⟨by refine bk ?_; refine blk_put (cs := #[.int .i64 t103, .int .i64 t104, .slice none 0 0]) ?_ 2 _ rfl; refine bk ?_; refine blk_put (cs := #[.int .i64 t103, .int .i64 0, .slice none 0 0]) ?_ 1 _ rfl; refine bk ?_; refine blk_put (cs := #[.int .i64 0, .int .i64 0, .slice none 0 0]) ?_ 0 _ rfl; refine bk ?_; exact BK108.out⟩, ⟨pT HB.out⟩⟩
 case round =>
  clear H'
  try clear c4
  try clear c4b0
  try clear c4b1
  try clear c5
  try clear c5b0
  try clear c5b1
  obtain ⟨x8_1, x109002_1, u109002, rfl, HA, HK1, HO_109002, BK101, BK102, BK108, HB⟩ := hrel
  cases gk with
  | zero => exact absurd HA.out (by simp [spec_l7Blocks.l0])
  | succ k1 =>
   have H := HA.out; clear HA
   simp only [spec_l7Blocks.l0] at H
   by_cases c17 : x8_1 < a0_1
   ·
    rw [if_pos c17] at H
    have c17b0 : decide (x8_1 < a0_1) = true := decide_eq_true c17
    clear c17; have H' := Aside0.mk H; clear H; have hnb18 := NB101_102.out; have hnc18 := NB102_101.out; have hnb19 := NB101_108.out; have hnc19 := NB108_101.out; obtain ⟨hcz20_0, hcz20_1, hcz20_2, hfz20_0, hfz20_1, hfz20_2⟩ := bc3 BK101.out
    go_wp2
    go_loopg [9] k1 (fun kq v9 w' => ∃ (x9_2 : Int) (x109002_2 : List Int) (u109002 : Value), v9 = .int .i64 x9_2 ∧ Aside0 (spec_l7Blocks.l1 kq a1 a2 x8_1 x9_2 a0_0 a0_1 l0_2 t103 t104 x109002_2 = some (r1, r2, r3)) ∧ Aside0 (kq ≤ k1) ∧ Aside0 (Kd.R (Kd.int .i64) 3 w' w.heap.size (fun _ => True) u109002 x109002_2) ∧ Aside0 (w'.heap[gb101]? = some (.cells #[.int .i64 a0_0, .int .i64 a0_1, (.slice A0_2 l0_2.length c0_2)] 26 (0, 0))) ∧ Aside0 (w'.heap[gb102]? = some (.cells #[.int .i64 0, .int .i64 0, (.slice none 0 0)] 26 (0, 0))) ∧ Aside0 (w'.heap[gb108]? = some (.cells #[.int .i64 t103, .int .i64 t104, u109002] 26 (0, 0))) ∧ Aside0 (Below w.heap.size w w'))
    case atStart => exact ⟨(0), (x109002_1), (u109002), (by first | rfl | (simp; done) | (simp [*]; done)), H', ⟨Nat.le_refl _⟩, ⟨pR HO_109002.out⟩, ⟨by refine bk ?_; exact BK101.out⟩, ⟨by refine bk ?_; exact BK102.out⟩, ⟨by refine bk ?_; exact BK108.out⟩, ⟨pT HB.out⟩⟩
    case round =>
     clear H'
     try clear c17b0
     try clear hcz20_0
     try clear hcz20_1
     try clear hcz20_2
     try clear hfz20_0
     try clear hfz20_1
     try clear hfz20_2
     obtain ⟨x9_2, x109002_2, u109002, rfl, HA, HK2, HO_109002, BK101, BK102, BK108, HB⟩ := hrel
     cases gk with
     | zero => exact absurd HA.out (by simp [spec_l7Blocks.l1])
     | succ k2 =>
      have H := HA.out; clear HA
      simp only [spec_l7Blocks.l1] at H
      by_cases c21 : x9_2 < a0_0
      ·
       rw [if_pos c21] at H
       have c21b0 : decide (x9_2 < a0_0) = true := decide_eq_true c21
       clear c21
       by_cases c22 : a2 = 0
       ·
        rw [if_pos c22] at H
        exact absurd H (by simp)
       rw [if_neg c22] at H
       have c22b0 : (a2 == 0) = false := beq_eq_false_iff_ne.mpr c22
       have c22b1 : (a2 != 0) = true := bne_iff_ne.mpr c22
       by_cases c23 : a1 = 0
       ·
        rw [if_pos c23] at H
        exact absurd H (by simp)
       rw [if_neg c23] at H
       have c23b0 : (a1 == 0) = false := beq_eq_false_iff_ne.mpr c23
       have c23b1 : (a1 != 0) = true := bne_iff_ne.mpr c23
       obtain ⟨ji24, hji24⟩ : ∃ j_ : Int, (wrap64 ((wrap64 ((wrap64 (Int.tdiv x8_1 a2)) * t103)) + (wrap64 (Int.tdiv x9_2 a1)))) = j_ := ⟨_, rfl⟩
       replace H : (if 0 ≤ (ji24) then (if (ji24) < (x109002_2.length : Int) then ((spec_l2At.f a0_0 a0_1 l0_2 x9_2 x8_1).bind fun t110 => (spec_l7Blocks.l1 k2 a1 a2 x8_1 (wrap64 (x9_2 + 1)) a0_0 a0_1 l0_2 t103 t104 (x109002_2.set ((ji24) : Int).toNat (wrap64 ((rd x109002_2 (ji24)) + t110))))) else (none)) else (none)) = some (r1, r2, r3) := by first | (rw [hji24] at H; exact H) | (simp only [hji24] at H ⊢; exact H)
       have hji24w : (IntKind.i64.wrap ((wrap64 ((wrap64 (Int.tdiv x8_1 a2)) * t103)) + (wrap64 (Int.tdiv x9_2 a1)))) = ji24 := (i64_w _).trans hji24
       by_cases c25 : 0 ≤ (ji24)
       ·
        rw [if_pos c25] at H
        have c25b0 : decide (0 ≤ (ji24)) = true := decide_eq_true c25
        clear c25
        by_cases c26 : (ji24) < (x109002_2.length : Int)
        ·
         rw [if_pos c26] at H
         have c26b0 : decide ((ji24) < (x109002_2.length : Int)) = true := decide_eq_true c26
         clear c26; replace H := Option.bind_eq_some_iff.mp H; obtain ⟨t110, A270, H⟩ := H
         replace H : (spec_l7Blocks.l1 k2 a1 a2 x8_1 (wrap64 (x9_2 + 1)) a0_0 a0_1 l0_2 t103 t104 (x109002_2.set ((ji24) : Int).toNat (wrap64 ((rd x109002_2 (ji24)) + t110)))) = some (r1, r2, r3) := H
         have A27 := Aside0.mk A270; clear A270
         obtain ⟨y111, hy111⟩ : ∃ y_ : List Int, y_ = (x109002_2.set ((ji24) : Int).toNat (wrap64 ((rd x109002_2 (ji24)) + t110))) := ⟨_, rfl⟩
         replace H : (spec_l7Blocks.l1 k2 a1 a2 x8_1 (wrap64 (x9_2 + 1)) a0_0 a0_1 l0_2 t103 t104 y111) = some (r1, r2, r3) := by first | (rw [hy111]; with_reducible exact H) | (have H2_ := (Option.bind_some _ _).symm.trans H; rw [hy111]; with_reducible exact H2_) | (have H2_ := (Option.bind_some _ _).symm.trans H; with_reducible exact H2_) | with_reducible exact H | (rw [hy111]; exact H) | exact H
         have Ny111 := Aside0.mk hy111; clear hy111; have H' := Aside0.mk H; clear H; have hnb29 := NB101_102.out; have hnc29 := NB102_101.out; have hnb30 := NB101_108.out; have hnc30 := NB108_101.out; obtain ⟨hcz31_0, hcz31_1, hcz31_2, hfz31_0, hfz31_1, hfz31_2⟩ := bc3 BK101.out
         try go_wp2
         have n0_ := aK (Kd.R_drew HO_109002.out); have n1_ := aK (blk_drew BK101.out); have n2_ := aK (blk_drew BK102.out); have n3_ := aK (blk_drew BK108.out); have n4_ := aK (below_drew1 HB.out); clear HO_109002 BK101 BK102 BK108 HB; have HO_109002 := n0_; have BK101 := n1_; have BK102 := n2_; have BK108 := n3_; have HB := n4_; clear n0_ n1_ n2_ n3_ n4_
         refine start_ (n := 11) (S := fun w' => w'.cell? ⟨gb108, 0, none⟩ = some (.int .i64 t103) ∧ w'.cell? ⟨gb108, 1, none⟩ = some (.int .i64 t104) ∧ w'.cell? ⟨gb108, 2, none⟩ = some (u109002)) (ds := []) #[false, false, false, false, false, false, false, false, false, false, false] (by kernel_rfl) rfl rfl (cz3 BK108.out) (fun hHeld => ?_); refine with_tabW spec_l7Blocks.tab8 spec_l7Blocks.bits8 (fun HT_ HW_ => ?_)
         generalize wr.drew = w32 at HO_109002 BK101 BK102 BK108 HB hHeld ⊢
         refine pu (i := 0) (N := some 32) #[true, false, false, false, false, false, false, false, false, false, false] rfl rfl HT_.out ?_
         refine pu (i := 1) (N := some 33) #[true, true, false, false, false, false, false, false, false, false, false] rfl rfl HT_.out ?_
         refine pu (i := 2) (N := some 34) #[true, true, true, false, false, false, false, false, false, false, false] rfl rfl HT_.out ?_
         refine pu (i := 3) (N := some 35) #[true, true, true, true, false, false, false, false, false, false, false] rfl rfl HT_.out ?_
         refine pu (i := 6) (N := some 38) #[true, true, true, true, false, false, true, false, false, false, false] rfl rfl HT_.out ?_
         refine pu (i := 7) (N := some 39) #[true, true, true, true, false, false, true, true, false, false, false] rfl rfl HT_.out ?_
         refine pu (i := 8) (N := some 40) #[true, true, true, true, false, false, true, true, true, false, false] rfl rfl HT_.out ?_
         refine tk (i := 4) (N := some 36) #[true, true, true, true, true, false, true, true, true, false, false] rfl rfl HT_.out HW_.out (Or.inl ⟨by rfl, by rintro w' ⟨s0, s1, s2⟩; go_simp; with_reducible rfl⟩) hHeld ?_
         refine pu (i := 5) (N := some 37) #[true, true, true, true, true, true, true, true, true, false, false] rfl rfl HT_.out ?_
         refine pu (i := 9) (N := some 41) #[true, true, true, true, true, true, true, true, true, true, false] rfl rfl HT_.out ?_
         refine pu (i := 10) (N := some 10) #[true, true, true, true, true, true, true, true, true, true, true] rfl rfl HT_.out ?_
         refine done_ (done_of HT_.out (by kernel_rfl)) ?_
         try go_wp2
         have n0_ := aK (Kd.R_drew HO_109002.out); have n1_ := aK (blk_drew BK101.out); have n2_ := aK (blk_drew BK102.out); have n3_ := aK (blk_drew BK108.out); have n4_ := aK (below_drew1 HB.out); clear HO_109002 BK101 BK102 BK108 HB; have HO_109002 := n0_; have BK101 := n1_; have BK102 := n2_; have BK108 := n3_; have HB := n4_; clear n0_ n1_ n2_ n3_ n4_; obtain ⟨Ao34, co34, eo34⟩ := Kd.R_slice HO_109002.out
         (first | subst eo34 | (obtain ⟨f4_, f5_⟩ := sI eo34; subst f4_; subst f5_))
         have p109 : 0 ≤ ((ji24) : Int) := of_decide_eq_true (by first | (with_reducible assumption) | assumption)
         have q109 : (ji24) < (x109002_2.length : Int) := of_decide_eq_true (by first | (with_reducible assumption) | assumption)
         obtain ⟨ad109, e109, hx109_0⟩ := Kd.at_int (Kd.R_reads' HO_109002.out).2.2 (ji24) p109 q109; cases e109; replace p109 := eq_true p109; replace q109 := eq_true q109
         refine start_ (n := 15) (S := fun w' => w'.cell? ⟨gb108, 0, none⟩ = some (.int .i64 t103) ∧ w'.cell? ⟨gb108, 1, none⟩ = some (.int .i64 t104) ∧ w'.cell? ⟨gb108, 2, none⟩ = some (.slice (some ad109) x109002_2.length co34) ∧ w'.cell? ⟨gb101, 0, none⟩ = some (.int .i64 a0_0) ∧ w'.cell? ⟨gb101, 1, none⟩ = some (.int .i64 a0_1) ∧ w'.cell? ⟨gb101, 2, none⟩ = some (.slice A0_2 l0_2.length c0_2) ∧ w'.cell? (ad109.add ((ji24)).toNat) = some (.int .i64 (rd x109002_2 (ji24)))) (ds := [14]) #[false, false, false, false, false, false, false, false, false, false, false, false, false, false, false] (by kernel_rfl) rfl rfl ⟨(blk_cell BK108.out 0).trans rfl, (blk_cell BK108.out 1).trans rfl, (blk_cell BK108.out 2).trans rfl, (blk_cell BK101.out 0).trans rfl, (blk_cell BK101.out 1).trans rfl, (blk_cell BK101.out 2).trans rfl, hx109_0⟩ (fun hHeld => ?_); refine with_tabW spec_l7Blocks.tab9 spec_l7Blocks.bits9 (fun HT_ HW_ => ?_)
         generalize w32.drew = w33 at HO_109002 BK101 BK102 BK108 HB hx109_0 hHeld ⊢
         refine pu (i := 0) (N := some 42) #[true, false, false, false, false, false, false, false, false, false, false, false, false, false, false] rfl rfl HT_.out ?_
         refine pu (i := 2) (N := some 44) #[true, false, true, false, false, false, false, false, false, false, false, false, false, false, false] rfl rfl HT_.out ?_
         refine pu (i := 3) (N := some 45) #[true, false, true, true, false, false, false, false, false, false, false, false, false, false, false] rfl rfl HT_.out ?_
         refine pu (i := 5) (N := some 47) #[true, false, true, true, false, true, false, false, false, false, false, false, false, false, false] rfl rfl HT_.out ?_
         refine pu (i := 9) (N := some 51) #[true, false, true, true, false, true, false, false, false, true, false, false, false, false, false] rfl rfl HT_.out ?_
         refine pu (i := 10) (N := some 52) #[true, false, true, true, false, true, false, false, false, true, true, false, false, false, false] rfl rfl HT_.out ?_
         refine tk (i := 1) (N := some 43) #[true, true, true, true, false, true, false, false, false, true, true, false, false, false, false] rfl rfl HT_.out HW_.out (Or.inl ⟨by rfl, by rintro w' ⟨s0, s1, s2, s3, s4, s5, s6⟩; go_simp; with_reducible rfl⟩) hHeld ?_
         refine tk (i := 4) (N := some 46) #[true, true, true, true, true, true, false, false, false, true, true, false, false, false, false] rfl rfl HT_.out HW_.out (Or.inl ⟨by rfl, by rintro w' ⟨s0, s1, s2, s3, s4, s5, s6⟩; go_simp; with_reducible rfl⟩) hHeld ?_
         refine pu (i := 6) (N := some 48) #[true, true, true, true, true, true, true, false, false, true, true, false, false, false, false] rfl rfl HT_.out ?_
         refine tk (i := 7) (N := some 49) #[true, true, true, true, true, true, true, true, false, true, true, false, false, false, false] rfl rfl HT_.out HW_.out (Or.inl ⟨by rfl, by rintro w' ⟨s0, s1, s2, s3, s4, s5, s6⟩; go_simp; with_reducible rfl⟩) hHeld ?_
         refine tk (i := 8) (N := some 50) #[true, true, true, true, true, true, true, true, true, true, true, false, false, false, false] rfl rfl HT_.out HW_.out (Or.inl ⟨by rfl, by rintro w' ⟨s0, s1, s2, s3, s4, s5, s6⟩; go_simp; with_reducible rfl⟩) hHeld ?_
         refine one_ (i := 11) (N := some 53) #[true, true, true, true, true, true, true, true, true, true, true, true, false, false, false] rfl rfl (one_of HT_.out (by kernel_rfl)) (by decide) (fun K hK => ?_)
         refine goes_ Try.func34 (by kernel_rfl) rfl #[.agg #[.int .i64 a0_0, .int .i64 a0_1, .slice A0_2 l0_2.length c0_2], .int .i64 x9_2, .int .i64 x8_1] (by rfl) rfl rfl (by (try simp only [List.map_toArray, List.map_cons, List.map_nil]); first | done | rfl | (simp only [List.length_drop, List.length_take]; rfl)) ?_
         with_reducible refine (spec_l2At.calls a0_0 a0_1 _ _ l0_2 x9_2 x8_1 t110 _ ?side1 ?side2 A27.out).mono ?_
         (case side1 => exact pC (Kd.C_below HR0_2.out HB.out))
         (case side2 => exact HC0_2.out)
         rintro e w35 ⟨rfl, hb⟩
         have HS6_ := (hb.cell (World.block_lt_of_cell? _ _ (hHeld.2.2.2.2.2.2))).trans (hHeld.2.2.2.2.2.2)
         refine ⟨_, rfl, ?_⟩
         have n0_ := aK (Kd.R_below (pR HO_109002.out) hb); replace BK101 := bB BK101 hb; replace BK102 := bB BK102 hb; replace BK108 := bB BK108 hb; replace HB := bS HB hb; clear HO_109002; have HO_109002 := n0_; clear n0_
         (try clear hb)
         (try clear hb2)
         (try clear hk)
         (try clear hi)
         have p28 : 0 ≤ ((ji24) : Int) := of_decide_eq_true (by first | (with_reducible assumption) | assumption)
         have q28 : ((ji24) : Int) < ((x109002_2.length : Int) : Int) := of_decide_eq_true (by first | (with_reducible assumption) | assumption)
         obtain ⟨go28, co28, eo28, gb28, gl28, cl28, HG28⟩ := Kd.R_form HO_109002.out (by omega)
         (first | cases eo28 | (injection eo28 with ea_ en_ ec_; (first | subst ea_ | (injection ea_ with ea_; subst ea_)); subst ec_; clear en_))
         have GB28 := Aside0.mk gb28; have GG28 := Aside0.mk HG28; clear gb28 gl28 HG28
         (first | simp only [add_plain] at hx109_0 | skip)
         obtain ⟨hx28_0, hf28_0⟩ := Kd.R_celln 0 HO_109002.out ((ji24) : Int) p28 q28; replace p28 := eq_true p28; replace q28 := eq_true q28; have HP36 := Kd.R_putn HO_109002.out ((ji24) : Int) (wrap64 ((rd x109002_2 (ji24)) + t110)); rw [← Ny111.out] at HP36; have HQ36 := Aside0.mk HP36; clear HP36
         refine hK.out _ _ ⟨(blk_cell BK108.out 0).trans rfl, (blk_cell BK108.out 1).trans rfl, (blk_cell BK108.out 2).trans rfl, (blk_cell BK101.out 0).trans rfl, (blk_cell BK101.out 1).trans rfl, (blk_cell BK101.out 2).trans rfl, HS6_⟩ (fun hHeld => ?_)
         clear hK K
         refine norm_ (a' := ?_) ?_ ?_
         rotate_left
         ·
          show Act.put _ (some 53) _ = _
          simp only [sP]
          rfl
         refine pu (i := 12) (N := some 54) #[true, true, true, true, true, true, true, true, true, true, true, true, true, false, false] rfl rfl HT_.out ?_
         refine pu (i := 13) (N := some 55) #[true, true, true, true, true, true, true, true, true, true, true, true, true, true, false] rfl rfl HT_.out ?_
         refine last_ (i := 14) (N := none) #[true, true, true, true, true, true, true, true, true, true, true, true, true, true, true] rfl rfl (one_of HT_.out (by kernel_rfl)) (by decide) (fun K hK => ?_)
         refine skip_ (w1 := ?_) (by rfl) rfl ?_ ?_
         rotate_left
         ·
          go_simp
          rfl
         refine hK.out _ _ ?_
         clear hK K
         refine done_ (done_of HT_.out (by kernel_rfl)) ?_
         try go_wp2
         go_roundg k2
         case measure => have := HK1.out; have := HK2.out; omega
         case rel => exact ⟨(wrap64 (x9_2 + 1)), (y111), (.slice (some ⟨go28, 0, none⟩) x109002_2.length co34), (by first | rfl | (simp; done) | (simp [*]; done)), H', ⟨by have := HK1.out; have := HK2.out; omega⟩, ⟨pR HQ36.out⟩, ⟨by refine bk ?_; refine blk_far ?_ (by have h_ := Kd.R_ne HO_109002.out BK101.out (by decide); intro e_; exact h_ (by rw [e_]; rfl)) _; refine bk ?_; exact BK101.out⟩, ⟨by refine bk ?_; refine blk_far ?_ (by have h_ := Kd.R_ne HO_109002.out BK102.out (by decide); intro e_; exact h_ (by rw [e_]; rfl)) _; refine bk ?_; exact BK102.out⟩, ⟨by refine bk ?_; refine blk_far ?_ (by have h_ := Kd.R_ne HO_109002.out BK108.out (by decide); intro e_; exact h_ (by rw [e_]; rfl)) _; refine bk ?_; exact BK108.out⟩, ⟨by repeat (first | (with_reducible first | exact HB.out | apply below_alloc | apply pw_below_drewN | apply below_drew1 | refine below_set ?_ GB28.out | refine below_set ?_ GE101.out | refine below_set ?_ GE102.out | refine below_set ?_ GE108.out) | exact HB.out)⟩⟩
        rw [if_neg c26] at H
        exact absurd H (by simp)
       rw [if_neg c25] at H
       exact absurd H (by simp)
      rw [if_neg c21] at H
      have c21b0 : decide (x9_2 < a0_0) = false := decide_eq_false c21
      clear c21; have H' := Aside0.mk H; clear H; have hnb37 := NB101_102.out; have hnc37 := NB102_101.out; have hnb38 := NB101_108.out; have hnc38 := NB108_101.out; obtain ⟨hcz39_0, hcz39_1, hcz39_2, hfz39_0, hfz39_1, hfz39_2⟩ := bc3 BK101.out
      go_wp2
      go_roundg k2
      case measure => have := HK1.out; have := HK2.out; omega
      case rel => exact ⟨(wrap64 (x8_1 + 1)), (x109002_2), (u109002), (by first | rfl | (simp; done) | (simp [*]; done)), H', ⟨by have := HK1.out; have := HK2.out; omega⟩, ⟨pR HO_109002.out⟩, ⟨by refine bk ?_; exact BK101.out⟩, ⟨by refine bk ?_; exact BK102.out⟩, ⟨by refine bk ?_; exact BK108.out⟩, ⟨pT HB.out⟩⟩
   rw [if_neg c17] at H
   have c17b0 : decide (x8_1 < a0_1) = false := decide_eq_false c17
   clear c17
   simp only [Option.some.injEq, Prod.mk.injEq] at H
   obtain ⟨rfl, rfl, rfl⟩ := H; have hnb40 := NB101_102.out; have hnc40 := NB102_101.out; have hnb41 := NB101_108.out; have hnc41 := NB108_101.out; obtain ⟨hcz42_0, hcz42_1, hcz42_2, hfz42_0, hfz42_1, hfz42_2⟩ := bc3 BK101.out; have hnb43 := NB108_102.out; have hnc43 := NB102_108.out; obtain ⟨hcz44_0, hcz44_1, hcz44_2, hfz44_0, hfz44_1, hfz44_2⟩ := bc3 BK108.out; obtain ⟨hcz45_0, hcz45_1, hcz45_2, hfz45_0, hfz45_1, hfz45_2⟩ := bc3 BK102.out; obtain ⟨Ao46, co46, eo46⟩ := Kd.R_slice HO_109002.out; subst eo46
   go_wp2
   refine bodyPost_ret (results_cell_row rfl _ _ gb102 26 #[.int .i64 t103, .int .i64 t104, .slice Ao46 x109002_1.length co46] (0, 0) _ rfl (by refine bk ?_; refine blk_put (cs := #[.int .i64 t103, .int .i64 t104, .slice none 0 0]) ?_ 2 _ rfl; refine bk ?_; refine blk_put (cs := #[.int .i64 t103, .int .i64 0, .slice none 0 0]) ?_ 1 _ rfl; refine bk ?_; refine blk_put (cs := #[.int .i64 0, .int .i64 0, .slice none 0 0]) ?_ 0 _ rfl; refine bk ?_; exact BK102.out) Try.underlying26 rfl (by kernel_rfl)) rfl ?_
   exact ⟨_, er, by (with_reducible repeat (first | apply Kd.R_alloc | apply Kd.R_drewN | apply Kd.R_drew)); exact Kd.R_mono (rF3 HO_109002.out BK102.out (.int .i64 t103) (.int .i64 t104) (.slice Ao46 x109002_1.length co46)) (fun _ h => trivial), pT HB.out⟩
def spec_CoarsenSum.f (k : Nat) (a0_0 : Int) (a0_1 : Int) (l0_2 : List Int) (a1 : Int) (a2 : Int) : Option (Int × Int × List Int × Bool) := (spec_l7Divides.f k a0_0 a0_1 l0_2 a1 a2).bind fun t103 => (if t103 = true then ((spec_l7Blocks.f k a0_0 a0_1 l0_2 a1 a2).bind fun bt104 => ((spec_l7Full.f k bt104.1 bt104.2.1 bt104.2.2).bind fun t110 => (if t110 = true then (some (bt104.1, bt104.2.1, bt104.2.2, true)) else (some (0, 0, ([] : List Int), false))))) else (some (0, 0, ([] : List Int), false)))
theorem spec_CoarsenSum.calls (k : Nat) (a0_0 : Int) (a0_1 : Int) (A0_2 : Option Addr) (c0_2 : Nat) (l0_2 : List Int) (a1 : Int) (a2 : Int) (r1 : Int) (r2 : Int) (r3 : List Int) (r4 : Bool) (w : World) (hr0_2 : Kd.C (Kd.int .i64) w A0_2 l0_2.length l0_2) (hc0_2 : l0_2.length ≤ c0_2) (h : spec_CoarsenSum.f k a0_0 a0_1 l0_2 a1 a2 = some (r1, r2, r3, r4)) :
  Calls Try.prog 12 #[.agg #[.int .i64 a0_0, .int .i64 a0_1, .slice A0_2 l0_2.length c0_2], .int .i64 a1, .int .i64 a2] w fun e w' => ∃ v2_ : Value, e = .returned (.tuple #[.agg #[.int .i64 r1, .int .i64 r2, v2_], .bool r4]) ∧ Kd.R (Kd.int .i64) 3 w' w.heap.size (fun _ => True) v2_ r3 ∧ Below w.heap.size w w' := by
 have hu26 := Try.underlying26
 have HR0_2 := Aside0.mk hr0_2
 have HC0_2 := Aside0.mk hc0_2
 clear hr0_2 hc0_2
 have HB := aK (Below.refl w.heap.size w)
 have H : ((spec_l7Divides.f k a0_0 a0_1 l0_2 a1 a2).bind fun t103 => (if t103 = true then ((spec_l7Blocks.f k a0_0 a0_1 l0_2 a1 a2).bind fun bt104 => ((spec_l7Full.f k bt104.1 bt104.2.1 bt104.2.2).bind fun t110 => (if t110 = true then (some (bt104.1, bt104.2.1, bt104.2.2, true)) else (some (0, 0, ([] : List Int), false))))) else (some (0, 0, ([] : List Int), false)))) = some (r1, r2, r3, r4) := h
 clear h
 replace H := Option.bind_eq_some_iff.mp H
 obtain ⟨t103, A40, H⟩ := H
 replace H : (if t103 = true then ((spec_l7Blocks.f k a0_0 a0_1 l0_2 a1 a2).bind fun bt104 => ((spec_l7Full.f k bt104.1 bt104.2.1 bt104.2.2).bind fun t110 => (if t110 = true then (some (bt104.1, bt104.2.1, bt104.2.2, true)) else (some (0, 0, ([] : List Int), false))))) else (some (0, 0, ([] : List Int), false))) = some (r1, r2, r3, r4) := H
 have A4 := Aside0.mk A40
 clear A40
 by_cases c5 : t103 = true
 ·
  subst c5
  have H1 : ((spec_l7Blocks.f k a0_0 a0_1 l0_2 a1 a2).bind fun bt104 => ((spec_l7Full.f k bt104.1 bt104.2.1 bt104.2.2).bind fun t110 => (if t110 = true then (some (bt104.1, bt104.2.1, bt104.2.2, true)) else (some (0, 0, ([] : List Int), false))))) = some (r1, r2, r3, r4) := by rw [if_pos rfl] at H; exact H
  clear H; have H := H1; clear H1; replace H := Option.bind_eq_some_iff.mp H
  obtain ⟨⟨t104, t105, t106⟩, A60, H⟩ := H
  replace H : ((spec_l7Full.f k t104 t105 t106).bind fun t110 => (if t110 = true then (some (t104, t105, t106, true)) else (some (0, 0, ([] : List Int), false)))) = some (r1, r2, r3, r4) := H
  have A6 := Aside0.mk A60; clear A60; replace H := Option.bind_eq_some_iff.mp H; obtain ⟨t110, A70, H⟩ := H
  replace H : (if t110 = true then (some (t104, t105, t106, true)) else (some (0, 0, ([] : List Int), false))) = some (r1, r2, r3, r4) := H
  have A7 := Aside0.mk A70; clear A70
  by_cases c8 : t110 = true
  ·
   subst c8
   have H1 : (some (t104, t105, t106, true)) = some (r1, r2, r3, r4) := by rw [if_pos rfl] at H; exact H
   clear H; have H := H1; clear H1
   simp only [Option.some.injEq, Prod.mk.injEq] at H
   obtain ⟨rfl, rfl, rfl, rfl⟩ := H
   go_enter Try.func12, Try.ntmps12
   go_wp2_with (first | ((with_reducible refine gate_dst (N := 3) rfl ?_); refine bxe (cs := #[.int .i64 a0_0, .int .i64 a0_1, .slice A0_2 l0_2.length c0_2]) (t := 26) ?_; intro gb101 hg w9 hbox hb; have BK101 := aK (hbox); have GW101 := aK (gE hg (pS HB.out)); have GE101 := GW101; replace HB := bS HB hb; clear hb hbox hg) | ((with_reducible refine gate_dst (N := 6) rfl ?_); refine bxe (cs := #[.int .i64 0, .int .i64 0, .slice none 0 0]) (t := 26) ?_; intro gb102 hg w10 hbox hb; have BK102 := aK (hbox); have GW102 := aK (gE hg (pS HB.out)); have GE102 := GW102; obtain ⟨NB101_102, NB102_101⟩ := nb hg (pB BK101.out); replace BK101 := bB BK101 hb; replace HB := bS HB hb; clear hb hbox hg; have hnb11 := NB101_102.out; have hnc11 := NB102_101.out; obtain ⟨hcz12_0, hcz12_1, hcz12_2, hfz12_0, hfz12_1, hfz12_2⟩ := bc3 BK101.out) | ((with_reducible refine gate_callee (f := 40) rfl ?_); refine gl (some 12) Try.func40 #[.agg #[.int .i64 a0_0, .int .i64 a0_1, .slice A0_2 l0_2.length c0_2], .int .i64 a1, .int .i64 a2] ?_; (with_reducible refine (spec_l7Divides.calls k a0_0 a0_1 _ _ l0_2 a1 a2 true _ ?side1 ?side2 A4.out).mono ?_); (case side1 => exact pC (Kd.C_below HR0_2.out HB.out)); (case side2 => exact HC0_2.out); rintro e w13 ⟨rfl, hb⟩; refine ⟨_, rfl, ?_⟩; replace BK101 := bB BK101 hb; replace BK102 := bB BK102 hb; replace HB := bS HB hb; (try clear hb); (try clear hb2); (try clear hk); (try clear hi); obtain ⟨hcz14_0, hcz14_1, hcz14_2, hfz14_0, hfz14_1, hfz14_2⟩ := bc3 BK101.out) | ((with_reducible refine gate_callee (f := 41) rfl ?_); refine gl (some 18) Try.func41 #[.agg #[.int .i64 a0_0, .int .i64 a0_1, .slice A0_2 l0_2.length c0_2], .int .i64 a1, .int .i64 a2] ?_; (with_reducible refine (spec_l7Blocks.calls k a0_0 a0_1 _ _ l0_2 a1 a2 t104 t105 t106 _ ?side1 ?side2 A6.out).mono ?_); (case side1 => exact pC (Kd.C_below HR0_2.out HB.out)); (case side2 => exact HC0_2.out); rintro e w15 ⟨v107, rfl, ho0, hb⟩; refine ⟨_, rfl, ?_⟩; have HO108 := aK (Kd.R_lower ho0 (below_size (pS HB.out))); replace BK101 := bB BK101 hb; replace BK102 := bB BK102 hb; replace HB := bS HB hb; (try clear hb); (try clear hb2); (try clear hk); (try clear hi); (try clear ho0)) | ((with_reducible refine gate_dst (N := 8) rfl ?_); refine bxe (cs := #[.int .i64 0, .int .i64 0, .slice none 0 0]) (t := 26) ?_; intro gb109 hg w16 hbox hb; have n0_ := aK (Kd.R_below (pR HO108.out) hb); have BK109 := aK (hbox); have GW109 := aK (gE hg (pS HB.out)); have GE109 := GW109; obtain ⟨NB101_109, NB109_101⟩ := nb hg (pB BK101.out); obtain ⟨NB102_109, NB109_102⟩ := nb hg (pB BK102.out); replace BK101 := bB BK101 hb; replace BK102 := bB BK102 hb; replace HB := bS HB hb; clear HO108; have HO108 := n0_; clear n0_ hb hbox hg; have hnb17 := NB109_101.out; have hnc17 := NB101_109.out; have hnb18 := NB109_102.out; have hnc18 := NB102_109.out; obtain ⟨hcz19_0, hcz19_1, hcz19_2, hfz19_0, hfz19_1, hfz19_2⟩ := bc3 BK109.out; obtain ⟨Ao20, co20, eo20⟩ := Kd.R_slice HO108.out; subst eo20) | ((with_reducible refine gate_callee (f := 29) rfl ?_); refine gl (some 20) Try.func29 #[.agg #[.int .i64 t104, .int .i64 t105, .slice Ao20 t106.length co20]] ?_; (with_reducible refine (spec_l7Full.calls k t104 t105 _ _ t106 true _ ?side1 ?side2 A7.out).mono ?_); (case side1 => exact rC (pR (rF3 HO108.out BK109.out (.int .i64 t104) (.int .i64 t105) (.slice Ao20 t106.length co20)))); (case side2 => exact (Kd.R_reads' HO108.out).2.1); rintro e w21 ⟨rfl, hb⟩; refine ⟨_, rfl, ?_⟩; have n0_ := aK (Kd.R_below (pR (rF3 HO108.out BK109.out (.int .i64 t104) (.int .i64 t105) (.slice Ao20 t106.length co20))) hb); have n1_ := aK (blk_below (g := gb101) (o := .cells #[.int .i64 a0_0, .int .i64 a0_1, .slice A0_2 l0_2.length c0_2] 26 (0, 0)) (by refine bk ?_; refine blk_far ?_ NB101_109.out _; refine bk ?_; refine blk_far ?_ NB101_109.out _; refine bk ?_; refine blk_far ?_ NB101_109.out _; refine bk ?_; exact BK101.out) hb); have n2_ := aK (blk_below (g := gb102) (o := .cells #[.int .i64 0, .int .i64 0, .slice none 0 0] 26 (0, 0)) (by refine bk ?_; refine blk_far ?_ NB102_109.out _; refine bk ?_; refine blk_far ?_ NB102_109.out _; refine bk ?_; refine blk_far ?_ NB102_109.out _; refine bk ?_; exact BK102.out) hb); have n3_ := aK (blk_below (g := gb109) (o := .cells #[.int .i64 t104, .int .i64 t105, .slice Ao20 t106.length co20] 26 (0, 0)) (by refine bk ?_; refine blk_put (cs := #[.int .i64 t104, .int .i64 t105, .slice none 0 0]) ?_ 2 _ rfl; refine bk ?_; refine blk_put (cs := #[.int .i64 t104, .int .i64 0, .slice none 0 0]) ?_ 1 _ rfl; refine bk ?_; refine blk_put (cs := #[.int .i64 0, .int .i64 0, .slice none 0 0]) ?_ 0 _ rfl; refine bk ?_; exact BK109.out) hb); replace HB := bS HB hb; clear HO108 BK101 BK102 BK109; have HO108 := n0_; have BK101 := n1_; have BK102 := n2_; have BK109 := n3_; clear n0_ n1_ n2_ n3_; (try clear hb); (try clear hb2); (try clear hk); (try clear hi); obtain ⟨hcz22_0, hcz22_1, hcz22_2, hfz22_0, hfz22_1, hfz22_2⟩ := bc3 BK109.out; obtain ⟨hcz23_0, hcz23_1, hcz23_2, hfz23_0, hfz23_1, hfz23_2⟩ := bc3 BK102.out))
   refine bodyPost_ret (results_ct rfl _ _ gb102 26 #[.int .i64 t104, .int .i64 t105, .slice Ao20 t106.length co20] (0, 0) _ rfl (by refine bk ?_; refine blk_put (cs := #[.int .i64 t104, .int .i64 t105, .slice none 0 0]) ?_ 2 _ rfl; refine bk ?_; refine blk_put (cs := #[.int .i64 t104, .int .i64 0, .slice none 0 0]) ?_ 1 _ rfl; refine bk ?_; refine blk_put (cs := #[.int .i64 0, .int .i64 0, .slice none 0 0]) ?_ 0 _ rfl; refine bk ?_; exact BK102.out) Try.underlying26 rfl (by kernel_rfl)) rfl ?_
   exact ⟨_, er, by (with_reducible repeat (first | apply Kd.R_alloc | apply Kd.R_drewN | apply Kd.R_drew)); exact Kd.R_mono (rF3 HO108.out BK102.out (.int .i64 t104) (.int .i64 t105) (.slice Ao20 t106.length co20)) (fun _ h => trivial), pT HB.out⟩
  replace c8 := Bool.eq_false_iff.mpr c8; subst c8
  have H1 : (some (0, 0, ([] : List Int), false)) = some (r1, r2, r3, r4) := by rw [if_neg (show ¬ (false = true) by decide)] at H; exact H
  clear H; have H := H1; clear H1
  simp only [Option.some.injEq, Prod.mk.injEq] at H
  obtain ⟨rfl, rfl, rfl, rfl⟩ := H
  go_enter Try.func12, Try.ntmps12
  go_wp2_with (first | ((with_reducible refine gate_dst (N := 3) rfl ?_); refine bxe (cs := #[.int .i64 a0_0, .int .i64 a0_1, .slice A0_2 l0_2.length c0_2]) (t := 26) ?_; intro gb101 hg w24 hbox hb; have BK101 := aK (hbox); have GW101 := aK (gE hg (pS HB.out)); have GE101 := GW101; replace HB := bS HB hb; clear hb hbox hg) | ((with_reducible refine gate_dst (N := 6) rfl ?_); refine bxe (cs := #[.int .i64 0, .int .i64 0, .slice none 0 0]) (t := 26) ?_; intro gb102 hg w25 hbox hb; have BK102 := aK (hbox); have GW102 := aK (gE hg (pS HB.out)); have GE102 := GW102; obtain ⟨NB101_102, NB102_101⟩ := nb hg (pB BK101.out); replace BK101 := bB BK101 hb; replace HB := bS HB hb; clear hb hbox hg; have hnb26 := NB101_102.out; have hnc26 := NB102_101.out; obtain ⟨hcz27_0, hcz27_1, hcz27_2, hfz27_0, hfz27_1, hfz27_2⟩ := bc3 BK101.out) | ((with_reducible refine gate_callee (f := 40) rfl ?_); refine gl (some 12) Try.func40 #[.agg #[.int .i64 a0_0, .int .i64 a0_1, .slice A0_2 l0_2.length c0_2], .int .i64 a1, .int .i64 a2] ?_; (with_reducible refine (spec_l7Divides.calls k a0_0 a0_1 _ _ l0_2 a1 a2 true _ ?side1 ?side2 A4.out).mono ?_); (case side1 => exact pC (Kd.C_below HR0_2.out HB.out)); (case side2 => exact HC0_2.out); rintro e w28 ⟨rfl, hb⟩; refine ⟨_, rfl, ?_⟩; replace BK101 := bB BK101 hb; replace BK102 := bB BK102 hb; replace HB := bS HB hb; (try clear hb); (try clear hb2); (try clear hk); (try clear hi); obtain ⟨hcz29_0, hcz29_1, hcz29_2, hfz29_0, hfz29_1, hfz29_2⟩ := bc3 BK101.out) | ((with_reducible refine gate_callee (f := 41) rfl ?_); refine gl (some 18) Try.func41 #[.agg #[.int .i64 a0_0, .int .i64 a0_1, .slice A0_2 l0_2.length c0_2], .int .i64 a1, .int .i64 a2] ?_; (with_reducible refine (spec_l7Blocks.calls k a0_0 a0_1 _ _ l0_2 a1 a2 t104 t105 t106 _ ?side1 ?side2 A6.out).mono ?_); (case side1 => exact pC (Kd.C_below HR0_2.out HB.out)); (case side2 => exact HC0_2.out); rintro e w30 ⟨v107, rfl, ho0, hb⟩; refine ⟨_, rfl, ?_⟩; have HO108 := aK (Kd.R_lower ho0 (below_size (pS HB.out))); replace BK101 := bB BK101 hb; replace BK102 := bB BK102 hb; replace HB := bS HB hb; (try clear hb); (try clear hb2); (try clear hk); (try clear hi); (try clear ho0)) | ((with_reducible refine gate_dst (N := 8) rfl ?_); refine bxe (cs := #[.int .i64 0, .int .i64 0, .slice none 0 0]) (t := 26) ?_; intro gb109 hg w31 hbox hb; have n0_ := aK (Kd.R_below (pR HO108.out) hb); have BK109 := aK (hbox); have GW109 := aK (gE hg (pS HB.out)); have GE109 := GW109; obtain ⟨NB101_109, NB109_101⟩ := nb hg (pB BK101.out); obtain ⟨NB102_109, NB109_102⟩ := nb hg (pB BK102.out); replace BK101 := bB BK101 hb; replace BK102 := bB BK102 hb; replace HB := bS HB hb; clear HO108; have HO108 := n0_; clear n0_ hb hbox hg; have hnb32 := NB109_101.out; have hnc32 := NB101_109.out; have hnb33 := NB109_102.out; have hnc33 := NB102_109.out; obtain ⟨hcz34_0, hcz34_1, hcz34_2, hfz34_0, hfz34_1, hfz34_2⟩ := bc3 BK109.out; obtain ⟨Ao35, co35, eo35⟩ := Kd.R_slice HO108.out; subst eo35) | ((with_reducible refine gate_callee (f := 29) rfl ?_); refine gl (some 20) Try.func29 #[.agg #[.int .i64 t104, .int .i64 t105, .slice Ao35 t106.length co35]] ?_; (with_reducible refine (spec_l7Full.calls k t104 t105 _ _ t106 false _ ?side1 ?side2 A7.out).mono ?_); (case side1 => exact rC (pR (rF3 HO108.out BK109.out (.int .i64 t104) (.int .i64 t105) (.slice Ao35 t106.length co35)))); (case side2 => exact (Kd.R_reads' HO108.out).2.1); rintro e w36 ⟨rfl, hb⟩; refine ⟨_, rfl, ?_⟩; have n0_ := aK (Kd.R_below (pR (rF3 HO108.out BK109.out (.int .i64 t104) (.int .i64 t105) (.slice Ao35 t106.length co35))) hb); have n1_ := aK (blk_below (g := gb101) (o := .cells #[.int .i64 a0_0, .int .i64 a0_1, .slice A0_2 l0_2.length c0_2] 26 (0, 0)) (by refine bk ?_; refine blk_far ?_ NB101_109.out _; refine bk ?_; refine blk_far ?_ NB101_109.out _; refine bk ?_; refine blk_far ?_ NB101_109.out _; refine bk ?_; exact BK101.out) hb); have n2_ := aK (blk_below (g := gb102) (o := .cells #[.int .i64 0, .int .i64 0, .slice none 0 0] 26 (0, 0)) (by refine bk ?_; refine blk_far ?_ NB102_109.out _; refine bk ?_; refine blk_far ?_ NB102_109.out _; refine bk ?_; refine blk_far ?_ NB102_109.out _; refine bk ?_; exact BK102.out) hb); have n3_ := aK (blk_below (g := gb109) (o := .cells #[.int .i64 t104, .int .i64 t105, .slice Ao35 t106.length co35] 26 (0, 0)) (by refine bk ?_; refine blk_put (cs := #[.int .i64 t104, .int .i64 t105, .slice none 0 0]) ?_ 2 _ rfl; refine bk ?_; refine blk_put (cs := #[.int .i64 t104, .int .i64 0, .slice none 0 0]) ?_ 1 _ rfl; refine bk ?_; refine blk_put (cs := #[.int .i64 0, .int .i64 0, .slice none 0 0]) ?_ 0 _ rfl; refine bk ?_; exact BK109.out) hb); replace HB := bS HB hb; clear HO108 BK101 BK102 BK109; have HO108 := n0_; have BK101 := n1_; have BK102 := n2_; have BK109 := n3_; clear n0_ n1_ n2_ n3_; (try clear hb); (try clear hb2); (try clear hk); (try clear hi); obtain ⟨hcz37_0, hcz37_1, hcz37_2, hfz37_0, hfz37_1, hfz37_2⟩ := bc3 BK102.out))
  refine bodyPost_ret (results_ct rfl _ _ gb102 26 #[.int .i64 0, .int .i64 0, .slice none 0 0] (0, 0) _ rfl (by refine bk ?_; refine blk_put (cs := #[.int .i64 0, .int .i64 0, .slice none 0 0]) ?_ 2 _ rfl; refine bk ?_; refine blk_put (cs := #[.int .i64 0, .int .i64 0, .slice none 0 0]) ?_ 1 _ rfl; refine bk ?_; refine blk_put (cs := #[.int .i64 0, .int .i64 0, .slice none 0 0]) ?_ 0 _ rfl; refine bk ?_; exact BK102.out) Try.underlying26 rfl (by kernel_rfl)) rfl ?_
  exact ⟨_, er, by first | exact Kd.R_nil _ _ _ _ _ | exact Kd.N_nil _ _ _ _ _ | exact Kd.V_nil _ _ _ _ _ | exact Kd.Q_nil _ _ _ _ _ | exact Kd.S_nil _ _ _ _ _, pT HB.out⟩
 replace c5 := Bool.eq_false_iff.mpr c5
 subst c5
 have H1 : (some (0, 0, ([] : List Int), false)) = some (r1, r2, r3, r4) := by rw [if_neg (show ¬ (false = true) by decide)] at H; exact H
 clear H
 have H := H1
 clear H1
 simp only [Option.some.injEq, Prod.mk.injEq] at H
 obtain ⟨rfl, rfl, rfl, rfl⟩ := H
 go_enter Try.func12, Try.ntmps12
 go_wp2_with (first | ((with_reducible refine gate_dst (N := 3) rfl ?_); refine bxe (cs := #[.int .i64 a0_0, .int .i64 a0_1, .slice A0_2 l0_2.length c0_2]) (t := 26) ?_; intro gb101 hg w38 hbox hb; have BK101 := aK (hbox); have GW101 := aK (gE hg (pS HB.out)); have GE101 := GW101; replace HB := bS HB hb; clear hb hbox hg) | ((with_reducible refine gate_dst (N := 6) rfl ?_); refine bxe (cs := #[.int .i64 0, .int .i64 0, .slice none 0 0]) (t := 26) ?_; intro gb102 hg w39 hbox hb; have BK102 := aK (hbox); have GW102 := aK (gE hg (pS HB.out)); have GE102 := GW102; obtain ⟨NB101_102, NB102_101⟩ := nb hg (pB BK101.out); replace BK101 := bB BK101 hb; replace HB := bS HB hb; clear hb hbox hg; have hnb40 := NB101_102.out; have hnc40 := NB102_101.out; obtain ⟨hcz41_0, hcz41_1, hcz41_2, hfz41_0, hfz41_1, hfz41_2⟩ := bc3 BK101.out) | ((with_reducible refine gate_callee (f := 40) rfl ?_); refine gl (some 12) Try.func40 #[.agg #[.int .i64 a0_0, .int .i64 a0_1, .slice A0_2 l0_2.length c0_2], .int .i64 a1, .int .i64 a2] ?_; (with_reducible refine (spec_l7Divides.calls k a0_0 a0_1 _ _ l0_2 a1 a2 false _ ?side1 ?side2 A4.out).mono ?_); (case side1 => exact pC (Kd.C_below HR0_2.out HB.out)); (case side2 => exact HC0_2.out); rintro e w42 ⟨rfl, hb⟩; refine ⟨_, rfl, ?_⟩; replace BK101 := bB BK101 hb; replace BK102 := bB BK102 hb; replace HB := bS HB hb; (try clear hb); (try clear hb2); (try clear hk); (try clear hi); obtain ⟨hcz43_0, hcz43_1, hcz43_2, hfz43_0, hfz43_1, hfz43_2⟩ := bc3 BK102.out))
 refine bodyPost_ret (results_ct rfl _ _ gb102 26 #[.int .i64 0, .int .i64 0, .slice none 0 0] (0, 0) _ rfl (by refine bk ?_; refine blk_put (cs := #[.int .i64 0, .int .i64 0, .slice none 0 0]) ?_ 2 _ rfl; refine bk ?_; refine blk_put (cs := #[.int .i64 0, .int .i64 0, .slice none 0 0]) ?_ 1 _ rfl; refine bk ?_; refine blk_put (cs := #[.int .i64 0, .int .i64 0, .slice none 0 0]) ?_ 0 _ rfl; refine bk ?_; exact BK102.out) Try.underlying26 rfl (by kernel_rfl)) rfl ?_
 exact ⟨_, er, by first | exact Kd.R_nil _ _ _ _ _ | exact Kd.N_nil _ _ _ _ _ | exact Kd.V_nil _ _ _ _ _ | exact Kd.Q_nil _ _ _ _ _ | exact Kd.S_nil _ _ _ _ _, pT HB.out⟩
def impl_floorDiv.f (a0 : Int) (a1 : Int) : Option (Int) := if a1 = 0 then (none) else (if (Int.tmod a0 a1) < 0 then (some (wrap64 ((wrap64 (Int.tdiv a0 a1)) - 1))) else (some (wrap64 (Int.tdiv a0 a1))))
theorem impl_floorDiv.calls (a0 : Int) (a1 : Int) (r : Int) (w : World) (h : impl_floorDiv.f a0 a1 = some r) :
  Calls Try.prog 42 #[.int .i64 a0, .int .i64 a1] w fun e w' => e = .returned (.int .i64 r) ∧ Drawn0 w w' := by
 have H : (if a1 = 0 then (none) else (if (Int.tmod a0 a1) < 0 then (some (wrap64 ((wrap64 (Int.tdiv a0 a1)) - 1))) else (some (wrap64 (Int.tdiv a0 a1))))) = some r := h
 clear h
 by_cases c3 : a1 = 0
 ·
  rw [if_pos c3] at H
  exact absurd H (by simp)
 rw [if_neg c3] at H
 have c3b0 : (a1 == 0) = false := beq_eq_false_iff_ne.mpr c3
 have c3b1 : (a1 != 0) = true := bne_iff_ne.mpr c3
 by_cases c4 : (Int.tmod a0 a1) < 0
 ·
  rw [if_pos c4] at H
  have c4b0 : decide ((Int.tmod a0 a1) < 0) = true := decide_eq_true c4
  clear c4
  obtain rfl := Option.some.inj H
  go_enter Try.func42, Try.ntmps42
  go_wp2
  go_ret
  exact ⟨by first | rfl | (simp; done) | (simp [*]; done), by repeat (first | exact Drawn0.refl _ | apply Drawn0.step)⟩
 rw [if_neg c4] at H
 have c4b0 : decide ((Int.tmod a0 a1) < 0) = false := decide_eq_false c4
 clear c4
 obtain rfl := Option.some.inj H
 go_enter Try.func42, Try.ntmps42
 go_wp2
 go_ret
 exact ⟨by first | rfl | (simp; done) | (simp [*]; done), by repeat (first | exact Drawn0.refl _ | apply Drawn0.step)⟩
mutual
def impl_CoarsenMean.j0 : Nat → Int → Int → Bool → Int → Int → List Int → Option (Int × Int × List Int × Bool)
 | 0, _, _, _, _, _, _ => none
 | k + 1, x1, x2, x20, x102000, x102001, x102002 => if x20 = true then (some (0, 0, ([] : List Int), false)) else ((impl_blockSums.f k x102000 x102001 x102002 x1 x2).bind fun bt105 => (impl_CoarsenMean.l0 k x1 x2 (bt105.2.2.length : Int) 0 bt105.1 bt105.2.1 bt105.2.2))
def impl_CoarsenMean.l0 : Nat → Int → Int → Int → Int → Int → Int → List Int → Option (Int × Int × List Int × Bool)
 | 0, _, _, _, _, _, _, _ => none
 | k + 1, x1, x2, x28, x29, x111000, x111001, x111002 => if x29 < x28 then (if 0 ≤ x29 then (if x29 < (x111002.length : Int) then ((impl_floorDiv.f (rd x111002 x29) (wrap64 (x1 * x2))).bind fun t112 => (impl_CoarsenMean.l0 k x1 x2 x28 (wrap64 (x29 + 1)) x111000 x111001 (x111002.set (x29 : Int).toNat t112))) else (none)) else (none)) else (some (x111000, x111001, x111002, true))
end
def impl_CoarsenMean.f (k : Nat) (a0_0 : Int) (a0_1 : Int) (l0_2 : List Int) (a1 : Int) (a2 : Int) : Option (Int × Int × List Int × Bool) := (impl_isFull.f k a0_0 a0_1 l0_2).bind fun t103 => (if t103 = true then ((impl_areBlocks.f a0_0 a0_1 l0_2 a1 a2).bind fun t104 => (impl_CoarsenMean.j0 k a1 a2 (!t104) a0_0 a0_1 l0_2)) else (impl_CoarsenMean.j0 k a1 a2 true a0_0 a0_1 l0_2))
def impl_CoarsenMean.T7 : Bool × List (List Nat × List Nat) := (true, [([], []), ([0], [0]), ([], []), ([], []), ([], []), ([], []), ([4, 5], [4, 5]), ([3, 6], [3, 6]), ([1, 2, 0, 1, 2, 3, 4, 5, 6, 7], [1, 2]), ([8, 7, 7, 0, 1, 2, 3, 4, 5, 6, 7], [7, 8])])
def impl_CoarsenMean.B7 : List Nat := [0, 1, 0, 0, 0, 0, 48, 120, 255, 511]
theorem impl_CoarsenMean.tab7 : rtab .any (opsOf Try.f13 7) = impl_CoarsenMean.T7 := by kernel_rfl
theorem impl_CoarsenMean.bits7 : waitsOk impl_CoarsenMean.T7.2 impl_CoarsenMean.B7 = true := by kernel_rfl
theorem impl_CoarsenMean.calls (k : Nat) (a0_0 : Int) (a0_1 : Int) (A0_2 : Option Addr) (c0_2 : Nat) (l0_2 : List Int) (a1 : Int) (a2 : Int) (r1 : Int) (r2 : Int) (r3 : List Int) (r4 : Bool) (w : World) (hr0_2 : Kd.C (Kd.int .i64) w A0_2 l0_2.length l0_2) (hc0_2 : l0_2.length ≤ c0_2) (h : impl_CoarsenMean.f k a0_0 a0_1 l0_2 a1 a2 = some (r1, r2, r3, r4)) :
  Calls Try.prog 13 #[.agg #[.int .i64 a0_0, .int .i64 a0_1, .slice A0_2 l0_2.length c0_2], .int .i64 a1, .int .i64 a2] w fun e w' => ∃ v2_ : Value, e = .returned (.tuple #[.agg #[.int .i64 r1, .int .i64 r2, v2_], .bool r4]) ∧ Kd.R (Kd.int .i64) 3 w' w.heap.size (fun _ => True) v2_ r3 ∧ Below w.heap.size w w' := by
 have hu26 := Try.underlying26
 have HR0_2 := Aside0.mk hr0_2
 have HC0_2 := Aside0.mk hc0_2
 clear hr0_2 hc0_2
 have HB := aK (Below.refl w.heap.size w)
 have H : ((impl_isFull.f k a0_0 a0_1 l0_2).bind fun t103 => (if t103 = true then ((impl_areBlocks.f a0_0 a0_1 l0_2 a1 a2).bind fun t104 => (impl_CoarsenMean.j0 k a1 a2 (!t104) a0_0 a0_1 l0_2)) else (impl_CoarsenMean.j0 k a1 a2 true a0_0 a0_1 l0_2))) = some (r1, r2, r3, r4) := h
 clear h
 have HC4 := Aside0.mk H
 clear H
 go_enter Try.func13, Try.ntmps13
 go_upto_region 1 with (first | ((with_reducible refine gate_dst (N := 3) rfl ?_); refine bxe (cs := #[.int .i64 a0_0, .int .i64 a0_1, .slice A0_2 l0_2.length c0_2]) (t := 26) ?_; intro gb101 hg w5 hbox hb; have BK101 := aK (hbox); have GW101 := aK (gE hg (pS HB.out)); have GE101 := GW101; replace HB := bS HB hb; clear hb hbox hg) | ((with_reducible refine gate_dst (N := 6) rfl ?_); refine bxe (cs := #[.int .i64 0, .int .i64 0, .slice none 0 0]) (t := 26) ?_; intro gb102 hg w6 hbox hb; have BK102 := aK (hbox); have GW102 := aK (gE hg (pS HB.out)); have GE102 := GW102; obtain ⟨NB101_102, NB102_101⟩ := nb hg (pB BK101.out); replace BK101 := bB BK101 hb; replace HB := bS HB hb; clear hb hbox hg))
 (try simp only [Act.put, List.setIfInBounds_toArray, List.set_cons_zero, List.set_cons_succ])
 go_cut [20] (fun v20 wc => ∃ (kq : Nat) (x20_3 : Bool), v20 = .bool x20_3 ∧ Aside0 (impl_CoarsenMean.j0 kq a1 a2 x20_3 a0_0 a0_1 l0_2 = some (r1, r2, r3, r4)) ∧ Aside0 (kq ≤ k) ∧ Aside0 (wc.heap[gb101]? = some (.cells #[.int .i64 a0_0, .int .i64 a0_1, (.slice A0_2 l0_2.length c0_2)] 26 (0, 0))) ∧ Aside0 (wc.heap[gb102]? = some (.cells #[.int .i64 0, .int .i64 0, (.slice none 0 0)] 26 (0, 0))) ∧ Aside0 (Below w.heap.size w wc))
 case first =>
  have H := HC4.out; clear HC4; replace H := Option.bind_eq_some_iff.mp H; obtain ⟨t103, A70, H⟩ := H
  replace H : (if t103 = true then ((impl_areBlocks.f a0_0 a0_1 l0_2 a1 a2).bind fun t104 => (impl_CoarsenMean.j0 k a1 a2 (!t104) a0_0 a0_1 l0_2)) else (impl_CoarsenMean.j0 k a1 a2 true a0_0 a0_1 l0_2)) = some (r1, r2, r3, r4) := H
  have A7 := Aside0.mk A70; clear A70
  by_cases c8 : t103 = true
  ·
   subst c8
   have H1 : ((impl_areBlocks.f a0_0 a0_1 l0_2 a1 a2).bind fun t104 => (impl_CoarsenMean.j0 k a1 a2 (!t104) a0_0 a0_1 l0_2)) = some (r1, r2, r3, r4) := by rw [if_pos rfl] at H; exact H
   clear H; have H := H1; clear H1; replace H := Option.bind_eq_some_iff.mp H; obtain ⟨t104, A90, H⟩ := H
   replace H : (impl_CoarsenMean.j0 k a1 a2 (!t104) a0_0 a0_1 l0_2) = some (r1, r2, r3, r4) := H
   have A9 := Aside0.mk A90; clear A90; have H' := Aside0.mk H; clear H; have hnb10 := NB101_102.out; have hnc10 := NB102_101.out; obtain ⟨hcz11_0, hcz11_1, hcz11_2, hfz11_0, hfz11_1, hfz11_2⟩ := bc3 BK101.out
   go_wp2_with (first | ((with_reducible refine gate_callee (f := 21) rfl ?_); refine gl (some 12) Try.func21 #[.agg #[.int .i64 a0_0, .int .i64 a0_1, .slice A0_2 l0_2.length c0_2]] ?_; (with_reducible refine (impl_isFull.calls k a0_0 a0_1 _ _ l0_2 true _ ?side1 ?side2 A7.out).mono ?_); (case side1 => exact pC (Kd.C_below HR0_2.out HB.out)); (case side2 => exact HC0_2.out); rintro e w12 ⟨rfl, hb⟩; refine ⟨_, rfl, ?_⟩; replace BK101 := bB BK101 hb; replace BK102 := bB BK102 hb; replace HB := bS HB hb; (try clear hb); (try clear hb2); (try clear hk); (try clear hi); obtain ⟨hcz13_0, hcz13_1, hcz13_2, hfz13_0, hfz13_1, hfz13_2⟩ := bc3 BK101.out) | (go_at_call 38; (with_reducible refine (impl_areBlocks.calls a0_0 a0_1 _ _ l0_2 a1 a2 t104 _ ?side1 ?side2 A9.out).mono ?_); (case side1 => exact pC (Kd.C_below HR0_2.out HB.out)); (case side2 => exact HC0_2.out); rintro e w14 ⟨rfl, hb⟩; replace BK101 := bB BK101 hb; replace BK102 := bB BK102 hb; replace HB := bS HB hb; (try clear hb); (try clear hb2); (try clear hk); (try clear hi)))
   go_meet
   case rel => exact ⟨_, (!t104), (by first | rfl | (simp; done) | (simp [*]; done)), H', ⟨by first | omega | exact Nat.le_refl _⟩, ⟨by refine bk ?_; exact BK101.out⟩, ⟨by refine bk ?_; exact BK102.out⟩, ⟨pT HB.out⟩⟩
  replace c8 := Bool.eq_false_iff.mpr c8; subst c8
  have H1 : (impl_CoarsenMean.j0 k a1 a2 true a0_0 a0_1 l0_2) = some (r1, r2, r3, r4) := by rw [if_neg (show ¬ (false = true) by decide)] at H; exact H
  clear H; have H := H1; clear H1; have H' := Aside0.mk H; clear H; have hnb15 := NB101_102.out; have hnc15 := NB102_101.out; obtain ⟨hcz16_0, hcz16_1, hcz16_2, hfz16_0, hfz16_1, hfz16_2⟩ := bc3 BK101.out
  go_wp2_with (first | ((with_reducible refine gate_callee (f := 21) rfl ?_); refine gl (some 12) Try.func21 #[.agg #[.int .i64 a0_0, .int .i64 a0_1, .slice A0_2 l0_2.length c0_2]] ?_; (with_reducible refine (impl_isFull.calls k a0_0 a0_1 _ _ l0_2 false _ ?side1 ?side2 A7.out).mono ?_); (case side1 => exact pC (Kd.C_below HR0_2.out HB.out)); (case side2 => exact HC0_2.out); rintro e w17 ⟨rfl, hb⟩; refine ⟨_, rfl, ?_⟩; replace BK101 := bB BK101 hb; replace BK102 := bB BK102 hb; replace HB := bS HB hb; (try clear hb); (try clear hb2); (try clear hk); (try clear hi)))
  go_meet
  case rel => exact ⟨_, (true), (by first | rfl | (simp; done) | (simp [*]; done)), H', ⟨by first | omega | exact Nat.le_refl _⟩, ⟨by refine bk ?_; exact BK101.out⟩, ⟨by refine bk ?_; exact BK102.out⟩, ⟨pT HB.out⟩⟩
 case rest =>
  clear HC4
  try clear c1
  try clear c2
  try clear p2
  try clear c8
  try clear c10
  try clear c13
  try clear c15
  try clear hcz11_0
  try clear hcz11_1
  try clear hcz11_2
  try clear hcz13_0
  try clear hcz13_1
  try clear hcz13_2
  try clear hcz16_0
  try clear hcz16_1
  try clear hcz16_2
  try clear hfz11_0
  try clear hfz11_1
  try clear hfz11_2
  try clear hfz13_0
  try clear hfz13_1
  try clear hfz13_2
  try clear hfz16_0
  try clear hfz16_1
  try clear hfz16_2
  obtain ⟨kq, x20_3, rfl, HA, HJ3, BK101, BK102, HB⟩ := hcut
  cases kq with
  | zero => exact absurd HA.out (by simp [impl_CoarsenMean.j0])
  | succ kj3 =>
   have H := HA.out; clear HA
   simp only [impl_CoarsenMean.j0] at H
   by_cases c18 : x20_3 = true
   ·
    subst c18
    have H1 : (some (0, 0, ([] : List Int), false)) = some (r1, r2, r3, r4) := by rw [if_pos rfl] at H; exact H
    clear H; have H := H1; clear H1
    simp only [Option.some.injEq, Prod.mk.injEq] at H
    obtain ⟨rfl, rfl, rfl, rfl⟩ := H; have hnb19 := NB102_101.out; have hnc19 := NB101_102.out; obtain ⟨hcz20_0, hcz20_1, hcz20_2, hfz20_0, hfz20_1, hfz20_2⟩ := bc3 BK102.out
    go_wp2
    refine bodyPost_ret (results_ct rfl _ _ gb102 26 #[.int .i64 0, .int .i64 0, .slice none 0 0] (0, 0) _ rfl (by refine bk ?_; refine blk_put (cs := #[.int .i64 0, .int .i64 0, .slice none 0 0]) ?_ 2 _ rfl; refine bk ?_; refine blk_put (cs := #[.int .i64 0, .int .i64 0, .slice none 0 0]) ?_ 1 _ rfl; refine bk ?_; refine blk_put (cs := #[.int .i64 0, .int .i64 0, .slice none 0 0]) ?_ 0 _ rfl; refine bk ?_; exact BK102.out) Try.underlying26 rfl (by kernel_rfl)) rfl ?_
    exact ⟨_, er, by first | exact Kd.R_nil _ _ _ _ _ | exact Kd.N_nil _ _ _ _ _ | exact Kd.V_nil _ _ _ _ _ | exact Kd.Q_nil _ _ _ _ _ | exact Kd.S_nil _ _ _ _ _, pT HB.out⟩
   replace c18 := Bool.eq_false_iff.mpr c18; subst c18
   have H1 : ((impl_blockSums.f kj3 a0_0 a0_1 l0_2 a1 a2).bind fun bt105 => (impl_CoarsenMean.l0 kj3 a1 a2 (bt105.2.2.length : Int) 0 bt105.1 bt105.2.1 bt105.2.2)) = some (r1, r2, r3, r4) := by rw [if_neg (show ¬ (false = true) by decide)] at H; exact H
   clear H; have H := H1; clear H1; replace H := Option.bind_eq_some_iff.mp H
   obtain ⟨⟨t105, t106, t107⟩, A210, H⟩ := H
   replace H : (impl_CoarsenMean.l0 kj3 a1 a2 (t107.length : Int) 0 t105 t106 t107) = some (r1, r2, r3, r4) := H
   have A21 := Aside0.mk A210; clear A210; have H' := Aside0.mk H; clear H; have hnb22 := NB101_102.out; have hnc22 := NB102_101.out; obtain ⟨hcz23_0, hcz23_1, hcz23_2, hfz23_0, hfz23_1, hfz23_2⟩ := bc3 BK101.out
   go_wp2_with (first | ((with_reducible refine gate_callee (f := 39) rfl ?_); refine gl (some 25) Try.func39 #[.agg #[.int .i64 a0_0, .int .i64 a0_1, .slice A0_2 l0_2.length c0_2], .int .i64 a1, .int .i64 a2] ?_; (with_reducible refine (impl_blockSums.calls kj3 a0_0 a0_1 _ _ l0_2 a1 a2 t105 t106 t107 _ ?side1 ?side2 A21.out).mono ?_); (case side1 => exact pC (Kd.C_below HR0_2.out HB.out)); (case side2 => exact HC0_2.out); rintro e w24 ⟨v108, rfl, ho0, hb⟩; refine ⟨_, rfl, ?_⟩; have HO109 := aK (Kd.R_lower ho0 (below_size (pS HB.out))); replace BK101 := bB BK101 hb; replace BK102 := bB BK102 hb; replace HB := bS HB hb; (try clear hb); (try clear hb2); (try clear hk); (try clear hi); (try clear ho0)) | ((with_reducible refine gate_dst (N := 8) rfl ?_); refine bxe (cs := #[.int .i64 0, .int .i64 0, .slice none 0 0]) (t := 26) ?_; intro gb110 hg w25 hbox hb; have n0_ := aK (Kd.R_below (pR HO109.out) hb); have BK110 := aK (hbox); have GW110 := aK (gE hg (pS HB.out)); have GE110 := GW110; obtain ⟨NB101_110, NB110_101⟩ := nb hg (pB BK101.out); obtain ⟨NB102_110, NB110_102⟩ := nb hg (pB BK102.out); replace BK101 := bB BK101 hb; replace BK102 := bB BK102 hb; replace HB := bS HB hb; clear HO109; have HO109 := n0_; clear n0_ hb hbox hg; have hnb26 := NB110_101.out; have hnc26 := NB101_110.out; have hnb27 := NB110_102.out; have hnc27 := NB102_110.out; obtain ⟨hcz28_0, hcz28_1, hcz28_2, hfz28_0, hfz28_1, hfz28_2⟩ := bc3 BK110.out; obtain ⟨Ao29, co29, eo29⟩ := Kd.R_slice HO109.out; subst eo29))
   go_loopg [29] kj3 (fun kq v29 w' => ∃ (x29_2 : Int) (x111002_2 : List Int), v29 = .int .i64 x29_2 ∧ Aside0 (impl_CoarsenMean.l0 kq a1 a2 (t107.length : Int) x29_2 t105 t106 x111002_2 = some (r1, r2, r3, r4)) ∧ Aside0 (kq ≤ kj3) ∧ Aside0 (Kd.R (Kd.int .i64) 3 w' w.heap.size (fun _ => True) (.slice Ao29 t107.length co29) x111002_2) ∧ Aside0 (w'.heap[gb101]? = some (.cells #[.int .i64 a0_0, .int .i64 a0_1, (.slice A0_2 l0_2.length c0_2)] 26 (0, 0))) ∧ Aside0 (w'.heap[gb102]? = some (.cells #[.int .i64 0, .int .i64 0, (.slice none 0 0)] 26 (0, 0))) ∧ Aside0 (w'.heap[gb110]? = some (.cells #[.int .i64 t105, .int .i64 t106, (.slice Ao29 t107.length co29)] 26 (0, 0))) ∧ Aside0 (Below w.heap.size w w'))
   case atStart => exact ⟨(0), (t107), (by first | rfl | (simp; done) | (simp [*]; done)), H', ⟨Nat.le_refl _⟩, ⟨pR (Kd.R_mono (rF3 HO109.out BK110.out (.int .i64 t105) (.int .i64 t106) (.slice Ao29 t107.length co29)) (fun _ h => trivial))⟩, ⟨by refine bk ?_; refine blk_far ?_ NB101_110.out _; refine bk ?_; refine blk_far ?_ NB101_110.out _; refine bk ?_; refine blk_far ?_ NB101_110.out _; refine bk ?_; exact BK101.out⟩, ⟨by refine bk ?_; refine blk_far ?_ NB102_110.out _; refine bk ?_; refine blk_far ?_ NB102_110.out _; refine bk ?_; refine blk_far ?_ NB102_110.out _; refine bk ?_; exact BK102.out⟩, ⟨by refine bk ?_; refine blk_put (cs := #[.int .i64 t105, .int .i64 t106, .slice none 0 0]) ?_ 2 _ rfl; refine bk ?_; refine blk_put (cs := #[.int .i64 t105, .int .i64 0, .slice none 0 0]) ?_ 1 _ rfl; refine bk ?_; refine blk_put (cs := #[.int .i64 0, .int .i64 0, .slice none 0 0]) ?_ 0 _ rfl; refine bk ?_; exact BK110.out⟩, ⟨pT HB.out⟩⟩
   case round =>
    clear H'
    try clear c1
    try clear c2
    try clear p2
    try clear c3
    try clear c8
    try clear c10
    try clear c13
    try clear c15
    try clear c18
    try clear c19
    try clear c21
    try clear c22
    try clear c26
    try clear c27
    try clear hcz11_0
    try clear hcz11_1
    try clear hcz11_2
    try clear hcz13_0
    try clear hcz13_1
    try clear hcz13_2
    try clear hcz16_0
    try clear hcz16_1
    try clear hcz16_2
    try clear hcz20_0
    try clear hcz20_1
    try clear hcz20_2
    try clear hcz23_0
    try clear hcz23_1
    try clear hcz23_2
    try clear hcz28_0
    try clear hcz28_1
    try clear hcz28_2
    try clear hfz11_0
    try clear hfz11_1
    try clear hfz11_2
    try clear hfz13_0
    try clear hfz13_1
    try clear hfz13_2
    try clear hfz16_0
    try clear hfz16_1
    try clear hfz16_2
    try clear hfz20_0
    try clear hfz20_1
    try clear hfz20_2
    try clear hfz23_0
    try clear hfz23_1
    try clear hfz23_2
    try clear hfz28_0
    try clear hfz28_1
    try clear hfz28_2
    try clear p2
    obtain ⟨x29_2, x111002_2, rfl, HA, HK2, HO_111002, BK101, BK102, BK110, HB⟩ := hrel; have hl111002_2 := (Kd.R_reads' HO_111002.out).1; rw [hl111002_2] at HO_111002
    (try simp only [hl111002_2])
    (try simp only [hl111002_2] at BK101)
    (try simp only [hl111002_2] at BK102)
    (try simp only [hl111002_2] at BK110)
    cases gk with
    | zero => exact absurd HA.out (by simp [impl_CoarsenMean.l0])
    | succ k2 =>
     have H := HA.out; clear HA
     simp only [impl_CoarsenMean.l0] at H
     by_cases c30 : x29_2 < (t107.length : Int)
     ·
      rw [if_pos c30] at H
      have c30b0 : decide (x29_2 < (t107.length : Int)) = true := decide_eq_true c30
      (try simp only [hl111002_2] at c30b0)
      clear c30
      by_cases c31 : 0 ≤ x29_2
      ·
       rw [if_pos c31] at H
       have c31b0 : decide (0 ≤ x29_2) = true := decide_eq_true c31
       clear c31
       by_cases c32 : x29_2 < (x111002_2.length : Int)
       ·
        rw [if_pos c32] at H
        have c32b0 : decide (x29_2 < (x111002_2.length : Int)) = true := decide_eq_true c32
        (try simp only [hl111002_2] at c32b0)
        clear c32; replace H := Option.bind_eq_some_iff.mp H; obtain ⟨t112, A330, H⟩ := H
        replace H : (impl_CoarsenMean.l0 k2 a1 a2 (t107.length : Int) (wrap64 (x29_2 + 1)) t105 t106 (x111002_2.set (x29_2 : Int).toNat t112)) = some (r1, r2, r3, r4) := H
        have A33 := Aside0.mk A330; clear A330
        obtain ⟨y113, hy113⟩ : ∃ y_ : List Int, y_ = (x111002_2.set (x29_2 : Int).toNat t112) := ⟨_, rfl⟩
        replace H : (impl_CoarsenMean.l0 k2 a1 a2 (t107.length : Int) (wrap64 (x29_2 + 1)) t105 t106 y113) = some (r1, r2, r3, r4) := by first | (rw [hy113]; with_reducible exact H) | (have H2_ := (Option.bind_some _ _).symm.trans H; rw [hy113]; with_reducible exact H2_) | (have H2_ := (Option.bind_some _ _).symm.trans H; with_reducible exact H2_) | with_reducible exact H | (rw [hy113]; exact H) | exact H
        have Ny113 := Aside0.mk hy113; clear hy113; have H' := Aside0.mk H; clear H
        have p111 : 0 ≤ (x29_2 : Int) := of_decide_eq_true (by first | (with_reducible assumption) | assumption)
        have q111 : x29_2 < (x111002_2.length : Int) := of_decide_eq_true (by first | (with_reducible assumption) | assumption)
        obtain ⟨ad111, e111, hx111_0⟩ := Kd.at_int (Kd.R_reads' HO_111002.out).2.2 x29_2 p111 q111; cases e111; replace p111 := eq_true p111; replace q111 := eq_true q111
        try go_wp2
        have n0_ := aK (Kd.R_drew HO_111002.out); have n1_ := aK (blk_drew BK101.out); have n2_ := aK (blk_drew BK102.out); have n3_ := aK (blk_drew BK110.out); have n4_ := aK (below_drew1 HB.out); clear HO_111002 BK101 BK102 BK110 HB; have HO_111002 := n0_; have BK101 := n1_; have BK102 := n2_; have BK110 := n3_; have HB := n4_; clear n0_ n1_ n2_ n3_ n4_
        refine start_ (n := 10) (S := fun w' => w'.cell? ⟨gb110, 0, none⟩ = some (.int .i64 t105) ∧ w'.cell? ⟨gb110, 1, none⟩ = some (.int .i64 t106) ∧ w'.cell? ⟨gb110, 2, none⟩ = some (.slice (some ad111) x111002_2.length co29)) (ds := [9]) #[false, false, false, false, false, false, false, false, false, false] (by kernel_rfl) rfl rfl (cz3 BK110.out) (fun hHeld => ?_); refine with_tabW impl_CoarsenMean.tab7 impl_CoarsenMean.bits7 (fun HT_ HW_ => ?_)
        generalize wr.drew = w35 at HO_111002 BK101 BK102 BK110 HB hHeld ⊢
        refine pu (i := 0) (N := some 34) #[true, false, false, false, false, false, false, false, false, false] rfl rfl HT_.out ?_
        refine pu (i := 2) (N := some 36) #[true, false, true, false, false, false, false, false, false, false] rfl rfl HT_.out ?_
        refine pu (i := 3) (N := some 37) #[true, false, true, true, false, false, false, false, false, false] rfl rfl HT_.out ?_
        refine pu (i := 4) (N := some 38) #[true, false, true, true, true, false, false, false, false, false] rfl rfl HT_.out ?_
        refine pu (i := 5) (N := some 39) #[true, false, true, true, true, true, false, false, false, false] rfl rfl HT_.out ?_
        refine pu (i := 6) (N := some 40) #[true, false, true, true, true, true, true, false, false, false] rfl rfl HT_.out ?_
        refine tk (i := 1) (N := some 35) #[true, true, true, true, true, true, true, false, false, false] rfl rfl HT_.out HW_.out (Or.inl ⟨by rfl, by rintro w' ⟨s0, s1, s2⟩; go_simp; with_reducible rfl⟩) hHeld ?_
        refine one_ (i := 7) (N := some 41) #[true, true, true, true, true, true, true, true, false, false] rfl rfl (one_of HT_.out (by kernel_rfl)) (by decide) (fun K hK => ?_)
        refine goes_ Try.func42 (by kernel_rfl) rfl #[.int .i64 (rd x111002_2 x29_2), .int .i64 (wrap64 (a1 * a2))] (by rfl) rfl rfl (by (try simp only [List.map_toArray, List.map_cons, List.map_nil]); first | done | rfl | (simp only [List.length_drop, List.length_take]; rfl)) ?_
        with_reducible refine (impl_floorDiv.calls (rd x111002_2 x29_2) (wrap64 (a1 * a2)) t112 _ A33.out).mono ?_
        rintro e w' ⟨rfl, ⟨nd, rfl⟩⟩
        refine ⟨_, rfl, ?_⟩
        have p34 : 0 ≤ (x29_2 : Int) := of_decide_eq_true (by first | (with_reducible assumption) | assumption)
        have q34 : (x29_2 : Int) < ((x111002_2.length : Int) : Int) := of_decide_eq_true (by first | (with_reducible assumption) | assumption)
        obtain ⟨go34, co34, eo34, gb34, gl34, cl34, HG34⟩ := Kd.R_form HO_111002.out (by omega)
        (first | cases eo34 | (injection eo34 with ea_ en_ ec_; (first | subst ea_ | (injection ea_ with ea_; subst ea_)); subst ec_; clear en_))
        have GB34 := Aside0.mk gb34; have GG34 := Aside0.mk HG34; clear gb34 gl34 HG34
        (first | simp only [add_plain] at hx111_0 | skip)
        obtain ⟨hx34_0, hf34_0⟩ := Kd.R_celln 0 HO_111002.out (x29_2 : Int) p34 q34; replace p34 := eq_true p34; replace q34 := eq_true q34; have HP36 := Kd.R_putn HO_111002.out (x29_2 : Int) t112; rw [← Ny113.out] at HP36; have HQ36 := Aside0.mk HP36; clear HP36
        refine hK.out _ _ (cz3 BK110.out) (fun hHeld => ?_)
        clear hK K
        refine norm_ (a' := ?_) ?_ ?_
        rotate_left
        ·
         show Act.put _ (some 41) _ = _
         simp only [sP]
         rfl
        refine pu (i := 8) (N := some 42) #[true, true, true, true, true, true, true, true, true, false] rfl rfl HT_.out ?_
        refine last_ (i := 9) (N := none) #[true, true, true, true, true, true, true, true, true, true] rfl rfl (one_of HT_.out (by kernel_rfl)) (by decide) (fun K hK => ?_)
        refine skip_ (w1 := ?_) (by rfl) rfl ?_ ?_
        rotate_left
        ·
         go_simp
         rfl
        refine hK.out _ _ ?_
        clear hK K
        refine done_ (done_of HT_.out (by kernel_rfl)) ?_
        try go_wp2
        (try simp only [← hl111002_2])
        go_roundg k2
        case measure => have := HJ3.out; have := HK2.out; omega
        case rel => exact ⟨(wrap64 (x29_2 + 1)), (y113), (by first | rfl | (simp; done) | (simp [*]; done)), H', ⟨by have := HJ3.out; have := HK2.out; omega⟩, ⟨by (try simp only [hl111002_2]); (with_reducible repeat (first | apply Kd.R_alloc | apply Kd.R_drewN | apply Kd.R_drew)); exact HQ36.out⟩, ⟨by (try simp only [hl111002_2]); refine bk ?_; refine blk_far ?_ (by have h_ := Kd.R_ne HO_111002.out BK101.out (by decide); intro e_; exact h_ (by rw [e_]; rfl)) _; refine bk ?_; exact BK101.out⟩, ⟨by (try simp only [hl111002_2]); refine bk ?_; refine blk_far ?_ (by have h_ := Kd.R_ne HO_111002.out BK102.out (by decide); intro e_; exact h_ (by rw [e_]; rfl)) _; refine bk ?_; exact BK102.out⟩, ⟨by (try simp only [hl111002_2]); refine bk ?_; refine blk_far ?_ (by have h_ := Kd.R_ne HO_111002.out BK110.out (by decide); intro e_; exact h_ (by rw [e_]; rfl)) _; refine bk ?_; exact BK110.out⟩, ⟨by repeat (first | (with_reducible first | exact HB.out | apply below_alloc | apply pw_below_drewN | apply below_drew1 | refine below_set ?_ GB34.out | refine below_set ?_ GE101.out | refine below_set ?_ GE102.out | refine below_set ?_ GE110.out) | exact HB.out)⟩⟩
       rw [if_neg c32] at H
       exact absurd H (by simp)
      rw [if_neg c31] at H
      exact absurd H (by simp)
     rw [if_neg c30] at H
     have c30b0 : decide (x29_2 < (t107.length : Int)) = false := decide_eq_false c30
     (try simp only [hl111002_2] at c30b0)
     clear c30
     simp only [Option.some.injEq, Prod.mk.injEq] at H
     obtain ⟨rfl, rfl, rfl, rfl⟩ := H; have hnb37 := NB110_101.out; have hnc37 := NB101_110.out; have hnb38 := NB110_102.out; have hnc38 := NB102_110.out; obtain ⟨hcz39_0, hcz39_1, hcz39_2, hfz39_0, hfz39_1, hfz39_2⟩ := bc3 BK110.out; have hnb40 := NB102_101.out; have hnc40 := NB101_102.out; obtain ⟨hcz41_0, hcz41_1, hcz41_2, hfz41_0, hfz41_1, hfz41_2⟩ := bc3 BK102.out
     go_wp2
     refine bodyPost_ret (results_ct rfl _ _ gb102 26 #[.int .i64 t105, .int .i64 t106, .slice Ao29 x111002_2.length co29] (0, 0) _ rfl (by refine bk ?_; refine blk_put (cs := #[.int .i64 t105, .int .i64 t106, .slice none 0 0]) ?_ 2 _ rfl; refine bk ?_; refine blk_put (cs := #[.int .i64 t105, .int .i64 0, .slice none 0 0]) ?_ 1 _ rfl; refine bk ?_; refine blk_put (cs := #[.int .i64 0, .int .i64 0, .slice none 0 0]) ?_ 0 _ rfl; refine bk ?_; exact BK102.out) Try.underlying26 rfl (by kernel_rfl)) rfl ?_
     exact ⟨_, er, by (with_reducible repeat (first | apply Kd.R_alloc | apply Kd.R_drewN | apply Kd.R_drew)); exact Kd.R_mono (rF3 HO_111002.out BK102.out (.int .i64 t105) (.int .i64 t106) (.slice Ao29 x111002_2.length co29)) (fun _ h => trivial), pT HB.out⟩
def spec_l4Floor.f (a0 : Int) (a1 : Int) : Option (Int) := if a0 < 0 then (if a1 = 0 then (none) else (some (wrap64 (-(wrap64 (Int.tdiv (wrap64 ((wrap64 ((wrap64 (-a0)) + a1)) - 1)) a1)))))) else (if a1 = 0 then (none) else (some (wrap64 (Int.tdiv a0 a1))))
theorem spec_l4Floor.calls (a0 : Int) (a1 : Int) (r : Int) (w : World) (h : spec_l4Floor.f a0 a1 = some r) :
  Calls Try.prog 43 #[.int .i64 a0, .int .i64 a1] w fun e w' => e = .returned (.int .i64 r) ∧ Drawn0 w w' := by
 have H : (if a0 < 0 then (if a1 = 0 then (none) else (some (wrap64 (-(wrap64 (Int.tdiv (wrap64 ((wrap64 ((wrap64 (-a0)) + a1)) - 1)) a1)))))) else (if a1 = 0 then (none) else (some (wrap64 (Int.tdiv a0 a1))))) = some r := h
 clear h
 by_cases c3 : a0 < 0
 ·
  rw [if_pos c3] at H
  have c3b0 : decide (a0 < 0) = true := decide_eq_true c3
  clear c3
  by_cases c4 : a1 = 0
  ·
   rw [if_pos c4] at H
   exact absurd H (by simp)
  rw [if_neg c4] at H
  have c4b0 : (a1 == 0) = false := beq_eq_false_iff_ne.mpr c4
  have c4b1 : (a1 != 0) = true := bne_iff_ne.mpr c4
  obtain rfl := Option.some.inj H
  go_enter Try.func43, Try.ntmps43
  go_wp2
  go_ret
  exact ⟨by first | rfl | (simp; done) | (simp [*]; done), by repeat (first | exact Drawn0.refl _ | apply Drawn0.step)⟩
 rw [if_neg c3] at H
 have c3b0 : decide (a0 < 0) = false := decide_eq_false c3
 clear c3
 by_cases c5 : a1 = 0
 ·
  rw [if_pos c5] at H
  exact absurd H (by simp)
 rw [if_neg c5] at H
 have c5b0 : (a1 == 0) = false := beq_eq_false_iff_ne.mpr c5
 have c5b1 : (a1 != 0) = true := bne_iff_ne.mpr c5
 obtain rfl := Option.some.inj H
 go_enter Try.func43, Try.ntmps43
 go_wp2
 go_ret
 exact ⟨by first | rfl | (simp; done) | (simp [*]; done), by repeat (first | exact Drawn0.refl _ | apply Drawn0.step)⟩
def spec_CoarsenMean.l0 : Nat → Int → Int → Int → Int → Int → List Int → Option (Int × Int × List Int × Bool)
 | 0, _, _, _, _, _, _ => none
 | k + 1, x1, x2, x9, x110000, x110001, x110002 => if x9 < (x110002.length : Int) then (if 0 ≤ x9 then ((spec_l4Floor.f (rd x110002 x9) (wrap64 (x1 * x2))).bind fun t111 => (spec_CoarsenMean.l0 k x1 x2 (wrap64 (x9 + 1)) x110000 x110001 (x110002.set (x9 : Int).toNat t111))) else (none)) else (some (x110000, x110001, x110002, true))
def spec_CoarsenMean.f (k : Nat) (a0_0 : Int) (a0_1 : Int) (l0_2 : List Int) (a1 : Int) (a2 : Int) : Option (Int × Int × List Int × Bool) := (spec_l7Divides.f k a0_0 a0_1 l0_2 a1 a2).bind fun t103 => (if t103 = true then ((spec_l7Blocks.f k a0_0 a0_1 l0_2 a1 a2).bind fun bt104 => (spec_CoarsenMean.l0 k a1 a2 0 bt104.1 bt104.2.1 bt104.2.2)) else (some (0, 0, ([] : List Int), false)))
def spec_CoarsenMean.T7 : Bool × List (List Nat × List Nat) := (true, [([], []), ([0], [0]), ([], []), ([], []), ([3], [3]), ([], []), ([4, 5], [4, 5]), ([6], [6]), ([], []), ([], []), ([8, 9], [8, 9]), ([7, 10], [7, 10]), ([1, 2, 0, 1, 2, 3, 4, 5, 6, 7, 8, 9, 10, 11], [1, 2]), ([12, 11, 11, 0, 1, 2, 3, 4, 5, 6, 7, 8, 9, 10, 11], [11, 12])])
def spec_CoarsenMean.B7 : List Nat := [0, 1, 0, 0, 8, 0, 56, 120, 0, 0, 768, 2040, 4095, 8191]
theorem spec_CoarsenMean.tab7 : rtab .any (opsOf Try.f14 7) = spec_CoarsenMean.T7 := by kernel_rfl
theorem spec_CoarsenMean.bits7 : waitsOk spec_CoarsenMean.T7.2 spec_CoarsenMean.B7 = true := by kernel_rfl
theorem spec_CoarsenMean.calls (k : Nat) (a0_0 : Int) (a0_1 : Int) (A0_2 : Option Addr) (c0_2 : Nat) (l0_2 : List Int) (a1 : Int) (a2 : Int) (r1 : Int) (r2 : Int) (r3 : List Int) (r4 : Bool) (w : World) (hr0_2 : Kd.C (Kd.int .i64) w A0_2 l0_2.length l0_2) (hc0_2 : l0_2.length ≤ c0_2) (h : spec_CoarsenMean.f k a0_0 a0_1 l0_2 a1 a2 = some (r1, r2, r3, r4)) :
  Calls Try.prog 14 #[.agg #[.int .i64 a0_0, .int .i64 a0_1, .slice A0_2 l0_2.length c0_2], .int .i64 a1, .int .i64 a2] w fun e w' => ∃ v2_ : Value, e = .returned (.tuple #[.agg #[.int .i64 r1, .int .i64 r2, v2_], .bool r4]) ∧ Kd.R (Kd.int .i64) 3 w' w.heap.size (fun _ => True) v2_ r3 ∧ Below w.heap.size w w' := by
 have hu26 := Try.underlying26
 have HR0_2 := Aside0.mk hr0_2
 have HC0_2 := Aside0.mk hc0_2
 clear hr0_2 hc0_2
 have HB := aK (Below.refl w.heap.size w)
 have H : ((spec_l7Divides.f k a0_0 a0_1 l0_2 a1 a2).bind fun t103 => (if t103 = true then ((spec_l7Blocks.f k a0_0 a0_1 l0_2 a1 a2).bind fun bt104 => (spec_CoarsenMean.l0 k a1 a2 0 bt104.1 bt104.2.1 bt104.2.2)) else (some (0, 0, ([] : List Int), false)))) = some (r1, r2, r3, r4) := h
 clear h
 replace H := Option.bind_eq_some_iff.mp H
 obtain ⟨t103, A40, H⟩ := H
 replace H : (if t103 = true then ((spec_l7Blocks.f k a0_0 a0_1 l0_2 a1 a2).bind fun bt104 => (spec_CoarsenMean.l0 k a1 a2 0 bt104.1 bt104.2.1 bt104.2.2)) else (some (0, 0, ([] : List Int), false))) = some (r1, r2, r3, r4) := H
 have A4 := Aside0.mk A40
 clear A40
 by_cases c5 : t103 = true
 ·
  subst c5
  have H1 : ((spec_l7Blocks.f k a0_0 a0_1 l0_2 a1 a2).bind fun bt104 => (spec_CoarsenMean.l0 k a1 a2 0 bt104.1 bt104.2.1 bt104.2.2)) = some (r1, r2, r3, r4) := by rw [if_pos rfl] at H; exact H
  clear H; have H := H1; clear H1; replace H := Option.bind_eq_some_iff.mp H
  obtain ⟨⟨t104, t105, t106⟩, A60, H⟩ := H
  replace H : (spec_CoarsenMean.l0 k a1 a2 0 t104 t105 t106) = some (r1, r2, r3, r4) := H
  have A6 := Aside0.mk A60; clear A60; have H' := Aside0.mk H; clear H
  go_enter Try.func14, Try.ntmps14
  go_wp2_with (first | ((with_reducible refine gate_dst (N := 3) rfl ?_); refine bxe (cs := #[.int .i64 a0_0, .int .i64 a0_1, .slice A0_2 l0_2.length c0_2]) (t := 26) ?_; intro gb101 hg w7 hbox hb; have BK101 := aK (hbox); have GW101 := aK (gE hg (pS HB.out)); have GE101 := GW101; replace HB := bS HB hb; clear hb hbox hg) | ((with_reducible refine gate_dst (N := 6) rfl ?_); refine bxe (cs := #[.int .i64 0, .int .i64 0, .slice none 0 0]) (t := 26) ?_; intro gb102 hg w8 hbox hb; have BK102 := aK (hbox); have GW102 := aK (gE hg (pS HB.out)); have GE102 := GW102; obtain ⟨NB101_102, NB102_101⟩ := nb hg (pB BK101.out); replace BK101 := bB BK101 hb; replace HB := bS HB hb; clear hb hbox hg; have hnb9 := NB101_102.out; have hnc9 := NB102_101.out; obtain ⟨hcz10_0, hcz10_1, hcz10_2, hfz10_0, hfz10_1, hfz10_2⟩ := bc3 BK101.out) | ((with_reducible refine gate_callee (f := 40) rfl ?_); refine gl (some 13) Try.func40 #[.agg #[.int .i64 a0_0, .int .i64 a0_1, .slice A0_2 l0_2.length c0_2], .int .i64 a1, .int .i64 a2] ?_; (with_reducible refine (spec_l7Divides.calls k a0_0 a0_1 _ _ l0_2 a1 a2 true _ ?side1 ?side2 A4.out).mono ?_); (case side1 => exact pC (Kd.C_below HR0_2.out HB.out)); (case side2 => exact HC0_2.out); rintro e w11 ⟨rfl, hb⟩; refine ⟨_, rfl, ?_⟩; replace BK101 := bB BK101 hb; replace BK102 := bB BK102 hb; replace HB := bS HB hb; (try clear hb); (try clear hb2); (try clear hk); (try clear hi); obtain ⟨hcz12_0, hcz12_1, hcz12_2, hfz12_0, hfz12_1, hfz12_2⟩ := bc3 BK101.out) | ((with_reducible refine gate_callee (f := 41) rfl ?_); refine gl (some 19) Try.func41 #[.agg #[.int .i64 a0_0, .int .i64 a0_1, .slice A0_2 l0_2.length c0_2], .int .i64 a1, .int .i64 a2] ?_; (with_reducible refine (spec_l7Blocks.calls k a0_0 a0_1 _ _ l0_2 a1 a2 t104 t105 t106 _ ?side1 ?side2 A6.out).mono ?_); (case side1 => exact pC (Kd.C_below HR0_2.out HB.out)); (case side2 => exact HC0_2.out); rintro e w13 ⟨v107, rfl, ho0, hb⟩; refine ⟨_, rfl, ?_⟩; have HO108 := aK (Kd.R_lower ho0 (below_size (pS HB.out))); replace BK101 := bB BK101 hb; replace BK102 := bB BK102 hb; replace HB := bS HB hb; (try clear hb); (try clear hb2); (try clear hk); (try clear hi); (try clear ho0)) | ((with_reducible refine gate_dst (N := 8) rfl ?_); refine bxe (cs := #[.int .i64 0, .int .i64 0, .slice none 0 0]) (t := 26) ?_; intro gb109 hg w14 hbox hb; have n0_ := aK (Kd.R_below (pR HO108.out) hb); have BK109 := aK (hbox); have GW109 := aK (gE hg (pS HB.out)); have GE109 := GW109; obtain ⟨NB101_109, NB109_101⟩ := nb hg (pB BK101.out); obtain ⟨NB102_109, NB109_102⟩ := nb hg (pB BK102.out); replace BK101 := bB BK101 hb; replace BK102 := bB BK102 hb; replace HB := bS HB hb; clear HO108; have HO108 := n0_; clear n0_ hb hbox hg; have hnb15 := NB109_101.out; have hnc15 := NB101_109.out; have hnb16 := NB109_102.out; have hnc16 := NB102_109.out; obtain ⟨hcz17_0, hcz17_1, hcz17_2, hfz17_0, hfz17_1, hfz17_2⟩ := bc3 BK109.out; obtain ⟨Ao18, co18, eo18⟩ := Kd.R_slice HO108.out; subst eo18))
  go_loopg [9] k (fun kq v9 w' => ∃ (x9_1 : Int) (x110002_1 : List Int) (u110002 : Value), v9 = .int .i64 x9_1 ∧ Aside0 (spec_CoarsenMean.l0 kq a1 a2 x9_1 t104 t105 x110002_1 = some (r1, r2, r3, r4)) ∧ Aside0 (kq ≤ k) ∧ Aside0 (Kd.R (Kd.int .i64) 3 w' w.heap.size (fun _ => True) u110002 x110002_1) ∧ Aside0 (w'.heap[gb101]? = some (.cells #[.int .i64 a0_0, .int .i64 a0_1, (.slice A0_2 l0_2.length c0_2)] 26 (0, 0))) ∧ Aside0 (w'.heap[gb102]? = some (.cells #[.int .i64 0, .int .i64 0, (.slice none 0 0)] 26 (0, 0))) ∧ Aside0 (w'.heap[gb109]? = some (.cells #[.int .i64 t104, .int .i64 t105, u110002] 26 (0, 0))) ∧ Aside0 (Below w.heap.size w w'))
  case atStart => exact ⟨(0), (t106), (.slice Ao18 t106.length co18), (by first | rfl | (simp; done) | (simp [*]; done)), H', ⟨Nat.le_refl _⟩, ⟨pR (Kd.R_mono (rF3 HO108.out BK109.out (.int .i64 t104) (.int .i64 t105) (.slice Ao18 t106.length co18)) (fun _ h => trivial))⟩, ⟨by refine bk ?_; refine blk_far ?_ NB101_109.out _; refine bk ?_; refine blk_far ?_ NB101_109.out _; refine bk ?_; refine blk_far ?_ NB101_109.out _; refine bk ?_; exact BK101.out⟩, ⟨by refine bk ?_; refine blk_far ?_ NB102_109.out _; refine bk ?_; refine blk_far ?_ NB102_109.out _; refine bk ?_; refine blk_far ?_ NB102_109.out _; refine bk ?_; exact BK102.out⟩, ⟨by refine bk ?_; refine blk_put (cs := #[.int .i64 t104, .int .i64 t105, .slice none 0 0]) ?_ 2 _ rfl; refine bk ?_; refine blk_put (cs := #[.int .i64 t104, .int .i64 0, .slice none 0 0]) ?_ 1 _ rfl; refine bk ?_; refine blk_put (cs := #[.int .i64 0, .int .i64 0, .slice none 0 0]) ?_ 0 _ rfl; refine bk ?_; exact BK109.out⟩, ⟨pT HB.out⟩⟩
  case round =>
   clear H'
   try clear c1
   try clear p2
   try clear c4
   try clear c5
   try clear c9
   try clear c14
   try clear c15
   try clear c16
   try clear hcz10_0
   try clear hcz10_1
   try clear hcz10_2
   try clear hcz12_0
   try clear hcz12_1
   try clear hcz12_2
   try clear hcz17_0
   try clear hcz17_1
   try clear hcz17_2
   try clear hfz10_0
   try clear hfz10_1
   try clear hfz10_2
   try clear hfz12_0
   try clear hfz12_1
   try clear hfz12_2
   try clear hfz17_0
   try clear hfz17_1
   try clear hfz17_2
   obtain ⟨x9_1, x110002_1, u110002, rfl, HA, HK1, HO_110002, BK101, BK102, BK109, HB⟩ := hrel
   cases gk with
   | zero => exact absurd HA.out (by simp [spec_CoarsenMean.l0])
   | succ k1 =>
    have H := HA.out; clear HA
    simp only [spec_CoarsenMean.l0] at H
    by_cases c19 : x9_1 < (x110002_1.length : Int)
    ·
     rw [if_pos c19] at H
     have c19b0 : decide (x9_1 < (x110002_1.length : Int)) = true := decide_eq_true c19
     clear c19
     by_cases c20 : 0 ≤ x9_1
     ·
      rw [if_pos c20] at H
      have c20b0 : decide (0 ≤ x9_1) = true := decide_eq_true c20
      clear c20; replace H := Option.bind_eq_some_iff.mp H; obtain ⟨t111, A210, H⟩ := H
      replace H : (spec_CoarsenMean.l0 k1 a1 a2 (wrap64 (x9_1 + 1)) t104 t105 (x110002_1.set (x9_1 : Int).toNat t111)) = some (r1, r2, r3, r4) := H
      have A21 := Aside0.mk A210; clear A210
      obtain ⟨y112, hy112⟩ : ∃ y_ : List Int, y_ = (x110002_1.set (x9_1 : Int).toNat t111) := ⟨_, rfl⟩
      replace H : (spec_CoarsenMean.l0 k1 a1 a2 (wrap64 (x9_1 + 1)) t104 t105 y112) = some (r1, r2, r3, r4) := by first | (rw [hy112]; with_reducible exact H) | (have H2_ := (Option.bind_some _ _).symm.trans H; rw [hy112]; with_reducible exact H2_) | (have H2_ := (Option.bind_some _ _).symm.trans H; with_reducible exact H2_) | with_reducible exact H | (rw [hy112]; exact H) | exact H
      have Ny112 := Aside0.mk hy112; clear hy112; have H' := Aside0.mk H; clear H; have hnb23 := NB109_101.out; have hnc23 := NB101_109.out; have hnb24 := NB109_102.out; have hnc24 := NB102_109.out; obtain ⟨hcz25_0, hcz25_1, hcz25_2, hfz25_0, hfz25_1, hfz25_2⟩ := bc3 BK109.out; obtain ⟨Ao26, co26, eo26⟩ := Kd.R_slice HO_110002.out; subst eo26
      try go_wp2
      have n0_ := aK (Kd.R_drew HO_110002.out); have n1_ := aK (blk_drew BK101.out); have n2_ := aK (blk_drew BK102.out); have n3_ := aK (blk_drew BK109.out); have n4_ := aK (below_drew1 HB.out); clear HO_110002 BK101 BK102 BK109 HB; have HO_110002 := n0_; have BK101 := n1_; have BK102 := n2_; have BK109 := n3_; have HB := n4_; clear n0_ n1_ n2_ n3_ n4_
      have p110 : 0 ≤ (x9_1 : Int) := of_decide_eq_true (by first | (with_reducible assumption) | assumption)
      have q110 : x9_1 < (x110002_1.length : Int) := of_decide_eq_true (by first | (with_reducible assumption) | assumption)
      obtain ⟨ad110, e110, hx110_0⟩ := Kd.at_int (Kd.R_reads' HO_110002.out).2.2 x9_1 p110 q110; cases e110; replace p110 := eq_true p110; replace q110 := eq_true q110
      refine start_ (n := 14) (S := fun w' => w'.cell? ⟨gb109, 0, none⟩ = some (.int .i64 t104) ∧ w'.cell? ⟨gb109, 1, none⟩ = some (.int .i64 t105) ∧ w'.cell? ⟨gb109, 2, none⟩ = some (.slice (some ad110) x110002_1.length co26) ∧ w'.cell? (ad110.add (x9_1).toNat) = some (.int .i64 (rd x110002_1 x9_1))) (ds := [13]) #[false, false, false, false, false, false, false, false, false, false, false, false, false, false] (by kernel_rfl) rfl rfl ⟨(blk_cell BK109.out 0).trans rfl, (blk_cell BK109.out 1).trans rfl, (blk_cell BK109.out 2).trans rfl, hx110_0⟩ (fun hHeld => ?_); refine with_tabW spec_CoarsenMean.tab7 spec_CoarsenMean.bits7 (fun HT_ HW_ => ?_)
      generalize wr.drew = w27 at HO_110002 BK101 BK102 BK109 HB hx110_0 hHeld ⊢
      refine pu (i := 0) (N := some 27) #[true, false, false, false, false, false, false, false, false, false, false, false, false, false] rfl rfl HT_.out ?_
      refine pu (i := 2) (N := some 29) #[true, false, true, false, false, false, false, false, false, false, false, false, false, false] rfl rfl HT_.out ?_
      refine pu (i := 3) (N := some 30) #[true, false, true, true, false, false, false, false, false, false, false, false, false, false] rfl rfl HT_.out ?_
      refine pu (i := 5) (N := some 32) #[true, false, true, true, false, true, false, false, false, false, false, false, false, false] rfl rfl HT_.out ?_
      refine pu (i := 8) (N := some 35) #[true, false, true, true, false, true, false, false, true, false, false, false, false, false] rfl rfl HT_.out ?_
      refine pu (i := 9) (N := some 36) #[true, false, true, true, false, true, false, false, true, true, false, false, false, false] rfl rfl HT_.out ?_
      refine pu (i := 10) (N := some 37) #[true, false, true, true, false, true, false, false, true, true, true, false, false, false] rfl rfl HT_.out ?_
      refine tk (i := 1) (N := some 28) #[true, true, true, true, false, true, false, false, true, true, true, false, false, false] rfl rfl HT_.out HW_.out (Or.inl ⟨by rfl, by rintro w' ⟨s0, s1, s2, s3⟩; go_simp; with_reducible rfl⟩) hHeld ?_
      refine tk (i := 4) (N := some 31) #[true, true, true, true, true, true, false, false, true, true, true, false, false, false] rfl rfl HT_.out HW_.out (Or.inl ⟨by rfl, by rintro w' ⟨s0, s1, s2, s3⟩; go_simp; with_reducible rfl⟩) hHeld ?_
      refine pu (i := 6) (N := some 33) #[true, true, true, true, true, true, true, false, true, true, true, false, false, false] rfl rfl HT_.out ?_
      refine tk (i := 7) (N := some 34) #[true, true, true, true, true, true, true, true, true, true, true, false, false, false] rfl rfl HT_.out HW_.out (Or.inl ⟨by rfl, by rintro w' ⟨s0, s1, s2, s3⟩; go_simp; with_reducible rfl⟩) hHeld ?_
      refine one_ (i := 11) (N := some 38) #[true, true, true, true, true, true, true, true, true, true, true, true, false, false] rfl rfl (one_of HT_.out (by kernel_rfl)) (by decide) (fun K hK => ?_)
      refine goes_ Try.func43 (by kernel_rfl) rfl #[.int .i64 (rd x110002_1 x9_1), .int .i64 (wrap64 (a1 * a2))] (by rfl) rfl rfl (by (try simp only [List.map_toArray, List.map_cons, List.map_nil]); first | done | rfl | (simp only [List.length_drop, List.length_take]; rfl)) ?_
      with_reducible refine (spec_l4Floor.calls (rd x110002_1 x9_1) (wrap64 (a1 * a2)) t111 _ A21.out).mono ?_
      rintro e w' ⟨rfl, ⟨nd, rfl⟩⟩
      refine ⟨_, rfl, ?_⟩
      have p22 : 0 ≤ (x9_1 : Int) := of_decide_eq_true (by first | (with_reducible assumption) | assumption)
      have q22 : (x9_1 : Int) < ((x110002_1.length : Int) : Int) := of_decide_eq_true (by first | (with_reducible assumption) | assumption)
      obtain ⟨go22, co22, eo22, gb22, gl22, cl22, HG22⟩ := Kd.R_form HO_110002.out (by omega)
      (first | cases eo22 | (injection eo22 with ea_ en_ ec_; (first | subst ea_ | (injection ea_ with ea_; subst ea_)); subst ec_; clear en_))
      have GB22 := Aside0.mk gb22; have GG22 := Aside0.mk HG22; clear gb22 gl22 HG22
      (first | simp only [add_plain] at hx110_0 | skip)
      obtain ⟨hx22_0, hf22_0⟩ := Kd.R_celln 0 HO_110002.out (x9_1 : Int) p22 q22; replace p22 := eq_true p22; replace q22 := eq_true q22; have HP28 := Kd.R_putn HO_110002.out (x9_1 : Int) t111; rw [← Ny112.out] at HP28; have HQ28 := Aside0.mk HP28; clear HP28
      refine hK.out _ _ ⟨(blk_cell BK109.out 0).trans rfl, (blk_cell BK109.out 1).trans rfl, (blk_cell BK109.out 2).trans rfl, hHeld.2.2.2⟩ (fun hHeld => ?_)
      clear hK K
      refine norm_ (a' := ?_) ?_ ?_
      rotate_left
      ·
       show Act.put _ (some 38) _ = _
       simp only [sP]
       rfl
      refine pu (i := 12) (N := some 39) #[true, true, true, true, true, true, true, true, true, true, true, true, true, false] rfl rfl HT_.out ?_
      refine last_ (i := 13) (N := none) #[true, true, true, true, true, true, true, true, true, true, true, true, true, true] rfl rfl (one_of HT_.out (by kernel_rfl)) (by decide) (fun K hK => ?_)
      refine skip_ (w1 := ?_) (by rfl) rfl ?_ ?_
      rotate_left
      ·
       go_simp
       rfl
      refine hK.out _ _ ?_
      clear hK K
      refine done_ (done_of HT_.out (by kernel_rfl)) ?_
      try go_wp2
      go_roundg k1
      case measure => have := HK1.out; omega
      case rel => exact ⟨(wrap64 (x9_1 + 1)), (y112), (.slice (some ⟨go22, 0, none⟩) x110002_1.length co26), (by first | rfl | (simp; done) | (simp [*]; done)), H', ⟨by have := HK1.out; omega⟩, ⟨pR HQ28.out⟩, ⟨by refine bk ?_; refine blk_far ?_ (by have h_ := Kd.R_ne HO_110002.out BK101.out (by decide); intro e_; exact h_ (by rw [e_]; rfl)) _; refine bk ?_; exact BK101.out⟩, ⟨by refine bk ?_; refine blk_far ?_ (by have h_ := Kd.R_ne HO_110002.out BK102.out (by decide); intro e_; exact h_ (by rw [e_]; rfl)) _; refine bk ?_; exact BK102.out⟩, ⟨by refine bk ?_; refine blk_far ?_ (by have h_ := Kd.R_ne HO_110002.out BK109.out (by decide); intro e_; exact h_ (by rw [e_]; rfl)) _; refine bk ?_; exact BK109.out⟩, ⟨by repeat (first | (with_reducible first | exact HB.out | apply below_alloc | apply pw_below_drewN | apply below_drew1 | refine below_set ?_ GB22.out | refine below_set ?_ GE101.out | refine below_set ?_ GE102.out | refine below_set ?_ GE109.out) | exact HB.out)⟩⟩
     rw [if_neg c20] at H
     exact absurd H (by simp)
    rw [if_neg c19] at H
    have c19b0 : decide (x9_1 < (x110002_1.length : Int)) = false := decide_eq_false c19
    clear c19
    simp only [Option.some.injEq, Prod.mk.injEq] at H
    obtain ⟨rfl, rfl, rfl, rfl⟩ := H; have hnb29 := NB109_101.out; have hnc29 := NB101_109.out; have hnb30 := NB109_102.out; have hnc30 := NB102_109.out; obtain ⟨hcz31_0, hcz31_1, hcz31_2, hfz31_0, hfz31_1, hfz31_2⟩ := bc3 BK109.out; obtain ⟨Ao32, co32, eo32⟩ := Kd.R_slice HO_110002.out; subst eo32; have hnb33 := NB102_101.out; have hnc33 := NB101_102.out; obtain ⟨hcz34_0, hcz34_1, hcz34_2, hfz34_0, hfz34_1, hfz34_2⟩ := bc3 BK102.out
    go_wp2
    refine bodyPost_ret (results_ct rfl _ _ gb102 26 #[.int .i64 t104, .int .i64 t105, .slice Ao32 x110002_1.length co32] (0, 0) _ rfl (by refine bk ?_; refine blk_put (cs := #[.int .i64 t104, .int .i64 t105, .slice none 0 0]) ?_ 2 _ rfl; refine bk ?_; refine blk_put (cs := #[.int .i64 t104, .int .i64 0, .slice none 0 0]) ?_ 1 _ rfl; refine bk ?_; refine blk_put (cs := #[.int .i64 0, .int .i64 0, .slice none 0 0]) ?_ 0 _ rfl; refine bk ?_; exact BK102.out) Try.underlying26 rfl (by kernel_rfl)) rfl ?_
    exact ⟨_, er, by (with_reducible repeat (first | apply Kd.R_alloc | apply Kd.R_drewN | apply Kd.R_drew)); exact Kd.R_mono (rF3 HO_110002.out BK102.out (.int .i64 t104) (.int .i64 t105) (.slice Ao32 x110002_1.length co32)) (fun _ h => trivial), pT HB.out⟩
 replace c5 := Bool.eq_false_iff.mpr c5
 subst c5
 have H1 : (some (0, 0, ([] : List Int), false)) = some (r1, r2, r3, r4) := by rw [if_neg (show ¬ (false = true) by decide)] at H; exact H
 clear H
 have H := H1
 clear H1
 simp only [Option.some.injEq, Prod.mk.injEq] at H
 obtain ⟨rfl, rfl, rfl, rfl⟩ := H
 go_enter Try.func14, Try.ntmps14
 go_wp2_with (first | ((with_reducible refine gate_dst (N := 3) rfl ?_); refine bxe (cs := #[.int .i64 a0_0, .int .i64 a0_1, .slice A0_2 l0_2.length c0_2]) (t := 26) ?_; intro gb101 hg w35 hbox hb; have BK101 := aK (hbox); have GW101 := aK (gE hg (pS HB.out)); have GE101 := GW101; replace HB := bS HB hb; clear hb hbox hg) | ((with_reducible refine gate_dst (N := 6) rfl ?_); refine bxe (cs := #[.int .i64 0, .int .i64 0, .slice none 0 0]) (t := 26) ?_; intro gb102 hg w36 hbox hb; have BK102 := aK (hbox); have GW102 := aK (gE hg (pS HB.out)); have GE102 := GW102; obtain ⟨NB101_102, NB102_101⟩ := nb hg (pB BK101.out); replace BK101 := bB BK101 hb; replace HB := bS HB hb; clear hb hbox hg; have hnb37 := NB101_102.out; have hnc37 := NB102_101.out; obtain ⟨hcz38_0, hcz38_1, hcz38_2, hfz38_0, hfz38_1, hfz38_2⟩ := bc3 BK101.out) | ((with_reducible refine gate_callee (f := 40) rfl ?_); refine gl (some 13) Try.func40 #[.agg #[.int .i64 a0_0, .int .i64 a0_1, .slice A0_2 l0_2.length c0_2], .int .i64 a1, .int .i64 a2] ?_; (with_reducible refine (spec_l7Divides.calls k a0_0 a0_1 _ _ l0_2 a1 a2 false _ ?side1 ?side2 A4.out).mono ?_); (case side1 => exact pC (Kd.C_below HR0_2.out HB.out)); (case side2 => exact HC0_2.out); rintro e w39 ⟨rfl, hb⟩; refine ⟨_, rfl, ?_⟩; replace BK101 := bB BK101 hb; replace BK102 := bB BK102 hb; replace HB := bS HB hb; (try clear hb); (try clear hb2); (try clear hk); (try clear hi); obtain ⟨hcz40_0, hcz40_1, hcz40_2, hfz40_0, hfz40_1, hfz40_2⟩ := bc3 BK102.out))
 refine bodyPost_ret (results_ct rfl _ _ gb102 26 #[.int .i64 0, .int .i64 0, .slice none 0 0] (0, 0) _ rfl (by refine bk ?_; refine blk_put (cs := #[.int .i64 0, .int .i64 0, .slice none 0 0]) ?_ 2 _ rfl; refine bk ?_; refine blk_put (cs := #[.int .i64 0, .int .i64 0, .slice none 0 0]) ?_ 1 _ rfl; refine bk ?_; refine blk_put (cs := #[.int .i64 0, .int .i64 0, .slice none 0 0]) ?_ 0 _ rfl; refine bk ?_; exact BK102.out) Try.underlying26 rfl (by kernel_rfl)) rfl ?_
 exact ⟨_, er, by first | exact Kd.R_nil _ _ _ _ _ | exact Kd.N_nil _ _ _ _ _ | exact Kd.V_nil _ _ _ _ _ | exact Kd.Q_nil _ _ _ _ _ | exact Kd.S_nil _ _ _ _ _, pT HB.out⟩
mutual
def spec_DrawSplitValue.l0 : Nat → List Int → Int → List Int → Int → Int → Option (Int × List Int)
 | 0, _, _, _, _, _ => none
 | k + 1, x5, x6, x102000, x102001, x102002 => if x6 ≥ 0 then ((spec_l1Cur_among.f x102000 x102001 x102002 (([0, 1, 1, 2, 3, 7, 64] : List Int))).bind fun bt111 => (if x5.length < 17592186044416 then (spec_DrawSplitValue.l0 k (x5 ++ [bt111.1]) (wrap64 (x6 - 1)) x102000 bt111.2.1 bt111.2.2) else (none))) else ((spec_l1Cur_one.f x102000 x102001 x102002 12).bind fun bt117 => (if bt117.1 = true then ((spec_l1Cur_pick.f x102000 bt117.2.1 bt117.2.2 (x5.length : Int)).bind fun bt120 => ((spec_l1Cur_among.f x102000 bt120.2.1 bt120.2.2 (([65, (-1), 0] : List Int))).bind fun bt126 => (if 0 ≤ bt120.1 then (if bt120.1 < (x5.length : Int) then (spec_DrawSplitValue.j1 k (x5.set (bt120.1 : Int).toNat bt126.1) x102000 bt126.2.1 bt126.2.2) else (none)) else (none)))) else (spec_DrawSplitValue.j1 k x5 x102000 bt117.2.1 bt117.2.2)))
def spec_DrawSplitValue.j1 : Nat → List Int → List Int → Int → Int → Option (Int × List Int)
 | 0, _, _, _, _ => none
 | k + 1, x5, x102000, x102001, x102002 => (spec_l1Cur_one.f x102000 x102001 x102002 24).bind fun bt130 => (if bt130.1 = true then ((spec_l1Cur_among.f x102000 bt130.2.1 bt130.2.2 (([10, 7, (-7), 100, 1, 0, 9000, (-9000), 9001, (-1)] : List Int))).bind fun bt139 => (some (bt139.1, (([] : List Int))))) else ((spec_l1Cur_among.f x102000 bt130.2.1 bt130.2.2 (([10, 7, (-7), 100, 1, 0, 9000, (-9000), 9001, (-1)] : List Int))).bind fun bt145 => (some (bt145.1, x5))))
end
def spec_DrawSplitValue.f (k : Nat) (l0 : List Int) : Option (Int × List Int) := (spec_l1Cur_pick.f l0 0 0 6).bind fun bt105 => (spec_DrawSplitValue.l0 k (([] : List Int)) bt105.1 l0 bt105.2.1 bt105.2.2)
theorem spec_DrawSplitValue.calls (k : Nat) (A0 : Option Addr) (c0 : Nat) (l0 : List Int) (r1 : Int) (r2 : List Int) (w : World) (hr0 : Kd.C (Kd.int .u8) w A0 l0.length l0) (hc0 : l0.length ≤ c0) (h : spec_DrawSplitValue.f k l0 = some (r1, r2)) :
  Calls Try.prog 15 #[.slice A0 l0.length c0] w fun e w' => ∃ v1_ : Value, e = .returned (.tuple #[.int .i64 r1, v1_]) ∧ Kd.R (Kd.int .i64) 3 w' w.heap.size (fun _ => True) v1_ r2 ∧ Below w.heap.size w w' := by
 have hu42 := Try.underlying42
 have HR0 := Aside0.mk hr0
 have HC0 := Aside0.mk hc0
 clear hr0 hc0
 have HB := aK (Below.refl w.heap.size w)
 have H : ((spec_l1Cur_pick.f l0 0 0 6).bind fun bt105 => (spec_DrawSplitValue.l0 k (([] : List Int)) bt105.1 l0 bt105.2.1 bt105.2.2)) = some (r1, r2) := h
 clear h
 obtain ⟨y102, hy102⟩ : ∃ y_ : List Int, y_ = (([] : List Int)) := ⟨_, rfl⟩
 replace H : ((spec_l1Cur_pick.f l0 0 0 6).bind fun bt105 => (spec_DrawSplitValue.l0 k y102 bt105.1 l0 bt105.2.1 bt105.2.2)) = some (r1, r2) := by first | (rw [hy102]; with_reducible exact H) | (have H2_ := (Option.bind_some _ _).symm.trans H; rw [hy102]; with_reducible exact H2_) | (have H2_ := (Option.bind_some _ _).symm.trans H; with_reducible exact H2_) | with_reducible exact H | (rw [hy102]; exact H) | exact H
 have Ny102 := Aside0.mk hy102
 clear hy102
 replace H := Option.bind_eq_some_iff.mp H
 obtain ⟨⟨t105, t106, t107⟩, A20, H⟩ := H
 replace H : (spec_DrawSplitValue.l0 k y102 t105 l0 t106 t107) = some (r1, r2) := H
 have A2 := Aside0.mk A20
 clear A20
 have H' := Aside0.mk H
 clear H
 go_enter Try.func15, Try.ntmps15
 go_wp2_with (first | ((with_reducible refine gate_dst (N := 9) rfl ?_); refine bxe (cs := #[.slice A0 l0.length c0, .int .i64 0, .int .u64 0]) (t := 42) ?_; intro gb101 hg w3 hbox hb; have HI101 := aK ((⟨_, _, hbox, (by rw [hg]; exact (below_size (pS HB.out)) : w.heap.size ≤ gb101), HR0.out⟩ : IsS42 w w3 gb101 l0 0 0)); replace HB := bS HB hb; clear hb hbox hg) | ((with_reducible refine gate_dst (N := 10) rfl ?_); refine Kd.R_lit (Kd.int .i64) _ 3 ?hg (N := 10) ?hd (xs := ([] : List Int)) (inner := []) (ok := fun _ => True) (okp := fun _ => True) ?hr ?hp (fun _ hk => hk) trivial (Below.refl _ _) (Nat.le_refl _) (by simp) ?_; (case hd => rfl); (case hg => rfl); (case hr => first | (go_simp; done) | (go_simp; rfl)); (case hp => exact (Reps.none _ _)); intro v103 w4 ho5 hb hg_ hnew_; clear hg_ hnew_; (first | rw [← Ny102.out] at ho5 | (simp only [Int.reduceToNat] at ho5; rw [← Ny102.out] at ho5)); have HO104 := aK (Kd.R_lower ho5 (below_size ((pV HB.out (IsS42.ge HI101.out))))); have n1_ := aK (IsS42.below (pI42 HI101.out) hb); have n2_ := aK (below_step ((pV HB.out (IsS42.ge HI101.out))) hb); clear HI101 HB; have HI101 := n1_; have HB := n2_; clear n1_ n2_; clear hb ho5) | ((with_reducible refine gate_callee (f := 20) rfl ?_); refine gl (some 12) Try.func20 #[.pointer (some ⟨gb101, 0, none⟩), .int .i64 6] ?_; (with_reducible refine (spec_l1Cur_pick.calls gb101 l0 0 0 6 t105 t106 t107 w _ ?side1 ?side2 A2.out).mono ?_); (case side1 => exact pI42 HI101.out); (case side2 => exact pV HB.out (IsS42.ge HI101.out)); rintro e w6 ⟨rfl, hi, hb, hk⟩; refine ⟨_, rfl, ?_⟩; have n0_ := aK (Kd.R_mono (Kd.R_keep (IsS42.apart (show IsS42 w _ gb101 l0 0 0 from pI42 HI101.out) (pR HO104.out) (by decide)) hk (fun _ h => h.2)) (fun _ h => h.1)); have n1_ := aK (hb); have n2_ := aK (hi); clear HO104 HB HI101; have HO104 := n0_; have HB := n1_; have HI101 := n2_; clear n0_ n1_ n2_; (try clear hb); (try clear hk); (try clear hi)))
 go_loopg [5, 6] k (fun kq v5 v6 w' => ∃ (x5_1 : List Int) (x6_1 : Int) (x102001_1 : Int) (x102002_1 : Int), v6 = .int .i64 x6_1 ∧ Aside0 (spec_DrawSplitValue.l0 kq x5_1 x6_1 l0 x102001_1 x102002_1 = some (r1, r2)) ∧ Aside0 (kq ≤ k) ∧ Aside0 (Kd.R (Kd.int .i64) 3 w' w.heap.size (fun _ => True) v5 x5_1) ∧ Aside0 (IsS42 w w' gb101 l0 x102001_1 x102002_1) ∧ Aside0 (Below w.heap.size w w'))
 case atStart => exact ⟨(y102), (t105), (t106), (t107), (by first | rfl | (simp; done) | (simp [*]; done)), H', ⟨Nat.le_refl _⟩, ⟨pR HO104.out⟩, ⟨pI42 HI101.out⟩, ⟨(pV HB.out (IsS42.ge HI101.out))⟩⟩
 case round =>
  clear H'; obtain ⟨x5_1, x6_1, x102001_1, x102002_1, rfl, HA, HK1, HO_5, HI101, HB⟩ := hrel
  cases gk with
  | zero => exact absurd HA.out (by simp [spec_DrawSplitValue.l0])
  | succ k1 =>
   have H := HA.out; clear HA
   simp only [spec_DrawSplitValue.l0] at H
   by_cases c7 : x6_1 ≥ 0
   ·
    rw [if_pos c7] at H
    have c7b0 : decide (0 ≤ x6_1) = true := decide_eq_true c7
    clear c7
    obtain ⟨y108, hy108⟩ : ∃ y_ : List Int, y_ = (([0, 1, 1, 2, 3, 7, 64] : List Int)) := ⟨_, rfl⟩
    replace H : ((spec_l1Cur_among.f l0 x102001_1 x102002_1 y108).bind fun bt111 => (if x5_1.length < 17592186044416 then (spec_DrawSplitValue.l0 k1 (x5_1 ++ [bt111.1]) (wrap64 (x6_1 - 1)) l0 bt111.2.1 bt111.2.2) else (none))) = some (r1, r2) := by first | (rw [hy108]; with_reducible exact H) | (have H2_ := (Option.bind_some _ _).symm.trans H; rw [hy108]; with_reducible exact H2_) | (have H2_ := (Option.bind_some _ _).symm.trans H; with_reducible exact H2_) | with_reducible exact H | (rw [hy108]; exact H) | exact H
    have Ny108 := Aside0.mk hy108; clear hy108; replace H := Option.bind_eq_some_iff.mp H
    obtain ⟨⟨t111, t112, t113⟩, A80, H⟩ := H
    replace H : (if x5_1.length < 17592186044416 then (spec_DrawSplitValue.l0 k1 (x5_1 ++ [t111]) (wrap64 (x6_1 - 1)) l0 t112 t113) else (none)) = some (r1, r2) := H
    have A8 := Aside0.mk A80; clear A80
    by_cases c9 : x5_1.length < 17592186044416
    ·
     rw [if_pos c9] at H; have LMc9 := Aside0.mk c9; clear c9
     obtain ⟨y114, hy114⟩ : ∃ y_ : List Int, y_ = (x5_1 ++ [t111]) := ⟨_, rfl⟩
     replace H : (spec_DrawSplitValue.l0 k1 y114 (wrap64 (x6_1 - 1)) l0 t112 t113) = some (r1, r2) := by first | (rw [hy114]; with_reducible exact H) | (have H2_ := (Option.bind_some _ _).symm.trans H; rw [hy114]; with_reducible exact H2_) | (have H2_ := (Option.bind_some _ _).symm.trans H; with_reducible exact H2_) | with_reducible exact H | (rw [hy114]; exact H) | exact H
     have Ny114 := Aside0.mk hy114; clear hy114; have H' := Aside0.mk H; clear H
     go_wp2_with (first | ((with_reducible refine gate_dst (N := 19) rfl ?_); refine Kd.R_lit (Kd.int .i64) _ 3 ?hg (N := 19) ?hd (xs := ([0, 1, 1, 2, 3, 7, 64] : List Int)) (inner := [.int .i64 0, .int .i64 1, .int .i64 1, .int .i64 2, .int .i64 3, .int .i64 7, .int .i64 64]) (ok := fun _ => True) (okp := fun _ => True) ?hr ?hp (fun _ hk => hk) trivial (Below.refl _ _) (Nat.le_refl _) (by simp) ?_; (case hd => rfl); (case hg => rfl); (case hr => first | (go_simp; done) | (go_simp; rfl)); (case hp => exact (Reps.one (show Kd.M (Kd.int .i64) _ _ _ 0 [.int .i64 0] from rfl) (Reps.one (show Kd.M (Kd.int .i64) _ _ _ 1 [.int .i64 1] from rfl) (Reps.one (show Kd.M (Kd.int .i64) _ _ _ 1 [.int .i64 1] from rfl) (Reps.one (show Kd.M (Kd.int .i64) _ _ _ 2 [.int .i64 2] from rfl) (Reps.one (show Kd.M (Kd.int .i64) _ _ _ 3 [.int .i64 3] from rfl) (Reps.one (show Kd.M (Kd.int .i64) _ _ _ 7 [.int .i64 7] from rfl) (Reps.one (show Kd.M (Kd.int .i64) _ _ _ 64 [.int .i64 64] from rfl) (Reps.none _ _))))))))); intro v109 w10 ho11 hb hg_ hnew_; clear hg_ hnew_; (first | rw [← Ny108.out] at ho11 | (simp only [Int.reduceToNat] at ho11; rw [← Ny108.out] at ho11)); have n0_ := aK (Kd.R_elder' (pR HO_5.out) (Kd.R_base ho11) hb); have HO110 := aK (Kd.R_lower (nw1 ho11 (pR HO_5.out)) (below_size ((pV HB.out (IsS42.ge HI101.out))))); have n2_ := aK (IsS42.below (pI42 HI101.out) hb); have n3_ := aK (below_step ((pV HB.out (IsS42.ge HI101.out))) hb); clear HO_5 HI101 HB; have HO_5 := n0_; have HI101 := n2_; have HB := n3_; clear n0_ n2_ n3_ hb ho11; obtain ⟨Ao12, co12, eo12⟩ := Kd.R_slice HO110.out; subst eo12) | ((with_reducible refine gate_callee (f := 37) rfl ?_); refine gl (some 20) Try.func37 #[.pointer (some ⟨gb101, 0, none⟩), .slice Ao12 y108.length co12] ?_; (with_reducible refine (spec_l1Cur_among.calls gb101 l0 x102001_1 x102002_1 _ _ y108 t111 t112 t113 w _ ?side1 ?side2 ?side3 ?side4 ?side5 A8.out).mono ?_); (case side1 => exact pI42 HI101.out); (case side2 => exact pV HB.out (IsS42.ge HI101.out)); (case side3 => exact pC (Kd.R_reads' HO110.out).2.2); (case side4 => exact (Kd.R_reads' HO110.out).2.1); (case side5 => exact far_slice (IsS42.own_ne HI101.out HO110.out (by decide))); rintro e w13 ⟨rfl, hi, hb, hk⟩; refine ⟨_, rfl, ?_⟩; have n0_ := aK (Kd.R_mono (Kd.R_keep (IsS42.apart (show IsS42 w _ gb101 l0 x102001_1 x102002_1 from pI42 HI101.out) (pR HO_5.out) (by decide)) hk (fun _ h => h.2)) (fun _ h => h.1)); have n1_ := aK (Kd.R_mono (Kd.R_keep (IsS42.apart (show IsS42 w _ gb101 l0 x102001_1 x102002_1 from pI42 HI101.out) (pR HO110.out) (by decide)) hk (fun _ h => h.2)) (fun _ h => h.1)); have n2_ := aK (hb); have n3_ := aK (hi); clear HO_5 HO110 HB HI101; have HO_5 := n0_; have HO110 := n1_; have HB := n2_; have HI101 := n3_; clear n0_ n1_ n2_ n3_; (try clear hb); (try clear hk); (try clear hi)) | ((with_reducible refine gate_builtin (b := .append) (xs := #[.tmp 17, .tmp 21]) rfl ?_); at_builtin; refine Kd.R_append (Kd.int .i64) (w0 := w) w.heap.size rfl (.tmp 17) (.tmp 21) 24 3 (.int .i64 0) 8 rfl Try.underlying24 info3 rfl (by decide) (by omega) u5 x5_1 t111 [.int .i64 t111] (fun k_ => some k_ ≠ (.slice Ao12 y108.length co12 : Value).ownBlock) (fun _ => False) rfl rfl ?aP (fun _ hk => hk.elim) ?aF ?aO ?aB ?aS ?aL ?_; (case aP => exact rfl); (case aB => exact ((pV HB.out (IsS42.ge HI101.out)))); (case aF => exact (fun k_ hk => Kd.fresh' (Kd.R_lt (pR HO110.out)) k_ hk)); (case aO => exact (pR (Kd.R_mono HO_5.out (fun _ hk => hk.2)))); (case aS => exact (below_size ((pV HB.out (IsS42.ge HI101.out))))); (case aL => have := LMc9.out; omega); intro v115 w14 ho hb hg hat; rw [← Ny114.out] at ho; have n0_ := aK (IsS42.grown (pI42 HI101.out) hg (IsS42.own_ne HI101.out HO_5.out (by decide))); have n1_ := aK (Kd.R_after (ok := (fun _ => True)) (pR HO110.out) hg hat); have n2_ := aK (hb); have HO116 := aK (ho); clear HI101 HO110 HB HO_5; have HI101 := n0_; have HO110 := n1_; have HB := n2_; clear n0_ n1_ n2_; clear ho hb hg hat))
     go_roundg k1
     case measure => have := HK1.out; omega
     case rel => exact ⟨(y114), (wrap64 (x6_1 - 1)), (t112), (t113), (by first | rfl | (simp; done) | (simp [*]; done)), H', ⟨by have := HK1.out; omega⟩, ⟨pR (Kd.R_mono HO116.out (fun _ hk => trivial))⟩, ⟨pI42 HI101.out⟩, ⟨(pV HB.out (IsS42.ge HI101.out))⟩⟩
    rw [if_neg c9] at H
    exact absurd H (by simp)
   rw [if_neg c7] at H
   have c7b0 : decide (0 ≤ x6_1) = false := decide_eq_false c7
   clear c7; replace H := Option.bind_eq_some_iff.mp H
   obtain ⟨⟨t117, t118, t119⟩, A150, H⟩ := H
   replace H : (if t117 = true then ((spec_l1Cur_pick.f l0 t118 t119 (x5_1.length : Int)).bind fun bt120 => ((spec_l1Cur_among.f l0 bt120.2.1 bt120.2.2 (([65, (-1), 0] : List Int))).bind fun bt126 => (if 0 ≤ bt120.1 then (if bt120.1 < (x5_1.length : Int) then (spec_DrawSplitValue.j1 k1 (x5_1.set (bt120.1 : Int).toNat bt126.1) l0 bt126.2.1 bt126.2.2) else (none)) else (none)))) else (spec_DrawSplitValue.j1 k1 x5_1 l0 t118 t119)) = some (r1, r2) := H
   have A15 := Aside0.mk A150; clear A150; have HC16 := Aside0.mk H; clear H
   go_upto_if 24 with (first | ((with_reducible refine gate_callee (f := 36) rfl ?_); refine gl (some 24) Try.func36 #[.pointer (some ⟨gb101, 0, none⟩), .int .i64 12] ?_; (with_reducible refine (spec_l1Cur_one.calls gb101 l0 x102001_1 x102002_1 12 t117 t118 t119 w _ ?side1 ?side2 A15.out).mono ?_); (case side1 => exact pI42 HI101.out); (case side2 => exact pV HB.out (IsS42.ge HI101.out)); rintro e w17 ⟨rfl, hi, hb, hk⟩; refine ⟨_, rfl, ?_⟩; have n0_ := aK (Kd.R_mono (Kd.R_keep (IsS42.apart (show IsS42 w _ gb101 l0 x102001_1 x102002_1 from pI42 HI101.out) (pR HO_5.out) (by decide)) hk (fun _ h => h.2)) (fun _ h => h.1)); have n1_ := aK (hb); have n2_ := aK (hi); clear HO_5 HB HI101; have HO_5 := n0_; have HB := n1_; have HI101 := n2_; clear n0_ n1_ n2_; (try clear hb); (try clear hk); (try clear hi)))
   (try simp only [Act.put, List.setIfInBounds_toArray, List.set_cons_zero, List.set_cons_succ])
   go_cut [] (fun wc => ∃ (kq : Nat) (x5_15 : List Int) (x102001_15 : Int) (x102002_15 : Int), Aside0 (spec_DrawSplitValue.j1 kq x5_15 l0 x102001_15 x102002_15 = some (r1, r2)) ∧ Aside0 (kq ≤ k1) ∧ Aside0 (Kd.R (Kd.int .i64) 3 wc w.heap.size (fun _ => True) u5 x5_15) ∧ Aside0 (IsS42 w wc gb101 l0 x102001_15 x102002_15) ∧ Aside0 (Below w.heap.size w wc))
   case first =>
    have H := HC16.out; clear HC16
    by_cases c18 : t117 = true
    ·
     subst c18
     have H1 : ((spec_l1Cur_pick.f l0 t118 t119 (x5_1.length : Int)).bind fun bt120 => ((spec_l1Cur_among.f l0 bt120.2.1 bt120.2.2 (([65, (-1), 0] : List Int))).bind fun bt126 => (if 0 ≤ bt120.1 then (if bt120.1 < (x5_1.length : Int) then (spec_DrawSplitValue.j1 k1 (x5_1.set (bt120.1 : Int).toNat bt126.1) l0 bt126.2.1 bt126.2.2) else (none)) else (none)))) = some (r1, r2) := by rw [if_pos rfl] at H; exact H
     clear H; have H := H1; clear H1; replace H := Option.bind_eq_some_iff.mp H
     obtain ⟨⟨t120, t121, t122⟩, A190, H⟩ := H
     replace H : ((spec_l1Cur_among.f l0 t121 t122 (([65, (-1), 0] : List Int))).bind fun bt126 => (if 0 ≤ t120 then (if t120 < (x5_1.length : Int) then (spec_DrawSplitValue.j1 k1 (x5_1.set (t120 : Int).toNat bt126.1) l0 bt126.2.1 bt126.2.2) else (none)) else (none))) = some (r1, r2) := H
     have A19 := Aside0.mk A190; clear A190
     obtain ⟨y123, hy123⟩ : ∃ y_ : List Int, y_ = (([65, (-1), 0] : List Int)) := ⟨_, rfl⟩
     replace H : ((spec_l1Cur_among.f l0 t121 t122 y123).bind fun bt126 => (if 0 ≤ t120 then (if t120 < (x5_1.length : Int) then (spec_DrawSplitValue.j1 k1 (x5_1.set (t120 : Int).toNat bt126.1) l0 bt126.2.1 bt126.2.2) else (none)) else (none))) = some (r1, r2) := by first | (rw [hy123]; with_reducible exact H) | (have H2_ := (Option.bind_some _ _).symm.trans H; rw [hy123]; with_reducible exact H2_) | (have H2_ := (Option.bind_some _ _).symm.trans H; with_reducible exact H2_) | with_reducible exact H | (rw [hy123]; exact H) | exact H
     have Ny123 := Aside0.mk hy123; clear hy123; replace H := Option.bind_eq_some_iff.mp H
     obtain ⟨⟨t126, t127, t128⟩, A200, H⟩ := H
     replace H : (if 0 ≤ t120 then (if t120 < (x5_1.length : Int) then (spec_DrawSplitValue.j1 k1 (x5_1.set (t120 : Int).toNat t126) l0 t127 t128) else (none)) else (none)) = some (r1, r2) := H
     have A20 := Aside0.mk A200; clear A200
     by_cases c21 : 0 ≤ t120
     ·
      rw [if_pos c21] at H
      have c21b0 : decide (0 ≤ t120) = true := decide_eq_true c21
      clear c21
      (first | rw [c21b0] | (simp only [i64_w, i32_w]; rw [c21b0]) | skip)
      by_cases c22 : t120 < (x5_1.length : Int)
      ·
       rw [if_pos c22] at H
       have c22b0 : decide (t120 < (x5_1.length : Int)) = true := decide_eq_true c22
       clear c22
       obtain ⟨y129, hy129⟩ : ∃ y_ : List Int, y_ = (x5_1.set (t120 : Int).toNat t126) := ⟨_, rfl⟩
       replace H : (spec_DrawSplitValue.j1 k1 y129 l0 t127 t128) = some (r1, r2) := by first | (rw [hy129]; with_reducible exact H) | (have H2_ := (Option.bind_some _ _).symm.trans H; rw [hy129]; with_reducible exact H2_) | (have H2_ := (Option.bind_some _ _).symm.trans H; with_reducible exact H2_) | with_reducible exact H | (rw [hy129]; exact H) | exact H
       have Ny129 := Aside0.mk hy129; clear hy129; have H' := Aside0.mk H; clear H; obtain ⟨Ao24, co24, eo24⟩ := Kd.R_slice HO_5.out; subst eo24
       go_wp2_with (first | ((with_reducible refine gate_callee (f := 20) rfl ?_); refine gl (some 29) Try.func20 #[.pointer (some ⟨gb101, 0, none⟩), .int .i64 (x5_1.length : Int)] ?_; (with_reducible refine (spec_l1Cur_pick.calls gb101 l0 t118 t119 (x5_1.length : Int) t120 t121 t122 w _ ?side1 ?side2 A19.out).mono ?_); (case side1 => exact pI42 HI101.out); (case side2 => exact pV HB.out (IsS42.ge HI101.out)); rintro e w25 ⟨rfl, hi, hb, hk⟩; refine ⟨_, rfl, ?_⟩; have n0_ := aK (Kd.R_mono (Kd.R_keep (IsS42.apart (show IsS42 w _ gb101 l0 t118 t119 from pI42 HI101.out) (pR HO_5.out) (by decide)) hk (fun _ h => h.2)) (fun _ h => h.1)); have n1_ := aK (hb); have n2_ := aK (hi); clear HO_5 HB HI101; have HO_5 := n0_; have HB := n1_; have HI101 := n2_; clear n0_ n1_ n2_; (try clear hb); (try clear hk); (try clear hi)) | ((with_reducible refine gate_dst (N := 31) rfl ?_); refine Kd.R_lit (Kd.int .i64) _ 3 ?hg (N := 31) ?hd (xs := ([65, (-1), 0] : List Int)) (inner := [.int .i64 65, .int .i64 (-1), .int .i64 0]) (ok := fun _ => True) (okp := fun _ => True) ?hr ?hp (fun _ hk => hk) trivial (Below.refl _ _) (Nat.le_refl _) (by simp) ?_; (case hd => rfl); (case hg => rfl); (case hr => first | (go_simp; done) | (go_simp; rfl)); (case hp => exact (Reps.one (show Kd.M (Kd.int .i64) _ _ _ 65 [.int .i64 65] from rfl) (Reps.one (show Kd.M (Kd.int .i64) _ _ _ (-1) [.int .i64 (-1)] from rfl) (Reps.one (show Kd.M (Kd.int .i64) _ _ _ 0 [.int .i64 0] from rfl) (Reps.none _ _))))); intro v124 w26 ho27 hb hg_ hnew_; clear hg_ hnew_; (first | rw [← Ny123.out] at ho27 | (simp only [Int.reduceToNat] at ho27; rw [← Ny123.out] at ho27)); have n0_ := aK (Kd.R_elder' (pR HO_5.out) (Kd.R_base ho27) hb); have HO125 := aK (Kd.R_lower (nw1 ho27 (pR HO_5.out)) (below_size ((pV HB.out (IsS42.ge HI101.out))))); have n2_ := aK (IsS42.below (pI42 HI101.out) hb); have n3_ := aK (below_step ((pV HB.out (IsS42.ge HI101.out))) hb); clear HO_5 HI101 HB; have HO_5 := n0_; have HI101 := n2_; have HB := n3_; clear n0_ n2_ n3_ hb ho27; obtain ⟨Ao28, co28, eo28⟩ := Kd.R_slice HO125.out; subst eo28) | ((with_reducible refine gate_callee (f := 37) rfl ?_); refine gl (some 32) Try.func37 #[.pointer (some ⟨gb101, 0, none⟩), .slice Ao28 y123.length co28] ?_; (with_reducible refine (spec_l1Cur_among.calls gb101 l0 t121 t122 _ _ y123 t126 t127 t128 w _ ?side1 ?side2 ?side3 ?side4 ?side5 A20.out).mono ?_); (case side1 => exact pI42 HI101.out); (case side2 => exact pV HB.out (IsS42.ge HI101.out)); (case side3 => exact pC (Kd.R_reads' HO125.out).2.2); (case side4 => exact (Kd.R_reads' HO125.out).2.1); (case side5 => exact far_slice (IsS42.own_ne HI101.out HO125.out (by decide))); rintro e w29 ⟨rfl, hi, hb, hk⟩; refine ⟨_, rfl, ?_⟩; have n0_ := aK (Kd.R_mono (Kd.R_keep (IsS42.apart (show IsS42 w _ gb101 l0 t121 t122 from pI42 HI101.out) (pR HO_5.out) (by decide)) hk (fun _ h => h.2)) (fun _ h => h.1)); have n1_ := aK (Kd.R_mono (Kd.R_keep (IsS42.apart (show IsS42 w _ gb101 l0 t121 t122 from pI42 HI101.out) (pR HO125.out) (by decide)) hk (fun _ h => h.2)) (fun _ h => h.1)); have n2_ := aK (hb); have n3_ := aK (hi); clear HO_5 HO125 HB HI101; have HO_5 := n0_; have HO125 := n1_; have HB := n2_; have HI101 := n3_; clear n0_ n1_ n2_ n3_; (try clear hb); (try clear hk); (try clear hi); have p23 : 0 ≤ (t120 : Int) := of_decide_eq_true (by first | (with_reducible assumption) | assumption); have q23 : (t120 : Int) < ((x5_1.length : Int) : Int) := of_decide_eq_true (by first | (with_reducible assumption) | assumption); obtain ⟨go23, co23, eo23, gb23, gl23, cl23, HG23⟩ := Kd.R_form HO_5.out (by omega); (first | cases eo23 | (injection eo23 with ea_ en_ ec_; (first | subst ea_ | (injection ea_ with ea_; subst ea_)); subst ec_; clear en_)); have GB23 := Aside0.mk gb23; have GG23 := Aside0.mk HG23; clear gb23 gl23 HG23; obtain ⟨hx23_0, hf23_0⟩ := Kd.R_celln 0 HO_5.out (t120 : Int) p23 q23; replace p23 := eq_true p23; replace q23 := eq_true q23; have n_ := aK (Kd.R_mono (ok' := (fun k_ => some k_ ≠ (.slice Ao28 y123.length co28 : Value).ownBlock)) HO_5.out (fun k_ hk => hk.2)); clear HO_5; have HO_5 := n_; clear n_; obtain ⟨hy30_, hz30_⟩ := Kd.R_celln 0 HO_5.out (t120 : Int) (of_decide_eq_true (by first | (with_reducible assumption) | assumption)) (of_decide_eq_true (by first | (with_reducible assumption) | assumption)); have HP30 := Kd.R_putg HO_5.out (t120 : Int) t126) | ((with_reducible refine gate_store (t := 3) (p := 33) rfl ?_); refine store_event (t := 3) (p := 33) (v := ?vo_w31) (w1 := (w29.setCell ⟨go23, (t120 : Int).toNat, none⟩ (.int .i64 t126))) ?hg ?ho ?hn ?hr ?_; (case ho => rfl); (case hg => rfl); (case hn => rfl); (case hr => first | (go_simp; done) | (go_simp; rfl)); intro w31 hw; have hg : w29.grownBy w31 (some go23) := (by rw [hw]; exact HP30.2); have hp_ : Kd.R (Kd.int .i64) 3 w31 w.heap.size (fun k_ => some k_ ≠ (.slice Ao28 y123.length co28 : Value).ownBlock) (.slice (some ⟨go23, 0, none⟩) x5_1.length co24) y129 := (by rw [hw, Ny129.out]; exact HP30.1); clear HP30; have n0_ := aK (hp_); have n1_ := aK (IsS42.grown (pI42 HI101.out) hg (IsS42.own_ne HI101.out HO_5.out (by decide))); have n2_ := aK (Kd.R_after (v := (.slice (some ⟨go23, 0, none⟩) x5_1.length co24)) (v1 := (.slice (some ⟨go23, 0, none⟩) x5_1.length co24)) (ok := (fun _ => True)) (pR HO125.out) hg (.inl rfl)); have n3_ := aK ((by rw [hw]; exact below_set (HB.out) GB23.out : Below w.heap.size w w31)); clear HO_5 HI101 HO125 HB; have HO_5 := n0_; have HI101 := n1_; have HO125 := n2_; have HB := n3_; clear n0_ n1_ n2_ n3_; clear hg hw hp_))
       go_meet
       case rel => exact ⟨_, (y129), (t127), (t128), H', ⟨by have := HK1.out; first | omega | exact Nat.le_refl _⟩, ⟨pR (Kd.R_mono HO_5.out (fun _ hk => trivial))⟩, ⟨pI42 HI101.out⟩, ⟨(pV HB.out (IsS42.ge HI101.out))⟩⟩
      rw [if_neg c22] at H
      exact absurd H (by simp)
     rw [if_neg c21] at H
     exact absurd H (by simp)
    replace c18 := Bool.eq_false_iff.mpr c18; subst c18
    have H1 : (spec_DrawSplitValue.j1 k1 x5_1 l0 t118 t119) = some (r1, r2) := by rw [if_neg (show ¬ (false = true) by decide)] at H; exact H
    clear H; have H := H1; clear H1; have H' := Aside0.mk H; clear H
    go_wp2
    go_meet
    case rel => exact ⟨_, (x5_1), (t118), (t119), H', ⟨by have := HK1.out; first | omega | exact Nat.le_refl _⟩, ⟨pR HO_5.out⟩, ⟨pI42 HI101.out⟩, ⟨(pV HB.out (IsS42.ge HI101.out))⟩⟩
   case rest =>
    clear HC16
    try clear c7b0
    obtain ⟨kq, x5_15, x102001_15, x102002_15, HA, HJ15, HO_5, HI101, HB⟩ := hcut
    cases kq with
    | zero => exact absurd HA.out (by simp [spec_DrawSplitValue.j1])
    | succ kj15 =>
     have H := HA.out; clear HA
     simp only [spec_DrawSplitValue.j1] at H
     replace H := Option.bind_eq_some_iff.mp H
     obtain ⟨⟨t130, t131, t132⟩, A320, H⟩ := H
     replace H : (if t130 = true then ((spec_l1Cur_among.f l0 t131 t132 (([10, 7, (-7), 100, 1, 0, 9000, (-9000), 9001, (-1)] : List Int))).bind fun bt139 => (some (bt139.1, (([] : List Int))))) else ((spec_l1Cur_among.f l0 t131 t132 (([10, 7, (-7), 100, 1, 0, 9000, (-9000), 9001, (-1)] : List Int))).bind fun bt145 => (some (bt145.1, x5_15)))) = some (r1, r2) := H
     have A32 := Aside0.mk A320; clear A320
     by_cases c33 : t130 = true
     ·
      subst c33
      have H1 : ((spec_l1Cur_among.f l0 t131 t132 (([10, 7, (-7), 100, 1, 0, 9000, (-9000), 9001, (-1)] : List Int))).bind fun bt139 => (some (bt139.1, (([] : List Int))))) = some (r1, r2) := by rw [if_pos rfl] at H; exact H
      clear H; have H := H1; clear H1
      obtain ⟨y133, hy133⟩ : ∃ y_ : List Int, y_ = (([] : List Int)) := ⟨_, rfl⟩
      replace H : ((spec_l1Cur_among.f l0 t131 t132 (([10, 7, (-7), 100, 1, 0, 9000, (-9000), 9001, (-1)] : List Int))).bind fun bt139 => (some (bt139.1, y133))) = some (r1, r2) := by first | (rw [hy133]; with_reducible exact H) | (have H2_ := (Option.bind_some _ _).symm.trans H; rw [hy133]; with_reducible exact H2_) | (have H2_ := (Option.bind_some _ _).symm.trans H; with_reducible exact H2_) | with_reducible exact H | (rw [hy133]; exact H) | exact H
      have Ny133 := Aside0.mk hy133; clear hy133
      obtain ⟨y136, hy136⟩ : ∃ y_ : List Int, y_ = (([10, 7, (-7), 100, 1, 0, 9000, (-9000), 9001, (-1)] : List Int)) := ⟨_, rfl⟩
      replace H : ((spec_l1Cur_among.f l0 t131 t132 y136).bind fun bt139 => (some (bt139.1, y133))) = some (r1, r2) := by first | (rw [hy136]; with_reducible exact H) | (have H2_ := (Option.bind_some _ _).symm.trans H; rw [hy136]; with_reducible exact H2_) | (have H2_ := (Option.bind_some _ _).symm.trans H; with_reducible exact H2_) | with_reducible exact H | (rw [hy136]; exact H) | exact H
      have Ny136 := Aside0.mk hy136; clear hy136; replace H := Option.bind_eq_some_iff.mp H
      obtain ⟨⟨t139, t140, t141⟩, A340, H⟩ := H
      replace H : (some (t139, y133)) = some (r1, r2) := H
      have A34 := Aside0.mk A340; clear A340
      simp only [Option.some.injEq, Prod.mk.injEq] at H
      obtain ⟨rfl, rfl⟩ := H
      go_wp2_with (first | ((with_reducible refine gate_callee (f := 36) rfl ?_); refine gl (some 35) Try.func36 #[.pointer (some ⟨gb101, 0, none⟩), .int .i64 24] ?_; (with_reducible refine (spec_l1Cur_one.calls gb101 l0 x102001_15 x102002_15 24 true t131 t132 w _ ?side1 ?side2 A32.out).mono ?_); (case side1 => exact pI42 HI101.out); (case side2 => exact pV HB.out (IsS42.ge HI101.out)); rintro e w35 ⟨rfl, hi, hb, hk⟩; refine ⟨_, rfl, ?_⟩; have n0_ := aK (Kd.R_mono (Kd.R_keep (IsS42.apart (show IsS42 w _ gb101 l0 x102001_15 x102002_15 from pI42 HI101.out) (pR HO_5.out) (by decide)) hk (fun _ h => h.2)) (fun _ h => h.1)); have n1_ := aK (hb); have n2_ := aK (hi); clear HO_5 HB HI101; have HO_5 := n0_; have HB := n1_; have HI101 := n2_; clear n0_ n1_ n2_; (try clear hb); (try clear hk); (try clear hi)) | ((with_reducible refine gate_dst (N := 36) rfl ?_); refine Kd.R_lit (Kd.int .i64) _ 3 ?hg (N := 36) ?hd (xs := ([] : List Int)) (inner := []) (ok := fun _ => True) (okp := fun _ => True) ?hr ?hp (fun _ hk => hk) trivial (Below.refl _ _) (Nat.le_refl _) (by simp) ?_; (case hd => rfl); (case hg => rfl); (case hr => first | (go_simp; done) | (go_simp; rfl)); (case hp => exact (Reps.none _ _)); intro v134 w36 ho37 hb hg_ hnew_; clear hg_ hnew_; (first | rw [← Ny133.out] at ho37 | (simp only [Int.reduceToNat] at ho37; rw [← Ny133.out] at ho37)); have n0_ := aK (Kd.R_elder' (pR HO_5.out) (Kd.R_base ho37) hb); have HO135 := aK (Kd.R_lower (nw1 ho37 (pR HO_5.out)) (below_size ((pV HB.out (IsS42.ge HI101.out))))); have n2_ := aK (IsS42.below (pI42 HI101.out) hb); have n3_ := aK (below_step ((pV HB.out (IsS42.ge HI101.out))) hb); clear HO_5 HI101 HB; have HO_5 := n0_; have HI101 := n2_; have HB := n3_; clear n0_ n2_ n3_; clear hb ho37) | ((with_reducible refine gate_dst (N := 38) rfl ?_); refine Kd.R_lit (Kd.int .i64) _ 3 ?hg (N := 38) ?hd (xs := ([10, 7, (-7), 100, 1, 0, 9000, (-9000), 9001, (-1)] : List Int)) (inner := [.int .i64 10, .int .i64 7, .int .i64 (-7), .int .i64 100, .int .i64 1, .int .i64 0, .int .i64 9000, .int .i64 (-9000), .int .i64 9001, .int .i64 (-1)]) (ok := fun _ => True) (okp := fun _ => True) ?hr ?hp (fun _ hk => hk) trivial (Below.refl _ _) (Nat.le_refl _) (by simp) ?_; (case hd => rfl); (case hg => rfl); (case hr => first | (go_simp; done) | (go_simp; rfl)); (case hp => exact (Reps.one (show Kd.M (Kd.int .i64) _ _ _ 10 [.int .i64 10] from rfl) (Reps.one (show Kd.M (Kd.int .i64) _ _ _ 7 [.int .i64 7] from rfl) (Reps.one (show Kd.M (Kd.int .i64) _ _ _ (-7) [.int .i64 (-7)] from rfl) (Reps.one (show Kd.M (Kd.int .i64) _ _ _ 100 [.int .i64 100] from rfl) (Reps.one (show Kd.M (Kd.int .i64) _ _ _ 1 [.int .i64 1] from rfl) (Reps.one (show Kd.M (Kd.int .i64) _ _ _ 0 [.int .i64 0] from rfl) (Reps.one (show Kd.M (Kd.int .i64) _ _ _ 9000 [.int .i64 9000] from rfl) (Reps.one (show Kd.M (Kd.int .i64) _ _ _ (-9000) [.int .i64 (-9000)] from rfl) (Reps.one (show Kd.M (Kd.int .i64) _ _ _ 9001 [.int .i64 9001] from rfl) (Reps.one (show Kd.M (Kd.int .i64) _ _ _ (-1) [.int .i64 (-1)] from rfl) (Reps.none _ _)))))))))))); intro v137 w38 ho39 hb hg_ hnew_; clear hg_ hnew_; (first | rw [← Ny136.out] at ho39 | (simp only [Int.reduceToNat] at ho39; rw [← Ny136.out] at ho39)); have n0_ := aK (Kd.R_elder' (pR HO_5.out) (Kd.R_base ho39) hb); have n1_ := aK (Kd.R_elder' (pR HO135.out) (Kd.R_base ho39) hb); have HO138 := aK (Kd.R_lower (nw2 ho39 (pR HO_5.out) (pR HO135.out)) (below_size ((pV HB.out (IsS42.ge HI101.out))))); have n3_ := aK (IsS42.below (pI42 HI101.out) hb); have n4_ := aK (below_step ((pV HB.out (IsS42.ge HI101.out))) hb); clear HO_5 HO135 HI101 HB; have HO_5 := n0_; have HO135 := n1_; have HI101 := n3_; have HB := n4_; clear n0_ n1_ n3_ n4_ hb ho39; obtain ⟨Ao40, co40, eo40⟩ := Kd.R_slice HO138.out; subst eo40) | ((with_reducible refine gate_callee (f := 37) rfl ?_); refine gl (some 39) Try.func37 #[.pointer (some ⟨gb101, 0, none⟩), .slice Ao40 y136.length co40] ?_; (with_reducible refine (spec_l1Cur_among.calls gb101 l0 t131 t132 _ _ y136 t139 t140 t141 w _ ?side1 ?side2 ?side3 ?side4 ?side5 A34.out).mono ?_); (case side1 => exact pI42 HI101.out); (case side2 => exact pV HB.out (IsS42.ge HI101.out)); (case side3 => exact pC (Kd.R_reads' HO138.out).2.2); (case side4 => exact (Kd.R_reads' HO138.out).2.1); (case side5 => exact far_slice (IsS42.own_ne HI101.out HO138.out (by decide))); rintro e w41 ⟨rfl, hi, hb, hk⟩; refine ⟨_, rfl, ?_⟩; have n0_ := aK (Kd.R_mono (Kd.R_keep (IsS42.apart (show IsS42 w _ gb101 l0 t131 t132 from pI42 HI101.out) (pR HO_5.out) (by decide)) hk (fun _ h => h.2)) (fun _ h => h.1)); have n1_ := aK (Kd.R_mono (Kd.R_keep (IsS42.apart (show IsS42 w _ gb101 l0 t131 t132 from pI42 HI101.out) (pR HO135.out) (by decide)) hk (fun _ h => h.2)) (fun _ h => h.1)); have n2_ := aK (Kd.R_mono (Kd.R_keep (IsS42.apart (show IsS42 w _ gb101 l0 t131 t132 from pI42 HI101.out) (pR HO138.out) (by decide)) hk (fun _ h => h.2)) (fun _ h => h.1)); have n3_ := aK (hb); have n4_ := aK (hi); clear HO_5 HO135 HO138 HB HI101; have HO_5 := n0_; have HO135 := n1_; have HO138 := n2_; have HB := n3_; have HI101 := n4_; clear n0_ n1_ n2_ n3_ n4_; (try clear hb); (try clear hk); (try clear hi)))
      go_ret2
      exact ⟨_, er, by (with_reducible repeat (first | apply Kd.R_alloc | apply Kd.R_drewN | apply Kd.R_drew)); exact Kd.R_mono HO135.out (fun _ hk => trivial), (pV HB.out (IsS42.ge HI101.out))⟩
     replace c33 := Bool.eq_false_iff.mpr c33; subst c33
     have H1 : ((spec_l1Cur_among.f l0 t131 t132 (([10, 7, (-7), 100, 1, 0, 9000, (-9000), 9001, (-1)] : List Int))).bind fun bt145 => (some (bt145.1, x5_15))) = some (r1, r2) := by rw [if_neg (show ¬ (false = true) by decide)] at H; exact H
     clear H; have H := H1; clear H1
     obtain ⟨y142, hy142⟩ : ∃ y_ : List Int, y_ = (([10, 7, (-7), 100, 1, 0, 9000, (-9000), 9001, (-1)] : List Int)) := ⟨_, rfl⟩
     replace H : ((spec_l1Cur_among.f l0 t131 t132 y142).bind fun bt145 => (some (bt145.1, x5_15))) = some (r1, r2) := by first | (rw [hy142]; with_reducible exact H) | (have H2_ := (Option.bind_some _ _).symm.trans H; rw [hy142]; with_reducible exact H2_) | (have H2_ := (Option.bind_some _ _).symm.trans H; with_reducible exact H2_) | with_reducible exact H | (rw [hy142]; exact H) | exact H
     have Ny142 := Aside0.mk hy142; clear hy142; replace H := Option.bind_eq_some_iff.mp H
     obtain ⟨⟨t145, t146, t147⟩, A420, H⟩ := H
     replace H : (some (t145, x5_15)) = some (r1, r2) := H
     have A42 := Aside0.mk A420; clear A420
     simp only [Option.some.injEq, Prod.mk.injEq] at H
     obtain ⟨rfl, rfl⟩ := H
     go_wp2_with (first | ((with_reducible refine gate_callee (f := 36) rfl ?_); refine gl (some 35) Try.func36 #[.pointer (some ⟨gb101, 0, none⟩), .int .i64 24] ?_; (with_reducible refine (spec_l1Cur_one.calls gb101 l0 x102001_15 x102002_15 24 false t131 t132 w _ ?side1 ?side2 A32.out).mono ?_); (case side1 => exact pI42 HI101.out); (case side2 => exact pV HB.out (IsS42.ge HI101.out)); rintro e w43 ⟨rfl, hi, hb, hk⟩; refine ⟨_, rfl, ?_⟩; have n0_ := aK (Kd.R_mono (Kd.R_keep (IsS42.apart (show IsS42 w _ gb101 l0 x102001_15 x102002_15 from pI42 HI101.out) (pR HO_5.out) (by decide)) hk (fun _ h => h.2)) (fun _ h => h.1)); have n1_ := aK (hb); have n2_ := aK (hi); clear HO_5 HB HI101; have HO_5 := n0_; have HB := n1_; have HI101 := n2_; clear n0_ n1_ n2_; (try clear hb); (try clear hk); (try clear hi)) | ((with_reducible refine gate_dst (N := 38) rfl ?_); refine Kd.R_lit (Kd.int .i64) _ 3 ?hg (N := 38) ?hd (xs := ([10, 7, (-7), 100, 1, 0, 9000, (-9000), 9001, (-1)] : List Int)) (inner := [.int .i64 10, .int .i64 7, .int .i64 (-7), .int .i64 100, .int .i64 1, .int .i64 0, .int .i64 9000, .int .i64 (-9000), .int .i64 9001, .int .i64 (-1)]) (ok := fun _ => True) (okp := fun _ => True) ?hr ?hp (fun _ hk => hk) trivial (Below.refl _ _) (Nat.le_refl _) (by simp) ?_; (case hd => rfl); (case hg => rfl); (case hr => first | (go_simp; done) | (go_simp; rfl)); (case hp => exact (Reps.one (show Kd.M (Kd.int .i64) _ _ _ 10 [.int .i64 10] from rfl) (Reps.one (show Kd.M (Kd.int .i64) _ _ _ 7 [.int .i64 7] from rfl) (Reps.one (show Kd.M (Kd.int .i64) _ _ _ (-7) [.int .i64 (-7)] from rfl) (Reps.one (show Kd.M (Kd.int .i64) _ _ _ 100 [.int .i64 100] from rfl) (Reps.one (show Kd.M (Kd.int .i64) _ _ _ 1 [.int .i64 1] from rfl) (Reps.one (show Kd.M (Kd.int .i64) _ _ _ 0 [.int .i64 0] from rfl) (Reps.one (show Kd.M (Kd.int .i64) _ _ _ 9000 [.int .i64 9000] from rfl) (Reps.one (show Kd.M (Kd.int .i64) _ _ _ (-9000) [.int .i64 (-9000)] from rfl) (Reps.one (show Kd.M (Kd.int .i64) _ _ _ 9001 [.int .i64 9001] from rfl) (Reps.one (show Kd.M (Kd.int .i64) _ _ _ (-1) [.int .i64 (-1)] from rfl) (Reps.none _ _)))))))))))); intro v143 w44 ho45 hb hg_ hnew_; clear hg_ hnew_; (first | rw [← Ny142.out] at ho45 | (simp only [Int.reduceToNat] at ho45; rw [← Ny142.out] at ho45)); have n0_ := aK (Kd.R_elder' (pR HO_5.out) (Kd.R_base ho45) hb); have HO144 := aK (Kd.R_lower (nw1 ho45 (pR HO_5.out)) (below_size ((pV HB.out (IsS42.ge HI101.out))))); have n2_ := aK (IsS42.below (pI42 HI101.out) hb); have n3_ := aK (below_step ((pV HB.out (IsS42.ge HI101.out))) hb); clear HO_5 HI101 HB; have HO_5 := n0_; have HI101 := n2_; have HB := n3_; clear n0_ n2_ n3_ hb ho45; obtain ⟨Ao46, co46, eo46⟩ := Kd.R_slice HO144.out; subst eo46) | ((with_reducible refine gate_callee (f := 37) rfl ?_); refine gl (some 39) Try.func37 #[.pointer (some ⟨gb101, 0, none⟩), .slice Ao46 y142.length co46] ?_; (with_reducible refine (spec_l1Cur_among.calls gb101 l0 t131 t132 _ _ y142 t145 t146 t147 w _ ?side1 ?side2 ?side3 ?side4 ?side5 A42.out).mono ?_); (case side1 => exact pI42 HI101.out); (case side2 => exact pV HB.out (IsS42.ge HI101.out)); (case side3 => exact pC (Kd.R_reads' HO144.out).2.2); (case side4 => exact (Kd.R_reads' HO144.out).2.1); (case side5 => exact far_slice (IsS42.own_ne HI101.out HO144.out (by decide))); rintro e w47 ⟨rfl, hi, hb, hk⟩; refine ⟨_, rfl, ?_⟩; have n0_ := aK (Kd.R_mono (Kd.R_keep (IsS42.apart (show IsS42 w _ gb101 l0 t131 t132 from pI42 HI101.out) (pR HO_5.out) (by decide)) hk (fun _ h => h.2)) (fun _ h => h.1)); have n1_ := aK (Kd.R_mono (Kd.R_keep (IsS42.apart (show IsS42 w _ gb101 l0 t131 t132 from pI42 HI101.out) (pR HO144.out) (by decide)) hk (fun _ h => h.2)) (fun _ h => h.1)); have n2_ := aK (hb); have n3_ := aK (hi); clear HO_5 HO144 HB HI101; have HO_5 := n0_; have HO144 := n1_; have HB := n2_; have HI101 := n3_; clear n0_ n1_ n2_ n3_; (try clear hb); (try clear hk); (try clear hi)))
     go_ret2
     exact ⟨_, er, by (with_reducible repeat (first | apply Kd.R_alloc | apply Kd.R_drewN | apply Kd.R_drew)); exact Kd.R_mono HO_5.out (fun _ hk => trivial), (pV HB.out (IsS42.ge HI101.out))⟩
end Go.Proofs.Ythlmikigjhgpdaa.P
