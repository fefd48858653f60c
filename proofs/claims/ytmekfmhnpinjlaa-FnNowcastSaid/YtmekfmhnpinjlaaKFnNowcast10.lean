/- Texts of the claim FnNowcast, merged: part 10 of 13: the program's and the reference's functions as Lean functions, the walks that show it, and plain lemmas; no conditions. -/
import Derived.Test.YtmekfmhnpinjlaaKFnNowcast3
import Derived.Test.YtmekfmhnpinjlaaKFnNowcast5
import Derived.Test.YtmekfmhnpinjlaaKFnNowcast9
import Derived.Test.YtmekfmhnpinjlaaKFnNowcast4
import Derived.Test.YtmekfmhnpinjlaaKFnNowcast6
open Go.RowKit Go.Proofs.YtmekfmhnpinjlaaW.PrintWords Go.Proofs.YtmekfmhnpinjlaaW.PrintLast Go.Proofs.YtmekfmhnpinjlaaW.PrintMore
set_option linter.unusedVariables false
set_option linter.unusedSimpArgs false
set_option maxHeartbeats 8000000
set_option maxRecDepth 100000
namespace Go.Proofs.Ytmekfmhnpinjlaa.P
attribute [local go_sem] max2_int min2_int max_two min_two max_three min_three max_four min_four
mutual
def spec_Nowcast.j0 : Nat → Int → List (S26) → Bool → Int → Int → List Int → Int → Int → Option ((List (S26)) × Bool)
 | 0, _, _, _, _, _, _, _, _ => none
 | k + 1, x2, x8, x26, x103000, x103001, x103002, x110000, x110001 => if x26 = true then (some (x8, false)) else (spec_Nowcast.l0 k x2 x8 0 x110000 x110001 x103000 x103001 x103002)
def spec_Nowcast.l0 : Nat → Int → List (S26) → Int → Int → Int → Int → Int → List Int → Option ((List (S26)) × Bool)
 | 0, _, _, _, _, _, _, _, _ => none
 | k + 1, x2, x8, x12, x110000, x110001, x112000, x112001, x112002 => if x12 < x2 then ((spec_l11Move.f k x112000 x112001 x112002 x110000 x110001).bind fun bt112 => (if x8.length < 3518437208883 then (spec_Nowcast.l0 k x2 (x8 ++ [(⟨bt112.1, bt112.2.1, bt112.2.2⟩ : S26)]) (wrap64 (x12 + 1)) x110000 x110001 bt112.1 bt112.2.1 bt112.2.2) else (none))) else (some (x8, true))
end
def spec_Nowcast.f (k : Nat) (a0_0 : Int) (a0_1 : Int) (l0_2 : List Int) (a1_0 : Int) (a1_1 : Int) (l1_2 : List Int) (a2 : Int) : Option ((List (S26)) × Bool) := (some (([] : List (S26)) : List (S26))).bind fun y103 => ((spec_BestMotion.f k a0_0 a0_1 l0_2 a1_0 a1_1 l1_2).bind fun bt106 => (if bt106.2.2 = true then ((spec_l1In.f a2 1 6).bind fun t110 => (spec_Nowcast.j0 k a2 y103 (!t110) a1_0 a1_1 l1_2 bt106.1 bt106.2.1)) else (spec_Nowcast.j0 k a2 y103 true a1_0 a1_1 l1_2 bt106.1 bt106.2.1)))
theorem spec_Nowcast.calls (k : Nat) (a0_0 : Int) (a0_1 : Int) (A0_2 : Option Addr) (c0_2 : Nat) (l0_2 : List Int) (a1_0 : Int) (a1_1 : Int) (P1_2_ : Nat → Prop) (A1_2 : Option Addr) (c1_2 : Nat) (l1_2 : List Int) (a2 : Int) (r1 : List (S26)) (r2 : Bool) (w : World) (hr0_2 : Kd.C (Kd.int .i64) w A0_2 l0_2.length l0_2) (hc0_2 : l0_2.length ≤ c0_2) (hs1_2 : Kd.V (Kd.int .i64) 3 w w.heap.size (fun k_ => P1_2_ k_) (.slice A1_2 l1_2.length c1_2) l1_2) (h : spec_Nowcast.f k a0_0 a0_1 l0_2 a1_0 a1_1 l1_2 a2 = some (r1, r2)) :
  Calls Try.prog 13 #[.agg #[.int .i64 a0_0, .int .i64 a0_1, .slice A0_2 l0_2.length c0_2], .agg #[.int .i64 a1_0, .int .i64 a1_1, .slice A1_2 l1_2.length c1_2], .int .i64 a2] w fun e w' => ∃ v0_ : Value, e = .returned (.tuple #[v0_, .bool r2]) ∧ Kd.S k26 26 w' w.heap.size (fun k_ => (w.heap.size ≤ k_)) v0_ r1 ∧ Below w.heap.size w w' := by
 have hu26 := Try.underlying26
 have hu28 := Try.underlying28
 have HR0_2 := aK hr0_2
 have HC0_2 := aK hc0_2
 clear hr0_2 hc0_2
 have HO1_2 := aK (show Kd.V (Kd.int .i64) 3 w w.heap.size (fun k_ => (P1_2_ k_ ∨ w.heap.size ≤ k_)) (.slice A1_2 l1_2.length c1_2) l1_2 from Kd.V_mono hs1_2 (fun k_ hk => .inl hk))
 have HB := aK (Below.refl w.heap.size w)
 have H : ((some (([] : List (S26)) : List (S26))).bind fun y103 => ((spec_BestMotion.f k a0_0 a0_1 l0_2 a1_0 a1_1 l1_2).bind fun bt106 => (if bt106.2.2 = true then ((spec_l1In.f a2 1 6).bind fun t110 => (spec_Nowcast.j0 k a2 y103 (!t110) a1_0 a1_1 l1_2 bt106.1 bt106.2.1)) else (spec_Nowcast.j0 k a2 y103 true a1_0 a1_1 l1_2 bt106.1 bt106.2.1)))) = some (r1, r2) := h
 clear h
 obtain ⟨y103, hy103⟩ : ∃ y_ : List (S26), y_ = (([] : List (S26))) := ⟨_, rfl⟩
 replace H : ((spec_BestMotion.f k a0_0 a0_1 l0_2 a1_0 a1_1 l1_2).bind fun bt106 => (if bt106.2.2 = true then ((spec_l1In.f a2 1 6).bind fun t110 => (spec_Nowcast.j0 k a2 y103 (!t110) a1_0 a1_1 l1_2 bt106.1 bt106.2.1)) else (spec_Nowcast.j0 k a2 y103 true a1_0 a1_1 l1_2 bt106.1 bt106.2.1))) = some (r1, r2) := by first | (rw [hy103]; first | with_reducible exact H | with_reducible exact (oS H :)) | with_reducible exact (oS H :) | with_reducible exact H | exact H
 have Ny103 := aK hy103
 clear hy103
 replace H := oA H
 obtain ⟨⟨t106, t107, t108⟩, A4, H⟩ := H
 replace H : (if t108 = true then ((spec_l1In.f a2 1 6).bind fun t110 => (spec_Nowcast.j0 k a2 y103 (!t110) a1_0 a1_1 l1_2 t106 t107)) else (spec_Nowcast.j0 k a2 y103 true a1_0 a1_1 l1_2 t106 t107)) = some (r1, r2) := H
 have HC5 := aK H
 clear H
 go_enter Try.func13, Try.ntmps13
 go_upto_region 3 with (first | ((with_reducible refine ga 3 rfl ?_); refine bxa #[.int .i64 a0_0, .int .i64 a0_1, .slice A0_2 l0_2.length c0_2] 26 ?_; intro g101 hg w6 B101 hb; replace HO1_2 := aK (Kd.V_below (Kd.V_elderB (pW HO1_2.out) g101 (Nat.le_of_eq hg.symm)) hb); have GW101 := gA hg HB; replace HB := bS HB hb; clear hb hg) | ((with_reducible refine ga 4 rfl ?_); refine bxa #[.int .i64 a1_0, .int .i64 a1_1, .slice A1_2 l1_2.length c1_2] 26 ?_; intro g102 hg w7 B102 hb; replace HO1_2 := aK (Kd.V_below (Kd.V_elderB (pW HO1_2.out) g102 (Nat.le_of_eq hg.symm)) hb); have GW102 := gA hg HB; obtain ⟨N101_102, N102_101⟩ := na hg B101; replace B101 := bB B101 hb; replace HB := bS HB hb; clear hb hg) | ((with_reducible refine ga 13 rfl ?_); refine Kd.S_lit k26 _ 26 ?hg (N := 13) ?hd (xs := ([] : List (S26))) (inner := []) (ok := fun _ => True) (okp := fun _ => True) ?hr ?hp (fun _ hk => hk) trivial (Below.refl _ _) (Nat.le_refl _) (by simp) ?_; (case hd => rfl); (case hg => rfl); (case hr => first | (go_simp; done) | (go_simp; rfl)); (case hp => exact (Reps.none _ _)); intro v104 w8 ho9 hb hg_ hnew_; clear hg_ hnew_; (first | rw [← Ny103.out] at ho9 | (simp only [Int.reduceToNat] at ho9; rw [← Ny103.out] at ho9)); replace HO1_2 := aK (Kd.V_elder' (pW HO1_2.out) (Kd.S_base ho9) hb); have HO105 := aK (Kd.S_lower (Kd.S_newB (Kd.S_newB (Kd.S_newM (M := fun k_ => (w.heap.size ≤ k_)) ho9 (below_size (pS HB.out)) (fun k_ h_ => h_)) (g := g101) (o := .cells #[.int .i64 a0_0, .int .i64 a0_1, .slice A0_2 l0_2.length c0_2] 26 (0, 0)) (pB B101.out)) (g := g102) (o := .cells #[.int .i64 a1_0, .int .i64 a1_1, .slice A1_2 l1_2.length c1_2] 26 (0, 0)) (pB B102.out)) (below_size (pS HB.out))); replace B101 := bB B101 hb; replace B102 := bB B102 hb; replace HB := bS HB hb; clear hb ho9; obtain ⟨_, _⟩ := nB N101_102; obtain ⟨z11_0, z11_1, z11_2, y11_0, y11_1, y11_2⟩ := bc3 B101.out; obtain ⟨z12_0, z12_1, z12_2, y12_0, y12_1, y12_2⟩ := bc3 B102.out) | ((with_reducible refine gc 31 rfl ?_); refine gl (some 17) Try.func31 #[.agg #[.int .i64 a0_0, .int .i64 a0_1, .slice A0_2 l0_2.length c0_2], .agg #[.int .i64 a1_0, .int .i64 a1_1, .slice A1_2 l1_2.length c1_2]] ?_; (with_reducible refine (spec_BestMotion.calls k a0_0 a0_1 _ _ l0_2 a1_0 a1_1 _ _ l1_2 t106 t107 t108 _ ?side1 ?side2 ?side3 ?side4 A4.out).mono ?_); (case side1 => exact cB HR0_2 HB); (case side2 => exact HC0_2.out); (case side3 => exact pC (Kd.V_reads' HO1_2.out).2.2); (case side4 => exact (Kd.V_reads' HO1_2.out).2.1); rintro e w13 ⟨rfl, hb⟩; refine ⟨_, rfl, ?_⟩; replace HO1_2 := vb HO1_2 hb; replace HO105 := sb HO105 hb; replace B101 := bB B101 hb; replace B102 := bB B102 hb; replace HB := bS HB hb; (try clear hb)) | ((with_reducible refine ga 9 rfl ?_); refine bxa #[.int .i64 0, .int .i64 0] 28 ?_; intro g109 hg w14 B109 hb; replace HO1_2 := aK (Kd.V_below (Kd.V_elderB (pW HO1_2.out) g109 (Nat.le_of_eq hg.symm)) hb); replace HO105 := sb HO105 hb; have GW109 := gA hg HB; obtain ⟨N101_109, N109_101⟩ := na hg B101; obtain ⟨N102_109, N109_102⟩ := na hg B102; replace B101 := bB B101 hb; replace B102 := bB B102 hb; replace HB := bS HB hb; clear hb hg; obtain ⟨_, _⟩ := nB N109_101; obtain ⟨_, _⟩ := nB N109_102; obtain ⟨z17_0, z17_1, y17_0, y17_1⟩ := bc2 B109.out))
 (try simp only [Act.put, List.setIfInBounds_toArray, List.set_cons_zero, List.set_cons_succ])
 go_cut [26] (fun v26 wc => ∃ (kq : Nat) (x26_4 : Bool), v26 = .bool x26_4 ∧ Aside0 (spec_Nowcast.j0 kq a2 y103 x26_4 a1_0 a1_1 l1_2 t106 t107 = some (r1, r2)) ∧ Aside0 (kq ≤ k) ∧ Aside0 (Kd.S k26 26 wc w.heap.size (fun k_ => (w.heap.size ≤ k_) ∧ k_ ≠ g101 ∧ k_ ≠ g102) v104 y103) ∧ Aside0 (Kd.V (Kd.int .i64) 3 wc w.heap.size (fun k_ => (P1_2_ k_ ∨ w.heap.size ≤ k_) ∧ some k_ ≠ (v104 : Value).ownBlock ∧ k_ ≠ g101 ∧ k_ ≠ g102 ∧ k_ ≠ g109) (.slice A1_2 l1_2.length c1_2) l1_2) ∧ Aside0 (wc.heap[g101]? = some (.cells #[.int .i64 a0_0, .int .i64 a0_1, (.slice A0_2 l0_2.length c0_2)] 26 (0, 0))) ∧ Aside0 (wc.heap[g102]? = some (.cells #[.int .i64 a1_0, .int .i64 a1_1, (.slice A1_2 l1_2.length c1_2)] 26 (0, 0))) ∧ Aside0 (wc.heap[g109]? = some (.cells #[.int .i64 t106, .int .i64 t107] 28 (0, 0))) ∧ Aside0 (Below w.heap.size w wc))
 case first =>
  have H := HC5.out; clear HC5
  by_cases c18 : t108 = true
  ·
   subst c18
   have H1 : ((spec_l1In.f a2 1 6).bind fun t110 => (spec_Nowcast.j0 k a2 y103 (!t110) a1_0 a1_1 l1_2 t106 t107)) = some (r1, r2) := by rw [if_pos rfl] at H; exact H
   clear H; have H := H1; clear H1; replace H := oA H; obtain ⟨t110, A19, H⟩ := H
   replace H : (spec_Nowcast.j0 k a2 y103 (!t110) a1_0 a1_1 l1_2 t106 t107) = some (r1, r2) := H
   have H' := aK H; clear H
   go_wp2_with (first | (go_at_call 32; (with_reducible refine (spec_l1In.calls a2 1 6 t110 _ A19.out).mono ?_); rintro e w' ⟨rfl, ⟨nd, rfl⟩⟩))
   go_meet
   case rel => exact ⟨_, (!t110), (by first | rfl | (simp; done) | (simp [*]; done)), H', ⟨by first | omega | exact Nat.le_refl _⟩, ⟨by (with_reducible repeat (first | apply Kd.S_alloc | apply Kd.S_drewN | apply Kd.S_drew)); exact Kd.S_mono (Kd.S_far (p := ⟨g109, 1, none⟩) (Kd.S_far (p := ⟨g109, 0, none⟩) (Kd.S_types HO105.out B109.out (by decide)) (fun _ hk => hk.2) (.int .i64 t106)) (fun _ hk => hk.2) (.int .i64 t107)) (fun _ hk => ⟨hk.1.1.1.1, ⟨hk.1.1.2, hk.1.2⟩⟩)⟩, ⟨by (with_reducible repeat (first | apply Kd.V_alloc | apply Kd.V_drewN | apply Kd.V_drew)); exact Kd.V_mono (Kd.V_far (p := ⟨g109, 1, none⟩) (Kd.V_far (p := ⟨g109, 0, none⟩) (Kd.V_mono HO1_2.out (fun k_ hk => (⟨hk, hk.2⟩ : _ ∧ k_ ≠ g109))) (fun _ hk => hk.2) (.int .i64 t106)) (fun _ hk => hk.2) (.int .i64 t107)) (fun _ hk => ⟨hk.1.1.1.1.1, ⟨hk.1.1.2, ⟨hk.1.1.1.1.2, ⟨hk.1.1.1.2, hk.1.2⟩⟩⟩⟩)⟩, ⟨by refine bg N101_109 ?_; refine bg N101_109 ?_; refine bk ?_; exact B101.out⟩, ⟨by refine bg N102_109 ?_; refine bg N102_109 ?_; refine bk ?_; exact B102.out⟩, ⟨by refine bq #[.int .i64 t106, .int .i64 0] 1 ?_; refine bq #[.int .i64 0, .int .i64 0] 0 ?_; refine bk ?_; exact B109.out⟩, ⟨pT HB.out⟩⟩
  replace c18 := Bool.eq_false_iff.mpr c18; subst c18
  have H1 : (spec_Nowcast.j0 k a2 y103 true a1_0 a1_1 l1_2 t106 t107) = some (r1, r2) := by rw [if_neg (show ¬ (false = true) by decide)] at H; exact H
  clear H; have H := H1; clear H1; have H' := aK H; clear H
  go_wp2
  go_meet
  case rel => exact ⟨_, (true), (by first | rfl | (simp; done) | (simp [*]; done)), H', ⟨by first | omega | exact Nat.le_refl _⟩, ⟨by (with_reducible repeat (first | apply Kd.S_alloc | apply Kd.S_drewN | apply Kd.S_drew)); exact Kd.S_mono (Kd.S_far (p := ⟨g109, 1, none⟩) (Kd.S_far (p := ⟨g109, 0, none⟩) (Kd.S_types HO105.out B109.out (by decide)) (fun _ hk => hk.2) (.int .i64 t106)) (fun _ hk => hk.2) (.int .i64 t107)) (fun _ hk => ⟨hk.1.1.1.1, ⟨hk.1.1.2, hk.1.2⟩⟩)⟩, ⟨by (with_reducible repeat (first | apply Kd.V_alloc | apply Kd.V_drewN | apply Kd.V_drew)); exact Kd.V_mono (Kd.V_far (p := ⟨g109, 1, none⟩) (Kd.V_far (p := ⟨g109, 0, none⟩) (Kd.V_mono HO1_2.out (fun k_ hk => (⟨hk, hk.2⟩ : _ ∧ k_ ≠ g109))) (fun _ hk => hk.2) (.int .i64 t106)) (fun _ hk => hk.2) (.int .i64 t107)) (fun _ hk => ⟨hk.1.1.1.1.1, ⟨hk.1.1.2, ⟨hk.1.1.1.1.2, ⟨hk.1.1.1.2, hk.1.2⟩⟩⟩⟩)⟩, ⟨by refine bg N101_109 ?_; refine bg N101_109 ?_; refine bk ?_; exact B101.out⟩, ⟨by refine bg N102_109 ?_; refine bg N102_109 ?_; refine bk ?_; exact B102.out⟩, ⟨by refine bq #[.int .i64 t106, .int .i64 0] 1 ?_; refine bq #[.int .i64 0, .int .i64 0] 0 ?_; refine bk ?_; exact B109.out⟩, ⟨pT HB.out⟩⟩
 case rest =>
 clear HC5
 clear z11_0 z11_1 z11_2 z12_0 z12_1 z12_2 z17_0 z17_1 y11_0 y11_1 y11_2 y12_0 y12_1 y12_2 y17_0 y17_1
 obtain ⟨kq, x26_4, rfl, HA, HJ4, HO_8, O0, B101, B102, B109, HB⟩ := hcut
 cases kq with
 | zero => exact absurd HA.out (by simp [spec_Nowcast.j0])
 | succ kj4 =>
 have H := HA.out
 clear HA
 simp only [spec_Nowcast.j0] at H
 by_cases c20 : x26_4 = true
 ·
  subst c20
  have H1 : (some (y103, false)) = some (r1, r2) := by rw [if_pos rfl] at H; exact H
  clear H; have H := H1; clear H1
  simp only [Option.some.injEq, Prod.mk.injEq] at H
  obtain ⟨rfl, rfl⟩ := H
  go_wp2
  go_ret2
  exact ⟨_, er, by (with_reducible repeat (first | apply Kd.S_alloc | apply Kd.S_drewN | apply Kd.S_drew)); exact Kd.S_mono HO_8.out (fun _ hk => hk.1), pT HB.out⟩
 replace c20 := Bool.eq_false_iff.mpr c20
 subst c20
 have H1 : (spec_Nowcast.l0 kj4 a2 y103 0 t106 t107 a1_0 a1_1 l1_2) = some (r1, r2) := by rw [if_neg (show ¬ (false = true) by decide)] at H; exact H
 clear H
 have H := H1
 clear H1
 have H' := aK H
 clear H
 obtain ⟨_, _⟩ := nB N102_101
 obtain ⟨_, _⟩ := nB N102_109
 obtain ⟨z23_0, z23_1, z23_2, y23_0, y23_1, y23_2⟩ := bc3 B102.out
 go_wp2_with (first | ((with_reducible refine ga 11 rfl ?_); refine bxa #[.int .i64 0, .int .i64 0, .slice none 0 0] 26 ?_; intro g111 hg w24 B111 hb; replace HO_8 := aK (Kd.S_below (Kd.S_elderB (pY HO_8.out) g111 (Nat.le_of_eq hg.symm)) hb); replace O0 := aK (Kd.V_below (Kd.V_elderB (pW O0.out) g111 (Nat.le_of_eq hg.symm)) hb); have GW111 := gA hg HB; obtain ⟨N101_111, N111_101⟩ := na hg B101; obtain ⟨N102_111, N111_102⟩ := na hg B102; obtain ⟨N109_111, N111_109⟩ := na hg B109; replace B101 := bB B101 hb; replace B102 := bB B102 hb; replace B109 := bB B109 hb; replace HB := bS HB hb; clear hb hg; obtain ⟨_, _⟩ := nB N111_101; obtain ⟨_, _⟩ := nB N111_102; obtain ⟨_, _⟩ := nB N111_109; obtain ⟨z28_0, z28_1, z28_2, y28_0, y28_1, y28_2⟩ := bc3 B111.out))
 go_loopg [8, 12] kj4 (fun kq v8 v12 w' => ∃ (x8_2 : List (S26)) (x12_2 : Int) (s0 : Int) (s1 : Int) (s2 : List Int) (u112002 : Value), v12 = .int .i64 x12_2 ∧ Aside0 (spec_Nowcast.l0 kq a2 x8_2 x12_2 t106 t107 s0 s1 s2 = some (r1, r2)) ∧ Aside0 (kq ≤ kj4) ∧ Aside0 (Kd.S k26 26 w' w.heap.size (fun k_ => (w.heap.size ≤ k_) ∧ k_ ≠ g101 ∧ k_ ≠ g102 ∧ k_ ≠ g111) v8 x8_2) ∧ Aside0 (Kd.V (Kd.int .i64) 3 w' w.heap.size (fun k_ => (P1_2_ k_ ∨ w.heap.size ≤ k_) ∧ some k_ ≠ (v8 : Value).ownBlock ∧ k_ ≠ g101 ∧ k_ ≠ g102 ∧ k_ ≠ g109 ∧ k_ ≠ g111) (.slice A1_2 l1_2.length c1_2) l1_2) ∧ Aside0 (Kd.V (Kd.int .i64) 3 w' w.heap.size (fun k_ => (P1_2_ k_ ∨ w.heap.size ≤ k_) ∧ some k_ ≠ (v8 : Value).ownBlock ∧ k_ ≠ g101 ∧ k_ ≠ g102 ∧ k_ ≠ g109 ∧ k_ ≠ g111) u112002 s2) ∧ Aside0 (w'.heap[g101]? = some (.cells #[.int .i64 a0_0, .int .i64 a0_1, (.slice A0_2 l0_2.length c0_2)] 26 (0, 0))) ∧ Aside0 (w'.heap[g102]? = some (.cells #[.int .i64 a1_0, .int .i64 a1_1, (.slice A1_2 l1_2.length c1_2)] 26 (0, 0))) ∧ Aside0 (w'.heap[g109]? = some (.cells #[.int .i64 t106, .int .i64 t107] 28 (0, 0))) ∧ Aside0 (w'.heap[g111]? = some (.cells #[.int .i64 s0, .int .i64 s1, u112002] 26 (0, 0))) ∧ Aside0 (Below w.heap.size w w'))
 case atStart => exact ⟨(y103), (0), (a1_0), (a1_1), (l1_2), (.slice A1_2 l1_2.length c1_2), (by first | rfl | (simp; done) | (simp [*]; done)), H', ⟨Nat.le_refl _⟩, ⟨by (with_reducible repeat (first | apply Kd.S_alloc | apply Kd.S_drewN | apply Kd.S_drew)); exact Kd.S_mono (Kd.S_far (p := ⟨g111, 2, none⟩) (Kd.S_far (p := ⟨g111, 1, none⟩) (Kd.S_far (p := ⟨g111, 0, none⟩) (Kd.S_mono HO_8.out (fun k_ hk => (⟨hk, hk.2⟩ : _ ∧ k_ ≠ g111))) (fun _ hk => hk.2) (.int .i64 a1_0)) (fun _ hk => hk.2) (.int .i64 a1_1)) (fun _ hk => hk.2) (.slice A1_2 l1_2.length c1_2)) (fun _ hk => ⟨hk.1.1.1, ⟨hk.1.1.2.1, ⟨hk.1.1.2.2, hk.1.2⟩⟩⟩)⟩, ⟨by (with_reducible repeat (first | apply Kd.V_alloc | apply Kd.V_drewN | apply Kd.V_drew)); exact Kd.V_mono (Kd.V_far (p := ⟨g111, 2, none⟩) (Kd.V_far (p := ⟨g111, 1, none⟩) (Kd.V_far (p := ⟨g111, 0, none⟩) (Kd.V_mono O0.out (fun k_ hk => (⟨hk, hk.2⟩ : _ ∧ k_ ≠ g111))) (fun _ hk => hk.2) (.int .i64 a1_0)) (fun _ hk => hk.2) (.int .i64 a1_1)) (fun _ hk => hk.2) (.slice A1_2 l1_2.length c1_2)) (fun _ hk => ⟨hk.1.1.1, ⟨hk.1.1.2.1, ⟨hk.1.1.2.2.1, ⟨hk.1.1.2.2.2.1, ⟨hk.1.1.2.2.2.2, hk.1.2⟩⟩⟩⟩⟩)⟩, ⟨by (with_reducible repeat (first | apply Kd.V_alloc | apply Kd.V_drewN | apply Kd.V_drew)); exact Kd.V_mono (Kd.V_far (p := ⟨g111, 2, none⟩) (Kd.V_far (p := ⟨g111, 1, none⟩) (Kd.V_far (p := ⟨g111, 0, none⟩) (Kd.V_mono O0.out (fun k_ hk => (⟨hk, hk.2⟩ : _ ∧ k_ ≠ g111))) (fun _ hk => hk.2) (.int .i64 a1_0)) (fun _ hk => hk.2) (.int .i64 a1_1)) (fun _ hk => hk.2) (.slice A1_2 l1_2.length c1_2)) (fun _ hk => ⟨hk.1.1.1, ⟨hk.1.1.2.1, ⟨hk.1.1.2.2.1, ⟨hk.1.1.2.2.2.1, ⟨hk.1.1.2.2.2.2, hk.1.2⟩⟩⟩⟩⟩)⟩, ⟨by refine bg N101_111 ?_; refine bg N101_111 ?_; refine bg N101_111 ?_; refine bk ?_; exact B101.out⟩, ⟨by refine bg N102_111 ?_; refine bg N102_111 ?_; refine bg N102_111 ?_; refine bk ?_; exact B102.out⟩, ⟨by refine bg N109_111 ?_; refine bg N109_111 ?_; refine bg N109_111 ?_; refine bk ?_; exact B109.out⟩, ⟨by refine bq #[.int .i64 a1_0, .int .i64 a1_1, .slice none 0 0] 2 ?_; refine bq #[.int .i64 a1_0, .int .i64 0, .slice none 0 0] 1 ?_; refine bq #[.int .i64 0, .int .i64 0, .slice none 0 0] 0 ?_; refine bk ?_; exact B111.out⟩, ⟨pT HB.out⟩⟩
 case round =>
 clear H'
 clear z23_0 z23_1 z23_2 z28_0 z28_1 z28_2 y23_0 y23_1 y23_2 y28_0 y28_1 y28_2
 obtain ⟨x8_2, x12_2, s0, s1, s2, u112002, rfl, HA, HK2, HO_8, O0, O1, B101, B102, B109, B111, HB⟩ := hrel
 cases gk with
 | zero => exact absurd HA.out (by simp [spec_Nowcast.l0])
 | succ k2 =>
 have H := HA.out
 clear HA
 simp only [spec_Nowcast.l0] at H
 by_cases c29 : x12_2 < a2
 rotate_left
 ·
  rw [if_neg c29] at H
  have c29b0 : decide (x12_2 < a2) = false := decide_eq_false c29
  clear c29
  simp only [Option.some.injEq, Prod.mk.injEq] at H
  obtain ⟨rfl, rfl⟩ := H
  go_wp2
  go_ret2
  exact ⟨_, er, by (with_reducible repeat (first | apply Kd.S_alloc | apply Kd.S_drewN | apply Kd.S_drew)); exact Kd.S_mono HO_8.out (fun _ hk => hk.1), pT HB.out⟩
 rw [if_pos c29] at H
 have c29b0 : decide (x12_2 < a2) = true := decide_eq_true c29
 clear c29
 replace H := oA H
 obtain ⟨⟨t112, t113, t114⟩, A30, H⟩ := H
 replace H : (if x8_2.length < 3518437208883 then (spec_Nowcast.l0 k2 a2 (x8_2 ++ [(⟨t112, t113, t114⟩ : S26)]) (wrap64 (x12_2 + 1)) t106 t107 t112 t113 t114) else (none)) = some (r1, r2) := H
 by_cases c31 : x8_2.length < 3518437208883
 rotate_left
 ·
  rw [if_neg c31] at H
  exact absurd H (by simp)
 rw [if_pos c31] at H
 have LMc31 := aK c31
 clear c31
 obtain ⟨y117, hy117⟩ : ∃ y_ : List (S26), y_ = (x8_2 ++ [(⟨t112, t113, t114⟩ : S26)]) := ⟨_, rfl⟩
 replace H : (spec_Nowcast.l0 k2 a2 y117 (wrap64 (x12_2 + 1)) t106 t107 t112 t113 t114) = some (r1, r2) := by first | (rw [hy117]; first | with_reducible exact H | with_reducible exact (oS H :)) | with_reducible exact (oS H :) | with_reducible exact H | exact H
 have Ny117 := aK hy117
 clear hy117
 have H' := aK H
 clear H
 obtain ⟨_, _⟩ := nB N111_101
 obtain ⟨_, _⟩ := nB N111_102
 obtain ⟨_, _⟩ := nB N111_109
 obtain ⟨_, _, _, _, _, _⟩ := bc3 B111.out
 obtain ⟨_, _⟩ := nB N109_101
 obtain ⟨_, _⟩ := nB N109_102
 obtain ⟨_, _, _, _⟩ := bc2 B109.out
 obtain ⟨Ao39, co39, eo39⟩ := Kd.V_slice O1.out
 subst eo39
 go_wp2_with (first | ((with_reducible refine gc 23 rfl ?_); refine gl (some 36) Try.func23 #[.agg #[.int .i64 s0, .int .i64 s1, .slice Ao39 s2.length co39], .agg #[.int .i64 t106, .int .i64 t107]] ?_; (with_reducible refine (spec_l11Move.calls k2 s0 s1 _ _ s2 t106 t107 t112 t113 t114 _ ?side1 ?side2 A30.out).mono ?_); (case side1 => exact pC (Kd.V_reads' O1.out).2.2); (case side2 => exact (Kd.V_reads' O1.out).2.1); rintro e w40 ⟨v115, rfl, ho0, hb⟩; refine ⟨_, rfl, ?_⟩; replace HO_8 := aK (Kd.S_elder' (pY HO_8.out) (Kd.R_base ho0) hb); replace O0 := aK (Kd.V_elder' (pW O0.out) (Kd.R_base ho0) hb); replace O1 := aK (Kd.V_elder' (pW O1.out) (Kd.R_base ho0) hb); have HO116 := aK (Kd.R_lower (Kd.R_newM (M := fun k_ => (w.heap.size ≤ k_)) ho0 (below_size (pS HB.out)) (fun k_ h_ => h_)) (below_size (pS HB.out))); replace B101 := bB B101 hb; replace B102 := bB B102 hb; replace B109 := bB B109 hb; replace B111 := bB B111 hb; replace HB := bS HB hb; (try clear hb); (try clear ho0); obtain ⟨_, _, _, _, _, _⟩ := bc3 B111.out; obtain ⟨Ao42, co42, eo42⟩ := Kd.R_slice HO116.out; subst eo42) | ((with_reducible refine gate_store (t := 26) (p := 11) rfl ?_); refine store_event (t := 26) (p := 11) (v := ?vo_w43) (w1 := (((w40.setCell ⟨g111, 0, none⟩ (.int .i64 t112)).setCell ⟨g111, 1, none⟩ (.int .i64 t113)).setCell ⟨g111, 2, none⟩ (.slice Ao42 t114.length co42))) ?hg ?ho ?hn ?hr ?_; (case ho => rfl); (case hg => rfl); (case hn => rfl); (case hr => first | (go_simp; done) | (go_simp; rfl)); intro w43 hw; replace HO_8 : Aside0 (Kd.S k26 26 w43 w.heap.size (fun k_ => (w.heap.size ≤ k_) ∧ some k_ ≠ (.slice Ao42 t114.length co42 : Value).ownBlock ∧ k_ ≠ g101 ∧ k_ ≠ g102 ∧ k_ ≠ g111) u8 x8_2) := ⟨(by rw [hw]; exact (pY (Kd.S_mono (Kd.S_far (p := ⟨g111, 2, none⟩) (Kd.S_far (p := ⟨g111, 1, none⟩) (Kd.S_far (p := ⟨g111, 0, none⟩) (Kd.S_mono HO_8.out (fun k_ hk => (⟨hk, hk.1.2.2.2⟩ : _ ∧ k_ ≠ g111))) (fun _ hk => hk.2) (.int .i64 t112)) (fun _ hk => hk.2) (.int .i64 t113)) (fun _ hk => hk.2) (.slice Ao42 t114.length co42)) (fun _ hk => ⟨hk.1.1.1, ⟨hk.1.2, ⟨hk.1.1.2.1, ⟨hk.1.1.2.2.1, hk.1.1.2.2.2⟩⟩⟩⟩))))⟩; replace O0 : Aside0 (Kd.V (Kd.int .i64) 3 w43 w.heap.size (fun k_ => (P1_2_ k_ ∨ w.heap.size ≤ k_) ∧ some k_ ≠ (u8 : Value).ownBlock ∧ some k_ ≠ (.slice Ao42 t114.length co42 : Value).ownBlock ∧ k_ ≠ g101 ∧ k_ ≠ g102 ∧ k_ ≠ g109 ∧ k_ ≠ g111) (.slice A1_2 l1_2.length c1_2) l1_2) := ⟨(by rw [hw]; exact (pW (Kd.V_mono (Kd.V_far (p := ⟨g111, 2, none⟩) (Kd.V_far (p := ⟨g111, 1, none⟩) (Kd.V_far (p := ⟨g111, 0, none⟩) (Kd.V_mono O0.out (fun k_ hk => (⟨hk, hk.1.2.2.2.2.2⟩ : _ ∧ k_ ≠ g111))) (fun _ hk => hk.2) (.int .i64 t112)) (fun _ hk => hk.2) (.int .i64 t113)) (fun _ hk => hk.2) (.slice Ao42 t114.length co42)) (fun _ hk => ⟨hk.1.1.1, ⟨hk.1.1.2.1, ⟨hk.1.2, ⟨hk.1.1.2.2.1, ⟨hk.1.1.2.2.2.1, ⟨hk.1.1.2.2.2.2.1, hk.1.1.2.2.2.2.2⟩⟩⟩⟩⟩⟩))))⟩; replace O1 : Aside0 (Kd.V (Kd.int .i64) 3 w43 w.heap.size (fun k_ => (P1_2_ k_ ∨ w.heap.size ≤ k_) ∧ some k_ ≠ (u8 : Value).ownBlock ∧ some k_ ≠ (.slice Ao42 t114.length co42 : Value).ownBlock ∧ k_ ≠ g101 ∧ k_ ≠ g102 ∧ k_ ≠ g109 ∧ k_ ≠ g111) (.slice Ao39 s2.length co39) s2) := ⟨(by rw [hw]; exact (pW (Kd.V_mono (Kd.V_far (p := ⟨g111, 2, none⟩) (Kd.V_far (p := ⟨g111, 1, none⟩) (Kd.V_far (p := ⟨g111, 0, none⟩) (Kd.V_mono O1.out (fun k_ hk => (⟨hk, hk.1.2.2.2.2.2⟩ : _ ∧ k_ ≠ g111))) (fun _ hk => hk.2) (.int .i64 t112)) (fun _ hk => hk.2) (.int .i64 t113)) (fun _ hk => hk.2) (.slice Ao42 t114.length co42)) (fun _ hk => ⟨hk.1.1.1, ⟨hk.1.1.2.1, ⟨hk.1.2, ⟨hk.1.1.2.2.1, ⟨hk.1.1.2.2.2.1, ⟨hk.1.1.2.2.2.2.1, hk.1.1.2.2.2.2.2⟩⟩⟩⟩⟩⟩))))⟩; replace HO116 : Aside0 (Kd.R (Kd.int .i64) 3 w43 w.heap.size (fun k_ => (w.heap.size ≤ k_)) (.slice Ao42 t114.length co42) t114) := ⟨(by rw [hw]; exact (pR (Kd.R_mono (rF3 HO116.out B111.out (.int .i64 t112) (.int .i64 t113) (.slice Ao42 t114.length co42)) (fun _ h => h.1))))⟩; replace B101 : Aside0 (w43.heap[g101]? = some (.cells #[.int .i64 a0_0, .int .i64 a0_1, .slice A0_2 l0_2.length c0_2] 26 (0, 0))) := ⟨(by rw [hw]; exact (by refine bg N101_111 ?_; refine bg N101_111 ?_; refine bg N101_111 ?_; refine bk ?_; exact B101.out))⟩; replace B102 : Aside0 (w43.heap[g102]? = some (.cells #[.int .i64 a1_0, .int .i64 a1_1, .slice A1_2 l1_2.length c1_2] 26 (0, 0))) := ⟨(by rw [hw]; exact (by refine bg N102_111 ?_; refine bg N102_111 ?_; refine bg N102_111 ?_; refine bk ?_; exact B102.out))⟩; replace B109 : Aside0 (w43.heap[g109]? = some (.cells #[.int .i64 t106, .int .i64 t107] 28 (0, 0))) := ⟨(by rw [hw]; exact (by refine bg N109_111 ?_; refine bg N109_111 ?_; refine bg N109_111 ?_; refine bk ?_; exact B109.out))⟩; replace B111 : Aside0 (w43.heap[g111]? = some (.cells #[.int .i64 t112, .int .i64 t113, .slice Ao42 t114.length co42] 26 (0, 0))) := ⟨(by rw [hw]; exact (by refine bq #[.int .i64 t112, .int .i64 t113, .slice Ao39 s2.length co39] 2 ?_; refine bq #[.int .i64 t112, .int .i64 s1, .slice Ao39 s2.length co39] 1 ?_; refine bq #[.int .i64 s0, .int .i64 s1, .slice Ao39 s2.length co39] 0 ?_; refine bk ?_; exact B111.out))⟩; replace HB : Aside0 (Below w.heap.size w w43) := ⟨(by rw [hw]; exact (pS HB.out))⟩; clear hw; obtain ⟨_, _, _, _, _, _⟩ := bc3 B111.out; have HV116 := aK (Kd.V_mono (ok' := (fun k_ => ((((((P1_2_ k_ ∨ w.heap.size ≤ k_) ∧ some k_ ≠ (u8 : Value).ownBlock) ∧ k_ ≠ g101) ∧ k_ ≠ g102) ∧ k_ ≠ g109) ∧ k_ ≠ g111))) (Kd.R_V (base' := w.heap.size) (Kd.R_types (Kd.R_types (Kd.R_types (Kd.R_types (Kd.R_apart' (HO116.out) (Kd.S_typed HO_8.out) (by decide)) B101.out (by decide)) B102.out (by decide)) B109.out (by decide)) B111.out (by decide))) (fun k_ hk => ⟨⟨⟨⟨⟨(.inr (hk.1.1.1.1.1)), hk.1.1.1.1.2⟩, hk.1.1.1.2⟩, hk.1.1.2⟩, hk.1.2⟩, hk.2⟩))) | ((with_reducible refine gate_builtin (b := .append) (xs := #[.tmp 37, .tmp 39]) rfl ?_); at_builtin; refine Kd.S_append k26 (w0 := w) w.heap.size rfl (.tmp 37) (.tmp 39) 40 26 (.agg #[(.int .i64 0), (.int .i64 0), (.slice none 0 0)]) 40 rfl Try.underlying40 info26 rfl (by decide) (by omega) u8 x8_2 (⟨t112, t113, t114⟩ : S26) [.int .i64 t112, .int .i64 t113, .slice Ao42 t114.length co42] (fun k_ => (w.heap.size ≤ k_) ∧ k_ ≠ g101 ∧ k_ ≠ g102 ∧ k_ ≠ g111) (fun k_ => some k_ = (.slice Ao42 t114.length co42 : Value).ownBlock) rfl rfl ?aP (fun k_ hk_ => ((Kd.R_mono (ok' := fun k_ => ((fun k_ => (w.heap.size ≤ k_) ∧ k_ ≠ g101 ∧ k_ ≠ g102 ∧ k_ ≠ g111)) k_ ∧ some k_ ≠ (u8 : Value).ownBlock) (Kd.R_types (Kd.R_types (Kd.R_types (Kd.R_apart' (HO116.out) (Kd.S_typed HO_8.out) (by decide)) B101.out (by decide)) B102.out (by decide)) B111.out (by decide)) (fun k_ hk => ⟨⟨hk.1.1.1.1, ⟨hk.1.1.2, ⟨hk.1.2, hk.2⟩⟩⟩, hk.1.1.1.2⟩))).1 k_ hk_.symm) ?aF ?aO ?aB ?aS ?aL ?_; (case aP => exact k26_mkM _ _ _ (⟨t112, t113, t114⟩ : S26) (Kd.R_mono (Kd.R_tight rfl (Kd.R_mono (ok' := fun k_ => ((fun k_ => (w.heap.size ≤ k_) ∧ k_ ≠ g101 ∧ k_ ≠ g102 ∧ k_ ≠ g111)) k_ ∧ some k_ ≠ (u8 : Value).ownBlock) (Kd.R_types (Kd.R_types (Kd.R_types (Kd.R_apart' (HO116.out) (Kd.S_typed HO_8.out) (by decide)) B101.out (by decide)) B102.out (by decide)) B111.out (by decide)) (fun k_ hk => ⟨⟨hk.1.1.1.1, ⟨hk.1.1.2, ⟨hk.1.2, hk.2⟩⟩⟩, hk.1.1.1.2⟩))) (fun _ h_ => h_))); (case aB => exact (pS HB.out)); (case aF => exact (fun k_ hk => ⟨(Nat.le_trans (below_size (pS HB.out)) hk), Kd.freshB (g := g101) (o := .cells #[.int .i64 a0_0, .int .i64 a0_1, .slice A0_2 l0_2.length c0_2] 26 (0, 0)) (pB B101.out) k_ hk, Kd.freshB (g := g102) (o := .cells #[.int .i64 a1_0, .int .i64 a1_1, .slice A1_2 l1_2.length c1_2] 26 (0, 0)) (pB B102.out) k_ hk, Kd.freshB (g := g111) (o := .cells #[.int .i64 t112, .int .i64 t113, .slice Ao42 t114.length co42] 26 (0, 0)) (pB B111.out) k_ hk⟩)); (case aO => exact (pY (Kd.S_mono HO_8.out (fun k_ hk => ⟨⟨hk.1, ⟨hk.2.2.1, ⟨hk.2.2.2.1, hk.2.2.2.2⟩⟩⟩, fun e_ => hk.2.1 e_⟩)))); (case aS => exact (below_size (pS HB.out))); (case aL => have := LMc31.out; omega); intro v118 w45 ho hb hg hat; rw [← Ny117.out] at ho; replace O0 := aK (Kd.V_afterv (ok := (fun k_ => (P1_2_ k_ ∨ w.heap.size ≤ k_) ∧ some k_ ≠ (.slice Ao42 t114.length co42 : Value).ownBlock ∧ k_ ≠ g101 ∧ k_ ≠ g102 ∧ k_ ≠ g109 ∧ k_ ≠ g111)) (pW (Kd.V_mono O0.out (fun _ hk => ⟨⟨hk.1, ⟨hk.2.2.1, ⟨hk.2.2.2.1, ⟨hk.2.2.2.2.1, ⟨hk.2.2.2.2.2.1, hk.2.2.2.2.2.2⟩⟩⟩⟩⟩, hk.2.1⟩))) hg hat); replace O1 := aK (Kd.V_afterv (ok := (fun k_ => (P1_2_ k_ ∨ w.heap.size ≤ k_) ∧ some k_ ≠ (.slice Ao42 t114.length co42 : Value).ownBlock ∧ k_ ≠ g101 ∧ k_ ≠ g102 ∧ k_ ≠ g109 ∧ k_ ≠ g111)) (pW (Kd.V_mono O1.out (fun _ hk => ⟨⟨hk.1, ⟨hk.2.2.1, ⟨hk.2.2.2.1, ⟨hk.2.2.2.2.1, ⟨hk.2.2.2.2.2.1, hk.2.2.2.2.2.2⟩⟩⟩⟩⟩, hk.2.1⟩))) hg hat); replace B101 := aK (blk_grown (pB B101.out) hg (Kd.S_away HO_8.out (fun _ hk => hk.2.2.1))); replace B102 := aK (blk_grown (pB B102.out) hg (Kd.S_away HO_8.out (fun _ hk => hk.2.2.2.1))); replace B109 := aK (blk_grown (pB B109.out) hg (Kd.S_ne HO_8.out B109.out (by decide))); replace B111 := aK (blk_grown (pB B111.out) hg (Kd.S_away HO_8.out (fun _ hk => hk.2.2.2.2))); replace HO116 := aK (Kd.V_afterv (ok := (fun k_ => (P1_2_ k_ ∨ w.heap.size ≤ k_) ∧ k_ ≠ g101 ∧ k_ ≠ g102 ∧ k_ ≠ g109 ∧ k_ ≠ g111)) (pW (Kd.V_mono HV116.out (fun _ hk => ⟨⟨hk.1.1.1.1.1, ⟨hk.1.1.1.2, ⟨hk.1.1.2, ⟨hk.1.2, hk.2⟩⟩⟩⟩, hk.1.1.1.1.2⟩))) hg hat); replace HB := aK (hb); have HO119 := aK (ho); clear HO_8; clear ho hb hg hat))
 go_roundg k2
 case measure => have := HJ4.out; have := HK2.out; omega
 case rel => exact ⟨(y117), (wrap64 (x12_2 + 1)), (t112), (t113), (t114), (.slice Ao42 t114.length co42), (by first | rfl | (simp; done) | (simp [*]; done)), H', ⟨by have := HJ4.out; have := HK2.out; omega⟩, ⟨by (with_reducible repeat (first | apply Kd.S_alloc | apply Kd.S_drewN | apply Kd.S_drew)); exact HO119.out⟩, ⟨by (with_reducible repeat (first | apply Kd.V_alloc | apply Kd.V_drewN | apply Kd.V_drew)); exact Kd.V_mono O0.out (fun _ hk => ⟨hk.1.1, ⟨hk.2, ⟨hk.1.2.2.1, ⟨hk.1.2.2.2.1, ⟨hk.1.2.2.2.2.1, hk.1.2.2.2.2.2⟩⟩⟩⟩⟩)⟩, ⟨by (with_reducible repeat (first | apply Kd.V_alloc | apply Kd.V_drewN | apply Kd.V_drew)); exact Kd.V_mono HO116.out (fun _ hk => ⟨hk.1.1, ⟨hk.2, ⟨hk.1.2.1, ⟨hk.1.2.2.1, ⟨hk.1.2.2.2.1, hk.1.2.2.2.2⟩⟩⟩⟩⟩)⟩, ⟨by refine bk ?_; exact B101.out⟩, ⟨by refine bk ?_; exact B102.out⟩, ⟨by refine bk ?_; exact B109.out⟩, ⟨by refine bk ?_; exact B111.out⟩, ⟨pT HB.out⟩⟩
def impl_MotionError.f (k : Nat) (a0_0 : Int) (a0_1 : Int) (l0_2 : List Int) (a1_0 : Int) (a1_1 : Int) (l1_2 : List Int) : Option (Int × Int × Bool) := (impl_areAlike.f k (([(⟨a0_0, a0_1, l0_2⟩ : S26), (⟨a1_0, a1_1, l1_2⟩ : S26)] : List (S26)))).bind fun t106 => (if t106 = true then ((impl_differences.f k a0_0 a0_1 l0_2 a1_0 a1_1 l1_2).bind fun bt107 => (some (bt107.1, bt107.2, true))) else (some (0, 0, false)))
theorem impl_MotionError.calls (k : Nat) (a0_0 : Int) (a0_1 : Int) (P0_2_ : Nat → Prop) (A0_2 : Option Addr) (c0_2 : Nat) (l0_2 : List Int) (a1_0 : Int) (a1_1 : Int) (P1_2_ : Nat → Prop) (A1_2 : Option Addr) (c1_2 : Nat) (l1_2 : List Int) (r1 : Int) (r2 : Int) (r3 : Bool) (w : World) (hs0_2 : Kd.V (Kd.int .i64) 3 w w.heap.size (fun k_ => P0_2_ k_) (.slice A0_2 l0_2.length c0_2) l0_2) (hs1_2 : Kd.V (Kd.int .i64) 3 w w.heap.size (fun k_ => P1_2_ k_) (.slice A1_2 l1_2.length c1_2) l1_2) (h : impl_MotionError.f k a0_0 a0_1 l0_2 a1_0 a1_1 l1_2 = some (r1, r2, r3)) :
  Calls Try.prog 15 #[.agg #[.int .i64 a0_0, .int .i64 a0_1, .slice A0_2 l0_2.length c0_2], .agg #[.int .i64 a1_0, .int .i64 a1_1, .slice A1_2 l1_2.length c1_2]] w fun e w' => e = .returned (.tuple #[.int .i64 r1, .int .i64 r2, .bool r3]) ∧ Below w.heap.size w w' := by
 have hu26 := Try.underlying26
 have HO0_2 := aK (show Kd.V (Kd.int .i64) 3 w w.heap.size (fun k_ => ((P0_2_ k_ ∨ P1_2_ k_) ∨ w.heap.size ≤ k_)) (.slice A0_2 l0_2.length c0_2) l0_2 from Kd.V_mono hs0_2 (fun k_ hk => .inl (.inl hk)))
 have HO1_2 := aK (show Kd.V (Kd.int .i64) 3 w w.heap.size (fun k_ => ((P0_2_ k_ ∨ P1_2_ k_) ∨ w.heap.size ≤ k_)) (.slice A1_2 l1_2.length c1_2) l1_2 from Kd.V_mono hs1_2 (fun k_ hk => .inl (.inr hk)))
 have HB := aK (Below.refl w.heap.size w)
 have H : ((impl_areAlike.f k (([(⟨a0_0, a0_1, l0_2⟩ : S26), (⟨a1_0, a1_1, l1_2⟩ : S26)] : List (S26)))).bind fun t106 => (if t106 = true then ((impl_differences.f k a0_0 a0_1 l0_2 a1_0 a1_1 l1_2).bind fun bt107 => (some (bt107.1, bt107.2, true))) else (some (0, 0, false)))) = some (r1, r2, r3) := h
 clear h
 obtain ⟨y103, hy103⟩ : ∃ y_ : List (S26), y_ = (([(⟨a0_0, a0_1, l0_2⟩ : S26), (⟨a1_0, a1_1, l1_2⟩ : S26)] : List (S26))) := ⟨_, rfl⟩
 replace H : ((impl_areAlike.f k y103).bind fun t106 => (if t106 = true then ((impl_differences.f k a0_0 a0_1 l0_2 a1_0 a1_1 l1_2).bind fun bt107 => (some (bt107.1, bt107.2, true))) else (some (0, 0, false)))) = some (r1, r2, r3) := by first | (rw [hy103]; first | with_reducible exact H | with_reducible exact (oS H :)) | with_reducible exact (oS H :) | with_reducible exact H | exact H
 have Ny103 := aK hy103
 clear hy103
 replace H := oA H
 obtain ⟨t106, A3, H⟩ := H
 replace H : (if t106 = true then ((impl_differences.f k a0_0 a0_1 l0_2 a1_0 a1_1 l1_2).bind fun bt107 => (some (bt107.1, bt107.2, true))) else (some (0, 0, false))) = some (r1, r2, r3) := H
 by_cases c4 : t106 = true
 ·
  subst c4
  have H1 : ((impl_differences.f k a0_0 a0_1 l0_2 a1_0 a1_1 l1_2).bind fun bt107 => (some (bt107.1, bt107.2, true))) = some (r1, r2, r3) := by rw [if_pos rfl] at H; exact H
  clear H; have H := H1; clear H1; replace H := oA H
  obtain ⟨⟨t107, t108⟩, A5, H⟩ := H
  replace H : (some (t107, t108, true)) = some (r1, r2, r3) := H
  simp only [Option.some.injEq, Prod.mk.injEq] at H
  obtain ⟨rfl, rfl, rfl⟩ := H
  go_enter Try.func15, Try.ntmps15
  go_wp2_with (first | ((with_reducible refine ga 2 rfl ?_); refine bxa #[.int .i64 a0_0, .int .i64 a0_1, .slice A0_2 l0_2.length c0_2] 26 ?_; intro g101 hg w6 B101 hb; replace HO0_2 := aK (Kd.V_below (Kd.V_elderB (pW HO0_2.out) g101 (Nat.le_of_eq hg.symm)) hb); replace HO1_2 := aK (Kd.V_below (Kd.V_elderB (pW HO1_2.out) g101 (Nat.le_of_eq hg.symm)) hb); have GW101 := gA hg HB; replace HB := bS HB hb; clear hb hg) | ((with_reducible refine ga 3 rfl ?_); refine bxa #[.int .i64 a1_0, .int .i64 a1_1, .slice A1_2 l1_2.length c1_2] 26 ?_; intro g102 hg w7 B102 hb; replace HO0_2 := aK (Kd.V_below (Kd.V_elderB (pW HO0_2.out) g102 (Nat.le_of_eq hg.symm)) hb); replace HO1_2 := aK (Kd.V_below (Kd.V_elderB (pW HO1_2.out) g102 (Nat.le_of_eq hg.symm)) hb); have GW102 := gA hg HB; obtain ⟨N101_102, N102_101⟩ := na hg B101; replace B101 := bB B101 hb; replace HB := bS HB hb; clear hb hg; obtain ⟨_, _⟩ := nB N101_102; obtain ⟨_, _, _, _, _, _⟩ := bc3 B101.out; obtain ⟨_, _, _, _, _, _⟩ := bc3 B102.out) | ((with_reducible refine ga 11 rfl ?_); refine Kd.N_lit k26 _ 26 ?hg (N' := 11) ?hd (xs := ([(⟨a0_0, a0_1, l0_2⟩ : S26), (⟨a1_0, a1_1, l1_2⟩ : S26)] : List (S26))) (inner := [.int .i64 a0_0, .int .i64 a0_1, .slice A0_2 l0_2.length c0_2, .int .i64 a1_0, .int .i64 a1_1, .slice A1_2 l1_2.length c1_2]) (ok := (fun k_ => ((P0_2_ k_ ∨ P1_2_ k_) ∨ w.heap.size ≤ k_) ∧ k_ ≠ g101 ∧ k_ ≠ g102)) (okp := (fun k_ => ((P0_2_ k_ ∨ P1_2_ k_) ∨ w.heap.size ≤ k_) ∧ k_ ≠ g101 ∧ k_ ≠ g102)) ?hr ?hp (fun _ hk => hk) ((show ∀ k_, w7.heap.size ≤ k_ → (fun k_ => ((P0_2_ k_ ∨ P1_2_ k_) ∨ w.heap.size ≤ k_) ∧ k_ ≠ g101 ∧ k_ ≠ g102) k_ from fun k_ hk => ⟨(.inr (Nat.le_trans (below_size (pS HB.out)) hk)), Kd.freshB (g := g101) (o := .cells #[.int .i64 a0_0, .int .i64 a0_1, .slice A0_2 l0_2.length c0_2] 26 (0, 0)) (pB B101.out) k_ hk, Kd.freshB (g := g102) (o := .cells #[.int .i64 a1_0, .int .i64 a1_1, .slice A1_2 l1_2.length c1_2] 26 (0, 0)) (pB B102.out) k_ hk⟩) _ (Nat.le_refl _)) (Below.refl _ _) (Nat.le_refl _) (by simp) ?_; (case hd => rfl); (case hg => rfl); (case hr => first | (go_simp; done) | (go_simp; rfl)); (case hp => exact (Reps.c3 (show Kd.FK k26 _ _ (⟨a0_0, a0_1, l0_2⟩ : S26) [.int .i64 a0_0, .int .i64 a0_1, .slice A0_2 l0_2.length c0_2] from (k26_mkF _ _ (⟨a0_0, a0_1, l0_2⟩ : S26) (Kd.V_reads' (Kd.V_mono (ok' := (fun k_ => ((P0_2_ k_ ∨ P1_2_ k_) ∨ w.heap.size ≤ k_) ∧ k_ ≠ g101 ∧ k_ ≠ g102)) (HO0_2.out) (fun k_ hk => ⟨hk.1.1, ⟨hk.1.2, hk.2⟩⟩))).2.1 (Kd.V_F (Kd.V_mono (ok' := (fun k_ => ((P0_2_ k_ ∨ P1_2_ k_) ∨ w.heap.size ≤ k_) ∧ k_ ≠ g101 ∧ k_ ≠ g102)) (HO0_2.out) (fun k_ hk => ⟨hk.1.1, ⟨hk.1.2, hk.2⟩⟩))))) (Reps.c3 (show Kd.FK k26 _ _ (⟨a1_0, a1_1, l1_2⟩ : S26) [.int .i64 a1_0, .int .i64 a1_1, .slice A1_2 l1_2.length c1_2] from (k26_mkF _ _ (⟨a1_0, a1_1, l1_2⟩ : S26) (Kd.V_reads' (Kd.V_mono (ok' := (fun k_ => ((P0_2_ k_ ∨ P1_2_ k_) ∨ w.heap.size ≤ k_) ∧ k_ ≠ g101 ∧ k_ ≠ g102)) (HO1_2.out) (fun k_ hk => ⟨hk.1.1, ⟨hk.1.2, hk.2⟩⟩))).2.1 (Kd.V_F (Kd.V_mono (ok' := (fun k_ => ((P0_2_ k_ ∨ P1_2_ k_) ∨ w.heap.size ≤ k_) ∧ k_ ≠ g101 ∧ k_ ≠ g102)) (HO1_2.out) (fun k_ hk => ⟨hk.1.1, ⟨hk.1.2, hk.2⟩⟩))))) (Reps.none _ _)))); intro v104 w11 ho12 hb hg_ hnew_; clear hg_ hnew_; (first | rw [← Ny103.out] at ho12 | (simp only [Int.reduceToNat] at ho12; rw [← Ny103.out] at ho12)); replace HO0_2 := aK (Kd.V_elder' (pW HO0_2.out) (Kd.N_base ho12) hb); replace HO1_2 := aK (Kd.V_elder' (pW HO1_2.out) (Kd.N_base ho12) hb); have HO105 := aK (Kd.N_lower ho12 (below_size (pS HB.out))); replace B101 := bB B101 hb; replace B102 := bB B102 hb; replace HB := bS HB hb; clear hb ho12; obtain ⟨Ao13, co13, eo13⟩ := Kd.N_slice HO105.out; subst eo13) | ((with_reducible refine gc 25 rfl ?_); refine gl (some 12) Try.func25 #[.slice Ao13 y103.length co13] ?_; (with_reducible refine (impl_areAlike.calls k _ _ y103 true _ ?side1 ?side2 A3.out).mono ?_); (case side1 => exact pC (Kd.N_reads' HO105.out).2.2); (case side2 => exact (Kd.N_reads' HO105.out).2.1); rintro e w14 ⟨rfl, hb⟩; refine ⟨_, rfl, ?_⟩; replace HO0_2 := vb HO0_2 hb; replace HO1_2 := vb HO1_2 hb; replace HO105 := aK (Kd.N_below (by (with_reducible repeat (first | apply Kd.N_alloc | apply Kd.N_drewN | apply Kd.N_drew)); exact HO105.out) hb); replace B101 := bB B101 hb; replace B102 := bB B102 hb; replace HB := bS HB hb; (try clear hb); obtain ⟨_, _, _, _, _, _⟩ := bc3 B101.out; obtain ⟨_, _, _, _, _, _⟩ := bc3 B102.out) | ((with_reducible refine gc 34 rfl ?_); refine gl (some 17) Try.func34 #[.agg #[.int .i64 a0_0, .int .i64 a0_1, .slice A0_2 l0_2.length c0_2], .agg #[.int .i64 a1_0, .int .i64 a1_1, .slice A1_2 l1_2.length c1_2]] ?_; (with_reducible refine (impl_differences.calls k a0_0 a0_1 _ _ l0_2 a1_0 a1_1 _ _ l1_2 t107 t108 _ ?side1 ?side2 ?side3 ?side4 A5.out).mono ?_); (case side1 => exact pC (Kd.V_reads' HO0_2.out).2.2); (case side2 => exact (Kd.V_reads' HO0_2.out).2.1); (case side3 => exact pC (Kd.V_reads' HO1_2.out).2.2); (case side4 => exact (Kd.V_reads' HO1_2.out).2.1); rintro e w17 ⟨rfl, hb⟩; refine ⟨_, rfl, ?_⟩; replace HO0_2 := vb HO0_2 hb; replace HO1_2 := vb HO1_2 hb; replace HO105 := aK (Kd.N_below (by (with_reducible repeat (first | apply Kd.N_alloc | apply Kd.N_drewN | apply Kd.N_drew)); exact HO105.out) hb); replace B101 := bB B101 hb; replace B102 := bB B102 hb; replace HB := bS HB hb; (try clear hb)))
  go_ret3
  exact ⟨er, pT HB.out⟩
 replace c4 := Bool.eq_false_iff.mpr c4
 subst c4
 have H1 : (some (0, 0, false)) = some (r1, r2, r3) := by rw [if_neg (show ¬ (false = true) by decide)] at H; exact H
 clear H
 have H := H1
 clear H1
 simp only [Option.some.injEq, Prod.mk.injEq] at H
 obtain ⟨rfl, rfl, rfl⟩ := H
 go_enter Try.func15, Try.ntmps15
 go_wp2_with (first | ((with_reducible refine ga 2 rfl ?_); refine bxa #[.int .i64 a0_0, .int .i64 a0_1, .slice A0_2 l0_2.length c0_2] 26 ?_; intro g101 hg w18 B101 hb; replace HO0_2 := aK (Kd.V_below (Kd.V_elderB (pW HO0_2.out) g101 (Nat.le_of_eq hg.symm)) hb); replace HO1_2 := aK (Kd.V_below (Kd.V_elderB (pW HO1_2.out) g101 (Nat.le_of_eq hg.symm)) hb); have GW101 := gA hg HB; replace HB := bS HB hb; clear hb hg) | ((with_reducible refine ga 3 rfl ?_); refine bxa #[.int .i64 a1_0, .int .i64 a1_1, .slice A1_2 l1_2.length c1_2] 26 ?_; intro g102 hg w19 B102 hb; replace HO0_2 := aK (Kd.V_below (Kd.V_elderB (pW HO0_2.out) g102 (Nat.le_of_eq hg.symm)) hb); replace HO1_2 := aK (Kd.V_below (Kd.V_elderB (pW HO1_2.out) g102 (Nat.le_of_eq hg.symm)) hb); have GW102 := gA hg HB; obtain ⟨N101_102, N102_101⟩ := na hg B101; replace B101 := bB B101 hb; replace HB := bS HB hb; clear hb hg; obtain ⟨_, _⟩ := nB N101_102; obtain ⟨_, _, _, _, _, _⟩ := bc3 B101.out; obtain ⟨_, _, _, _, _, _⟩ := bc3 B102.out) | ((with_reducible refine ga 11 rfl ?_); refine Kd.N_lit k26 _ 26 ?hg (N' := 11) ?hd (xs := ([(⟨a0_0, a0_1, l0_2⟩ : S26), (⟨a1_0, a1_1, l1_2⟩ : S26)] : List (S26))) (inner := [.int .i64 a0_0, .int .i64 a0_1, .slice A0_2 l0_2.length c0_2, .int .i64 a1_0, .int .i64 a1_1, .slice A1_2 l1_2.length c1_2]) (ok := (fun k_ => ((P0_2_ k_ ∨ P1_2_ k_) ∨ w.heap.size ≤ k_) ∧ k_ ≠ g101 ∧ k_ ≠ g102)) (okp := (fun k_ => ((P0_2_ k_ ∨ P1_2_ k_) ∨ w.heap.size ≤ k_) ∧ k_ ≠ g101 ∧ k_ ≠ g102)) ?hr ?hp (fun _ hk => hk) ((show ∀ k_, w19.heap.size ≤ k_ → (fun k_ => ((P0_2_ k_ ∨ P1_2_ k_) ∨ w.heap.size ≤ k_) ∧ k_ ≠ g101 ∧ k_ ≠ g102) k_ from fun k_ hk => ⟨(.inr (Nat.le_trans (below_size (pS HB.out)) hk)), Kd.freshB (g := g101) (o := .cells #[.int .i64 a0_0, .int .i64 a0_1, .slice A0_2 l0_2.length c0_2] 26 (0, 0)) (pB B101.out) k_ hk, Kd.freshB (g := g102) (o := .cells #[.int .i64 a1_0, .int .i64 a1_1, .slice A1_2 l1_2.length c1_2] 26 (0, 0)) (pB B102.out) k_ hk⟩) _ (Nat.le_refl _)) (Below.refl _ _) (Nat.le_refl _) (by simp) ?_; (case hd => rfl); (case hg => rfl); (case hr => first | (go_simp; done) | (go_simp; rfl)); (case hp => exact (Reps.c3 (show Kd.FK k26 _ _ (⟨a0_0, a0_1, l0_2⟩ : S26) [.int .i64 a0_0, .int .i64 a0_1, .slice A0_2 l0_2.length c0_2] from (k26_mkF _ _ (⟨a0_0, a0_1, l0_2⟩ : S26) (Kd.V_reads' (Kd.V_mono (ok' := (fun k_ => ((P0_2_ k_ ∨ P1_2_ k_) ∨ w.heap.size ≤ k_) ∧ k_ ≠ g101 ∧ k_ ≠ g102)) (HO0_2.out) (fun k_ hk => ⟨hk.1.1, ⟨hk.1.2, hk.2⟩⟩))).2.1 (Kd.V_F (Kd.V_mono (ok' := (fun k_ => ((P0_2_ k_ ∨ P1_2_ k_) ∨ w.heap.size ≤ k_) ∧ k_ ≠ g101 ∧ k_ ≠ g102)) (HO0_2.out) (fun k_ hk => ⟨hk.1.1, ⟨hk.1.2, hk.2⟩⟩))))) (Reps.c3 (show Kd.FK k26 _ _ (⟨a1_0, a1_1, l1_2⟩ : S26) [.int .i64 a1_0, .int .i64 a1_1, .slice A1_2 l1_2.length c1_2] from (k26_mkF _ _ (⟨a1_0, a1_1, l1_2⟩ : S26) (Kd.V_reads' (Kd.V_mono (ok' := (fun k_ => ((P0_2_ k_ ∨ P1_2_ k_) ∨ w.heap.size ≤ k_) ∧ k_ ≠ g101 ∧ k_ ≠ g102)) (HO1_2.out) (fun k_ hk => ⟨hk.1.1, ⟨hk.1.2, hk.2⟩⟩))).2.1 (Kd.V_F (Kd.V_mono (ok' := (fun k_ => ((P0_2_ k_ ∨ P1_2_ k_) ∨ w.heap.size ≤ k_) ∧ k_ ≠ g101 ∧ k_ ≠ g102)) (HO1_2.out) (fun k_ hk => ⟨hk.1.1, ⟨hk.1.2, hk.2⟩⟩))))) (Reps.none _ _)))); intro v104 w23 ho24 hb hg_ hnew_; clear hg_ hnew_; (first | rw [← Ny103.out] at ho24 | (simp only [Int.reduceToNat] at ho24; rw [← Ny103.out] at ho24)); replace HO0_2 := aK (Kd.V_elder' (pW HO0_2.out) (Kd.N_base ho24) hb); replace HO1_2 := aK (Kd.V_elder' (pW HO1_2.out) (Kd.N_base ho24) hb); have HO105 := aK (Kd.N_lower ho24 (below_size (pS HB.out))); replace B101 := bB B101 hb; replace B102 := bB B102 hb; replace HB := bS HB hb; clear hb ho24; obtain ⟨Ao25, co25, eo25⟩ := Kd.N_slice HO105.out; subst eo25) | ((with_reducible refine gc 25 rfl ?_); refine gl (some 12) Try.func25 #[.slice Ao25 y103.length co25] ?_; (with_reducible refine (impl_areAlike.calls k _ _ y103 false _ ?side1 ?side2 A3.out).mono ?_); (case side1 => exact pC (Kd.N_reads' HO105.out).2.2); (case side2 => exact (Kd.N_reads' HO105.out).2.1); rintro e w26 ⟨rfl, hb⟩; refine ⟨_, rfl, ?_⟩; replace HO0_2 := vb HO0_2 hb; replace HO1_2 := vb HO1_2 hb; replace HO105 := aK (Kd.N_below (by (with_reducible repeat (first | apply Kd.N_alloc | apply Kd.N_drewN | apply Kd.N_drew)); exact HO105.out) hb); replace B101 := bB B101 hb; replace B102 := bB B102 hb; replace HB := bS HB hb; (try clear hb)))
 go_ret3
 exact ⟨er, pT HB.out⟩
def laws_vBig.f (l0 : List Int) : Option (Bool) := some (decide ((l0.length : Int) > 65536))
theorem laws_vBig.calls (A0 : Option Addr) (c0 : Nat) (l0 : List Int) (r : Bool) (w : World) (hr0 : Kd.C (Kd.int .u8) w A0 l0.length l0) (hc0 : l0.length ≤ c0) (h : laws_vBig.f l0 = some r) :
  Calls Try.prog 4 #[.slice A0 l0.length c0] w fun e w' => e = .returned (.bool r) ∧ Drawn0 w w' := by
 have HR0 := aK hr0
 have HC0 := aK hc0
 clear hr0 hc0
 have H : (some (decide ((l0.length : Int) > 65536))) = some r := h
 clear h
 obtain rfl := Option.some.inj H
 go_enter Try.func4, Try.ntmps4
 go_wp2
 go_ret
 exact ⟨by first | rfl | (simp; done) | (simp [*]; done), by repeat (first | exact Drawn0.refl _ | apply Drawn0.step)⟩
def spec_l1Cur_motion.f (s0_0 : List Int) (s0_1 : Int) (s0_2 : Int) : Option (Int × Int × Int × Int) := (spec_l1Cur_pick.f s0_0 s0_1 s0_2 5).bind fun bt102 => ((spec_l1Cur_pick.f s0_0 bt102.2.1 bt102.2.2 5).bind fun bt105 => ((spec_l1Cur_one.f s0_0 bt105.2.1 bt105.2.2 16).bind fun bt109 => (if bt109.1 = true then ((spec_l1Cur_among.f s0_0 bt109.2.1 bt109.2.2 (([3, (-3)] : List Int))).bind fun bt115 => (some (bt115.1, wrap64 (bt105.1 - 2), bt115.2.1, bt115.2.2))) else (some (wrap64 (bt102.1 - 2), wrap64 (bt105.1 - 2), bt109.2.1, bt109.2.2)))))
theorem spec_l1Cur_motion.calls (g : Nat) (s0_0 : List Int) (s0_1 : Int) (s0_2 : Int) (r1 : Int) (r2 : Int) (r3 : Int) (r4 : Int) (w0 w : World) (hI : IsS49 w0 w g s0_0 s0_1 s0_2) (hB : Below w0.heap.size w0 w) (h : spec_l1Cur_motion.f s0_0 s0_1 s0_2 = some (r1, r2, r3, r4)) :
  Calls Try.prog 17 #[.pointer (some ⟨g, 0, none⟩)] w fun e w' => e = .returned (.agg #[.int .i64 r1, .int .i64 r2]) ∧ IsS49 w0 w' g s0_0 r3 r4 ∧ Below w0.heap.size w0 w' ∧ KeepBut w w' g none := by
 have hu28 := Try.underlying28
 have HI0 := aK hI
 have HK := aK (KeepBut.refl w g none)
 have HL := aK hB.size
 clear hI
 have HW0 := aK hB.size
 have HB := aK hB
 clear hB
 have H : ((spec_l1Cur_pick.f s0_0 s0_1 s0_2 5).bind fun bt102 => ((spec_l1Cur_pick.f s0_0 bt102.2.1 bt102.2.2 5).bind fun bt105 => ((spec_l1Cur_one.f s0_0 bt105.2.1 bt105.2.2 16).bind fun bt109 => (if bt109.1 = true then ((spec_l1Cur_among.f s0_0 bt109.2.1 bt109.2.2 (([3, (-3)] : List Int))).bind fun bt115 => (some (bt115.1, wrap64 (bt105.1 - 2), bt115.2.1, bt115.2.2))) else (some (wrap64 (bt102.1 - 2), wrap64 (bt105.1 - 2), bt109.2.1, bt109.2.2)))))) = some (r1, r2, r3, r4) := h
 clear h
 replace H := oA H
 obtain ⟨⟨t102, t103, t104⟩, A2, H⟩ := H
 replace H : ((spec_l1Cur_pick.f s0_0 t103 t104 5).bind fun bt105 => ((spec_l1Cur_one.f s0_0 bt105.2.1 bt105.2.2 16).bind fun bt109 => (if bt109.1 = true then ((spec_l1Cur_among.f s0_0 bt109.2.1 bt109.2.2 (([3, (-3)] : List Int))).bind fun bt115 => (some (bt115.1, wrap64 (bt105.1 - 2), bt115.2.1, bt115.2.2))) else (some (wrap64 (t102 - 2), wrap64 (bt105.1 - 2), bt109.2.1, bt109.2.2))))) = some (r1, r2, r3, r4) := H
 replace H := oA H
 obtain ⟨⟨t105, t106, t107⟩, A3, H⟩ := H
 replace H : ((spec_l1Cur_one.f s0_0 t106 t107 16).bind fun bt109 => (if bt109.1 = true then ((spec_l1Cur_among.f s0_0 bt109.2.1 bt109.2.2 (([3, (-3)] : List Int))).bind fun bt115 => (some (bt115.1, wrap64 (t105 - 2), bt115.2.1, bt115.2.2))) else (some (wrap64 (t102 - 2), wrap64 (t105 - 2), bt109.2.1, bt109.2.2)))) = some (r1, r2, r3, r4) := H
 replace H := oA H
 obtain ⟨⟨t109, t110, t111⟩, A4, H⟩ := H
 replace H : (if t109 = true then ((spec_l1Cur_among.f s0_0 t110 t111 (([3, (-3)] : List Int))).bind fun bt115 => (some (bt115.1, wrap64 (t105 - 2), bt115.2.1, bt115.2.2))) else (some (wrap64 (t102 - 2), wrap64 (t105 - 2), t110, t111))) = some (r1, r2, r3, r4) := H
 by_cases c5 : t109 = true
 rotate_left
 ·
  replace c5 := Bool.eq_false_iff.mpr c5; subst c5
  have H1 : (some (wrap64 (t102 - 2), wrap64 (t105 - 2), t110, t111)) = some (r1, r2, r3, r4) := by rw [if_neg (show ¬ (false = true) by decide)] at H; exact H
  clear H; have H := H1; clear H1
  simp only [Option.some.injEq, Prod.mk.injEq] at H
  obtain ⟨rfl, rfl, rfl, rfl⟩ := H
  go_enter Try.func17, Try.ntmps17
  go_wp2_with (first | ((with_reducible refine ga 2 rfl ?_); refine bxa #[.int .i64 0, .int .i64 0] 28 ?_; intro g101 hg w22 B101 hb; have n0_ := aK (IsS49.below (pI49 HI0.out) hb); have n1_ := aK (KeepBut.trans (pK HK.out) (KeepBut.of_below hb g none) (.inl rfl)); replace HB := aK (below_step ((pV HB.out (IsS49.ge HI0.out))) hb); have GW101 := aK ((by rw [hg]; exact (keep_size (w := w) (g := g) (row := none) (pK HK.out)) : w.heap.size ≤ g101)); have GE101 := aK ((Nat.le_trans HW0.out (by rw [hg]; exact (keep_size (w := w) (g := g) (row := none) (pK HK.out)) : w.heap.size ≤ g101) : w0.heap.size ≤ g101)); have N0_101 := aK ((by rw [hg]; exact Nat.ne_of_lt (IsS49.lt (show IsS49 w0 _ g s0_0 s0_1 s0_2 from pI49 HI0.out)) : g ≠ g101)); have N101_0 := aK ((by rw [hg]; exact Nat.ne_of_gt (IsS49.lt (show IsS49 w0 _ g s0_0 s0_1 s0_2 from pI49 HI0.out)) : g101 ≠ g)); clear HI0 HK; have HI0 := n0_; have HK := n1_; clear n0_ n1_; clear hb hg) | ((with_reducible refine gc 36 rfl ?_); refine gl (some 5) Try.func36 #[.pointer (some ⟨g, 0, none⟩), .int .i64 5] ?_; (with_reducible refine (spec_l1Cur_pick.calls g s0_0 s0_1 s0_2 5 t102 t103 t104 w0 _ ?side1 ?side2 A2.out).mono ?_); (case side1 => exact pI49 HI0.out); (case side2 => exact pV HB.out (IsS49.ge HI0.out)); rintro e w23 ⟨rfl, hi, hb, hk⟩; refine ⟨_, rfl, ?_⟩; replace B101 := kB hk B101 N101_0; replace HK := aK (KeepBut.trans (pK HK.out) hk (.inl rfl)); replace HB := aK (hb); replace HI0 := aK (hi); (try clear hb); (try clear hk); (try clear hi)) | ((with_reducible refine gc 36 rfl ?_); refine gl (some 8) Try.func36 #[.pointer (some ⟨g, 0, none⟩), .int .i64 5] ?_; (with_reducible refine (spec_l1Cur_pick.calls g s0_0 t103 t104 5 t105 t106 t107 w0 _ ?side1 ?side2 A3.out).mono ?_); (case side1 => exact pI49 HI0.out); (case side2 => exact pV HB.out (IsS49.ge HI0.out)); rintro e w24 ⟨rfl, hi, hb, hk⟩; refine ⟨_, rfl, ?_⟩; replace B101 := kB hk B101 N101_0; replace HK := aK (KeepBut.trans (pK HK.out) hk (.inl rfl)); replace HB := aK (hb); replace HI0 := aK (hi); (try clear hb); (try clear hk); (try clear hi)) | ((with_reducible refine ga 3 rfl ?_); refine bxe (cs := #[.int .i64 0, .int .i64 0]) (t := 28) ?_; intro g108 hg w25 hbox hb; have n0_ := aK (IsS49.below (pI49 HI0.out) hb); have n2_ := aK (KeepBut.trans (pK HK.out) (KeepBut.of_below hb g none) (.inl rfl)); replace HB := aK (below_step ((pV HB.out (IsS49.ge HI0.out))) hb); have B108 := aK (hbox); have GW108 := aK ((by rw [hg]; exact (keep_size (w := w) (g := g) (row := none) (pK HK.out)) : w.heap.size ≤ g108)); have GE108 := aK ((Nat.le_trans HW0.out (by rw [hg]; exact (keep_size (w := w) (g := g) (row := none) (pK HK.out)) : w.heap.size ≤ g108) : w0.heap.size ≤ g108)); obtain ⟨N101_108, N108_101⟩ := na hg B101; have N0_108 := aK ((by rw [hg]; exact Nat.ne_of_lt (IsS49.lt (show IsS49 w0 _ g s0_0 t106 t107 from pI49 HI0.out)) : g ≠ g108)); have N108_0 := aK ((by rw [hg]; exact Nat.ne_of_gt (IsS49.lt (show IsS49 w0 _ g s0_0 t106 t107 from pI49 HI0.out)) : g108 ≠ g)); replace B101 := bB B101 hb; clear HI0 HK; have HI0 := n0_; have HK := n2_; clear n0_ n2_ hb hbox hg; obtain ⟨_, _⟩ := nB N108_101; obtain ⟨_, _⟩ := nB N108_0; obtain ⟨_, _, _, _⟩ := bc2 B108.out) | ((with_reducible refine gc 37 rfl ?_); refine gl (some 12) Try.func37 #[.pointer (some ⟨g, 0, none⟩), .int .i64 16] ?_; (with_reducible refine (spec_l1Cur_one.calls g s0_0 t106 t107 16 false t110 t111 w0 _ ?side1 ?side2 A4.out).mono ?_); (case side1 => exact pI49 HI0.out); (case side2 => exact pV HB.out (IsS49.ge HI0.out)); rintro e w29 ⟨rfl, hi, hb, hk⟩; refine ⟨_, rfl, ?_⟩; replace B101 := aK (KeepBut.blk hk (g' := g101) (o := .cells #[.int .i64 0, .int .i64 0] 28 (0, 0)) (by refine bg N101_108 ?_; refine bg N101_108 ?_; refine bk ?_; exact B101.out) N101_0.out (by simp)); replace B108 := aK (KeepBut.blk hk (g' := g108) (o := .cells #[.int .i64 (wrap64 (t102 - 2)), .int .i64 (wrap64 (t105 - 2))] 28 (0, 0)) (by refine bq #[.int .i64 (wrap64 (t102 - 2)), .int .i64 0] 1 ?_; refine bq #[.int .i64 0, .int .i64 0] 0 ?_; refine bk ?_; exact B108.out) N108_0.out (by simp)); replace HK := aK (KeepBut.trans (pK HK.out) hk (.inl rfl)); replace HB := aK (hb); replace HI0 := aK (hi); (try clear hb); (try clear hk); (try clear hi); obtain ⟨_, _, _, _⟩ := bc2 B108.out; obtain ⟨_, _⟩ := nB N101_0; obtain ⟨_, _, _, _⟩ := bc2 B101.out))
  refine bodyPost_ret (results_cell_row rfl _ _ g101 28 #[.int .i64 (wrap64 (t102 - 2)), .int .i64 (wrap64 (t105 - 2))] (0, 0) _ rfl (by refine bq #[.int .i64 (wrap64 (t102 - 2)), .int .i64 0] 1 ?_; refine bq #[.int .i64 0, .int .i64 0] 0 ?_; refine bk ?_; exact B101.out) Try.underlying28 rfl (by kernel_rfl)) rfl ?_
  exact ⟨er, pI49 HI0.out, (pV HB.out (IsS49.ge HI0.out)), pK HK.out⟩
 subst c5
 have H1 : ((spec_l1Cur_among.f s0_0 t110 t111 (([3, (-3)] : List Int))).bind fun bt115 => (some (bt115.1, wrap64 (t105 - 2), bt115.2.1, bt115.2.2))) = some (r1, r2, r3, r4) := by rw [if_pos rfl] at H; exact H
 clear H
 have H := H1
 clear H1
 obtain ⟨y112, hy112⟩ : ∃ y_ : List Int, y_ = (([3, (-3)] : List Int)) := ⟨_, rfl⟩
 replace H : ((spec_l1Cur_among.f s0_0 t110 t111 y112).bind fun bt115 => (some (bt115.1, wrap64 (t105 - 2), bt115.2.1, bt115.2.2))) = some (r1, r2, r3, r4) := by first | (rw [hy112]; first | with_reducible exact H | with_reducible exact (oS H :)) | with_reducible exact (oS H :) | with_reducible exact H | exact H
 have Ny112 := aK hy112
 clear hy112
 replace H := oA H
 obtain ⟨⟨t115, t116, t117⟩, A6, H⟩ := H
 replace H : (some (t115, wrap64 (t105 - 2), t116, t117)) = some (r1, r2, r3, r4) := H
 simp only [Option.some.injEq, Prod.mk.injEq] at H
 obtain ⟨rfl, rfl, rfl, rfl⟩ := H
 go_enter Try.func17, Try.ntmps17
 go_wp2_with (first | ((with_reducible refine ga 2 rfl ?_); refine bxa #[.int .i64 0, .int .i64 0] 28 ?_; intro g101 hg w7 B101 hb; have n0_ := aK (IsS49.below (pI49 HI0.out) hb); have n1_ := aK (KeepBut.trans (pK HK.out) (KeepBut.of_below hb g none) (.inl rfl)); replace HB := aK (below_step ((pV HB.out (IsS49.ge HI0.out))) hb); have GW101 := aK ((by rw [hg]; exact (keep_size (w := w) (g := g) (row := none) (pK HK.out)) : w.heap.size ≤ g101)); have GE101 := aK ((Nat.le_trans HW0.out (by rw [hg]; exact (keep_size (w := w) (g := g) (row := none) (pK HK.out)) : w.heap.size ≤ g101) : w0.heap.size ≤ g101)); have N0_101 := aK ((by rw [hg]; exact Nat.ne_of_lt (IsS49.lt (show IsS49 w0 _ g s0_0 s0_1 s0_2 from pI49 HI0.out)) : g ≠ g101)); have N101_0 := aK ((by rw [hg]; exact Nat.ne_of_gt (IsS49.lt (show IsS49 w0 _ g s0_0 s0_1 s0_2 from pI49 HI0.out)) : g101 ≠ g)); clear HI0 HK; have HI0 := n0_; have HK := n1_; clear n0_ n1_; clear hb hg) | ((with_reducible refine gc 36 rfl ?_); refine gl (some 5) Try.func36 #[.pointer (some ⟨g, 0, none⟩), .int .i64 5] ?_; (with_reducible refine (spec_l1Cur_pick.calls g s0_0 s0_1 s0_2 5 t102 t103 t104 w0 _ ?side1 ?side2 A2.out).mono ?_); (case side1 => exact pI49 HI0.out); (case side2 => exact pV HB.out (IsS49.ge HI0.out)); rintro e w8 ⟨rfl, hi, hb, hk⟩; refine ⟨_, rfl, ?_⟩; replace B101 := kB hk B101 N101_0; replace HK := aK (KeepBut.trans (pK HK.out) hk (.inl rfl)); replace HB := aK (hb); replace HI0 := aK (hi); (try clear hb); (try clear hk); (try clear hi)) | ((with_reducible refine gc 36 rfl ?_); refine gl (some 8) Try.func36 #[.pointer (some ⟨g, 0, none⟩), .int .i64 5] ?_; (with_reducible refine (spec_l1Cur_pick.calls g s0_0 t103 t104 5 t105 t106 t107 w0 _ ?side1 ?side2 A3.out).mono ?_); (case side1 => exact pI49 HI0.out); (case side2 => exact pV HB.out (IsS49.ge HI0.out)); rintro e w9 ⟨rfl, hi, hb, hk⟩; refine ⟨_, rfl, ?_⟩; replace B101 := kB hk B101 N101_0; replace HK := aK (KeepBut.trans (pK HK.out) hk (.inl rfl)); replace HB := aK (hb); replace HI0 := aK (hi); (try clear hb); (try clear hk); (try clear hi)) | ((with_reducible refine ga 3 rfl ?_); refine bxe (cs := #[.int .i64 0, .int .i64 0]) (t := 28) ?_; intro g108 hg w10 hbox hb; have n0_ := aK (IsS49.below (pI49 HI0.out) hb); have n2_ := aK (KeepBut.trans (pK HK.out) (KeepBut.of_below hb g none) (.inl rfl)); replace HB := aK (below_step ((pV HB.out (IsS49.ge HI0.out))) hb); have B108 := aK (hbox); have GW108 := aK ((by rw [hg]; exact (keep_size (w := w) (g := g) (row := none) (pK HK.out)) : w.heap.size ≤ g108)); have GE108 := aK ((Nat.le_trans HW0.out (by rw [hg]; exact (keep_size (w := w) (g := g) (row := none) (pK HK.out)) : w.heap.size ≤ g108) : w0.heap.size ≤ g108)); obtain ⟨N101_108, N108_101⟩ := na hg B101; have N0_108 := aK ((by rw [hg]; exact Nat.ne_of_lt (IsS49.lt (show IsS49 w0 _ g s0_0 t106 t107 from pI49 HI0.out)) : g ≠ g108)); have N108_0 := aK ((by rw [hg]; exact Nat.ne_of_gt (IsS49.lt (show IsS49 w0 _ g s0_0 t106 t107 from pI49 HI0.out)) : g108 ≠ g)); replace B101 := bB B101 hb; clear HI0 HK; have HI0 := n0_; have HK := n2_; clear n0_ n2_ hb hbox hg; obtain ⟨_, _⟩ := nB N108_101; obtain ⟨_, _⟩ := nB N108_0; obtain ⟨_, _, _, _⟩ := bc2 B108.out) | ((with_reducible refine gc 37 rfl ?_); refine gl (some 12) Try.func37 #[.pointer (some ⟨g, 0, none⟩), .int .i64 16] ?_; (with_reducible refine (spec_l1Cur_one.calls g s0_0 t106 t107 16 true t110 t111 w0 _ ?side1 ?side2 A4.out).mono ?_); (case side1 => exact pI49 HI0.out); (case side2 => exact pV HB.out (IsS49.ge HI0.out)); rintro e w14 ⟨rfl, hi, hb, hk⟩; refine ⟨_, rfl, ?_⟩; replace B101 := aK (KeepBut.blk hk (g' := g101) (o := .cells #[.int .i64 0, .int .i64 0] 28 (0, 0)) (by refine bg N101_108 ?_; refine bg N101_108 ?_; refine bk ?_; exact B101.out) N101_0.out (by simp)); replace B108 := aK (KeepBut.blk hk (g' := g108) (o := .cells #[.int .i64 (wrap64 (t102 - 2)), .int .i64 (wrap64 (t105 - 2))] 28 (0, 0)) (by refine bq #[.int .i64 (wrap64 (t102 - 2)), .int .i64 0] 1 ?_; refine bq #[.int .i64 0, .int .i64 0] 0 ?_; refine bk ?_; exact B108.out) N108_0.out (by simp)); replace HK := aK (KeepBut.trans (pK HK.out) hk (.inl rfl)); replace HB := aK (hb); replace HI0 := aK (hi); (try clear hb); (try clear hk); (try clear hi)) | ((with_reducible refine ga 14 rfl ?_); refine Kd.R_lit (Kd.int .i64) _ 3 ?hg (N := 14) ?hd (xs := ([3, (-3)] : List Int)) (inner := [.int .i64 3, .int .i64 (-3)]) (ok := fun _ => True) (okp := fun _ => True) ?hr ?hp (fun _ hk => hk) trivial (Below.refl _ _) (Nat.le_refl _) (by simp) ?_; (case hd => rfl); (case hg => rfl); (case hr => first | (go_simp; done) | (go_simp; rfl)); (case hp => exact (Reps.one (show Kd.M (Kd.int .i64) _ _ _ 3 [.int .i64 3] from rfl) (Reps.one (show Kd.M (Kd.int .i64) _ _ _ (-3) [.int .i64 (-3)] from rfl) (Reps.none _ _)))); intro v113 w15 ho16 hb hg_ hnew_; clear hg_ hnew_; (first | rw [← Ny112.out] at ho16 | (simp only [Int.reduceToNat] at ho16; rw [← Ny112.out] at ho16)); have HO114 := aK (Kd.R_lower ho16 (keep_size (w := w) (g := g) (row := none) (pK HK.out))); have n1_ := aK (IsS49.below (pI49 HI0.out) hb); have n4_ := aK (KeepBut.trans (pK HK.out) (KeepBut.of_below hb g none) (.inl rfl)); have n5_ := aK (below_step ((pV HB.out (IsS49.ge HI0.out))) hb); replace B101 := bB B101 hb; replace B108 := bB B108 hb; clear HI0 HK HB; have HI0 := n1_; have HK := n4_; have HB := n5_; clear n1_ n4_ n5_ hb ho16; obtain ⟨Ao17, co17, eo17⟩ := Kd.R_slice HO114.out; subst eo17) | ((with_reducible refine gc 29 rfl ?_); refine gl (some 15) Try.func29 #[.pointer (some ⟨g, 0, none⟩), .slice Ao17 y112.length co17] ?_; (with_reducible refine (spec_l1Cur_among.calls g s0_0 t110 t111 _ _ y112 t115 t116 t117 w0 _ ?side1 ?side2 ?side3 ?side4 ?side5 A6.out).mono ?_); (case side1 => exact pI49 HI0.out); (case side2 => exact pV HB.out (IsS49.ge HI0.out)); (case side3 => exact pC (Kd.R_reads' HO114.out).2.2); (case side4 => exact (Kd.R_reads' HO114.out).2.1); (case side5 => exact far_slice (IsS49.own_ne HI0.out HO114.out (by decide))); rintro e w18 ⟨rfl, hi, hb, hk⟩; refine ⟨_, rfl, ?_⟩; replace B101 := kB hk B101 N101_0; replace B108 := kB hk B108 N108_0; replace HO114 := aK (Kd.R_mono (Kd.R_keep (IsS49.apart (show IsS49 w0 _ g s0_0 t110 t111 from pI49 HI0.out) (pR HO114.out) (by decide)) hk (fun _ h => h.2)) (fun _ h => h.1)); replace HK := aK (KeepBut.trans (pK HK.out) hk (.inl rfl)); replace HB := aK (hb); replace HI0 := aK (hi); (try clear hb); (try clear hk); (try clear hi); obtain ⟨_, _, _, _⟩ := bc2 B108.out; obtain ⟨_, _⟩ := nB N101_0; obtain ⟨_, _, _, _⟩ := bc2 B101.out))
 refine bodyPost_ret (results_cell_row rfl _ _ g101 28 #[.int .i64 t115, .int .i64 (wrap64 (t105 - 2))] (0, 0) _ rfl (by refine bq #[.int .i64 t115, .int .i64 0] 1 ?_; refine bq #[.int .i64 0, .int .i64 0] 0 ?_; refine bg N101_108 ?_; refine bk ?_; exact B101.out) Try.underlying28 rfl (by kernel_rfl)) rfl ?_
 exact ⟨er, pI49 HI0.out, (pV HB.out (IsS49.ge HI0.out)), pK HK.out⟩
def spec_DrawMoveField.f (k : Nat) (l0 : List Int) : Option (Int × Int × List Int × Int × Int) := (spec_l1Cur_anyField.f k l0 0 0).bind fun bt104 => ((spec_l1Cur_motion.f l0 bt104.2.2.2.1 bt104.2.2.2.2).bind fun bt111 => (some (bt104.1, bt104.2.1, bt104.2.2.1, bt111.1, bt111.2.1)))
theorem spec_DrawMoveField.calls (k : Nat) (A0 : Option Addr) (c0 : Nat) (l0 : List Int) (r1 : Int) (r2 : Int) (r3 : List Int) (r4 : Int) (r5 : Int) (w : World) (hr0 : Kd.C (Kd.int .u8) w A0 l0.length l0) (hc0 : l0.length ≤ c0) (h : spec_DrawMoveField.f k l0 = some (r1, r2, r3, r4, r5)) :
  Calls Try.prog 5 #[.slice A0 l0.length c0] w fun e w' => ∃ v2_ : Value, e = .returned (.tuple #[.agg #[.int .i64 r1, .int .i64 r2, v2_], .agg #[.int .i64 r4, .int .i64 r5]]) ∧ Kd.Q (Kd.int .i64) 3 w' w.heap.size (fun _ => True) v2_ r3 ∧ Below w.heap.size w w' := by
 have hu26 := Try.underlying26
 have hu28 := Try.underlying28
 have hu49 := Try.underlying49
 have HR0 := aK hr0
 have HC0 := aK hc0
 clear hr0 hc0
 have HB := aK (Below.refl w.heap.size w)
 have H : ((spec_l1Cur_anyField.f k l0 0 0).bind fun bt104 => ((spec_l1Cur_motion.f l0 bt104.2.2.2.1 bt104.2.2.2.2).bind fun bt111 => (some (bt104.1, bt104.2.1, bt104.2.2.1, bt111.1, bt111.2.1)))) = some (r1, r2, r3, r4, r5) := h
 clear h
 replace H := oA H
 obtain ⟨⟨t104, t105, t106, t109, t110⟩, A2, H⟩ := H
 replace H : ((spec_l1Cur_motion.f l0 t109 t110).bind fun bt111 => (some (t104, t105, t106, bt111.1, bt111.2.1))) = some (r1, r2, r3, r4, r5) := H
 replace H := oA H
 obtain ⟨⟨t111, t112, t113, t114⟩, A3, H⟩ := H
 replace H : (some (t104, t105, t106, t111, t112)) = some (r1, r2, r3, r4, r5) := H
 simp only [Option.some.injEq, Prod.mk.injEq] at H
 obtain ⟨rfl, rfl, rfl, rfl, rfl⟩ := H
 go_enter Try.func5, Try.ntmps5
 go_wp2_with (first | ((with_reducible refine ga 2 rfl ?_); refine bxa #[.int .i64 0, .int .i64 0, .slice none 0 0] 26 ?_; intro g101 hg w4 B101 hb; have GW101 := gA hg HB; replace HB := bS HB hb; clear hb hg) | ((with_reducible refine ga 3 rfl ?_); refine bxa #[.int .i64 0, .int .i64 0] 28 ?_; intro g102 hg w5 B102 hb; have GW102 := gA hg HB; obtain ⟨N101_102, N102_101⟩ := na hg B101; replace B101 := bB B101 hb; replace HB := bS HB hb; clear hb hg) | ((with_reducible refine ga 7 rfl ?_); refine bxe (cs := #[.slice A0 l0.length c0, .int .i64 0, .int .u64 0]) (t := 49) ?_; intro g103 hg w6 hbox hb; have HI103 := aK ((⟨_, _, hbox, (by rw [hg]; exact (below_size (pS HB.out)) : w.heap.size ≤ g103), HR0.out⟩ : IsS49 w w6 g103 l0 0 0)); obtain ⟨N101_103, N103_101⟩ := na hg B101; obtain ⟨N102_103, N103_102⟩ := na hg B102; replace B101 := bB B101 hb; replace B102 := bB B102 hb; replace HB := bS HB hb; clear hb hbox hg) | ((with_reducible refine gc 16 rfl ?_); refine gl (some 9) Try.func16 #[.pointer (some ⟨g103, 0, none⟩)] ?_; (with_reducible refine (spec_l1Cur_anyField.calls k g103 l0 0 0 t104 t105 t106 t109 t110 w _ ?side1 ?side2 A2.out).mono ?_); (case side1 => exact pI49 HI103.out); (case side2 => exact pV HB.out (IsS49.ge HI103.out)); rintro e w7 ⟨v107, rfl, ho0, hi, hb, hk⟩; refine ⟨_, rfl, ?_⟩; replace B101 := kB hk B101 N101_103; replace B102 := kB hk B102 N102_103; have HO108 := aK (Kd.Q_lower ho0 (below_size ((pV HB.out (IsS49.ge HI103.out))))); replace HB := aK (hb); replace HI103 := aK (hi); (try clear hb); (try clear hb2); (try clear hk); (try clear hi); (try clear ho0)) | ((with_reducible refine gc 17 rfl ?_); refine gl (some 11) Try.func17 #[.pointer (some ⟨g103, 0, none⟩)] ?_; (with_reducible refine (spec_l1Cur_motion.calls g103 l0 t109 t110 t111 t112 t113 t114 w _ ?side1 ?side2 A3.out).mono ?_); (case side1 => exact pI49 HI103.out); (case side2 => exact pV HB.out (IsS49.ge HI103.out)); rintro e w8 ⟨rfl, hi, hb, hk⟩; refine ⟨_, rfl, ?_⟩; replace B101 := kB hk B101 N101_103; replace B102 := kB hk B102 N102_103; replace HO108 := aK (Kd.Q_mono (Kd.Q_keep (IsS49.apartQ (show IsS49 w _ g103 l0 t109 t110 from pI49 HI103.out) (pQ HO108.out) (by decide)) hk (fun _ h => h.2)) (fun _ h => h.1)); replace HB := aK (hb); replace HI103 := aK (hi); (try clear hb); (try clear hb2); (try clear hk); (try clear hi); obtain ⟨_, _⟩ := nB N101_102; obtain ⟨_, _⟩ := nB N101_103; obtain ⟨_, _, _, _, _, _⟩ := bc3 B101.out; obtain ⟨Ao12, co12, eo12, _⟩ := Kd.Q_slice HO108.out; subst eo12; obtain ⟨_, _⟩ := nB N102_103; obtain ⟨_, _, _, _⟩ := bc2 B102.out))
 refine bodyPost_ret (results_cc rfl _ _ g101 g102 26 28 #[.int .i64 t104, .int .i64 t105, .slice Ao12 t106.length co12] #[.int .i64 t111, .int .i64 t112] (0, 0) (0, 0) _ _ rfl (by refine bg N101_102 ?_; refine bg N101_102 ?_; refine bq #[.int .i64 t104, .int .i64 t105, .slice none 0 0] 2 ?_; refine bq #[.int .i64 t104, .int .i64 0, .slice none 0 0] 1 ?_; refine bq #[.int .i64 0, .int .i64 0, .slice none 0 0] 0 ?_; refine bk ?_; exact B101.out) Try.underlying26 rfl (by kernel_rfl) rfl (by refine bq #[.int .i64 t111, .int .i64 0] 1 ?_; refine bq #[.int .i64 0, .int .i64 0] 0 ?_; refine bg N102_101 ?_; refine bg N102_101 ?_; refine bg N102_101 ?_; refine bk ?_; exact B102.out) Try.underlying28 rfl (by kernel_rfl)) rfl ?_
 exact ⟨_, er, by (with_reducible repeat (first | apply Kd.Q_alloc | apply Kd.Q_drewN | apply Kd.Q_drew)); exact Kd.Q_mono (Kd.Q_far (p := ⟨g102, 1, none⟩) (Kd.Q_far (p := ⟨g102, 0, none⟩) (Kd.Q_far (p := ⟨g101, 2, none⟩) (Kd.Q_far (p := ⟨g101, 1, none⟩) (Kd.Q_far (p := ⟨g101, 0, none⟩) (Kd.Q_types (Kd.Q_types HO108.out B101.out (by decide)) B102.out (by decide)) (fun _ hk => hk.1.2) (.int .i64 t104)) (fun _ hk => hk.1.2) (.int .i64 t105)) (fun _ hk => hk.1.2) (.slice Ao12 t106.length co12)) (fun _ hk => hk.2) (.int .i64 t111)) (fun _ hk => hk.2) (.int .i64 t112)) (fun _ hk => trivial), (pV HB.out (IsS49.ge HI103.out))⟩
def impl_isMotion.f (a0_0 : Int) (a0_1 : Int) : Option (Bool) := (impl_within.f a0_0 (-2) 2).bind fun t102 => (if t102 = true then ((impl_within.f a0_1 (-2) 2).bind fun t103 => (some t103)) else (some false))
theorem impl_isMotion.calls (a0_0 : Int) (a0_1 : Int) (r : Bool) (w : World) (h : impl_isMotion.f a0_0 a0_1 = some r) :
  Calls Try.prog 19 #[.agg #[.int .i64 a0_0, .int .i64 a0_1]] w fun e w' => e = .returned (.bool r) ∧ Below w.heap.size w w' := by
 have hu28 := Try.underlying28
 have HB := aK (Below.refl w.heap.size w)
 have H : ((impl_within.f a0_0 (-2) 2).bind fun t102 => (if t102 = true then ((impl_within.f a0_1 (-2) 2).bind fun t103 => (some t103)) else (some false))) = some r := h
 clear h
 replace H := oA H
 obtain ⟨t102, A2, H⟩ := H
 replace H : (if t102 = true then ((impl_within.f a0_1 (-2) 2).bind fun t103 => (some t103)) else (some false)) = some r := H
 by_cases c3 : t102 = true
 ·
  subst c3
  have H1 : ((impl_within.f a0_1 (-2) 2).bind fun t103 => (some t103)) = some r := by rw [if_pos rfl] at H; exact H
  clear H; have H := H1; clear H1; replace H := oA H; obtain ⟨t103, A4, H⟩ := H
  replace H : (some t103) = some r := H
  obtain rfl := Option.some.inj H
  go_enter Try.func19, Try.ntmps19
  go_wp2_with (first | ((with_reducible refine ga 1 rfl ?_); refine bxa #[.int .i64 a0_0, .int .i64 a0_1] 28 ?_; intro g101 hg w5 B101 hb; have GW101 := gA hg HB; replace HB := bS HB hb; clear hb hg; obtain ⟨_, _, _, _⟩ := bc2 B101.out) | ((with_reducible refine gc 30 rfl ?_); refine gl (some 5) Try.func30 #[.int .i64 a0_0, .int .i64 (-2), .int .i64 2] ?_; (with_reducible refine (impl_within.calls a0_0 (-2) 2 true _ A2.out).mono ?_); rintro e w' ⟨rfl, ⟨nd, rfl⟩⟩; refine ⟨_, rfl, ?_⟩) | (go_at_call 30; (with_reducible refine (impl_within.calls a0_1 (-2) 2 t103 _ A4.out).mono ?_); rintro e w' ⟨rfl, ⟨nd, rfl⟩⟩))
  go_ret
  exact ⟨er, pT HB.out⟩
 replace c3 := Bool.eq_false_iff.mpr c3
 subst c3
 have H1 : (some false) = some r := by rw [if_neg (show ¬ (false = true) by decide)] at H; exact H
 clear H
 have H := H1
 clear H1
 obtain rfl := Option.some.inj H
 go_enter Try.func19, Try.ntmps19
 go_wp2_with (first | ((with_reducible refine ga 1 rfl ?_); refine bxa #[.int .i64 a0_0, .int .i64 a0_1] 28 ?_; intro g101 hg w7 B101 hb; have GW101 := gA hg HB; replace HB := bS HB hb; clear hb hg; obtain ⟨_, _, _, _⟩ := bc2 B101.out) | ((with_reducible refine gc 30 rfl ?_); refine gl (some 5) Try.func30 #[.int .i64 a0_0, .int .i64 (-2), .int .i64 2] ?_; (with_reducible refine (impl_within.calls a0_0 (-2) 2 false _ A2.out).mono ?_); rintro e w' ⟨rfl, ⟨nd, rfl⟩⟩; refine ⟨_, rfl, ?_⟩))
 go_ret
 exact ⟨er, pT HB.out⟩
def impl_MoveField.f (k : Nat) (a0_0 : Int) (a0_1 : Int) (l0_2 : List Int) (a1_0 : Int) (a1_1 : Int) : Option (Int × Int × List Int × Bool) := (impl_IsValidField.f a0_0 a0_1 l0_2).bind fun t104 => (if t104 = true then ((impl_isMotion.f a1_0 a1_1).bind fun t105 => (if t105 = true then ((impl_moveField.f k a0_0 a0_1 l0_2 a1_0 a1_1).bind fun bt106 => (some (bt106.1, bt106.2.1, bt106.2.2, true))) else (some (0, 0, ([] : List Int), false)))) else (some (0, 0, ([] : List Int), false)))
theorem impl_MoveField.calls (k : Nat) (a0_0 : Int) (a0_1 : Int) (A0_2 : Option Addr) (c0_2 : Nat) (l0_2 : List Int) (a1_0 : Int) (a1_1 : Int) (r1 : Int) (r2 : Int) (r3 : List Int) (r4 : Bool) (w : World) (hr0_2 : Kd.C (Kd.int .i64) w A0_2 l0_2.length l0_2) (hc0_2 : l0_2.length ≤ c0_2) (h : impl_MoveField.f k a0_0 a0_1 l0_2 a1_0 a1_1 = some (r1, r2, r3, r4)) :
  Calls Try.prog 6 #[.agg #[.int .i64 a0_0, .int .i64 a0_1, .slice A0_2 l0_2.length c0_2], .agg #[.int .i64 a1_0, .int .i64 a1_1]] w fun e w' => ∃ v2_ : Value, e = .returned (.tuple #[.agg #[.int .i64 r1, .int .i64 r2, v2_], .bool r4]) ∧ Kd.R (Kd.int .i64) 3 w' w.heap.size (fun _ => True) v2_ r3 ∧ Below w.heap.size w w' := by
 have hu26 := Try.underlying26
 have hu28 := Try.underlying28
 have HR0_2 := aK hr0_2
 have HC0_2 := aK hc0_2
 clear hr0_2 hc0_2
 have HB := aK (Below.refl w.heap.size w)
 have H : ((impl_IsValidField.f a0_0 a0_1 l0_2).bind fun t104 => (if t104 = true then ((impl_isMotion.f a1_0 a1_1).bind fun t105 => (if t105 = true then ((impl_moveField.f k a0_0 a0_1 l0_2 a1_0 a1_1).bind fun bt106 => (some (bt106.1, bt106.2.1, bt106.2.2, true))) else (some (0, 0, ([] : List Int), false)))) else (some (0, 0, ([] : List Int), false)))) = some (r1, r2, r3, r4) := h
 clear h
 replace H := oA H
 obtain ⟨t104, A3, H⟩ := H
 replace H : (if t104 = true then ((impl_isMotion.f a1_0 a1_1).bind fun t105 => (if t105 = true then ((impl_moveField.f k a0_0 a0_1 l0_2 a1_0 a1_1).bind fun bt106 => (some (bt106.1, bt106.2.1, bt106.2.2, true))) else (some (0, 0, ([] : List Int), false)))) else (some (0, 0, ([] : List Int), false))) = some (r1, r2, r3, r4) := H
 by_cases c4 : t104 = true
 rotate_left
 ·
  replace c4 := Bool.eq_false_iff.mpr c4; subst c4
  have H1 : (some (0, 0, ([] : List Int), false)) = some (r1, r2, r3, r4) := by rw [if_neg (show ¬ (false = true) by decide)] at H; exact H
  clear H; have H := H1; clear H1
  simp only [Option.some.injEq, Prod.mk.injEq] at H
  obtain ⟨rfl, rfl, rfl, rfl⟩ := H
  go_enter Try.func6, Try.ntmps6
  go_wp2_with (first | ((with_reducible refine ga 2 rfl ?_); refine bxa #[.int .i64 a0_0, .int .i64 a0_1, .slice A0_2 l0_2.length c0_2] 26 ?_; intro g101 hg w34 B101 hb; have GW101 := gA hg HB; replace HB := bS HB hb; clear hb hg) | ((with_reducible refine ga 3 rfl ?_); refine bxa #[.int .i64 a1_0, .int .i64 a1_1] 28 ?_; intro g102 hg w35 B102 hb; have GW102 := gA hg HB; obtain ⟨N101_102, N102_101⟩ := na hg B101; replace B101 := bB B101 hb; replace HB := bS HB hb; clear hb hg) | ((with_reducible refine ga 4 rfl ?_); refine bxa #[.int .i64 0, .int .i64 0, .slice none 0 0] 26 ?_; intro g103 hg w36 B103 hb; have GW103 := gA hg HB; obtain ⟨N101_103, N103_101⟩ := na hg B101; obtain ⟨N102_103, N103_102⟩ := na hg B102; replace B101 := bB B101 hb; replace B102 := bB B102 hb; replace HB := bS HB hb; clear hb hg; obtain ⟨_, _⟩ := nB N101_102; obtain ⟨_, _⟩ := nB N101_103; obtain ⟨_, _, _, _, _, _⟩ := bc3 B101.out) | ((with_reducible refine gc 18 rfl ?_); refine gl (some 7) Try.func18 #[.agg #[.int .i64 a0_0, .int .i64 a0_1, .slice A0_2 l0_2.length c0_2]] ?_; (with_reducible refine (impl_IsValidField.calls a0_0 a0_1 _ _ l0_2 false _ ?side1 ?side2 A3.out).mono ?_); (case side1 => exact cB HR0_2 HB); (case side2 => exact HC0_2.out); rintro e w40 ⟨rfl, hb⟩; refine ⟨_, rfl, ?_⟩; replace B101 := bB B101 hb; replace B102 := bB B102 hb; replace B103 := bB B103 hb; replace HB := bS HB hb; (try clear hb); obtain ⟨_, _⟩ := nB N103_102; obtain ⟨_, _, _, _, _, _⟩ := bc3 B103.out))
  refine bodyPost_ret (results_ct rfl _ _ g103 26 #[.int .i64 0, .int .i64 0, .slice none 0 0] (0, 0) _ rfl (by refine bq #[.int .i64 0, .int .i64 0, .slice none 0 0] 2 ?_; refine bq #[.int .i64 0, .int .i64 0, .slice none 0 0] 1 ?_; refine bq #[.int .i64 0, .int .i64 0, .slice none 0 0] 0 ?_; refine bk ?_; exact B103.out) Try.underlying26 rfl (by kernel_rfl)) rfl ?_
  exact ⟨_, er, by first | exact Kd.R_nil _ _ _ _ _ | exact Kd.N_nil _ _ _ _ _ | exact Kd.V_nil _ _ _ _ _ | exact Kd.Q_nil _ _ _ _ _ | exact Kd.S_nil _ _ _ _ _, pT HB.out⟩
 subst c4
 have H1 : ((impl_isMotion.f a1_0 a1_1).bind fun t105 => (if t105 = true then ((impl_moveField.f k a0_0 a0_1 l0_2 a1_0 a1_1).bind fun bt106 => (some (bt106.1, bt106.2.1, bt106.2.2, true))) else (some (0, 0, ([] : List Int), false)))) = some (r1, r2, r3, r4) := by rw [if_pos rfl] at H; exact H
 clear H
 have H := H1
 clear H1
 replace H := oA H
 obtain ⟨t105, A5, H⟩ := H
 replace H : (if t105 = true then ((impl_moveField.f k a0_0 a0_1 l0_2 a1_0 a1_1).bind fun bt106 => (some (bt106.1, bt106.2.1, bt106.2.2, true))) else (some (0, 0, ([] : List Int), false))) = some (r1, r2, r3, r4) := H
 by_cases c6 : t105 = true
 ·
  subst c6
  have H1 : ((impl_moveField.f k a0_0 a0_1 l0_2 a1_0 a1_1).bind fun bt106 => (some (bt106.1, bt106.2.1, bt106.2.2, true))) = some (r1, r2, r3, r4) := by rw [if_pos rfl] at H; exact H
  clear H; have H := H1; clear H1; replace H := oA H
  obtain ⟨⟨t106, t107, t108⟩, A7, H⟩ := H
  replace H : (some (t106, t107, t108, true)) = some (r1, r2, r3, r4) := H
  simp only [Option.some.injEq, Prod.mk.injEq] at H
  obtain ⟨rfl, rfl, rfl, rfl⟩ := H
  go_enter Try.func6, Try.ntmps6
  go_wp2_with (first | ((with_reducible refine ga 2 rfl ?_); refine bxa #[.int .i64 a0_0, .int .i64 a0_1, .slice A0_2 l0_2.length c0_2] 26 ?_; intro g101 hg w8 B101 hb; have GW101 := gA hg HB; replace HB := bS HB hb; clear hb hg) | ((with_reducible refine ga 3 rfl ?_); refine bxa #[.int .i64 a1_0, .int .i64 a1_1] 28 ?_; intro g102 hg w9 B102 hb; have GW102 := gA hg HB; obtain ⟨N101_102, N102_101⟩ := na hg B101; replace B101 := bB B101 hb; replace HB := bS HB hb; clear hb hg) | ((with_reducible refine ga 4 rfl ?_); refine bxa #[.int .i64 0, .int .i64 0, .slice none 0 0] 26 ?_; intro g103 hg w10 B103 hb; have GW103 := gA hg HB; obtain ⟨N101_103, N103_101⟩ := na hg B101; obtain ⟨N102_103, N103_102⟩ := na hg B102; replace B101 := bB B101 hb; replace B102 := bB B102 hb; replace HB := bS HB hb; clear hb hg; obtain ⟨_, _⟩ := nB N101_102; obtain ⟨_, _⟩ := nB N101_103; obtain ⟨_, _, _, _, _, _⟩ := bc3 B101.out) | ((with_reducible refine gc 18 rfl ?_); refine gl (some 7) Try.func18 #[.agg #[.int .i64 a0_0, .int .i64 a0_1, .slice A0_2 l0_2.length c0_2]] ?_; (with_reducible refine (impl_IsValidField.calls a0_0 a0_1 _ _ l0_2 true _ ?side1 ?side2 A3.out).mono ?_); (case side1 => exact cB HR0_2 HB); (case side2 => exact HC0_2.out); rintro e w14 ⟨rfl, hb⟩; refine ⟨_, rfl, ?_⟩; replace B101 := bB B101 hb; replace B102 := bB B102 hb; replace B103 := bB B103 hb; replace HB := bS HB hb; (try clear hb); obtain ⟨_, _⟩ := nB N102_103; obtain ⟨_, _, _, _⟩ := bc2 B102.out) | (go_at_call 19; (with_reducible refine (impl_isMotion.calls a1_0 a1_1 true _ A5.out).mono ?_); rintro e w17 ⟨rfl, hb⟩; replace B101 := bB B101 hb; replace B102 := bB B102 hb; replace B103 := bB B103 hb; replace HB := bS HB hb; (try clear hb); obtain ⟨_, _, _, _, _, _⟩ := bc3 B101.out; obtain ⟨_, _, _, _⟩ := bc2 B102.out) | ((with_reducible refine gc 20 rfl ?_); refine gl (some 17) Try.func20 #[.agg #[.int .i64 a0_0, .int .i64 a0_1, .slice A0_2 l0_2.length c0_2], .agg #[.int .i64 a1_0, .int .i64 a1_1]] ?_; (with_reducible refine (impl_moveField.calls k a0_0 a0_1 _ _ l0_2 a1_0 a1_1 t106 t107 t108 _ ?side1 ?side2 A7.out).mono ?_); (case side1 => exact cB HR0_2 HB); (case side2 => exact HC0_2.out); rintro e w20 ⟨v109, rfl, ho0, hb⟩; refine ⟨_, rfl, ?_⟩; have HO110 := aK (Kd.R_lower ho0 (below_size (pS HB.out))); replace B101 := bB B101 hb; replace B102 := bB B102 hb; replace B103 := bB B103 hb; replace HB := bS HB hb; (try clear hb); (try clear ho0); obtain ⟨_, _, _, _, _, _⟩ := bc3 B103.out; obtain ⟨Ao22, co22, eo22⟩ := Kd.R_slice HO110.out; subst eo22))
  refine bodyPost_ret (results_ct rfl _ _ g103 26 #[.int .i64 t106, .int .i64 t107, .slice Ao22 t108.length co22] (0, 0) _ rfl (by refine bq #[.int .i64 t106, .int .i64 t107, .slice none 0 0] 2 ?_; refine bq #[.int .i64 t106, .int .i64 0, .slice none 0 0] 1 ?_; refine bq #[.int .i64 0, .int .i64 0, .slice none 0 0] 0 ?_; refine bk ?_; exact B103.out) Try.underlying26 rfl (by kernel_rfl)) rfl ?_
  exact ⟨_, er, by (with_reducible repeat (first | apply Kd.R_alloc | apply Kd.R_drewN | apply Kd.R_drew)); exact Kd.R_mono (rF3 HO110.out B103.out (.int .i64 t106) (.int .i64 t107) (.slice Ao22 t108.length co22)) (fun _ h => trivial), pT HB.out⟩
 replace c6 := Bool.eq_false_iff.mpr c6
 subst c6
 have H1 : (some (0, 0, ([] : List Int), false)) = some (r1, r2, r3, r4) := by rw [if_neg (show ¬ (false = true) by decide)] at H; exact H
 clear H
 have H := H1
 clear H1
 simp only [Option.some.injEq, Prod.mk.injEq] at H
 obtain ⟨rfl, rfl, rfl, rfl⟩ := H
 go_enter Try.func6, Try.ntmps6
 go_wp2_with (first | ((with_reducible refine ga 2 rfl ?_); refine bxa #[.int .i64 a0_0, .int .i64 a0_1, .slice A0_2 l0_2.length c0_2] 26 ?_; intro g101 hg w23 B101 hb; have GW101 := gA hg HB; replace HB := bS HB hb; clear hb hg) | ((with_reducible refine ga 3 rfl ?_); refine bxa #[.int .i64 a1_0, .int .i64 a1_1] 28 ?_; intro g102 hg w24 B102 hb; have GW102 := gA hg HB; obtain ⟨N101_102, N102_101⟩ := na hg B101; replace B101 := bB B101 hb; replace HB := bS HB hb; clear hb hg) | ((with_reducible refine ga 4 rfl ?_); refine bxa #[.int .i64 0, .int .i64 0, .slice none 0 0] 26 ?_; intro g103 hg w25 B103 hb; have GW103 := gA hg HB; obtain ⟨N101_103, N103_101⟩ := na hg B101; obtain ⟨N102_103, N103_102⟩ := na hg B102; replace B101 := bB B101 hb; replace B102 := bB B102 hb; replace HB := bS HB hb; clear hb hg; obtain ⟨_, _⟩ := nB N101_102; obtain ⟨_, _⟩ := nB N101_103; obtain ⟨_, _, _, _, _, _⟩ := bc3 B101.out) | ((with_reducible refine gc 18 rfl ?_); refine gl (some 7) Try.func18 #[.agg #[.int .i64 a0_0, .int .i64 a0_1, .slice A0_2 l0_2.length c0_2]] ?_; (with_reducible refine (impl_IsValidField.calls a0_0 a0_1 _ _ l0_2 true _ ?side1 ?side2 A3.out).mono ?_); (case side1 => exact cB HR0_2 HB); (case side2 => exact HC0_2.out); rintro e w29 ⟨rfl, hb⟩; refine ⟨_, rfl, ?_⟩; replace B101 := bB B101 hb; replace B102 := bB B102 hb; replace B103 := bB B103 hb; replace HB := bS HB hb; (try clear hb); obtain ⟨_, _⟩ := nB N102_103; obtain ⟨_, _, _, _⟩ := bc2 B102.out) | (go_at_call 19; (with_reducible refine (impl_isMotion.calls a1_0 a1_1 false _ A5.out).mono ?_); rintro e w32 ⟨rfl, hb⟩; replace B101 := bB B101 hb; replace B102 := bB B102 hb; replace B103 := bB B103 hb; replace HB := bS HB hb; (try clear hb); obtain ⟨_, _, _, _, _, _⟩ := bc3 B103.out))
 refine bodyPost_ret (results_ct rfl _ _ g103 26 #[.int .i64 0, .int .i64 0, .slice none 0 0] (0, 0) _ rfl (by refine bq #[.int .i64 0, .int .i64 0, .slice none 0 0] 2 ?_; refine bq #[.int .i64 0, .int .i64 0, .slice none 0 0] 1 ?_; refine bq #[.int .i64 0, .int .i64 0, .slice none 0 0] 0 ?_; refine bk ?_; exact B103.out) Try.underlying26 rfl (by kernel_rfl)) rfl ?_
 exact ⟨_, er, by first | exact Kd.R_nil _ _ _ _ _ | exact Kd.N_nil _ _ _ _ _ | exact Kd.V_nil _ _ _ _ _ | exact Kd.Q_nil _ _ _ _ _ | exact Kd.S_nil _ _ _ _ _, pT HB.out⟩
def spec_l11Good.f (a0_0 : Int) (a0_1 : Int) : Option (Bool) := (spec_l1In.f a0_0 (-2) 2).bind fun t102 => (if t102 = true then ((spec_l1In.f a0_1 (-2) 2).bind fun t103 => (some t103)) else (some false))
theorem spec_l11Good.calls (a0_0 : Int) (a0_1 : Int) (r : Bool) (w : World) (h : spec_l11Good.f a0_0 a0_1 = some r) :
  Calls Try.prog 22 #[.agg #[.int .i64 a0_0, .int .i64 a0_1]] w fun e w' => e = .returned (.bool r) ∧ Below w.heap.size w w' := by
 have hu28 := Try.underlying28
 have HB := aK (Below.refl w.heap.size w)
 have H : ((spec_l1In.f a0_0 (-2) 2).bind fun t102 => (if t102 = true then ((spec_l1In.f a0_1 (-2) 2).bind fun t103 => (some t103)) else (some false))) = some r := h
 clear h
 replace H := oA H
 obtain ⟨t102, A2, H⟩ := H
 replace H : (if t102 = true then ((spec_l1In.f a0_1 (-2) 2).bind fun t103 => (some t103)) else (some false)) = some r := H
 by_cases c3 : t102 = true
 ·
  subst c3
  have H1 : ((spec_l1In.f a0_1 (-2) 2).bind fun t103 => (some t103)) = some r := by rw [if_pos rfl] at H; exact H
  clear H; have H := H1; clear H1; replace H := oA H; obtain ⟨t103, A4, H⟩ := H
  replace H : (some t103) = some r := H
  obtain rfl := Option.some.inj H
  go_enter Try.func22, Try.ntmps22
  go_wp2_with (first | ((with_reducible refine ga 1 rfl ?_); refine bxa #[.int .i64 a0_0, .int .i64 a0_1] 28 ?_; intro g101 hg w5 B101 hb; have GW101 := gA hg HB; replace HB := bS HB hb; clear hb hg; obtain ⟨_, _, _, _⟩ := bc2 B101.out) | ((with_reducible refine gc 32 rfl ?_); refine gl (some 5) Try.func32 #[.int .i64 a0_0, .int .i64 (-2), .int .i64 2] ?_; (with_reducible refine (spec_l1In.calls a0_0 (-2) 2 true _ A2.out).mono ?_); rintro e w' ⟨rfl, ⟨nd, rfl⟩⟩; refine ⟨_, rfl, ?_⟩) | (go_at_call 32; (with_reducible refine (spec_l1In.calls a0_1 (-2) 2 t103 _ A4.out).mono ?_); rintro e w' ⟨rfl, ⟨nd, rfl⟩⟩))
  go_ret
  exact ⟨er, pT HB.out⟩
 replace c3 := Bool.eq_false_iff.mpr c3
 subst c3
 have H1 : (some false) = some r := by rw [if_neg (show ¬ (false = true) by decide)] at H; exact H
 clear H
 have H := H1
 clear H1
 obtain rfl := Option.some.inj H
 go_enter Try.func22, Try.ntmps22
 go_wp2_with (first | ((with_reducible refine ga 1 rfl ?_); refine bxa #[.int .i64 a0_0, .int .i64 a0_1] 28 ?_; intro g101 hg w7 B101 hb; have GW101 := gA hg HB; replace HB := bS HB hb; clear hb hg; obtain ⟨_, _, _, _⟩ := bc2 B101.out) | ((with_reducible refine gc 32 rfl ?_); refine gl (some 5) Try.func32 #[.int .i64 a0_0, .int .i64 (-2), .int .i64 2] ?_; (with_reducible refine (spec_l1In.calls a0_0 (-2) 2 false _ A2.out).mono ?_); rintro e w' ⟨rfl, ⟨nd, rfl⟩⟩; refine ⟨_, rfl, ?_⟩))
 go_ret
 exact ⟨er, pT HB.out⟩
def spec_MoveField.f (k : Nat) (a0_0 : Int) (a0_1 : Int) (l0_2 : List Int) (a1_0 : Int) (a1_1 : Int) : Option (Int × Int × List Int × Bool) := (spec_l2Good.f k a0_0 a0_1 l0_2).bind fun t104 => (if t104 = true then ((spec_l11Good.f a1_0 a1_1).bind fun t105 => (if t105 = true then ((spec_l11Move.f k a0_0 a0_1 l0_2 a1_0 a1_1).bind fun bt106 => (some (bt106.1, bt106.2.1, bt106.2.2, true))) else (some (0, 0, ([] : List Int), false)))) else (some (0, 0, ([] : List Int), false)))
theorem spec_MoveField.calls (k : Nat) (a0_0 : Int) (a0_1 : Int) (A0_2 : Option Addr) (c0_2 : Nat) (l0_2 : List Int) (a1_0 : Int) (a1_1 : Int) (r1 : Int) (r2 : Int) (r3 : List Int) (r4 : Bool) (w : World) (hr0_2 : Kd.C (Kd.int .i64) w A0_2 l0_2.length l0_2) (hc0_2 : l0_2.length ≤ c0_2) (h : spec_MoveField.f k a0_0 a0_1 l0_2 a1_0 a1_1 = some (r1, r2, r3, r4)) :
  Calls Try.prog 7 #[.agg #[.int .i64 a0_0, .int .i64 a0_1, .slice A0_2 l0_2.length c0_2], .agg #[.int .i64 a1_0, .int .i64 a1_1]] w fun e w' => ∃ v2_ : Value, e = .returned (.tuple #[.agg #[.int .i64 r1, .int .i64 r2, v2_], .bool r4]) ∧ Kd.R (Kd.int .i64) 3 w' w.heap.size (fun _ => True) v2_ r3 ∧ Below w.heap.size w w' := by
 have hu26 := Try.underlying26
 have hu28 := Try.underlying28
 have HR0_2 := aK hr0_2
 have HC0_2 := aK hc0_2
 clear hr0_2 hc0_2
 have HB := aK (Below.refl w.heap.size w)
 have H : ((spec_l2Good.f k a0_0 a0_1 l0_2).bind fun t104 => (if t104 = true then ((spec_l11Good.f a1_0 a1_1).bind fun t105 => (if t105 = true then ((spec_l11Move.f k a0_0 a0_1 l0_2 a1_0 a1_1).bind fun bt106 => (some (bt106.1, bt106.2.1, bt106.2.2, true))) else (some (0, 0, ([] : List Int), false)))) else (some (0, 0, ([] : List Int), false)))) = some (r1, r2, r3, r4) := h
 clear h
 replace H := oA H
 obtain ⟨t104, A3, H⟩ := H
 replace H : (if t104 = true then ((spec_l11Good.f a1_0 a1_1).bind fun t105 => (if t105 = true then ((spec_l11Move.f k a0_0 a0_1 l0_2 a1_0 a1_1).bind fun bt106 => (some (bt106.1, bt106.2.1, bt106.2.2, true))) else (some (0, 0, ([] : List Int), false)))) else (some (0, 0, ([] : List Int), false))) = some (r1, r2, r3, r4) := H
 by_cases c4 : t104 = true
 rotate_left
 ·
  replace c4 := Bool.eq_false_iff.mpr c4; subst c4
  have H1 : (some (0, 0, ([] : List Int), false)) = some (r1, r2, r3, r4) := by rw [if_neg (show ¬ (false = true) by decide)] at H; exact H
  clear H; have H := H1; clear H1
  simp only [Option.some.injEq, Prod.mk.injEq] at H
  obtain ⟨rfl, rfl, rfl, rfl⟩ := H
  go_enter Try.func7, Try.ntmps7
  go_wp2_with (first | ((with_reducible refine ga 2 rfl ?_); refine bxa #[.int .i64 a0_0, .int .i64 a0_1, .slice A0_2 l0_2.length c0_2] 26 ?_; intro g101 hg w34 B101 hb; have GW101 := gA hg HB; replace HB := bS HB hb; clear hb hg) | ((with_reducible refine ga 3 rfl ?_); refine bxa #[.int .i64 a1_0, .int .i64 a1_1] 28 ?_; intro g102 hg w35 B102 hb; have GW102 := gA hg HB; obtain ⟨N101_102, N102_101⟩ := na hg B101; replace B101 := bB B101 hb; replace HB := bS HB hb; clear hb hg) | ((with_reducible refine ga 4 rfl ?_); refine bxa #[.int .i64 0, .int .i64 0, .slice none 0 0] 26 ?_; intro g103 hg w36 B103 hb; have GW103 := gA hg HB; obtain ⟨N101_103, N103_101⟩ := na hg B101; obtain ⟨N102_103, N103_102⟩ := na hg B102; replace B101 := bB B101 hb; replace B102 := bB B102 hb; replace HB := bS HB hb; clear hb hg; obtain ⟨_, _⟩ := nB N101_102; obtain ⟨_, _⟩ := nB N101_103; obtain ⟨_, _, _, _, _, _⟩ := bc3 B101.out) | ((with_reducible refine gc 21 rfl ?_); refine gl (some 7) Try.func21 #[.agg #[.int .i64 a0_0, .int .i64 a0_1, .slice A0_2 l0_2.length c0_2]] ?_; (with_reducible refine (spec_l2Good.calls k a0_0 a0_1 _ _ l0_2 false _ ?side1 ?side2 A3.out).mono ?_); (case side1 => exact cB HR0_2 HB); (case side2 => exact HC0_2.out); rintro e w40 ⟨rfl, hb⟩; refine ⟨_, rfl, ?_⟩; replace B101 := bB B101 hb; replace B102 := bB B102 hb; replace B103 := bB B103 hb; replace HB := bS HB hb; (try clear hb); obtain ⟨_, _⟩ := nB N103_102; obtain ⟨_, _, _, _, _, _⟩ := bc3 B103.out))
  refine bodyPost_ret (results_ct rfl _ _ g103 26 #[.int .i64 0, .int .i64 0, .slice none 0 0] (0, 0) _ rfl (by refine bq #[.int .i64 0, .int .i64 0, .slice none 0 0] 2 ?_; refine bq #[.int .i64 0, .int .i64 0, .slice none 0 0] 1 ?_; refine bq #[.int .i64 0, .int .i64 0, .slice none 0 0] 0 ?_; refine bk ?_; exact B103.out) Try.underlying26 rfl (by kernel_rfl)) rfl ?_
  exact ⟨_, er, by first | exact Kd.R_nil _ _ _ _ _ | exact Kd.N_nil _ _ _ _ _ | exact Kd.V_nil _ _ _ _ _ | exact Kd.Q_nil _ _ _ _ _ | exact Kd.S_nil _ _ _ _ _, pT HB.out⟩
 subst c4
 have H1 : ((spec_l11Good.f a1_0 a1_1).bind fun t105 => (if t105 = true then ((spec_l11Move.f k a0_0 a0_1 l0_2 a1_0 a1_1).bind fun bt106 => (some (bt106.1, bt106.2.1, bt106.2.2, true))) else (some (0, 0, ([] : List Int), false)))) = some (r1, r2, r3, r4) := by rw [if_pos rfl] at H; exact H
 clear H
 have H := H1
 clear H1
 replace H := oA H
 obtain ⟨t105, A5, H⟩ := H
 replace H : (if t105 = true then ((spec_l11Move.f k a0_0 a0_1 l0_2 a1_0 a1_1).bind fun bt106 => (some (bt106.1, bt106.2.1, bt106.2.2, true))) else (some (0, 0, ([] : List Int), false))) = some (r1, r2, r3, r4) := H
 by_cases c6 : t105 = true
 ·
  subst c6
  have H1 : ((spec_l11Move.f k a0_0 a0_1 l0_2 a1_0 a1_1).bind fun bt106 => (some (bt106.1, bt106.2.1, bt106.2.2, true))) = some (r1, r2, r3, r4) := by rw [if_pos rfl] at H; exact H
  clear H; have H := H1; clear H1; replace H := oA H
  obtain ⟨⟨t106, t107, t108⟩, A7, H⟩ := H
  replace H : (some (t106, t107, t108, true)) = some (r1, r2, r3, r4) := H
  simp only [Option.some.injEq, Prod.mk.injEq] at H
  obtain ⟨rfl, rfl, rfl, rfl⟩ := H
  go_enter Try.func7, Try.ntmps7
  go_wp2_with (first | ((with_reducible refine ga 2 rfl ?_); refine bxa #[.int .i64 a0_0, .int .i64 a0_1, .slice A0_2 l0_2.length c0_2] 26 ?_; intro g101 hg w8 B101 hb; have GW101 := gA hg HB; replace HB := bS HB hb; clear hb hg) | ((with_reducible refine ga 3 rfl ?_); refine bxa #[.int .i64 a1_0, .int .i64 a1_1] 28 ?_; intro g102 hg w9 B102 hb; have GW102 := gA hg HB; obtain ⟨N101_102, N102_101⟩ := na hg B101; replace B101 := bB B101 hb; replace HB := bS HB hb; clear hb hg) | ((with_reducible refine ga 4 rfl ?_); refine bxa #[.int .i64 0, .int .i64 0, .slice none 0 0] 26 ?_; intro g103 hg w10 B103 hb; have GW103 := gA hg HB; obtain ⟨N101_103, N103_101⟩ := na hg B101; obtain ⟨N102_103, N103_102⟩ := na hg B102; replace B101 := bB B101 hb; replace B102 := bB B102 hb; replace HB := bS HB hb; clear hb hg; obtain ⟨_, _⟩ := nB N101_102; obtain ⟨_, _⟩ := nB N101_103; obtain ⟨_, _, _, _, _, _⟩ := bc3 B101.out) | ((with_reducible refine gc 21 rfl ?_); refine gl (some 7) Try.func21 #[.agg #[.int .i64 a0_0, .int .i64 a0_1, .slice A0_2 l0_2.length c0_2]] ?_; (with_reducible refine (spec_l2Good.calls k a0_0 a0_1 _ _ l0_2 true _ ?side1 ?side2 A3.out).mono ?_); (case side1 => exact cB HR0_2 HB); (case side2 => exact HC0_2.out); rintro e w14 ⟨rfl, hb⟩; refine ⟨_, rfl, ?_⟩; replace B101 := bB B101 hb; replace B102 := bB B102 hb; replace B103 := bB B103 hb; replace HB := bS HB hb; (try clear hb); obtain ⟨_, _⟩ := nB N102_103; obtain ⟨_, _, _, _⟩ := bc2 B102.out) | (go_at_call 22; (with_reducible refine (spec_l11Good.calls a1_0 a1_1 true _ A5.out).mono ?_); rintro e w17 ⟨rfl, hb⟩; replace B101 := bB B101 hb; replace B102 := bB B102 hb; replace B103 := bB B103 hb; replace HB := bS HB hb; (try clear hb); obtain ⟨_, _, _, _, _, _⟩ := bc3 B101.out; obtain ⟨_, _, _, _⟩ := bc2 B102.out) | ((with_reducible refine gc 23 rfl ?_); refine gl (some 17) Try.func23 #[.agg #[.int .i64 a0_0, .int .i64 a0_1, .slice A0_2 l0_2.length c0_2], .agg #[.int .i64 a1_0, .int .i64 a1_1]] ?_; (with_reducible refine (spec_l11Move.calls k a0_0 a0_1 _ _ l0_2 a1_0 a1_1 t106 t107 t108 _ ?side1 ?side2 A7.out).mono ?_); (case side1 => exact cB HR0_2 HB); (case side2 => exact HC0_2.out); rintro e w20 ⟨v109, rfl, ho0, hb⟩; refine ⟨_, rfl, ?_⟩; have HO110 := aK (Kd.R_lower ho0 (below_size (pS HB.out))); replace B101 := bB B101 hb; replace B102 := bB B102 hb; replace B103 := bB B103 hb; replace HB := bS HB hb; (try clear hb); (try clear ho0); obtain ⟨_, _, _, _, _, _⟩ := bc3 B103.out; obtain ⟨Ao22, co22, eo22⟩ := Kd.R_slice HO110.out; subst eo22))
  refine bodyPost_ret (results_ct rfl _ _ g103 26 #[.int .i64 t106, .int .i64 t107, .slice Ao22 t108.length co22] (0, 0) _ rfl (by refine bq #[.int .i64 t106, .int .i64 t107, .slice none 0 0] 2 ?_; refine bq #[.int .i64 t106, .int .i64 0, .slice none 0 0] 1 ?_; refine bq #[.int .i64 0, .int .i64 0, .slice none 0 0] 0 ?_; refine bk ?_; exact B103.out) Try.underlying26 rfl (by kernel_rfl)) rfl ?_
  exact ⟨_, er, by (with_reducible repeat (first | apply Kd.R_alloc | apply Kd.R_drewN | apply Kd.R_drew)); exact Kd.R_mono (rF3 HO110.out B103.out (.int .i64 t106) (.int .i64 t107) (.slice Ao22 t108.length co22)) (fun _ h => trivial), pT HB.out⟩
 replace c6 := Bool.eq_false_iff.mpr c6
 subst c6
 have H1 : (some (0, 0, ([] : List Int), false)) = some (r1, r2, r3, r4) := by rw [if_neg (show ¬ (false = true) by decide)] at H; exact H
 clear H
 have H := H1
 clear H1
 simp only [Option.some.injEq, Prod.mk.injEq] at H
 obtain ⟨rfl, rfl, rfl, rfl⟩ := H
 go_enter Try.func7, Try.ntmps7
 go_wp2_with (first | ((with_reducible refine ga 2 rfl ?_); refine bxa #[.int .i64 a0_0, .int .i64 a0_1, .slice A0_2 l0_2.length c0_2] 26 ?_; intro g101 hg w23 B101 hb; have GW101 := gA hg HB; replace HB := bS HB hb; clear hb hg) | ((with_reducible refine ga 3 rfl ?_); refine bxa #[.int .i64 a1_0, .int .i64 a1_1] 28 ?_; intro g102 hg w24 B102 hb; have GW102 := gA hg HB; obtain ⟨N101_102, N102_101⟩ := na hg B101; replace B101 := bB B101 hb; replace HB := bS HB hb; clear hb hg) | ((with_reducible refine ga 4 rfl ?_); refine bxa #[.int .i64 0, .int .i64 0, .slice none 0 0] 26 ?_; intro g103 hg w25 B103 hb; have GW103 := gA hg HB; obtain ⟨N101_103, N103_101⟩ := na hg B101; obtain ⟨N102_103, N103_102⟩ := na hg B102; replace B101 := bB B101 hb; replace B102 := bB B102 hb; replace HB := bS HB hb; clear hb hg; obtain ⟨_, _⟩ := nB N101_102; obtain ⟨_, _⟩ := nB N101_103; obtain ⟨_, _, _, _, _, _⟩ := bc3 B101.out) | ((with_reducible refine gc 21 rfl ?_); refine gl (some 7) Try.func21 #[.agg #[.int .i64 a0_0, .int .i64 a0_1, .slice A0_2 l0_2.length c0_2]] ?_; (with_reducible refine (spec_l2Good.calls k a0_0 a0_1 _ _ l0_2 true _ ?side1 ?side2 A3.out).mono ?_); (case side1 => exact cB HR0_2 HB); (case side2 => exact HC0_2.out); rintro e w29 ⟨rfl, hb⟩; refine ⟨_, rfl, ?_⟩; replace B101 := bB B101 hb; replace B102 := bB B102 hb; replace B103 := bB B103 hb; replace HB := bS HB hb; (try clear hb); obtain ⟨_, _⟩ := nB N102_103; obtain ⟨_, _, _, _⟩ := bc2 B102.out) | (go_at_call 22; (with_reducible refine (spec_l11Good.calls a1_0 a1_1 false _ A5.out).mono ?_); rintro e w32 ⟨rfl, hb⟩; replace B101 := bB B101 hb; replace B102 := bB B102 hb; replace B103 := bB B103 hb; replace HB := bS HB hb; (try clear hb); obtain ⟨_, _, _, _, _, _⟩ := bc3 B103.out))
 refine bodyPost_ret (results_ct rfl _ _ g103 26 #[.int .i64 0, .int .i64 0, .slice none 0 0] (0, 0) _ rfl (by refine bq #[.int .i64 0, .int .i64 0, .slice none 0 0] 2 ?_; refine bq #[.int .i64 0, .int .i64 0, .slice none 0 0] 1 ?_; refine bq #[.int .i64 0, .int .i64 0, .slice none 0 0] 0 ?_; refine bk ?_; exact B103.out) Try.underlying26 rfl (by kernel_rfl)) rfl ?_
 exact ⟨_, er, by first | exact Kd.R_nil _ _ _ _ _ | exact Kd.N_nil _ _ _ _ _ | exact Kd.V_nil _ _ _ _ _ | exact Kd.Q_nil _ _ _ _ _ | exact Kd.S_nil _ _ _ _ _, pT HB.out⟩
def laws_vInts.l0 : Nat → List Int → List Int → Int → Option (Bool)
 | 0, _, _, _ => none
 | k + 1, x0, x1, x5 => if x5 < (x0.length : Int) then (if 0 ≤ x5 then (if x5 < (x1.length : Int) then (if (rd x0 x5) = (rd x1 x5) then (laws_vInts.l0 k x0 x1 (wrap64 (x5 + 1))) else (some false)) else (none)) else (none)) else (some true)
def laws_vInts.f (k : Nat) (l0 : List Int) (l1 : List Int) : Option (Bool) := if (l0.length : Int) = (l1.length : Int) then (laws_vInts.l0 k l0 l1 0) else (some false)
theorem laws_vInts.calls (k : Nat) (A0 : Option Addr) (c0 : Nat) (l0 : List Int) (A1 : Option Addr) (c1 : Nat) (l1 : List Int) (r : Bool) (w : World) (hr0 : Kd.C (Kd.int .i64) w A0 l0.length l0) (hc0 : l0.length ≤ c0) (hr1 : Kd.C (Kd.int .i64) w A1 l1.length l1) (hc1 : l1.length ≤ c1) (h : laws_vInts.f k l0 l1 = some r) :
  Calls Try.prog 24 #[.slice A0 l0.length c0, .slice A1 l1.length c1] w fun e w' => e = .returned (.bool r) ∧ Drawn0 w w' := by
 have HR0 := aK hr0
 have HC0 := aK hc0
 clear hr0 hc0
 have HR1 := aK hr1
 have HC1 := aK hc1
 clear hr1 hc1
 have H : (if (l0.length : Int) = (l1.length : Int) then (laws_vInts.l0 k l0 l1 0) else (some false)) = some r := h
 clear h
 by_cases c3 : (l0.length : Int) = (l1.length : Int)
 rotate_left
 ·
  rw [if_neg c3] at H
  have c3b0 : ((l0.length : Int) == (l1.length : Int)) = false := beq_eq_false_iff_ne.mpr c3
  have c3b1 : ((l0.length : Int) != (l1.length : Int)) = true := bne_iff_ne.mpr c3
  have c3b2 : (l0.length == l1.length) = false := by first | simpa using c3 | (simp at c3 ⊢; omega)
  obtain rfl := Option.some.inj H
  go_enter Try.func24, Try.ntmps24
  go_wp2
  go_ret
  exact ⟨by first | rfl | (simp; done) | (simp [*]; done), by repeat (first | exact Drawn0.refl _ | apply Drawn0.step)⟩
 rw [if_pos c3] at H
 have c3b0 : ((l0.length : Int) == (l1.length : Int)) = true := beq_iff_eq.mpr c3
 have c3b1 : ((l0.length : Int) != (l1.length : Int)) = false := bne_eq_false_iff_eq.mpr c3
 have c3b2 : (l0.length == l1.length) = true := by first | simpa using c3 | (simp at c3 ⊢; omega)
 clear c3
 have H' := aK H
 clear H
 go_enter Try.func24, Try.ntmps24
 go_wp2
 go_loopg [5] k (fun kq v5 w' => ∃ (x5_1 : Int), v5 = .int .i64 x5_1 ∧ Aside0 (laws_vInts.l0 kq l0 l1 x5_1 = some r) ∧ Aside0 (kq ≤ k) ∧ Drawn0 w w')
 case atStart => exact ⟨(0), (by first | rfl | (simp; done) | (simp [*]; done)), H', ⟨Nat.le_refl _⟩, by repeat (first | exact Drawn0.refl _ | apply Drawn0.step)⟩
 case round =>
 clear H'
 clear c3b0 c3b1 c3b2
 obtain ⟨x5_1, rfl, HA, HK1, ⟨m1, rfl⟩⟩ := hrel
 cases gk with
 | zero => exact absurd HA.out (by simp [laws_vInts.l0])
 | succ k1 =>
 have H := HA.out
 clear HA
 simp only [laws_vInts.l0] at H
 by_cases c4 : x5_1 < (l0.length : Int)
 rotate_left
 ·
  rw [if_neg c4] at H
  have c4b0 : decide (x5_1 < (l0.length : Int)) = false := decide_eq_false c4
  clear c4
  obtain rfl := Option.some.inj H
  go_wp2
  go_ret
  exact ⟨by first | rfl | (simp; done) | (simp [*]; done), by repeat (first | exact Drawn0.refl _ | apply Drawn0.step)⟩
 rw [if_pos c4] at H
 have c4b0 : decide (x5_1 < (l0.length : Int)) = true := decide_eq_true c4
 clear c4
 by_cases c5 : 0 ≤ x5_1
 rotate_left
 ·
  rw [if_neg c5] at H
  exact absurd H (by simp)
 rw [if_pos c5] at H
 have c5b0 : decide (0 ≤ x5_1) = true := decide_eq_true c5
 clear c5
 by_cases c6 : x5_1 < (l1.length : Int)
 rotate_left
 ·
  rw [if_neg c6] at H
  exact absurd H (by simp)
 rw [if_pos c6] at H
 have c6b0 : decide (x5_1 < (l1.length : Int)) = true := decide_eq_true c6
 clear c6
 by_cases c7 : (rd l0 x5_1) = (rd l1 x5_1)
 ·
  rw [if_pos c7] at H
  have c7b0 : ((rd l0 x5_1) == (rd l1 x5_1)) = true := beq_iff_eq.mpr c7
  have c7b1 : ((rd l0 x5_1) != (rd l1 x5_1)) = false := bne_eq_false_iff_eq.mpr c7
  clear c7; have H' := aK H; clear H
  have p101 : 0 ≤ (x5_1 : Int) := dA
  have q101 : x5_1 < (l0.length : Int) := dA
  obtain ⟨ad101, e101, hx101_0⟩ := Kd.at_int HR0.out x5_1 p101 q101; cases e101; replace p101 := eq_true p101; replace q101 := eq_true q101
  have p102 : 0 ≤ (x5_1 : Int) := dA
  have q102 : x5_1 < (l1.length : Int) := dA
  obtain ⟨ad102, e102, hx102_0⟩ := Kd.at_int HR1.out x5_1 p102 q102; cases e102; replace p102 := eq_true p102; replace q102 := eq_true q102
  go_wp2
  repeat (go_quiet (fail); try go_wp2)
  go_roundg k1
  case measure => have := HK1.out; omega
  case rel => exact ⟨(wrap64 (x5_1 + 1)), (by first | rfl | (simp; done) | (simp [*]; done)), H', ⟨by have := HK1.out; omega⟩, by repeat (first | exact Drawn0.refl _ | apply Drawn0.step)⟩
 rw [if_neg c7] at H
 have c7b0 : ((rd l0 x5_1) == (rd l1 x5_1)) = false := beq_eq_false_iff_ne.mpr c7
 have c7b1 : ((rd l0 x5_1) != (rd l1 x5_1)) = true := bne_iff_ne.mpr c7
 obtain rfl := Option.some.inj H
 have p101 : 0 ≤ (x5_1 : Int) := dA
 have q101 : x5_1 < (l0.length : Int) := dA
 obtain ⟨ad101, e101, hx101_0⟩ := Kd.at_int HR0.out x5_1 p101 q101
 cases e101
 replace p101 := eq_true p101
 replace q101 := eq_true q101
 have p102 : 0 ≤ (x5_1 : Int) := dA
 have q102 : x5_1 < (l1.length : Int) := dA
 obtain ⟨ad102, e102, hx102_0⟩ := Kd.at_int HR1.out x5_1 p102 q102
 cases e102
 replace p102 := eq_true p102
 replace q102 := eq_true q102
 go_wp2
 repeat (go_quiet (fail); try go_wp2)
 go_ret
 exact ⟨by first | rfl | (simp; done) | (simp [*]; done), by repeat (first | exact Drawn0.refl _ | apply Drawn0.step)⟩
def laws_vField.f (k : Nat) (a0_0 : Int) (a0_1 : Int) (l0_2 : List Int) (a1_0 : Int) (a1_1 : Int) (l1_2 : List Int) : Option (Bool) := if a0_0 = a1_0 then (if a0_1 = a1_1 then ((laws_vInts.f k l0_2 l1_2).bind fun t103 => (some t103)) else (some false)) else (some false)
theorem laws_vField.calls (k : Nat) (a0_0 : Int) (a0_1 : Int) (A0_2 : Option Addr) (c0_2 : Nat) (l0_2 : List Int) (a1_0 : Int) (a1_1 : Int) (A1_2 : Option Addr) (c1_2 : Nat) (l1_2 : List Int) (r : Bool) (w : World) (hr0_2 : Kd.C (Kd.int .i64) w A0_2 l0_2.length l0_2) (hc0_2 : l0_2.length ≤ c0_2) (hr1_2 : Kd.C (Kd.int .i64) w A1_2 l1_2.length l1_2) (hc1_2 : l1_2.length ≤ c1_2) (h : laws_vField.f k a0_0 a0_1 l0_2 a1_0 a1_1 l1_2 = some r) :
  Calls Try.prog 8 #[.agg #[.int .i64 a0_0, .int .i64 a0_1, .slice A0_2 l0_2.length c0_2], .agg #[.int .i64 a1_0, .int .i64 a1_1, .slice A1_2 l1_2.length c1_2]] w fun e w' => e = .returned (.bool r) ∧ Below w.heap.size w w' := by
 have hu26 := Try.underlying26
 have HR0_2 := aK hr0_2
 have HC0_2 := aK hc0_2
 clear hr0_2 hc0_2
 have HR1_2 := aK hr1_2
 have HC1_2 := aK hc1_2
 clear hr1_2 hc1_2
 have HB := aK (Below.refl w.heap.size w)
 have H : (if a0_0 = a1_0 then (if a0_1 = a1_1 then ((laws_vInts.f k l0_2 l1_2).bind fun t103 => (some t103)) else (some false)) else (some false)) = some r := h
 clear h
 by_cases c3 : a0_0 = a1_0
 rotate_left
 ·
  rw [if_neg c3] at H
  have c3b0 : (a0_0 == a1_0) = false := beq_eq_false_iff_ne.mpr c3
  have c3b1 : (a0_0 != a1_0) = true := bne_iff_ne.mpr c3
  obtain rfl := Option.some.inj H
  go_enter Try.func8, Try.ntmps8
  go_wp2_with (first | ((with_reducible refine ga 2 rfl ?_); refine bxa #[.int .i64 a0_0, .int .i64 a0_1, .slice A0_2 l0_2.length c0_2] 26 ?_; intro g101 hg w16 B101 hb; have GW101 := gA hg HB; replace HB := bS HB hb; clear hb hg) | ((with_reducible refine ga 3 rfl ?_); refine bxa #[.int .i64 a1_0, .int .i64 a1_1, .slice A1_2 l1_2.length c1_2] 26 ?_; intro g102 hg w17 B102 hb; have GW102 := gA hg HB; obtain ⟨N101_102, N102_101⟩ := na hg B101; replace B101 := bB B101 hb; replace HB := bS HB hb; clear hb hg; obtain ⟨_, _⟩ := nB N101_102; obtain ⟨_, _, _, _, _, _⟩ := bc3 B101.out; obtain ⟨_, _, _, _, _, _⟩ := bc3 B102.out))
  go_ret
  exact ⟨er, pT HB.out⟩
 rw [if_pos c3] at H
 have c3b0 : (a0_0 == a1_0) = true := beq_iff_eq.mpr c3
 have c3b1 : (a0_0 != a1_0) = false := bne_eq_false_iff_eq.mpr c3
 clear c3
 by_cases c4 : a0_1 = a1_1
 ·
  rw [if_pos c4] at H
  have c4b0 : (a0_1 == a1_1) = true := beq_iff_eq.mpr c4
  have c4b1 : (a0_1 != a1_1) = false := bne_eq_false_iff_eq.mpr c4
  clear c4; replace H := oA H; obtain ⟨t103, A5, H⟩ := H
  replace H : (some t103) = some r := H
  obtain rfl := Option.some.inj H
  go_enter Try.func8, Try.ntmps8
  go_wp2_with (first | ((with_reducible refine ga 2 rfl ?_); refine bxa #[.int .i64 a0_0, .int .i64 a0_1, .slice A0_2 l0_2.length c0_2] 26 ?_; intro g101 hg w6 B101 hb; have GW101 := gA hg HB; replace HB := bS HB hb; clear hb hg) | ((with_reducible refine ga 3 rfl ?_); refine bxa #[.int .i64 a1_0, .int .i64 a1_1, .slice A1_2 l1_2.length c1_2] 26 ?_; intro g102 hg w7 B102 hb; have GW102 := gA hg HB; obtain ⟨N101_102, N102_101⟩ := na hg B101; replace B101 := bB B101 hb; replace HB := bS HB hb; clear hb hg; obtain ⟨_, _⟩ := nB N101_102; obtain ⟨_, _, _, _, _, _⟩ := bc3 B101.out; obtain ⟨_, _, _, _, _, _⟩ := bc3 B102.out) | (go_at_call 24; (with_reducible refine (laws_vInts.calls k _ _ l0_2 _ _ l1_2 t103 _ ?side1 ?side2 ?side3 ?side4 A5.out).mono ?_); (case side1 => exact cB HR0_2 HB); (case side2 => exact HC0_2.out); (case side3 => exact cB HR1_2 HB); (case side4 => exact HC1_2.out); rintro e w' ⟨rfl, ⟨nd, rfl⟩⟩))
  go_ret
  exact ⟨er, pT HB.out⟩
 rw [if_neg c4] at H
 have c4b0 : (a0_1 == a1_1) = false := beq_eq_false_iff_ne.mpr c4
 have c4b1 : (a0_1 != a1_1) = true := bne_iff_ne.mpr c4
 obtain rfl := Option.some.inj H
 go_enter Try.func8, Try.ntmps8
 go_wp2_with (first | ((with_reducible refine ga 2 rfl ?_); refine bxa #[.int .i64 a0_0, .int .i64 a0_1, .slice A0_2 l0_2.length c0_2] 26 ?_; intro g101 hg w11 B101 hb; have GW101 := gA hg HB; replace HB := bS HB hb; clear hb hg) | ((with_reducible refine ga 3 rfl ?_); refine bxa #[.int .i64 a1_0, .int .i64 a1_1, .slice A1_2 l1_2.length c1_2] 26 ?_; intro g102 hg w12 B102 hb; have GW102 := gA hg HB; obtain ⟨N101_102, N102_101⟩ := na hg B101; replace B101 := bB B101 hb; replace HB := bS HB hb; clear hb hg; obtain ⟨_, _⟩ := nB N101_102; obtain ⟨_, _, _, _, _, _⟩ := bc3 B101.out; obtain ⟨_, _, _, _, _, _⟩ := bc3 B102.out))
 go_ret
 exact ⟨er, pT HB.out⟩
def impl_MatchOf.f (k : Nat) (a0_0 : Int) (a0_1 : Int) (l0_2 : List Int) (a1_0 : Int) (a1_1 : Int) (l1_2 : List Int) (a2_0 : Int) (a2_1 : Int) : Option (Int × Int × Bool) := (impl_areAlike.f k (([(⟨a0_0, a0_1, l0_2⟩ : S26), (⟨a1_0, a1_1, l1_2⟩ : S26)] : List (S26)))).bind fun t107 => (if t107 = true then ((impl_isMotion.f a2_0 a2_1).bind fun t108 => (if t108 = true then ((impl_matchOf.f k a0_0 a0_1 l0_2 a1_0 a1_1 l1_2 a2_0 a2_1).bind fun bt109 => (some (bt109.1, bt109.2, true))) else (some (0, 0, false)))) else (some (0, 0, false)))
theorem impl_MatchOf.calls (k : Nat) (a0_0 : Int) (a0_1 : Int) (P0_2_ : Nat → Prop) (A0_2 : Option Addr) (c0_2 : Nat) (l0_2 : List Int) (a1_0 : Int) (a1_1 : Int) (P1_2_ : Nat → Prop) (A1_2 : Option Addr) (c1_2 : Nat) (l1_2 : List Int) (a2_0 : Int) (a2_1 : Int) (r1 : Int) (r2 : Int) (r3 : Bool) (w : World) (hs0_2 : Kd.V (Kd.int .i64) 3 w w.heap.size (fun k_ => P0_2_ k_) (.slice A0_2 l0_2.length c0_2) l0_2) (hs1_2 : Kd.V (Kd.int .i64) 3 w w.heap.size (fun k_ => P1_2_ k_) (.slice A1_2 l1_2.length c1_2) l1_2) (h : impl_MatchOf.f k a0_0 a0_1 l0_2 a1_0 a1_1 l1_2 a2_0 a2_1 = some (r1, r2, r3)) :
  Calls Try.prog 9 #[.agg #[.int .i64 a0_0, .int .i64 a0_1, .slice A0_2 l0_2.length c0_2], .agg #[.int .i64 a1_0, .int .i64 a1_1, .slice A1_2 l1_2.length c1_2], .agg #[.int .i64 a2_0, .int .i64 a2_1]] w fun e w' => e = .returned (.tuple #[.int .i64 r1, .int .i64 r2, .bool r3]) ∧ Below w.heap.size w w' := by
 have hu26 := Try.underlying26
 have hu28 := Try.underlying28
 have HO0_2 := aK (show Kd.V (Kd.int .i64) 3 w w.heap.size (fun k_ => ((P0_2_ k_ ∨ P1_2_ k_) ∨ w.heap.size ≤ k_)) (.slice A0_2 l0_2.length c0_2) l0_2 from Kd.V_mono hs0_2 (fun k_ hk => .inl (.inl hk)))
 have HO1_2 := aK (show Kd.V (Kd.int .i64) 3 w w.heap.size (fun k_ => ((P0_2_ k_ ∨ P1_2_ k_) ∨ w.heap.size ≤ k_)) (.slice A1_2 l1_2.length c1_2) l1_2 from Kd.V_mono hs1_2 (fun k_ hk => .inl (.inr hk)))
 have HB := aK (Below.refl w.heap.size w)
 have H : ((impl_areAlike.f k (([(⟨a0_0, a0_1, l0_2⟩ : S26), (⟨a1_0, a1_1, l1_2⟩ : S26)] : List (S26)))).bind fun t107 => (if t107 = true then ((impl_isMotion.f a2_0 a2_1).bind fun t108 => (if t108 = true then ((impl_matchOf.f k a0_0 a0_1 l0_2 a1_0 a1_1 l1_2 a2_0 a2_1).bind fun bt109 => (some (bt109.1, bt109.2, true))) else (some (0, 0, false)))) else (some (0, 0, false)))) = some (r1, r2, r3) := h
 clear h
 obtain ⟨y104, hy104⟩ : ∃ y_ : List (S26), y_ = (([(⟨a0_0, a0_1, l0_2⟩ : S26), (⟨a1_0, a1_1, l1_2⟩ : S26)] : List (S26))) := ⟨_, rfl⟩
 replace H : ((impl_areAlike.f k y104).bind fun t107 => (if t107 = true then ((impl_isMotion.f a2_0 a2_1).bind fun t108 => (if t108 = true then ((impl_matchOf.f k a0_0 a0_1 l0_2 a1_0 a1_1 l1_2 a2_0 a2_1).bind fun bt109 => (some (bt109.1, bt109.2, true))) else (some (0, 0, false)))) else (some (0, 0, false)))) = some (r1, r2, r3) := by first | (rw [hy104]; first | with_reducible exact H | with_reducible exact (oS H :)) | with_reducible exact (oS H :) | with_reducible exact H | exact H
 have Ny104 := aK hy104
 clear hy104
 replace H := oA H
 obtain ⟨t107, A4, H⟩ := H
 replace H : (if t107 = true then ((impl_isMotion.f a2_0 a2_1).bind fun t108 => (if t108 = true then ((impl_matchOf.f k a0_0 a0_1 l0_2 a1_0 a1_1 l1_2 a2_0 a2_1).bind fun bt109 => (some (bt109.1, bt109.2, true))) else (some (0, 0, false)))) else (some (0, 0, false))) = some (r1, r2, r3) := H
 by_cases c5 : t107 = true
 rotate_left
 ·
  replace c5 := Bool.eq_false_iff.mpr c5; subst c5
  have H1 : (some (0, 0, false)) = some (r1, r2, r3) := by rw [if_neg (show ¬ (false = true) by decide)] at H; exact H
  clear H; have H := H1; clear H1
  simp only [Option.some.injEq, Prod.mk.injEq] at H
  obtain ⟨rfl, rfl, rfl⟩ := H
  go_enter Try.func9, Try.ntmps9
  go_wp2_with (first | ((with_reducible refine ga 3 rfl ?_); refine bxa #[.int .i64 a0_0, .int .i64 a0_1, .slice A0_2 l0_2.length c0_2] 26 ?_; intro g101 hg w41 B101 hb; replace HO0_2 := aK (Kd.V_below (Kd.V_elderB (pW HO0_2.out) g101 (Nat.le_of_eq hg.symm)) hb); replace HO1_2 := aK (Kd.V_below (Kd.V_elderB (pW HO1_2.out) g101 (Nat.le_of_eq hg.symm)) hb); have GW101 := gA hg HB; replace HB := bS HB hb; clear hb hg) | ((with_reducible refine ga 4 rfl ?_); refine bxa #[.int .i64 a1_0, .int .i64 a1_1, .slice A1_2 l1_2.length c1_2] 26 ?_; intro g102 hg w42 B102 hb; replace HO0_2 := aK (Kd.V_below (Kd.V_elderB (pW HO0_2.out) g102 (Nat.le_of_eq hg.symm)) hb); replace HO1_2 := aK (Kd.V_below (Kd.V_elderB (pW HO1_2.out) g102 (Nat.le_of_eq hg.symm)) hb); have GW102 := gA hg HB; obtain ⟨N101_102, N102_101⟩ := na hg B101; replace B101 := bB B101 hb; replace HB := bS HB hb; clear hb hg) | ((with_reducible refine ga 5 rfl ?_); refine bxa #[.int .i64 a2_0, .int .i64 a2_1] 28 ?_; intro g103 hg w43 B103 hb; replace HO0_2 := aK (Kd.V_below (Kd.V_elderB (pW HO0_2.out) g103 (Nat.le_of_eq hg.symm)) hb); replace HO1_2 := aK (Kd.V_below (Kd.V_elderB (pW HO1_2.out) g103 (Nat.le_of_eq hg.symm)) hb); have GW103 := gA hg HB; obtain ⟨N101_103, N103_101⟩ := na hg B101; obtain ⟨N102_103, N103_102⟩ := na hg B102; replace B101 := bB B101 hb; replace B102 := bB B102 hb; replace HB := bS HB hb; clear hb hg; obtain ⟨_, _⟩ := nB N101_102; obtain ⟨_, _⟩ := nB N101_103; obtain ⟨_, _, _, _, _, _⟩ := bc3 B101.out; obtain ⟨_, _⟩ := nB N102_103; obtain ⟨_, _, _, _, _, _⟩ := bc3 B102.out) | ((with_reducible refine ga 13 rfl ?_); refine Kd.N_lit k26 _ 26 ?hg (N' := 13) ?hd (xs := ([(⟨a0_0, a0_1, l0_2⟩ : S26), (⟨a1_0, a1_1, l1_2⟩ : S26)] : List (S26))) (inner := [.int .i64 a0_0, .int .i64 a0_1, .slice A0_2 l0_2.length c0_2, .int .i64 a1_0, .int .i64 a1_1, .slice A1_2 l1_2.length c1_2]) (ok := (fun k_ => ((P0_2_ k_ ∨ P1_2_ k_) ∨ w.heap.size ≤ k_) ∧ k_ ≠ g101 ∧ k_ ≠ g102 ∧ k_ ≠ g103)) (okp := (fun k_ => ((P0_2_ k_ ∨ P1_2_ k_) ∨ w.heap.size ≤ k_) ∧ k_ ≠ g101 ∧ k_ ≠ g102 ∧ k_ ≠ g103)) ?hr ?hp (fun _ hk => hk) ((show ∀ k_, w43.heap.size ≤ k_ → (fun k_ => ((P0_2_ k_ ∨ P1_2_ k_) ∨ w.heap.size ≤ k_) ∧ k_ ≠ g101 ∧ k_ ≠ g102 ∧ k_ ≠ g103) k_ from fun k_ hk => ⟨(.inr (Nat.le_trans (below_size (pS HB.out)) hk)), Kd.freshB (g := g101) (o := .cells #[.int .i64 a0_0, .int .i64 a0_1, .slice A0_2 l0_2.length c0_2] 26 (0, 0)) (pB B101.out) k_ hk, Kd.freshB (g := g102) (o := .cells #[.int .i64 a1_0, .int .i64 a1_1, .slice A1_2 l1_2.length c1_2] 26 (0, 0)) (pB B102.out) k_ hk, Kd.freshB (g := g103) (o := .cells #[.int .i64 a2_0, .int .i64 a2_1] 28 (0, 0)) (pB B103.out) k_ hk⟩) _ (Nat.le_refl _)) (Below.refl _ _) (Nat.le_refl _) (by simp) ?_; (case hd => rfl); (case hg => rfl); (case hr => first | (go_simp; done) | (go_simp; rfl)); (case hp => exact (Reps.c3 (show Kd.FK k26 _ _ (⟨a0_0, a0_1, l0_2⟩ : S26) [.int .i64 a0_0, .int .i64 a0_1, .slice A0_2 l0_2.length c0_2] from (k26_mkF _ _ (⟨a0_0, a0_1, l0_2⟩ : S26) (Kd.V_reads' (Kd.V_mono (ok' := (fun k_ => ((P0_2_ k_ ∨ P1_2_ k_) ∨ w.heap.size ≤ k_) ∧ k_ ≠ g101 ∧ k_ ≠ g102 ∧ k_ ≠ g103)) (HO0_2.out) (fun k_ hk => ⟨hk.1.1.1, ⟨hk.1.1.2, ⟨hk.1.2, hk.2⟩⟩⟩))).2.1 (Kd.V_F (Kd.V_mono (ok' := (fun k_ => ((P0_2_ k_ ∨ P1_2_ k_) ∨ w.heap.size ≤ k_) ∧ k_ ≠ g101 ∧ k_ ≠ g102 ∧ k_ ≠ g103)) (HO0_2.out) (fun k_ hk => ⟨hk.1.1.1, ⟨hk.1.1.2, ⟨hk.1.2, hk.2⟩⟩⟩))))) (Reps.c3 (show Kd.FK k26 _ _ (⟨a1_0, a1_1, l1_2⟩ : S26) [.int .i64 a1_0, .int .i64 a1_1, .slice A1_2 l1_2.length c1_2] from (k26_mkF _ _ (⟨a1_0, a1_1, l1_2⟩ : S26) (Kd.V_reads' (Kd.V_mono (ok' := (fun k_ => ((P0_2_ k_ ∨ P1_2_ k_) ∨ w.heap.size ≤ k_) ∧ k_ ≠ g101 ∧ k_ ≠ g102 ∧ k_ ≠ g103)) (HO1_2.out) (fun k_ hk => ⟨hk.1.1.1, ⟨hk.1.1.2, ⟨hk.1.2, hk.2⟩⟩⟩))).2.1 (Kd.V_F (Kd.V_mono (ok' := (fun k_ => ((P0_2_ k_ ∨ P1_2_ k_) ∨ w.heap.size ≤ k_) ∧ k_ ≠ g101 ∧ k_ ≠ g102 ∧ k_ ≠ g103)) (HO1_2.out) (fun k_ hk => ⟨hk.1.1.1, ⟨hk.1.1.2, ⟨hk.1.2, hk.2⟩⟩⟩))))) (Reps.none _ _)))); intro v105 w49 ho50 hb hg_ hnew_; clear hg_ hnew_; (first | rw [← Ny104.out] at ho50 | (simp only [Int.reduceToNat] at ho50; rw [← Ny104.out] at ho50)); replace HO0_2 := aK (Kd.V_elder' (pW HO0_2.out) (Kd.N_base ho50) hb); replace HO1_2 := aK (Kd.V_elder' (pW HO1_2.out) (Kd.N_base ho50) hb); have HO106 := aK (Kd.N_lower ho50 (below_size (pS HB.out))); replace B101 := bB B101 hb; replace B102 := bB B102 hb; replace B103 := bB B103 hb; replace HB := bS HB hb; clear hb ho50; obtain ⟨Ao51, co51, eo51⟩ := Kd.N_slice HO106.out; subst eo51) | ((with_reducible refine gc 25 rfl ?_); refine gl (some 14) Try.func25 #[.slice Ao51 y104.length co51] ?_; (with_reducible refine (impl_areAlike.calls k _ _ y104 false _ ?side1 ?side2 A4.out).mono ?_); (case side1 => exact pC (Kd.N_reads' HO106.out).2.2); (case side2 => exact (Kd.N_reads' HO106.out).2.1); rintro e w52 ⟨rfl, hb⟩; refine ⟨_, rfl, ?_⟩; replace HO0_2 := vb HO0_2 hb; replace HO1_2 := vb HO1_2 hb; replace HO106 := aK (Kd.N_below (by (with_reducible repeat (first | apply Kd.N_alloc | apply Kd.N_drewN | apply Kd.N_drew)); exact HO106.out) hb); replace B101 := bB B101 hb; replace B102 := bB B102 hb; replace B103 := bB B103 hb; replace HB := bS HB hb; (try clear hb)))
  go_ret3
  exact ⟨er, pT HB.out⟩
 subst c5
 have H1 : ((impl_isMotion.f a2_0 a2_1).bind fun t108 => (if t108 = true then ((impl_matchOf.f k a0_0 a0_1 l0_2 a1_0 a1_1 l1_2 a2_0 a2_1).bind fun bt109 => (some (bt109.1, bt109.2, true))) else (some (0, 0, false)))) = some (r1, r2, r3) := by rw [if_pos rfl] at H; exact H
 clear H
 have H := H1
 clear H1
 replace H := oA H
 obtain ⟨t108, A6, H⟩ := H
 replace H : (if t108 = true then ((impl_matchOf.f k a0_0 a0_1 l0_2 a1_0 a1_1 l1_2 a2_0 a2_1).bind fun bt109 => (some (bt109.1, bt109.2, true))) else (some (0, 0, false))) = some (r1, r2, r3) := H
 by_cases c7 : t108 = true
 ·
  subst c7
  have H1 : ((impl_matchOf.f k a0_0 a0_1 l0_2 a1_0 a1_1 l1_2 a2_0 a2_1).bind fun bt109 => (some (bt109.1, bt109.2, true))) = some (r1, r2, r3) := by rw [if_pos rfl] at H; exact H
  clear H; have H := H1; clear H1; replace H := oA H
  obtain ⟨⟨t109, t110⟩, A8, H⟩ := H
  replace H : (some (t109, t110, true)) = some (r1, r2, r3) := H
  simp only [Option.some.injEq, Prod.mk.injEq] at H
  obtain ⟨rfl, rfl, rfl⟩ := H
  go_enter Try.func9, Try.ntmps9
  go_wp2_with (first | ((with_reducible refine ga 3 rfl ?_); refine bxa #[.int .i64 a0_0, .int .i64 a0_1, .slice A0_2 l0_2.length c0_2] 26 ?_; intro g101 hg w9 B101 hb; replace HO0_2 := aK (Kd.V_below (Kd.V_elderB (pW HO0_2.out) g101 (Nat.le_of_eq hg.symm)) hb); replace HO1_2 := aK (Kd.V_below (Kd.V_elderB (pW HO1_2.out) g101 (Nat.le_of_eq hg.symm)) hb); have GW101 := gA hg HB; replace HB := bS HB hb; clear hb hg) | ((with_reducible refine ga 4 rfl ?_); refine bxa #[.int .i64 a1_0, .int .i64 a1_1, .slice A1_2 l1_2.length c1_2] 26 ?_; intro g102 hg w10 B102 hb; replace HO0_2 := aK (Kd.V_below (Kd.V_elderB (pW HO0_2.out) g102 (Nat.le_of_eq hg.symm)) hb); replace HO1_2 := aK (Kd.V_below (Kd.V_elderB (pW HO1_2.out) g102 (Nat.le_of_eq hg.symm)) hb); have GW102 := gA hg HB; obtain ⟨N101_102, N102_101⟩ := na hg B101; replace B101 := bB B101 hb; replace HB := bS HB hb; clear hb hg) | ((with_reducible refine ga 5 rfl ?_); refine bxa #[.int .i64 a2_0, .int .i64 a2_1] 28 ?_; intro g103 hg w11 B103 hb; replace HO0_2 := aK (Kd.V_below (Kd.V_elderB (pW HO0_2.out) g103 (Nat.le_of_eq hg.symm)) hb); replace HO1_2 := aK (Kd.V_below (Kd.V_elderB (pW HO1_2.out) g103 (Nat.le_of_eq hg.symm)) hb); have GW103 := gA hg HB; obtain ⟨N101_103, N103_101⟩ := na hg B101; obtain ⟨N102_103, N103_102⟩ := na hg B102; replace B101 := bB B101 hb; replace B102 := bB B102 hb; replace HB := bS HB hb; clear hb hg; obtain ⟨_, _⟩ := nB N101_102; obtain ⟨_, _⟩ := nB N101_103; obtain ⟨_, _, _, _, _, _⟩ := bc3 B101.out; obtain ⟨_, _⟩ := nB N102_103; obtain ⟨_, _, _, _, _, _⟩ := bc3 B102.out) | ((with_reducible refine ga 13 rfl ?_); refine Kd.N_lit k26 _ 26 ?hg (N' := 13) ?hd (xs := ([(⟨a0_0, a0_1, l0_2⟩ : S26), (⟨a1_0, a1_1, l1_2⟩ : S26)] : List (S26))) (inner := [.int .i64 a0_0, .int .i64 a0_1, .slice A0_2 l0_2.length c0_2, .int .i64 a1_0, .int .i64 a1_1, .slice A1_2 l1_2.length c1_2]) (ok := (fun k_ => ((P0_2_ k_ ∨ P1_2_ k_) ∨ w.heap.size ≤ k_) ∧ k_ ≠ g101 ∧ k_ ≠ g102 ∧ k_ ≠ g103)) (okp := (fun k_ => ((P0_2_ k_ ∨ P1_2_ k_) ∨ w.heap.size ≤ k_) ∧ k_ ≠ g101 ∧ k_ ≠ g102 ∧ k_ ≠ g103)) ?hr ?hp (fun _ hk => hk) ((show ∀ k_, w11.heap.size ≤ k_ → (fun k_ => ((P0_2_ k_ ∨ P1_2_ k_) ∨ w.heap.size ≤ k_) ∧ k_ ≠ g101 ∧ k_ ≠ g102 ∧ k_ ≠ g103) k_ from fun k_ hk => ⟨(.inr (Nat.le_trans (below_size (pS HB.out)) hk)), Kd.freshB (g := g101) (o := .cells #[.int .i64 a0_0, .int .i64 a0_1, .slice A0_2 l0_2.length c0_2] 26 (0, 0)) (pB B101.out) k_ hk, Kd.freshB (g := g102) (o := .cells #[.int .i64 a1_0, .int .i64 a1_1, .slice A1_2 l1_2.length c1_2] 26 (0, 0)) (pB B102.out) k_ hk, Kd.freshB (g := g103) (o := .cells #[.int .i64 a2_0, .int .i64 a2_1] 28 (0, 0)) (pB B103.out) k_ hk⟩) _ (Nat.le_refl _)) (Below.refl _ _) (Nat.le_refl _) (by simp) ?_; (case hd => rfl); (case hg => rfl); (case hr => first | (go_simp; done) | (go_simp; rfl)); (case hp => exact (Reps.c3 (show Kd.FK k26 _ _ (⟨a0_0, a0_1, l0_2⟩ : S26) [.int .i64 a0_0, .int .i64 a0_1, .slice A0_2 l0_2.length c0_2] from (k26_mkF _ _ (⟨a0_0, a0_1, l0_2⟩ : S26) (Kd.V_reads' (Kd.V_mono (ok' := (fun k_ => ((P0_2_ k_ ∨ P1_2_ k_) ∨ w.heap.size ≤ k_) ∧ k_ ≠ g101 ∧ k_ ≠ g102 ∧ k_ ≠ g103)) (HO0_2.out) (fun k_ hk => ⟨hk.1.1.1, ⟨hk.1.1.2, ⟨hk.1.2, hk.2⟩⟩⟩))).2.1 (Kd.V_F (Kd.V_mono (ok' := (fun k_ => ((P0_2_ k_ ∨ P1_2_ k_) ∨ w.heap.size ≤ k_) ∧ k_ ≠ g101 ∧ k_ ≠ g102 ∧ k_ ≠ g103)) (HO0_2.out) (fun k_ hk => ⟨hk.1.1.1, ⟨hk.1.1.2, ⟨hk.1.2, hk.2⟩⟩⟩))))) (Reps.c3 (show Kd.FK k26 _ _ (⟨a1_0, a1_1, l1_2⟩ : S26) [.int .i64 a1_0, .int .i64 a1_1, .slice A1_2 l1_2.length c1_2] from (k26_mkF _ _ (⟨a1_0, a1_1, l1_2⟩ : S26) (Kd.V_reads' (Kd.V_mono (ok' := (fun k_ => ((P0_2_ k_ ∨ P1_2_ k_) ∨ w.heap.size ≤ k_) ∧ k_ ≠ g101 ∧ k_ ≠ g102 ∧ k_ ≠ g103)) (HO1_2.out) (fun k_ hk => ⟨hk.1.1.1, ⟨hk.1.1.2, ⟨hk.1.2, hk.2⟩⟩⟩))).2.1 (Kd.V_F (Kd.V_mono (ok' := (fun k_ => ((P0_2_ k_ ∨ P1_2_ k_) ∨ w.heap.size ≤ k_) ∧ k_ ≠ g101 ∧ k_ ≠ g102 ∧ k_ ≠ g103)) (HO1_2.out) (fun k_ hk => ⟨hk.1.1.1, ⟨hk.1.1.2, ⟨hk.1.2, hk.2⟩⟩⟩))))) (Reps.none _ _)))); intro v105 w17 ho18 hb hg_ hnew_; clear hg_ hnew_; (first | rw [← Ny104.out] at ho18 | (simp only [Int.reduceToNat] at ho18; rw [← Ny104.out] at ho18)); replace HO0_2 := aK (Kd.V_elder' (pW HO0_2.out) (Kd.N_base ho18) hb); replace HO1_2 := aK (Kd.V_elder' (pW HO1_2.out) (Kd.N_base ho18) hb); have HO106 := aK (Kd.N_lower ho18 (below_size (pS HB.out))); replace B101 := bB B101 hb; replace B102 := bB B102 hb; replace B103 := bB B103 hb; replace HB := bS HB hb; clear hb ho18; obtain ⟨Ao19, co19, eo19⟩ := Kd.N_slice HO106.out; subst eo19) | ((with_reducible refine gc 25 rfl ?_); refine gl (some 14) Try.func25 #[.slice Ao19 y104.length co19] ?_; (with_reducible refine (impl_areAlike.calls k _ _ y104 true _ ?side1 ?side2 A4.out).mono ?_); (case side1 => exact pC (Kd.N_reads' HO106.out).2.2); (case side2 => exact (Kd.N_reads' HO106.out).2.1); rintro e w20 ⟨rfl, hb⟩; refine ⟨_, rfl, ?_⟩; replace HO0_2 := vb HO0_2 hb; replace HO1_2 := vb HO1_2 hb; replace HO106 := aK (Kd.N_below (by (with_reducible repeat (first | apply Kd.N_alloc | apply Kd.N_drewN | apply Kd.N_drew)); exact HO106.out) hb); replace B101 := bB B101 hb; replace B102 := bB B102 hb; replace B103 := bB B103 hb; replace HB := bS HB hb; (try clear hb); obtain ⟨_, _, _, _⟩ := bc2 B103.out) | (go_at_call 19; (with_reducible refine (impl_isMotion.calls a2_0 a2_1 true _ A6.out).mono ?_); rintro e w22 ⟨rfl, hb⟩; replace HO0_2 := vb HO0_2 hb; replace HO1_2 := vb HO1_2 hb; replace HO106 := aK (Kd.N_below (by (with_reducible repeat (first | apply Kd.N_alloc | apply Kd.N_drewN | apply Kd.N_drew)); exact HO106.out) hb); replace B101 := bB B101 hb; replace B102 := bB B102 hb; replace B103 := bB B103 hb; replace HB := bS HB hb; (try clear hb); obtain ⟨_, _, _, _, _, _⟩ := bc3 B101.out; obtain ⟨_, _, _, _, _, _⟩ := bc3 B102.out; obtain ⟨_, _, _, _⟩ := bc2 B103.out) | ((with_reducible refine gc 26 rfl ?_); refine gl (some 25) Try.func26 #[.agg #[.int .i64 a0_0, .int .i64 a0_1, .slice A0_2 l0_2.length c0_2], .agg #[.int .i64 a1_0, .int .i64 a1_1, .slice A1_2 l1_2.length c1_2], .agg #[.int .i64 a2_0, .int .i64 a2_1]] ?_; (with_reducible refine (impl_matchOf.calls k a0_0 a0_1 _ _ l0_2 a1_0 a1_1 _ _ l1_2 a2_0 a2_1 t109 t110 _ ?side1 ?side2 ?side3 ?side4 A8.out).mono ?_); (case side1 => exact pC (Kd.V_reads' HO0_2.out).2.2); (case side2 => exact (Kd.V_reads' HO0_2.out).2.1); (case side3 => exact pC (Kd.V_reads' HO1_2.out).2.2); (case side4 => exact (Kd.V_reads' HO1_2.out).2.1); rintro e w26 ⟨rfl, hb⟩; refine ⟨_, rfl, ?_⟩; replace HO0_2 := vb HO0_2 hb; replace HO1_2 := vb HO1_2 hb; replace HO106 := aK (Kd.N_below (by (with_reducible repeat (first | apply Kd.N_alloc | apply Kd.N_drewN | apply Kd.N_drew)); exact HO106.out) hb); replace B101 := bB B101 hb; replace B102 := bB B102 hb; replace B103 := bB B103 hb; replace HB := bS HB hb; (try clear hb)))
  go_ret3
  exact ⟨er, pT HB.out⟩
 replace c7 := Bool.eq_false_iff.mpr c7
 subst c7
 have H1 : (some (0, 0, false)) = some (r1, r2, r3) := by rw [if_neg (show ¬ (false = true) by decide)] at H; exact H
 clear H
 have H := H1
 clear H1
 simp only [Option.some.injEq, Prod.mk.injEq] at H
 obtain ⟨rfl, rfl, rfl⟩ := H
 go_enter Try.func9, Try.ntmps9
 go_wp2_with (first | ((with_reducible refine ga 3 rfl ?_); refine bxa #[.int .i64 a0_0, .int .i64 a0_1, .slice A0_2 l0_2.length c0_2] 26 ?_; intro g101 hg w27 B101 hb; replace HO0_2 := aK (Kd.V_below (Kd.V_elderB (pW HO0_2.out) g101 (Nat.le_of_eq hg.symm)) hb); replace HO1_2 := aK (Kd.V_below (Kd.V_elderB (pW HO1_2.out) g101 (Nat.le_of_eq hg.symm)) hb); have GW101 := gA hg HB; replace HB := bS HB hb; clear hb hg) | ((with_reducible refine ga 4 rfl ?_); refine bxa #[.int .i64 a1_0, .int .i64 a1_1, .slice A1_2 l1_2.length c1_2] 26 ?_; intro g102 hg w28 B102 hb; replace HO0_2 := aK (Kd.V_below (Kd.V_elderB (pW HO0_2.out) g102 (Nat.le_of_eq hg.symm)) hb); replace HO1_2 := aK (Kd.V_below (Kd.V_elderB (pW HO1_2.out) g102 (Nat.le_of_eq hg.symm)) hb); have GW102 := gA hg HB; obtain ⟨N101_102, N102_101⟩ := na hg B101; replace B101 := bB B101 hb; replace HB := bS HB hb; clear hb hg) | ((with_reducible refine ga 5 rfl ?_); refine bxa #[.int .i64 a2_0, .int .i64 a2_1] 28 ?_; intro g103 hg w29 B103 hb; replace HO0_2 := aK (Kd.V_below (Kd.V_elderB (pW HO0_2.out) g103 (Nat.le_of_eq hg.symm)) hb); replace HO1_2 := aK (Kd.V_below (Kd.V_elderB (pW HO1_2.out) g103 (Nat.le_of_eq hg.symm)) hb); have GW103 := gA hg HB; obtain ⟨N101_103, N103_101⟩ := na hg B101; obtain ⟨N102_103, N103_102⟩ := na hg B102; replace B101 := bB B101 hb; replace B102 := bB B102 hb; replace HB := bS HB hb; clear hb hg; obtain ⟨_, _⟩ := nB N101_102; obtain ⟨_, _⟩ := nB N101_103; obtain ⟨_, _, _, _, _, _⟩ := bc3 B101.out; obtain ⟨_, _⟩ := nB N102_103; obtain ⟨_, _, _, _, _, _⟩ := bc3 B102.out) | ((with_reducible refine ga 13 rfl ?_); refine Kd.N_lit k26 _ 26 ?hg (N' := 13) ?hd (xs := ([(⟨a0_0, a0_1, l0_2⟩ : S26), (⟨a1_0, a1_1, l1_2⟩ : S26)] : List (S26))) (inner := [.int .i64 a0_0, .int .i64 a0_1, .slice A0_2 l0_2.length c0_2, .int .i64 a1_0, .int .i64 a1_1, .slice A1_2 l1_2.length c1_2]) (ok := (fun k_ => ((P0_2_ k_ ∨ P1_2_ k_) ∨ w.heap.size ≤ k_) ∧ k_ ≠ g101 ∧ k_ ≠ g102 ∧ k_ ≠ g103)) (okp := (fun k_ => ((P0_2_ k_ ∨ P1_2_ k_) ∨ w.heap.size ≤ k_) ∧ k_ ≠ g101 ∧ k_ ≠ g102 ∧ k_ ≠ g103)) ?hr ?hp (fun _ hk => hk) ((show ∀ k_, w29.heap.size ≤ k_ → (fun k_ => ((P0_2_ k_ ∨ P1_2_ k_) ∨ w.heap.size ≤ k_) ∧ k_ ≠ g101 ∧ k_ ≠ g102 ∧ k_ ≠ g103) k_ from fun k_ hk => ⟨(.inr (Nat.le_trans (below_size (pS HB.out)) hk)), Kd.freshB (g := g101) (o := .cells #[.int .i64 a0_0, .int .i64 a0_1, .slice A0_2 l0_2.length c0_2] 26 (0, 0)) (pB B101.out) k_ hk, Kd.freshB (g := g102) (o := .cells #[.int .i64 a1_0, .int .i64 a1_1, .slice A1_2 l1_2.length c1_2] 26 (0, 0)) (pB B102.out) k_ hk, Kd.freshB (g := g103) (o := .cells #[.int .i64 a2_0, .int .i64 a2_1] 28 (0, 0)) (pB B103.out) k_ hk⟩) _ (Nat.le_refl _)) (Below.refl _ _) (Nat.le_refl _) (by simp) ?_; (case hd => rfl); (case hg => rfl); (case hr => first | (go_simp; done) | (go_simp; rfl)); (case hp => exact (Reps.c3 (show Kd.FK k26 _ _ (⟨a0_0, a0_1, l0_2⟩ : S26) [.int .i64 a0_0, .int .i64 a0_1, .slice A0_2 l0_2.length c0_2] from (k26_mkF _ _ (⟨a0_0, a0_1, l0_2⟩ : S26) (Kd.V_reads' (Kd.V_mono (ok' := (fun k_ => ((P0_2_ k_ ∨ P1_2_ k_) ∨ w.heap.size ≤ k_) ∧ k_ ≠ g101 ∧ k_ ≠ g102 ∧ k_ ≠ g103)) (HO0_2.out) (fun k_ hk => ⟨hk.1.1.1, ⟨hk.1.1.2, ⟨hk.1.2, hk.2⟩⟩⟩))).2.1 (Kd.V_F (Kd.V_mono (ok' := (fun k_ => ((P0_2_ k_ ∨ P1_2_ k_) ∨ w.heap.size ≤ k_) ∧ k_ ≠ g101 ∧ k_ ≠ g102 ∧ k_ ≠ g103)) (HO0_2.out) (fun k_ hk => ⟨hk.1.1.1, ⟨hk.1.1.2, ⟨hk.1.2, hk.2⟩⟩⟩))))) (Reps.c3 (show Kd.FK k26 _ _ (⟨a1_0, a1_1, l1_2⟩ : S26) [.int .i64 a1_0, .int .i64 a1_1, .slice A1_2 l1_2.length c1_2] from (k26_mkF _ _ (⟨a1_0, a1_1, l1_2⟩ : S26) (Kd.V_reads' (Kd.V_mono (ok' := (fun k_ => ((P0_2_ k_ ∨ P1_2_ k_) ∨ w.heap.size ≤ k_) ∧ k_ ≠ g101 ∧ k_ ≠ g102 ∧ k_ ≠ g103)) (HO1_2.out) (fun k_ hk => ⟨hk.1.1.1, ⟨hk.1.1.2, ⟨hk.1.2, hk.2⟩⟩⟩))).2.1 (Kd.V_F (Kd.V_mono (ok' := (fun k_ => ((P0_2_ k_ ∨ P1_2_ k_) ∨ w.heap.size ≤ k_) ∧ k_ ≠ g101 ∧ k_ ≠ g102 ∧ k_ ≠ g103)) (HO1_2.out) (fun k_ hk => ⟨hk.1.1.1, ⟨hk.1.1.2, ⟨hk.1.2, hk.2⟩⟩⟩))))) (Reps.none _ _)))); intro v105 w35 ho36 hb hg_ hnew_; clear hg_ hnew_; (first | rw [← Ny104.out] at ho36 | (simp only [Int.reduceToNat] at ho36; rw [← Ny104.out] at ho36)); replace HO0_2 := aK (Kd.V_elder' (pW HO0_2.out) (Kd.N_base ho36) hb); replace HO1_2 := aK (Kd.V_elder' (pW HO1_2.out) (Kd.N_base ho36) hb); have HO106 := aK (Kd.N_lower ho36 (below_size (pS HB.out))); replace B101 := bB B101 hb; replace B102 := bB B102 hb; replace B103 := bB B103 hb; replace HB := bS HB hb; clear hb ho36; obtain ⟨Ao37, co37, eo37⟩ := Kd.N_slice HO106.out; subst eo37) | ((with_reducible refine gc 25 rfl ?_); refine gl (some 14) Try.func25 #[.slice Ao37 y104.length co37] ?_; (with_reducible refine (impl_areAlike.calls k _ _ y104 true _ ?side1 ?side2 A4.out).mono ?_); (case side1 => exact pC (Kd.N_reads' HO106.out).2.2); (case side2 => exact (Kd.N_reads' HO106.out).2.1); rintro e w38 ⟨rfl, hb⟩; refine ⟨_, rfl, ?_⟩; replace HO0_2 := vb HO0_2 hb; replace HO1_2 := vb HO1_2 hb; replace HO106 := aK (Kd.N_below (by (with_reducible repeat (first | apply Kd.N_alloc | apply Kd.N_drewN | apply Kd.N_drew)); exact HO106.out) hb); replace B101 := bB B101 hb; replace B102 := bB B102 hb; replace B103 := bB B103 hb; replace HB := bS HB hb; (try clear hb); obtain ⟨_, _, _, _⟩ := bc2 B103.out) | (go_at_call 19; (with_reducible refine (impl_isMotion.calls a2_0 a2_1 false _ A6.out).mono ?_); rintro e w40 ⟨rfl, hb⟩; replace HO0_2 := vb HO0_2 hb; replace HO1_2 := vb HO1_2 hb; replace HO106 := aK (Kd.N_below (by (with_reducible repeat (first | apply Kd.N_alloc | apply Kd.N_drewN | apply Kd.N_drew)); exact HO106.out) hb); replace B101 := bB B101 hb; replace B102 := bB B102 hb; replace B103 := bB B103 hb; replace HB := bS HB hb; (try clear hb)))
 go_ret3
 exact ⟨er, pT HB.out⟩
end Go.Proofs.Ytmekfmhnpinjlaa.P
