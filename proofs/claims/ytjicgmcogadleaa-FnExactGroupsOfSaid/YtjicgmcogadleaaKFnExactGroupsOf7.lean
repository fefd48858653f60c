/- Texts of the claim FnExactGroupsOf, merged: part 7 of 8: the program's and the reference's functions as Lean functions, the walks that show it, and plain lemmas; no conditions. -/
import Derived.Test.YtjicgmcogadleaaKFnExactGroupsOf3
import Derived.Test.YtjicgmcogadleaaKFnExactGroupsOf6
import Derived.Test.YtjicgmcogadleaaKFnExactGroupsOf5
import Derived.Test.YtjicgmcogadleaaKFnExactGroupsOf2
import Derived.ProofKit
import Derived.OpenShut
import Derived.Deep.Slices
import Derived.Deep.Strs
import Derived.Deep.Fields
import Derived.Lib.SmallJoins
import Derived.Test.YtjicgmcogadleaaKFnExactGroupsOf4
namespace Go.Proofs.Ytjicgmcogadleaa.P
open Go.RowKit Go.Proofs.YtjicgmcogadleaaW.PrintWords Go.Proofs.YtjicgmcogadleaaW.PrintLast Go.Proofs.YtjicgmcogadleaaW.PrintMore
attribute [local go_sem] max2_int min2_int max_two min_two max_three min_three max_four min_four
set_option linter.unusedVariables false
set_option linter.unusedSimpArgs false
set_option maxHeartbeats 8000000
set_option maxRecDepth 100000
def laws_eqTally.f (k : Nat) (l0_0 : List Int) (l0_1 : List Int) (l1_0 : List Int) (l1_1 : List Int) : Option (Bool) := (laws_eqIntS.f k l0_0 l1_0).bind fun t103 => (if t103 = true then ((laws_eqIntS.f k l0_1 l1_1).bind fun t104 => (if t104 = true then (some true) else (some false))) else (some false))
theorem laws_eqTally.calls (k : Nat) (A0_0 : Option Addr) (c0_0 : Nat) (l0_0 : List Int) (A0_1 : Option Addr) (c0_1 : Nat) (l0_1 : List Int) (A1_0 : Option Addr) (c1_0 : Nat) (l1_0 : List Int) (A1_1 : Option Addr) (c1_1 : Nat) (l1_1 : List Int) (r : Bool) (w : World) (hr0_0 : Kd.C (Kd.int .i64) w A0_0 l0_0.length l0_0) (hc0_0 : l0_0.length ≤ c0_0) (hr0_1 : Kd.C (Kd.int .i64) w A0_1 l0_1.length l0_1) (hc0_1 : l0_1.length ≤ c0_1) (hr1_0 : Kd.C (Kd.int .i64) w A1_0 l1_0.length l1_0) (hc1_0 : l1_0.length ≤ c1_0) (hr1_1 : Kd.C (Kd.int .i64) w A1_1 l1_1.length l1_1) (hc1_1 : l1_1.length ≤ c1_1) (h : laws_eqTally.f k l0_0 l0_1 l1_0 l1_1 = some r) :
  Calls Try.prog 28 #[.agg #[.slice A0_0 l0_0.length c0_0, .slice A0_1 l0_1.length c0_1], .agg #[.slice A1_0 l1_0.length c1_0, .slice A1_1 l1_1.length c1_1]] w fun e w' => e = .returned (.bool r) ∧ Below w.heap.size w w' := by
 have hu26 := Try.underlying26
 have HR0_0 := Aside0.mk hr0_0
 have HC0_0 := Aside0.mk hc0_0
 clear hr0_0 hc0_0
 have HR0_1 := Aside0.mk hr0_1
 have HC0_1 := Aside0.mk hc0_1
 clear hr0_1 hc0_1
 have HR1_0 := Aside0.mk hr1_0
 have HC1_0 := Aside0.mk hc1_0
 clear hr1_0 hc1_0
 have HR1_1 := Aside0.mk hr1_1
 have HC1_1 := Aside0.mk hc1_1
 clear hr1_1 hc1_1
 have HB := aK (Below.refl w.heap.size w)
 have H : ((laws_eqIntS.f k l0_0 l1_0).bind fun t103 => (if t103 = true then ((laws_eqIntS.f k l0_1 l1_1).bind fun t104 => (if t104 = true then (some true) else (some false))) else (some false))) = some r := h
 clear h
 replace H := Option.bind_eq_some_iff.mp H
 obtain ⟨t103, A30, H⟩ := H
 replace H : (if t103 = true then ((laws_eqIntS.f k l0_1 l1_1).bind fun t104 => (if t104 = true then (some true) else (some false))) else (some false)) = some r := H
 have A3 := Aside0.mk A30
 clear A30
 by_cases c4 : t103 = true
 ·
  subst c4
  have H1 : ((laws_eqIntS.f k l0_1 l1_1).bind fun t104 => (if t104 = true then (some true) else (some false))) = some r := by rw [if_pos rfl] at H; exact H
  clear H
  have H := H1
  clear H1
  replace H := Option.bind_eq_some_iff.mp H
  obtain ⟨t104, A50, H⟩ := H
  replace H : (if t104 = true then (some true) else (some false)) = some r := H
  have A5 := Aside0.mk A50
  clear A50
  by_cases c6 : t104 = true
  ·
   subst c6
   have H1 : (some true) = some r := by rw [if_pos rfl] at H; exact H
   clear H
   have H := H1
   clear H1
   obtain rfl := Option.some.inj H
   go_enter Try.func28, Try.ntmps28
   go_wp2_with (first | ((with_reducible refine gate_dst (N := 2) rfl ?_); refine bxe (cs := #[.slice A0_0 l0_0.length c0_0, .slice A0_1 l0_1.length c0_1]) (t := 26) ?_; intro gb101 hg w7 hbox hb; have BK101 := aK (hbox); have GW101 := aK (gE hg (pS HB.out)); have GE101 := GW101; replace HB := bS HB hb; clear hb hbox hg) | ((with_reducible refine gate_dst (N := 3) rfl ?_); refine bxe (cs := #[.slice A1_0 l1_0.length c1_0, .slice A1_1 l1_1.length c1_1]) (t := 26) ?_; intro gb102 hg w8 hbox hb; have BK102 := aK (hbox); have GW102 := aK (gE hg (pS HB.out)); have GE102 := GW102; obtain ⟨NB101_102, NB102_101⟩ := nb hg (pB BK101.out); replace BK101 := bB BK101 hb; replace HB := bS HB hb; clear hb hbox hg; have hnb9 := NB101_102.out; have hnc9 := NB102_101.out; obtain ⟨hcz10_0, hcz10_1, hfz10_0, hfz10_1⟩ := bc2 BK101.out; obtain ⟨hcz11_0, hcz11_1, hfz11_0, hfz11_1⟩ := bc2 BK102.out) | ((with_reducible refine gate_callee (f := 66) rfl ?_); refine gl (some 9) Try.func66 #[.slice A0_0 l0_0.length c0_0, .slice A1_0 l1_0.length c1_0] ?_; (with_reducible refine (laws_eqIntS.calls k _ _ l0_0 _ _ l1_0 true _ ?side1 ?side2 ?side3 ?side4 A3.out).mono ?_); (case side1 => exact pC (Kd.C_below HR0_0.out HB.out)); (case side2 => exact HC0_0.out); (case side3 => exact pC (Kd.C_below HR1_0.out HB.out)); (case side4 => exact HC1_0.out); rintro e w' ⟨rfl, ⟨nd, rfl⟩⟩; refine ⟨_, rfl, ?_⟩) | ((with_reducible refine gate_callee (f := 66) rfl ?_); refine gl (some 15) Try.func66 #[.slice A0_1 l0_1.length c0_1, .slice A1_1 l1_1.length c1_1] ?_; (with_reducible refine (laws_eqIntS.calls k _ _ l0_1 _ _ l1_1 true _ ?side1 ?side2 ?side3 ?side4 A5.out).mono ?_); (case side1 => exact pC (Kd.C_below HR0_1.out (pS HB.out))); (case side2 => exact HC0_1.out); (case side3 => exact pC (Kd.C_below HR1_1.out (pS HB.out))); (case side4 => exact HC1_1.out); rintro e w' ⟨rfl, ⟨nd, rfl⟩⟩; refine ⟨_, rfl, ?_⟩))
   go_ret
   exact ⟨er, pT HB.out⟩
  replace c6 := Bool.eq_false_iff.mpr c6
  subst c6
  have H1 : (some false) = some r := by rw [if_neg (show ¬ (false = true) by decide)] at H; exact H
  clear H
  have H := H1
  clear H1
  obtain rfl := Option.some.inj H
  go_enter Try.func28, Try.ntmps28
  go_wp2_with (first | ((with_reducible refine gate_dst (N := 2) rfl ?_); refine bxe (cs := #[.slice A0_0 l0_0.length c0_0, .slice A0_1 l0_1.length c0_1]) (t := 26) ?_; intro gb101 hg w12 hbox hb; have BK101 := aK (hbox); have GW101 := aK (gE hg (pS HB.out)); have GE101 := GW101; replace HB := bS HB hb; clear hb hbox hg) | ((with_reducible refine gate_dst (N := 3) rfl ?_); refine bxe (cs := #[.slice A1_0 l1_0.length c1_0, .slice A1_1 l1_1.length c1_1]) (t := 26) ?_; intro gb102 hg w13 hbox hb; have BK102 := aK (hbox); have GW102 := aK (gE hg (pS HB.out)); have GE102 := GW102; obtain ⟨NB101_102, NB102_101⟩ := nb hg (pB BK101.out); replace BK101 := bB BK101 hb; replace HB := bS HB hb; clear hb hbox hg; have hnb14 := NB101_102.out; have hnc14 := NB102_101.out; obtain ⟨hcz15_0, hcz15_1, hfz15_0, hfz15_1⟩ := bc2 BK101.out; obtain ⟨hcz16_0, hcz16_1, hfz16_0, hfz16_1⟩ := bc2 BK102.out) | ((with_reducible refine gate_callee (f := 66) rfl ?_); refine gl (some 9) Try.func66 #[.slice A0_0 l0_0.length c0_0, .slice A1_0 l1_0.length c1_0] ?_; (with_reducible refine (laws_eqIntS.calls k _ _ l0_0 _ _ l1_0 true _ ?side1 ?side2 ?side3 ?side4 A3.out).mono ?_); (case side1 => exact pC (Kd.C_below HR0_0.out HB.out)); (case side2 => exact HC0_0.out); (case side3 => exact pC (Kd.C_below HR1_0.out HB.out)); (case side4 => exact HC1_0.out); rintro e w' ⟨rfl, ⟨nd, rfl⟩⟩; refine ⟨_, rfl, ?_⟩) | ((with_reducible refine gate_callee (f := 66) rfl ?_); refine gl (some 15) Try.func66 #[.slice A0_1 l0_1.length c0_1, .slice A1_1 l1_1.length c1_1] ?_; (with_reducible refine (laws_eqIntS.calls k _ _ l0_1 _ _ l1_1 false _ ?side1 ?side2 ?side3 ?side4 A5.out).mono ?_); (case side1 => exact pC (Kd.C_below HR0_1.out (pS HB.out))); (case side2 => exact HC0_1.out); (case side3 => exact pC (Kd.C_below HR1_1.out (pS HB.out))); (case side4 => exact HC1_1.out); rintro e w' ⟨rfl, ⟨nd, rfl⟩⟩; refine ⟨_, rfl, ?_⟩))
  go_ret
  exact ⟨er, pT HB.out⟩
 replace c4 := Bool.eq_false_iff.mpr c4
 subst c4
 have H1 : (some false) = some r := by rw [if_neg (show ¬ (false = true) by decide)] at H; exact H
 clear H
 have H := H1
 clear H1
 obtain rfl := Option.some.inj H
 go_enter Try.func28, Try.ntmps28
 go_wp2_with (first | ((with_reducible refine gate_dst (N := 2) rfl ?_); refine bxe (cs := #[.slice A0_0 l0_0.length c0_0, .slice A0_1 l0_1.length c0_1]) (t := 26) ?_; intro gb101 hg w17 hbox hb; have BK101 := aK (hbox); have GW101 := aK (gE hg (pS HB.out)); have GE101 := GW101; replace HB := bS HB hb; clear hb hbox hg) | ((with_reducible refine gate_dst (N := 3) rfl ?_); refine bxe (cs := #[.slice A1_0 l1_0.length c1_0, .slice A1_1 l1_1.length c1_1]) (t := 26) ?_; intro gb102 hg w18 hbox hb; have BK102 := aK (hbox); have GW102 := aK (gE hg (pS HB.out)); have GE102 := GW102; obtain ⟨NB101_102, NB102_101⟩ := nb hg (pB BK101.out); replace BK101 := bB BK101 hb; replace HB := bS HB hb; clear hb hbox hg; have hnb19 := NB101_102.out; have hnc19 := NB102_101.out; obtain ⟨hcz20_0, hcz20_1, hfz20_0, hfz20_1⟩ := bc2 BK101.out; obtain ⟨hcz21_0, hcz21_1, hfz21_0, hfz21_1⟩ := bc2 BK102.out) | ((with_reducible refine gate_callee (f := 66) rfl ?_); refine gl (some 9) Try.func66 #[.slice A0_0 l0_0.length c0_0, .slice A1_0 l1_0.length c1_0] ?_; (with_reducible refine (laws_eqIntS.calls k _ _ l0_0 _ _ l1_0 false _ ?side1 ?side2 ?side3 ?side4 A3.out).mono ?_); (case side1 => exact pC (Kd.C_below HR0_0.out HB.out)); (case side2 => exact HC0_0.out); (case side3 => exact pC (Kd.C_below HR1_0.out HB.out)); (case side4 => exact HC1_0.out); rintro e w' ⟨rfl, ⟨nd, rfl⟩⟩; refine ⟨_, rfl, ?_⟩))
 go_ret
 exact ⟨er, pT HB.out⟩
def laws_markIntS.l0 : Nat → List Int → Int → Int → Option (Int × List Int)
 | 0, _, _, _ => none
 | k + 1, x0, x1, x5 => if x5 < (x0.length : Int) then (if 0 ≤ x5 then (laws_markIntS.l0 k (x0.set (x5 : Int).toNat x1) (wrap64 (x1 + 1)) (wrap64 (x5 + 1))) else (none)) else (some (x1, x0))
def laws_markIntS.f (k : Nat) (l0 : List Int) (a1 : Int) : Option (Int × List Int) := laws_markIntS.l0 k l0 a1 0
theorem laws_markIntS.calls (k : Nat) (P0_ : Nat → Prop) (u9000_ : Value) (l0 : List Int) (a1 : Int) (r1 : Int) (r2 : List Int) (w0 w : World) (hB : Below w0.heap.size w0 w) (ho0 : Kd.R (Kd.int .i64) 3 w w0.heap.size P0_ u9000_ l0) (h : laws_markIntS.f k l0 a1 = some (r1, r2)) :
  Calls Try.prog 67 #[u9000_, .int .i64 a1] w fun e w' => e = .returned (.int .i64 r1) ∧ Kd.R (Kd.int .i64) 3 w' w0.heap.size (fun k_ => (P0_ k_ ∨ w.heap.size ≤ k_)) u9000_ r2 ∧ Below w0.heap.size w0 w' ∧ Kept w w' (fun k_ => P0_ k_) := by
 have HO0 := aK (show Kd.R (Kd.int .i64) 3 w w0.heap.size (fun k_ => (P0_ k_ ∨ w.heap.size ≤ k_)) u9000_ l0 from Kd.R_mono ho0 (fun k_ hk => (.inl hk)))
 have HK := aK (Kept.refl w (fun k_ => P0_ k_))
 have HW0 := Aside0.mk hB.size
 have HB := Aside0.mk hB
 clear hB
 have H : (laws_markIntS.l0 k l0 a1 0) = some (r1, r2) := h
 clear h
 have H' := Aside0.mk H
 clear H
 go_enter Try.func67, Try.ntmps67
 go_wp2
 go_loopg [1, 5] k (fun kq v1 v5 w' => ∃ (x0_1 : List Int) (x1_1 : Int) (x5_1 : Int), v1 = .int .i64 x1_1 ∧ v5 = .int .i64 x5_1 ∧ Aside0 (laws_markIntS.l0 kq x0_1 x1_1 x5_1 = some (r1, r2)) ∧ Aside0 (kq ≤ k) ∧ Aside0 (Kd.R (Kd.int .i64) 3 w' w0.heap.size (fun k_ => (P0_ k_ ∨ w.heap.size ≤ k_)) u9000_ x0_1) ∧ Aside0 (Kept w w' (fun k_ => P0_ k_)) ∧ Aside0 (Below w0.heap.size w0 w'))
 case atStart => exact ⟨(l0), (a1), (0), (by first | rfl | (simp; done) | (simp [*]; done)), (by first | rfl | (simp; done) | (simp [*]; done)), H', ⟨Nat.le_refl _⟩, ⟨pR HO0.out⟩, ⟨by repeat (first | (with_reducible first | exact HK.out | apply Kept.alloc | apply Kept.drewN | apply Kept.drew) | exact HK.out)⟩, ⟨pT HB.out⟩⟩
 case round =>
  clear H'
  try clear p2
  obtain ⟨x0_1, x1_1, x5_1, rfl, rfl, HA, HK1, HO_0, HK, HB⟩ := hrel
  cases gk with
  | zero => exact absurd HA.out (by simp [laws_markIntS.l0])
  | succ k1 =>
   have H := HA.out
   clear HA
   simp only [laws_markIntS.l0] at H
   by_cases c3 : x5_1 < (x0_1.length : Int)
   ·
    rw [if_pos c3] at H
    have c3b0 : decide (x5_1 < (x0_1.length : Int)) = true := decide_eq_true c3
    clear c3
    by_cases c4 : 0 ≤ x5_1
    ·
     rw [if_pos c4] at H
     have c4b0 : decide (0 ≤ x5_1) = true := decide_eq_true c4
     clear c4
     obtain ⟨y101, hy101⟩ : ∃ y_ : List Int, y_ = (x0_1.set (x5_1 : Int).toNat x1_1) := ⟨_, rfl⟩
     replace H : (laws_markIntS.l0 k1 y101 (wrap64 (x1_1 + 1)) (wrap64 (x5_1 + 1))) = some (r1, r2) := by first | (rw [hy101]; with_reducible exact H) | (have H2_ := (Option.bind_some _ _).symm.trans H; rw [hy101]; with_reducible exact H2_) | (have H2_ := (Option.bind_some _ _).symm.trans H; with_reducible exact H2_) | with_reducible exact H | (rw [hy101]; exact H) | exact H
     have Ny101 := Aside0.mk hy101
     clear hy101
     have H' := Aside0.mk H
     clear H
     obtain ⟨Ao6, co6, eo6⟩ := Kd.R_slice HO_0.out
     subst eo6
     have p5 : 0 ≤ (x5_1 : Int) := of_decide_eq_true (by first | (with_reducible assumption) | assumption)
     have q5 : (x5_1 : Int) < ((x0_1.length : Int) : Int) := of_decide_eq_true (by first | (with_reducible assumption) | assumption)
     obtain ⟨go5, co5, eo5, gb5, gl5, cl5, HG5⟩ := Kd.R_form HO_0.out (by omega)
     (first | cases eo5 | (injection eo5 with ea_ en_ ec_; (first | subst ea_ | (injection ea_ with ea_; subst ea_)); subst ec_; clear en_))
     have GB5 := Aside0.mk gb5
     have GG5 := Aside0.mk HG5
     clear gb5 gl5 HG5
     have HMgo5 := aK (show (P0_ go5 ∨ w.heap.size ≤ go5) from (HO_0.out.1 _ rfl))
     obtain ⟨hx5_0, hf5_0⟩ := Kd.R_celln 0 HO_0.out (x5_1 : Int) p5 q5
     replace p5 := eq_true p5
     replace q5 := eq_true q5
     have HP7 := Kd.R_putg HO_0.out (x5_1 : Int) x1_1
     go_wp2_with (first | ((with_reducible refine gate_store (t := 3) (p := 15) rfl ?_); refine store_event (t := 3) (p := 15) (v := ?vo_w8) (w1 := (wr.setCell ⟨go5, (x5_1 : Int).toNat, none⟩ (.int .i64 x1_1))) ?hg ?ho ?hn ?hr ?_; (case ho => rfl); (case hg => rfl); (case hn => rfl); (case hr => first | (go_simp; done) | (go_simp; rfl)); intro w8 hw; have hg : wr.grownBy w8 (some go5) := (by rw [hw]; exact HP7.2); have hp_ : Kd.R (Kd.int .i64) 3 w8 w0.heap.size (fun k_ => (P0_ k_ ∨ w.heap.size ≤ k_)) (.slice (some ⟨go5, 0, none⟩) x0_1.length co6) y101 := (by rw [hw, Ny101.out]; exact HP7.1); clear HP7; have n0_ := aK (hp_); have n1_ := aK ((by rw [hw]; exact below_set (HB.out) GB5.out : Below w0.heap.size w0 w8)); have n2_ := aK (Kept.of_grown (S := (fun k_ => P0_ k_)) hg (by repeat (first | (with_reducible first | exact HK.out | apply Kept.alloc | apply Kept.drewN | apply Kept.drew) | exact HK.out)) (fun k_ e_ => (HO_0.out.1 k_ e_))); clear HO_0 HB HK; have HO_0 := n0_; have HB := n1_; have HK := n2_; clear n0_ n1_ n2_; clear hg hw hp_))
     go_roundg k1
     case measure => have := HK1.out; omega
     case rel => exact ⟨(y101), (wrap64 (x1_1 + 1)), (wrap64 (x5_1 + 1)), (by first | rfl | (simp; done) | (simp [*]; done)), (by first | rfl | (simp; done) | (simp [*]; done)), H', ⟨by have := HK1.out; omega⟩, ⟨pR HO_0.out⟩, ⟨by repeat (first | (with_reducible first | exact HK.out | apply Kept.alloc | apply Kept.drewN | apply Kept.drew) | exact HK.out)⟩, ⟨pT HB.out⟩⟩
    rw [if_neg c4] at H
    exact absurd H (by simp)
   rw [if_neg c3] at H
   have c3b0 : decide (x5_1 < (x0_1.length : Int)) = false := decide_eq_false c3
   clear c3
   simp only [Option.some.injEq, Prod.mk.injEq] at H
   obtain ⟨rfl, rfl⟩ := H
   obtain ⟨Ao9, co9, eo9⟩ := Kd.R_slice HO_0.out
   subst eo9
   go_wp2
   go_ret
   exact ⟨er, by (with_reducible repeat (first | apply Kd.R_alloc | apply Kd.R_drewN | apply Kd.R_drew)); exact HO_0.out, pT HB.out, by repeat (first | (with_reducible first | exact HK.out | apply Kept.alloc | apply Kept.drewN | apply Kept.drew) | exact HK.out)⟩
def laws_markTally.f (k : Nat) (l0_0 : List Int) (l0_1 : List Int) (a1 : Int) : Option (Int × List Int × List Int) := (laws_markIntS.f k l0_0 a1).bind fun bt102 => ((laws_markIntS.f k l0_1 bt102.1).bind fun bt104 => (some (bt104.1, bt102.2, bt104.2)))
theorem laws_markTally.calls (k : Nat) (P0_0_ : Nat → Prop) (u9000_ : Value) (l0_0 : List Int) (P0_1_ : Nat → Prop) (u9001_ : Value) (l0_1 : List Int) (a1 : Int) (r1 : Int) (r2 : List Int) (r3 : List Int) (w0 w : World) (hB : Below w0.heap.size w0 w) (ho0_0 : Kd.R (Kd.int .i64) 3 w w0.heap.size P0_0_ u9000_ l0_0) (hp0_0_0_1 : ∀ k_, P0_0_ k_ → ¬ P0_1_ k_) (ho0_1 : Kd.R (Kd.int .i64) 3 w w0.heap.size P0_1_ u9001_ l0_1) (hp0_1_0_0 : ∀ k_, P0_1_ k_ → ¬ P0_0_ k_) (h : laws_markTally.f k l0_0 l0_1 a1 = some (r1, r2, r3)) :
  Calls Try.prog 29 #[.agg #[u9000_, u9001_], .int .i64 a1] w fun e w' => e = .returned (.int .i64 r1) ∧ Kd.R (Kd.int .i64) 3 w' w0.heap.size (fun k_ => ((P0_0_ k_ ∨ P0_1_ k_) ∨ w.heap.size ≤ k_)) u9000_ r2 ∧ Kd.R (Kd.int .i64) 3 w' w0.heap.size (fun k_ => ((P0_0_ k_ ∨ P0_1_ k_) ∨ w.heap.size ≤ k_)) u9001_ r3 ∧ Below w0.heap.size w0 w' ∧ Kept w w' (fun k_ => P0_0_ k_ ∨ P0_1_ k_) := by
 have hu26 := Try.underlying26
 have HO0_0 := aK (show Kd.R (Kd.int .i64) 3 w w0.heap.size (fun k_ => ((P0_0_ k_ ∨ P0_1_ k_) ∨ w.heap.size ≤ k_) ∧ some k_ ≠ (u9001_ : Value).ownBlock) u9000_ l0_0 from Kd.R_mono ho0_0 (fun k_ hk => ⟨(.inl (.inl hk)), fun e_ => hp0_0_0_1 k_ hk (ho0_1.1 k_ e_.symm)⟩))
 have HO0_1 := aK (show Kd.R (Kd.int .i64) 3 w w0.heap.size (fun k_ => ((P0_0_ k_ ∨ P0_1_ k_) ∨ w.heap.size ≤ k_) ∧ some k_ ≠ (u9000_ : Value).ownBlock) u9001_ l0_1 from Kd.R_mono ho0_1 (fun k_ hk => ⟨(.inl (.inr hk)), fun e_ => hp0_1_0_0 k_ hk (ho0_0.1 k_ e_.symm)⟩))
 have HK := aK (Kept.refl w (fun k_ => P0_0_ k_ ∨ P0_1_ k_))
 have HW0 := Aside0.mk hB.size
 have HB := Aside0.mk hB
 clear hB
 have H : ((laws_markIntS.f k l0_0 a1).bind fun bt102 => ((laws_markIntS.f k l0_1 bt102.1).bind fun bt104 => (some (bt104.1, bt102.2, bt104.2)))) = some (r1, r2, r3) := h
 clear h
 replace H := Option.bind_eq_some_iff.mp H
 obtain ⟨⟨t102, t103⟩, A30, H⟩ := H
 replace H : ((laws_markIntS.f k l0_1 t102).bind fun bt104 => (some (bt104.1, t103, bt104.2))) = some (r1, r2, r3) := H
 have A3 := Aside0.mk A30
 clear A30
 replace H := Option.bind_eq_some_iff.mp H
 obtain ⟨⟨t104, t105⟩, A40, H⟩ := H
 replace H : (some (t104, t103, t105)) = some (r1, r2, r3) := H
 have A4 := Aside0.mk A40
 clear A40
 simp only [Option.some.injEq, Prod.mk.injEq] at H
 obtain ⟨rfl, rfl, rfl⟩ := H
 obtain ⟨Ao5, co5, eo5⟩ := Kd.R_slice HO0_0.out
 subst eo5
 obtain ⟨Ao6, co6, eo6⟩ := Kd.R_slice HO0_1.out
 subst eo6
 go_enter Try.func29, Try.ntmps29
 go_wp2_with (first | ((with_reducible refine gate_dst (N := 2) rfl ?_); refine bxe (cs := #[.slice Ao5 l0_0.length co5, .slice Ao6 l0_1.length co6]) (t := 26) ?_; intro gb101 hg w7 hbox hb; have n0_ := aK (Kd.R_below (pR HO0_0.out) hb); have n1_ := aK (Kd.R_below (pR HO0_1.out) hb); have n2_ := aK (Kept.below (S := (fun k_ => P0_0_ k_ ∨ P0_1_ k_)) (by repeat (first | (with_reducible first | exact HK.out | apply Kept.alloc | apply Kept.drewN | apply Kept.drew) | exact HK.out)) hb); have BK101 := aK (hbox); have GW101 := aK ((by rw [hg]; exact (by first | exact HK.out.1 | exact (show Kept w _ (fun k_ => P0_0_ k_ ∨ P0_1_ k_) from by repeat (first | (with_reducible first | exact HK.out | apply Kept.alloc | apply Kept.drewN | apply Kept.drew) | exact HK.out)).1) : w.heap.size ≤ gb101)); have GE101 := aK (gE hg (pS HB.out)); replace HB := bS HB hb; clear HO0_0 HO0_1 HK; have HO0_0 := n0_; have HO0_1 := n1_; have HK := n2_; clear n0_ n1_ n2_ hb hbox hg; obtain ⟨hcz8_0, hcz8_1, hfz8_0, hfz8_1⟩ := bc2 BK101.out) | ((with_reducible refine gate_callee (f := 67) rfl ?_); refine gl (some 8) Try.func67 #[.slice Ao5 l0_0.length co5, .int .i64 a1] ?_; (with_reducible refine (laws_markIntS.calls k (fun k_ => some k_ = (.slice Ao5 l0_0.length co5 : Value).ownBlock) (.slice Ao5 l0_0.length co5) l0_0 a1 t102 t103 w0 _ ?side1 ?side2 A3.out).mono ?_); (case side1 => exact pT HB.out); (case side2 => exact Kd.R_tight rfl HO0_0.out); rintro e w9 ⟨rfl, hy0, hb, hkp⟩; refine ⟨_, rfl, ?_⟩; have n0_ := aK (Kd.R_reok rfl hy0 (fun k_ e_ => HO0_0.out.1 k_ e_)); have n1_ := aK (Kd.R_mono (ok' := fun k_ => ((P0_0_ k_ ∨ P0_1_ k_) ∨ w.heap.size ≤ k_) ∧ some k_ ≠ (.slice Ao5 l0_0.length co5 : Value).ownBlock) (Kd.R_keptB (HO0_1.out) hkp (fun k_ hk_ hs_ => (hk_.2) hs_)) (fun k_ hk_ => ⟨hk_.1.1, hk_.1.2⟩)); have n2_ := aK (blk_kept (pB BK101.out) hkp (fun hs_ => (fun e_ => (Kd.R_ne HO0_0.out BK101.out (by decide)) e_) hs_)); have n3_ := aK (Kept.then_ (S := (fun k_ => P0_0_ k_ ∨ P0_1_ k_)) (by repeat (first | (with_reducible first | exact HK.out | apply Kept.alloc | apply Kept.drewN | apply Kept.drew | refine Kept.setCell ?_ (.inr GW101.out) _) | exact HK.out)) hkp (fun k_ hs_ => (fun e_ => (HO0_0.out.1 k_ e_.symm).1) hs_)); have n4_ := aK (hb); clear HO0_0 HO0_1 BK101 HK HB; have HO0_0 := n0_; have HO0_1 := n1_; have BK101 := n2_; have HK := n3_; have HB := n4_; clear n0_ n1_ n2_ n3_ n4_; (try clear hb); (try clear hkp); (try clear hy0); obtain ⟨hcz10_0, hcz10_1, hfz10_0, hfz10_1⟩ := bc2 BK101.out) | ((with_reducible refine gate_callee (f := 67) rfl ?_); refine gl (some 12) Try.func67 #[.slice Ao6 l0_1.length co6, .int .i64 t102] ?_; (with_reducible refine (laws_markIntS.calls k (fun k_ => some k_ = (.slice Ao6 l0_1.length co6 : Value).ownBlock) (.slice Ao6 l0_1.length co6) l0_1 t102 t104 t105 w0 _ ?side1 ?side2 A4.out).mono ?_); (case side1 => exact pT HB.out); (case side2 => exact Kd.R_tight rfl HO0_1.out); rintro e w11 ⟨rfl, hy0, hb, hkp⟩; refine ⟨_, rfl, ?_⟩; have n0_ := aK (Kd.R_mono (ok' := fun k_ => ((P0_0_ k_ ∨ P0_1_ k_) ∨ w.heap.size ≤ k_) ∧ some k_ ≠ (.slice Ao6 l0_1.length co6 : Value).ownBlock) (Kd.R_keptB (HO0_0.out) hkp (fun k_ hk_ hs_ => (hk_.2) hs_)) (fun k_ hk_ => ⟨hk_.1.1, hk_.1.2⟩)); have n1_ := aK (Kd.R_reok rfl hy0 (fun k_ e_ => HO0_1.out.1 k_ e_)); have n2_ := aK (blk_kept (pB BK101.out) hkp (fun hs_ => (fun e_ => (Kd.R_ne HO0_1.out BK101.out (by decide)) e_) hs_)); have n3_ := aK (Kept.then_ (S := (fun k_ => P0_0_ k_ ∨ P0_1_ k_)) (by repeat (first | (with_reducible first | exact HK.out | apply Kept.alloc | apply Kept.drewN | apply Kept.drew | refine Kept.setCell ?_ (.inr GW101.out) _) | exact HK.out)) hkp (fun k_ hs_ => (fun e_ => (HO0_1.out.1 k_ e_.symm).1) hs_)); have n4_ := aK (hb); clear HO0_0 HO0_1 BK101 HK HB; have HO0_0 := n0_; have HO0_1 := n1_; have BK101 := n2_; have HK := n3_; have HB := n4_; clear n0_ n1_ n2_ n3_ n4_; (try clear hb); (try clear hkp); (try clear hy0)))
 go_ret
 exact ⟨er, by (with_reducible repeat (first | apply Kd.R_alloc | apply Kd.R_drewN | apply Kd.R_drew)); exact Kd.R_mono HO0_0.out (fun _ hk => hk.1), by (with_reducible repeat (first | apply Kd.R_alloc | apply Kd.R_drewN | apply Kd.R_drew)); exact Kd.R_mono HO0_1.out (fun _ hk => hk.1), pT HB.out, by repeat (first | (with_reducible first | exact HK.out | apply Kept.alloc | apply Kept.drewN | apply Kept.drew | refine Kept.setCell ?_ (.inr GW101.out) _) | exact HK.out)⟩
def rowAt (xs : List (List Int)) (i : Int) : List Int := xs.getD i.toNat []
def laws_markIntSS.l0 : Nat → List (List Int) → Int → Int → Option (Int × List (List Int))
  | 0, _, _, _ => none
  | k + 1, x0, x1, x5 => if x5 < (x0.length : Int) then (if 0 ≤ x5 then ((laws_markIntS.f k (rowAt x0 x5) x1).bind fun bt => laws_markIntSS.l0 k (x0.set x5.toNat bt.2) bt.1 (wrap64 (x5 + 1))) else none) else some (x1, x0)
def laws_markIntSS.f (k : Nat) (l0 : List (List Int)) (a1 : Int) : Option (Int × List (List Int)) := laws_markIntSS.l0 k l0 a1 0
theorem markIntSS_lend {W : World} {base g n cap : Nat} {ok : Nat → Prop} {xs : List (List Int)} (h : Kd.S (Kd.slice 3 (Kd.int .i64)) 24 W base ok (.slice (some ⟨g, 0, none⟩) n cap) xs) (i : Int) (h0 : 0 ≤ i) (h1 : i < n) (hw : ∀ k, W.heap.size ≤ k → ok k) :
    ∃ (oki : Nat → Prop) (A : Option Addr) (c : Nat), W.cell? ⟨g, i.toNat, none⟩ = some (.slice A (rowAt xs i).length c) ∧ (Kd.int .i64).R 3 W base oki (.slice A (rowAt xs i).length c) (rowAt xs i) ∧ (∀ k, oki k → ok k) ∧
      ∀ (W' : World) (l' : List Int), Kept W W' oki → (Kd.int .i64).R 3 W' base (fun k => oki k ∨ W.heap.size ≤ k) (.slice A (rowAt xs i).length c) l' →
        Kd.S (Kd.slice 3 (Kd.int .i64)) 24 W' base ok (.slice (some ⟨g, 0, none⟩) n cap) (xs.set i.toNat l') := by
  obtain ⟨oki, c, hcl, hM, hcc, hoki, hH⟩ := Kd.S_lend h [] i h0 h1
  obtain ⟨v2, rfl, hR⟩ := hM
  obtain ⟨A, cc, rfl⟩ := Kd.R_slice hR
  have hc0 := hcc 0 _ rfl
  rw [show (Kd.slice 3 (Kd.int .i64)).sz = 1 from rfl, Nat.mul_one, Nat.add_zero] at hc0
  refine ⟨oki, A, cc, hc0, hR, fun k hk => (hoki k hk).1, fun W' l' hk hR' => ?_⟩
  exact Kd.H_back (Kd.H_kept (Kd.H_widen hH) hk (fun k _ hn hs => hn (.inl hs))) (Kd.M_row hR') (fun k hk => hk.elim .inl (fun hle => .inr ⟨hw k hle, hle⟩))
theorem laws_markIntSS.calls (k : Nat) (P0_ : Nat → Prop) (u9000_ : Value) (l0 : List (List Int)) (a1 : Int) (r1 : Int) (r2 : List (List Int)) (w0 w : World) (hB : Below w0.heap.size w0 w) (ho0 : Kd.S (Kd.slice 3 (Kd.int .i64)) 24 w w0.heap.size P0_ u9000_ l0) (h : laws_markIntSS.f k l0 a1 = some (r1, r2)) :
  Calls Try.prog 30 #[u9000_, .int .i64 a1] w fun e w' => e = .returned (.int .i64 r1) ∧ Kd.S (Kd.slice 3 (Kd.int .i64)) 24 w' w0.heap.size (fun k_ => (P0_ k_ ∨ w.heap.size ≤ k_)) u9000_ r2 ∧ Below w0.heap.size w0 w' ∧ Kept w w' (fun k_ => P0_ k_) := by
 have HO0 := aK (show Kd.S (Kd.slice 3 (Kd.int .i64)) 24 w w0.heap.size (fun k_ => (P0_ k_ ∨ w.heap.size ≤ k_)) u9000_ l0 from Kd.S_mono ho0 (fun k_ hk => (.inl hk)))
 have HK := aK (Kept.refl w (fun k_ => P0_ k_))
 have HW0 := Aside0.mk hB.size
 have HB := Aside0.mk hB
 clear hB
 have H : (laws_markIntSS.l0 k l0 a1 0) = some (r1, r2) := h
 clear h
 have H' := Aside0.mk H
 clear H
 go_enter Try.func30, Try.ntmps30
 go_wp2
 go_loopg [1, 5] k (fun kq v1 v5 w' => ∃ (x0_1 : List (List Int)) (x1_1 : Int) (x5_1 : Int), v1 = .int .i64 x1_1 ∧ v5 = .int .i64 x5_1 ∧ Aside0 (laws_markIntSS.l0 kq x0_1 x1_1 x5_1 = some (r1, r2)) ∧ Aside0 (kq ≤ k) ∧ Aside0 (Kd.S (Kd.slice 3 (Kd.int .i64)) 24 w' w0.heap.size (fun k_ => (P0_ k_ ∨ w.heap.size ≤ k_)) u9000_ x0_1) ∧ Aside0 (Kept w w' (fun k_ => P0_ k_)) ∧ Aside0 (Below w0.heap.size w0 w'))
 case atStart => exact ⟨(l0), (a1), (0), rfl, rfl, H', ⟨Nat.le_refl _⟩, HO0, HK, HB⟩
 case round =>
  clear H'
  obtain ⟨x0_1, x1_1, x5_1, rfl, rfl, HA, HK1, HO_0, HK, HB⟩ := hrel
  cases gk with
  | zero => exact absurd HA.out (by simp [laws_markIntSS.l0])
  | succ k1 =>
   have H := HA.out
   clear HA
   simp only [laws_markIntSS.l0] at H
   by_cases c3 : x5_1 < (x0_1.length : Int)
   ·
    rw [if_pos c3] at H
    have c3b0 : decide (x5_1 < (x0_1.length : Int)) = true := decide_eq_true c3
    by_cases c4 : 0 ≤ x5_1
    ·
     rw [if_pos c4] at H
     have c4b0 : decide (0 ≤ x5_1) = true := decide_eq_true c4
     replace H := Option.bind_eq_some_iff.mp H
     obtain ⟨⟨t102, t103⟩, A30, H⟩ := H
     replace H : laws_markIntSS.l0 k1 (x0_1.set x5_1.toNat t103) t102 (wrap64 (x5_1 + 1)) = some (r1, r2) := H
     have A3 := Aside0.mk A30
     clear A30
     have H' := Aside0.mk H
     clear H
     obtain ⟨Ao6, co6, eo6⟩ := Kd.R_slice (Kd.S_R HO_0.out)
     subst eo6
     obtain ⟨go5, co5, eo5, gb5, gl5, cl5, HG5⟩ := Kd.R_form (Kd.S_R HO_0.out) (by omega)
     (first | cases eo5 | (injection eo5 with ea_ en_ ec_; (first | subst ea_ | (injection ea_ with ea_; subst ea_)); subst ec_; clear en_))
     clear gb5 gl5 HG5 cl5
     have HL := markIntSS_lend HO_0.out x5_1 c4 c3 (fun k_ hk_ => .inr (Nat.le_trans HK.out.1 hk_))
     obtain ⟨oki, A2, c2, hx2, hR2, hok2, hbk2⟩ := HL
     have HR2 := aK hR2
     have HBK2 := aK hbk2
     have HOK2 := aK hok2
     clear hR2 hbk2 hok2
     have p5 := eq_true c4
     have q5 := eq_true c3
     clear c3 c4
     go_wp2_with (first | ((with_reducible refine gate_callee (f := 67) rfl ?_); refine goesL_ (some 17) rfl rfl Try.func67 (by kernel_rfl) rfl #[.slice A2 (rowAt x0_1 x5_1).length c2, .int .i64 x1_1] rfl (by (try simp only [List.map_toArray, List.map_cons, List.map_nil]); first | done | rfl) ?_; (with_reducible refine (laws_markIntS.calls k1 oki (.slice A2 (rowAt x0_1 x5_1).length c2) (rowAt x0_1 x5_1) x1_1 t102 t103 w0 _ ?side1 ?side2 A3.out).mono ?_); (case side1 => exact pT HB.out); (case side2 => (with_reducible repeat (first | apply Kd.R_alloc | apply Kd.R_drewN | apply Kd.R_drew)); exact HR2.out); rintro e w10 ⟨rfl, hy0, hb, hkp⟩; refine ⟨_, rfl, ?_⟩; have n0_ := aK (HBK2.out w10 t103 hkp hy0); have n2_ := aK (Kept.then_ (S := (fun k_ => P0_ k_)) HK.out hkp (fun k_ hs_ => HOK2.out k_ hs_)); have n3_ := aK (hb); clear HO_0 HK HB HR2 HBK2 HOK2 hx2; have HO_0 := n0_; have HK := n2_; have HB := n3_; clear n0_ n2_ n3_; (try clear hb); (try clear hkp); (try clear hy0)))
     go_roundg k1
     case measure => have := HK1.out; omega
     case rel => exact ⟨_, t102, (wrap64 (x5_1 + 1)), rfl, rfl, H', ⟨by have := HK1.out; omega⟩, HO_0, HK, HB⟩
    rw [if_neg c4] at H
    exact absurd H (by simp)
   rw [if_neg c3] at H
   have c3b0 : decide (x5_1 < (x0_1.length : Int)) = false := decide_eq_false c3
   clear c3
   simp only [Option.some.injEq, Prod.mk.injEq] at H
   obtain ⟨rfl, rfl⟩ := H
   obtain ⟨Ao9, co9, eo9⟩ := Kd.R_slice (Kd.S_R HO_0.out)
   subst eo9
   go_wp2
   go_ret
   exact ⟨rfl, HO_0.out, HB.out, HK.out⟩
def laws_heldIntS.l0 : Nat → List Int → Int → Int → Option (Int)
 | 0, _, _, _ => none
 | k + 1, x0, x1, x5 => if x5 < (x0.length : Int) then (if 0 ≤ x5 then (if (rd x0 x5) = x1 then (laws_heldIntS.l0 k x0 (wrap64 (x1 + 1)) (wrap64 (x5 + 1))) else (some (-1))) else (none)) else (some x1)
def laws_heldIntS.f (k : Nat) (l0 : List Int) (a1 : Int) : Option (Int) := laws_heldIntS.l0 k l0 a1 0
theorem laws_heldIntS.calls (k : Nat) (A0 : Option Addr) (c0 : Nat) (l0 : List Int) (a1 : Int) (r : Int) (w : World) (hr0 : Kd.C (Kd.int .i64) w A0 l0.length l0) (hc0 : l0.length ≤ c0) (h : laws_heldIntS.f k l0 a1 = some r) :
  Calls Try.prog 68 #[.slice A0 l0.length c0, .int .i64 a1] w fun e w' => e = .returned (.int .i64 r) ∧ Drawn0 w w' := by
 have HR0 := Aside0.mk hr0
 have HC0 := Aside0.mk hc0
 clear hr0 hc0
 have H : (laws_heldIntS.l0 k l0 a1 0) = some r := h
 clear h
 have H' := Aside0.mk H
 clear H
 go_enter Try.func68, Try.ntmps68
 go_wp2
 go_loopg [1, 5] k (fun kq v1 v5 w' => ∃ (x1_1 : Int) (x5_1 : Int), v1 = .int .i64 x1_1 ∧ v5 = .int .i64 x5_1 ∧ Aside0 (laws_heldIntS.l0 kq l0 x1_1 x5_1 = some r) ∧ Aside0 (kq ≤ k) ∧ Drawn0 w w')
 case atStart => exact ⟨(a1), (0), (by first | rfl | (simp; done) | (simp [*]; done)), (by first | rfl | (simp; done) | (simp [*]; done)), H', ⟨Nat.le_refl _⟩, by repeat (first | exact Drawn0.refl _ | apply Drawn0.step)⟩
 case round =>
  clear H'
  try clear p2
  obtain ⟨x1_1, x5_1, rfl, rfl, HA, HK1, ⟨m1, rfl⟩⟩ := hrel
  cases gk with
  | zero => exact absurd HA.out (by simp [laws_heldIntS.l0])
  | succ k1 =>
   have H := HA.out
   clear HA
   simp only [laws_heldIntS.l0] at H
   by_cases c3 : x5_1 < (l0.length : Int)
   ·
    rw [if_pos c3] at H
    have c3b0 : decide (x5_1 < (l0.length : Int)) = true := decide_eq_true c3
    clear c3
    by_cases c4 : 0 ≤ x5_1
    ·
     rw [if_pos c4] at H
     have c4b0 : decide (0 ≤ x5_1) = true := decide_eq_true c4
     clear c4
     by_cases c5 : (rd l0 x5_1) = x1_1
     ·
      rw [if_pos c5] at H
      have c5b0 : ((rd l0 x5_1) == x1_1) = true := beq_iff_eq.mpr c5
      have c5b1 : ((rd l0 x5_1) != x1_1) = false := bne_eq_false_iff_eq.mpr c5
      clear c5
      have H' := Aside0.mk H
      clear H
      have p101 : 0 ≤ (x5_1 : Int) := of_decide_eq_true (by first | (with_reducible assumption) | assumption)
      have q101 : x5_1 < (l0.length : Int) := of_decide_eq_true (by first | (with_reducible assumption) | assumption)
      obtain ⟨ad101, e101, hx101_0⟩ := Kd.at_int HR0.out x5_1 p101 q101
      cases e101
      replace p101 := eq_true p101
      replace q101 := eq_true q101
      go_wp2
      go_roundg k1
      case measure => have := HK1.out; omega
      case rel => exact ⟨(wrap64 (x1_1 + 1)), (wrap64 (x5_1 + 1)), (by first | rfl | (simp; done) | (simp [*]; done)), (by first | rfl | (simp; done) | (simp [*]; done)), H', ⟨by have := HK1.out; omega⟩, by repeat (first | exact Drawn0.refl _ | apply Drawn0.step)⟩
     rw [if_neg c5] at H
     have c5b0 : ((rd l0 x5_1) == x1_1) = false := beq_eq_false_iff_ne.mpr c5
     have c5b1 : ((rd l0 x5_1) != x1_1) = true := bne_iff_ne.mpr c5
     obtain rfl := Option.some.inj H
     have p101 : 0 ≤ (x5_1 : Int) := of_decide_eq_true (by first | (with_reducible assumption) | assumption)
     have q101 : x5_1 < (l0.length : Int) := of_decide_eq_true (by first | (with_reducible assumption) | assumption)
     obtain ⟨ad101, e101, hx101_0⟩ := Kd.at_int HR0.out x5_1 p101 q101
     cases e101
     replace p101 := eq_true p101
     replace q101 := eq_true q101
     go_wp2
     go_ret
     exact ⟨by first | rfl | (simp; done) | (simp [*]; done), by repeat (first | exact Drawn0.refl _ | apply Drawn0.step)⟩
    rw [if_neg c4] at H
    exact absurd H (by simp)
   rw [if_neg c3] at H
   have c3b0 : decide (x5_1 < (l0.length : Int)) = false := decide_eq_false c3
   clear c3
   obtain rfl := Option.some.inj H
   go_wp2
   go_ret
   exact ⟨by first | rfl | (simp; done) | (simp [*]; done), by repeat (first | exact Drawn0.refl _ | apply Drawn0.step)⟩
def laws_heldIntSS.l0 : Nat → List (List Int) → Int → Int → Option (Int)
 | 0, _, _, _ => none
 | k + 1, x0, x1, x5 => if x5 < (x0.length : Int) then (if 0 ≤ x5 then ((laws_heldIntS.f k (rd_L3 x0 x5) x1).bind fun t102 => (if t102 < 0 then (some (-1)) else (laws_heldIntSS.l0 k x0 t102 (wrap64 (x5 + 1))))) else (none)) else (some x1)
def laws_heldIntSS.f (k : Nat) (l0 : List (List Int)) (a1 : Int) : Option (Int) := laws_heldIntSS.l0 k l0 a1 0
theorem laws_heldIntSS.calls (k : Nat) (A0 : Option Addr) (c0 : Nat) (l0 : List (List Int)) (a1 : Int) (r : Int) (w : World) (hr0 : Kd.C (Kd.slice 3 (Kd.int .i64)) w A0 l0.length l0) (hc0 : l0.length ≤ c0) (h : laws_heldIntSS.f k l0 a1 = some r) :
  Calls Try.prog 31 #[.slice A0 l0.length c0, .int .i64 a1] w fun e w' => e = .returned (.int .i64 r) ∧ Drawn0 w w' := by
 have HR0 := Aside0.mk hr0
 have HC0 := Aside0.mk hc0
 clear hr0 hc0
 have H : (laws_heldIntSS.l0 k l0 a1 0) = some r := h
 clear h
 have H' := Aside0.mk H
 clear H
 go_enter Try.func31, Try.ntmps31
 go_wp2
 go_loopg [1, 5] k (fun kq v1 v5 w' => ∃ (x1_1 : Int) (x5_1 : Int), v1 = .int .i64 x1_1 ∧ v5 = .int .i64 x5_1 ∧ Aside0 (laws_heldIntSS.l0 kq l0 x1_1 x5_1 = some r) ∧ Aside0 (kq ≤ k) ∧ Drawn0 w w')
 case atStart => exact ⟨(a1), (0), (by first | rfl | (simp; done) | (simp [*]; done)), (by first | rfl | (simp; done) | (simp [*]; done)), H', ⟨Nat.le_refl _⟩, by repeat (first | exact Drawn0.refl _ | apply Drawn0.step)⟩
 case round =>
  clear H'
  try clear p2
  obtain ⟨x1_1, x5_1, rfl, rfl, HA, HK1, ⟨m1, rfl⟩⟩ := hrel
  cases gk with
  | zero => exact absurd HA.out (by simp [laws_heldIntSS.l0])
  | succ k1 =>
   have H := HA.out
   clear HA
   simp only [laws_heldIntSS.l0] at H
   by_cases c3 : x5_1 < (l0.length : Int)
   ·
    rw [if_pos c3] at H
    have c3b0 : decide (x5_1 < (l0.length : Int)) = true := decide_eq_true c3
    clear c3
    by_cases c4 : 0 ≤ x5_1
    ·
     rw [if_pos c4] at H
     have c4b0 : decide (0 ≤ x5_1) = true := decide_eq_true c4
     clear c4
     replace H := Option.bind_eq_some_iff.mp H
     obtain ⟨t102, A50, H⟩ := H
     replace H : (if t102 < 0 then (some (-1)) else (laws_heldIntSS.l0 k1 l0 t102 (wrap64 (x5_1 + 1)))) = some r := H
     have A5 := Aside0.mk A50
     clear A50
     by_cases c6 : t102 < 0
     ·
      rw [if_pos c6] at H
      have c6b0 : decide (t102 < 0) = true := decide_eq_true c6
      clear c6
      obtain rfl := Option.some.inj H
      have p101 : 0 ≤ (x5_1 : Int) := of_decide_eq_true (by first | (with_reducible assumption) | assumption)
      have q101 : x5_1 < (l0.length : Int) := of_decide_eq_true (by first | (with_reducible assumption) | assumption)
      obtain ⟨ad101, A101_0, c101_0, e101, hx101_0, hl101_0, hi101_0⟩ := at_L3 HR0.out x5_1 p101 q101
      cases e101
      have HR101_0 := Aside0.mk hi101_0
      have HC101_0 := Aside0.mk hl101_0
      clear hi101_0 hl101_0
      replace p101 := eq_true p101
      replace q101 := eq_true q101
      go_wp2_with (first | ((with_reducible refine gate_callee (f := 68) rfl ?_); refine gl (some 17) Try.func68 #[.slice A101_0 (rd_L3 l0 x5_1).length c101_0, .int .i64 x1_1] ?_; (with_reducible refine (laws_heldIntS.calls k1 _ _ (rd_L3 l0 x5_1) x1_1 t102 _ ?side1 ?side2 A5.out).mono ?_); (case side1 => exact pC HR101_0.out); (case side2 => exact HC101_0.out); rintro e w' ⟨rfl, ⟨nd, rfl⟩⟩; refine ⟨_, rfl, ?_⟩))
      go_ret
      exact ⟨by first | rfl | (simp; done) | (simp [*]; done), by repeat (first | exact Drawn0.refl _ | apply Drawn0.step)⟩
     rw [if_neg c6] at H
     have c6b0 : decide (t102 < 0) = false := decide_eq_false c6
     clear c6
     have H' := Aside0.mk H
     clear H
     have p101 : 0 ≤ (x5_1 : Int) := of_decide_eq_true (by first | (with_reducible assumption) | assumption)
     have q101 : x5_1 < (l0.length : Int) := of_decide_eq_true (by first | (with_reducible assumption) | assumption)
     obtain ⟨ad101, A101_0, c101_0, e101, hx101_0, hl101_0, hi101_0⟩ := at_L3 HR0.out x5_1 p101 q101
     cases e101
     have HR101_0 := Aside0.mk hi101_0
     have HC101_0 := Aside0.mk hl101_0
     clear hi101_0 hl101_0
     replace p101 := eq_true p101
     replace q101 := eq_true q101
     go_wp2_with (first | ((with_reducible refine gate_callee (f := 68) rfl ?_); refine gl (some 17) Try.func68 #[.slice A101_0 (rd_L3 l0 x5_1).length c101_0, .int .i64 x1_1] ?_; (with_reducible refine (laws_heldIntS.calls k1 _ _ (rd_L3 l0 x5_1) x1_1 t102 _ ?side1 ?side2 A5.out).mono ?_); (case side1 => exact pC HR101_0.out); (case side2 => exact HC101_0.out); rintro e w' ⟨rfl, ⟨nd, rfl⟩⟩; refine ⟨_, rfl, ?_⟩))
     go_roundg k1
     case measure => have := HK1.out; omega
     case rel => exact ⟨(t102), (wrap64 (x5_1 + 1)), (by first | rfl | (simp; done) | (simp [*]; done)), (by first | rfl | (simp; done) | (simp [*]; done)), H', ⟨by have := HK1.out; omega⟩, by repeat (first | exact Drawn0.refl _ | apply Drawn0.step)⟩
    rw [if_neg c4] at H
    exact absurd H (by simp)
   rw [if_neg c3] at H
   have c3b0 : decide (x5_1 < (l0.length : Int)) = false := decide_eq_false c3
   clear c3
   obtain rfl := Option.some.inj H
   go_wp2
   go_ret
   exact ⟨by first | rfl | (simp; done) | (simp [*]; done), by repeat (first | exact Drawn0.refl _ | apply Drawn0.step)⟩
mutual
def laws_FnExactGroupsOf.j0 : Nat → List (List Int) → Bool → List (List Int) → Bool → Bool → List Int → List Int → List Int → List Int → Option (Bool)
 | 0, _, _, _, _, _, _, _, _, _ => none
 | k + 1, x4, x5, x7, x8, x40, x102000, x102001, x120000, x120001 => if x40 = true then (some false) else ((laws_toTally.f k x102000 x102001).bind fun bt125 => ((laws_eqTally.f k x120000 x120001 bt125.1 bt125.2).bind fun t131 => (if t131 = true then ((laws_markTally.f k x120000 x120001 1).bind fun bt132 => (if bt132.1 < 0 then (laws_FnExactGroupsOf.j1 k x4 x5 x7 true x102000 x102001) else ((laws_eqIntSS.f k x7 x4).bind fun t135 => (if t135 = true then (laws_FnExactGroupsOf.j1 k x4 x5 x7 (x8 != x5) x102000 x102001) else (laws_FnExactGroupsOf.j1 k x4 x5 x7 true x102000 x102001))))) else (some false))))
def laws_FnExactGroupsOf.j1 : Nat → List (List Int) → Bool → List (List Int) → Bool → List Int → List Int → Option (Bool)
 | 0, _, _, _, _, _, _ => none
 | k + 1, x4, x5, x7, x61, x102000, x102001 => if x61 = true then (some false) else ((laws_markIntSS.f k x7 1).bind fun bt136 => ((laws_heldIntSS.f k bt136.2 1).bind fun t138 => (if t138 < 0 then (some false) else (if t138 = bt136.1 then ((laws_toTally.f k x102000 x102001).bind fun bt139 => ((impl_GroupsOf.f k bt139.1 bt139.2).bind fun bt145 => ((laws_eqIntSS.f k bt145.1 x4).bind fun t149 => (if t149 = true then (laws_FnExactGroupsOf.j2 k bt136.2 bt136.1 (bt145.2 != x5)) else (laws_FnExactGroupsOf.j2 k bt136.2 bt136.1 true))))) else (some false)))))
def laws_FnExactGroupsOf.j2 : Nat → List (List Int) → Int → Bool → Option (Bool)
 | 0, _, _, _ => none
 | k + 1, x7, x10, x87 => if x87 = true then (some false) else ((laws_heldIntSS.f k x7 1).bind fun t150 => (if t150 < 0 then (some false) else (if t150 = x10 then (some true) else (some false))))
end
def laws_FnExactGroupsOf.f (k : Nat) (l0_0 : List Int) (l0_1 : List Int) : Option (Bool) := (laws_szTally.f l0_0 l0_1 1048576).bind fun t102 => (if t102 < 0 then (some true) else ((laws_toTally.f k l0_0 l0_1).bind fun bt103 => ((spec_GroupsOf.f k bt103.1 bt103.2).bind fun bt109 => ((laws_toTally.f k l0_0 l0_1).bind fun bt113 => ((impl_GroupsOf.f k bt113.1 bt113.2).bind fun bt120 => ((laws_eqIntSS.f k bt120.1 bt109.1).bind fun t124 => (if t124 = true then (laws_FnExactGroupsOf.j0 k bt109.1 bt109.2 bt120.1 bt120.2 (bt120.2 != bt109.2) l0_0 l0_1 bt113.1 bt113.2) else (laws_FnExactGroupsOf.j0 k bt109.1 bt109.2 bt120.1 bt120.2 true l0_0 l0_1 bt113.1 bt113.2))))))))
theorem laws_FnExactGroupsOf.calls (k : Nat) (A0_0 : Option Addr) (c0_0 : Nat) (l0_0 : List Int) (A0_1 : Option Addr) (c0_1 : Nat) (l0_1 : List Int) (r : Bool) (w : World) (hr0_0 : Kd.C (Kd.int .i64) w A0_0 l0_0.length l0_0) (hc0_0 : l0_0.length ≤ c0_0) (hr0_1 : Kd.C (Kd.int .i64) w A0_1 l0_1.length l0_1) (hc0_1 : l0_1.length ≤ c0_1) (h : laws_FnExactGroupsOf.f k l0_0 l0_1 = some r) :
  Calls Try.prog 4 #[.agg #[.slice A0_0 l0_0.length c0_0, .slice A0_1 l0_1.length c0_1]] w fun e w' => e = .returned (.bool r) ∧ Below w.heap.size w w' := by
 have hu49 := Try.underlying49
 have hu26 := Try.underlying26
 have HR0_0 := Aside0.mk hr0_0
 have HC0_0 := Aside0.mk hc0_0
 clear hr0_0 hc0_0
 have HR0_1 := Aside0.mk hr0_1
 have HC0_1 := Aside0.mk hc0_1
 clear hr0_1 hc0_1
 have HB := aK (Below.refl w.heap.size w)
 have H : ((laws_szTally.f l0_0 l0_1 1048576).bind fun t102 => (if t102 < 0 then (some true) else ((laws_toTally.f k l0_0 l0_1).bind fun bt103 => ((spec_GroupsOf.f k bt103.1 bt103.2).bind fun bt109 => ((laws_toTally.f k l0_0 l0_1).bind fun bt113 => ((impl_GroupsOf.f k bt113.1 bt113.2).bind fun bt120 => ((laws_eqIntSS.f k bt120.1 bt109.1).bind fun t124 => (if t124 = true then (laws_FnExactGroupsOf.j0 k bt109.1 bt109.2 bt120.1 bt120.2 (bt120.2 != bt109.2) l0_0 l0_1 bt113.1 bt113.2) else (laws_FnExactGroupsOf.j0 k bt109.1 bt109.2 bt120.1 bt120.2 true l0_0 l0_1 bt113.1 bt113.2))))))))) = some r := h
 clear h
 replace H := Option.bind_eq_some_iff.mp H
 obtain ⟨t102, A20, H⟩ := H
 replace H : (if t102 < 0 then (some true) else ((laws_toTally.f k l0_0 l0_1).bind fun bt103 => ((spec_GroupsOf.f k bt103.1 bt103.2).bind fun bt109 => ((laws_toTally.f k l0_0 l0_1).bind fun bt113 => ((impl_GroupsOf.f k bt113.1 bt113.2).bind fun bt120 => ((laws_eqIntSS.f k bt120.1 bt109.1).bind fun t124 => (if t124 = true then (laws_FnExactGroupsOf.j0 k bt109.1 bt109.2 bt120.1 bt120.2 (bt120.2 != bt109.2) l0_0 l0_1 bt113.1 bt113.2) else (laws_FnExactGroupsOf.j0 k bt109.1 bt109.2 bt120.1 bt120.2 true l0_0 l0_1 bt113.1 bt113.2)))))))) = some r := H
 have A2 := Aside0.mk A20
 clear A20
 by_cases c3 : t102 < 0
 ·
  rw [if_pos c3] at H
  have c3b0 : decide (t102 < 0) = true := decide_eq_true c3
  clear c3
  obtain rfl := Option.some.inj H
  go_enter Try.func4, Try.ntmps4
  go_wp2_with (first | ((with_reducible refine gate_dst (N := 1) rfl ?_); refine bxe (cs := #[.slice A0_0 l0_0.length c0_0, .slice A0_1 l0_1.length c0_1]) (t := 49) ?_; intro gb101 hg w4 hbox hb; have BK101 := aK (hbox); have GW101 := aK (gE hg (pS HB.out)); have GE101 := GW101; replace HB := bS HB hb; clear hb hbox hg; obtain ⟨hcz5_0, hcz5_1, hfz5_0, hfz5_1⟩ := bc2 BK101.out) | ((with_reducible refine gate_callee (f := 23) rfl ?_); refine gl (some 16) Try.func23 #[.agg #[.slice A0_0 l0_0.length c0_0, .slice A0_1 l0_1.length c0_1], .int .i64 1048576] ?_; (with_reducible refine (laws_szTally.calls _ _ l0_0 _ _ l0_1 1048576 t102 _ ?side1 ?side2 ?side3 ?side4 A2.out).mono ?_); (case side1 => exact pC (Kd.C_below HR0_0.out HB.out)); (case side2 => exact HC0_0.out); (case side3 => exact pC (Kd.C_below HR0_1.out HB.out)); (case side4 => exact HC0_1.out); rintro e w6 ⟨rfl, hb⟩; refine ⟨_, rfl, ?_⟩; replace HB := bS HB hb; (try clear hb); (try clear hb2); (try clear hk); (try clear hi)))
  go_ret
  exact ⟨er, pT HB.out⟩
 rw [if_neg c3] at H
 have c3b0 : decide (t102 < 0) = false := decide_eq_false c3
 clear c3
 replace H := Option.bind_eq_some_iff.mp H
 obtain ⟨⟨t103, t106⟩, A70, H⟩ := H
 replace H : ((spec_GroupsOf.f k t103 t106).bind fun bt109 => ((laws_toTally.f k l0_0 l0_1).bind fun bt113 => ((impl_GroupsOf.f k bt113.1 bt113.2).bind fun bt120 => ((laws_eqIntSS.f k bt120.1 bt109.1).bind fun t124 => (if t124 = true then (laws_FnExactGroupsOf.j0 k bt109.1 bt109.2 bt120.1 bt120.2 (bt120.2 != bt109.2) l0_0 l0_1 bt113.1 bt113.2) else (laws_FnExactGroupsOf.j0 k bt109.1 bt109.2 bt120.1 bt120.2 true l0_0 l0_1 bt113.1 bt113.2)))))) = some r := H
 have A7 := Aside0.mk A70
 clear A70
 replace H := Option.bind_eq_some_iff.mp H
 obtain ⟨⟨t109, t112⟩, A80, H⟩ := H
 replace H : ((laws_toTally.f k l0_0 l0_1).bind fun bt113 => ((impl_GroupsOf.f k bt113.1 bt113.2).bind fun bt120 => ((laws_eqIntSS.f k bt120.1 t109).bind fun t124 => (if t124 = true then (laws_FnExactGroupsOf.j0 k t109 t112 bt120.1 bt120.2 (bt120.2 != t112) l0_0 l0_1 bt113.1 bt113.2) else (laws_FnExactGroupsOf.j0 k t109 t112 bt120.1 bt120.2 true l0_0 l0_1 bt113.1 bt113.2))))) = some r := H
 have A8 := Aside0.mk A80
 clear A80
 replace H := Option.bind_eq_some_iff.mp H
 obtain ⟨⟨t113, t116⟩, A90, H⟩ := H
 replace H : ((impl_GroupsOf.f k t113 t116).bind fun bt120 => ((laws_eqIntSS.f k bt120.1 t109).bind fun t124 => (if t124 = true then (laws_FnExactGroupsOf.j0 k t109 t112 bt120.1 bt120.2 (bt120.2 != t112) l0_0 l0_1 t113 t116) else (laws_FnExactGroupsOf.j0 k t109 t112 bt120.1 bt120.2 true l0_0 l0_1 t113 t116)))) = some r := H
 have A9 := Aside0.mk A90
 clear A90
 replace H := Option.bind_eq_some_iff.mp H
 obtain ⟨⟨t120, t123⟩, A100, H⟩ := H
 replace H : ((laws_eqIntSS.f k t120 t109).bind fun t124 => (if t124 = true then (laws_FnExactGroupsOf.j0 k t109 t112 t120 t123 (t123 != t112) l0_0 l0_1 t113 t116) else (laws_FnExactGroupsOf.j0 k t109 t112 t120 t123 true l0_0 l0_1 t113 t116))) = some r := H
 have A10 := Aside0.mk A100
 clear A100
 have HC11 := Aside0.mk H
 clear H
 go_enter Try.func4, Try.ntmps4
 go_upto_region 8 with (first | ((with_reducible refine gate_dst (N := 1) rfl ?_); refine bxe (cs := #[.slice A0_0 l0_0.length c0_0, .slice A0_1 l0_1.length c0_1]) (t := 49) ?_; intro gb101 hg w12 hbox hb; have BK101 := aK (hbox); have GW101 := aK (gE hg (pS HB.out)); have GE101 := GW101; replace HB := bS HB hb; clear hb hbox hg; obtain ⟨hcz13_0, hcz13_1, hfz13_0, hfz13_1⟩ := bc2 BK101.out) | ((with_reducible refine gate_callee (f := 23) rfl ?_); refine gl (some 16) Try.func23 #[.agg #[.slice A0_0 l0_0.length c0_0, .slice A0_1 l0_1.length c0_1], .int .i64 1048576] ?_; (with_reducible refine (laws_szTally.calls _ _ l0_0 _ _ l0_1 1048576 t102 _ ?side1 ?side2 ?side3 ?side4 A2.out).mono ?_); (case side1 => exact pC (Kd.C_below HR0_0.out HB.out)); (case side2 => exact HC0_0.out); (case side3 => exact pC (Kd.C_below HR0_1.out HB.out)); (case side4 => exact HC0_1.out); rintro e w14 ⟨rfl, hb⟩; refine ⟨_, rfl, ?_⟩; replace BK101 := bB BK101 hb; replace HB := bS HB hb; (try clear hb); (try clear hb2); (try clear hk); (try clear hi); obtain ⟨hcz15_0, hcz15_1, hfz15_0, hfz15_1⟩ := bc2 BK101.out) | ((with_reducible refine gate_callee (f := 25) rfl ?_); refine gl (some 21) Try.func25 #[.agg #[.slice A0_0 l0_0.length c0_0, .slice A0_1 l0_1.length c0_1]] ?_; (with_reducible refine (laws_toTally.calls k _ _ l0_0 _ _ l0_1 t103 t106 _ ?side1 ?side2 ?side3 ?side4 A7.out).mono ?_); (case side1 => exact pC (Kd.C_below HR0_0.out HB.out)); (case side2 => exact HC0_0.out); (case side3 => exact pC (Kd.C_below HR0_1.out HB.out)); (case side4 => exact HC0_1.out); rintro e w16 ⟨v104, v107, rfl, ho0, ho1, hb⟩; refine ⟨_, rfl, ?_⟩; have HO105 := aK (Kd.R_lower ho0 (below_size (pS HB.out))); have HO108 := aK (Kd.R_lower ho1 (below_size (pS HB.out))); replace BK101 := bB BK101 hb; replace HB := bS HB hb; (try clear hb); (try clear hb2); (try clear hk); (try clear hi); (try clear ho0); (try clear ho1); obtain ⟨Ao17, co17, eo17⟩ := Kd.R_slice HO105.out; subst eo17; obtain ⟨Ao18, co18, eo18⟩ := Kd.R_slice HO108.out; subst eo18) | ((with_reducible refine gate_callee (f := 24) rfl ?_); refine gl (some 22) Try.func24 #[.agg #[.slice Ao17 t103.length co17, .slice Ao18 t106.length co18]] ?_; (with_reducible refine (spec_GroupsOf.calls k _ _ t103 _ _ t106 t109 t112 _ ?side1 ?side2 ?side3 ?side4 A8.out).mono ?_); (case side1 => exact pC (Kd.R_reads' HO105.out).2.2); (case side2 => exact (Kd.R_reads' HO105.out).2.1); (case side3 => exact pC (Kd.R_reads' HO108.out).2.2); (case side4 => exact (Kd.R_reads' HO108.out).2.1); rintro e w19 ⟨v110, rfl, ho0, hb⟩; refine ⟨_, rfl, ?_⟩; obtain ⟨sz1, hsz1⟩ := mpM hb; have n0_ := aK (Kd.R_below (pR HO105.out) hb); have n1_ := aK (Kd.R_below (pR HO108.out) hb); have HO111 := aK (Kd.S_lower (Kd.S_new' (Kd.S_new' (mpN ho0 hsz1) (Kd.R_lt (pR HO105.out))) (Kd.R_lt (pR HO108.out))) (below_size (pS HB.out))); replace BK101 := bB BK101 hb; replace HB := bS HB hb; clear HO105 HO108; have HO105 := n0_; have HO108 := n1_; clear n0_ n1_; (try clear hb); (try clear hb2); (try clear hk); (try clear hi); (try clear ho0); obtain ⟨hcz20_0, hcz20_1, hfz20_0, hfz20_1⟩ := bc2 BK101.out) | ((with_reducible refine gate_callee (f := 25) rfl ?_); refine gl (some 26) Try.func25 #[.agg #[.slice A0_0 l0_0.length c0_0, .slice A0_1 l0_1.length c0_1]] ?_; (with_reducible refine (laws_toTally.calls k _ _ l0_0 _ _ l0_1 t113 t116 _ ?side1 ?side2 ?side3 ?side4 A9.out).mono ?_); (case side1 => exact pC (Kd.C_below HR0_0.out HB.out)); (case side2 => exact HC0_0.out); (case side3 => exact pC (Kd.C_below HR0_1.out HB.out)); (case side4 => exact HC0_1.out); rintro e w21 ⟨v114, v117, rfl, ho0, ho1, hb⟩; refine ⟨_, rfl, ?_⟩; have n0_ := aK (rO2 (pR HO105.out) hb ho0 ho1); have n1_ := aK (rO2 (pR HO108.out) hb ho0 ho1); have n2_ := aK (Kd.S_mono (Kd.S_told (Kd.S_told (Kd.S_old (by (with_reducible repeat (first | apply Kd.S_alloc | apply Kd.S_drewN | apply Kd.S_drew)); exact HO111.out) hb) (Kd.R_base ho0)) (Kd.R_base ho1)) (fun _ h_ => h_.1)); have HO115 := aK (Kd.R_lower (nw2 ho0 (pR HO105.out) (pR HO108.out)) (below_size (pS HB.out))); have HO118 := aK (Kd.R_lower (nw2 ho1 (pR HO105.out) (pR HO108.out)) (below_size (pS HB.out))); replace BK101 := bB BK101 hb; replace HB := bS HB hb; clear HO105 HO108 HO111; have HO105 := n0_; have HO108 := n1_; have HO111 := n2_; clear n0_ n1_ n2_; (try clear hb); (try clear hb2); (try clear hk); (try clear hi); (try clear ho0); (try clear ho1)) | ((with_reducible refine gate_dst (N := 6) rfl ?_); refine bxe (cs := #[.slice none 0 0, .slice none 0 0]) (t := 26) ?_; intro gb119 hg w22 hbox hb; have n0_ := aK (Kd.R_below (pR HO105.out) hb); have n1_ := aK (Kd.R_below (pR HO108.out) hb); have n2_ := aK (Kd.S_below (by (with_reducible repeat (first | apply Kd.S_alloc | apply Kd.S_drewN | apply Kd.S_drew)); exact HO111.out) hb); have n3_ := aK (Kd.R_below (pR HO115.out) hb); have n4_ := aK (Kd.R_below (pR HO118.out) hb); have BK119 := aK (hbox); have GW119 := aK (gE hg (pS HB.out)); have GE119 := GW119; obtain ⟨NB101_119, NB119_101⟩ := nb hg (pB BK101.out); replace BK101 := bB BK101 hb; replace HB := bS HB hb; clear HO105 HO108 HO111 HO115 HO118; have HO105 := n0_; have HO108 := n1_; have HO111 := n2_; have HO115 := n3_; have HO118 := n4_; clear n0_ n1_ n2_ n3_ n4_ hb hbox hg; obtain ⟨Ao23, co23, eo23⟩ := Kd.R_slice HO115.out; subst eo23; have hnb24 := NB119_101.out; have hnc24 := NB101_119.out; obtain ⟨hcz25_0, hcz25_1, hfz25_0, hfz25_1⟩ := bc2 BK119.out; obtain ⟨Ao26, co26, eo26⟩ := Kd.R_slice HO118.out; subst eo26) | ((with_reducible refine gate_callee (f := 26) rfl ?_); refine gl (some 29) Try.func26 #[.agg #[.slice Ao23 t113.length co23, .slice Ao26 t116.length co26]] ?_; (with_reducible refine (impl_GroupsOf.calls k _ _ t113 _ _ t116 t120 t123 _ ?side1 ?side2 ?side3 ?side4 A10.out).mono ?_); (case side1 => exact rC (pR (rF2 HO115.out BK119.out (.slice Ao23 t113.length co23) (.slice Ao26 t116.length co26)))); (case side2 => exact (Kd.R_reads' HO115.out).2.1); (case side3 => exact rC (pR (rF2 HO118.out BK119.out (.slice Ao23 t113.length co23) (.slice Ao26 t116.length co26)))); (case side4 => exact (Kd.R_reads' HO118.out).2.1); rintro e w27 ⟨v121, rfl, ho0, hb⟩; refine ⟨_, rfl, ?_⟩; obtain ⟨sz2, hsz2⟩ := mpM hb; have e4_ := aR hb (pR (rF2 HO105.out BK119.out (.slice Ao23 t113.length co23) (.slice Ao26 t116.length co26))); have n0_ := aK (Kd.R_below e4_.out hb); have e3_ := aR hb (pR (rF2 HO108.out BK119.out (.slice Ao23 t113.length co23) (.slice Ao26 t116.length co26))); have n1_ := aK (Kd.R_below e3_.out hb); have n2_ := aK (mpE2 (by (with_reducible repeat (first | apply Kd.S_alloc | apply Kd.S_drewN | apply Kd.S_drew)); exact (Kd.S_mono (Kd.S_far (p := ⟨gb119, 1, none⟩) (Kd.S_far (p := ⟨gb119, 0, none⟩) (Kd.S_types HO111.out BK119.out (by decide)) (fun _ hk => hk.2) (.slice Ao23 t113.length co23)) (fun _ hk => hk.2) (.slice Ao26 t116.length co26)) (fun _ h_ => h_.1))) hb hsz2 (Kd.S_base ho0)); have e2_ := aR hb (pR (rF2 HO115.out BK119.out (.slice Ao23 t113.length co23) (.slice Ao26 t116.length co26))); have n3_ := aK (Kd.R_below e2_.out hb); have e1_ := aR hb (pR (rF2 HO118.out BK119.out (.slice Ao23 t113.length co23) (.slice Ao26 t116.length co26))); have n4_ := aK (Kd.R_below e1_.out hb); have HO122 := aK (Kd.S_lower (Kd.S_new' (Kd.S_new' (Kd.S_new' (Kd.S_new' (Kd.S_new' (mpN ho0 hsz2) (Kd.R_lt e4_.out)) (Kd.R_lt e3_.out)) (Kd.S_lt (by (with_reducible repeat (first | apply Kd.S_alloc | apply Kd.S_drewN | apply Kd.S_drew)); exact (Kd.S_mono (Kd.S_far (p := ⟨gb119, 1, none⟩) (Kd.S_far (p := ⟨gb119, 0, none⟩) (Kd.S_types HO111.out BK119.out (by decide)) (fun _ hk => hk.2) (.slice Ao23 t113.length co23)) (fun _ hk => hk.2) (.slice Ao26 t116.length co26)) (fun _ h_ => h_.1))))) (Kd.R_lt e2_.out)) (Kd.R_lt e1_.out)) (below_size (pS HB.out))); clear e4_; clear e3_; clear e2_; clear e1_; have n6_ := aK (blk_below (g := gb101) (o := .cells #[.slice A0_0 l0_0.length c0_0, .slice A0_1 l0_1.length c0_1] 49 (0, 0)) (by refine bk ?_; refine blk_far ?_ NB101_119.out _; refine bk ?_; refine blk_far ?_ NB101_119.out _; refine bk ?_; exact BK101.out) hb); have n7_ := aK (blk_below (g := gb119) (o := .cells #[.slice Ao23 t113.length co23, .slice Ao26 t116.length co26] 26 (0, 0)) (by refine bk ?_; refine blk_put (cs := #[.slice Ao23 t113.length co23, .slice none 0 0]) ?_ 1 _ rfl; refine bk ?_; refine blk_put (cs := #[.slice none 0 0, .slice none 0 0]) ?_ 0 _ rfl; refine bk ?_; exact BK119.out) hb); replace HB := bS HB hb; clear HO105 HO108 HO111 HO115 HO118 BK101 BK119; have HO105 := n0_; have HO108 := n1_; have HO111 := n2_; have HO115 := n3_; have HO118 := n4_; have BK101 := n6_; have BK119 := n7_; clear n0_ n1_ n2_ n3_ n4_ n6_ n7_; (try clear hb); (try clear hb2); (try clear hk); (try clear hi); (try clear ho0)))
 (try simp only [Act.put, List.setIfInBounds_toArray, List.set_cons_zero, List.set_cons_succ])
 go_cut [40] (fun v40 wc => ∃ (kq : Nat) (x40_10 : Bool), v40 = .bool x40_10 ∧ Aside0 (laws_FnExactGroupsOf.j0 kq t109 t112 t120 t123 x40_10 l0_0 l0_1 t113 t116 = some r) ∧ Aside0 (kq ≤ k) ∧ Aside0 (Kd.S (Kd.slice 3 (Kd.int .i64)) 24 wc w.heap.size (fun k_ => some k_ ≠ (v121 : Value).ownBlock ∧ some k_ ≠ ((.slice Ao23 t113.length co23) : Value).ownBlock ∧ some k_ ≠ ((.slice Ao26 t116.length co26) : Value).ownBlock ∧ k_ < sz2 ∧ sz1 ≤ k_) v110 t109) ∧ Aside0 (Kd.S (Kd.slice 3 (Kd.int .i64)) 24 wc w.heap.size (fun k_ => some k_ ≠ (v110 : Value).ownBlock ∧ some k_ ≠ ((.slice Ao23 t113.length co23) : Value).ownBlock ∧ some k_ ≠ ((.slice Ao26 t116.length co26) : Value).ownBlock ∧ sz2 ≤ k_) v121 t120) ∧ Aside0 (Kd.R (Kd.int .i64) 3 wc w.heap.size (fun k_ => some k_ ≠ ((.slice Ao26 t116.length co26) : Value).ownBlock) (.slice Ao23 t113.length co23) t113) ∧ Aside0 (Kd.R (Kd.int .i64) 3 wc w.heap.size (fun k_ => some k_ ≠ ((.slice Ao23 t113.length co23) : Value).ownBlock) (.slice Ao26 t116.length co26) t116) ∧ Aside0 (wc.heap[gb101]? = some (.cells #[(.slice A0_0 l0_0.length c0_0), (.slice A0_1 l0_1.length c0_1)] 49 (0, 0))) ∧ Aside0 (wc.heap[gb119]? = some (.cells #[(.slice Ao23 t113.length co23), (.slice Ao26 t116.length co26)] 26 (0, 0))) ∧ Aside0 (Below w.heap.size w wc))
 case first =>
  have H := HC11.out
  clear HC11
  replace H := Option.bind_eq_some_iff.mp H
  obtain ⟨t124, A280, H⟩ := H
  replace H : (if t124 = true then (laws_FnExactGroupsOf.j0 k t109 t112 t120 t123 (t123 != t112) l0_0 l0_1 t113 t116) else (laws_FnExactGroupsOf.j0 k t109 t112 t120 t123 true l0_0 l0_1 t113 t116)) = some r := H
  have A28 := Aside0.mk A280
  clear A280
  by_cases c29 : t124 = true
  ·
   subst c29
   have H1 : (laws_FnExactGroupsOf.j0 k t109 t112 t120 t123 (t123 != t112) l0_0 l0_1 t113 t116) = some r := by rw [if_pos rfl] at H; exact H
   clear H
   have H := H1
   clear H1
   have H' := Aside0.mk H
   clear H
   obtain ⟨Ao30, co30, eo30⟩ := Kd.S_slice HO122.out
   subst eo30
   obtain ⟨Ao31, co31, eo31⟩ := Kd.S_slice HO111.out
   subst eo31
   go_wp2_with (first | ((with_reducible refine gate_callee (f := 27) rfl ?_); refine gl (some 34) Try.func27 #[.slice Ao30 t120.length co30, .slice Ao31 t109.length co31] ?_; (with_reducible refine (laws_eqIntSS.calls k _ _ t120 _ _ t109 true _ ?side1 ?side2 ?side3 ?side4 A28.out).mono ?_); (case side1 => exact pC (Kd.S_reads' HO122.out).2.2); (case side2 => exact (Kd.S_reads' HO122.out).2.1); (case side3 => exact pC (Kd.S_reads' HO111.out).2.2); (case side4 => exact (Kd.S_reads' HO111.out).2.1); rintro e w' ⟨rfl, ⟨nd, rfl⟩⟩; refine ⟨_, rfl, ?_⟩))
   go_meet
   case rel => exact ⟨_, ((t123 != t112)), (by first | rfl | (simp; done) | (simp [*]; done)), H', ⟨by first | omega | exact Nat.le_refl _⟩, ⟨by (with_reducible repeat (first | apply Kd.S_alloc | apply Kd.S_drewN | apply Kd.S_drew)); exact Kd.S_mono HO111.out (fun _ hk => ⟨hk.2, ⟨hk.1.1.1.2, ⟨hk.1.1.2, ⟨hk.1.2, hk.1.1.1.1.1.1⟩⟩⟩⟩)⟩, ⟨by (with_reducible repeat (first | apply Kd.S_alloc | apply Kd.S_drewN | apply Kd.S_drew)); exact Kd.S_mono HO122.out (fun _ hk => ⟨hk.1.1.2, ⟨hk.1.2, ⟨hk.2, hk.1.1.1.1.1⟩⟩⟩)⟩, ⟨pR (Kd.R_mono HO115.out (fun _ hk => hk.1.1))⟩, ⟨pR (Kd.R_mono HO118.out (fun _ hk => hk.1.1))⟩, ⟨by refine bk ?_; exact BK101.out⟩, ⟨by refine bk ?_; exact BK119.out⟩, ⟨pT HB.out⟩⟩
  replace c29 := Bool.eq_false_iff.mpr c29
  subst c29
  have H1 : (laws_FnExactGroupsOf.j0 k t109 t112 t120 t123 true l0_0 l0_1 t113 t116) = some r := by rw [if_neg (show ¬ (false = true) by decide)] at H; exact H
  clear H
  have H := H1
  clear H1
  have H' := Aside0.mk H
  clear H
  obtain ⟨Ao32, co32, eo32⟩ := Kd.S_slice HO122.out
  subst eo32
  obtain ⟨Ao33, co33, eo33⟩ := Kd.S_slice HO111.out
  subst eo33
  go_wp2_with (first | ((with_reducible refine gate_callee (f := 27) rfl ?_); refine gl (some 34) Try.func27 #[.slice Ao32 t120.length co32, .slice Ao33 t109.length co33] ?_; (with_reducible refine (laws_eqIntSS.calls k _ _ t120 _ _ t109 false _ ?side1 ?side2 ?side3 ?side4 A28.out).mono ?_); (case side1 => exact pC (Kd.S_reads' HO122.out).2.2); (case side2 => exact (Kd.S_reads' HO122.out).2.1); (case side3 => exact pC (Kd.S_reads' HO111.out).2.2); (case side4 => exact (Kd.S_reads' HO111.out).2.1); rintro e w' ⟨rfl, ⟨nd, rfl⟩⟩; refine ⟨_, rfl, ?_⟩))
  go_meet
  case rel => exact ⟨_, (true), (by first | rfl | (simp; done) | (simp [*]; done)), H', ⟨by first | omega | exact Nat.le_refl _⟩, ⟨by (with_reducible repeat (first | apply Kd.S_alloc | apply Kd.S_drewN | apply Kd.S_drew)); exact Kd.S_mono HO111.out (fun _ hk => ⟨hk.2, ⟨hk.1.1.1.2, ⟨hk.1.1.2, ⟨hk.1.2, hk.1.1.1.1.1.1⟩⟩⟩⟩)⟩, ⟨by (with_reducible repeat (first | apply Kd.S_alloc | apply Kd.S_drewN | apply Kd.S_drew)); exact Kd.S_mono HO122.out (fun _ hk => ⟨hk.1.1.2, ⟨hk.1.2, ⟨hk.2, hk.1.1.1.1.1⟩⟩⟩)⟩, ⟨pR (Kd.R_mono HO115.out (fun _ hk => hk.1.1))⟩, ⟨pR (Kd.R_mono HO118.out (fun _ hk => hk.1.1))⟩, ⟨by refine bk ?_; exact BK101.out⟩, ⟨by refine bk ?_; exact BK119.out⟩, ⟨pT HB.out⟩⟩
 case rest =>
  clear HC11
  try clear c2
  try clear p2
  try clear c3
  try clear c3b0
  try clear c4
  try clear c23
  try clear c24
  try clear c25
  try clear c26
  try clear c27
  try clear c29
  try clear hcz13_0
  try clear hcz13_1
  try clear hcz15_0
  try clear hcz15_1
  try clear hcz20_0
  try clear hcz20_1
  try clear hcz25_0
  try clear hcz25_1
  try clear hcz5_0
  try clear hcz5_1
  try clear hfz13_0
  try clear hfz13_1
  try clear hfz15_0
  try clear hfz15_1
  try clear hfz20_0
  try clear hfz20_1
  try clear hfz25_0
  try clear hfz25_1
  try clear hfz5_0
  try clear hfz5_1
  obtain ⟨kq, x40_10, rfl, HA, HJ10, HO_4, HO_7, HO_120000, HO_120001, BK101, BK119, HB⟩ := hcut
  cases kq with
  | zero => exact absurd HA.out (by simp [laws_FnExactGroupsOf.j0])
  | succ kj10 =>
   have H := HA.out
   clear HA
   simp only [laws_FnExactGroupsOf.j0] at H
   by_cases c34 : x40_10 = true
   ·
    subst c34
    have H1 : (some false) = some r := by rw [if_pos rfl] at H; exact H
    clear H
    have H := H1
    clear H1
    obtain rfl := Option.some.inj H
    go_wp2
    go_ret
    exact ⟨er, pT HB.out⟩
   replace c34 := Bool.eq_false_iff.mpr c34
   subst c34
   have H1 : ((laws_toTally.f kj10 l0_0 l0_1).bind fun bt125 => ((laws_eqTally.f kj10 t113 t116 bt125.1 bt125.2).bind fun t131 => (if t131 = true then ((laws_markTally.f kj10 t113 t116 1).bind fun bt132 => (if bt132.1 < 0 then (laws_FnExactGroupsOf.j1 kj10 t109 t112 t120 true l0_0 l0_1) else ((laws_eqIntSS.f kj10 t120 t109).bind fun t135 => (if t135 = true then (laws_FnExactGroupsOf.j1 kj10 t109 t112 t120 (t123 != t112) l0_0 l0_1) else (laws_FnExactGroupsOf.j1 kj10 t109 t112 t120 true l0_0 l0_1))))) else (some false)))) = some r := by rw [if_neg (show ¬ (false = true) by decide)] at H; exact H
   clear H
   have H := H1
   clear H1
   replace H := Option.bind_eq_some_iff.mp H
   obtain ⟨⟨t125, t128⟩, A350, H⟩ := H
   replace H : ((laws_eqTally.f kj10 t113 t116 t125 t128).bind fun t131 => (if t131 = true then ((laws_markTally.f kj10 t113 t116 1).bind fun bt132 => (if bt132.1 < 0 then (laws_FnExactGroupsOf.j1 kj10 t109 t112 t120 true l0_0 l0_1) else ((laws_eqIntSS.f kj10 t120 t109).bind fun t135 => (if t135 = true then (laws_FnExactGroupsOf.j1 kj10 t109 t112 t120 (t123 != t112) l0_0 l0_1) else (laws_FnExactGroupsOf.j1 kj10 t109 t112 t120 true l0_0 l0_1))))) else (some false))) = some r := H
   have A35 := Aside0.mk A350
   clear A350
   replace H := Option.bind_eq_some_iff.mp H
   obtain ⟨t131, A360, H⟩ := H
   replace H : (if t131 = true then ((laws_markTally.f kj10 t113 t116 1).bind fun bt132 => (if bt132.1 < 0 then (laws_FnExactGroupsOf.j1 kj10 t109 t112 t120 true l0_0 l0_1) else ((laws_eqIntSS.f kj10 t120 t109).bind fun t135 => (if t135 = true then (laws_FnExactGroupsOf.j1 kj10 t109 t112 t120 (t123 != t112) l0_0 l0_1) else (laws_FnExactGroupsOf.j1 kj10 t109 t112 t120 true l0_0 l0_1))))) else (some false)) = some r := H
   have A36 := Aside0.mk A360
   clear A360
   by_cases c37 : t131 = true
   ·
    subst c37
    have H1 : ((laws_markTally.f kj10 t113 t116 1).bind fun bt132 => (if bt132.1 < 0 then (laws_FnExactGroupsOf.j1 kj10 t109 t112 t120 true l0_0 l0_1) else ((laws_eqIntSS.f kj10 t120 t109).bind fun t135 => (if t135 = true then (laws_FnExactGroupsOf.j1 kj10 t109 t112 t120 (t123 != t112) l0_0 l0_1) else (laws_FnExactGroupsOf.j1 kj10 t109 t112 t120 true l0_0 l0_1))))) = some r := by rw [if_pos rfl] at H; exact H
    clear H
    have H := H1
    clear H1
    replace H := Option.bind_eq_some_iff.mp H
    obtain ⟨⟨t132, t133, t134⟩, A380, H⟩ := H
    replace H : (if t132 < 0 then (laws_FnExactGroupsOf.j1 kj10 t109 t112 t120 true l0_0 l0_1) else ((laws_eqIntSS.f kj10 t120 t109).bind fun t135 => (if t135 = true then (laws_FnExactGroupsOf.j1 kj10 t109 t112 t120 (t123 != t112) l0_0 l0_1) else (laws_FnExactGroupsOf.j1 kj10 t109 t112 t120 true l0_0 l0_1)))) = some r := H
    have A38 := Aside0.mk A380
    clear A380
    have HC39 := Aside0.mk H
    clear H
    try go_wp2
    have n0_ := aK (Kd.S_drew HO_4.out)
    have n1_ := aK (Kd.S_drew HO_7.out)
    have n2_ := aK (Kd.R_drew HO_120000.out)
    have n3_ := aK (Kd.R_drew HO_120001.out)
    have n4_ := aK (blk_drew BK101.out)
    have n5_ := aK (blk_drew BK119.out)
    have n6_ := aK (below_drew1 HB.out)
    clear HO_4 HO_7 HO_120000 HO_120001 BK101 BK119 HB
    have HO_4 := n0_
    have HO_7 := n1_
    have HO_120000 := n2_
    have HO_120001 := n3_
    have BK101 := n4_
    have BK119 := n5_
    have HB := n6_
    clear n0_ n1_ n2_ n3_ n4_ n5_ n6_
    refine start_ (n := 5) (S := fun w' => w'.cell? ⟨gb119, 0, none⟩ = some (.slice Ao23 t113.length co23) ∧ w'.cell? ⟨gb119, 1, none⟩ = some (.slice Ao26 t116.length co26) ∧ w'.cell? ⟨gb101, 0, none⟩ = some (.slice A0_0 l0_0.length c0_0) ∧ w'.cell? ⟨gb101, 1, none⟩ = some (.slice A0_1 l0_1.length c0_1)) (ds := []) #[false, false, false, false, false] (by kernel_rfl) rfl rfl (cj2 BK119.out (cz2 BK101.out)) (fun hHeld => ?_)
    generalize wc.drew = w40 at HO_4 HO_7 HO_120000 HO_120001 BK101 BK119 HB hHeld ⊢
    refine take_ (i := 0) (N := some 41) (v := ?_) (a' := ?_) #[true, false, false, false, false] rfl rfl (by kernel_rfl) (fun _ _ _ h => h) (Or.inl ⟨by rfl, ?_⟩) hHeld ?_ ?_
    rotate_left
    ·
     rintro w' ⟨s0, s1, s2, s3⟩
     go_simp
     with_reducible rfl
    rotate_left
    ·
     simp only [sP]
     rfl
    refine take_ (i := 1) (N := some 42) (v := ?_) (a' := ?_) #[true, true, false, false, false] rfl rfl (by kernel_rfl) (fun _ _ _ h => h) (Or.inl ⟨by rfl, ?_⟩) hHeld ?_ ?_
    rotate_left
    ·
     rintro w' ⟨s0, s1, s2, s3⟩
     go_simp
     with_reducible rfl
    rotate_left
    ·
     simp only [sP]
     rfl
    refine one_ (i := 2) (N := some 43) #[true, true, true, false, false] rfl rfl (by kernel_rfl) (by decide) (fun K hK => ?_)
    refine goes_ Try.func25 (by kernel_rfl) rfl #[.agg #[.slice A0_0 l0_0.length c0_0, .slice A0_1 l0_1.length c0_1]] (by rfl) rfl rfl (by (try simp only [List.map_toArray, List.map_cons, List.map_nil]); first | done | rfl | (simp only [List.length_drop, List.length_take]; rfl)) ?_
    with_reducible refine (laws_toTally.calls kj10 _ _ l0_0 _ _ l0_1 t125 t128 _ ?side1 ?side2 ?side3 ?side4 A35.out).mono ?_
    (case side1 => exact pC (Kd.C_below HR0_0.out HB.out))
    (case side2 => exact HC0_0.out)
    (case side3 => exact pC (Kd.C_below HR0_1.out HB.out))
    (case side4 => exact HC0_1.out)
    rintro e w41 ⟨v126, v129, rfl, ho0, ho1, hb⟩
    refine ⟨_, rfl, ?_⟩
    have n0_ := aK (Kd.S_mono (Kd.S_told (Kd.S_told (Kd.S_old (by (with_reducible repeat (first | apply Kd.S_alloc | apply Kd.S_drewN | apply Kd.S_drew)); exact HO_4.out) hb) (Kd.R_base ho0)) (Kd.R_base ho1)) (fun _ h_ => h_.1))
    have n1_ := aK (Kd.S_mono (Kd.S_told (Kd.S_told (Kd.S_old (by (with_reducible repeat (first | apply Kd.S_alloc | apply Kd.S_drewN | apply Kd.S_drew)); exact HO_7.out) hb) (Kd.R_base ho0)) (Kd.R_base ho1)) (fun _ h_ => h_.1))
    have n2_ := aK (rO2 (pR HO_120000.out) hb ho0 ho1)
    have n3_ := aK (rO2 (pR HO_120001.out) hb ho0 ho1)
    have HO127 := aK (Kd.R_lower (nw2 ho0 (pR HO_120000.out) (pR HO_120001.out)) (below_size (pS HB.out)))
    have HO130 := aK (Kd.R_lower (nw2 ho1 (pR HO_120000.out) (pR HO_120001.out)) (below_size (pS HB.out)))
    replace BK101 := bB BK101 hb
    replace BK119 := bB BK119 hb
    replace HB := bS HB hb
    clear HO_4 HO_7 HO_120000 HO_120001
    have HO_4 := n0_
    have HO_7 := n1_
    have HO_120000 := n2_
    have HO_120001 := n3_
    clear n0_ n1_ n2_ n3_
    (try clear hb)
    (try clear hb2)
    (try clear hk)
    (try clear hi)
    (try clear ho0)
    (try clear ho1)
    obtain ⟨Ao42, co42, eo42⟩ := Kd.R_slice HO127.out
    (first | subst eo42 | (obtain ⟨f4_, f5_⟩ := sI eo42; subst f4_; subst f5_))
    obtain ⟨Ao43, co43, eo43⟩ := Kd.R_slice HO130.out
    (first | subst eo43 | (obtain ⟨f4_, f5_⟩ := sI eo43; subst f4_; subst f5_))
    refine hK.out _ _ (cj2 BK119.out (cz2 BK101.out)) (fun hHeld => ?_)
    clear hK K
    refine norm_ (a' := ?_) ?_ ?_
    rotate_left
    ·
     show Act.put _ (some 43) _ = _
     simp only [sP]
     rfl
    refine one_ (i := 3) (N := some 44) #[true, true, true, true, false] rfl rfl (by kernel_rfl) (by decide) (fun K hK => ?_)
    refine goes_ Try.func28 (by kernel_rfl) rfl #[.agg #[.slice Ao23 t113.length co23, .slice Ao26 t116.length co26], .agg #[.slice Ao42 t125.length co42, .slice Ao43 t128.length co43]] (by rfl) rfl rfl (by (try simp only [List.map_toArray, List.map_cons, List.map_nil]); first | done | rfl | (simp only [List.length_drop, List.length_take]; rfl)) ?_
    with_reducible refine (laws_eqTally.calls kj10 _ _ t113 _ _ t116 _ _ t125 _ _ t128 true _ ?side1 ?side2 ?side3 ?side4 ?side5 ?side6 ?side7 ?side8 A36.out).mono ?_
    (case side1 => exact pC (Kd.R_reads' HO_120000.out).2.2)
    (case side2 => exact (Kd.R_reads' HO_120000.out).2.1)
    (case side3 => exact pC (Kd.R_reads' HO_120001.out).2.2)
    (case side4 => exact (Kd.R_reads' HO_120001.out).2.1)
    (case side5 => exact pC (Kd.R_reads' HO127.out).2.2)
    (case side6 => exact (Kd.R_reads' HO127.out).2.1)
    (case side7 => exact pC (Kd.R_reads' HO130.out).2.2)
    (case side8 => exact (Kd.R_reads' HO130.out).2.1)
    rintro e w44 ⟨rfl, hb⟩
    refine ⟨_, rfl, ?_⟩
    have n0_ := aK (Kd.S_below (by (with_reducible repeat (first | apply Kd.S_alloc | apply Kd.S_drewN | apply Kd.S_drew)); exact HO_4.out) hb)
    have n1_ := aK (Kd.S_below (by (with_reducible repeat (first | apply Kd.S_alloc | apply Kd.S_drewN | apply Kd.S_drew)); exact HO_7.out) hb)
    have n2_ := aK (Kd.R_below (pR HO_120000.out) hb)
    have n3_ := aK (Kd.R_below (pR HO_120001.out) hb)
    have n4_ := aK (Kd.R_below (pR HO127.out) hb)
    have n5_ := aK (Kd.R_below (pR HO130.out) hb)
    replace BK101 := bB BK101 hb
    replace BK119 := bB BK119 hb
    replace HB := bS HB hb
    clear HO_4 HO_7 HO_120000 HO_120001 HO127 HO130
    have HO_4 := n0_
    have HO_7 := n1_
    have HO_120000 := n2_
    have HO_120001 := n3_
    have HO127 := n4_
    have HO130 := n5_
    clear n0_ n1_ n2_ n3_ n4_ n5_
    (try clear hb)
    (try clear hb2)
    (try clear hk)
    (try clear hi)
    refine hK.out _ _ (cj2 BK119.out (cz2 BK101.out)) (fun hHeld => ?_)
    clear hK K
    refine norm_ (a' := ?_) ?_ ?_
    rotate_left
    ·
     show Act.put _ (some 44) _ = _
     simp only [sP]
     rfl
    refine pure_ (i := 4) (N := some 45) (v := ?_) (a' := ?_) #[true, true, true, true, true] rfl rfl (by kernel_rfl) (fun _ _ _ h => h) (Or.inl ⟨by rfl, ?_⟩) ?_ ?_
    rotate_left
    ·
     intro w'
     go_simp
     with_reducible rfl
    rotate_left
    ·
     simp only [sP]
     rfl
    refine done_ (by kernel_rfl) ?_
    have hnb45 := NB119_101.out
    have hnc45 := NB101_119.out
    obtain ⟨hcz46_0, hcz46_1, hfz46_0, hfz46_1⟩ := bc2 BK119.out
    go_upto_region 14 with (first | ((with_reducible refine gate_callee (f := 29) rfl ?_); refine gl (some 48) Try.func29 #[.agg #[.slice Ao23 t113.length co23, .slice Ao26 t116.length co26], .int .i64 1] ?_; (with_reducible refine (laws_markTally.calls kj10 (fun k_ => some k_ = (.slice Ao23 t113.length co23 : Value).ownBlock) (.slice Ao23 t113.length co23) t113 (fun k_ => some k_ = (.slice Ao26 t116.length co26 : Value).ownBlock) (.slice Ao26 t116.length co26) t116 1 t132 t133 t134 w _ ?side1 ?side2 ?side3 ?side4 ?side5 A38.out).mono ?_); (case side1 => exact pT HB.out); (case side2 => exact Kd.R_tight rfl HO_120000.out); (case side3 => exact fun k_ e_ => (HO_120000.out.1 k_ e_.symm).1.1); (case side4 => exact Kd.R_tight rfl HO_120001.out); (case side5 => exact fun k_ e_ => (HO_120001.out.1 k_ e_.symm).1.1); rintro e w47 ⟨rfl, hy0, hy1, hb, hkp⟩; refine ⟨_, rfl, ?_⟩; have n0_ := aK (Kd.S_mono (ok' := fun k_ => some k_ ≠ (v121 : Value).ownBlock ∧ some k_ ≠ (.slice Ao23 t113.length co23 : Value).ownBlock ∧ some k_ ≠ (.slice Ao26 t116.length co26 : Value).ownBlock ∧ some k_ ≠ (.slice Ao42 t125.length co42 : Value).ownBlock ∧ some k_ ≠ (.slice Ao43 t128.length co43 : Value).ownBlock ∧ k_ < sz2 ∧ sz1 ≤ k_) (Kd.S_keptB (HO_4.out) hkp (fun k_ hk_ hs_ => Or.elim hs_ (fun e_ => (hk_.1.1.2.1) e_) (fun e_ => (hk_.1.1.2.2.1) e_))) (fun k_ hk_ => ⟨hk_.1.1.1.1, hk_.1.1.1.2.1, hk_.1.1.1.2.2.1, hk_.1.1.2, hk_.1.2, hk_.1.1.1.2.2.2.1, hk_.1.1.1.2.2.2.2⟩)); have n1_ := aK (Kd.S_mono (ok' := fun k_ => some k_ ≠ (v110 : Value).ownBlock ∧ some k_ ≠ (.slice Ao23 t113.length co23 : Value).ownBlock ∧ some k_ ≠ (.slice Ao26 t116.length co26 : Value).ownBlock ∧ some k_ ≠ (.slice Ao42 t125.length co42 : Value).ownBlock ∧ some k_ ≠ (.slice Ao43 t128.length co43 : Value).ownBlock ∧ sz2 ≤ k_) (Kd.S_keptB (HO_7.out) hkp (fun k_ hk_ hs_ => Or.elim hs_ (fun e_ => (hk_.1.1.2.1) e_) (fun e_ => (hk_.1.1.2.2.1) e_))) (fun k_ hk_ => ⟨hk_.1.1.1.1, hk_.1.1.1.2.1, hk_.1.1.1.2.2.1, hk_.1.1.2, hk_.1.2, hk_.1.1.1.2.2.2⟩)); have n2_ := aK (Kd.R_reok rfl hy0 (fun k_ e_ => HO_120000.out.1 k_ e_)); have n3_ := aK (Kd.R_reok rfl hy1 (fun k_ e_ => HO_120001.out.1 k_ e_)); have n4_ := aK (blk_kept (pB BK101.out) hkp (fun hs_ => Or.elim hs_ (fun e_ => (fun e_ => (Kd.R_ne HO_120000.out BK101.out (by decide)) e_) e_) (fun e_ => (fun e_ => (Kd.R_ne HO_120001.out BK101.out (by decide)) e_) e_))); have n5_ := aK (Kd.R_mono (ok' := fun k_ => some k_ ≠ (.slice Ao23 t113.length co23 : Value).ownBlock ∧ some k_ ≠ (.slice Ao26 t116.length co26 : Value).ownBlock ∧ some k_ ≠ (.slice Ao43 t128.length co43 : Value).ownBlock) (Kd.R_keptB (HO127.out) hkp (fun k_ hk_ hs_ => Or.elim hs_ (fun e_ => (hk_.1.2) e_) (fun e_ => (hk_.2) e_))) (fun k_ hk_ => ⟨hk_.1.1.2, hk_.1.2, hk_.1.1.1⟩)); have n6_ := aK (Kd.R_mono (ok' := fun k_ => some k_ ≠ (.slice Ao23 t113.length co23 : Value).ownBlock ∧ some k_ ≠ (.slice Ao26 t116.length co26 : Value).ownBlock ∧ some k_ ≠ (.slice Ao42 t125.length co42 : Value).ownBlock) (Kd.R_keptB (HO130.out) hkp (fun k_ hk_ hs_ => Or.elim hs_ (fun e_ => (hk_.1.2) e_) (fun e_ => (hk_.2) e_))) (fun k_ hk_ => ⟨hk_.1.1.2, hk_.1.2, hk_.1.1.1⟩)); have n7_ := aK (hb); clear HO_4 HO_7 HO_120000 HO_120001 BK101 HO127 HO130 HB; have HO_4 := n0_; have HO_7 := n1_; have HO_120000 := n2_; have HO_120001 := n3_; have BK101 := n4_; have HO127 := n5_; have HO130 := n6_; have HB := n7_; clear n0_ n1_ n2_ n3_ n4_ n5_ n6_ n7_; (try clear hb); (try clear hkp); (try clear hy0); (try clear hy1)))
    (try simp only [Act.put, List.setIfInBounds_toArray, List.set_cons_zero, List.set_cons_succ])
    go_cut [61] (fun v61 wc => ∃ (kq : Nat) (x61_38 : Bool), v61 = .bool x61_38 ∧ Aside0 (laws_FnExactGroupsOf.j1 kq t109 t112 t120 x61_38 l0_0 l0_1 = some r) ∧ Aside0 (kq ≤ kj10) ∧ Aside0 (Kd.S (Kd.slice 3 (Kd.int .i64)) 24 wc w.heap.size (fun k_ => some k_ ≠ (v121 : Value).ownBlock ∧ k_ < sz2 ∧ sz1 ≤ k_) v110 t109) ∧ Aside0 (Kd.S (Kd.slice 3 (Kd.int .i64)) 24 wc w.heap.size (fun k_ => some k_ ≠ (v110 : Value).ownBlock ∧ sz2 ≤ k_) v121 t120) ∧ Aside0 (wc.heap[gb101]? = some (.cells #[(.slice A0_0 l0_0.length c0_0), (.slice A0_1 l0_1.length c0_1)] 49 (0, 0))) ∧ Aside0 (Below w.heap.size w wc))
    case first =>
     have H := HC39.out
     clear HC39
     by_cases c48 : t132 < 0
     ·
      rw [if_pos c48] at H
      have c48b0 : decide (t132 < 0) = true := decide_eq_true c48
      clear c48
      (first | rw [c48b0] | (simp only [i64_w, i32_w]; rw [c48b0]) | skip)
      have H' := Aside0.mk H
      clear H
      go_wp2
      go_meet
      case rel => exact ⟨_, (true), (by first | rfl | (simp; done) | (simp [*]; done)), H', ⟨by have := HJ10.out; first | omega | exact Nat.le_refl _⟩, ⟨by (with_reducible repeat (first | apply Kd.S_alloc | apply Kd.S_drewN | apply Kd.S_drew)); exact Kd.S_mono HO_4.out (fun _ hk => ⟨hk.1, ⟨hk.2.2.2.2.2.1, hk.2.2.2.2.2.2⟩⟩)⟩, ⟨by (with_reducible repeat (first | apply Kd.S_alloc | apply Kd.S_drewN | apply Kd.S_drew)); exact Kd.S_mono HO_7.out (fun _ hk => ⟨hk.1, hk.2.2.2.2.2⟩)⟩, ⟨by refine bk ?_; exact BK101.out⟩, ⟨pT HB.out⟩⟩
     rw [if_neg c48] at H
     have c48b0 : decide (t132 < 0) = false := decide_eq_false c48
     clear c48
     (first | rw [c48b0] | (simp only [i64_w, i32_w]; rw [c48b0]) | skip)
     replace H := Option.bind_eq_some_iff.mp H
     obtain ⟨t135, A490, H⟩ := H
     replace H : (if t135 = true then (laws_FnExactGroupsOf.j1 kj10 t109 t112 t120 (t123 != t112) l0_0 l0_1) else (laws_FnExactGroupsOf.j1 kj10 t109 t112 t120 true l0_0 l0_1)) = some r := H
     have A49 := Aside0.mk A490
     clear A490
     by_cases c50 : t135 = true
     ·
      subst c50
      have H1 : (laws_FnExactGroupsOf.j1 kj10 t109 t112 t120 (t123 != t112) l0_0 l0_1) = some r := by rw [if_pos rfl] at H; exact H
      clear H
      have H := H1
      clear H1
      have H' := Aside0.mk H
      clear H
      obtain ⟨Ao51, co51, eo51⟩ := Kd.S_slice HO_7.out
      subst eo51
      obtain ⟨Ao52, co52, eo52⟩ := Kd.S_slice HO_4.out
      subst eo52
      go_wp2_with (first | (go_at_call 27; (with_reducible refine (laws_eqIntSS.calls kj10 _ _ t120 _ _ t109 true _ ?side1 ?side2 ?side3 ?side4 A49.out).mono ?_); (case side1 => exact pC (Kd.S_reads' HO_7.out).2.2); (case side2 => exact (Kd.S_reads' HO_7.out).2.1); (case side3 => exact pC (Kd.S_reads' HO_4.out).2.2); (case side4 => exact (Kd.S_reads' HO_4.out).2.1); rintro e w' ⟨rfl, ⟨nd, rfl⟩⟩))
      go_meet
      case rel => exact ⟨_, ((t123 != t112)), (by first | rfl | (simp; done) | (simp [*]; done)), H', ⟨by have := HJ10.out; first | omega | exact Nat.le_refl _⟩, ⟨by (with_reducible repeat (first | apply Kd.S_alloc | apply Kd.S_drewN | apply Kd.S_drew)); exact Kd.S_mono HO_4.out (fun _ hk => ⟨hk.1, ⟨hk.2.2.2.2.2.1, hk.2.2.2.2.2.2⟩⟩)⟩, ⟨by (with_reducible repeat (first | apply Kd.S_alloc | apply Kd.S_drewN | apply Kd.S_drew)); exact Kd.S_mono HO_7.out (fun _ hk => ⟨hk.1, hk.2.2.2.2.2⟩)⟩, ⟨by refine bk ?_; exact BK101.out⟩, ⟨pT HB.out⟩⟩
     replace c50 := Bool.eq_false_iff.mpr c50
     subst c50
     have H1 : (laws_FnExactGroupsOf.j1 kj10 t109 t112 t120 true l0_0 l0_1) = some r := by rw [if_neg (show ¬ (false = true) by decide)] at H; exact H
     clear H
     have H := H1
     clear H1
     have H' := Aside0.mk H
     clear H
     obtain ⟨Ao53, co53, eo53⟩ := Kd.S_slice HO_7.out
     subst eo53
     obtain ⟨Ao54, co54, eo54⟩ := Kd.S_slice HO_4.out
     subst eo54
     go_wp2_with (first | (go_at_call 27; (with_reducible refine (laws_eqIntSS.calls kj10 _ _ t120 _ _ t109 false _ ?side1 ?side2 ?side3 ?side4 A49.out).mono ?_); (case side1 => exact pC (Kd.S_reads' HO_7.out).2.2); (case side2 => exact (Kd.S_reads' HO_7.out).2.1); (case side3 => exact pC (Kd.S_reads' HO_4.out).2.2); (case side4 => exact (Kd.S_reads' HO_4.out).2.1); rintro e w' ⟨rfl, ⟨nd, rfl⟩⟩))
     go_meet
     case rel => exact ⟨_, (true), (by first | rfl | (simp; done) | (simp [*]; done)), H', ⟨by have := HJ10.out; first | omega | exact Nat.le_refl _⟩, ⟨by (with_reducible repeat (first | apply Kd.S_alloc | apply Kd.S_drewN | apply Kd.S_drew)); exact Kd.S_mono HO_4.out (fun _ hk => ⟨hk.1, ⟨hk.2.2.2.2.2.1, hk.2.2.2.2.2.2⟩⟩)⟩, ⟨by (with_reducible repeat (first | apply Kd.S_alloc | apply Kd.S_drewN | apply Kd.S_drew)); exact Kd.S_mono HO_7.out (fun _ hk => ⟨hk.1, hk.2.2.2.2.2⟩)⟩, ⟨by refine bk ?_; exact BK101.out⟩, ⟨pT HB.out⟩⟩
    case rest =>
     clear HC39
     try clear c2
     try clear p2
     try clear c3
     try clear c3b0
     try clear c4
     try clear c5
     try clear c23
     try clear c24
     try clear c25
     try clear c26
     try clear c27
     try clear c28
     try clear c29
     try clear c34
     try clear c37
     try clear c45
     try clear c48
     try clear c48b0
     try clear c50
     try clear hcz13_0
     try clear hcz13_1
     try clear hcz15_0
     try clear hcz15_1
     try clear hcz20_0
     try clear hcz20_1
     try clear hcz25_0
     try clear hcz25_1
     try clear hcz46_0
     try clear hcz46_1
     try clear hcz5_0
     try clear hcz5_1
     try clear hfz13_0
     try clear hfz13_1
     try clear hfz15_0
     try clear hfz15_1
     try clear hfz20_0
     try clear hfz20_1
     try clear hfz25_0
     try clear hfz25_1
     try clear hfz46_0
     try clear hfz46_1
     try clear hfz5_0
     try clear hfz5_1
     try clear p2
     obtain ⟨kq, x61_38, rfl, HA, HJ38, HO_4, HO_7, BK101, HB⟩ := hcut
     cases kq with
     | zero => exact absurd HA.out (by simp [laws_FnExactGroupsOf.j1])
     | succ kj38 =>
      have H := HA.out
      clear HA
      simp only [laws_FnExactGroupsOf.j1] at H
      by_cases c55 : x61_38 = true
      ·
       subst c55
       have H1 : (some false) = some r := by rw [if_pos rfl] at H; exact H
       clear H
       have H := H1
       clear H1
       obtain rfl := Option.some.inj H
       go_wp2
       go_ret
       exact ⟨er, pT HB.out⟩
      replace c55 := Bool.eq_false_iff.mpr c55
      subst c55
      have H1 : ((laws_markIntSS.f kj38 t120 1).bind fun bt136 => ((laws_heldIntSS.f kj38 bt136.2 1).bind fun t138 => (if t138 < 0 then (some false) else (if t138 = bt136.1 then ((laws_toTally.f kj38 l0_0 l0_1).bind fun bt139 => ((impl_GroupsOf.f kj38 bt139.1 bt139.2).bind fun bt145 => ((laws_eqIntSS.f kj38 bt145.1 t109).bind fun t149 => (if t149 = true then (laws_FnExactGroupsOf.j2 kj38 bt136.2 bt136.1 (bt145.2 != t112)) else (laws_FnExactGroupsOf.j2 kj38 bt136.2 bt136.1 true))))) else (some false))))) = some r := by rw [if_neg (show ¬ (false = true) by decide)] at H; exact H
      clear H
      have H := H1
      clear H1
      replace H := Option.bind_eq_some_iff.mp H
      obtain ⟨⟨t136, t137⟩, A560, H⟩ := H
      replace H : ((laws_heldIntSS.f kj38 t137 1).bind fun t138 => (if t138 < 0 then (some false) else (if t138 = t136 then ((laws_toTally.f kj38 l0_0 l0_1).bind fun bt139 => ((impl_GroupsOf.f kj38 bt139.1 bt139.2).bind fun bt145 => ((laws_eqIntSS.f kj38 bt145.1 t109).bind fun t149 => (if t149 = true then (laws_FnExactGroupsOf.j2 kj38 t137 t136 (bt145.2 != t112)) else (laws_FnExactGroupsOf.j2 kj38 t137 t136 true))))) else (some false)))) = some r := H
      have A56 := Aside0.mk A560
      clear A560
      replace H := Option.bind_eq_some_iff.mp H
      obtain ⟨t138, A570, H⟩ := H
      replace H : (if t138 < 0 then (some false) else (if t138 = t136 then ((laws_toTally.f kj38 l0_0 l0_1).bind fun bt139 => ((impl_GroupsOf.f kj38 bt139.1 bt139.2).bind fun bt145 => ((laws_eqIntSS.f kj38 bt145.1 t109).bind fun t149 => (if t149 = true then (laws_FnExactGroupsOf.j2 kj38 t137 t136 (bt145.2 != t112)) else (laws_FnExactGroupsOf.j2 kj38 t137 t136 true))))) else (some false))) = some r := H
      have A57 := Aside0.mk A570
      clear A570
      by_cases c58 : t138 < 0
      ·
       rw [if_pos c58] at H
       have c58b0 : decide (t138 < 0) = true := decide_eq_true c58
       clear c58
       obtain rfl := Option.some.inj H
       obtain ⟨Ao59, co59, eo59⟩ := Kd.S_slice HO_7.out
       subst eo59
       go_wp2_with (first | ((with_reducible refine gate_callee (f := 30) rfl ?_); refine gl (some 64) Try.func30 #[.slice Ao59 t120.length co59, .int .i64 1] ?_; (with_reducible refine (laws_markIntSS.calls kj38 (fun k_ => ((some k_ ≠ (v110 : Value).ownBlock ∧ sz2 ≤ k_) ∧ w.heap.size ≤ k_)) (.slice Ao59 t120.length co59) t120 1 t136 t137 w _ ?side1 ?side2 A56.out).mono ?_); (case side1 => exact pT HB.out); (case side2 => exact Kd.S_mono (Kd.S_bound (HO_7.out)) (fun k_ hk_ => ⟨hk_.1, hk_.2.1⟩)); rintro e w60 ⟨rfl, hy0, hb, hkp⟩; refine ⟨_, rfl, ?_⟩; have n0_ := aK (Kd.S_mono (ok' := fun k_ => some k_ ≠ (.slice Ao59 t120.length co59 : Value).ownBlock ∧ k_ < sz2 ∧ sz1 ≤ k_) (Kd.S_keptB ((Kd.S_mono (ok' := fun k_ => (some k_ ≠ (.slice Ao59 t120.length co59 : Value).ownBlock ∧ (k_ < sz2 ∧ sz1 ≤ k_)) ∧ ¬ ((some k_ ≠ (v110 : Value).ownBlock ∧ sz2 ≤ k_) ∧ w.heap.size ≤ k_)) HO_4.out (fun k_ hk => ⟨hk, fun hs_ => Nat.lt_irrefl _ (Nat.lt_of_lt_of_le (hk.2.1) (hs_.1.2))⟩))) hkp (fun k_ hk_ hs_ => (hk_.2) hs_)) (fun k_ hk_ => ⟨hk_.1.1.1, hk_.1.1.2.1, hk_.1.1.2.2⟩)); have n1_ := aK (Kd.S_mono (ok' := fun k_ => some k_ ≠ (v110 : Value).ownBlock) hy0 (fun k_ hk_ => Or.elim hk_ (fun h_ => h_.1.1) (fun h_ => (fun e_ => Nat.not_le.2 (Kd.S_lt HO_4.out k_ e_.symm) h_)))); have n2_ := aK (hb); clear HO_4 HO_7 HB; have HO_4 := n0_; have HO_7 := n1_; have HB := n2_; clear n0_ n1_ n2_; (try clear hb); (try clear hkp); (try clear hy0)) | ((with_reducible refine gate_callee (f := 31) rfl ?_); refine goesL_ (some 67) rfl rfl Try.func31 (by kernel_rfl) rfl #[.slice Ao59 t137.length co59, .int .i64 1] rfl (by (try simp only [List.map_toArray, List.map_cons, List.map_nil]); first | done | (rw [show t137.length = t120.length from (Kd.S_reads' HO_7.out).1.symm] <;> rfl) | rfl | (simp only [List.length_drop, List.length_take]; rfl)) ?_; (with_reducible refine (laws_heldIntSS.calls kj38 _ _ t137 1 t138 _ ?side1 ?side2 A57.out).mono ?_); (case side1 => exact pC (Kd.S_reads' HO_7.out).2.2); (case side2 => rw [show t137.length = t120.length from (Kd.S_reads' HO_7.out).1.symm]; exact (Kd.S_reads' HO_7.out).2.1); rintro e w' ⟨rfl, ⟨nd, rfl⟩⟩; refine ⟨_, rfl, ?_⟩))
       go_ret
       exact ⟨er, pT HB.out⟩
      rw [if_neg c58] at H
      have c58b0 : decide (t138 < 0) = false := decide_eq_false c58
      clear c58
      by_cases c61 : t138 = t136
      ·
       rw [if_pos c61] at H
       have c61b0 : (t138 == t136) = true := beq_iff_eq.mpr c61
       have c61b1 : (t138 != t136) = false := bne_eq_false_iff_eq.mpr c61
       clear c61
       replace H := Option.bind_eq_some_iff.mp H
       obtain ⟨⟨t139, t142⟩, A620, H⟩ := H
       replace H : ((impl_GroupsOf.f kj38 t139 t142).bind fun bt145 => ((laws_eqIntSS.f kj38 bt145.1 t109).bind fun t149 => (if t149 = true then (laws_FnExactGroupsOf.j2 kj38 t137 t136 (bt145.2 != t112)) else (laws_FnExactGroupsOf.j2 kj38 t137 t136 true)))) = some r := H
       have A62 := Aside0.mk A620
       clear A620
       replace H := Option.bind_eq_some_iff.mp H
       obtain ⟨⟨t145, t148⟩, A630, H⟩ := H
       replace H : ((laws_eqIntSS.f kj38 t145 t109).bind fun t149 => (if t149 = true then (laws_FnExactGroupsOf.j2 kj38 t137 t136 (t148 != t112)) else (laws_FnExactGroupsOf.j2 kj38 t137 t136 true))) = some r := H
       have A63 := Aside0.mk A630
       clear A630
       have HC64 := Aside0.mk H
       clear H
       obtain ⟨Ao65, co65, eo65⟩ := Kd.S_slice HO_7.out
       subst eo65
       go_upto_region 25 with (first | ((with_reducible refine gate_callee (f := 30) rfl ?_); refine gl (some 64) Try.func30 #[.slice Ao65 t120.length co65, .int .i64 1] ?_; (with_reducible refine (laws_markIntSS.calls kj38 (fun k_ => (((some k_ ≠ (v110 : Value).ownBlock ∧ sz2 ≤ k_) ∧ k_ ≠ gb101) ∧ w.heap.size ≤ k_)) (.slice Ao65 t120.length co65) t120 1 t136 t137 w _ ?side1 ?side2 A56.out).mono ?_); (case side1 => exact pT HB.out); (case side2 => exact Kd.S_mono (Kd.S_bound ((Kd.S_types (HO_7.out) BK101.out (by decide)))) (fun k_ hk_ => ⟨hk_.1, hk_.2.1⟩)); rintro e w66 ⟨rfl, hy0, hb, hkp⟩; refine ⟨_, rfl, ?_⟩; have n0_ := aK (Kd.S_mono (ok' := fun k_ => some k_ ≠ (.slice Ao65 t120.length co65 : Value).ownBlock ∧ k_ < sz2 ∧ sz1 ≤ k_) (Kd.S_keptB ((Kd.S_mono (ok' := fun k_ => (some k_ ≠ (.slice Ao65 t120.length co65 : Value).ownBlock ∧ (k_ < sz2 ∧ sz1 ≤ k_)) ∧ ¬ (((some k_ ≠ (v110 : Value).ownBlock ∧ sz2 ≤ k_) ∧ k_ ≠ gb101) ∧ w.heap.size ≤ k_)) HO_4.out (fun k_ hk => ⟨hk, fun hs_ => Nat.lt_irrefl _ (Nat.lt_of_lt_of_le (hk.2.1) (hs_.1.1.2))⟩))) hkp (fun k_ hk_ hs_ => (hk_.2) hs_)) (fun k_ hk_ => ⟨hk_.1.1.1, hk_.1.1.2.1, hk_.1.1.2.2⟩)); have n1_ := aK (Kd.S_mono (ok' := fun k_ => some k_ ≠ (v110 : Value).ownBlock) hy0 (fun k_ hk_ => Or.elim hk_ (fun h_ => h_.1.1.1) (fun h_ => (fun e_ => Nat.not_le.2 (Kd.S_lt HO_4.out k_ e_.symm) h_)))); have n2_ := aK (blk_kept (pB BK101.out) hkp (fun hs_ => (fun e_ => (e_.1.2) rfl) hs_)); have n3_ := aK (hb); clear HO_4 HO_7 BK101 HB; have HO_4 := n0_; have HO_7 := n1_; have BK101 := n2_; have HB := n3_; clear n0_ n1_ n2_ n3_; (try clear hb); (try clear hkp); (try clear hy0)) | ((with_reducible refine gate_callee (f := 31) rfl ?_); refine goesL_ (some 67) rfl rfl Try.func31 (by kernel_rfl) rfl #[.slice Ao65 t137.length co65, .int .i64 1] rfl (by (try simp only [List.map_toArray, List.map_cons, List.map_nil]); first | done | (rw [show t137.length = t120.length from (Kd.S_reads' HO_7.out).1.symm] <;> rfl) | rfl | (simp only [List.length_drop, List.length_take]; rfl)) ?_; (with_reducible refine (laws_heldIntSS.calls kj38 _ _ t137 1 t138 _ ?side1 ?side2 A57.out).mono ?_); (case side1 => exact pC (Kd.S_reads' HO_7.out).2.2); (case side2 => rw [show t137.length = t120.length from (Kd.S_reads' HO_7.out).1.symm]; exact (Kd.S_reads' HO_7.out).2.1); rintro e w' ⟨rfl, ⟨nd, rfl⟩⟩; refine ⟨_, rfl, ?_⟩; obtain ⟨hcz67_0, hcz67_1, hfz67_0, hfz67_1⟩ := bc2 BK101.out) | ((with_reducible refine gate_callee (f := 25) rfl ?_); refine gl (some 75) Try.func25 #[.agg #[.slice A0_0 l0_0.length c0_0, .slice A0_1 l0_1.length c0_1]] ?_; (with_reducible refine (laws_toTally.calls kj38 _ _ l0_0 _ _ l0_1 t139 t142 _ ?side1 ?side2 ?side3 ?side4 A62.out).mono ?_); (case side1 => exact pC (Kd.C_below HR0_0.out (pS HB.out))); (case side2 => exact HC0_0.out); (case side3 => exact pC (Kd.C_below HR0_1.out (pS HB.out))); (case side4 => exact HC0_1.out); rintro e w68 ⟨v140, v143, rfl, ho0, ho1, hb⟩; refine ⟨_, rfl, ?_⟩; have n0_ := aK (Kd.S_mono (Kd.S_told (Kd.S_told (Kd.S_old (by (with_reducible repeat (first | apply Kd.S_alloc | apply Kd.S_drewN | apply Kd.S_drew)); exact HO_4.out) hb) (Kd.R_base ho0)) (Kd.R_base ho1)) (fun _ h_ => h_.1)); have n1_ := aK (Kd.S_mono (Kd.S_told (Kd.S_told (Kd.S_old (by (with_reducible repeat (first | apply Kd.S_alloc | apply Kd.S_drewN | apply Kd.S_drew)); exact HO_7.out) hb) (Kd.R_base ho0)) (Kd.R_base ho1)) (fun _ h_ => h_.1)); have HO141 := aK (Kd.R_lower ho0 (below_size (pS HB.out))); have HO144 := aK (Kd.R_lower ho1 (below_size (pS HB.out))); replace HB := bS HB hb; clear HO_4 HO_7; have HO_4 := n0_; have HO_7 := n1_; clear n0_ n1_; (try clear hb); (try clear hb2); (try clear hk); (try clear hi); (try clear ho0); (try clear ho1); obtain ⟨Ao69, co69, eo69⟩ := Kd.R_slice HO141.out; subst eo69; obtain ⟨Ao70, co70, eo70⟩ := Kd.R_slice HO144.out; subst eo70) | ((with_reducible refine gate_callee (f := 26) rfl ?_); refine gl (some 76) Try.func26 #[.agg #[.slice Ao69 t139.length co69, .slice Ao70 t142.length co70]] ?_; (with_reducible refine (impl_GroupsOf.calls kj38 _ _ t139 _ _ t142 t145 t148 _ ?side1 ?side2 ?side3 ?side4 A63.out).mono ?_); (case side1 => exact pC (Kd.R_reads' HO141.out).2.2); (case side2 => exact (Kd.R_reads' HO141.out).2.1); (case side3 => exact pC (Kd.R_reads' HO144.out).2.2); (case side4 => exact (Kd.R_reads' HO144.out).2.1); rintro e w71 ⟨v146, rfl, ho0, hb⟩; refine ⟨_, rfl, ?_⟩; obtain ⟨sz3, hsz3⟩ := mpM hb; have n0_ := aK (mpE2 (by (with_reducible repeat (first | apply Kd.S_alloc | apply Kd.S_drewN | apply Kd.S_drew)); exact HO_4.out) hb hsz3 (Kd.S_base ho0)); have n1_ := aK (mpE2 (by (with_reducible repeat (first | apply Kd.S_alloc | apply Kd.S_drewN | apply Kd.S_drew)); exact HO_7.out) hb hsz3 (Kd.S_base ho0)); have n2_ := aK (Kd.R_below (pR HO141.out) hb); have n3_ := aK (Kd.R_below (pR HO144.out) hb); have HO147 := aK (Kd.S_lower (Kd.S_new' (Kd.S_new' (Kd.S_new' (Kd.S_new' (mpN ho0 hsz3) (Kd.S_lt (by (with_reducible repeat (first | apply Kd.S_alloc | apply Kd.S_drewN | apply Kd.S_drew)); exact HO_4.out))) (Kd.S_lt (by (with_reducible repeat (first | apply Kd.S_alloc | apply Kd.S_drewN | apply Kd.S_drew)); exact HO_7.out))) (Kd.R_lt (pR HO141.out))) (Kd.R_lt (pR HO144.out))) (below_size (pS HB.out))); replace HB := bS HB hb; clear HO_4 HO_7 HO141 HO144; have HO_4 := n0_; have HO_7 := n1_; have HO141 := n2_; have HO144 := n3_; clear n0_ n1_ n2_ n3_; (try clear hb); (try clear hb2); (try clear hk); (try clear hi); (try clear ho0)))
       (try simp only [Act.put, List.setIfInBounds_toArray, List.set_cons_zero, List.set_cons_succ])
       go_cut [87] (fun v87 wc => ∃ (kq : Nat) (x87_63 : Bool), v87 = .bool x87_63 ∧ Aside0 (laws_FnExactGroupsOf.j2 kq t137 t136 x87_63 = some r) ∧ Aside0 (kq ≤ kj38) ∧ Aside0 (Kd.S (Kd.slice 3 (Kd.int .i64)) 24 wc w.heap.size (fun k_ => k_ < sz3) (.slice Ao65 t120.length co65) t137) ∧ Aside0 (Below w.heap.size w wc))
       case first =>
        have H := HC64.out
        clear HC64
        replace H := Option.bind_eq_some_iff.mp H
        obtain ⟨t149, A720, H⟩ := H
        replace H : (if t149 = true then (laws_FnExactGroupsOf.j2 kj38 t137 t136 (t148 != t112)) else (laws_FnExactGroupsOf.j2 kj38 t137 t136 true)) = some r := H
        have A72 := Aside0.mk A720
        clear A720
        by_cases c73 : t149 = true
        ·
         subst c73
         have H1 : (laws_FnExactGroupsOf.j2 kj38 t137 t136 (t148 != t112)) = some r := by rw [if_pos rfl] at H; exact H
         clear H
         have H := H1
         clear H1
         have H' := Aside0.mk H
         clear H
         obtain ⟨Ao74, co74, eo74⟩ := Kd.S_slice HO147.out
         subst eo74
         obtain ⟨Ao75, co75, eo75⟩ := Kd.S_slice HO_4.out
         subst eo75
         go_wp2_with (first | ((with_reducible refine gate_callee (f := 27) rfl ?_); refine gl (some 81) Try.func27 #[.slice Ao74 t145.length co74, .slice Ao75 t109.length co75] ?_; (with_reducible refine (laws_eqIntSS.calls kj38 _ _ t145 _ _ t109 true _ ?side1 ?side2 ?side3 ?side4 A72.out).mono ?_); (case side1 => exact pC (Kd.S_reads' HO147.out).2.2); (case side2 => exact (Kd.S_reads' HO147.out).2.1); (case side3 => exact pC (Kd.S_reads' HO_4.out).2.2); (case side4 => exact (Kd.S_reads' HO_4.out).2.1); rintro e w' ⟨rfl, ⟨nd, rfl⟩⟩; refine ⟨_, rfl, ?_⟩))
         go_meet
         case rel => exact ⟨_, ((t148 != t112)), (by first | rfl | (simp; done) | (simp [*]; done)), H', ⟨by have := HJ10.out; have := HJ38.out; first | omega | exact Nat.le_refl _⟩, ⟨by (with_reducible repeat (first | apply Kd.S_alloc | apply Kd.S_drewN | apply Kd.S_drew)); exact Kd.S_mono HO_7.out (fun _ hk => hk.1.2)⟩, ⟨pT HB.out⟩⟩
        replace c73 := Bool.eq_false_iff.mpr c73
        subst c73
        have H1 : (laws_FnExactGroupsOf.j2 kj38 t137 t136 true) = some r := by rw [if_neg (show ¬ (false = true) by decide)] at H; exact H
        clear H
        have H := H1
        clear H1
        have H' := Aside0.mk H
        clear H
        obtain ⟨Ao76, co76, eo76⟩ := Kd.S_slice HO147.out
        subst eo76
        obtain ⟨Ao77, co77, eo77⟩ := Kd.S_slice HO_4.out
        subst eo77
        go_wp2_with (first | ((with_reducible refine gate_callee (f := 27) rfl ?_); refine gl (some 81) Try.func27 #[.slice Ao76 t145.length co76, .slice Ao77 t109.length co77] ?_; (with_reducible refine (laws_eqIntSS.calls kj38 _ _ t145 _ _ t109 false _ ?side1 ?side2 ?side3 ?side4 A72.out).mono ?_); (case side1 => exact pC (Kd.S_reads' HO147.out).2.2); (case side2 => exact (Kd.S_reads' HO147.out).2.1); (case side3 => exact pC (Kd.S_reads' HO_4.out).2.2); (case side4 => exact (Kd.S_reads' HO_4.out).2.1); rintro e w' ⟨rfl, ⟨nd, rfl⟩⟩; refine ⟨_, rfl, ?_⟩))
        go_meet
        case rel => exact ⟨_, (true), (by first | rfl | (simp; done) | (simp [*]; done)), H', ⟨by have := HJ10.out; have := HJ38.out; first | omega | exact Nat.le_refl _⟩, ⟨by (with_reducible repeat (first | apply Kd.S_alloc | apply Kd.S_drewN | apply Kd.S_drew)); exact Kd.S_mono HO_7.out (fun _ hk => hk.1.2)⟩, ⟨pT HB.out⟩⟩
       case rest =>
        clear HC64
        try clear c2
        try clear p2
        try clear c3
        try clear c3b0
        try clear c4
        try clear c5
        try clear c6
        try clear c7
        try clear c23
        try clear c24
        try clear c25
        try clear c26
        try clear c27
        try clear c28
        try clear c29
        try clear c30
        try clear c31
        try clear c34
        try clear c37
        try clear c45
        try clear c48
        try clear c48b0
        try clear c50
        try clear c55
        try clear c58
        try clear c58b0
        try clear c61
        try clear c61b0
        try clear c61b1
        try clear c73
        try clear hcz13_0
        try clear hcz13_1
        try clear hcz15_0
        try clear hcz15_1
        try clear hcz20_0
        try clear hcz20_1
        try clear hcz25_0
        try clear hcz25_1
        try clear hcz46_0
        try clear hcz46_1
        try clear hcz5_0
        try clear hcz5_1
        try clear hcz67_0
        try clear hcz67_1
        try clear hfz13_0
        try clear hfz13_1
        try clear hfz15_0
        try clear hfz15_1
        try clear hfz20_0
        try clear hfz20_1
        try clear hfz25_0
        try clear hfz25_1
        try clear hfz46_0
        try clear hfz46_1
        try clear hfz5_0
        try clear hfz5_1
        try clear hfz67_0
        try clear hfz67_1
        try clear p2
        obtain ⟨kq, x87_63, rfl, HA, HJ63, HO_7, HB⟩ := hcut
        have hl7_63 := (Kd.S_reads' HO_7.out).1
        rw [hl7_63] at HO_7
        (try simp only [hl7_63])
        cases kq with
        | zero => exact absurd HA.out (by simp [laws_FnExactGroupsOf.j2])
        | succ kj63 =>
         have H := HA.out
         clear HA
         simp only [laws_FnExactGroupsOf.j2] at H
         by_cases c78 : x87_63 = true
         ·
          subst c78
          have H1 : (some false) = some r := by rw [if_pos rfl] at H; exact H
          clear H
          have H := H1
          clear H1
          obtain rfl := Option.some.inj H
          go_wp2
          go_ret
          exact ⟨er, pT HB.out⟩
         replace c78 := Bool.eq_false_iff.mpr c78
         subst c78
         have H1 : ((laws_heldIntSS.f kj63 t137 1).bind fun t150 => (if t150 < 0 then (some false) else (if t150 = t136 then (some true) else (some false)))) = some r := by rw [if_neg (show ¬ (false = true) by decide)] at H; exact H
         clear H
         have H := H1
         clear H1
         replace H := Option.bind_eq_some_iff.mp H
         obtain ⟨t150, A790, H⟩ := H
         replace H : (if t150 < 0 then (some false) else (if t150 = t136 then (some true) else (some false))) = some r := H
         have A79 := Aside0.mk A790
         clear A790
         by_cases c80 : t150 < 0
         ·
          rw [if_pos c80] at H
          have c80b0 : decide (t150 < 0) = true := decide_eq_true c80
          clear c80
          obtain rfl := Option.some.inj H
          go_wp2_with (first | ((with_reducible refine gate_callee (f := 31) rfl ?_); refine gl (some 90) Try.func31 #[.slice Ao65 t137.length co65, .int .i64 1] ?_; (with_reducible refine (laws_heldIntSS.calls kj63 _ _ t137 1 t150 _ ?side1 ?side2 A79.out).mono ?_); (case side1 => exact pC (Kd.S_reads' HO_7.out).2.2); (case side2 => exact (Kd.S_reads' HO_7.out).2.1); rintro e w' ⟨rfl, ⟨nd, rfl⟩⟩; refine ⟨_, rfl, ?_⟩))
          go_ret
          exact ⟨er, pT HB.out⟩
         rw [if_neg c80] at H
         have c80b0 : decide (t150 < 0) = false := decide_eq_false c80
         clear c80
         by_cases c81 : t150 = t136
         ·
          rw [if_pos c81] at H
          have c81b0 : (t150 == t136) = true := beq_iff_eq.mpr c81
          have c81b1 : (t150 != t136) = false := bne_eq_false_iff_eq.mpr c81
          clear c81
          obtain rfl := Option.some.inj H
          go_wp2_with (first | ((with_reducible refine gate_callee (f := 31) rfl ?_); refine gl (some 90) Try.func31 #[.slice Ao65 t137.length co65, .int .i64 1] ?_; (with_reducible refine (laws_heldIntSS.calls kj63 _ _ t137 1 t150 _ ?side1 ?side2 A79.out).mono ?_); (case side1 => exact pC (Kd.S_reads' HO_7.out).2.2); (case side2 => exact (Kd.S_reads' HO_7.out).2.1); rintro e w' ⟨rfl, ⟨nd, rfl⟩⟩; refine ⟨_, rfl, ?_⟩))
          go_ret
          exact ⟨er, pT HB.out⟩
         rw [if_neg c81] at H
         have c81b0 : (t150 == t136) = false := beq_eq_false_iff_ne.mpr c81
         have c81b1 : (t150 != t136) = true := bne_iff_ne.mpr c81
         obtain rfl := Option.some.inj H
         go_wp2_with (first | ((with_reducible refine gate_callee (f := 31) rfl ?_); refine gl (some 90) Try.func31 #[.slice Ao65 t137.length co65, .int .i64 1] ?_; (with_reducible refine (laws_heldIntSS.calls kj63 _ _ t137 1 t150 _ ?side1 ?side2 A79.out).mono ?_); (case side1 => exact pC (Kd.S_reads' HO_7.out).2.2); (case side2 => exact (Kd.S_reads' HO_7.out).2.1); rintro e w' ⟨rfl, ⟨nd, rfl⟩⟩; refine ⟨_, rfl, ?_⟩))
         go_ret
         exact ⟨er, pT HB.out⟩
      rw [if_neg c61] at H
      have c61b0 : (t138 == t136) = false := beq_eq_false_iff_ne.mpr c61
      have c61b1 : (t138 != t136) = true := bne_iff_ne.mpr c61
      obtain rfl := Option.some.inj H
      obtain ⟨Ao82, co82, eo82⟩ := Kd.S_slice HO_7.out
      subst eo82
      go_wp2_with (first | ((with_reducible refine gate_callee (f := 30) rfl ?_); refine gl (some 64) Try.func30 #[.slice Ao82 t120.length co82, .int .i64 1] ?_; (with_reducible refine (laws_markIntSS.calls kj38 (fun k_ => ((some k_ ≠ (v110 : Value).ownBlock ∧ sz2 ≤ k_) ∧ w.heap.size ≤ k_)) (.slice Ao82 t120.length co82) t120 1 t136 t137 w _ ?side1 ?side2 A56.out).mono ?_); (case side1 => exact pT HB.out); (case side2 => exact Kd.S_mono (Kd.S_bound (HO_7.out)) (fun k_ hk_ => ⟨hk_.1, hk_.2.1⟩)); rintro e w83 ⟨rfl, hy0, hb, hkp⟩; refine ⟨_, rfl, ?_⟩; have n0_ := aK (Kd.S_mono (ok' := fun k_ => some k_ ≠ (.slice Ao82 t120.length co82 : Value).ownBlock ∧ k_ < sz2 ∧ sz1 ≤ k_) (Kd.S_keptB ((Kd.S_mono (ok' := fun k_ => (some k_ ≠ (.slice Ao82 t120.length co82 : Value).ownBlock ∧ (k_ < sz2 ∧ sz1 ≤ k_)) ∧ ¬ ((some k_ ≠ (v110 : Value).ownBlock ∧ sz2 ≤ k_) ∧ w.heap.size ≤ k_)) HO_4.out (fun k_ hk => ⟨hk, fun hs_ => Nat.lt_irrefl _ (Nat.lt_of_lt_of_le (hk.2.1) (hs_.1.2))⟩))) hkp (fun k_ hk_ hs_ => (hk_.2) hs_)) (fun k_ hk_ => ⟨hk_.1.1.1, hk_.1.1.2.1, hk_.1.1.2.2⟩)); have n1_ := aK (Kd.S_mono (ok' := fun k_ => some k_ ≠ (v110 : Value).ownBlock) hy0 (fun k_ hk_ => Or.elim hk_ (fun h_ => h_.1.1) (fun h_ => (fun e_ => Nat.not_le.2 (Kd.S_lt HO_4.out k_ e_.symm) h_)))); have n2_ := aK (hb); clear HO_4 HO_7 HB; have HO_4 := n0_; have HO_7 := n1_; have HB := n2_; clear n0_ n1_ n2_; (try clear hb); (try clear hkp); (try clear hy0)) | ((with_reducible refine gate_callee (f := 31) rfl ?_); refine goesL_ (some 67) rfl rfl Try.func31 (by kernel_rfl) rfl #[.slice Ao82 t137.length co82, .int .i64 1] rfl (by (try simp only [List.map_toArray, List.map_cons, List.map_nil]); first | done | (rw [show t137.length = t120.length from (Kd.S_reads' HO_7.out).1.symm] <;> rfl) | rfl | (simp only [List.length_drop, List.length_take]; rfl)) ?_; (with_reducible refine (laws_heldIntSS.calls kj38 _ _ t137 1 t138 _ ?side1 ?side2 A57.out).mono ?_); (case side1 => exact pC (Kd.S_reads' HO_7.out).2.2); (case side2 => rw [show t137.length = t120.length from (Kd.S_reads' HO_7.out).1.symm]; exact (Kd.S_reads' HO_7.out).2.1); rintro e w' ⟨rfl, ⟨nd, rfl⟩⟩; refine ⟨_, rfl, ?_⟩))
      go_ret
      exact ⟨er, pT HB.out⟩
   replace c37 := Bool.eq_false_iff.mpr c37
   subst c37
   have H1 : (some false) = some r := by rw [if_neg (show ¬ (false = true) by decide)] at H; exact H
   clear H
   have H := H1
   clear H1
   obtain rfl := Option.some.inj H
   try go_wp2
   have n0_ := aK (Kd.S_drew HO_4.out)
   have n1_ := aK (Kd.S_drew HO_7.out)
   have n2_ := aK (Kd.R_drew HO_120000.out)
   have n3_ := aK (Kd.R_drew HO_120001.out)
   have n4_ := aK (blk_drew BK101.out)
   have n5_ := aK (blk_drew BK119.out)
   have n6_ := aK (below_drew1 HB.out)
   clear HO_4 HO_7 HO_120000 HO_120001 BK101 BK119 HB
   have HO_4 := n0_
   have HO_7 := n1_
   have HO_120000 := n2_
   have HO_120001 := n3_
   have BK101 := n4_
   have BK119 := n5_
   have HB := n6_
   clear n0_ n1_ n2_ n3_ n4_ n5_ n6_
   refine start_ (n := 5) (S := fun w' => w'.cell? ⟨gb119, 0, none⟩ = some (.slice Ao23 t113.length co23) ∧ w'.cell? ⟨gb119, 1, none⟩ = some (.slice Ao26 t116.length co26) ∧ w'.cell? ⟨gb101, 0, none⟩ = some (.slice A0_0 l0_0.length c0_0) ∧ w'.cell? ⟨gb101, 1, none⟩ = some (.slice A0_1 l0_1.length c0_1)) (ds := []) #[false, false, false, false, false] (by kernel_rfl) rfl rfl (cj2 BK119.out (cz2 BK101.out)) (fun hHeld => ?_)
   generalize wc.drew = w84 at HO_4 HO_7 HO_120000 HO_120001 BK101 BK119 HB hHeld ⊢
   refine take_ (i := 0) (N := some 41) (v := ?_) (a' := ?_) #[true, false, false, false, false] rfl rfl (by kernel_rfl) (fun _ _ _ h => h) (Or.inl ⟨by rfl, ?_⟩) hHeld ?_ ?_
   rotate_left
   ·
    rintro w' ⟨s0, s1, s2, s3⟩
    go_simp
    with_reducible rfl
   rotate_left
   ·
    simp only [sP]
    rfl
   refine take_ (i := 1) (N := some 42) (v := ?_) (a' := ?_) #[true, true, false, false, false] rfl rfl (by kernel_rfl) (fun _ _ _ h => h) (Or.inl ⟨by rfl, ?_⟩) hHeld ?_ ?_
   rotate_left
   ·
    rintro w' ⟨s0, s1, s2, s3⟩
    go_simp
    with_reducible rfl
   rotate_left
   ·
    simp only [sP]
    rfl
   refine one_ (i := 2) (N := some 43) #[true, true, true, false, false] rfl rfl (by kernel_rfl) (by decide) (fun K hK => ?_)
   refine goes_ Try.func25 (by kernel_rfl) rfl #[.agg #[.slice A0_0 l0_0.length c0_0, .slice A0_1 l0_1.length c0_1]] (by rfl) rfl rfl (by (try simp only [List.map_toArray, List.map_cons, List.map_nil]); first | done | rfl | (simp only [List.length_drop, List.length_take]; rfl)) ?_
   with_reducible refine (laws_toTally.calls kj10 _ _ l0_0 _ _ l0_1 t125 t128 _ ?side1 ?side2 ?side3 ?side4 A35.out).mono ?_
   (case side1 => exact pC (Kd.C_below HR0_0.out HB.out))
   (case side2 => exact HC0_0.out)
   (case side3 => exact pC (Kd.C_below HR0_1.out HB.out))
   (case side4 => exact HC0_1.out)
   rintro e w85 ⟨v126, v129, rfl, ho0, ho1, hb⟩
   refine ⟨_, rfl, ?_⟩
   have n0_ := aK (Kd.S_mono (Kd.S_told (Kd.S_told (Kd.S_old (by (with_reducible repeat (first | apply Kd.S_alloc | apply Kd.S_drewN | apply Kd.S_drew)); exact HO_4.out) hb) (Kd.R_base ho0)) (Kd.R_base ho1)) (fun _ h_ => h_.1))
   have n1_ := aK (Kd.S_mono (Kd.S_told (Kd.S_told (Kd.S_old (by (with_reducible repeat (first | apply Kd.S_alloc | apply Kd.S_drewN | apply Kd.S_drew)); exact HO_7.out) hb) (Kd.R_base ho0)) (Kd.R_base ho1)) (fun _ h_ => h_.1))
   have n2_ := aK (rO2 (pR HO_120000.out) hb ho0 ho1)
   have n3_ := aK (rO2 (pR HO_120001.out) hb ho0 ho1)
   have HO127 := aK (Kd.R_lower (nw2 ho0 (pR HO_120000.out) (pR HO_120001.out)) (below_size (pS HB.out)))
   have HO130 := aK (Kd.R_lower (nw2 ho1 (pR HO_120000.out) (pR HO_120001.out)) (below_size (pS HB.out)))
   replace BK101 := bB BK101 hb
   replace BK119 := bB BK119 hb
   replace HB := bS HB hb
   clear HO_4 HO_7 HO_120000 HO_120001
   have HO_4 := n0_
   have HO_7 := n1_
   have HO_120000 := n2_
   have HO_120001 := n3_
   clear n0_ n1_ n2_ n3_
   (try clear hb)
   (try clear hb2)
   (try clear hk)
   (try clear hi)
   (try clear ho0)
   (try clear ho1)
   obtain ⟨Ao86, co86, eo86⟩ := Kd.R_slice HO127.out
   (first | subst eo86 | (obtain ⟨f4_, f5_⟩ := sI eo86; subst f4_; subst f5_))
   obtain ⟨Ao87, co87, eo87⟩ := Kd.R_slice HO130.out
   (first | subst eo87 | (obtain ⟨f4_, f5_⟩ := sI eo87; subst f4_; subst f5_))
   refine hK.out _ _ (cj2 BK119.out (cz2 BK101.out)) (fun hHeld => ?_)
   clear hK K
   refine norm_ (a' := ?_) ?_ ?_
   rotate_left
   ·
    show Act.put _ (some 43) _ = _
    simp only [sP]
    rfl
   refine one_ (i := 3) (N := some 44) #[true, true, true, true, false] rfl rfl (by kernel_rfl) (by decide) (fun K hK => ?_)
   refine goes_ Try.func28 (by kernel_rfl) rfl #[.agg #[.slice Ao23 t113.length co23, .slice Ao26 t116.length co26], .agg #[.slice Ao86 t125.length co86, .slice Ao87 t128.length co87]] (by rfl) rfl rfl (by (try simp only [List.map_toArray, List.map_cons, List.map_nil]); first | done | rfl | (simp only [List.length_drop, List.length_take]; rfl)) ?_
   with_reducible refine (laws_eqTally.calls kj10 _ _ t113 _ _ t116 _ _ t125 _ _ t128 false _ ?side1 ?side2 ?side3 ?side4 ?side5 ?side6 ?side7 ?side8 A36.out).mono ?_
   (case side1 => exact pC (Kd.R_reads' HO_120000.out).2.2)
   (case side2 => exact (Kd.R_reads' HO_120000.out).2.1)
   (case side3 => exact pC (Kd.R_reads' HO_120001.out).2.2)
   (case side4 => exact (Kd.R_reads' HO_120001.out).2.1)
   (case side5 => exact pC (Kd.R_reads' HO127.out).2.2)
   (case side6 => exact (Kd.R_reads' HO127.out).2.1)
   (case side7 => exact pC (Kd.R_reads' HO130.out).2.2)
   (case side8 => exact (Kd.R_reads' HO130.out).2.1)
   rintro e w88 ⟨rfl, hb⟩
   refine ⟨_, rfl, ?_⟩
   have n0_ := aK (Kd.S_below (by (with_reducible repeat (first | apply Kd.S_alloc | apply Kd.S_drewN | apply Kd.S_drew)); exact HO_4.out) hb)
   have n1_ := aK (Kd.S_below (by (with_reducible repeat (first | apply Kd.S_alloc | apply Kd.S_drewN | apply Kd.S_drew)); exact HO_7.out) hb)
   have n2_ := aK (Kd.R_below (pR HO_120000.out) hb)
   have n3_ := aK (Kd.R_below (pR HO_120001.out) hb)
   have n4_ := aK (Kd.R_below (pR HO127.out) hb)
   have n5_ := aK (Kd.R_below (pR HO130.out) hb)
   replace BK101 := bB BK101 hb
   replace BK119 := bB BK119 hb
   replace HB := bS HB hb
   clear HO_4 HO_7 HO_120000 HO_120001 HO127 HO130
   have HO_4 := n0_
   have HO_7 := n1_
   have HO_120000 := n2_
   have HO_120001 := n3_
   have HO127 := n4_
   have HO130 := n5_
   clear n0_ n1_ n2_ n3_ n4_ n5_
   (try clear hb)
   (try clear hb2)
   (try clear hk)
   (try clear hi)
   refine hK.out _ _ (cj2 BK119.out (cz2 BK101.out)) (fun hHeld => ?_)
   clear hK K
   refine norm_ (a' := ?_) ?_ ?_
   rotate_left
   ·
    show Act.put _ (some 44) _ = _
    simp only [sP]
    rfl
   refine pure_ (i := 4) (N := some 45) (v := ?_) (a' := ?_) #[true, true, true, true, true] rfl rfl (by kernel_rfl) (fun _ _ _ h => h) (Or.inl ⟨by rfl, ?_⟩) ?_ ?_
   rotate_left
   ·
    intro w'
    go_simp
    with_reducible rfl
   rotate_left
   ·
    simp only [sP]
    rfl
   refine done_ (by kernel_rfl) ?_
   try go_wp2
   go_ret
   exact ⟨er, pT HB.out⟩
def laws_FnExactGroupsOf.Pure : Prop := ∀ (l0_0 : List Int) (l0_1 : List Int), (l0_0.length ≤ 9223372036854775807 ∧ ∀ z0 ∈ l0_0, (Lit.int .i64 z0).wf = true) → (l0_1.length ≤ 9223372036854775807 ∧ ∀ z0 ∈ l0_1, (Lit.int .i64 z0).wf = true) → ∃ k, laws_FnExactGroupsOf.f k l0_0 l0_1 = some true
end Go.Proofs.Ytjicgmcogadleaa.P
namespace Go.Proofs.Ytjicgmcogadleaa.Open
open Go.ChangeShapes Go.WideShapes Go.RowKit Go.Deep Go.Joins Go.Proofs.YtjicgmcogadleaaW.PrintWords
def Opens {α : Type} (P : Program) (t : TypeId) (d : Kd α) (wf : α → Prop) : Prop :=
  ∀ {H : Type} {enc : TypeId × Value → H} {W : World} {fuel : Nat} {cs : List Value} {x : DataW H × List MemPlace},
    DataW.trod enc P W 0 (fun _ => true) true fuel t cs = some x → ∃ y, d.K W y cs ∧ wf y
theorem opens_int {P : Program} {t : TypeId} {k : IntKind} (h : P.underlying t = some (.int k)) : Opens P t (Kd.int k) (fun n => (Lit.int k n).wf = true) := by
  intro H enc W fuel cs x hx
  obtain ⟨n, rfl, _, hw⟩ := DataW.trod_int h hx
  exact ⟨n, rfl, hw⟩
theorem list_of {α : Type} {p : Nat → α → Prop} : ∀ (n : Nat), (∀ i, i < n → ∃ y, p i y) → ∃ ys : List α, ys.length = n ∧ ∀ (i : Nat) (y : α), ys[i]? = some y → p i y
  | 0, _ => ⟨[], rfl, fun i y h => by simp at h⟩
  | n + 1, h => by
    obtain ⟨ys, hl, hy⟩ := list_of n (fun i hi => h i (by omega))
    obtain ⟨y, hp⟩ := h n (by omega)
    refine ⟨ys ++ [y], by simp [hl], fun i z hz => ?_⟩
    by_cases hi : i < n
    · rw [List.getElem?_append_left (by omega)] at hz
      exact hy i z hz
    · have hi2 : i = n := by
        have := (List.getElem?_eq_some_iff.1 hz).1
        simp [hl] at this
        omega
      subst hi2
      rw [List.getElem?_append_right (by omega), hl] at hz
      simp at hz
      subst hz
      exact hp
theorem opens_slice {α : Type} {P : Program} {t e : TypeId} {d : Kd α} {wf : α → Prop} (h : P.underlying t = some (.slice e)) (hc : P.cellsOf e = d.sz) (he : Opens P e d wf) :
    Opens P t (Kd.slice e d) (fun l => l.length ≤ 9223372036854775807 ∧ ∀ x ∈ l, wf x) := by
  intro H enc W fuel cs x hx
  rcases open_slice h hx with ⟨rfl, _⟩ | ⟨a, len, cap, m, n, D, Pl, rfl, _, hl, hm, hmm, _, hx⟩
  · exact ⟨[], ⟨none, 0, rfl, by simp, Kd.C_nil d W⟩, by simp, by simp⟩
  · obtain ⟨ys, hlen, hy⟩ := list_of (p := fun i y => ∃ cs', W.cells? 0 (a.add (i * P.cellsOf e)) (P.cellsOf e) = some cs' ∧ d.K W y cs' ∧ wf y) len (fun i hi => by
      obtain ⟨cs', h1, h2⟩ := hx i (by rw [hmm]; split <;> omega)
      obtain ⟨y, hK, hw⟩ := he h2
      exact ⟨y, cs', h1, hK, hw⟩)
    have hm' : cap ≤ 9223372036854775807 := by simpa [maxLen] using hm
    refine ⟨ys, ⟨some a, cap, by rw [hlen], by omega, ⟨rfl, by omega, fun _ => ⟨a, rfl, fun j y hj => ?_⟩⟩⟩, by omega, fun y hmem => ?_⟩
    · obtain ⟨cs', h1, hK, _⟩ := hy j y hj
      obtain ⟨_, hl2, hcell⟩ := World.cells?_some h1
      refine ⟨cs', d.K_len hK, hK, fun i u hu => ?_⟩
      have hi : i < P.cellsOf e := by
        have := (List.getElem?_eq_some_iff.1 hu).1
        omega
      rw [← hc, ← Go.Deep.add_add, hcell i hi]
      exact hu
    · obtain ⟨j, hj⟩ := List.getElem?_of_mem hmem
      obtain ⟨_, _, _, hw⟩ := hy j y hj
      exact hw
theorem slice_cell {α : Type} {d : Kd α} {e : Nat} {W : World} {l : List α} {v : Value} (h : (Kd.slice e d).K W l [v]) : ∃ A c, v = .slice A l.length c ∧ l.length ≤ c ∧ d.C W A l.length l := by
  obtain ⟨A, c, hc, hl, hC⟩ := h
  exact ⟨A, c, by simpa using hc, hl, hC⟩
section
variable {P : Program} {t : TypeId} {W : World} {H : Type} {enc : TypeId × Value → H} {r : Reach} {b0 : Nat} {v : Value} {d : DataW H} {p : List MemPlace}
theorem agg2_at {α0 α1 : Type} {f0 f1 : Field} {d0 : Kd α0} {d1 : Kd α1} {w0 : α0 → Prop} {w1 : α1 → Prop} (hs : P.underlying t = some (.struct #[f0, f1])) (hone : oneCellFields P #[f0, f1] = true) (hC : P.cellsOf t = 2)
    (h0 : Opens P f0.type d0 w0) (h1 : Opens P f1.type d1 w1) (hv : Value.okWide P W r b0 t v) (h : DataW.Trod enc P W 0 (fun _ => true) true t v d p) :
    ∃ (v0 v1 : Value) (y0 : α0) (y1 : α1), v = .agg #[v0, v1] ∧ d0.K W y0 [v0] ∧ w0 y0 ∧ d1.K W y1 [v1] ∧ w1 y1 := by
  obtain ⟨v0, v1, _, _, _, rfl, _, _, e0, e1⟩ := open_agg2 hs hone hC hv h
  obtain ⟨y0, K0, W0⟩ := h0 e0
  obtain ⟨y1, K1, W1⟩ := h1 e1
  exact ⟨v0, v1, y0, y1, rfl, K0, W0, K1, W1⟩
end
end Go.Proofs.Ytjicgmcogadleaa.Open
namespace Go.Proofs.Ytjicgmcogadleaa.P
open Go.RowKit Go.Proofs.YtjicgmcogadleaaW.PrintWords Go.Proofs.YtjicgmcogadleaaW.PrintLast Go.Proofs.YtjicgmcogadleaaW.PrintMore
attribute [local go_sem] max2_int min2_int max_two min_two max_three min_three max_four min_four
set_option linter.unusedVariables false
set_option linter.unusedSimpArgs false
open Go.Proofs.Ytjicgmcogadleaa.Open
end Go.Proofs.Ytjicgmcogadleaa.P
namespace Go.Proofs.Ytjicgmcogadleaa.Pure
set_option linter.unusedVariables false
set_option linter.unusedSimpArgs false
open Go.RowKit Go.Proofs.YtjicgmcogadleaaW.PrintWords Go.Proofs.YtjicgmcogadleaaW.PrintLast Go.Proofs.YtjicgmcogadleaaW.PrintMore
theorem w64 {x : Int} (h0 : -9223372036854775808 ≤ x) (h1 : x ≤ 9223372036854775807) : wrap64 x = x := by
  unfold wrap64
  omega
theorem w64n {n : Nat} (h : n ≤ 9223372036854775807) : wrap64 (n : Int) = (n : Int) := w64 (by omega) (by omega)
theorem rd_nat (xs : List Int) (i : Nat) : rd xs (i : Int) = xs.getD i 0 := by simp [rd]
section
variable {α β : Type} {f g : Nat → Option α} {r : α}
theorem ev_some (r : α) : Ev (fun _ => some r) r := ⟨0, fun _ _ => rfl⟩
theorem ev_ifp {c : Prop} [Decidable c] (h : c) (k : Ev f r) : Ev (fun n => if c then f n else g n) r := Ev.congr (fun _ => if_pos h) k
theorem ev_ifn {c : Prop} [Decidable c] (h : ¬ c) (k : Ev g r) : Ev (fun n => if c then f n else g n) r := Ev.congr (fun _ => if_neg h) k
theorem ev_bind {F : Nat → α → Option β} {q : β} (h : Ev g r) (k : Ev (fun n => F n r) q) : Ev (fun n => (g n).bind (fun x => F n x)) q := by
  obtain ⟨K1, h1⟩ := h
  obtain ⟨K2, h2⟩ := k
  exact ⟨K1 + K2, fun n hn => by show (g n).bind (fun x => F n x) = some q; rw [h1 n (by omega)]; exact h2 n (by omega)⟩
theorem ev_const {a : Option α} (h : a = some r) : Ev (fun _ => a) r := ⟨0, fun _ _ => h⟩
theorem ev_step (h : ∀ k, g (k + 1) = f k) (k : Ev f r) : Ev g r := by
  obtain ⟨K, h1⟩ := k
  refine ⟨K + 1, fun n hn => ?_⟩
  obtain ⟨m, rfl⟩ : ∃ m, n = m + 1 := ⟨n - 1, by omega⟩
  rw [h m]
  exact h1 m (by omega)
theorem ev_two {f : Nat → Option α} {g : Nat → Option β} {a : α} {b : β} (h : Ev f a) (k : Ev g b) : ∃ K, ∀ n, K ≤ n → f n = some a ∧ g n = some b := by
  obtain ⟨K1, h1⟩ := h
  obtain ⟨K2, h2⟩ := k
  exact ⟨K1 + K2, fun n hn => ⟨h1 n (by omega), h2 n (by omega)⟩⟩
end
def iter {σ : Type} (g : Nat → σ → σ) : Nat → Nat → σ → σ
  | _, 0, s => s
  | i, d + 1, s => iter g (i + 1) d (g i s)
theorem loop_ev {σ ρ : Type} (F : Nat → σ → Nat → Option ρ) (n : Nat) (g : Nat → σ → σ) (fin : σ → ρ) (I : Nat → σ → Prop)
    (hs : ∀ i s r, I i s → i < n → Ev (fun k => F k (g i s) (i + 1)) r → Ev (fun k => F k s i) r) (hI : ∀ i s, I i s → i < n → I (i + 1) (g i s))
    (he : ∀ s, I n s → Ev (fun k => F k s n) (fin s)) : ∀ i s, i ≤ n → I i s → Ev (fun k => F k s i) (fin (iter g i (n - i) s)) := by
  have key : ∀ d i s, n - i = d → i ≤ n → I i s → Ev (fun k => F k s i) (fin (iter g i d s)) := by
    intro d
    induction d with
    | zero =>
      intro i s h0 h1 h2
      obtain rfl : i = n := by omega
      exact he s h2
    | succ d ih =>
      intro i s h0 h1 h2
      exact hs i s _ h2 (by omega) (ih (i + 1) (g i s) (by omega) (by omega) (hI i s h2 (by omega)))
  exact fun i s h1 h2 => key (n - i) i s rfl h1 h2
theorem iter_inv {σ : Type} (g : Nat → σ → σ) (I : Nat → σ → Prop) (n : Nat) (hI : ∀ i s, I i s → i < n → I (i + 1) (g i s)) : ∀ d i s, i + d = n → I i s → I n (iter g i d s) := by
  intro d
  induction d with
  | zero => intro i s h0 h1; obtain rfl : i = n := by omega
            exact h1
  | succ d ih => intro i s h0 h1; exact ih (i + 1) _ (by omega) (hI i s h1 (by omega))
def rall (p : Nat → Bool) : Nat → Nat → Bool
  | _, 0 => true
  | i, d + 1 => p i && rall p (i + 1) d
theorem rall_iff (p : Nat → Bool) : ∀ d i, rall p i d = true ↔ ∀ j, i ≤ j → j < i + d → p j = true
  | 0, i => ⟨fun _ j h1 h2 => by omega, fun _ => rfl⟩
  | d + 1, i => by
    show (p i && rall p (i + 1) d) = true ↔ _
    rw [Bool.and_eq_true, rall_iff p d (i + 1)]
    constructor
    · rintro ⟨h0, h1⟩ j h2 h3
      by_cases e : j = i
      · rw [e]; exact h0
      · exact h1 j (by omega) (by omega)
    · intro h
      exact ⟨h i (Nat.le_refl _) (by omega), fun j h2 h3 => h j (by omega) (by omega)⟩
theorem all_ev {ρ : Type} (F : Nat → Nat → Option ρ) (n : Nat) (p : Nat → Bool) (no yes : ρ) (hs : ∀ i r, i < n → p i = true → Ev (fun k => F k (i + 1)) r → Ev (fun k => F k i) r)
    (hn : ∀ i, i < n → p i = false → Ev (fun k => F k i) no) (he : Ev (fun k => F k n) yes) :
    ∀ i, i ≤ n → Ev (fun k => F k i) (if rall p i (n - i) = true then yes else no) := by
  have key : ∀ d i, n - i = d → i ≤ n → Ev (fun k => F k i) (if rall p i d = true then yes else no) := by
    intro d
    induction d with
    | zero =>
      intro i h0 h1
      obtain rfl : i = n := by omega
      rw [show rall p i 0 = true from rfl, if_pos rfl]
      exact he
    | succ d ih =>
      intro i h0 h1
      have h := ih (i + 1) (by omega) (by omega)
      have e : rall p i (d + 1) = (p i && rall p (i + 1) d) := rfl
      cases hp : p i with
      | true =>
        rw [e, hp, Bool.true_and]
        exact hs i _ (by omega) hp h
      | false =>
        rw [e, hp, Bool.false_and, if_neg (by simp)]
        exact hn i (by omega) hp
  exact fun i h1 => key (n - i) i rfl h1
theorem allb_ev (F : Nat → Nat → Option Bool) (n : Nat) (p : Nat → Bool) (hs : ∀ i r, i < n → p i = true → Ev (fun k => F k (i + 1)) r → Ev (fun k => F k i) r)
    (hn : ∀ i, i < n → p i = false → Ev (fun k => F k i) false) (he : Ev (fun k => F k n) true) : Ev (fun k => F k 0) (rall p 0 n) := by
  have h := all_ev F n p false true hs hn he 0 (Nat.zero_le _)
  rw [Nat.sub_zero] at h
  cases e : rall p 0 n <;> simpa [e] using h
theorem getD_eq_get {α : Type} {xs : List α} {i : Nat} (z : α) (h : i < xs.length) : xs.getD i z = xs[i] := by simp [List.getD, List.getElem?_eq_getElem h]
theorem eq_index {α : Type} {xs ys : List α} (z : α) (h : xs.length = ys.length) (hh : ∀ j, j < xs.length → xs.getD j z = ys.getD j z) : xs = ys := by
  refine List.ext_getElem h (fun i h1 h2 => ?_)
  rw [← getD_eq_get z h1, ← getD_eq_get z h2]
  exact hh i h1
theorem rall_eq {α : Type} [DecidableEq α] {xs ys : List α} (z : α) (h : xs.length = ys.length) : rall (fun j => decide (xs.getD j z = ys.getD j z)) 0 xs.length = decide (xs = ys) := by
  rw [Bool.eq_iff_iff, rall_iff, decide_eq_true_eq]
  constructor
  · exact fun hh => eq_index z h (fun j hj => by simpa using hh j (Nat.zero_le _) (by omega))
  · rintro rfl j _ _
    simp
end Go.Proofs.Ytjicgmcogadleaa.Pure
namespace Go.Proofs.Ytjicgmcogadleaa.Pure
set_option linter.unusedVariables false
set_option linter.unusedSimpArgs false
open Go.RowKit Go.Proofs.Ytjicgmcogadleaa.P Go.Proofs.YtjicgmcogadleaaW.PrintWords Go.Proofs.YtjicgmcogadleaaW.PrintLast
def inb (x a b : Int) : Bool := decide (a ≤ x) && decide (x ≤ b)
theorem inb_iff {x a b : Int} : inb x a b = true ↔ a ≤ x ∧ x ≤ b := by simp [inb]
theorem l1In_is (x a b : Int) : spec_l1In.f x a b = some (inb x a b) := by
  unfold spec_l1In.f inb
  split
  · rename_i h; simp [show a ≤ x from h]
  · rename_i h; simp [show ¬ a ≤ x from h]
theorem within_is (x a b : Int) : impl_within.f x a b = some (inb x a b) := l1In_is x a b
def tallyOk (c h : List Int) : Bool := decide (c.length = 11) && (decide (h.length = 11) && rall (fun i => inb (c.getD i 0) 0 1000 && inb (h.getD i 0) 0 (c.getD i 0)) 0 11)
theorem tallyOk_iff {c h : List Int} : tallyOk c h = true ↔ c.length = 11 ∧ h.length = 11 ∧ ∀ i, i < 11 → 0 ≤ c.getD i 0 ∧ c.getD i 0 ≤ 1000 ∧ 0 ≤ h.getD i 0 ∧ h.getD i 0 ≤ c.getD i 0 := by
  unfold tallyOk
  rw [Bool.and_eq_true, Bool.and_eq_true, rall_iff, decide_eq_true_eq, decide_eq_true_eq]
  constructor
  · rintro ⟨h1, h2, h3⟩
    refine ⟨h1, h2, fun i hi => ?_⟩
    have := h3 i (Nat.zero_le _) (by omega)
    rw [Bool.and_eq_true, inb_iff, inb_iff] at this
    omega
  · rintro ⟨h1, h2, h3⟩
    refine ⟨h1, h2, fun i _ hi => ?_⟩
    rw [Bool.and_eq_true, inb_iff, inb_iff]
    have := h3 i (by omega)
    omega
theorem l10Good_ev (c h : List Int) : Ev (fun k => spec_l10Good.f k c h) (tallyOk c h) := by
  by_cases h1 : c.length = 11
  · by_cases h2 : h.length = 11
    · have := allb_ev (fun k i => spec_l10Good.l0 k (i : Int) c h) 11 (fun i => inb (c.getD i 0) 0 1000 && inb (h.getD i 0) 0 (c.getD i 0))
        (fun i r hi hp hh => ev_step (fun k => by
          rw [Bool.and_eq_true] at hp
          simp only [spec_l10Good.l0, l1In_is, Option.bind_some, rd_nat]
          rw [if_pos (by omega), if_pos (by omega), if_pos hp.1, if_pos (by omega), if_pos hp.2, w64 (by omega) (by omega)]
          rfl) hh)
        (fun i hi hp => ev_step (f := fun _ => some false) (fun k => by
          simp only [spec_l10Good.l0, l1In_is, Option.bind_some, rd_nat]
          rw [if_pos (by omega), if_pos (by omega)]
          cases e : inb (c.getD i 0) 0 1000 with
          | false => simp
          | true =>
            rw [e, Bool.true_and] at hp
            simp only [hp, if_true]
            rw [if_pos (by omega)]
            simp) (ev_some _))
        (ev_step (f := fun _ => some true) (fun k => by
          simp only [spec_l10Good.l0]
          rw [if_neg (by omega)]) (ev_some _))
      have e : tallyOk c h = rall (fun i => inb (c.getD i 0) 0 1000 && inb (h.getD i 0) 0 (c.getD i 0)) 0 11 := by simp [tallyOk, h1, h2]
      rw [e]
      refine Ev.congr (f := fun k => spec_l10Good.j0 k false c h) (fun k => ?_) (ev_step (f := fun k => spec_l10Good.l0 k 0 c h) (fun k => by simp [spec_l10Good.j0]) this)
      unfold spec_l10Good.f
      rw [if_pos (by omega)]
      simp [h2]
    · have e : tallyOk c h = false := by simp [tallyOk, h2]
      rw [e]
      refine Ev.congr (f := fun k => spec_l10Good.j0 k true c h) (fun k => ?_) (ev_step (f := fun k => some false) (fun k => by simp [spec_l10Good.j0]) (ev_some _))
      unfold spec_l10Good.f
      rw [if_pos (by omega), show ((h.length : Int) != 11) = true by rw [bne_iff_ne]; omega]
  · have e : tallyOk c h = false := by simp [tallyOk, h1]
    rw [e]
    refine Ev.congr (f := fun k => spec_l10Good.j0 k true c h) (fun k => ?_) (ev_step (f := fun k => some false) (fun k => by simp [spec_l10Good.j0]) (ev_some _))
    unfold spec_l10Good.f
    rw [if_neg (by omega)]
theorem isValidTally_ev (c h : List Int) : Ev (fun k => impl_IsValidTally.f k c h) (tallyOk c h) := by
  by_cases h1 : c.length = 11
  · by_cases h2 : h.length = 11
    · have := allb_ev (fun k i => impl_IsValidTally.l0 k c (c.length : Int) (i : Int) c h) 11 (fun i => inb (c.getD i 0) 0 1000 && inb (h.getD i 0) 0 (c.getD i 0))
        (fun i r hi hp hh => ev_step (fun k => by
          rw [Bool.and_eq_true] at hp
          simp only [impl_IsValidTally.l0, within_is, Option.bind_some, rd_nat]
          rw [if_pos (by omega), if_pos (by omega), if_pos (by omega), if_pos hp.1, if_pos (by omega), if_pos hp.2, w64 (by omega) (by omega)]
          rfl) hh)
        (fun i hi hp => ev_step (f := fun _ => some false) (fun k => by
          simp only [impl_IsValidTally.l0, within_is, Option.bind_some, rd_nat]
          rw [if_pos (by omega), if_pos (by omega), if_pos (by omega)]
          cases e : inb (c.getD i 0) 0 1000 with
          | false => simp
          | true =>
            rw [e, Bool.true_and] at hp
            simp only [hp, if_true]
            rw [if_pos (by omega)]
            simp) (ev_some _))
        (ev_step (f := fun _ => some true) (fun k => by
          simp only [impl_IsValidTally.l0]
          rw [if_neg (by omega)]) (ev_some _))
      have e : tallyOk c h = rall (fun i => inb (c.getD i 0) 0 1000 && inb (h.getD i 0) 0 (c.getD i 0)) 0 11 := by simp [tallyOk, h1, h2]
      rw [e]
      refine Ev.congr (f := fun k => impl_IsValidTally.j0 k false c h) (fun k => ?_) (ev_step (f := fun k => impl_IsValidTally.l0 k c (c.length : Int) 0 c h) (fun k => by simp [impl_IsValidTally.j0]) this)
      unfold impl_IsValidTally.f
      rw [if_pos (by omega)]
      simp [h2]
    · have e : tallyOk c h = false := by simp [tallyOk, h2]
      rw [e]
      refine Ev.congr (f := fun k => impl_IsValidTally.j0 k true c h) (fun k => ?_) (ev_step (f := fun k => some false) (fun k => by simp [impl_IsValidTally.j0]) (ev_some _))
      unfold impl_IsValidTally.f
      rw [if_pos (by omega), show ((h.length : Int) != 11) = true by rw [bne_iff_ne]; omega]
  · have e : tallyOk c h = false := by simp [tallyOk, h1]
    rw [e]
    refine Ev.congr (f := fun k => impl_IsValidTally.j0 k true c h) (fun k => ?_) (ev_step (f := fun k => some false) (fun k => by simp [impl_IsValidTally.j0]) (ev_some _))
    unfold impl_IsValidTally.f
    rw [if_neg (by omega)]
end Go.Proofs.Ytjicgmcogadleaa.Pure
namespace Go.Proofs.Ytjicgmcogadleaa.P
open Go.RowKit Go.Proofs.YtjicgmcogadleaaW.PrintWords Go.Proofs.YtjicgmcogadleaaW.PrintLast Go.Proofs.YtjicgmcogadleaaW.PrintMore
attribute [local go_sem] max2_int min2_int max_two min_two max_three min_three max_four min_four
set_option linter.unusedVariables false
set_option linter.unusedSimpArgs false
set_option maxHeartbeats 8000000
set_option maxRecDepth 100000
def spec_l10Common.l0 : Nat → Int → Int → Option (Int)
 | 0, _, _ => none
 | k + 1, x0, x1 => if x1 > 0 then (if x1 = 0 then (none) else (spec_l10Common.l0 k x1 (Int.tmod x0 x1))) else (some x0)
def spec_l10Common.f (k : Nat) (a0 : Int) (a1 : Int) : Option (Int) := spec_l10Common.l0 k a0 a1
def spec_l10Share.f (k : Nat) (a0 : Int) (a1 : Int) : Option (Int × Int) := (spec_l10Common.f k a0 a1).bind fun t102 => (if t102 = 0 then (none) else (some (wrap64 (Int.tdiv a0 t102), wrap64 (Int.tdiv a1 t102))))
end Go.Proofs.Ytjicgmcogadleaa.P
namespace Go.Proofs.Ytjicgmcogadleaa.Pure
set_option linter.unusedVariables false
set_option linter.unusedSimpArgs false
open Go.RowKit Go.Proofs.Ytjicgmcogadleaa.P Go.Proofs.YtjicgmcogadleaaW.PrintWords Go.Proofs.YtjicgmcogadleaaW.PrintLast
theorem tmod_nat (a b : Nat) : Int.tmod (a : Int) (b : Int) = ((a % b : Nat) : Int) := by
  rw [Int.tmod_eq_emod_of_nonneg (by omega)]
  rfl
theorem tdiv_nat (a b : Nat) : Int.tdiv (a : Int) (b : Int) = ((a / b : Nat) : Int) := by
  rw [Int.tdiv_eq_ediv_of_nonneg (by omega)]
  rfl
theorem common_ev (b : Nat) : ∀ a : Nat, Ev (fun k => spec_l10Common.l0 k (a : Int) (b : Int)) ((Nat.gcd b a : Nat) : Int) := by
  induction b using Nat.strongRecOn with
  | _ b ih =>
    intro a
    by_cases h : b = 0
    · subst h
      rw [Nat.gcd_zero_left]
      exact ev_step (f := fun _ => some (a : Int)) (fun k => by simp [spec_l10Common.l0]) (ev_some _)
    · have hm := Nat.mod_lt a (Nat.pos_of_ne_zero h)
      rw [Nat.gcd_rec]
      exact ev_step (fun k => by
        simp only [spec_l10Common.l0]
        rw [if_pos (by omega), if_neg (by omega), tmod_nat]) (ih (a % b) hm b)
theorem divisor_same : ∀ k a b, impl_divisorOf.l0 k a b = spec_l10Common.l0 k a b := by
  intro k
  induction k with
  | zero => intro a b; rfl
  | succ k ih => intro a b; simp only [impl_divisorOf.l0, spec_l10Common.l0, ih]
theorem l10Common_ev (a b : Nat) : Ev (fun k => spec_l10Common.f k (a : Int) (b : Int)) ((Nat.gcd a b : Nat) : Int) := by
  rw [Nat.gcd_comm]
  exact common_ev b a
theorem divisorOf_ev (a b : Nat) : Ev (fun k => impl_divisorOf.f k (a : Int) (b : Int)) ((Nat.gcd a b : Nat) : Int) := by
  rw [Nat.gcd_comm]
  exact Ev.congr (fun k => divisor_same k _ _) (common_ev b a)
def shareN (a b : Nat) : Int × Int := (((a / Nat.gcd a b : Nat) : Int), ((b / Nat.gcd a b : Nat) : Int))
theorem l10Share_ev (a b : Nat) (hb : 0 < b) (ha2 : a ≤ 9223372036854775807) (hb2 : b ≤ 9223372036854775807) : Ev (fun k => spec_l10Share.f k (a : Int) (b : Int)) (shareN a b) := by
  have hg : 0 < Nat.gcd a b := Nat.gcd_pos_of_pos_right a hb
  have h1 := Nat.div_le_self a (Nat.gcd a b)
  have h2 := Nat.div_le_self b (Nat.gcd a b)
  refine ev_bind (l10Common_ev a b) (ev_ifn (by omega) (ev_const ?_))
  rw [tdiv_nat, tdiv_nat, w64n (Nat.le_trans h1 ha2), w64n (Nat.le_trans h2 hb2)]
  rfl
theorem shareOf_ev (a b : Nat) (hb : 0 < b) (ha2 : a ≤ 9223372036854775807) (hb2 : b ≤ 9223372036854775807) : Ev (fun k => impl_shareOf.f k (a : Int) (b : Int)) (shareN a b) := by
  have hg : 0 < Nat.gcd a b := Nat.gcd_pos_of_pos_right a hb
  have h1 := Nat.div_le_self a (Nat.gcd a b)
  have h2 := Nat.div_le_self b (Nat.gcd a b)
  have hd := divisorOf_ev b a
  rw [Nat.gcd_comm] at hd
  refine ev_bind hd (ev_ifn (by omega) (ev_const ?_))
  rw [tdiv_nat, tdiv_nat, w64n (Nat.le_trans h1 ha2), w64n (Nat.le_trans h2 hb2)]
  rfl
end Go.Proofs.Ytjicgmcogadleaa.Pure
namespace Go.Proofs.Ytjicgmcogadleaa.Pure
set_option linter.unusedVariables false
set_option linter.unusedSimpArgs false
open Go.RowKit Go.Proofs.YtjicgmcogadleaaW.PrintWords Go.Proofs.YtjicgmcogadleaaW.PrintLast Go.Proofs.YtjicgmcogadleaaW.PrintMore
def tab {α : Type} (n : Nat) (q : Nat → α) : List α := (List.range n).map q
theorem tab_length {α : Type} (n : Nat) (q : Nat → α) : (tab n q).length = n := by simp [tab]
theorem tab_getD {α : Type} (n : Nat) (q : Nat → α) (z : α) {i : Nat} (h : i < n) : (tab n q).getD i z = q i := by simp [tab, List.getD, h]
theorem iter_set_tab {α : Type} (z : α) (q : Nat → α) (n : Nat) (s : List α) (hs : s.length = n) : iter (fun i (s : List α) => s.set i (q i)) 0 n s = tab n q := by
  have hi := iter_inv (fun i (s : List α) => s.set i (q i)) (fun i s => s.length = n ∧ ∀ j, j < i → s.getD j z = q j) n
    (fun i s hI hi => ⟨by simp [hI.1], fun j hj => by
      by_cases e : j = i
      · subst e
        have := hI.1
        simp [List.getD, List.getElem?_set_self (show j < s.length by omega)]
      · rw [← hI.2 j (by omega)]
        simp [List.getD, List.getElem?_set_ne (Ne.symm e)]⟩) n 0 s (by omega) ⟨hs, fun j hj => by omega⟩
  exact eq_index z (by rw [hi.1, tab_length]) (fun j hj => by rw [hi.2 j (by have := hi.1; omega), tab_getD _ _ z (by have := hi.1; omega)])
theorem iter_app_tab {α : Type} (q : Nat → α) : ∀ d i (s : List α), iter (fun i (s : List α) => s ++ [q i]) i d s = s ++ (List.range d).map (fun j => q (i + j)) := by
  intro d
  induction d with
  | zero => intro i s; simp [iter]
  | succ d ih =>
    intro i s
    show iter _ (i + 1) d (s ++ [q i]) = _
    rw [ih (i + 1) (s ++ [q i]), List.append_assoc, List.range_succ_eq_map, List.map_cons, List.map_map]
    congr 1
    show [q i] ++ _ = q (i + 0) :: _
    rw [List.singleton_append, Nat.add_zero]
    congr 1
    refine List.map_congr_left (fun j _ => ?_)
    show q (i + 1 + j) = q (i + (j + 1))
    congr 1
    omega
theorem iter_app0 {α : Type} (q : Nat → α) (n : Nat) : iter (fun i (s : List α) => s ++ [q i]) 0 n [] = tab n q := by
  rw [iter_app_tab, List.nil_append]
  unfold tab
  exact List.map_congr_left (fun j _ => by rw [Nat.zero_add])
end Go.Proofs.Ytjicgmcogadleaa.Pure
namespace Go.Proofs.Ytjicgmcogadleaa.P
open Go.RowKit Go.Proofs.YtjicgmcogadleaaW.PrintWords Go.Proofs.YtjicgmcogadleaaW.PrintLast Go.Proofs.YtjicgmcogadleaaW.PrintMore
attribute [local go_sem] max2_int min2_int max_two min_two max_three min_three max_four min_four
set_option linter.unusedVariables false
set_option linter.unusedSimpArgs false
set_option maxHeartbeats 8000000
set_option maxRecDepth 100000
def spec_l10Shares.l1 : Nat → List S86 → Int → Int → Int → Int → Option (Int × Int)
  | 0, _, _, _, _, _ => none
  | k + 1, g, c, bc, bh, i => if i < (g.length : Int) then (if 0 ≤ i then (if 0 < ((rd_T86 g i).f0.length : Int) then (if rd (rd_T86 g i).f0 0 ≤ c then spec_l10Shares.l1 k g c (rd_T86 g i).f1 (rd_T86 g i).f2 (wrap64 (i + 1)) else spec_l10Shares.l1 k g c bc bh (wrap64 (i + 1))) else none) else none) else some (bc, bh)
def spec_l10Shares.l0 : Nat → List S86 → Int → List S33 → Option (List S33)
  | 0, _, _, _ => none
  | k + 1, g, c, out => if c ≤ 10 then (if 0 < (g.length : Int) then ((spec_l10Shares.l1 k g c (rd_T86 g 0).f1 (rd_T86 g 0).f2 0).bind fun b => ((spec_l10Share.f k b.2 b.1).bind fun s => (if out.length < 1000 then spec_l10Shares.l0 k g (wrap64 (c + 1)) (out ++ [(⟨s.1, s.2⟩ : S33)]) else none))) else none) else some out
def spec_l10Shares.f (k : Nat) (l0_0 : List Int) (l0_1 : List Int) : Option (List S33) := (spec_l10Groups.f k l0_0 l0_1).bind fun g => (if (g.length : Int) = 0 then some [] else spec_l10Shares.l0 k g 0 [])
end Go.Proofs.Ytjicgmcogadleaa.P
