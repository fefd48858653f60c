/- Texts of the claim FnExactGrowthOf, merged: part 5 of 6: the program's and the reference's functions as Lean functions, the walks that show it, and plain lemmas; no conditions. -/
import Derived.Test.YthekngnkajjhnaaKFnExactGrowthOf2
import Derived.Test.YthekngnkajjhnaaKFnExactGrowthOf3
import Derived.Test.YthekngnkajjhnaaKFnExactGrowthOf4
import Derived.Test.YthekngnkajjhnaaKFnExactGrowthOf1
import Derived.ProofKit
import Derived.OpenShut
import Derived.Deep.Slices
import Derived.Deep.Strs
import Derived.Deep.Fields
import Derived.Lib.SmallJoins
namespace Go.Proofs.Ythekngnkajjhnaa.P
open Go.RowKit Go.Proofs.YthekngnkajjhnaaW.PrintWords Go.Proofs.YthekngnkajjhnaaW.PrintLast Go.Proofs.YthekngnkajjhnaaW.PrintMore
attribute [local go_sem] max2_int min2_int max_two min_two max_three min_three max_four min_four
set_option linter.unusedVariables false
set_option linter.unusedSimpArgs false
def laws_markIntA2S.l0 : Nat → List S158 → Int → Int → Option (Int × List S158)
  | 0, _, _, _ => none
  | k + 1, x0, x1, x5 => if x5 < (x0.length : Int) then (if 0 ≤ x5 then (laws_markIntA2S.l0 k (x0.set x5.toNat ⟨x1, wrap64 (x1 + 1)⟩) (wrap64 ((wrap64 (x1 + 1)) + 1)) (wrap64 (x5 + 1))) else none) else some (x1, x0)
def laws_markIntA2S.f (k : Nat) (l0 : List S158) (a1 : Int) : Option (Int × List S158) := laws_markIntA2S.l0 k l0 a1 0
theorem markA2_put0 {W : World} {base g n cap : Nat} {ok : Nat → Prop} {xs : List S158} (h : Kd.R k158 158 W base ok (.slice (some ⟨g, 0, none⟩) n cap) xs) (i : Int) (h0 : 0 ≤ i) (h1 : i < n) (a : Int) :
    Kd.R k158 158 (W.setCell ⟨g, i.toNat * 2, none⟩ (.int .i64 a)) base ok (.slice (some ⟨g, 0, none⟩) n cap) (xs.set i.toNat ⟨a, (rd_T158 xs i).f1⟩) ∧ W.grownBy (W.setCell ⟨g, i.toNat * 2, none⟩ (.int .i64 a)) (some g) ∧
      (∃ u, W.cell? ⟨g, i.toNat * 2, none⟩ = some (.int .i64 u)) ∧ W.frozen? ⟨g, i.toNat * 2, none⟩ = false := by
  obtain ⟨c, hcl, hM, hcc, hfr⟩ := Kd.R_elem h z158 i h0 h1
  obtain rfl := k158_openM hM
  have hP := Kd.R_seg h i h0 h1 (seg := [.int .i64 a]) (j := 0) hcl hcc (show 1 ≤ 2 from by decide) (x' := (⟨a, (rd_T158 xs i).f1⟩ : S158)) (k158_mkM _ _ _ (⟨a, (rd_T158 xs i).f1⟩ : S158)) (fun _ hk => hk)
  exact ⟨hP.1, hP.2, ⟨_, hcc 0 _ rfl⟩, hfr 0⟩
theorem markA2_put1 {W : World} {base g n cap : Nat} {ok : Nat → Prop} {xs : List S158} (h : Kd.R k158 158 W base ok (.slice (some ⟨g, 0, none⟩) n cap) xs) (i : Int) (h0 : 0 ≤ i) (h1 : i < n) (a : Int) :
    Kd.R k158 158 (W.setCell ⟨g, i.toNat * 2 + 1, none⟩ (.int .i64 a)) base ok (.slice (some ⟨g, 0, none⟩) n cap) (xs.set i.toNat ⟨(rd_T158 xs i).f0, a⟩) ∧ W.grownBy (W.setCell ⟨g, i.toNat * 2 + 1, none⟩ (.int .i64 a)) (some g) ∧
      (∃ u, W.cell? ⟨g, i.toNat * 2 + 1, none⟩ = some (.int .i64 u)) ∧ W.frozen? ⟨g, i.toNat * 2 + 1, none⟩ = false := by
  obtain ⟨c, hcl, hM, hcc, hfr⟩ := Kd.R_elem h z158 i h0 h1
  obtain rfl := k158_openM hM
  have hP := Kd.R_seg h i h0 h1 (seg := [.int .i64 a]) (j := 1) hcl hcc (show 2 ≤ 2 from by decide) (x' := (⟨(rd_T158 xs i).f0, a⟩ : S158)) (k158_mkM _ _ _ (⟨(rd_T158 xs i).f0, a⟩ : S158)) (fun _ hk => hk)
  exact ⟨hP.1, hP.2, ⟨_, hcc 1 _ rfl⟩, hfr 1⟩
theorem markA2_rd {xs : List S158} {i : Int} (h0 : 0 ≤ i) (h1 : i < xs.length) (x : S158) : rd_T158 (xs.set i.toNat x) i = x := by
 unfold rd_T158
 rw [List.getD_eq_getElem?_getD, List.getElem?_set_self (by omega)]
 rfl
set_option maxHeartbeats 8000000 in
set_option maxRecDepth 100000 in
theorem laws_markIntA2S.calls (k : Nat) (P0_ : Nat → Prop) (u9000_ : Value) (l0 : List S158) (a1 : Int) (r1 : Int) (r2 : List S158) (w0 w : World) (hB : Below w0.heap.size w0 w) (ho0 : Kd.R k158 158 w w0.heap.size P0_ u9000_ l0) (h : laws_markIntA2S.f k l0 a1 = some (r1, r2)) :
  Calls Try.prog 112 #[u9000_, .int .i64 a1] w fun e w' => e = .returned (.int .i64 r1) ∧ Kd.R k158 158 w' w0.heap.size (fun k_ => (P0_ k_ ∨ w.heap.size ≤ k_)) u9000_ r2 ∧ Below w0.heap.size w0 w' ∧ Kept w w' (fun k_ => P0_ k_) := by
 have HO0 := aK (show Kd.R k158 158 w w0.heap.size (fun k_ => (P0_ k_ ∨ w.heap.size ≤ k_)) u9000_ l0 from Kd.R_mono ho0 (fun k_ hk => (.inl hk)))
 have HK := aK (Kept.refl w (fun k_ => P0_ k_))
 have HW0 := Aside0.mk hB.size
 have HB := Aside0.mk hB
 clear hB
 have H : (laws_markIntA2S.l0 k l0 a1 0) = some (r1, r2) := h
 clear h
 have H' := Aside0.mk H
 clear H
 go_enter Try.func112, Try.ntmps112
 go_wp2
 go_loopg [1, 5] k (fun kq v1 v5 w' => ∃ (x0_1 : List S158) (x1_1 : Int) (x5_1 : Int), v1 = .int .i64 x1_1 ∧ v5 = .int .i64 x5_1 ∧ Aside0 (laws_markIntA2S.l0 kq x0_1 x1_1 x5_1 = some (r1, r2)) ∧ Aside0 (kq ≤ k) ∧ Aside0 (Kd.R k158 158 w' w0.heap.size (fun k_ => (P0_ k_ ∨ w.heap.size ≤ k_)) u9000_ x0_1) ∧ Aside0 (Kept w w' (fun k_ => P0_ k_)) ∧ Aside0 (Below w0.heap.size w0 w'))
 case atStart => exact ⟨(l0), (a1), (0), rfl, rfl, H', ⟨Nat.le_refl _⟩, HO0, HK, HB⟩
 case round =>
  clear H'
  obtain ⟨x0_1, x1_1, x5_1, rfl, rfl, HA, HK1, HO_0, HK, HB⟩ := hrel
  cases gk with
  | zero => exact absurd HA.out (by simp [laws_markIntA2S.l0])
  | succ k1 =>
   have H := HA.out
   clear HA
   simp only [laws_markIntA2S.l0] at H
   by_cases c3 : x5_1 < (x0_1.length : Int)
   ·
    rw [if_pos c3] at H
    have c3b0 : decide (x5_1 < (x0_1.length : Int)) = true := decide_eq_true c3
    by_cases c4 : 0 ≤ x5_1
    ·
     rw [if_pos c4] at H
     have c4b0 : decide (0 ≤ x5_1) = true := decide_eq_true c4
     have H' := Aside0.mk H
     clear H
     obtain ⟨Ao6, co6, eo6⟩ := Kd.R_slice HO_0.out
     subst eo6
     obtain ⟨go5, co5, eo5, gb5, gl5, cl5, HG5⟩ := Kd.R_form HO_0.out (by omega)
     (first | cases eo5 | (injection eo5 with ea_ en_ ec_; (first | subst ea_ | (injection ea_ with ea_; subst ea_)); subst ec_; clear en_))
     have GB5 := Aside0.mk gb5
     clear gb5 gl5 HG5
     have HMgo5 := aK (show (P0_ go5 ∨ w.heap.size ≤ go5) from (HO_0.out.1 _ rfl))
     have P5 := Aside0.mk c4
     have Q5 := Aside0.mk c3
     clear c3 c4
     go_wp2
     go_loopg [1, 6] 3 (fun kq v1 v6 w' => ∃ (x0_2 : List S158) (x1_2 : Int) (x6_2 : Int), v1 = .int .i64 x1_2 ∧ v6 = .int .i64 x6_2 ∧ Aside0 ((kq = 3 ∧ x6_2 = 0 ∧ x1_2 = x1_1 ∧ x0_2 = x0_1) ∨ (kq = 2 ∧ x6_2 = 1 ∧ x1_2 = wrap64 (x1_1 + 1) ∧ x0_2 = x0_1.set x5_1.toNat ⟨x1_1, (rd_T158 x0_1 x5_1).f1⟩) ∨ (kq = 1 ∧ x6_2 = 2 ∧ x1_2 = wrap64 ((wrap64 (x1_1 + 1)) + 1) ∧ x0_2 = x0_1.set x5_1.toNat ⟨x1_1, wrap64 (x1_1 + 1)⟩)) ∧ Aside0 (Kd.R k158 158 w' w0.heap.size (fun k_ => (P0_ k_ ∨ w.heap.size ≤ k_)) (.slice (some ⟨go5, 0, none⟩) x0_1.length co6) x0_2) ∧ Aside0 (Kept w w' (fun k_ => P0_ k_)) ∧ Aside0 (Below w0.heap.size w0 w'))
     case atStart => exact ⟨x0_1, x1_1, 0, rfl, rfl, ⟨.inl ⟨rfl, rfl, rfl, rfl⟩⟩, HO_0, HK, HB⟩
     case round =>
      clear HO_0 HK HB
      obtain ⟨x0_2, x1_2, x6_2, rfl, rfl, HQ, HO_0, HK, HB⟩ := hrel
      rcases HQ.out with ⟨rfl, rfl, rfl, rfl⟩ | ⟨rfl, rfl, rfl, rfl⟩ | ⟨rfl, rfl, rfl, rfl⟩
      ·
       clear HQ
       have HP7 := markA2_put0 HO_0.out x5_1 P5.out Q5.out x1_2
       obtain ⟨ux0, hx0⟩ := HP7.2.2.1
       have hf0 := HP7.2.2.2
       have p5 := eq_true P5.out
       have q5 := eq_true Q5.out
       go_wp2_with (first | ((with_reducible refine gate_store (t := 3) (p := 22) rfl ?_); refine store_event (t := 3) (p := 22) (v := ?vo_w8) (w1 := (wr.setCell ⟨go5, (x5_1 : Int).toNat * 2, none⟩ (.int .i64 x1_2))) ?hg ?ho ?hn ?hr ?_; (case ho => rfl); (case hg => rfl); (case hn => rfl); (case hr => first | (go_simp; done) | (go_simp; rfl)); intro w8 hw; have hg : wr.grownBy w8 (some go5) := (by rw [hw]; exact HP7.2.1); have n0_ := aK (show Kd.R k158 158 w8 w0.heap.size (fun k_ => (P0_ k_ ∨ w.heap.size ≤ k_)) (.slice (some ⟨go5, 0, none⟩) x0_2.length co6) (x0_2.set x5_1.toNat ⟨x1_2, (rd_T158 x0_2 x5_1).f1⟩) from (by rw [hw]; exact HP7.1)); have n1_ := aK ((by rw [hw]; exact below_set (HB.out) GB5.out : Below w0.heap.size w0 w8)); have n2_ := aK (Kept.of_grown (S := (fun k_ => P0_ k_)) hg HK.out (fun k_ e_ => (by injection e_ with e_; subst e_; exact HMgo5.out))); clear HO_0 HB HK HP7 hx0 hf0; have HO_0 := n0_; have HB := n1_; have HK := n2_; clear n0_ n1_ n2_; clear hg hw))
       go_roundg 2
       case measure => omega
       case rel => exact ⟨_, _, _, rfl, rfl, ⟨.inr (.inl ⟨rfl, by rfl, rfl, rfl⟩)⟩, HO_0, HK, HB⟩
      ·
       clear HQ
       have HP7 := markA2_put1 HO_0.out x5_1 P5.out Q5.out (wrap64 (x1_1 + 1))
       simp only [markA2_rd P5.out Q5.out, List.set_set] at HP7
       obtain ⟨ux0, hx0⟩ := HP7.2.2.1
       have hf0 := HP7.2.2.2
       have p5 := eq_true P5.out
       have q5 := eq_true Q5.out
       go_wp2_with (first | ((with_reducible refine gate_store (t := 3) (p := 22) rfl ?_); refine store_event (t := 3) (p := 22) (v := ?vo_w8) (w1 := (wr.setCell ⟨go5, (x5_1 : Int).toNat * 2 + 1, none⟩ (.int .i64 (wrap64 (x1_1 + 1))))) ?hg ?ho ?hn ?hr ?_; (case ho => rfl); (case hg => rfl); (case hn => rfl); (case hr => first | (go_simp; done) | (go_simp; rfl)); intro w8 hw; have hg : wr.grownBy w8 (some go5) := (by rw [hw]; exact HP7.2.1); have n0_ := aK (show Kd.R k158 158 w8 w0.heap.size (fun k_ => (P0_ k_ ∨ w.heap.size ≤ k_)) (.slice (some ⟨go5, 0, none⟩) x0_1.length co6) (x0_1.set x5_1.toNat ⟨x1_1, wrap64 (x1_1 + 1)⟩) from (by rw [hw]; exact HP7.1)); have n1_ := aK ((by rw [hw]; exact below_set (HB.out) GB5.out : Below w0.heap.size w0 w8)); have n2_ := aK (Kept.of_grown (S := (fun k_ => P0_ k_)) hg HK.out (fun k_ e_ => (by injection e_ with e_; subst e_; exact HMgo5.out))); clear HO_0 HB HK HP7 hx0 hf0; have HO_0 := n0_; have HB := n1_; have HK := n2_; clear n0_ n1_ n2_; clear hg hw))
       go_roundg 1
       case measure => omega
       case rel => exact ⟨_, _, _, rfl, rfl, ⟨.inr (.inr ⟨rfl, by rfl, rfl, rfl⟩)⟩, HO_0, HK, HB⟩
      clear HQ
      go_wp2
      go_roundg k1
      case measure => have := HK1.out; omega
      case rel => exact ⟨_, _, _, rfl, rfl, H', ⟨by have := HK1.out; omega⟩, HO_0, HK, HB⟩
    rw [if_neg c4] at H
    exact absurd H (by simp)
   rw [if_neg c3] at H
   have c3b0 : decide (x5_1 < (x0_1.length : Int)) = false := decide_eq_false c3
   clear c3
   simp only [Option.some.injEq, Prod.mk.injEq] at H
   obtain ⟨rfl, rfl⟩ := H
   obtain ⟨Ao9, co9, eo9⟩ := Kd.R_slice HO_0.out
   subst eo9
   go_wp2
   go_ret
   exact ⟨rfl, HO_0.out, HB.out, HK.out⟩
def laws_heldIntA2S.l0 : Nat → List S158 → Int → Int → Option (Int)
  | 0, _, _, _ => none
  | k + 1, x0, x1, x5 => if x5 < (x0.length : Int) then (if 0 ≤ x5 then (if (rd_T158 x0 x5).f0 = x1 then (if (rd_T158 x0 x5).f1 = wrap64 (x1 + 1) then (laws_heldIntA2S.l0 k x0 (wrap64 ((wrap64 (x1 + 1)) + 1)) (wrap64 (x5 + 1))) else (some (-1))) else (some (-1))) else none) else some x1
def laws_heldIntA2S.f (k : Nat) (l0 : List S158) (a1 : Int) : Option (Int) := laws_heldIntA2S.l0 k l0 a1 0
set_option maxHeartbeats 8000000 in
set_option maxRecDepth 100000 in
theorem laws_heldIntA2S.calls (k : Nat) (A0 : Option Addr) (c0 : Nat) (l0 : List S158) (a1 : Int) (r : Int) (w : World) (hr0 : Kd.C k158 w A0 l0.length l0) (hc0 : l0.length ≤ c0) (h : laws_heldIntA2S.f k l0 a1 = some r) :
  Calls Try.prog 113 #[.slice A0 l0.length c0, .int .i64 a1] w fun e w' => e = .returned (.int .i64 r) ∧ Drawn0 w w' := by
 have HR0 := Aside0.mk hr0
 have HC0 := Aside0.mk hc0
 clear hr0 hc0
 have H : (laws_heldIntA2S.l0 k l0 a1 0) = some r := h
 clear h
 have H' := Aside0.mk H
 clear H
 go_enter Try.func113, Try.ntmps113
 go_wp2
 go_loopg [1, 5] k (fun kq v1 v5 w' => ∃ (x1_1 : Int) (x5_1 : Int), v1 = .int .i64 x1_1 ∧ v5 = .int .i64 x5_1 ∧ Aside0 (laws_heldIntA2S.l0 kq l0 x1_1 x5_1 = some r) ∧ Aside0 (kq ≤ k) ∧ Drawn0 w w')
 case atStart => exact ⟨(a1), (0), rfl, rfl, H', ⟨Nat.le_refl _⟩, by repeat (first | exact Drawn0.refl _ | apply Drawn0.step)⟩
 case round =>
  clear H'
  obtain ⟨x1_1, x5_1, rfl, rfl, HA, HK1, ⟨m1, rfl⟩⟩ := hrel
  cases gk with
  | zero => exact absurd HA.out (by simp [laws_heldIntA2S.l0])
  | succ k1 =>
   have H := HA.out
   clear HA
   simp only [laws_heldIntA2S.l0] at H
   by_cases c3 : x5_1 < (l0.length : Int)
   ·
    rw [if_pos c3] at H
    have c3b0 : decide (x5_1 < (l0.length : Int)) = true := decide_eq_true c3
    by_cases c4 : 0 ≤ x5_1
    ·
     rw [if_pos c4] at H
     have c4b0 : decide (0 ≤ x5_1) = true := decide_eq_true c4
     have H' := Aside0.mk H
     clear H
     have P5 := Aside0.mk c4
     have Q5 := Aside0.mk c3
     clear c3 c4
     obtain ⟨ad101, e101, hx101_0, hx101_1⟩ := at_T158 HR0.out x5_1 P5.out Q5.out
     subst e101
     go_wp2
     go_loopg [1, 6] 3 (fun kq v1 v6 w' => ∃ (x1_2 : Int) (x6_2 : Int), v1 = .int .i64 x1_2 ∧ v6 = .int .i64 x6_2 ∧ Aside0 ((kq = 3 ∧ x6_2 = 0 ∧ x1_2 = x1_1) ∨ (kq = 2 ∧ x6_2 = 1 ∧ x1_2 = wrap64 (x1_1 + 1) ∧ (rd_T158 l0 x5_1).f0 = x1_1) ∨ (kq = 1 ∧ x6_2 = 2 ∧ x1_2 = wrap64 ((wrap64 (x1_1 + 1)) + 1) ∧ (rd_T158 l0 x5_1).f0 = x1_1 ∧ (rd_T158 l0 x5_1).f1 = wrap64 (x1_1 + 1))) ∧ Drawn0 w w')
     case atStart => exact ⟨x1_1, 0, rfl, rfl, ⟨.inl ⟨rfl, rfl, rfl⟩⟩, by repeat (first | exact Drawn0.refl _ | apply Drawn0.step)⟩
     case round =>
      obtain ⟨x1_2, x6_2, rfl, rfl, HQ, ⟨m2, rfl⟩⟩ := hrel
      have p5 := eq_true P5.out
      have q5 := eq_true Q5.out
      rcases HQ.out with ⟨rfl, rfl, rfl⟩ | ⟨rfl, rfl, rfl, hq1⟩ | ⟨rfl, rfl, rfl, hq1, hq2⟩
      ·
       clear HQ
       by_cases c7 : (rd_T158 l0 x5_1).f0 = x1_2
       ·
        have c7b0 : ((rd_T158 l0 x5_1).f0 == x1_2) = true := beq_iff_eq.mpr c7
        have c7b1 : ((rd_T158 l0 x5_1).f0 != x1_2) = false := bne_eq_false_iff_eq.mpr c7
        have C7 := Aside0.mk c7
        clear c7
        go_wp2
        repeat (go_quiet (fail); try go_wp2)
        go_roundg 2
        case measure => omega
        case rel =>
         have c7 := C7.out
         exact ⟨_, _, rfl, rfl, ⟨.inr (.inl ⟨rfl, by rfl, rfl, c7⟩)⟩, by repeat (first | exact Drawn0.refl _ | apply Drawn0.step)⟩
       have c7b0 : ((rd_T158 l0 x5_1).f0 == x1_2) = false := beq_eq_false_iff_ne.mpr c7
       have c7b1 : ((rd_T158 l0 x5_1).f0 != x1_2) = true := bne_iff_ne.mpr c7
       have H := H'.out
       rw [if_neg c7] at H
       obtain rfl := Option.some.inj H
       clear H H'
       go_wp2
       repeat (go_quiet (fail); try go_wp2)
       go_ret
       exact ⟨by first | rfl | (simp; done) | (simp [*]; done), by repeat (first | exact Drawn0.refl _ | apply Drawn0.step)⟩
      ·
       clear HQ
       have HQ1 := Aside0.mk hq1
       clear hq1
       by_cases c7 : (rd_T158 l0 x5_1).f1 = (wrap64 (x1_1 + 1))
       ·
        have c7b0 : ((rd_T158 l0 x5_1).f1 == (wrap64 (x1_1 + 1))) = true := beq_iff_eq.mpr c7
        have c7b1 : ((rd_T158 l0 x5_1).f1 != (wrap64 (x1_1 + 1))) = false := bne_eq_false_iff_eq.mpr c7
        have C7 := Aside0.mk c7
        clear c7
        go_wp2
        repeat (go_quiet (fail); try go_wp2)
        go_roundg 1
        case measure => omega
        case rel =>
         have c7 := C7.out
         exact ⟨_, _, rfl, rfl, ⟨.inr (.inr ⟨rfl, by rfl, rfl, HQ1.out, c7⟩)⟩, by repeat (first | exact Drawn0.refl _ | apply Drawn0.step)⟩
       have c7b0 : ((rd_T158 l0 x5_1).f1 == (wrap64 (x1_1 + 1))) = false := beq_eq_false_iff_ne.mpr c7
       have c7b1 : ((rd_T158 l0 x5_1).f1 != (wrap64 (x1_1 + 1))) = true := bne_iff_ne.mpr c7
       have H := H'.out
       rw [if_pos HQ1.out, if_neg c7] at H
       obtain rfl := Option.some.inj H
       clear H H'
       go_wp2
       repeat (go_quiet (fail); try go_wp2)
       go_ret
       exact ⟨by first | rfl | (simp; done) | (simp [*]; done), by repeat (first | exact Drawn0.refl _ | apply Drawn0.step)⟩
      clear HQ
      have H := H'.out
      rw [if_pos hq1, if_pos hq2] at H
      clear hq1 hq2 H'
      have H' := Aside0.mk H
      clear H
      go_wp2
      repeat (go_quiet (fail); try go_wp2)
      go_roundg k1
      case measure => have := HK1.out; omega
      case rel => exact ⟨_, _, rfl, rfl, H', ⟨by have := HK1.out; omega⟩, by repeat (first | exact Drawn0.refl _ | apply Drawn0.step)⟩
    rw [if_neg c4] at H
    exact absurd H (by simp)
   rw [if_neg c3] at H
   have c3b0 : decide (x5_1 < (l0.length : Int)) = false := decide_eq_false c3
   clear c3
   simp only [Option.some.injEq] at H
   subst H
   go_wp2
   repeat (go_quiet (fail); try go_wp2)
   go_ret
   exact ⟨by first | rfl | (simp; done) | (simp [*]; done), by repeat (first | exact Drawn0.refl _ | apply Drawn0.step)⟩
mutual
def laws_FnExactGrowthOf.j0 : Nat → List (S162) → List (S162) → List Int → List (S158) → Bool → List (S160) → List (S160) → List Int → List (S158) → Bool → Bool → Option (Bool)
 | 0, _, _, _, _, _, _, _, _, _, _, _ => none
 | k + 1, x0, x1, x2, x8, x9, x10, x11, x12, x13, x14, x64 => if x64 = true then (some false) else ((laws_toStormS.f k x0).bind fun t130 => ((laws_eqStormS.f k x10 t130).bind fun t133 => (if t133 = true then ((laws_toStormS.f k x1).bind fun t134 => ((laws_eqStormS.f k x11 t134).bind fun t137 => (if t137 = true then ((laws_toIntS.f k x2).bind fun t138 => ((laws_eqIntS.f k x12 t138).bind fun t141 => (if t141 = true then ((laws_markStormS.f k x10 1).bind fun bt142 => ((laws_markStormS.f k x11 bt142.1).bind fun bt144 => ((laws_markIntS.f k x12 bt144.1).bind fun bt146 => (if bt146.1 < 0 then (laws_FnExactGrowthOf.j1 k x0 x1 x2 x8 x9 x13 true) else ((laws_eqIntA2S.f k x13 x8).bind fun t148 => (if t148 = true then (laws_FnExactGrowthOf.j1 k x0 x1 x2 x8 x9 x13 (x14 != x9)) else (laws_FnExactGrowthOf.j1 k x0 x1 x2 x8 x9 x13 true))))))) else (some false)))) else (some false)))) else (some false))))
def laws_FnExactGrowthOf.j1 : Nat → List (S162) → List (S162) → List Int → List (S158) → Bool → List (S158) → Bool → Option (Bool)
 | 0, _, _, _, _, _, _, _ => none
 | k + 1, x0, x1, x2, x8, x9, x13, x101 => if x101 = true then (some false) else ((laws_markIntA2S.f k x13 1).bind fun bt149 => ((laws_heldIntA2S.f k bt149.2 1).bind fun t151 => (if t151 < 0 then (some false) else (if t151 = bt149.1 then ((laws_toStormS.f k x0).bind fun t152 => ((laws_toStormS.f k x1).bind fun t155 => ((laws_toIntS.f k x2).bind fun t158 => ((impl_GrowthOf.f k t152 t155 t158).bind fun bt161 => ((laws_eqIntA2S.f k bt161.1 x8).bind fun t165 => (if t165 = true then (laws_FnExactGrowthOf.j2 k bt149.2 bt149.1 (bt161.2 != x9)) else (laws_FnExactGrowthOf.j2 k bt149.2 bt149.1 true))))))) else (some false)))))
def laws_FnExactGrowthOf.j2 : Nat → List (S158) → Int → Bool → Option (Bool)
 | 0, _, _, _ => none
 | k + 1, x13, x16, x131 => if x131 = true then (some false) else ((laws_heldIntA2S.f k x13 1).bind fun t166 => (if t166 < 0 then (some false) else (if t166 = x16 then (some true) else (some false))))
end
def laws_FnExactGrowthOf.f (k : Nat) (l0 : List (S162)) (l1 : List (S162)) (l2 : List Int) : Option (Bool) := if (l2.length : Int) > 1048576 then (some true) else ((laws_szStormS.f l0 1048576).bind fun t101 => (if t101 < 0 then (some true) else ((laws_szStormS.f l1 t101).bind fun t102 => (if t102 < 0 then (some true) else ((laws_toStormS.f k l0).bind fun t103 => ((laws_toStormS.f k l1).bind fun t106 => ((laws_toIntS.f k l2).bind fun t109 => ((spec_GrowthOf.f k t103 t106 t109).bind fun bt112 => ((laws_toStormS.f k l0).bind fun t116 => ((laws_toStormS.f k l1).bind fun t119 => ((laws_toIntS.f k l2).bind fun t122 => ((impl_GrowthOf.f k t116 t119 t122).bind fun bt125 => ((laws_eqIntA2S.f k bt125.1 bt112.1).bind fun t129 => (if t129 = true then (laws_FnExactGrowthOf.j0 k l0 l1 l2 bt112.1 bt112.2 t116 t119 t122 bt125.1 bt125.2 (bt125.2 != bt112.2)) else (laws_FnExactGrowthOf.j0 k l0 l1 l2 bt112.1 bt112.2 t116 t119 t122 bt125.1 bt125.2 true)))))))))))))))
set_option maxHeartbeats 8000000 in
set_option maxRecDepth 100000 in
theorem laws_FnExactGrowthOf.calls (k : Nat) (A0 : Option Addr) (c0 : Nat) (l0 : List (S162)) (A1 : Option Addr) (c1 : Nat) (l1 : List (S162)) (A2 : Option Addr) (c2 : Nat) (l2 : List Int) (r : Bool) (w : World) (hr0 : Kd.C k162 w A0 l0.length l0) (hc0 : l0.length ≤ c0) (hr1 : Kd.C k162 w A1 l1.length l1) (hc1 : l1.length ≤ c1) (hr2 : Kd.C (Kd.int .i64) w A2 l2.length l2) (hc2 : l2.length ≤ c2) (h : laws_FnExactGrowthOf.f k l0 l1 l2 = some r) :
  Calls Try.prog 14 #[.slice A0 l0.length c0, .slice A1 l1.length c1, .slice A2 l2.length c2] w fun e w' => e = .returned (.bool r) ∧ Below w.heap.size w w' := by
 have HR0 := Aside0.mk hr0
 have HC0 := Aside0.mk hc0
 clear hr0 hc0
 have HR1 := Aside0.mk hr1
 have HC1 := Aside0.mk hc1
 clear hr1 hc1
 have HR2 := Aside0.mk hr2
 have HC2 := Aside0.mk hc2
 clear hr2 hc2
 have HB := aK (Below.refl w.heap.size w)
 have H : (if (l2.length : Int) > 1048576 then (some true) else ((laws_szStormS.f l0 1048576).bind fun t101 => (if t101 < 0 then (some true) else ((laws_szStormS.f l1 t101).bind fun t102 => (if t102 < 0 then (some true) else ((laws_toStormS.f k l0).bind fun t103 => ((laws_toStormS.f k l1).bind fun t106 => ((laws_toIntS.f k l2).bind fun t109 => ((spec_GrowthOf.f k t103 t106 t109).bind fun bt112 => ((laws_toStormS.f k l0).bind fun t116 => ((laws_toStormS.f k l1).bind fun t119 => ((laws_toIntS.f k l2).bind fun t122 => ((impl_GrowthOf.f k t116 t119 t122).bind fun bt125 => ((laws_eqIntA2S.f k bt125.1 bt112.1).bind fun t129 => (if t129 = true then (laws_FnExactGrowthOf.j0 k l0 l1 l2 bt112.1 bt112.2 t116 t119 t122 bt125.1 bt125.2 (bt125.2 != bt112.2)) else (laws_FnExactGrowthOf.j0 k l0 l1 l2 bt112.1 bt112.2 t116 t119 t122 bt125.1 bt125.2 true)))))))))))))))) = some r := h
 clear h
 by_cases c4 : (l2.length : Int) > 1048576
 ·
  rw [if_pos c4] at H
  have c4b0 : decide (1048576 < (l2.length : Int)) = true := decide_eq_true c4
  have c4b1 : decide (1048576 < l2.length) = true := decide_eq_true (by omega)
  clear c4
  obtain rfl := Option.some.inj H
  go_enter Try.func14, Try.ntmps14
  go_wp2
  go_ret
  exact ⟨by first | rfl | (simp [errW_none, errW_some] <;> rfl) | (simp [*, errW_none, errW_some] <;> rfl), pT HB.out⟩
 rw [if_neg c4] at H
 have c4b0 : decide (1048576 < (l2.length : Int)) = false := decide_eq_false c4
 have c4b1 : decide (1048576 < l2.length) = false := decide_eq_false (by omega)
 clear c4
 replace H := Option.bind_eq_some_iff.mp H
 obtain ⟨t101, A50, H⟩ := H
 replace H : (if t101 < 0 then (some true) else ((laws_szStormS.f l1 t101).bind fun t102 => (if t102 < 0 then (some true) else ((laws_toStormS.f k l0).bind fun t103 => ((laws_toStormS.f k l1).bind fun t106 => ((laws_toIntS.f k l2).bind fun t109 => ((spec_GrowthOf.f k t103 t106 t109).bind fun bt112 => ((laws_toStormS.f k l0).bind fun t116 => ((laws_toStormS.f k l1).bind fun t119 => ((laws_toIntS.f k l2).bind fun t122 => ((impl_GrowthOf.f k t116 t119 t122).bind fun bt125 => ((laws_eqIntA2S.f k bt125.1 bt112.1).bind fun t129 => (if t129 = true then (laws_FnExactGrowthOf.j0 k l0 l1 l2 bt112.1 bt112.2 t116 t119 t122 bt125.1 bt125.2 (bt125.2 != bt112.2)) else (laws_FnExactGrowthOf.j0 k l0 l1 l2 bt112.1 bt112.2 t116 t119 t122 bt125.1 bt125.2 true)))))))))))))) = some r := H
 have A5 := Aside0.mk A50
 clear A50
 by_cases c6 : t101 < 0
 ·
  rw [if_pos c6] at H
  have c6b0 : decide (t101 < 0) = true := decide_eq_true c6
  clear c6
  obtain rfl := Option.some.inj H
  go_enter Try.func14, Try.ntmps14
  go_wp2_with (first | ((with_reducible refine gate_callee (f := 102) rfl ?_); refine gl (some 25) Try.func102 #[.slice A0 l0.length c0, .int .i64 1048576] ?_; (with_reducible refine (laws_szStormS.calls _ _ l0 1048576 t101 _ ?side1 ?side2 A5.out).mono ?_); (case side1 => exact pC HR0.out); (case side2 => exact HC0.out); rintro e w' ⟨rfl, ⟨nd, rfl⟩⟩; refine ⟨_, rfl, ?_⟩))
  go_ret
  exact ⟨by first | rfl | (simp [errW_none, errW_some] <;> rfl) | (simp [*, errW_none, errW_some] <;> rfl), pT HB.out⟩
 rw [if_neg c6] at H
 have c6b0 : decide (t101 < 0) = false := decide_eq_false c6
 clear c6
 replace H := Option.bind_eq_some_iff.mp H
 obtain ⟨t102, A70, H⟩ := H
 replace H : (if t102 < 0 then (some true) else ((laws_toStormS.f k l0).bind fun t103 => ((laws_toStormS.f k l1).bind fun t106 => ((laws_toIntS.f k l2).bind fun t109 => ((spec_GrowthOf.f k t103 t106 t109).bind fun bt112 => ((laws_toStormS.f k l0).bind fun t116 => ((laws_toStormS.f k l1).bind fun t119 => ((laws_toIntS.f k l2).bind fun t122 => ((impl_GrowthOf.f k t116 t119 t122).bind fun bt125 => ((laws_eqIntA2S.f k bt125.1 bt112.1).bind fun t129 => (if t129 = true then (laws_FnExactGrowthOf.j0 k l0 l1 l2 bt112.1 bt112.2 t116 t119 t122 bt125.1 bt125.2 (bt125.2 != bt112.2)) else (laws_FnExactGrowthOf.j0 k l0 l1 l2 bt112.1 bt112.2 t116 t119 t122 bt125.1 bt125.2 true)))))))))))) = some r := H
 have A7 := Aside0.mk A70
 clear A70
 by_cases c8 : t102 < 0
 ·
  rw [if_pos c8] at H
  have c8b0 : decide (t102 < 0) = true := decide_eq_true c8
  clear c8
  obtain rfl := Option.some.inj H
  go_enter Try.func14, Try.ntmps14
  go_wp2_with (first | ((with_reducible refine gate_callee (f := 102) rfl ?_); refine gl (some 25) Try.func102 #[.slice A0 l0.length c0, .int .i64 1048576] ?_; (with_reducible refine (laws_szStormS.calls _ _ l0 1048576 t101 _ ?side1 ?side2 A5.out).mono ?_); (case side1 => exact pC HR0.out); (case side2 => exact HC0.out); rintro e w' ⟨rfl, ⟨nd, rfl⟩⟩; refine ⟨_, rfl, ?_⟩) | ((with_reducible refine gate_callee (f := 102) rfl ?_); refine gl (some 30) Try.func102 #[.slice A1 l1.length c1, .int .i64 t101] ?_; (with_reducible refine (laws_szStormS.calls _ _ l1 t101 t102 _ ?side1 ?side2 A7.out).mono ?_); (case side1 => exact pC HR1.out); (case side2 => exact HC1.out); rintro e w' ⟨rfl, ⟨nd, rfl⟩⟩; refine ⟨_, rfl, ?_⟩))
  go_ret
  exact ⟨by first | rfl | (simp [errW_none, errW_some] <;> rfl) | (simp [*, errW_none, errW_some] <;> rfl), pT HB.out⟩
 rw [if_neg c8] at H
 have c8b0 : decide (t102 < 0) = false := decide_eq_false c8
 clear c8
 replace H := Option.bind_eq_some_iff.mp H
 obtain ⟨t103, A90, H⟩ := H
 replace H : ((laws_toStormS.f k l1).bind fun t106 => ((laws_toIntS.f k l2).bind fun t109 => ((spec_GrowthOf.f k t103 t106 t109).bind fun bt112 => ((laws_toStormS.f k l0).bind fun t116 => ((laws_toStormS.f k l1).bind fun t119 => ((laws_toIntS.f k l2).bind fun t122 => ((impl_GrowthOf.f k t116 t119 t122).bind fun bt125 => ((laws_eqIntA2S.f k bt125.1 bt112.1).bind fun t129 => (if t129 = true then (laws_FnExactGrowthOf.j0 k l0 l1 l2 bt112.1 bt112.2 t116 t119 t122 bt125.1 bt125.2 (bt125.2 != bt112.2)) else (laws_FnExactGrowthOf.j0 k l0 l1 l2 bt112.1 bt112.2 t116 t119 t122 bt125.1 bt125.2 true)))))))))) = some r := H
 have A9 := Aside0.mk A90
 clear A90
 replace H := Option.bind_eq_some_iff.mp H
 obtain ⟨t106, A100, H⟩ := H
 replace H : ((laws_toIntS.f k l2).bind fun t109 => ((spec_GrowthOf.f k t103 t106 t109).bind fun bt112 => ((laws_toStormS.f k l0).bind fun t116 => ((laws_toStormS.f k l1).bind fun t119 => ((laws_toIntS.f k l2).bind fun t122 => ((impl_GrowthOf.f k t116 t119 t122).bind fun bt125 => ((laws_eqIntA2S.f k bt125.1 bt112.1).bind fun t129 => (if t129 = true then (laws_FnExactGrowthOf.j0 k l0 l1 l2 bt112.1 bt112.2 t116 t119 t122 bt125.1 bt125.2 (bt125.2 != bt112.2)) else (laws_FnExactGrowthOf.j0 k l0 l1 l2 bt112.1 bt112.2 t116 t119 t122 bt125.1 bt125.2 true))))))))) = some r := H
 have A10 := Aside0.mk A100
 clear A100
 replace H := Option.bind_eq_some_iff.mp H
 obtain ⟨t109, A110, H⟩ := H
 replace H : ((spec_GrowthOf.f k t103 t106 t109).bind fun bt112 => ((laws_toStormS.f k l0).bind fun t116 => ((laws_toStormS.f k l1).bind fun t119 => ((laws_toIntS.f k l2).bind fun t122 => ((impl_GrowthOf.f k t116 t119 t122).bind fun bt125 => ((laws_eqIntA2S.f k bt125.1 bt112.1).bind fun t129 => (if t129 = true then (laws_FnExactGrowthOf.j0 k l0 l1 l2 bt112.1 bt112.2 t116 t119 t122 bt125.1 bt125.2 (bt125.2 != bt112.2)) else (laws_FnExactGrowthOf.j0 k l0 l1 l2 bt112.1 bt112.2 t116 t119 t122 bt125.1 bt125.2 true)))))))) = some r := H
 have A11 := Aside0.mk A110
 clear A110
 replace H := Option.bind_eq_some_iff.mp H
 obtain ⟨⟨t112, t113⟩, A120, H⟩ := H
 replace H : ((laws_toStormS.f k l0).bind fun t116 => ((laws_toStormS.f k l1).bind fun t119 => ((laws_toIntS.f k l2).bind fun t122 => ((impl_GrowthOf.f k t116 t119 t122).bind fun bt125 => ((laws_eqIntA2S.f k bt125.1 t112).bind fun t129 => (if t129 = true then (laws_FnExactGrowthOf.j0 k l0 l1 l2 t112 t113 t116 t119 t122 bt125.1 bt125.2 (bt125.2 != t113)) else (laws_FnExactGrowthOf.j0 k l0 l1 l2 t112 t113 t116 t119 t122 bt125.1 bt125.2 true))))))) = some r := H
 have A12 := Aside0.mk A120
 clear A120
 replace H := Option.bind_eq_some_iff.mp H
 obtain ⟨t116, A130, H⟩ := H
 replace H : ((laws_toStormS.f k l1).bind fun t119 => ((laws_toIntS.f k l2).bind fun t122 => ((impl_GrowthOf.f k t116 t119 t122).bind fun bt125 => ((laws_eqIntA2S.f k bt125.1 t112).bind fun t129 => (if t129 = true then (laws_FnExactGrowthOf.j0 k l0 l1 l2 t112 t113 t116 t119 t122 bt125.1 bt125.2 (bt125.2 != t113)) else (laws_FnExactGrowthOf.j0 k l0 l1 l2 t112 t113 t116 t119 t122 bt125.1 bt125.2 true)))))) = some r := H
 have A13 := Aside0.mk A130
 clear A130
 replace H := Option.bind_eq_some_iff.mp H
 obtain ⟨t119, A140, H⟩ := H
 replace H : ((laws_toIntS.f k l2).bind fun t122 => ((impl_GrowthOf.f k t116 t119 t122).bind fun bt125 => ((laws_eqIntA2S.f k bt125.1 t112).bind fun t129 => (if t129 = true then (laws_FnExactGrowthOf.j0 k l0 l1 l2 t112 t113 t116 t119 t122 bt125.1 bt125.2 (bt125.2 != t113)) else (laws_FnExactGrowthOf.j0 k l0 l1 l2 t112 t113 t116 t119 t122 bt125.1 bt125.2 true))))) = some r := H
 have A14 := Aside0.mk A140
 clear A140
 replace H := Option.bind_eq_some_iff.mp H
 obtain ⟨t122, A150, H⟩ := H
 replace H : ((impl_GrowthOf.f k t116 t119 t122).bind fun bt125 => ((laws_eqIntA2S.f k bt125.1 t112).bind fun t129 => (if t129 = true then (laws_FnExactGrowthOf.j0 k l0 l1 l2 t112 t113 t116 t119 t122 bt125.1 bt125.2 (bt125.2 != t113)) else (laws_FnExactGrowthOf.j0 k l0 l1 l2 t112 t113 t116 t119 t122 bt125.1 bt125.2 true)))) = some r := H
 have A15 := Aside0.mk A150
 clear A150
 replace H := Option.bind_eq_some_iff.mp H
 obtain ⟨⟨t125, t126⟩, A160, H⟩ := H
 replace H : ((laws_eqIntA2S.f k t125 t112).bind fun t129 => (if t129 = true then (laws_FnExactGrowthOf.j0 k l0 l1 l2 t112 t113 t116 t119 t122 t125 t126 (t126 != t113)) else (laws_FnExactGrowthOf.j0 k l0 l1 l2 t112 t113 t116 t119 t122 t125 t126 true))) = some r := H
 have A16 := Aside0.mk A160
 clear A160
 have HC17 := Aside0.mk H
 clear H
 go_enter Try.func14, Try.ntmps14
 go_upto_region 15 with (first | ((with_reducible refine gate_callee (f := 102) rfl ?_); refine gl (some 25) Try.func102 #[.slice A0 l0.length c0, .int .i64 1048576] ?_; (with_reducible refine (laws_szStormS.calls _ _ l0 1048576 t101 _ ?side1 ?side2 A5.out).mono ?_); (case side1 => exact pC HR0.out); (case side2 => exact HC0.out); rintro e w' ⟨rfl, ⟨nd, rfl⟩⟩; refine ⟨_, rfl, ?_⟩) | ((with_reducible refine gate_callee (f := 102) rfl ?_); refine gl (some 30) Try.func102 #[.slice A1 l1.length c1, .int .i64 t101] ?_; (with_reducible refine (laws_szStormS.calls _ _ l1 t101 t102 _ ?side1 ?side2 A7.out).mono ?_); (case side1 => exact pC HR1.out); (case side2 => exact HC1.out); rintro e w' ⟨rfl, ⟨nd, rfl⟩⟩; refine ⟨_, rfl, ?_⟩) | ((with_reducible refine gate_callee (f := 104) rfl ?_); refine gl (some 35) Try.func104 #[.slice A0 l0.length c0] ?_; (with_reducible refine (laws_toStormS.calls k _ _ l0 t103 _ ?side1 ?side2 A9.out).mono ?_); (case side1 => exact pC HR0.out); (case side2 => exact HC0.out); rintro e w18 ⟨v104, rfl, ho0, hb⟩; refine ⟨_, rfl, ?_⟩; have HO105 := aK (Kd.R_lower ho0 (below_size (pS HB.out))); replace HB := bS HB hb; (try clear hb); (try clear hb2); (try clear hk); (try clear hi); (try clear ho0)) | ((with_reducible refine gate_callee (f := 104) rfl ?_); refine gl (some 37) Try.func104 #[.slice A1 l1.length c1] ?_; (with_reducible refine (laws_toStormS.calls k _ _ l1 t106 _ ?side1 ?side2 A10.out).mono ?_); (case side1 => exact pC (Kd.C_below HR1.out HB.out)); (case side2 => exact HC1.out); rintro e w19 ⟨v107, rfl, ho0, hb⟩; refine ⟨_, rfl, ?_⟩; have n0_ := aK (Kd.R_elder' (pR HO105.out) (Kd.R_base ho0) hb); have HO108 := aK (Kd.R_lower (nw1 ho0 (pR HO105.out)) (below_size (pS HB.out))); replace HB := bS HB hb; clear HO105; have HO105 := n0_; clear n0_; (try clear hb); (try clear hb2); (try clear hk); (try clear hi); (try clear ho0)) | ((with_reducible refine gate_callee (f := 105) rfl ?_); refine gl (some 39) Try.func105 #[.slice A2 l2.length c2] ?_; (with_reducible refine (laws_toIntS.calls k _ _ l2 t109 _ ?side1 ?side2 A11.out).mono ?_); (case side1 => exact pC (Kd.C_below HR2.out HB.out)); (case side2 => exact HC2.out); rintro e w20 ⟨v110, rfl, ho0, hb⟩; refine ⟨_, rfl, ?_⟩; have n0_ := aK (Kd.R_below (pR HO105.out) hb); have n1_ := aK (Kd.R_below (pR HO108.out) hb); have HO111 := aK (Kd.R_lower ho0 (below_size (pS HB.out))); replace HB := bS HB hb; clear HO105 HO108; have HO105 := n0_; have HO108 := n1_; clear n0_ n1_; (try clear hb); (try clear hb2); (try clear hk); (try clear hi); (try clear ho0); obtain ⟨Ao21, co21, eo21⟩ := Kd.R_slice HO105.out; subst eo21; obtain ⟨Ao22, co22, eo22⟩ := Kd.R_slice HO108.out; subst eo22; obtain ⟨Ao23, co23, eo23⟩ := Kd.R_slice HO111.out; subst eo23) | ((with_reducible refine gate_callee (f := 103) rfl ?_); refine gl (some 40) Try.func103 #[.slice Ao21 t103.length co21, .slice Ao22 t106.length co22, .slice Ao23 t109.length co23] ?_; (with_reducible refine (spec_GrowthOf.calls k _ _ t103 _ _ t106 _ _ t109 t112 t113 _ ?side1 ?side2 ?side3 ?side4 ?side5 ?side6 A12.out).mono ?_); (case side1 => exact pC (Kd.R_reads' HO105.out).2.2); (case side2 => exact (Kd.R_reads' HO105.out).2.1); (case side3 => exact pC (Kd.R_reads' HO108.out).2.2); (case side4 => exact (Kd.R_reads' HO108.out).2.1); (case side5 => exact pC (Kd.R_reads' HO111.out).2.2); (case side6 => exact (Kd.R_reads' HO111.out).2.1); rintro e w24 ⟨v114, rfl, ho0, hb⟩; refine ⟨_, rfl, ?_⟩; have n0_ := aK (Kd.R_below (pR HO105.out) hb); have n1_ := aK (Kd.R_below (pR HO108.out) hb); have n2_ := aK (Kd.R_below (pR HO111.out) hb); have HO115 := aK (Kd.R_lower ho0 (below_size (pS HB.out))); replace HB := bS HB hb; clear HO105 HO108 HO111; have HO105 := n0_; have HO108 := n1_; have HO111 := n2_; clear n0_ n1_ n2_; (try clear hb); (try clear hb2); (try clear hk); (try clear hi); (try clear ho0)) | ((with_reducible refine gate_callee (f := 104) rfl ?_); refine gl (some 44) Try.func104 #[.slice A0 l0.length c0] ?_; (with_reducible refine (laws_toStormS.calls k _ _ l0 t116 _ ?side1 ?side2 A13.out).mono ?_); (case side1 => exact pC (Kd.C_below HR0.out HB.out)); (case side2 => exact HC0.out); rintro e w25 ⟨v117, rfl, ho0, hb⟩; refine ⟨_, rfl, ?_⟩; have n0_ := aK (Kd.R_elder' (pR HO105.out) (Kd.R_base ho0) hb); have n1_ := aK (Kd.R_elder' (pR HO108.out) (Kd.R_base ho0) hb); have n2_ := aK (Kd.R_below (pR HO111.out) hb); have n3_ := aK (Kd.R_below (pR HO115.out) hb); have HO118 := aK (Kd.R_lower (nw2 ho0 (pR HO105.out) (pR HO108.out)) (below_size (pS HB.out))); replace HB := bS HB hb; clear HO105 HO108 HO111 HO115; have HO105 := n0_; have HO108 := n1_; have HO111 := n2_; have HO115 := n3_; clear n0_ n1_ n2_ n3_; (try clear hb); (try clear hb2); (try clear hk); (try clear hi); (try clear ho0)) | ((with_reducible refine gate_callee (f := 104) rfl ?_); refine gl (some 46) Try.func104 #[.slice A1 l1.length c1] ?_; (with_reducible refine (laws_toStormS.calls k _ _ l1 t119 _ ?side1 ?side2 A14.out).mono ?_); (case side1 => exact pC (Kd.C_below HR1.out HB.out)); (case side2 => exact HC1.out); rintro e w26 ⟨v120, rfl, ho0, hb⟩; refine ⟨_, rfl, ?_⟩; have n0_ := aK (Kd.R_elder' (pR HO105.out) (Kd.R_base ho0) hb); have n1_ := aK (Kd.R_elder' (pR HO108.out) (Kd.R_base ho0) hb); have n2_ := aK (Kd.R_below (pR HO111.out) hb); have n3_ := aK (Kd.R_below (pR HO115.out) hb); have n4_ := aK (Kd.R_elder' (pR HO118.out) (Kd.R_base ho0) hb); have HO121 := aK (Kd.R_lower (nw1 (nw2 ho0 (pR HO105.out) (pR HO108.out)) (pR HO118.out)) (below_size (pS HB.out))); replace HB := bS HB hb; clear HO105 HO108 HO111 HO115 HO118; have HO105 := n0_; have HO108 := n1_; have HO111 := n2_; have HO115 := n3_; have HO118 := n4_; clear n0_ n1_ n2_ n3_ n4_; (try clear hb); (try clear hb2); (try clear hk); (try clear hi); (try clear ho0)) | ((with_reducible refine gate_callee (f := 105) rfl ?_); refine gl (some 48) Try.func105 #[.slice A2 l2.length c2] ?_; (with_reducible refine (laws_toIntS.calls k _ _ l2 t122 _ ?side1 ?side2 A15.out).mono ?_); (case side1 => exact pC (Kd.C_below HR2.out HB.out)); (case side2 => exact HC2.out); rintro e w27 ⟨v123, rfl, ho0, hb⟩; refine ⟨_, rfl, ?_⟩; have n0_ := aK (Kd.R_below (pR HO105.out) hb); have n1_ := aK (Kd.R_below (pR HO108.out) hb); have n2_ := aK (Kd.R_elder' (pR HO111.out) (Kd.R_base ho0) hb); have n3_ := aK (Kd.R_below (pR HO115.out) hb); have n4_ := aK (Kd.R_below (pR HO118.out) hb); have n5_ := aK (Kd.R_below (pR HO121.out) hb); have HO124 := aK (Kd.R_lower (nw1 ho0 (pR HO111.out)) (below_size (pS HB.out))); replace HB := bS HB hb; clear HO105 HO108 HO111 HO115 HO118 HO121; have HO105 := n0_; have HO108 := n1_; have HO111 := n2_; have HO115 := n3_; have HO118 := n4_; have HO121 := n5_; clear n0_ n1_ n2_ n3_ n4_ n5_; (try clear hb); (try clear hb2); (try clear hk); (try clear hi); (try clear ho0); obtain ⟨Ao28, co28, eo28⟩ := Kd.R_slice HO118.out; subst eo28; obtain ⟨Ao29, co29, eo29⟩ := Kd.R_slice HO121.out; subst eo29; obtain ⟨Ao30, co30, eo30⟩ := Kd.R_slice HO124.out; subst eo30) | ((with_reducible refine gate_callee (f := 106) rfl ?_); refine gl (some 53) Try.func106 #[.slice Ao28 t116.length co28, .slice Ao29 t119.length co29, .slice Ao30 t122.length co30] ?_; (with_reducible refine (impl_GrowthOf.calls k _ _ t116 _ _ t119 _ _ t122 t125 t126 _ ?side1 ?side2 ?side3 ?side4 ?side5 ?side6 A16.out).mono ?_); (case side1 => exact pC (Kd.R_reads' HO118.out).2.2); (case side2 => exact (Kd.R_reads' HO118.out).2.1); (case side3 => exact pC (Kd.R_reads' HO121.out).2.2); (case side4 => exact (Kd.R_reads' HO121.out).2.1); (case side5 => exact pC (Kd.R_reads' HO124.out).2.2); (case side6 => exact (Kd.R_reads' HO124.out).2.1); rintro e w31 ⟨v127, rfl, ho0, hb⟩; refine ⟨_, rfl, ?_⟩; have n0_ := aK (Kd.R_below (pR HO105.out) hb); have n1_ := aK (Kd.R_below (pR HO108.out) hb); have n2_ := aK (Kd.R_below (pR HO111.out) hb); have n3_ := aK (Kd.R_elder' (pR HO115.out) (Kd.R_base ho0) hb); have n4_ := aK (Kd.R_below (pR HO118.out) hb); have n5_ := aK (Kd.R_below (pR HO121.out) hb); have n6_ := aK (Kd.R_below (pR HO124.out) hb); have HO128 := aK (Kd.R_lower (nw1 ho0 (pR HO115.out)) (below_size (pS HB.out))); replace HB := bS HB hb; clear HO105 HO108 HO111 HO115 HO118 HO121 HO124; have HO105 := n0_; have HO108 := n1_; have HO111 := n2_; have HO115 := n3_; have HO118 := n4_; have HO121 := n5_; have HO124 := n6_; clear n0_ n1_ n2_ n3_ n4_ n5_ n6_; (try clear hb); (try clear hb2); (try clear hk); (try clear hi); (try clear ho0)))
 (try simp only [Act.put, List.setIfInBounds_toArray, List.set_cons_zero, List.set_cons_succ])
 go_cut [64] (fun v64 wc => ∃ (kq : Nat) (x64_16 : Bool), v64 = .bool x64_16 ∧ Aside0 (laws_FnExactGrowthOf.j0 kq l0 l1 l2 t112 t113 t116 t119 t122 t125 t126 x64_16 = some r) ∧ Aside0 (kq ≤ k) ∧ Aside0 (Kd.R k158 158 wc w.heap.size (fun k_ => some k_ ≠ (v127 : Value).ownBlock) v114 t112) ∧ Aside0 (Kd.R k160 160 wc w.heap.size (fun k_ => some k_ ≠ ((.slice Ao29 t119.length co29) : Value).ownBlock) (.slice Ao28 t116.length co28) t116) ∧ Aside0 (Kd.R k160 160 wc w.heap.size (fun k_ => some k_ ≠ ((.slice Ao28 t116.length co28) : Value).ownBlock) (.slice Ao29 t119.length co29) t119) ∧ Aside0 (Kd.R (Kd.int .i64) 3 wc w.heap.size (fun _ => True) (.slice Ao30 t122.length co30) t122) ∧ Aside0 (Kd.R k158 158 wc w.heap.size (fun k_ => some k_ ≠ (v114 : Value).ownBlock) v127 t125) ∧ Aside0 (Below w.heap.size w wc))
 case first =>
  have H := HC17.out
  clear HC17
  replace H := Option.bind_eq_some_iff.mp H
  obtain ⟨t129, A320, H⟩ := H
  replace H : (if t129 = true then (laws_FnExactGrowthOf.j0 k l0 l1 l2 t112 t113 t116 t119 t122 t125 t126 (t126 != t113)) else (laws_FnExactGrowthOf.j0 k l0 l1 l2 t112 t113 t116 t119 t122 t125 t126 true)) = some r := H
  have A32 := Aside0.mk A320
  clear A320
  by_cases c33 : t129 = true
  ·
   subst c33
   have H1 : (laws_FnExactGrowthOf.j0 k l0 l1 l2 t112 t113 t116 t119 t122 t125 t126 (t126 != t113)) = some r := by rw [if_pos rfl] at H; exact H
   clear H
   have H := H1
   clear H1
   have H' := Aside0.mk H
   clear H
   obtain ⟨Ao34, co34, eo34⟩ := Kd.R_slice HO128.out
   subst eo34
   obtain ⟨Ao35, co35, eo35⟩ := Kd.R_slice HO115.out
   subst eo35
   go_wp2_with (first | ((with_reducible refine gate_callee (f := 107) rfl ?_); refine gl (some 58) Try.func107 #[.slice Ao34 t125.length co34, .slice Ao35 t112.length co35] ?_; (with_reducible refine (laws_eqIntA2S.calls k _ _ t125 _ _ t112 true _ ?side1 ?side2 ?side3 ?side4 A32.out).mono ?_); (case side1 => exact pC (Kd.R_reads' HO128.out).2.2); (case side2 => exact (Kd.R_reads' HO128.out).2.1); (case side3 => exact pC (Kd.R_reads' HO115.out).2.2); (case side4 => exact (Kd.R_reads' HO115.out).2.1); rintro e w36 ⟨rfl, hb⟩; refine ⟨_, rfl, ?_⟩; have n0_ := aK (Kd.R_below (pR HO105.out) hb); have n1_ := aK (Kd.R_below (pR HO108.out) hb); have n2_ := aK (Kd.R_below (pR HO111.out) hb); have n3_ := aK (Kd.R_below (pR HO115.out) hb); have n4_ := aK (Kd.R_below (pR HO118.out) hb); have n5_ := aK (Kd.R_below (pR HO121.out) hb); have n6_ := aK (Kd.R_below (pR HO124.out) hb); have n7_ := aK (Kd.R_below (pR HO128.out) hb); replace HB := bS HB hb; clear HO105 HO108 HO111 HO115 HO118 HO121 HO124 HO128; have HO105 := n0_; have HO108 := n1_; have HO111 := n2_; have HO115 := n3_; have HO118 := n4_; have HO121 := n5_; have HO124 := n6_; have HO128 := n7_; clear n0_ n1_ n2_ n3_ n4_ n5_ n6_ n7_; (try clear hb); (try clear hb2); (try clear hk); (try clear hi)))
   go_meet
   case rel => exact ⟨_, ((t126 != t113)), (by first | rfl | (simp; done) | (simp [*]; done)), H', ⟨by first | omega | exact Nat.le_refl _⟩, ⟨pR (Kd.R_mono HO115.out (fun _ hk => hk.2))⟩, ⟨pR (Kd.R_mono HO118.out (fun _ hk => hk.2))⟩, ⟨pR (Kd.R_mono HO121.out (fun _ hk => hk.2))⟩, ⟨pR (Kd.R_mono HO124.out (fun _ hk => trivial))⟩, ⟨pR (Kd.R_mono HO128.out (fun _ hk => hk.2))⟩, ⟨pT HB.out⟩⟩
  replace c33 := Bool.eq_false_iff.mpr c33
  subst c33
  have H1 : (laws_FnExactGrowthOf.j0 k l0 l1 l2 t112 t113 t116 t119 t122 t125 t126 true) = some r := by rw [if_neg (show ¬ (false = true) by decide)] at H; exact H
  clear H
  have H := H1
  clear H1
  have H' := Aside0.mk H
  clear H
  obtain ⟨Ao37, co37, eo37⟩ := Kd.R_slice HO128.out
  subst eo37
  obtain ⟨Ao38, co38, eo38⟩ := Kd.R_slice HO115.out
  subst eo38
  go_wp2_with (first | ((with_reducible refine gate_callee (f := 107) rfl ?_); refine gl (some 58) Try.func107 #[.slice Ao37 t125.length co37, .slice Ao38 t112.length co38] ?_; (with_reducible refine (laws_eqIntA2S.calls k _ _ t125 _ _ t112 false _ ?side1 ?side2 ?side3 ?side4 A32.out).mono ?_); (case side1 => exact pC (Kd.R_reads' HO128.out).2.2); (case side2 => exact (Kd.R_reads' HO128.out).2.1); (case side3 => exact pC (Kd.R_reads' HO115.out).2.2); (case side4 => exact (Kd.R_reads' HO115.out).2.1); rintro e w39 ⟨rfl, hb⟩; refine ⟨_, rfl, ?_⟩; have n0_ := aK (Kd.R_below (pR HO105.out) hb); have n1_ := aK (Kd.R_below (pR HO108.out) hb); have n2_ := aK (Kd.R_below (pR HO111.out) hb); have n3_ := aK (Kd.R_below (pR HO115.out) hb); have n4_ := aK (Kd.R_below (pR HO118.out) hb); have n5_ := aK (Kd.R_below (pR HO121.out) hb); have n6_ := aK (Kd.R_below (pR HO124.out) hb); have n7_ := aK (Kd.R_below (pR HO128.out) hb); replace HB := bS HB hb; clear HO105 HO108 HO111 HO115 HO118 HO121 HO124 HO128; have HO105 := n0_; have HO108 := n1_; have HO111 := n2_; have HO115 := n3_; have HO118 := n4_; have HO121 := n5_; have HO124 := n6_; have HO128 := n7_; clear n0_ n1_ n2_ n3_ n4_ n5_ n6_ n7_; (try clear hb); (try clear hb2); (try clear hk); (try clear hi)))
  go_meet
  case rel => exact ⟨_, (true), (by first | rfl | (simp; done) | (simp [*]; done)), H', ⟨by first | omega | exact Nat.le_refl _⟩, ⟨pR (Kd.R_mono HO115.out (fun _ hk => hk.2))⟩, ⟨pR (Kd.R_mono HO118.out (fun _ hk => hk.2))⟩, ⟨pR (Kd.R_mono HO121.out (fun _ hk => hk.2))⟩, ⟨pR (Kd.R_mono HO124.out (fun _ hk => trivial))⟩, ⟨pR (Kd.R_mono HO128.out (fun _ hk => hk.2))⟩, ⟨pT HB.out⟩⟩
 case rest =>
  clear HC17
  try clear c1
  try clear c2
  try clear p2
  try clear c3
  try clear c4
  try clear c4b0
  try clear c4b1
  try clear c6
  try clear c6b0
  try clear c8
  try clear c8b0
  try clear c10
  try clear c14
  try clear c33
  obtain ⟨kq, x64_16, rfl, HA, HJ16, HO_8, HO_10, HO_11, HO_12, HO_13, HB⟩ := hcut
  cases kq with
  | zero => exact absurd HA.out (by simp [laws_FnExactGrowthOf.j0])
  | succ kj16 =>
   have H := HA.out
   clear HA
   simp only [laws_FnExactGrowthOf.j0] at H
   by_cases c40 : x64_16 = true
   ·
    subst c40
    have H1 : (some false) = some r := by rw [if_pos rfl] at H; exact H
    clear H
    have H := H1
    clear H1
    obtain rfl := Option.some.inj H
    go_wp2
    go_ret
    exact ⟨by first | rfl | (simp [errW_none, errW_some] <;> rfl) | (simp [*, errW_none, errW_some] <;> rfl), pT HB.out⟩
   replace c40 := Bool.eq_false_iff.mpr c40
   subst c40
   have H1 : ((laws_toStormS.f kj16 l0).bind fun t130 => ((laws_eqStormS.f kj16 t116 t130).bind fun t133 => (if t133 = true then ((laws_toStormS.f kj16 l1).bind fun t134 => ((laws_eqStormS.f kj16 t119 t134).bind fun t137 => (if t137 = true then ((laws_toIntS.f kj16 l2).bind fun t138 => ((laws_eqIntS.f kj16 t122 t138).bind fun t141 => (if t141 = true then ((laws_markStormS.f kj16 t116 1).bind fun bt142 => ((laws_markStormS.f kj16 t119 bt142.1).bind fun bt144 => ((laws_markIntS.f kj16 t122 bt144.1).bind fun bt146 => (if bt146.1 < 0 then (laws_FnExactGrowthOf.j1 kj16 l0 l1 l2 t112 t113 t125 true) else ((laws_eqIntA2S.f kj16 t125 t112).bind fun t148 => (if t148 = true then (laws_FnExactGrowthOf.j1 kj16 l0 l1 l2 t112 t113 t125 (t126 != t113)) else (laws_FnExactGrowthOf.j1 kj16 l0 l1 l2 t112 t113 t125 true))))))) else (some false)))) else (some false)))) else (some false)))) = some r := by rw [if_neg (show ¬ (false = true) by decide)] at H; exact H
   clear H
   have H := H1
   clear H1
   replace H := Option.bind_eq_some_iff.mp H
   obtain ⟨t130, A410, H⟩ := H
   replace H : ((laws_eqStormS.f kj16 t116 t130).bind fun t133 => (if t133 = true then ((laws_toStormS.f kj16 l1).bind fun t134 => ((laws_eqStormS.f kj16 t119 t134).bind fun t137 => (if t137 = true then ((laws_toIntS.f kj16 l2).bind fun t138 => ((laws_eqIntS.f kj16 t122 t138).bind fun t141 => (if t141 = true then ((laws_markStormS.f kj16 t116 1).bind fun bt142 => ((laws_markStormS.f kj16 t119 bt142.1).bind fun bt144 => ((laws_markIntS.f kj16 t122 bt144.1).bind fun bt146 => (if bt146.1 < 0 then (laws_FnExactGrowthOf.j1 kj16 l0 l1 l2 t112 t113 t125 true) else ((laws_eqIntA2S.f kj16 t125 t112).bind fun t148 => (if t148 = true then (laws_FnExactGrowthOf.j1 kj16 l0 l1 l2 t112 t113 t125 (t126 != t113)) else (laws_FnExactGrowthOf.j1 kj16 l0 l1 l2 t112 t113 t125 true))))))) else (some false)))) else (some false)))) else (some false))) = some r := H
   have A41 := Aside0.mk A410
   clear A410
   replace H := Option.bind_eq_some_iff.mp H
   obtain ⟨t133, A420, H⟩ := H
   replace H : (if t133 = true then ((laws_toStormS.f kj16 l1).bind fun t134 => ((laws_eqStormS.f kj16 t119 t134).bind fun t137 => (if t137 = true then ((laws_toIntS.f kj16 l2).bind fun t138 => ((laws_eqIntS.f kj16 t122 t138).bind fun t141 => (if t141 = true then ((laws_markStormS.f kj16 t116 1).bind fun bt142 => ((laws_markStormS.f kj16 t119 bt142.1).bind fun bt144 => ((laws_markIntS.f kj16 t122 bt144.1).bind fun bt146 => (if bt146.1 < 0 then (laws_FnExactGrowthOf.j1 kj16 l0 l1 l2 t112 t113 t125 true) else ((laws_eqIntA2S.f kj16 t125 t112).bind fun t148 => (if t148 = true then (laws_FnExactGrowthOf.j1 kj16 l0 l1 l2 t112 t113 t125 (t126 != t113)) else (laws_FnExactGrowthOf.j1 kj16 l0 l1 l2 t112 t113 t125 true))))))) else (some false)))) else (some false)))) else (some false)) = some r := H
   have A42 := Aside0.mk A420
   clear A420
   by_cases c43 : t133 = true
   ·
    subst c43
    have H1 : ((laws_toStormS.f kj16 l1).bind fun t134 => ((laws_eqStormS.f kj16 t119 t134).bind fun t137 => (if t137 = true then ((laws_toIntS.f kj16 l2).bind fun t138 => ((laws_eqIntS.f kj16 t122 t138).bind fun t141 => (if t141 = true then ((laws_markStormS.f kj16 t116 1).bind fun bt142 => ((laws_markStormS.f kj16 t119 bt142.1).bind fun bt144 => ((laws_markIntS.f kj16 t122 bt144.1).bind fun bt146 => (if bt146.1 < 0 then (laws_FnExactGrowthOf.j1 kj16 l0 l1 l2 t112 t113 t125 true) else ((laws_eqIntA2S.f kj16 t125 t112).bind fun t148 => (if t148 = true then (laws_FnExactGrowthOf.j1 kj16 l0 l1 l2 t112 t113 t125 (t126 != t113)) else (laws_FnExactGrowthOf.j1 kj16 l0 l1 l2 t112 t113 t125 true))))))) else (some false)))) else (some false)))) = some r := by rw [if_pos rfl] at H; exact H
    clear H
    have H := H1
    clear H1
    replace H := Option.bind_eq_some_iff.mp H
    obtain ⟨t134, A440, H⟩ := H
    replace H : ((laws_eqStormS.f kj16 t119 t134).bind fun t137 => (if t137 = true then ((laws_toIntS.f kj16 l2).bind fun t138 => ((laws_eqIntS.f kj16 t122 t138).bind fun t141 => (if t141 = true then ((laws_markStormS.f kj16 t116 1).bind fun bt142 => ((laws_markStormS.f kj16 t119 bt142.1).bind fun bt144 => ((laws_markIntS.f kj16 t122 bt144.1).bind fun bt146 => (if bt146.1 < 0 then (laws_FnExactGrowthOf.j1 kj16 l0 l1 l2 t112 t113 t125 true) else ((laws_eqIntA2S.f kj16 t125 t112).bind fun t148 => (if t148 = true then (laws_FnExactGrowthOf.j1 kj16 l0 l1 l2 t112 t113 t125 (t126 != t113)) else (laws_FnExactGrowthOf.j1 kj16 l0 l1 l2 t112 t113 t125 true))))))) else (some false)))) else (some false))) = some r := H
    have A44 := Aside0.mk A440
    clear A440
    replace H := Option.bind_eq_some_iff.mp H
    obtain ⟨t137, A450, H⟩ := H
    replace H : (if t137 = true then ((laws_toIntS.f kj16 l2).bind fun t138 => ((laws_eqIntS.f kj16 t122 t138).bind fun t141 => (if t141 = true then ((laws_markStormS.f kj16 t116 1).bind fun bt142 => ((laws_markStormS.f kj16 t119 bt142.1).bind fun bt144 => ((laws_markIntS.f kj16 t122 bt144.1).bind fun bt146 => (if bt146.1 < 0 then (laws_FnExactGrowthOf.j1 kj16 l0 l1 l2 t112 t113 t125 true) else ((laws_eqIntA2S.f kj16 t125 t112).bind fun t148 => (if t148 = true then (laws_FnExactGrowthOf.j1 kj16 l0 l1 l2 t112 t113 t125 (t126 != t113)) else (laws_FnExactGrowthOf.j1 kj16 l0 l1 l2 t112 t113 t125 true))))))) else (some false)))) else (some false)) = some r := H
    have A45 := Aside0.mk A450
    clear A450
    by_cases c46 : t137 = true
    ·
     subst c46
     have H1 : ((laws_toIntS.f kj16 l2).bind fun t138 => ((laws_eqIntS.f kj16 t122 t138).bind fun t141 => (if t141 = true then ((laws_markStormS.f kj16 t116 1).bind fun bt142 => ((laws_markStormS.f kj16 t119 bt142.1).bind fun bt144 => ((laws_markIntS.f kj16 t122 bt144.1).bind fun bt146 => (if bt146.1 < 0 then (laws_FnExactGrowthOf.j1 kj16 l0 l1 l2 t112 t113 t125 true) else ((laws_eqIntA2S.f kj16 t125 t112).bind fun t148 => (if t148 = true then (laws_FnExactGrowthOf.j1 kj16 l0 l1 l2 t112 t113 t125 (t126 != t113)) else (laws_FnExactGrowthOf.j1 kj16 l0 l1 l2 t112 t113 t125 true))))))) else (some false)))) = some r := by rw [if_pos rfl] at H; exact H
     clear H
     have H := H1
     clear H1
     replace H := Option.bind_eq_some_iff.mp H
     obtain ⟨t138, A470, H⟩ := H
     replace H : ((laws_eqIntS.f kj16 t122 t138).bind fun t141 => (if t141 = true then ((laws_markStormS.f kj16 t116 1).bind fun bt142 => ((laws_markStormS.f kj16 t119 bt142.1).bind fun bt144 => ((laws_markIntS.f kj16 t122 bt144.1).bind fun bt146 => (if bt146.1 < 0 then (laws_FnExactGrowthOf.j1 kj16 l0 l1 l2 t112 t113 t125 true) else ((laws_eqIntA2S.f kj16 t125 t112).bind fun t148 => (if t148 = true then (laws_FnExactGrowthOf.j1 kj16 l0 l1 l2 t112 t113 t125 (t126 != t113)) else (laws_FnExactGrowthOf.j1 kj16 l0 l1 l2 t112 t113 t125 true))))))) else (some false))) = some r := H
     have A47 := Aside0.mk A470
     clear A470
     replace H := Option.bind_eq_some_iff.mp H
     obtain ⟨t141, A480, H⟩ := H
     replace H : (if t141 = true then ((laws_markStormS.f kj16 t116 1).bind fun bt142 => ((laws_markStormS.f kj16 t119 bt142.1).bind fun bt144 => ((laws_markIntS.f kj16 t122 bt144.1).bind fun bt146 => (if bt146.1 < 0 then (laws_FnExactGrowthOf.j1 kj16 l0 l1 l2 t112 t113 t125 true) else ((laws_eqIntA2S.f kj16 t125 t112).bind fun t148 => (if t148 = true then (laws_FnExactGrowthOf.j1 kj16 l0 l1 l2 t112 t113 t125 (t126 != t113)) else (laws_FnExactGrowthOf.j1 kj16 l0 l1 l2 t112 t113 t125 true))))))) else (some false)) = some r := H
     have A48 := Aside0.mk A480
     clear A480
     by_cases c49 : t141 = true
     ·
      subst c49
      have H1 : ((laws_markStormS.f kj16 t116 1).bind fun bt142 => ((laws_markStormS.f kj16 t119 bt142.1).bind fun bt144 => ((laws_markIntS.f kj16 t122 bt144.1).bind fun bt146 => (if bt146.1 < 0 then (laws_FnExactGrowthOf.j1 kj16 l0 l1 l2 t112 t113 t125 true) else ((laws_eqIntA2S.f kj16 t125 t112).bind fun t148 => (if t148 = true then (laws_FnExactGrowthOf.j1 kj16 l0 l1 l2 t112 t113 t125 (t126 != t113)) else (laws_FnExactGrowthOf.j1 kj16 l0 l1 l2 t112 t113 t125 true))))))) = some r := by rw [if_pos rfl] at H; exact H
      clear H
      have H := H1
      clear H1
      replace H := Option.bind_eq_some_iff.mp H
      obtain ⟨⟨t142, t143⟩, A500, H⟩ := H
      replace H : ((laws_markStormS.f kj16 t119 t142).bind fun bt144 => ((laws_markIntS.f kj16 t122 bt144.1).bind fun bt146 => (if bt146.1 < 0 then (laws_FnExactGrowthOf.j1 kj16 l0 l1 l2 t112 t113 t125 true) else ((laws_eqIntA2S.f kj16 t125 t112).bind fun t148 => (if t148 = true then (laws_FnExactGrowthOf.j1 kj16 l0 l1 l2 t112 t113 t125 (t126 != t113)) else (laws_FnExactGrowthOf.j1 kj16 l0 l1 l2 t112 t113 t125 true)))))) = some r := H
      have A50 := Aside0.mk A500
      clear A500
      replace H := Option.bind_eq_some_iff.mp H
      obtain ⟨⟨t144, t145⟩, A510, H⟩ := H
      replace H : ((laws_markIntS.f kj16 t122 t144).bind fun bt146 => (if bt146.1 < 0 then (laws_FnExactGrowthOf.j1 kj16 l0 l1 l2 t112 t113 t125 true) else ((laws_eqIntA2S.f kj16 t125 t112).bind fun t148 => (if t148 = true then (laws_FnExactGrowthOf.j1 kj16 l0 l1 l2 t112 t113 t125 (t126 != t113)) else (laws_FnExactGrowthOf.j1 kj16 l0 l1 l2 t112 t113 t125 true))))) = some r := H
      have A51 := Aside0.mk A510
      clear A510
      replace H := Option.bind_eq_some_iff.mp H
      obtain ⟨⟨t146, t147⟩, A520, H⟩ := H
      replace H : (if t146 < 0 then (laws_FnExactGrowthOf.j1 kj16 l0 l1 l2 t112 t113 t125 true) else ((laws_eqIntA2S.f kj16 t125 t112).bind fun t148 => (if t148 = true then (laws_FnExactGrowthOf.j1 kj16 l0 l1 l2 t112 t113 t125 (t126 != t113)) else (laws_FnExactGrowthOf.j1 kj16 l0 l1 l2 t112 t113 t125 true)))) = some r := H
      have A52 := Aside0.mk A520
      clear A520
      have HC53 := Aside0.mk H
      clear H
      go_upto_region 27 with (first | ((with_reducible refine gate_callee (f := 104) rfl ?_); refine gl (some 67) Try.func104 #[.slice A0 l0.length c0] ?_; (with_reducible refine (laws_toStormS.calls kj16 _ _ l0 t130 _ ?side1 ?side2 A41.out).mono ?_); (case side1 => exact pC (Kd.C_below HR0.out HB.out)); (case side2 => exact HC0.out); rintro e w54 ⟨v131, rfl, ho0, hb⟩; refine ⟨_, rfl, ?_⟩; have n0_ := aK (Kd.R_below (pR HO_8.out) hb); have n1_ := aK (Kd.R_elder' (pR HO_10.out) (Kd.R_base ho0) hb); have n2_ := aK (Kd.R_elder' (pR HO_11.out) (Kd.R_base ho0) hb); have n3_ := aK (Kd.R_below (pR HO_12.out) hb); have n4_ := aK (Kd.R_below (pR HO_13.out) hb); have HO132 := aK (Kd.R_lower (nw2 ho0 (pR HO_10.out) (pR HO_11.out)) (below_size (pS HB.out))); replace HB := bS HB hb; clear HO_8 HO_10 HO_11 HO_12 HO_13; have HO_8 := n0_; have HO_10 := n1_; have HO_11 := n2_; have HO_12 := n3_; have HO_13 := n4_; clear n0_ n1_ n2_ n3_ n4_; (try clear hb); (try clear hb2); (try clear hk); (try clear hi); (try clear ho0); obtain ⟨Ao55, co55, eo55⟩ := Kd.R_slice HO132.out; subst eo55) | ((with_reducible refine gate_callee (f := 108) rfl ?_); refine gl (some 68) Try.func108 #[.slice Ao28 t116.length co28, .slice Ao55 t130.length co55] ?_; (with_reducible refine (laws_eqStormS.calls kj16 _ _ t116 _ _ t130 true _ ?side1 ?side2 ?side3 ?side4 A42.out).mono ?_); (case side1 => exact pC (Kd.R_reads' HO_10.out).2.2); (case side2 => exact (Kd.R_reads' HO_10.out).2.1); (case side3 => exact pC (Kd.R_reads' HO132.out).2.2); (case side4 => exact (Kd.R_reads' HO132.out).2.1); rintro e w56 ⟨rfl, hb⟩; refine ⟨_, rfl, ?_⟩; have n0_ := aK (Kd.R_below (pR HO_8.out) hb); have n1_ := aK (Kd.R_below (pR HO_10.out) hb); have n2_ := aK (Kd.R_below (pR HO_11.out) hb); have n3_ := aK (Kd.R_below (pR HO_12.out) hb); have n4_ := aK (Kd.R_below (pR HO_13.out) hb); have n5_ := aK (Kd.R_below (pR HO132.out) hb); replace HB := bS HB hb; clear HO_8 HO_10 HO_11 HO_12 HO_13 HO132; have HO_8 := n0_; have HO_10 := n1_; have HO_11 := n2_; have HO_12 := n3_; have HO_13 := n4_; have HO132 := n5_; clear n0_ n1_ n2_ n3_ n4_ n5_; (try clear hb); (try clear hb2); (try clear hk); (try clear hi)) | ((with_reducible refine gate_callee (f := 104) rfl ?_); refine gl (some 72) Try.func104 #[.slice A1 l1.length c1] ?_; (with_reducible refine (laws_toStormS.calls kj16 _ _ l1 t134 _ ?side1 ?side2 A44.out).mono ?_); (case side1 => exact pC (Kd.C_below HR1.out HB.out)); (case side2 => exact HC1.out); rintro e w57 ⟨v135, rfl, ho0, hb⟩; refine ⟨_, rfl, ?_⟩; have n0_ := aK (Kd.R_below (pR HO_8.out) hb); have n1_ := aK (Kd.R_elder' (pR HO_10.out) (Kd.R_base ho0) hb); have n2_ := aK (Kd.R_elder' (pR HO_11.out) (Kd.R_base ho0) hb); have n3_ := aK (Kd.R_below (pR HO_12.out) hb); have n4_ := aK (Kd.R_below (pR HO_13.out) hb); have n5_ := aK (Kd.R_elder' (pR HO132.out) (Kd.R_base ho0) hb); have HO136 := aK (Kd.R_lower (nw1 (nw2 ho0 (pR HO_10.out) (pR HO_11.out)) (pR HO132.out)) (below_size (pS HB.out))); replace HB := bS HB hb; clear HO_8 HO_10 HO_11 HO_12 HO_13 HO132; have HO_8 := n0_; have HO_10 := n1_; have HO_11 := n2_; have HO_12 := n3_; have HO_13 := n4_; have HO132 := n5_; clear n0_ n1_ n2_ n3_ n4_ n5_; (try clear hb); (try clear hb2); (try clear hk); (try clear hi); (try clear ho0); obtain ⟨Ao58, co58, eo58⟩ := Kd.R_slice HO136.out; subst eo58) | ((with_reducible refine gate_callee (f := 108) rfl ?_); refine gl (some 73) Try.func108 #[.slice Ao29 t119.length co29, .slice Ao58 t134.length co58] ?_; (with_reducible refine (laws_eqStormS.calls kj16 _ _ t119 _ _ t134 true _ ?side1 ?side2 ?side3 ?side4 A45.out).mono ?_); (case side1 => exact pC (Kd.R_reads' HO_11.out).2.2); (case side2 => exact (Kd.R_reads' HO_11.out).2.1); (case side3 => exact pC (Kd.R_reads' HO136.out).2.2); (case side4 => exact (Kd.R_reads' HO136.out).2.1); rintro e w59 ⟨rfl, hb⟩; refine ⟨_, rfl, ?_⟩; have n0_ := aK (Kd.R_below (pR HO_8.out) hb); have n1_ := aK (Kd.R_below (pR HO_10.out) hb); have n2_ := aK (Kd.R_below (pR HO_11.out) hb); have n3_ := aK (Kd.R_below (pR HO_12.out) hb); have n4_ := aK (Kd.R_below (pR HO_13.out) hb); have n5_ := aK (Kd.R_below (pR HO132.out) hb); have n6_ := aK (Kd.R_below (pR HO136.out) hb); replace HB := bS HB hb; clear HO_8 HO_10 HO_11 HO_12 HO_13 HO132 HO136; have HO_8 := n0_; have HO_10 := n1_; have HO_11 := n2_; have HO_12 := n3_; have HO_13 := n4_; have HO132 := n5_; have HO136 := n6_; clear n0_ n1_ n2_ n3_ n4_ n5_ n6_; (try clear hb); (try clear hb2); (try clear hk); (try clear hi)) | ((with_reducible refine gate_callee (f := 105) rfl ?_); refine gl (some 77) Try.func105 #[.slice A2 l2.length c2] ?_; (with_reducible refine (laws_toIntS.calls kj16 _ _ l2 t138 _ ?side1 ?side2 A47.out).mono ?_); (case side1 => exact pC (Kd.C_below HR2.out HB.out)); (case side2 => exact HC2.out); rintro e w60 ⟨v139, rfl, ho0, hb⟩; refine ⟨_, rfl, ?_⟩; have n0_ := aK (Kd.R_below (pR HO_8.out) hb); have n1_ := aK (Kd.R_below (pR HO_10.out) hb); have n2_ := aK (Kd.R_below (pR HO_11.out) hb); have n3_ := aK (Kd.R_elder' (pR HO_12.out) (Kd.R_base ho0) hb); have n4_ := aK (Kd.R_below (pR HO_13.out) hb); have n5_ := aK (Kd.R_below (pR HO132.out) hb); have n6_ := aK (Kd.R_below (pR HO136.out) hb); have HO140 := aK (Kd.R_lower (nw1 ho0 (pR HO_12.out)) (below_size (pS HB.out))); replace HB := bS HB hb; clear HO_8 HO_10 HO_11 HO_12 HO_13 HO132 HO136; have HO_8 := n0_; have HO_10 := n1_; have HO_11 := n2_; have HO_12 := n3_; have HO_13 := n4_; have HO132 := n5_; have HO136 := n6_; clear n0_ n1_ n2_ n3_ n4_ n5_ n6_; (try clear hb); (try clear hb2); (try clear hk); (try clear hi); (try clear ho0); obtain ⟨Ao61, co61, eo61⟩ := Kd.R_slice HO140.out; subst eo61) | ((with_reducible refine gate_callee (f := 109) rfl ?_); refine gl (some 78) Try.func109 #[.slice Ao30 t122.length co30, .slice Ao61 t138.length co61] ?_; (with_reducible refine (laws_eqIntS.calls kj16 _ _ t122 _ _ t138 true _ ?side1 ?side2 ?side3 ?side4 A48.out).mono ?_); (case side1 => exact pC (Kd.R_reads' HO_12.out).2.2); (case side2 => exact (Kd.R_reads' HO_12.out).2.1); (case side3 => exact pC (Kd.R_reads' HO140.out).2.2); (case side4 => exact (Kd.R_reads' HO140.out).2.1); rintro e w' ⟨rfl, ⟨nd, rfl⟩⟩; refine ⟨_, rfl, ?_⟩) | ((with_reducible refine gate_callee (f := 110) rfl ?_); refine gl (some 82) Try.func110 #[.slice Ao28 t116.length co28, .int .i64 1] ?_; (with_reducible refine (laws_markStormS.calls kj16 (fun k_ => some k_ = (.slice Ao28 t116.length co28 : Value).ownBlock) (.slice Ao28 t116.length co28) t116 1 t142 t143 w _ ?side1 ?side2 A50.out).mono ?_); (case side1 => exact pT HB.out); (case side2 => exact Kd.R_tight rfl HO_10.out); rintro e w62 ⟨rfl, hy0, hb, hkp⟩; refine ⟨_, rfl, ?_⟩; have n0_ := aK (Kd.R_mono (ok' := fun k_ => some k_ ≠ (v127 : Value).ownBlock) (Kd.R_keptB ((Kd.R_apart' HO_8.out (Kd.R_typed HO_10.out) (by decide))) hkp (fun k_ hk_ hs_ => (hk_.2) hs_)) (fun k_ hk_ => hk_.1.1)); have n1_ := aK (Kd.R_reok rfl hy0 (fun k_ e_ => HO_10.out.1 k_ e_)); have n2_ := aK (Kd.R_mono (ok' := fun k_ => some k_ ≠ (.slice Ao28 t116.length co28 : Value).ownBlock ∧ some k_ ≠ (.slice Ao55 t130.length co55 : Value).ownBlock ∧ some k_ ≠ (.slice Ao58 t134.length co58 : Value).ownBlock) (Kd.R_keptB (HO_11.out) hkp (fun k_ hk_ hs_ => (hk_.1.1) hs_)) (fun k_ hk_ => ⟨hk_.1.1.1, hk_.1.1.2, hk_.1.2⟩)); have n3_ := aK (Kd.R_mono (ok' := fun k_ => some k_ ≠ (.slice Ao61 t138.length co61 : Value).ownBlock) (Kd.R_keptB ((Kd.R_apart' HO_12.out (Kd.R_typed HO_10.out) (by decide))) hkp (fun k_ hk_ hs_ => (hk_.2) hs_)) (fun k_ hk_ => hk_.1.1.2)); have n4_ := aK (Kd.R_mono (ok' := fun k_ => some k_ ≠ (v114 : Value).ownBlock) (Kd.R_keptB ((Kd.R_apart' HO_13.out (Kd.R_typed HO_10.out) (by decide))) hkp (fun k_ hk_ hs_ => (hk_.2) hs_)) (fun k_ hk_ => hk_.1.1)); have n5_ := aK (Kd.R_mono (ok' := fun k_ => some k_ ≠ (.slice Ao28 t116.length co28 : Value).ownBlock ∧ some k_ ≠ (.slice Ao29 t119.length co29 : Value).ownBlock ∧ some k_ ≠ (.slice Ao58 t134.length co58 : Value).ownBlock) (Kd.R_keptB (HO132.out) hkp (fun k_ hk_ hs_ => (hk_.1.1.2) hs_)) (fun k_ hk_ => ⟨hk_.1.1.1.2, hk_.1.1.2, hk_.1.2⟩)); have n6_ := aK (Kd.R_mono (ok' := fun k_ => some k_ ≠ (.slice Ao28 t116.length co28 : Value).ownBlock ∧ some k_ ≠ (.slice Ao29 t119.length co29 : Value).ownBlock ∧ some k_ ≠ (.slice Ao55 t130.length co55 : Value).ownBlock) (Kd.R_keptB (HO136.out) hkp (fun k_ hk_ hs_ => (hk_.1.1.2) hs_)) (fun k_ hk_ => ⟨hk_.1.1.1.2, hk_.1.1.2, hk_.1.2⟩)); have n7_ := aK (Kd.R_mono (ok' := fun k_ => some k_ ≠ (.slice Ao30 t122.length co30 : Value).ownBlock) (Kd.R_keptB ((Kd.R_apart' HO140.out (Kd.R_typed HO_10.out) (by decide))) hkp (fun k_ hk_ hs_ => (hk_.2) hs_)) (fun k_ hk_ => hk_.1.1.2)); have n8_ := aK (hb); clear HO_8 HO_10 HO_11 HO_12 HO_13 HO132 HO136 HO140 HB; have HO_8 := n0_; have HO_10 := n1_; have HO_11 := n2_; have HO_12 := n3_; have HO_13 := n4_; have HO132 := n5_; have HO136 := n6_; have HO140 := n7_; have HB := n8_; clear n0_ n1_ n2_ n3_ n4_ n5_ n6_ n7_ n8_; (try clear hb); (try clear hkp); (try clear hy0)) | ((with_reducible refine gate_callee (f := 110) rfl ?_); refine gl (some 85) Try.func110 #[.slice Ao29 t119.length co29, .int .i64 t142] ?_; (with_reducible refine (laws_markStormS.calls kj16 (fun k_ => some k_ = (.slice Ao29 t119.length co29 : Value).ownBlock) (.slice Ao29 t119.length co29) t119 t142 t144 t145 w _ ?side1 ?side2 A51.out).mono ?_); (case side1 => exact pT HB.out); (case side2 => exact Kd.R_tight rfl HO_11.out); rintro e w63 ⟨rfl, hy0, hb, hkp⟩; refine ⟨_, rfl, ?_⟩; have n0_ := aK (Kd.R_mono (ok' := fun k_ => some k_ ≠ (v127 : Value).ownBlock) (Kd.R_keptB ((Kd.R_apart' HO_8.out (Kd.R_typed HO_11.out) (by decide))) hkp (fun k_ hk_ hs_ => (hk_.2) hs_)) (fun k_ hk_ => hk_.1.1)); have n1_ := aK (Kd.R_mono (ok' := fun k_ => some k_ ≠ (.slice Ao29 t119.length co29 : Value).ownBlock ∧ some k_ ≠ (.slice Ao55 t130.length co55 : Value).ownBlock ∧ some k_ ≠ (.slice Ao58 t134.length co58 : Value).ownBlock) (Kd.R_keptB (HO_10.out) hkp (fun k_ hk_ hs_ => (hk_.1.1) hs_)) (fun k_ hk_ => ⟨hk_.1.1.1, hk_.1.1.2, hk_.1.2⟩)); have n2_ := aK (Kd.R_reok rfl hy0 (fun k_ e_ => HO_11.out.1 k_ e_)); have n3_ := aK (Kd.R_mono (ok' := fun k_ => some k_ ≠ (.slice Ao61 t138.length co61 : Value).ownBlock) (Kd.R_keptB ((Kd.R_apart' HO_12.out (Kd.R_typed HO_11.out) (by decide))) hkp (fun k_ hk_ hs_ => (hk_.2) hs_)) (fun k_ hk_ => hk_.1.1)); have n4_ := aK (Kd.R_mono (ok' := fun k_ => some k_ ≠ (v114 : Value).ownBlock) (Kd.R_keptB ((Kd.R_apart' HO_13.out (Kd.R_typed HO_11.out) (by decide))) hkp (fun k_ hk_ hs_ => (hk_.2) hs_)) (fun k_ hk_ => hk_.1.1)); have n5_ := aK (Kd.R_mono (ok' := fun k_ => some k_ ≠ (.slice Ao28 t116.length co28 : Value).ownBlock ∧ some k_ ≠ (.slice Ao29 t119.length co29 : Value).ownBlock ∧ some k_ ≠ (.slice Ao58 t134.length co58 : Value).ownBlock) (Kd.R_keptB (HO132.out) hkp (fun k_ hk_ hs_ => (hk_.2.1) hs_)) (fun k_ hk_ => ⟨hk_.1.1, hk_.1.2.1, hk_.1.2.2⟩)); have n6_ := aK (Kd.R_mono (ok' := fun k_ => some k_ ≠ (.slice Ao28 t116.length co28 : Value).ownBlock ∧ some k_ ≠ (.slice Ao29 t119.length co29 : Value).ownBlock ∧ some k_ ≠ (.slice Ao55 t130.length co55 : Value).ownBlock) (Kd.R_keptB (HO136.out) hkp (fun k_ hk_ hs_ => (hk_.2.1) hs_)) (fun k_ hk_ => ⟨hk_.1.1, hk_.1.2.1, hk_.1.2.2⟩)); have n7_ := aK (Kd.R_mono (ok' := fun k_ => some k_ ≠ (.slice Ao30 t122.length co30 : Value).ownBlock) (Kd.R_keptB ((Kd.R_apart' HO140.out (Kd.R_typed HO_11.out) (by decide))) hkp (fun k_ hk_ hs_ => (hk_.2) hs_)) (fun k_ hk_ => hk_.1.1)); have n8_ := aK (hb); clear HO_8 HO_10 HO_11 HO_12 HO_13 HO132 HO136 HO140 HB; have HO_8 := n0_; have HO_10 := n1_; have HO_11 := n2_; have HO_12 := n3_; have HO_13 := n4_; have HO132 := n5_; have HO136 := n6_; have HO140 := n7_; have HB := n8_; clear n0_ n1_ n2_ n3_ n4_ n5_ n6_ n7_ n8_; (try clear hb); (try clear hkp); (try clear hy0)) | ((with_reducible refine gate_callee (f := 111) rfl ?_); refine gl (some 88) Try.func111 #[.slice Ao30 t122.length co30, .int .i64 t144] ?_; (with_reducible refine (laws_markIntS.calls kj16 (fun k_ => some k_ = (.slice Ao30 t122.length co30 : Value).ownBlock) (.slice Ao30 t122.length co30) t122 t144 t146 t147 w _ ?side1 ?side2 A52.out).mono ?_); (case side1 => exact pT HB.out); (case side2 => exact Kd.R_tight rfl HO_12.out); rintro e w64 ⟨rfl, hy0, hb, hkp⟩; refine ⟨_, rfl, ?_⟩; have n0_ := aK (Kd.R_mono (ok' := fun k_ => some k_ ≠ (v127 : Value).ownBlock) (Kd.R_keptB ((Kd.R_apart' HO_8.out (Kd.R_typed HO_12.out) (by decide))) hkp (fun k_ hk_ hs_ => (hk_.2) hs_)) (fun k_ hk_ => hk_.1.1)); have n1_ := aK (Kd.R_mono (ok' := fun k_ => some k_ ≠ (.slice Ao29 t119.length co29 : Value).ownBlock ∧ some k_ ≠ (.slice Ao55 t130.length co55 : Value).ownBlock ∧ some k_ ≠ (.slice Ao58 t134.length co58 : Value).ownBlock) (Kd.R_keptB ((Kd.R_apart' HO_10.out (Kd.R_typed HO_12.out) (by decide))) hkp (fun k_ hk_ hs_ => (hk_.2) hs_)) (fun k_ hk_ => ⟨hk_.1.1.1, hk_.1.1.2.1, hk_.1.1.2.2⟩)); have n2_ := aK (Kd.R_mono (ok' := fun k_ => some k_ ≠ (.slice Ao28 t116.length co28 : Value).ownBlock ∧ some k_ ≠ (.slice Ao55 t130.length co55 : Value).ownBlock ∧ some k_ ≠ (.slice Ao58 t134.length co58 : Value).ownBlock) (Kd.R_keptB ((Kd.R_apart' HO_11.out (Kd.R_typed HO_12.out) (by decide))) hkp (fun k_ hk_ hs_ => (hk_.2) hs_)) (fun k_ hk_ => ⟨hk_.1.1.1, hk_.1.1.2.1, hk_.1.1.2.2⟩)); have n3_ := aK (Kd.R_reok rfl hy0 (fun k_ e_ => HO_12.out.1 k_ e_)); have n4_ := aK (Kd.R_mono (ok' := fun k_ => some k_ ≠ (v114 : Value).ownBlock) (Kd.R_keptB ((Kd.R_apart' HO_13.out (Kd.R_typed HO_12.out) (by decide))) hkp (fun k_ hk_ hs_ => (hk_.2) hs_)) (fun k_ hk_ => hk_.1.1)); have n5_ := aK (Kd.R_mono (ok' := fun k_ => some k_ ≠ (.slice Ao28 t116.length co28 : Value).ownBlock ∧ some k_ ≠ (.slice Ao29 t119.length co29 : Value).ownBlock ∧ some k_ ≠ (.slice Ao58 t134.length co58 : Value).ownBlock) (Kd.R_keptB ((Kd.R_apart' HO132.out (Kd.R_typed HO_12.out) (by decide))) hkp (fun k_ hk_ hs_ => (hk_.2) hs_)) (fun k_ hk_ => ⟨hk_.1.1.1, hk_.1.1.2.1, hk_.1.1.2.2⟩)); have n6_ := aK (Kd.R_mono (ok' := fun k_ => some k_ ≠ (.slice Ao28 t116.length co28 : Value).ownBlock ∧ some k_ ≠ (.slice Ao29 t119.length co29 : Value).ownBlock ∧ some k_ ≠ (.slice Ao55 t130.length co55 : Value).ownBlock) (Kd.R_keptB ((Kd.R_apart' HO136.out (Kd.R_typed HO_12.out) (by decide))) hkp (fun k_ hk_ hs_ => (hk_.2) hs_)) (fun k_ hk_ => ⟨hk_.1.1.1, hk_.1.1.2.1, hk_.1.1.2.2⟩)); have n7_ := aK (Kd.R_mono (ok' := fun k_ => some k_ ≠ (.slice Ao30 t122.length co30 : Value).ownBlock) (Kd.R_keptB (HO140.out) hkp (fun k_ hk_ hs_ => (hk_) hs_)) (fun k_ hk_ => hk_.1)); have n8_ := aK (hb); clear HO_8 HO_10 HO_11 HO_12 HO_13 HO132 HO136 HO140 HB; have HO_8 := n0_; have HO_10 := n1_; have HO_11 := n2_; have HO_12 := n3_; have HO_13 := n4_; have HO132 := n5_; have HO136 := n6_; have HO140 := n7_; have HB := n8_; clear n0_ n1_ n2_ n3_ n4_ n5_ n6_ n7_ n8_; (try clear hb); (try clear hkp); (try clear hy0)))
      (try simp only [Act.put, List.setIfInBounds_toArray, List.set_cons_zero, List.set_cons_succ])
      go_cut [101] (fun v101 wc => ∃ (kq : Nat) (x101_52 : Bool), v101 = .bool x101_52 ∧ Aside0 (laws_FnExactGrowthOf.j1 kq l0 l1 l2 t112 t113 t125 x101_52 = some r) ∧ Aside0 (kq ≤ kj16) ∧ Aside0 (Kd.R k158 158 wc w.heap.size (fun k_ => some k_ ≠ (v127 : Value).ownBlock) v114 t112) ∧ Aside0 (Kd.R k158 158 wc w.heap.size (fun k_ => some k_ ≠ (v114 : Value).ownBlock) v127 t125) ∧ Aside0 (Below w.heap.size w wc))
      case first =>
       have H := HC53.out
       clear HC53
       by_cases c65 : t146 < 0
       ·
        rw [if_pos c65] at H
        have c65b0 : decide (t146 < 0) = true := decide_eq_true c65
        clear c65
        (first | rw [c65b0] | (simp only [i64_w, i32_w]; rw [c65b0]) | skip)
        have H' := Aside0.mk H
        clear H
        go_wp2
        go_meet
        case rel => exact ⟨_, (true), (by first | rfl | (simp; done) | (simp [*]; done)), H', ⟨by have := HJ16.out; first | omega | exact Nat.le_refl _⟩, ⟨pR HO_8.out⟩, ⟨pR HO_13.out⟩, ⟨pT HB.out⟩⟩
       rw [if_neg c65] at H
       have c65b0 : decide (t146 < 0) = false := decide_eq_false c65
       clear c65
       (first | rw [c65b0] | (simp only [i64_w, i32_w]; rw [c65b0]) | skip)
       replace H := Option.bind_eq_some_iff.mp H
       obtain ⟨t148, A660, H⟩ := H
       replace H : (if t148 = true then (laws_FnExactGrowthOf.j1 kj16 l0 l1 l2 t112 t113 t125 (t126 != t113)) else (laws_FnExactGrowthOf.j1 kj16 l0 l1 l2 t112 t113 t125 true)) = some r := H
       have A66 := Aside0.mk A660
       clear A660
       by_cases c67 : t148 = true
       ·
        subst c67
        have H1 : (laws_FnExactGrowthOf.j1 kj16 l0 l1 l2 t112 t113 t125 (t126 != t113)) = some r := by rw [if_pos rfl] at H; exact H
        clear H
        have H := H1
        clear H1
        have H' := Aside0.mk H
        clear H
        obtain ⟨Ao68, co68, eo68⟩ := Kd.R_slice HO_13.out
        subst eo68
        obtain ⟨Ao69, co69, eo69⟩ := Kd.R_slice HO_8.out
        subst eo69
        go_wp2_with (first | (go_at_call 107; (with_reducible refine (laws_eqIntA2S.calls kj16 _ _ t125 _ _ t112 true _ ?side1 ?side2 ?side3 ?side4 A66.out).mono ?_); (case side1 => exact pC (Kd.R_reads' HO_13.out).2.2); (case side2 => exact (Kd.R_reads' HO_13.out).2.1); (case side3 => exact pC (Kd.R_reads' HO_8.out).2.2); (case side4 => exact (Kd.R_reads' HO_8.out).2.1); rintro e w70 ⟨rfl, hb⟩; have n0_ := aK (Kd.R_below (pR HO_8.out) hb); have n1_ := aK (Kd.R_below (pR HO_10.out) hb); have n2_ := aK (Kd.R_below (pR HO_11.out) hb); have n3_ := aK (Kd.R_below (pR HO_12.out) hb); have n4_ := aK (Kd.R_below (pR HO_13.out) hb); have n5_ := aK (Kd.R_below (pR HO132.out) hb); have n6_ := aK (Kd.R_below (pR HO136.out) hb); have n7_ := aK (Kd.R_below (pR HO140.out) hb); replace HB := bS HB hb; clear HO_8 HO_10 HO_11 HO_12 HO_13 HO132 HO136 HO140; have HO_8 := n0_; have HO_10 := n1_; have HO_11 := n2_; have HO_12 := n3_; have HO_13 := n4_; have HO132 := n5_; have HO136 := n6_; have HO140 := n7_; clear n0_ n1_ n2_ n3_ n4_ n5_ n6_ n7_; (try clear hb); (try clear hb2); (try clear hk); (try clear hi)))
        go_meet
        case rel => exact ⟨_, ((t126 != t113)), (by first | rfl | (simp; done) | (simp [*]; done)), H', ⟨by have := HJ16.out; first | omega | exact Nat.le_refl _⟩, ⟨pR HO_8.out⟩, ⟨pR HO_13.out⟩, ⟨pT HB.out⟩⟩
       replace c67 := Bool.eq_false_iff.mpr c67
       subst c67
       have H1 : (laws_FnExactGrowthOf.j1 kj16 l0 l1 l2 t112 t113 t125 true) = some r := by rw [if_neg (show ¬ (false = true) by decide)] at H; exact H
       clear H
       have H := H1
       clear H1
       have H' := Aside0.mk H
       clear H
       obtain ⟨Ao71, co71, eo71⟩ := Kd.R_slice HO_13.out
       subst eo71
       obtain ⟨Ao72, co72, eo72⟩ := Kd.R_slice HO_8.out
       subst eo72
       go_wp2_with (first | (go_at_call 107; (with_reducible refine (laws_eqIntA2S.calls kj16 _ _ t125 _ _ t112 false _ ?side1 ?side2 ?side3 ?side4 A66.out).mono ?_); (case side1 => exact pC (Kd.R_reads' HO_13.out).2.2); (case side2 => exact (Kd.R_reads' HO_13.out).2.1); (case side3 => exact pC (Kd.R_reads' HO_8.out).2.2); (case side4 => exact (Kd.R_reads' HO_8.out).2.1); rintro e w73 ⟨rfl, hb⟩; have n0_ := aK (Kd.R_below (pR HO_8.out) hb); have n1_ := aK (Kd.R_below (pR HO_10.out) hb); have n2_ := aK (Kd.R_below (pR HO_11.out) hb); have n3_ := aK (Kd.R_below (pR HO_12.out) hb); have n4_ := aK (Kd.R_below (pR HO_13.out) hb); have n5_ := aK (Kd.R_below (pR HO132.out) hb); have n6_ := aK (Kd.R_below (pR HO136.out) hb); have n7_ := aK (Kd.R_below (pR HO140.out) hb); replace HB := bS HB hb; clear HO_8 HO_10 HO_11 HO_12 HO_13 HO132 HO136 HO140; have HO_8 := n0_; have HO_10 := n1_; have HO_11 := n2_; have HO_12 := n3_; have HO_13 := n4_; have HO132 := n5_; have HO136 := n6_; have HO140 := n7_; clear n0_ n1_ n2_ n3_ n4_ n5_ n6_ n7_; (try clear hb); (try clear hb2); (try clear hk); (try clear hi)))
       go_meet
       case rel => exact ⟨_, (true), (by first | rfl | (simp; done) | (simp [*]; done)), H', ⟨by have := HJ16.out; first | omega | exact Nat.le_refl _⟩, ⟨pR HO_8.out⟩, ⟨pR HO_13.out⟩, ⟨pT HB.out⟩⟩
      case rest =>
       clear HC53
       try clear c1
       try clear c2
       try clear p2
       try clear c3
       try clear c4
       try clear c4b0
       try clear c4b1
       try clear c6
       try clear c6b0
       try clear c8
       try clear c8b0
       try clear c10
       try clear c11
       try clear c14
       try clear c33
       try clear c40
       try clear c43
       try clear c46
       try clear c49
       try clear c65
       try clear c65b0
       try clear c67
       try clear p2
       obtain ⟨kq, x101_52, rfl, HA, HJ52, HO_8, HO_13, HB⟩ := hcut
       cases kq with
       | zero => exact absurd HA.out (by simp [laws_FnExactGrowthOf.j1])
       | succ kj52 =>
        have H := HA.out
        clear HA
        simp only [laws_FnExactGrowthOf.j1] at H
        by_cases c74 : x101_52 = true
        ·
         subst c74
         have H1 : (some false) = some r := by rw [if_pos rfl] at H; exact H
         clear H
         have H := H1
         clear H1
         obtain rfl := Option.some.inj H
         go_wp2
         go_ret
         exact ⟨by first | rfl | (simp [errW_none, errW_some] <;> rfl) | (simp [*, errW_none, errW_some] <;> rfl), pT HB.out⟩
        replace c74 := Bool.eq_false_iff.mpr c74
        subst c74
        have H1 : ((laws_markIntA2S.f kj52 t125 1).bind fun bt149 => ((laws_heldIntA2S.f kj52 bt149.2 1).bind fun t151 => (if t151 < 0 then (some false) else (if t151 = bt149.1 then ((laws_toStormS.f kj52 l0).bind fun t152 => ((laws_toStormS.f kj52 l1).bind fun t155 => ((laws_toIntS.f kj52 l2).bind fun t158 => ((impl_GrowthOf.f kj52 t152 t155 t158).bind fun bt161 => ((laws_eqIntA2S.f kj52 bt161.1 t112).bind fun t165 => (if t165 = true then (laws_FnExactGrowthOf.j2 kj52 bt149.2 bt149.1 (bt161.2 != t113)) else (laws_FnExactGrowthOf.j2 kj52 bt149.2 bt149.1 true))))))) else (some false))))) = some r := by rw [if_neg (show ¬ (false = true) by decide)] at H; exact H
        clear H
        have H := H1
        clear H1
        replace H := Option.bind_eq_some_iff.mp H
        obtain ⟨⟨t149, t150⟩, A750, H⟩ := H
        replace H : ((laws_heldIntA2S.f kj52 t150 1).bind fun t151 => (if t151 < 0 then (some false) else (if t151 = t149 then ((laws_toStormS.f kj52 l0).bind fun t152 => ((laws_toStormS.f kj52 l1).bind fun t155 => ((laws_toIntS.f kj52 l2).bind fun t158 => ((impl_GrowthOf.f kj52 t152 t155 t158).bind fun bt161 => ((laws_eqIntA2S.f kj52 bt161.1 t112).bind fun t165 => (if t165 = true then (laws_FnExactGrowthOf.j2 kj52 t150 t149 (bt161.2 != t113)) else (laws_FnExactGrowthOf.j2 kj52 t150 t149 true))))))) else (some false)))) = some r := H
        have A75 := Aside0.mk A750
        clear A750
        replace H := Option.bind_eq_some_iff.mp H
        obtain ⟨t151, A760, H⟩ := H
        replace H : (if t151 < 0 then (some false) else (if t151 = t149 then ((laws_toStormS.f kj52 l0).bind fun t152 => ((laws_toStormS.f kj52 l1).bind fun t155 => ((laws_toIntS.f kj52 l2).bind fun t158 => ((impl_GrowthOf.f kj52 t152 t155 t158).bind fun bt161 => ((laws_eqIntA2S.f kj52 bt161.1 t112).bind fun t165 => (if t165 = true then (laws_FnExactGrowthOf.j2 kj52 t150 t149 (bt161.2 != t113)) else (laws_FnExactGrowthOf.j2 kj52 t150 t149 true))))))) else (some false))) = some r := H
        have A76 := Aside0.mk A760
        clear A760
        by_cases c77 : t151 < 0
        ·
         rw [if_pos c77] at H
         have c77b0 : decide (t151 < 0) = true := decide_eq_true c77
         clear c77
         obtain rfl := Option.some.inj H
         obtain ⟨Ao78, co78, eo78⟩ := Kd.R_slice HO_13.out
         subst eo78
         go_wp2_with (first | ((with_reducible refine gate_callee (f := 112) rfl ?_); refine gl (some 104) Try.func112 #[.slice Ao78 t125.length co78, .int .i64 1] ?_; (with_reducible refine (laws_markIntA2S.calls kj52 (fun k_ => some k_ = (.slice Ao78 t125.length co78 : Value).ownBlock) (.slice Ao78 t125.length co78) t125 1 t149 t150 w _ ?side1 ?side2 A75.out).mono ?_); (case side1 => exact pT HB.out); (case side2 => exact Kd.R_tight rfl HO_13.out); rintro e w79 ⟨rfl, hy0, hb, hkp⟩; refine ⟨_, rfl, ?_⟩; have n0_ := aK (Kd.R_mono (ok' := fun k_ => some k_ ≠ (.slice Ao78 t125.length co78 : Value).ownBlock) (Kd.R_keptB (HO_8.out) hkp (fun k_ hk_ hs_ => (hk_) hs_)) (fun k_ hk_ => hk_.1)); have n1_ := aK (Kd.R_reok rfl hy0 (fun k_ e_ => HO_13.out.1 k_ e_)); have n2_ := aK (hb); clear HO_8 HO_13 HB; have HO_8 := n0_; have HO_13 := n1_; have HB := n2_; clear n0_ n1_ n2_; (try clear hb); (try clear hkp); (try clear hy0)) | ((with_reducible refine gate_callee (f := 113) rfl ?_); refine goesL_ (some 107) rfl rfl Try.func113 (by kernel_rfl) rfl #[.slice Ao78 t150.length co78, .int .i64 1] rfl (by (try simp only [List.map_toArray, List.map_cons, List.map_nil]); first | done | (rw [show t150.length = t125.length from (Kd.R_reads' HO_13.out).1.symm] <;> rfl) | rfl | (simp only [List.length_drop, List.length_take]; rfl)) ?_; (with_reducible refine (laws_heldIntA2S.calls kj52 _ _ t150 1 t151 _ ?side1 ?side2 A76.out).mono ?_); (case side1 => exact pC (Kd.R_reads' HO_13.out).2.2); (case side2 => rw [show t150.length = t125.length from (Kd.R_reads' HO_13.out).1.symm]; exact (Kd.R_reads' HO_13.out).2.1); rintro e w' ⟨rfl, ⟨nd, rfl⟩⟩; refine ⟨_, rfl, ?_⟩))
         go_ret
         exact ⟨by first | rfl | (simp [errW_none, errW_some] <;> rfl) | (simp [*, errW_none, errW_some] <;> rfl), pT HB.out⟩
        rw [if_neg c77] at H
        have c77b0 : decide (t151 < 0) = false := decide_eq_false c77
        clear c77
        by_cases c80 : t151 = t149
        ·
         rw [if_pos c80] at H
         have c80b0 : (t151 == t149) = true := beq_iff_eq.mpr c80
         have c80b1 : (t151 != t149) = false := bne_eq_false_iff_eq.mpr c80
         clear c80
         replace H := Option.bind_eq_some_iff.mp H
         obtain ⟨t152, A810, H⟩ := H
         replace H : ((laws_toStormS.f kj52 l1).bind fun t155 => ((laws_toIntS.f kj52 l2).bind fun t158 => ((impl_GrowthOf.f kj52 t152 t155 t158).bind fun bt161 => ((laws_eqIntA2S.f kj52 bt161.1 t112).bind fun t165 => (if t165 = true then (laws_FnExactGrowthOf.j2 kj52 t150 t149 (bt161.2 != t113)) else (laws_FnExactGrowthOf.j2 kj52 t150 t149 true)))))) = some r := H
         have A81 := Aside0.mk A810
         clear A810
         replace H := Option.bind_eq_some_iff.mp H
         obtain ⟨t155, A820, H⟩ := H
         replace H : ((laws_toIntS.f kj52 l2).bind fun t158 => ((impl_GrowthOf.f kj52 t152 t155 t158).bind fun bt161 => ((laws_eqIntA2S.f kj52 bt161.1 t112).bind fun t165 => (if t165 = true then (laws_FnExactGrowthOf.j2 kj52 t150 t149 (bt161.2 != t113)) else (laws_FnExactGrowthOf.j2 kj52 t150 t149 true))))) = some r := H
         have A82 := Aside0.mk A820
         clear A820
         replace H := Option.bind_eq_some_iff.mp H
         obtain ⟨t158, A830, H⟩ := H
         replace H : ((impl_GrowthOf.f kj52 t152 t155 t158).bind fun bt161 => ((laws_eqIntA2S.f kj52 bt161.1 t112).bind fun t165 => (if t165 = true then (laws_FnExactGrowthOf.j2 kj52 t150 t149 (bt161.2 != t113)) else (laws_FnExactGrowthOf.j2 kj52 t150 t149 true)))) = some r := H
         have A83 := Aside0.mk A830
         clear A830
         replace H := Option.bind_eq_some_iff.mp H
         obtain ⟨⟨t161, t162⟩, A840, H⟩ := H
         replace H : ((laws_eqIntA2S.f kj52 t161 t112).bind fun t165 => (if t165 = true then (laws_FnExactGrowthOf.j2 kj52 t150 t149 (t162 != t113)) else (laws_FnExactGrowthOf.j2 kj52 t150 t149 true))) = some r := H
         have A84 := Aside0.mk A840
         clear A840
         have HC85 := Aside0.mk H
         clear H
         obtain ⟨Ao86, co86, eo86⟩ := Kd.R_slice HO_13.out
         subst eo86
         go_upto_region 38 with (first | ((with_reducible refine gate_callee (f := 112) rfl ?_); refine gl (some 104) Try.func112 #[.slice Ao86 t125.length co86, .int .i64 1] ?_; (with_reducible refine (laws_markIntA2S.calls kj52 (fun k_ => some k_ = (.slice Ao86 t125.length co86 : Value).ownBlock) (.slice Ao86 t125.length co86) t125 1 t149 t150 w _ ?side1 ?side2 A75.out).mono ?_); (case side1 => exact pT HB.out); (case side2 => exact Kd.R_tight rfl HO_13.out); rintro e w87 ⟨rfl, hy0, hb, hkp⟩; refine ⟨_, rfl, ?_⟩; have n0_ := aK (Kd.R_mono (ok' := fun k_ => some k_ ≠ (.slice Ao86 t125.length co86 : Value).ownBlock) (Kd.R_keptB (HO_8.out) hkp (fun k_ hk_ hs_ => (hk_) hs_)) (fun k_ hk_ => hk_.1)); have n1_ := aK (Kd.R_reok rfl hy0 (fun k_ e_ => HO_13.out.1 k_ e_)); have n2_ := aK (hb); clear HO_8 HO_13 HB; have HO_8 := n0_; have HO_13 := n1_; have HB := n2_; clear n0_ n1_ n2_; (try clear hb); (try clear hkp); (try clear hy0)) | ((with_reducible refine gate_callee (f := 113) rfl ?_); refine goesL_ (some 107) rfl rfl Try.func113 (by kernel_rfl) rfl #[.slice Ao86 t150.length co86, .int .i64 1] rfl (by (try simp only [List.map_toArray, List.map_cons, List.map_nil]); first | done | (rw [show t150.length = t125.length from (Kd.R_reads' HO_13.out).1.symm] <;> rfl) | rfl | (simp only [List.length_drop, List.length_take]; rfl)) ?_; (with_reducible refine (laws_heldIntA2S.calls kj52 _ _ t150 1 t151 _ ?side1 ?side2 A76.out).mono ?_); (case side1 => exact pC (Kd.R_reads' HO_13.out).2.2); (case side2 => rw [show t150.length = t125.length from (Kd.R_reads' HO_13.out).1.symm]; exact (Kd.R_reads' HO_13.out).2.1); rintro e w' ⟨rfl, ⟨nd, rfl⟩⟩; refine ⟨_, rfl, ?_⟩) | ((with_reducible refine gate_callee (f := 104) rfl ?_); refine gl (some 115) Try.func104 #[.slice A0 l0.length c0] ?_; (with_reducible refine (laws_toStormS.calls kj52 _ _ l0 t152 _ ?side1 ?side2 A81.out).mono ?_); (case side1 => exact pC (Kd.C_below HR0.out (pS HB.out))); (case side2 => exact HC0.out); rintro e w88 ⟨v153, rfl, ho0, hb⟩; refine ⟨_, rfl, ?_⟩; have n0_ := aK (Kd.R_below (pR HO_8.out) hb); have n1_ := aK (Kd.R_below (pR HO_13.out) hb); have HO154 := aK (Kd.R_lower ho0 (below_size (pS HB.out))); replace HB := bS HB hb; clear HO_8 HO_13; have HO_8 := n0_; have HO_13 := n1_; clear n0_ n1_; (try clear hb); (try clear hb2); (try clear hk); (try clear hi); (try clear ho0)) | ((with_reducible refine gate_callee (f := 104) rfl ?_); refine gl (some 117) Try.func104 #[.slice A1 l1.length c1] ?_; (with_reducible refine (laws_toStormS.calls kj52 _ _ l1 t155 _ ?side1 ?side2 A82.out).mono ?_); (case side1 => exact pC (Kd.C_below HR1.out HB.out)); (case side2 => exact HC1.out); rintro e w89 ⟨v156, rfl, ho0, hb⟩; refine ⟨_, rfl, ?_⟩; have n0_ := aK (Kd.R_below (pR HO_8.out) hb); have n1_ := aK (Kd.R_below (pR HO_13.out) hb); have n2_ := aK (Kd.R_elder' (pR HO154.out) (Kd.R_base ho0) hb); have HO157 := aK (Kd.R_lower (nw1 ho0 (pR HO154.out)) (below_size (pS HB.out))); replace HB := bS HB hb; clear HO_8 HO_13 HO154; have HO_8 := n0_; have HO_13 := n1_; have HO154 := n2_; clear n0_ n1_ n2_; (try clear hb); (try clear hb2); (try clear hk); (try clear hi); (try clear ho0)) | ((with_reducible refine gate_callee (f := 105) rfl ?_); refine gl (some 119) Try.func105 #[.slice A2 l2.length c2] ?_; (with_reducible refine (laws_toIntS.calls kj52 _ _ l2 t158 _ ?side1 ?side2 A83.out).mono ?_); (case side1 => exact pC (Kd.C_below HR2.out HB.out)); (case side2 => exact HC2.out); rintro e w90 ⟨v159, rfl, ho0, hb⟩; refine ⟨_, rfl, ?_⟩; have n0_ := aK (Kd.R_below (pR HO_8.out) hb); have n1_ := aK (Kd.R_below (pR HO_13.out) hb); have n2_ := aK (Kd.R_below (pR HO154.out) hb); have n3_ := aK (Kd.R_below (pR HO157.out) hb); have HO160 := aK (Kd.R_lower ho0 (below_size (pS HB.out))); replace HB := bS HB hb; clear HO_8 HO_13 HO154 HO157; have HO_8 := n0_; have HO_13 := n1_; have HO154 := n2_; have HO157 := n3_; clear n0_ n1_ n2_ n3_; (try clear hb); (try clear hb2); (try clear hk); (try clear hi); (try clear ho0); obtain ⟨Ao91, co91, eo91⟩ := Kd.R_slice HO154.out; subst eo91; obtain ⟨Ao92, co92, eo92⟩ := Kd.R_slice HO157.out; subst eo92; obtain ⟨Ao93, co93, eo93⟩ := Kd.R_slice HO160.out; subst eo93) | ((with_reducible refine gate_callee (f := 106) rfl ?_); refine gl (some 120) Try.func106 #[.slice Ao91 t152.length co91, .slice Ao92 t155.length co92, .slice Ao93 t158.length co93] ?_; (with_reducible refine (impl_GrowthOf.calls kj52 _ _ t152 _ _ t155 _ _ t158 t161 t162 _ ?side1 ?side2 ?side3 ?side4 ?side5 ?side6 A84.out).mono ?_); (case side1 => exact pC (Kd.R_reads' HO154.out).2.2); (case side2 => exact (Kd.R_reads' HO154.out).2.1); (case side3 => exact pC (Kd.R_reads' HO157.out).2.2); (case side4 => exact (Kd.R_reads' HO157.out).2.1); (case side5 => exact pC (Kd.R_reads' HO160.out).2.2); (case side6 => exact (Kd.R_reads' HO160.out).2.1); rintro e w94 ⟨v163, rfl, ho0, hb⟩; refine ⟨_, rfl, ?_⟩; have n0_ := aK (Kd.R_elder' (pR HO_8.out) (Kd.R_base ho0) hb); have n1_ := aK (Kd.R_elder' (pR HO_13.out) (Kd.R_base ho0) hb); have n2_ := aK (Kd.R_below (pR HO154.out) hb); have n3_ := aK (Kd.R_below (pR HO157.out) hb); have n4_ := aK (Kd.R_below (pR HO160.out) hb); have HO164 := aK (Kd.R_lower (nw2 ho0 (pR HO_8.out) (pR HO_13.out)) (below_size (pS HB.out))); replace HB := bS HB hb; clear HO_8 HO_13 HO154 HO157 HO160; have HO_8 := n0_; have HO_13 := n1_; have HO154 := n2_; have HO157 := n3_; have HO160 := n4_; clear n0_ n1_ n2_ n3_ n4_; (try clear hb); (try clear hb2); (try clear hk); (try clear hi); (try clear ho0)))
         (try simp only [Act.put, List.setIfInBounds_toArray, List.set_cons_zero, List.set_cons_succ])
         go_cut [131] (fun v131 wc => ∃ (kq : Nat) (x131_84 : Bool), v131 = .bool x131_84 ∧ Aside0 (laws_FnExactGrowthOf.j2 kq t150 t149 x131_84 = some r) ∧ Aside0 (kq ≤ kj52) ∧ Aside0 (Kd.R k158 158 wc w.heap.size (fun _ => True) (.slice Ao86 t125.length co86) t150) ∧ Aside0 (Below w.heap.size w wc))
         case first =>
          have H := HC85.out
          clear HC85
          replace H := Option.bind_eq_some_iff.mp H
          obtain ⟨t165, A950, H⟩ := H
          replace H : (if t165 = true then (laws_FnExactGrowthOf.j2 kj52 t150 t149 (t162 != t113)) else (laws_FnExactGrowthOf.j2 kj52 t150 t149 true)) = some r := H
          have A95 := Aside0.mk A950
          clear A950
          by_cases c96 : t165 = true
          ·
           subst c96
           have H1 : (laws_FnExactGrowthOf.j2 kj52 t150 t149 (t162 != t113)) = some r := by rw [if_pos rfl] at H; exact H
           clear H
           have H := H1
           clear H1
           have H' := Aside0.mk H
           clear H
           obtain ⟨Ao97, co97, eo97⟩ := Kd.R_slice HO164.out
           subst eo97
           obtain ⟨Ao98, co98, eo98⟩ := Kd.R_slice HO_8.out
           subst eo98
           go_wp2_with (first | ((with_reducible refine gate_callee (f := 107) rfl ?_); refine gl (some 125) Try.func107 #[.slice Ao97 t161.length co97, .slice Ao98 t112.length co98] ?_; (with_reducible refine (laws_eqIntA2S.calls kj52 _ _ t161 _ _ t112 true _ ?side1 ?side2 ?side3 ?side4 A95.out).mono ?_); (case side1 => exact pC (Kd.R_reads' HO164.out).2.2); (case side2 => exact (Kd.R_reads' HO164.out).2.1); (case side3 => exact pC (Kd.R_reads' HO_8.out).2.2); (case side4 => exact (Kd.R_reads' HO_8.out).2.1); rintro e w99 ⟨rfl, hb⟩; refine ⟨_, rfl, ?_⟩; have n0_ := aK (Kd.R_below (pR HO_8.out) hb); have n1_ := aK (Kd.R_below (pR HO_13.out) hb); have n2_ := aK (Kd.R_below (pR HO154.out) hb); have n3_ := aK (Kd.R_below (pR HO157.out) hb); have n4_ := aK (Kd.R_below (pR HO160.out) hb); have n5_ := aK (Kd.R_below (pR HO164.out) hb); replace HB := bS HB hb; clear HO_8 HO_13 HO154 HO157 HO160 HO164; have HO_8 := n0_; have HO_13 := n1_; have HO154 := n2_; have HO157 := n3_; have HO160 := n4_; have HO164 := n5_; clear n0_ n1_ n2_ n3_ n4_ n5_; (try clear hb); (try clear hb2); (try clear hk); (try clear hi)))
           go_meet
           case rel => exact ⟨_, ((t162 != t113)), (by first | rfl | (simp; done) | (simp [*]; done)), H', ⟨by have := HJ16.out; have := HJ52.out; first | omega | exact Nat.le_refl _⟩, ⟨pR (Kd.R_mono HO_13.out (fun _ hk => trivial))⟩, ⟨pT HB.out⟩⟩
          replace c96 := Bool.eq_false_iff.mpr c96
          subst c96
          have H1 : (laws_FnExactGrowthOf.j2 kj52 t150 t149 true) = some r := by rw [if_neg (show ¬ (false = true) by decide)] at H; exact H
          clear H
          have H := H1
          clear H1
          have H' := Aside0.mk H
          clear H
          obtain ⟨Ao100, co100, eo100⟩ := Kd.R_slice HO164.out
          subst eo100
          obtain ⟨Ao101, co101, eo101⟩ := Kd.R_slice HO_8.out
          subst eo101
          go_wp2_with (first | ((with_reducible refine gate_callee (f := 107) rfl ?_); refine gl (some 125) Try.func107 #[.slice Ao100 t161.length co100, .slice Ao101 t112.length co101] ?_; (with_reducible refine (laws_eqIntA2S.calls kj52 _ _ t161 _ _ t112 false _ ?side1 ?side2 ?side3 ?side4 A95.out).mono ?_); (case side1 => exact pC (Kd.R_reads' HO164.out).2.2); (case side2 => exact (Kd.R_reads' HO164.out).2.1); (case side3 => exact pC (Kd.R_reads' HO_8.out).2.2); (case side4 => exact (Kd.R_reads' HO_8.out).2.1); rintro e w102 ⟨rfl, hb⟩; refine ⟨_, rfl, ?_⟩; have n0_ := aK (Kd.R_below (pR HO_8.out) hb); have n1_ := aK (Kd.R_below (pR HO_13.out) hb); have n2_ := aK (Kd.R_below (pR HO154.out) hb); have n3_ := aK (Kd.R_below (pR HO157.out) hb); have n4_ := aK (Kd.R_below (pR HO160.out) hb); have n5_ := aK (Kd.R_below (pR HO164.out) hb); replace HB := bS HB hb; clear HO_8 HO_13 HO154 HO157 HO160 HO164; have HO_8 := n0_; have HO_13 := n1_; have HO154 := n2_; have HO157 := n3_; have HO160 := n4_; have HO164 := n5_; clear n0_ n1_ n2_ n3_ n4_ n5_; (try clear hb); (try clear hb2); (try clear hk); (try clear hi)))
          go_meet
          case rel => exact ⟨_, (true), (by first | rfl | (simp; done) | (simp [*]; done)), H', ⟨by have := HJ16.out; have := HJ52.out; first | omega | exact Nat.le_refl _⟩, ⟨pR (Kd.R_mono HO_13.out (fun _ hk => trivial))⟩, ⟨pT HB.out⟩⟩
         case rest =>
          clear HC85
          try clear c1
          try clear c2
          try clear p2
          try clear c3
          try clear c4
          try clear c4b0
          try clear c4b1
          try clear c6
          try clear c6b0
          try clear c7
          try clear c8
          try clear c8b0
          try clear c9
          try clear c10
          try clear c11
          try clear c14
          try clear c33
          try clear c40
          try clear c43
          try clear c46
          try clear c49
          try clear c65
          try clear c65b0
          try clear c67
          try clear c74
          try clear c77
          try clear c77b0
          try clear c80
          try clear c80b0
          try clear c80b1
          try clear c96
          try clear c102
          try clear p2
          obtain ⟨kq, x131_84, rfl, HA, HJ84, HO_13, HB⟩ := hcut
          have hl13_84 := (Kd.R_reads' HO_13.out).1
          rw [hl13_84] at HO_13
          (try simp only [hl13_84])
          cases kq with
          | zero => exact absurd HA.out (by simp [laws_FnExactGrowthOf.j2])
          | succ kj84 =>
           have H := HA.out
           clear HA
           simp only [laws_FnExactGrowthOf.j2] at H
           by_cases c103 : x131_84 = true
           ·
            subst c103
            have H1 : (some false) = some r := by rw [if_pos rfl] at H; exact H
            clear H
            have H := H1
            clear H1
            obtain rfl := Option.some.inj H
            go_wp2
            go_ret
            exact ⟨by first | rfl | (simp [errW_none, errW_some] <;> rfl) | (simp [*, errW_none, errW_some] <;> rfl), pT HB.out⟩
           replace c103 := Bool.eq_false_iff.mpr c103
           subst c103
           have H1 : ((laws_heldIntA2S.f kj84 t150 1).bind fun t166 => (if t166 < 0 then (some false) else (if t166 = t149 then (some true) else (some false)))) = some r := by rw [if_neg (show ¬ (false = true) by decide)] at H; exact H
           clear H
           have H := H1
           clear H1
           replace H := Option.bind_eq_some_iff.mp H
           obtain ⟨t166, A1040, H⟩ := H
           replace H : (if t166 < 0 then (some false) else (if t166 = t149 then (some true) else (some false))) = some r := H
           have A104 := Aside0.mk A1040
           clear A1040
           by_cases c105 : t166 < 0
           ·
            rw [if_pos c105] at H
            have c105b0 : decide (t166 < 0) = true := decide_eq_true c105
            clear c105
            obtain rfl := Option.some.inj H
            go_wp2_with (first | ((with_reducible refine gate_callee (f := 113) rfl ?_); refine gl (some 134) Try.func113 #[.slice Ao86 t150.length co86, .int .i64 1] ?_; (with_reducible refine (laws_heldIntA2S.calls kj84 _ _ t150 1 t166 _ ?side1 ?side2 A104.out).mono ?_); (case side1 => exact pC (Kd.R_reads' HO_13.out).2.2); (case side2 => exact (Kd.R_reads' HO_13.out).2.1); rintro e w' ⟨rfl, ⟨nd, rfl⟩⟩; refine ⟨_, rfl, ?_⟩))
            go_ret
            exact ⟨by first | rfl | (simp [errW_none, errW_some] <;> rfl) | (simp [*, errW_none, errW_some] <;> rfl), pT HB.out⟩
           rw [if_neg c105] at H
           have c105b0 : decide (t166 < 0) = false := decide_eq_false c105
           clear c105
           by_cases c106 : t166 = t149
           ·
            rw [if_pos c106] at H
            have c106b0 : (t166 == t149) = true := beq_iff_eq.mpr c106
            have c106b1 : (t166 != t149) = false := bne_eq_false_iff_eq.mpr c106
            clear c106
            obtain rfl := Option.some.inj H
            go_wp2_with (first | ((with_reducible refine gate_callee (f := 113) rfl ?_); refine gl (some 134) Try.func113 #[.slice Ao86 t150.length co86, .int .i64 1] ?_; (with_reducible refine (laws_heldIntA2S.calls kj84 _ _ t150 1 t166 _ ?side1 ?side2 A104.out).mono ?_); (case side1 => exact pC (Kd.R_reads' HO_13.out).2.2); (case side2 => exact (Kd.R_reads' HO_13.out).2.1); rintro e w' ⟨rfl, ⟨nd, rfl⟩⟩; refine ⟨_, rfl, ?_⟩))
            go_ret
            exact ⟨by first | rfl | (simp [errW_none, errW_some] <;> rfl) | (simp [*, errW_none, errW_some] <;> rfl), pT HB.out⟩
           rw [if_neg c106] at H
           have c106b0 : (t166 == t149) = false := beq_eq_false_iff_ne.mpr c106
           have c106b1 : (t166 != t149) = true := bne_iff_ne.mpr c106
           obtain rfl := Option.some.inj H
           go_wp2_with (first | ((with_reducible refine gate_callee (f := 113) rfl ?_); refine gl (some 134) Try.func113 #[.slice Ao86 t150.length co86, .int .i64 1] ?_; (with_reducible refine (laws_heldIntA2S.calls kj84 _ _ t150 1 t166 _ ?side1 ?side2 A104.out).mono ?_); (case side1 => exact pC (Kd.R_reads' HO_13.out).2.2); (case side2 => exact (Kd.R_reads' HO_13.out).2.1); rintro e w' ⟨rfl, ⟨nd, rfl⟩⟩; refine ⟨_, rfl, ?_⟩))
           go_ret
           exact ⟨by first | rfl | (simp [errW_none, errW_some] <;> rfl) | (simp [*, errW_none, errW_some] <;> rfl), pT HB.out⟩
        rw [if_neg c80] at H
        have c80b0 : (t151 == t149) = false := beq_eq_false_iff_ne.mpr c80
        have c80b1 : (t151 != t149) = true := bne_iff_ne.mpr c80
        obtain rfl := Option.some.inj H
        obtain ⟨Ao107, co107, eo107⟩ := Kd.R_slice HO_13.out
        subst eo107
        go_wp2_with (first | ((with_reducible refine gate_callee (f := 112) rfl ?_); refine gl (some 104) Try.func112 #[.slice Ao107 t125.length co107, .int .i64 1] ?_; (with_reducible refine (laws_markIntA2S.calls kj52 (fun k_ => some k_ = (.slice Ao107 t125.length co107 : Value).ownBlock) (.slice Ao107 t125.length co107) t125 1 t149 t150 w _ ?side1 ?side2 A75.out).mono ?_); (case side1 => exact pT HB.out); (case side2 => exact Kd.R_tight rfl HO_13.out); rintro e w108 ⟨rfl, hy0, hb, hkp⟩; refine ⟨_, rfl, ?_⟩; have n0_ := aK (Kd.R_mono (ok' := fun k_ => some k_ ≠ (.slice Ao107 t125.length co107 : Value).ownBlock) (Kd.R_keptB (HO_8.out) hkp (fun k_ hk_ hs_ => (hk_) hs_)) (fun k_ hk_ => hk_.1)); have n1_ := aK (Kd.R_reok rfl hy0 (fun k_ e_ => HO_13.out.1 k_ e_)); have n2_ := aK (hb); clear HO_8 HO_13 HB; have HO_8 := n0_; have HO_13 := n1_; have HB := n2_; clear n0_ n1_ n2_; (try clear hb); (try clear hkp); (try clear hy0)) | ((with_reducible refine gate_callee (f := 113) rfl ?_); refine goesL_ (some 107) rfl rfl Try.func113 (by kernel_rfl) rfl #[.slice Ao107 t150.length co107, .int .i64 1] rfl (by (try simp only [List.map_toArray, List.map_cons, List.map_nil]); first | done | (rw [show t150.length = t125.length from (Kd.R_reads' HO_13.out).1.symm] <;> rfl) | rfl | (simp only [List.length_drop, List.length_take]; rfl)) ?_; (with_reducible refine (laws_heldIntA2S.calls kj52 _ _ t150 1 t151 _ ?side1 ?side2 A76.out).mono ?_); (case side1 => exact pC (Kd.R_reads' HO_13.out).2.2); (case side2 => rw [show t150.length = t125.length from (Kd.R_reads' HO_13.out).1.symm]; exact (Kd.R_reads' HO_13.out).2.1); rintro e w' ⟨rfl, ⟨nd, rfl⟩⟩; refine ⟨_, rfl, ?_⟩))
        go_ret
        exact ⟨by first | rfl | (simp [errW_none, errW_some] <;> rfl) | (simp [*, errW_none, errW_some] <;> rfl), pT HB.out⟩
     replace c49 := Bool.eq_false_iff.mpr c49
     subst c49
     have H1 : (some false) = some r := by rw [if_neg (show ¬ (false = true) by decide)] at H; exact H
     clear H
     have H := H1
     clear H1
     obtain rfl := Option.some.inj H
     go_wp2_with (first | ((with_reducible refine gate_callee (f := 104) rfl ?_); refine gl (some 67) Try.func104 #[.slice A0 l0.length c0] ?_; (with_reducible refine (laws_toStormS.calls kj16 _ _ l0 t130 _ ?side1 ?side2 A41.out).mono ?_); (case side1 => exact pC (Kd.C_below HR0.out HB.out)); (case side2 => exact HC0.out); rintro e w109 ⟨v131, rfl, ho0, hb⟩; refine ⟨_, rfl, ?_⟩; have n0_ := aK (Kd.R_below (pR HO_8.out) hb); have n1_ := aK (Kd.R_elder' (pR HO_10.out) (Kd.R_base ho0) hb); have n2_ := aK (Kd.R_elder' (pR HO_11.out) (Kd.R_base ho0) hb); have n3_ := aK (Kd.R_below (pR HO_12.out) hb); have n4_ := aK (Kd.R_below (pR HO_13.out) hb); have HO132 := aK (Kd.R_lower (nw2 ho0 (pR HO_10.out) (pR HO_11.out)) (below_size (pS HB.out))); replace HB := bS HB hb; clear HO_8 HO_10 HO_11 HO_12 HO_13; have HO_8 := n0_; have HO_10 := n1_; have HO_11 := n2_; have HO_12 := n3_; have HO_13 := n4_; clear n0_ n1_ n2_ n3_ n4_; (try clear hb); (try clear hb2); (try clear hk); (try clear hi); (try clear ho0); obtain ⟨Ao110, co110, eo110⟩ := Kd.R_slice HO132.out; subst eo110) | ((with_reducible refine gate_callee (f := 108) rfl ?_); refine gl (some 68) Try.func108 #[.slice Ao28 t116.length co28, .slice Ao110 t130.length co110] ?_; (with_reducible refine (laws_eqStormS.calls kj16 _ _ t116 _ _ t130 true _ ?side1 ?side2 ?side3 ?side4 A42.out).mono ?_); (case side1 => exact pC (Kd.R_reads' HO_10.out).2.2); (case side2 => exact (Kd.R_reads' HO_10.out).2.1); (case side3 => exact pC (Kd.R_reads' HO132.out).2.2); (case side4 => exact (Kd.R_reads' HO132.out).2.1); rintro e w111 ⟨rfl, hb⟩; refine ⟨_, rfl, ?_⟩; have n0_ := aK (Kd.R_below (pR HO_8.out) hb); have n1_ := aK (Kd.R_below (pR HO_10.out) hb); have n2_ := aK (Kd.R_below (pR HO_11.out) hb); have n3_ := aK (Kd.R_below (pR HO_12.out) hb); have n4_ := aK (Kd.R_below (pR HO_13.out) hb); have n5_ := aK (Kd.R_below (pR HO132.out) hb); replace HB := bS HB hb; clear HO_8 HO_10 HO_11 HO_12 HO_13 HO132; have HO_8 := n0_; have HO_10 := n1_; have HO_11 := n2_; have HO_12 := n3_; have HO_13 := n4_; have HO132 := n5_; clear n0_ n1_ n2_ n3_ n4_ n5_; (try clear hb); (try clear hb2); (try clear hk); (try clear hi)) | ((with_reducible refine gate_callee (f := 104) rfl ?_); refine gl (some 72) Try.func104 #[.slice A1 l1.length c1] ?_; (with_reducible refine (laws_toStormS.calls kj16 _ _ l1 t134 _ ?side1 ?side2 A44.out).mono ?_); (case side1 => exact pC (Kd.C_below HR1.out HB.out)); (case side2 => exact HC1.out); rintro e w112 ⟨v135, rfl, ho0, hb⟩; refine ⟨_, rfl, ?_⟩; have n0_ := aK (Kd.R_below (pR HO_8.out) hb); have n1_ := aK (Kd.R_elder' (pR HO_10.out) (Kd.R_base ho0) hb); have n2_ := aK (Kd.R_elder' (pR HO_11.out) (Kd.R_base ho0) hb); have n3_ := aK (Kd.R_below (pR HO_12.out) hb); have n4_ := aK (Kd.R_below (pR HO_13.out) hb); have n5_ := aK (Kd.R_elder' (pR HO132.out) (Kd.R_base ho0) hb); have HO136 := aK (Kd.R_lower (nw1 (nw2 ho0 (pR HO_10.out) (pR HO_11.out)) (pR HO132.out)) (below_size (pS HB.out))); replace HB := bS HB hb; clear HO_8 HO_10 HO_11 HO_12 HO_13 HO132; have HO_8 := n0_; have HO_10 := n1_; have HO_11 := n2_; have HO_12 := n3_; have HO_13 := n4_; have HO132 := n5_; clear n0_ n1_ n2_ n3_ n4_ n5_; (try clear hb); (try clear hb2); (try clear hk); (try clear hi); (try clear ho0); obtain ⟨Ao113, co113, eo113⟩ := Kd.R_slice HO136.out; subst eo113) | ((with_reducible refine gate_callee (f := 108) rfl ?_); refine gl (some 73) Try.func108 #[.slice Ao29 t119.length co29, .slice Ao113 t134.length co113] ?_; (with_reducible refine (laws_eqStormS.calls kj16 _ _ t119 _ _ t134 true _ ?side1 ?side2 ?side3 ?side4 A45.out).mono ?_); (case side1 => exact pC (Kd.R_reads' HO_11.out).2.2); (case side2 => exact (Kd.R_reads' HO_11.out).2.1); (case side3 => exact pC (Kd.R_reads' HO136.out).2.2); (case side4 => exact (Kd.R_reads' HO136.out).2.1); rintro e w114 ⟨rfl, hb⟩; refine ⟨_, rfl, ?_⟩; have n0_ := aK (Kd.R_below (pR HO_8.out) hb); have n1_ := aK (Kd.R_below (pR HO_10.out) hb); have n2_ := aK (Kd.R_below (pR HO_11.out) hb); have n3_ := aK (Kd.R_below (pR HO_12.out) hb); have n4_ := aK (Kd.R_below (pR HO_13.out) hb); have n5_ := aK (Kd.R_below (pR HO132.out) hb); have n6_ := aK (Kd.R_below (pR HO136.out) hb); replace HB := bS HB hb; clear HO_8 HO_10 HO_11 HO_12 HO_13 HO132 HO136; have HO_8 := n0_; have HO_10 := n1_; have HO_11 := n2_; have HO_12 := n3_; have HO_13 := n4_; have HO132 := n5_; have HO136 := n6_; clear n0_ n1_ n2_ n3_ n4_ n5_ n6_; (try clear hb); (try clear hb2); (try clear hk); (try clear hi)) | ((with_reducible refine gate_callee (f := 105) rfl ?_); refine gl (some 77) Try.func105 #[.slice A2 l2.length c2] ?_; (with_reducible refine (laws_toIntS.calls kj16 _ _ l2 t138 _ ?side1 ?side2 A47.out).mono ?_); (case side1 => exact pC (Kd.C_below HR2.out HB.out)); (case side2 => exact HC2.out); rintro e w115 ⟨v139, rfl, ho0, hb⟩; refine ⟨_, rfl, ?_⟩; have n0_ := aK (Kd.R_below (pR HO_8.out) hb); have n1_ := aK (Kd.R_below (pR HO_10.out) hb); have n2_ := aK (Kd.R_below (pR HO_11.out) hb); have n3_ := aK (Kd.R_elder' (pR HO_12.out) (Kd.R_base ho0) hb); have n4_ := aK (Kd.R_below (pR HO_13.out) hb); have n5_ := aK (Kd.R_below (pR HO132.out) hb); have n6_ := aK (Kd.R_below (pR HO136.out) hb); have HO140 := aK (Kd.R_lower (nw1 ho0 (pR HO_12.out)) (below_size (pS HB.out))); replace HB := bS HB hb; clear HO_8 HO_10 HO_11 HO_12 HO_13 HO132 HO136; have HO_8 := n0_; have HO_10 := n1_; have HO_11 := n2_; have HO_12 := n3_; have HO_13 := n4_; have HO132 := n5_; have HO136 := n6_; clear n0_ n1_ n2_ n3_ n4_ n5_ n6_; (try clear hb); (try clear hb2); (try clear hk); (try clear hi); (try clear ho0); obtain ⟨Ao116, co116, eo116⟩ := Kd.R_slice HO140.out; subst eo116) | ((with_reducible refine gate_callee (f := 109) rfl ?_); refine gl (some 78) Try.func109 #[.slice Ao30 t122.length co30, .slice Ao116 t138.length co116] ?_; (with_reducible refine (laws_eqIntS.calls kj16 _ _ t122 _ _ t138 false _ ?side1 ?side2 ?side3 ?side4 A48.out).mono ?_); (case side1 => exact pC (Kd.R_reads' HO_12.out).2.2); (case side2 => exact (Kd.R_reads' HO_12.out).2.1); (case side3 => exact pC (Kd.R_reads' HO140.out).2.2); (case side4 => exact (Kd.R_reads' HO140.out).2.1); rintro e w' ⟨rfl, ⟨nd, rfl⟩⟩; refine ⟨_, rfl, ?_⟩))
     go_ret
     exact ⟨by first | rfl | (simp [errW_none, errW_some] <;> rfl) | (simp [*, errW_none, errW_some] <;> rfl), pT HB.out⟩
    replace c46 := Bool.eq_false_iff.mpr c46
    subst c46
    have H1 : (some false) = some r := by rw [if_neg (show ¬ (false = true) by decide)] at H; exact H
    clear H
    have H := H1
    clear H1
    obtain rfl := Option.some.inj H
    go_wp2_with (first | ((with_reducible refine gate_callee (f := 104) rfl ?_); refine gl (some 67) Try.func104 #[.slice A0 l0.length c0] ?_; (with_reducible refine (laws_toStormS.calls kj16 _ _ l0 t130 _ ?side1 ?side2 A41.out).mono ?_); (case side1 => exact pC (Kd.C_below HR0.out HB.out)); (case side2 => exact HC0.out); rintro e w117 ⟨v131, rfl, ho0, hb⟩; refine ⟨_, rfl, ?_⟩; have n0_ := aK (Kd.R_below (pR HO_8.out) hb); have n1_ := aK (Kd.R_elder' (pR HO_10.out) (Kd.R_base ho0) hb); have n2_ := aK (Kd.R_elder' (pR HO_11.out) (Kd.R_base ho0) hb); have n3_ := aK (Kd.R_below (pR HO_12.out) hb); have n4_ := aK (Kd.R_below (pR HO_13.out) hb); have HO132 := aK (Kd.R_lower (nw2 ho0 (pR HO_10.out) (pR HO_11.out)) (below_size (pS HB.out))); replace HB := bS HB hb; clear HO_8 HO_10 HO_11 HO_12 HO_13; have HO_8 := n0_; have HO_10 := n1_; have HO_11 := n2_; have HO_12 := n3_; have HO_13 := n4_; clear n0_ n1_ n2_ n3_ n4_; (try clear hb); (try clear hb2); (try clear hk); (try clear hi); (try clear ho0); obtain ⟨Ao118, co118, eo118⟩ := Kd.R_slice HO132.out; subst eo118) | ((with_reducible refine gate_callee (f := 108) rfl ?_); refine gl (some 68) Try.func108 #[.slice Ao28 t116.length co28, .slice Ao118 t130.length co118] ?_; (with_reducible refine (laws_eqStormS.calls kj16 _ _ t116 _ _ t130 true _ ?side1 ?side2 ?side3 ?side4 A42.out).mono ?_); (case side1 => exact pC (Kd.R_reads' HO_10.out).2.2); (case side2 => exact (Kd.R_reads' HO_10.out).2.1); (case side3 => exact pC (Kd.R_reads' HO132.out).2.2); (case side4 => exact (Kd.R_reads' HO132.out).2.1); rintro e w119 ⟨rfl, hb⟩; refine ⟨_, rfl, ?_⟩; have n0_ := aK (Kd.R_below (pR HO_8.out) hb); have n1_ := aK (Kd.R_below (pR HO_10.out) hb); have n2_ := aK (Kd.R_below (pR HO_11.out) hb); have n3_ := aK (Kd.R_below (pR HO_12.out) hb); have n4_ := aK (Kd.R_below (pR HO_13.out) hb); have n5_ := aK (Kd.R_below (pR HO132.out) hb); replace HB := bS HB hb; clear HO_8 HO_10 HO_11 HO_12 HO_13 HO132; have HO_8 := n0_; have HO_10 := n1_; have HO_11 := n2_; have HO_12 := n3_; have HO_13 := n4_; have HO132 := n5_; clear n0_ n1_ n2_ n3_ n4_ n5_; (try clear hb); (try clear hb2); (try clear hk); (try clear hi)) | ((with_reducible refine gate_callee (f := 104) rfl ?_); refine gl (some 72) Try.func104 #[.slice A1 l1.length c1] ?_; (with_reducible refine (laws_toStormS.calls kj16 _ _ l1 t134 _ ?side1 ?side2 A44.out).mono ?_); (case side1 => exact pC (Kd.C_below HR1.out HB.out)); (case side2 => exact HC1.out); rintro e w120 ⟨v135, rfl, ho0, hb⟩; refine ⟨_, rfl, ?_⟩; have n0_ := aK (Kd.R_below (pR HO_8.out) hb); have n1_ := aK (Kd.R_elder' (pR HO_10.out) (Kd.R_base ho0) hb); have n2_ := aK (Kd.R_elder' (pR HO_11.out) (Kd.R_base ho0) hb); have n3_ := aK (Kd.R_below (pR HO_12.out) hb); have n4_ := aK (Kd.R_below (pR HO_13.out) hb); have n5_ := aK (Kd.R_elder' (pR HO132.out) (Kd.R_base ho0) hb); have HO136 := aK (Kd.R_lower (nw1 (nw2 ho0 (pR HO_10.out) (pR HO_11.out)) (pR HO132.out)) (below_size (pS HB.out))); replace HB := bS HB hb; clear HO_8 HO_10 HO_11 HO_12 HO_13 HO132; have HO_8 := n0_; have HO_10 := n1_; have HO_11 := n2_; have HO_12 := n3_; have HO_13 := n4_; have HO132 := n5_; clear n0_ n1_ n2_ n3_ n4_ n5_; (try clear hb); (try clear hb2); (try clear hk); (try clear hi); (try clear ho0); obtain ⟨Ao121, co121, eo121⟩ := Kd.R_slice HO136.out; subst eo121) | ((with_reducible refine gate_callee (f := 108) rfl ?_); refine gl (some 73) Try.func108 #[.slice Ao29 t119.length co29, .slice Ao121 t134.length co121] ?_; (with_reducible refine (laws_eqStormS.calls kj16 _ _ t119 _ _ t134 false _ ?side1 ?side2 ?side3 ?side4 A45.out).mono ?_); (case side1 => exact pC (Kd.R_reads' HO_11.out).2.2); (case side2 => exact (Kd.R_reads' HO_11.out).2.1); (case side3 => exact pC (Kd.R_reads' HO136.out).2.2); (case side4 => exact (Kd.R_reads' HO136.out).2.1); rintro e w122 ⟨rfl, hb⟩; refine ⟨_, rfl, ?_⟩; have n0_ := aK (Kd.R_below (pR HO_8.out) hb); have n1_ := aK (Kd.R_below (pR HO_10.out) hb); have n2_ := aK (Kd.R_below (pR HO_11.out) hb); have n3_ := aK (Kd.R_below (pR HO_12.out) hb); have n4_ := aK (Kd.R_below (pR HO_13.out) hb); have n5_ := aK (Kd.R_below (pR HO132.out) hb); have n6_ := aK (Kd.R_below (pR HO136.out) hb); replace HB := bS HB hb; clear HO_8 HO_10 HO_11 HO_12 HO_13 HO132 HO136; have HO_8 := n0_; have HO_10 := n1_; have HO_11 := n2_; have HO_12 := n3_; have HO_13 := n4_; have HO132 := n5_; have HO136 := n6_; clear n0_ n1_ n2_ n3_ n4_ n5_ n6_; (try clear hb); (try clear hb2); (try clear hk); (try clear hi)))
    go_ret
    exact ⟨by first | rfl | (simp [errW_none, errW_some] <;> rfl) | (simp [*, errW_none, errW_some] <;> rfl), pT HB.out⟩
   replace c43 := Bool.eq_false_iff.mpr c43
   subst c43
   have H1 : (some false) = some r := by rw [if_neg (show ¬ (false = true) by decide)] at H; exact H
   clear H
   have H := H1
   clear H1
   obtain rfl := Option.some.inj H
   go_wp2_with (first | ((with_reducible refine gate_callee (f := 104) rfl ?_); refine gl (some 67) Try.func104 #[.slice A0 l0.length c0] ?_; (with_reducible refine (laws_toStormS.calls kj16 _ _ l0 t130 _ ?side1 ?side2 A41.out).mono ?_); (case side1 => exact pC (Kd.C_below HR0.out HB.out)); (case side2 => exact HC0.out); rintro e w123 ⟨v131, rfl, ho0, hb⟩; refine ⟨_, rfl, ?_⟩; have n0_ := aK (Kd.R_below (pR HO_8.out) hb); have n1_ := aK (Kd.R_elder' (pR HO_10.out) (Kd.R_base ho0) hb); have n2_ := aK (Kd.R_elder' (pR HO_11.out) (Kd.R_base ho0) hb); have n3_ := aK (Kd.R_below (pR HO_12.out) hb); have n4_ := aK (Kd.R_below (pR HO_13.out) hb); have HO132 := aK (Kd.R_lower (nw2 ho0 (pR HO_10.out) (pR HO_11.out)) (below_size (pS HB.out))); replace HB := bS HB hb; clear HO_8 HO_10 HO_11 HO_12 HO_13; have HO_8 := n0_; have HO_10 := n1_; have HO_11 := n2_; have HO_12 := n3_; have HO_13 := n4_; clear n0_ n1_ n2_ n3_ n4_; (try clear hb); (try clear hb2); (try clear hk); (try clear hi); (try clear ho0); obtain ⟨Ao124, co124, eo124⟩ := Kd.R_slice HO132.out; subst eo124) | ((with_reducible refine gate_callee (f := 108) rfl ?_); refine gl (some 68) Try.func108 #[.slice Ao28 t116.length co28, .slice Ao124 t130.length co124] ?_; (with_reducible refine (laws_eqStormS.calls kj16 _ _ t116 _ _ t130 false _ ?side1 ?side2 ?side3 ?side4 A42.out).mono ?_); (case side1 => exact pC (Kd.R_reads' HO_10.out).2.2); (case side2 => exact (Kd.R_reads' HO_10.out).2.1); (case side3 => exact pC (Kd.R_reads' HO132.out).2.2); (case side4 => exact (Kd.R_reads' HO132.out).2.1); rintro e w125 ⟨rfl, hb⟩; refine ⟨_, rfl, ?_⟩; have n0_ := aK (Kd.R_below (pR HO_8.out) hb); have n1_ := aK (Kd.R_below (pR HO_10.out) hb); have n2_ := aK (Kd.R_below (pR HO_11.out) hb); have n3_ := aK (Kd.R_below (pR HO_12.out) hb); have n4_ := aK (Kd.R_below (pR HO_13.out) hb); have n5_ := aK (Kd.R_below (pR HO132.out) hb); replace HB := bS HB hb; clear HO_8 HO_10 HO_11 HO_12 HO_13 HO132; have HO_8 := n0_; have HO_10 := n1_; have HO_11 := n2_; have HO_12 := n3_; have HO_13 := n4_; have HO132 := n5_; clear n0_ n1_ n2_ n3_ n4_ n5_; (try clear hb); (try clear hb2); (try clear hk); (try clear hi)))
   go_ret
   exact ⟨by first | rfl | (simp [errW_none, errW_some] <;> rfl) | (simp [*, errW_none, errW_some] <;> rfl), pT HB.out⟩
def laws_FnExactGrowthOf.Pure : Prop := ∀ (l0 : List (S162)) (l1 : List (S162)) (l2 : List Int), (l0.length ≤ 9223372036854775807 ∧ ∀ z0 ∈ l0, (Lit.int .i64 z0.f0).wf = true ∧ (Lit.int .i64 z0.f1).wf = true ∧ (Lit.int .i64 z0.f2).wf = true ∧ (Lit.int .i64 z0.f3).wf = true) → l0.length * 32 ≤ 140737488351232 → (l1.length ≤ 9223372036854775807 ∧ ∀ z0 ∈ l1, (Lit.int .i64 z0.f0).wf = true ∧ (Lit.int .i64 z0.f1).wf = true ∧ (Lit.int .i64 z0.f2).wf = true ∧ (Lit.int .i64 z0.f3).wf = true) → l1.length * 32 ≤ 140737488351232 → (l2.length ≤ 9223372036854775807 ∧ ∀ z0 ∈ l2, (Lit.int .i64 z0).wf = true) → l2.length * 8 ≤ 140737488351232 → ∃ k, laws_FnExactGrowthOf.f k l0 l1 l2 = some true
end Go.Proofs.Ythekngnkajjhnaa.P
namespace Go.Proofs.Ythekngnkajjhnaa.Open
open Go.ChangeShapes Go.WideShapes Go.RowKit Go.Deep Go.Joins Go.Proofs.YthekngnkajjhnaaW.PrintWords
def Opens {α : Type} (P : Program) (t : TypeId) (d : Kd α) (wf : α → Prop) : Prop :=
  ∀ {H : Type} {enc : TypeId × Value → H} {W : World} {fuel : Nat} {cs : List Value} {x : DataW H × List MemPlace},
    DataW.trod enc P W 0 (fun _ => true) true fuel t cs = some x → ∃ y, d.K W y cs ∧ wf y
theorem opens_int {P : Program} {t : TypeId} {k : IntKind} (h : P.underlying t = some (.int k)) : Opens P t (Kd.int k) (fun n => (Lit.int k n).wf = true) := by
  intro H enc W fuel cs x hx
  obtain ⟨n, rfl, _, hw⟩ := DataW.trod_int h hx
  exact ⟨n, rfl, hw⟩
theorem list_of {α : Type} {p : Nat → α → Prop} : ∀ (n : Nat), (∀ i, i < n → ∃ y, p i y) → ∃ ys : List α, ys.length = n ∧ ∀ (i : Nat) (y : α), ys[i]? = some y → p i y
  | 0, _ => ⟨[], rfl, fun i y h => by simp at h⟩
  | n + 1, h => by
    obtain ⟨ys, hl, hy⟩ := list_of n (fun i hi => h i (by omega))
    obtain ⟨y, hp⟩ := h n (by omega)
    refine ⟨ys ++ [y], by simp [hl], fun i z hz => ?_⟩
    by_cases hi : i < n
    · rw [List.getElem?_append_left (by omega)] at hz
      exact hy i z hz
    · have hi2 : i = n := by
        have := (List.getElem?_eq_some_iff.1 hz).1
        simp [hl] at this
        omega
      subst hi2
      rw [List.getElem?_append_right (by omega), hl] at hz
      simp at hz
      subst hz
      exact hp
theorem opens_slice {α : Type} {P : Program} {t e : TypeId} {d : Kd α} {wf : α → Prop} (h : P.underlying t = some (.slice e)) (hc : P.cellsOf e = d.sz) (he : Opens P e d wf) :
    Opens P t (Kd.slice e d) (fun l => l.length ≤ 9223372036854775807 ∧ ∀ x ∈ l, wf x) := by
  intro H enc W fuel cs x hx
  rcases open_slice h hx with ⟨rfl, _⟩ | ⟨a, len, cap, m, n, D, Pl, rfl, _, hl, hm, hmm, _, hx⟩
  · exact ⟨[], ⟨none, 0, rfl, by simp, Kd.C_nil d W⟩, by simp, by simp⟩
  · obtain ⟨ys, hlen, hy⟩ := list_of (p := fun i y => ∃ cs', W.cells? 0 (a.add (i * P.cellsOf e)) (P.cellsOf e) = some cs' ∧ d.K W y cs' ∧ wf y) len (fun i hi => by
      obtain ⟨cs', h1, h2⟩ := hx i (by rw [hmm]; split <;> omega)
      obtain ⟨y, hK, hw⟩ := he h2
      exact ⟨y, cs', h1, hK, hw⟩)
    have hm' : cap ≤ 9223372036854775807 := by simpa [maxLen] using hm
    refine ⟨ys, ⟨some a, cap, by rw [hlen], by omega, ⟨rfl, by omega, fun _ => ⟨a, rfl, fun j y hj => ?_⟩⟩⟩, by omega, fun y hmem => ?_⟩
    · obtain ⟨cs', h1, hK, _⟩ := hy j y hj
      obtain ⟨_, hl2, hcell⟩ := World.cells?_some h1
      refine ⟨cs', d.K_len hK, hK, fun i u hu => ?_⟩
      have hi : i < P.cellsOf e := by
        have := (List.getElem?_eq_some_iff.1 hu).1
        omega
      rw [← hc, ← Go.Deep.add_add, hcell i hi]
      exact hu
    · obtain ⟨j, hj⟩ := List.getElem?_of_mem hmem
      obtain ⟨_, _, _, hw⟩ := hy j y hj
      exact hw
theorem opens4 {α0 α1 α2 α3 : Type} {P : Program} {t : TypeId} {f0 f1 f2 f3 : Field} {d0 : Kd α0} {d1 : Kd α1} {d2 : Kd α2} {d3 : Kd α3} {w0 : α0 → Prop} {w1 : α1 → Prop} {w2 : α2 → Prop} {w3 : α3 → Prop}
    (hs : P.underlying t = some (.struct #[f0, f1, f2, f3])) (hone : oneCellFields P #[f0, f1, f2, f3] = true) (hC : P.cellsOf t = 4) (h0 : Opens P f0.type d0 w0) (h1 : Opens P f1.type d1 w1) (h2 : Opens P f2.type d2 w2) (h3 : Opens P f3.type d3 w3) :
    Opens P t (Kd.pair d0 (Kd.pair d1 (Kd.pair d2 d3))) (fun y => w0 y.1 ∧ w1 y.2.1 ∧ w2 y.2.2.1 ∧ w3 y.2.2.2) := by
  intro H enc W fuel cs x hx
  obtain ⟨y0, y1, y2, y3, n, _, hlen, e0, e1, e2, e3⟩ := trod_struct4 hs hx
  rw [hC] at hlen
  match cs, hlen with
  | [c0, c1, c2, c3], _ =>
    obtain ⟨o0, k0⟩ := hone_of hone 0 f0 rfl
    obtain ⟨o1, k1⟩ := hone_of hone 1 f1 rfl
    obtain ⟨o2, k2⟩ := hone_of hone 2 f2 rfl
    obtain ⟨o3, k3⟩ := hone_of hone 3 f3 rfl
    obtain ⟨z0, K0, W0⟩ := h0 (show DataW.trod enc P W 0 (fun _ => true) true n f0.type [c0] = some y0 by simpa [o0, k0] using e0)
    obtain ⟨z1, K1, W1⟩ := h1 (show DataW.trod enc P W 0 (fun _ => true) true n f1.type [c1] = some y1 by simpa [o1, k1] using e1)
    obtain ⟨z2, K2, W2⟩ := h2 (show DataW.trod enc P W 0 (fun _ => true) true n f2.type [c2] = some y2 by simpa [o2, k2] using e2)
    obtain ⟨z3, K3, W3⟩ := h3 (show DataW.trod enc P W 0 (fun _ => true) true n f3.type [c3] = some y3 by simpa [o3, k3] using e3)
    exact ⟨(z0, z1, z2, z3), ⟨[c0], [c1, c2, c3], rfl, K0, [c1], [c2, c3], rfl, K1, [c2], [c3], rfl, K2, K3⟩, W0, W1, W2, W3⟩
theorem opens_iso {α β : Type} {P : Program} {t : TypeId} {d : Kd α} {wf : α → Prop} (h : Opens P t d wf) (f : β → α) (g : α → β) (hg : ∀ y, f (g y) = y) : Opens P t (Kd.iso d f) (fun s => wf (f s)) := by
  intro H enc W fuel cs x hx
  obtain ⟨y, hK, hw⟩ := h hx
  exact ⟨g y, show d.K W (f (g y)) cs by rw [hg]; exact hK, show wf (f (g y)) by rw [hg]; exact hw⟩
theorem sized_any {H : Type} {enc : TypeId × Value → H} {P : Program} {W : World} {base : Nat} {spare : Nat → Bool} {held : Bool} {t e : TypeId} {a : Option Addr} {len cap : Nat} {d : DataW H} {ps : List MemPlace} {ts : List TypeId} {ds : List (DataW H)} {j : Nat}
    (hsz : (DataW.weightsEach P ts ds).all (· ≤ reachBytes) = true) (ht : ts[j]? = some t) (hd : ds[j]? = some d) (hu : P.underlying t = some (.slice e)) {B : Nat} (hB : P.bytesOf e = B)
    (h : DataW.Trod enc P W base spare held t (.slice a len cap) d ps) : len * B ≤ 140737488351232 := by
  obtain ⟨fuel, hf⟩ := h
  rcases open_slice hu hf with ⟨hcs, _⟩ | ⟨x, l, c, m, n, D, Pl, hcs, _, hl, _, _, hx, _⟩
  · simp [Value.cells] at hcs
    obtain ⟨rfl, rfl, rfl⟩ := hcs
    simp
  · simp [Value.cells] at hcs
    obtain ⟨rfl, rfl, rfl⟩ := hcs
    obtain ⟨hx, _⟩ := Prod.mk.inj hx
    subst hx
    have z := sized_slice hsz ht hd hu
    rw [hB] at z
    refine Nat.le_trans (Nat.mul_le_mul_right _ ?_) z
    simp
theorem slice_at {α : Type} {P : Program} {W : World} {t e : TypeId} {d : Kd α} {wf : List α → Prop} {H : Type} {enc : TypeId × Value → H} {a : Option Addr} {len cap : Nat} {dd : DataW H} {ps : List MemPlace} (ho : Opens P t (Kd.slice e d) wf)
    (h : DataW.Trod enc P W 0 (fun _ => true) true t (.slice a len cap) dd ps) : ∃ l : List α, len = l.length ∧ l.length ≤ cap ∧ d.C W a l.length l ∧ wf l := by
  obtain ⟨fuel, hf⟩ := h
  obtain ⟨l, ⟨A, c, hcs, hl, hC⟩, hw⟩ := ho hf
  simp [Value.cells] at hcs
  obtain ⟨rfl, rfl, rfl⟩ := hcs
  exact ⟨l, rfl, hl, hC, hw⟩
section
variable {P : Program} {t : TypeId} {W : World} {H : Type} {enc : TypeId × Value → H} {r : Reach} {b0 : Nat} {v : Value} {d : DataW H} {p : List MemPlace}
end
end Go.Proofs.Ythekngnkajjhnaa.Open
namespace Go.Proofs.Ythekngnkajjhnaa.P
open Go.RowKit Go.Proofs.YthekngnkajjhnaaW.PrintWords Go.Proofs.YthekngnkajjhnaaW.PrintLast Go.Proofs.YthekngnkajjhnaaW.PrintMore
attribute [local go_sem] max2_int min2_int max_two min_two max_three min_three max_four min_four
set_option linter.unusedVariables false
set_option linter.unusedSimpArgs false
open Go.Proofs.Ythekngnkajjhnaa.Open
theorem opens162 : Opens Try.prog 162 k162 (fun x : S162 => (Lit.int .i64 x.f0).wf = true ∧ (Lit.int .i64 x.f1).wf = true ∧ (Lit.int .i64 x.f2).wf = true ∧ (Lit.int .i64 x.f3).wf = true) :=
  opens_iso (opens4 Try.underlying162 (by kernel_rfl) (by kernel_rfl) (opens_int Try.underlying3) (opens_int Try.underlying3) (opens_int Try.underlying3) (opens_int Try.underlying3)) (fun x : S162 => (x.f0, x.f1, x.f2, x.f3)) (fun y => (⟨y.1, y.2.1, y.2.2.1, y.2.2.2⟩ : S162)) (fun _ => rfl)
end Go.Proofs.Ythekngnkajjhnaa.P
namespace Go.Proofs.Ythekngnkajjhnaa.Pure
set_option linter.unusedVariables false
set_option linter.unusedSimpArgs false
open Go.RowKit Go.Proofs.YthekngnkajjhnaaW.PrintWords Go.Proofs.YthekngnkajjhnaaW.PrintLast Go.Proofs.YthekngnkajjhnaaW.PrintMore
theorem w64 {x : Int} (h0 : -9223372036854775808 ≤ x) (h1 : x ≤ 9223372036854775807) : wrap64 x = x := by
  unfold wrap64
  omega
theorem rd_nat (xs : List Int) (i : Nat) : rd xs (i : Int) = xs.getD i 0 := by simp [rd]
section
variable {α β : Type} {f g : Nat → Option α} {r : α}
theorem ev_some (r : α) : Ev (fun _ => some r) r := ⟨0, fun _ _ => rfl⟩
theorem ev_ifp {c : Prop} [Decidable c] (h : c) (k : Ev f r) : Ev (fun n => if c then f n else g n) r := Ev.congr (fun _ => if_pos h) k
theorem ev_ifn {c : Prop} [Decidable c] (h : ¬ c) (k : Ev g r) : Ev (fun n => if c then f n else g n) r := Ev.congr (fun _ => if_neg h) k
theorem ev_bind {F : Nat → α → Option β} {q : β} (h : Ev g r) (k : Ev (fun n => F n r) q) : Ev (fun n => (g n).bind (fun x => F n x)) q := by
  obtain ⟨K1, h1⟩ := h
  obtain ⟨K2, h2⟩ := k
  exact ⟨K1 + K2, fun n hn => by show (g n).bind (fun x => F n x) = some q; rw [h1 n (by omega)]; exact h2 n (by omega)⟩
theorem ev_const {a : Option α} (h : a = some r) : Ev (fun _ => a) r := ⟨0, fun _ _ => h⟩
theorem ev_step (h : ∀ k, g (k + 1) = f k) (k : Ev f r) : Ev g r := by
  obtain ⟨K, h1⟩ := k
  refine ⟨K + 1, fun n hn => ?_⟩
  obtain ⟨m, rfl⟩ : ∃ m, n = m + 1 := ⟨n - 1, by omega⟩
  rw [h m]
  exact h1 m (by omega)
end
def iter {σ : Type} (g : Nat → σ → σ) : Nat → Nat → σ → σ
  | _, 0, s => s
  | i, d + 1, s => iter g (i + 1) d (g i s)
theorem loop_ev {σ ρ : Type} (F : Nat → σ → Nat → Option ρ) (n : Nat) (g : Nat → σ → σ) (fin : σ → ρ) (I : Nat → σ → Prop)
    (hs : ∀ i s r, I i s → i < n → Ev (fun k => F k (g i s) (i + 1)) r → Ev (fun k => F k s i) r) (hI : ∀ i s, I i s → i < n → I (i + 1) (g i s))
    (he : ∀ s, I n s → Ev (fun k => F k s n) (fin s)) : ∀ i s, i ≤ n → I i s → Ev (fun k => F k s i) (fin (iter g i (n - i) s)) := by
  have key : ∀ d i s, n - i = d → i ≤ n → I i s → Ev (fun k => F k s i) (fin (iter g i d s)) := by
    intro d
    induction d with
    | zero =>
      intro i s h0 h1 h2
      obtain rfl : i = n := by omega
      exact he s h2
    | succ d ih =>
      intro i s h0 h1 h2
      exact hs i s _ h2 (by omega) (ih (i + 1) (g i s) (by omega) (by omega) (hI i s h2 (by omega)))
  exact fun i s h1 h2 => key (n - i) i s rfl h1 h2
theorem iter_inv {σ : Type} (g : Nat → σ → σ) (I : Nat → σ → Prop) (n : Nat) (hI : ∀ i s, I i s → i < n → I (i + 1) (g i s)) : ∀ d i s, i + d = n → I i s → I n (iter g i d s) := by
  intro d
  induction d with
  | zero => intro i s h0 h1; obtain rfl : i = n := by omega
            exact h1
  | succ d ih => intro i s h0 h1; exact ih (i + 1) _ (by omega) (hI i s h1 (by omega))
def rall (p : Nat → Bool) : Nat → Nat → Bool
  | _, 0 => true
  | i, d + 1 => p i && rall p (i + 1) d
theorem rall_iff (p : Nat → Bool) : ∀ d i, rall p i d = true ↔ ∀ j, i ≤ j → j < i + d → p j = true
  | 0, i => ⟨fun _ j h1 h2 => by omega, fun _ => rfl⟩
  | d + 1, i => by
    show (p i && rall p (i + 1) d) = true ↔ _
    rw [Bool.and_eq_true, rall_iff p d (i + 1)]
    constructor
    · rintro ⟨h0, h1⟩ j h2 h3
      by_cases e : j = i
      · rw [e]; exact h0
      · exact h1 j (by omega) (by omega)
    · intro h
      exact ⟨h i (Nat.le_refl _) (by omega), fun j h2 h3 => h j (by omega) (by omega)⟩
theorem rall_congr {p q : Nat → Bool} : ∀ d i, (∀ j, i ≤ j → j < i + d → p j = q j) → rall p i d = rall q i d
  | 0, _, _ => rfl
  | d + 1, i, h => by
    show (p i && rall p (i + 1) d) = (q i && rall q (i + 1) d)
    rw [h i (Nat.le_refl _) (by omega), rall_congr d (i + 1) (fun j h1 h2 => h j (by omega) (by omega))]
theorem all_ev {ρ : Type} (F : Nat → Nat → Option ρ) (n : Nat) (p : Nat → Bool) (no yes : ρ) (hs : ∀ i r, i < n → p i = true → Ev (fun k => F k (i + 1)) r → Ev (fun k => F k i) r)
    (hn : ∀ i, i < n → p i = false → Ev (fun k => F k i) no) (he : Ev (fun k => F k n) yes) :
    ∀ i, i ≤ n → Ev (fun k => F k i) (if rall p i (n - i) = true then yes else no) := by
  have key : ∀ d i, n - i = d → i ≤ n → Ev (fun k => F k i) (if rall p i d = true then yes else no) := by
    intro d
    induction d with
    | zero =>
      intro i h0 h1
      obtain rfl : i = n := by omega
      rw [show rall p i 0 = true from rfl, if_pos rfl]
      exact he
    | succ d ih =>
      intro i h0 h1
      have h := ih (i + 1) (by omega) (by omega)
      have e : rall p i (d + 1) = (p i && rall p (i + 1) d) := rfl
      cases hp : p i with
      | true =>
        rw [e, hp, Bool.true_and]
        exact hs i _ (by omega) hp h
      | false =>
        rw [e, hp, Bool.false_and, if_neg (by simp)]
        exact hn i (by omega) hp
  exact fun i h1 => key (n - i) i rfl h1
theorem allb_ev (F : Nat → Nat → Option Bool) (n : Nat) (p : Nat → Bool) (hs : ∀ i r, i < n → p i = true → Ev (fun k => F k (i + 1)) r → Ev (fun k => F k i) r)
    (hn : ∀ i, i < n → p i = false → Ev (fun k => F k i) false) (he : Ev (fun k => F k n) true) : Ev (fun k => F k 0) (rall p 0 n) := by
  have h := all_ev F n p false true hs hn he 0 (Nat.zero_le _)
  rw [Nat.sub_zero] at h
  cases e : rall p 0 n <;> simpa [e] using h
theorem getD_eq_get {α : Type} {xs : List α} {i : Nat} (z : α) (h : i < xs.length) : xs.getD i z = xs[i] := by simp [List.getD, List.getElem?_eq_getElem h]
theorem rall_list {α : Type} (xs : List α) (z : α) (p : α → Bool) : rall (fun j => p (xs.getD j z)) 0 xs.length = xs.all p := by
  rw [Bool.eq_iff_iff, rall_iff, List.all_eq_true]
  constructor
  · intro h x hx
    obtain ⟨i, hi, rfl⟩ := List.getElem_of_mem hx
    rw [← getD_eq_get z hi]
    exact h i (Nat.zero_le _) (by omega)
  · intro h j _ hj
    rw [getD_eq_get z (by omega)]
    exact h _ (List.getElem_mem (by omega))
theorem eq_index {α : Type} {xs ys : List α} (z : α) (h : xs.length = ys.length) (hh : ∀ j, j < xs.length → xs.getD j z = ys.getD j z) : xs = ys := by
  refine List.ext_getElem h (fun i h1 h2 => ?_)
  rw [← getD_eq_get z h1, ← getD_eq_get z h2]
  exact hh i h1
theorem rall_eq {α : Type} [DecidableEq α] {xs ys : List α} (z : α) (h : xs.length = ys.length) : rall (fun j => decide (xs.getD j z = ys.getD j z)) 0 xs.length = decide (xs = ys) := by
  rw [Bool.eq_iff_iff, rall_iff, decide_eq_true_eq]
  constructor
  · exact fun hh => eq_index z h (fun j hj => by simpa using hh j (Nat.zero_le _) (by omega))
  · rintro rfl j _ _
    simp
theorem copy_ev {α β : Type} (F : Nat → List β → Nat → Option (List β)) (xs : List α) (c : α → β) (z : α) (zb : β)
    (hs : ∀ i ys r, ys.length = xs.length → i < xs.length → Ev (fun k => F k (ys.set i (c (xs.getD i z))) (i + 1)) r → Ev (fun k => F k ys i) r)
    (he : ∀ ys, ys.length = xs.length → Ev (fun k => F k ys xs.length) ys) (ys0 : List β) (h0 : ys0.length = xs.length) : Ev (fun k => F k ys0 0) (xs.map c) := by
  have inv : ∀ i (s : List β), (s.length = xs.length ∧ ∀ j, j < i → s.getD j zb = (xs.map c).getD j zb) → i < xs.length → ((s.set i (c (xs.getD i z))).length = xs.length ∧ ∀ j, j < i + 1 → (s.set i (c (xs.getD i z))).getD j zb = (xs.map c).getD j zb) := by
    intro i s hI hi
    refine ⟨by simp [hI.1], fun j hj => ?_⟩
    by_cases e : j = i
    · subst e
      have := hI.1
      simp [List.getD, List.getElem?_set_self (show j < s.length by omega), List.getElem?_eq_getElem hi]
    · rw [← hI.2 j (by omega)]
      simp [List.getD, List.getElem?_set_ne (Ne.symm e)]
  have h := loop_ev F xs.length (fun i ys => ys.set i (c (xs.getD i z))) (fun ys => ys) (fun i s => s.length = xs.length ∧ ∀ j, j < i → s.getD j zb = (xs.map c).getD j zb)
    (fun i ys r hI hi h => hs i ys r hI.1 hi h) inv (fun ys hI => he ys hI.1) 0 ys0 (Nat.zero_le _) ⟨h0, fun j hj => by omega⟩
  have hi := iter_inv (fun i (ys : List β) => ys.set i (c (xs.getD i z))) (fun i s => s.length = xs.length ∧ ∀ j, j < i → s.getD j zb = (xs.map c).getD j zb) xs.length inv (xs.length - 0) 0 ys0 (by omega) ⟨h0, fun j hj => by omega⟩
  rw [eq_index zb (by rw [hi.1, List.length_map]) (fun j hj => hi.2 j (by have := hi.1; omega))] at h
  exact h
def fidx (p : Nat → Bool) : Nat → Nat → Int
  | _, 0 => -1
  | i, d + 1 => if p i = true then (i : Int) else fidx p (i + 1) d
theorem fidx_nonneg (p : Nat → Bool) : ∀ d i, decide (fidx p i d ≥ 0) = !rall (fun j => !p j) i d
  | 0, i => rfl
  | d + 1, i => by
    have h := fidx_nonneg p d (i + 1)
    show decide ((if p i = true then (i : Int) else fidx p (i + 1) d) ≥ 0) = !((!p i) && rall (fun j => !p j) (i + 1) d)
    cases e : p i with
    | true => simp
    | false => simpa using h
theorem find_ev (F : Nat → Nat → Option Int) (n : Nat) (p : Nat → Bool) (hs : ∀ i r, i < n → p i = false → Ev (fun k => F k (i + 1)) r → Ev (fun k => F k i) r) (hx : ∀ i, i < n → p i = true → Ev (fun k => F k i) (i : Int))
    (he : Ev (fun k => F k n) (-1)) : Ev (fun k => F k 0) (fidx p 0 n) := by
  have key : ∀ d i, n - i = d → i ≤ n → Ev (fun k => F k i) (fidx p i d) := by
    intro d
    induction d with
    | zero =>
      intro i h0 h1
      obtain rfl : i = n := by omega
      exact he
    | succ d ih =>
      intro i h0 h1
      show Ev (fun k => F k i) (if p i = true then (i : Int) else fidx p (i + 1) d)
      cases e : p i with
      | true => rw [if_pos rfl]; exact hx i (by omega) e
      | false => rw [if_neg (by simp)]; exact hs i _ (by omega) e (ih (i + 1) (by omega) (by omega))
  exact key n 0 (by omega) (Nat.zero_le _)
end Go.Proofs.Ythekngnkajjhnaa.Pure
namespace Go.Proofs.Ythekngnkajjhnaa.Pure
set_option linter.unusedVariables false
set_option linter.unusedSimpArgs false
open Go.RowKit Go.Proofs.Ythekngnkajjhnaa.P Go.Proofs.YthekngnkajjhnaaW.PrintWords Go.Proofs.YthekngnkajjhnaaW.PrintLast
def inb (x a b : Int) : Bool := decide (a ≤ x) && decide (x ≤ b)
theorem inb_iff {x a b : Int} : inb x a b = true ↔ a ≤ x ∧ x ≤ b := by simp [inb]
theorem l1In_is (x a b : Int) : spec_l1In.f x a b = some (inb x a b) := by
  unfold spec_l1In.f inb
  split
  · rename_i h; simp [show a ≤ x from h]
  · rename_i h; simp [show ¬ a ≤ x from h]
theorem within_is (x a b : Int) : impl_within.f x a b = some (inb x a b) := l1In_is x a b
abbrev SS := S160
def stormOk (s : SS) : Bool := inb s.f0 0 7 && (inb s.f1 0 7 && (inb s.f2 1 64 && inb s.f3 (-9000) 9000))
theorem l12Good_is (s : SS) : spec_l12Good.f s.f0 s.f1 s.f2 s.f3 = some (stormOk s) := by
  unfold spec_l12Good.f stormOk
  simp only [l1In_is, Option.bind_some]
  cases inb s.f0 0 7 <;> cases inb s.f1 0 7 <;> cases inb s.f2 1 64 <;> simp
theorem areStorms1_is (s : SS) : impl_areStorms_1.f s.f0 s.f1 s.f2 s.f3 = some (!stormOk s) := by
  unfold impl_areStorms_1.f stormOk
  simp only [within_is, Option.bind_some]
  cases inb s.f0 0 7 <;> cases inb s.f1 0 7 <;> cases inb s.f2 1 64 <;> simp
theorem rdst (xs : List SS) (i : Nat) : rd_T160 xs (i : Int) = xs.getD i z160 := by simp [rd_T160]
def stormsOk (l : List SS) : Bool := decide (l.length ≤ 5) && l.all stormOk
theorem areStorms_ev (l : List SS) : Ev (fun k => impl_areStorms.f k l) (stormsOk l) := by
  unfold impl_areStorms.f stormsOk
  by_cases hl : l.length ≤ 5
  · have h := find_ev (fun k i => slices_IndexFunc_Storm_at_impl_areStorms_1.l0 k l (l.length : Int) (i : Int)) l.length (fun i => !stormOk (l.getD i z160))
      (fun i r hi hp h => ev_step (fun k => by
        simp only [slices_IndexFunc_Storm_at_impl_areStorms_1.l0, rdst, areStorms1_is, Option.bind_some]
        rw [if_pos (by omega), if_pos (by omega), if_pos (by omega), if_neg (by rw [hp]; decide), w64 (by omega) (by omega)]
        rfl) h)
      (fun i hi hp => ev_step (f := fun _ => some (i : Int)) (fun k => by
        simp only [slices_IndexFunc_Storm_at_impl_areStorms_1.l0, rdst, areStorms1_is, Option.bind_some]
        rw [if_pos (by omega), if_pos (by omega), if_pos (by omega), if_pos hp]) (ev_some _))
      (ev_step (f := fun _ => some (-1)) (fun k => by
        simp only [slices_IndexFunc_Storm_at_impl_areStorms_1.l0]
        rw [if_neg (by omega)]) (ev_some _))
    have e : (decide (l.length ≤ 5) && l.all stormOk) = !decide (fidx (fun i => !stormOk (l.getD i z160)) 0 l.length ≥ 0) := by
      rw [fidx_nonneg, Bool.not_not, decide_eq_true hl, Bool.true_and, ← rall_list l z160 stormOk]
      simp only [Bool.not_not]
    rw [e]
    refine ev_ifp (by omega) (ev_bind (r := decide (fidx (fun i => !stormOk (l.getD i z160)) 0 l.length ≥ 0)) ?_ (ev_some _))
    exact ev_bind h (ev_some _)
  · rw [decide_eq_false hl, Bool.false_and]
    exact ev_ifn (by omega) (ev_some _)
theorem mem_rall (l : List Int) (x : Int) : decide (x ∈ l) = !rall (fun i => decide (l.getD i 0 ≠ x)) 0 l.length := by
  rw [rall_list l 0 (fun y => decide (y ≠ x))]
  rw [Bool.eq_iff_iff, decide_eq_true_eq, Bool.not_eq_true', ← Bool.not_eq_true, List.all_eq_true]
  constructor
  · intro h hh
    have := hh x h
    simp at this
  · intro h
    rw [Classical.not_forall] at h
    obtain ⟨y, hy⟩ := h
    rw [Classical.not_imp] at hy
    obtain ⟨h1, h2⟩ := hy
    simp at h2
    rw [← h2]
    exact h1
theorem l1Has_ev (l : List Int) (x : Int) (hl : l.length ≤ 9223372036854775806) : Ev (fun k => spec_l1Has.f k l x) (decide (x ∈ l)) := by
  rw [mem_rall]
  have h := all_ev (fun k i => spec_l1Has.l0 k l x (i : Int)) l.length (fun i => decide (l.getD i 0 ≠ x)) true false
    (fun i r hi hp h => ev_step (fun k => by
      simp only [spec_l1Has.l0, rd_nat]
      rw [if_pos (by omega), if_pos (by omega), if_neg (by simpa using hp), w64 (by omega) (by omega)]
      rfl) h)
    (fun i hi hp => ev_step (f := fun _ => some true) (fun k => by
      simp only [spec_l1Has.l0, rd_nat]
      rw [if_pos (by omega), if_pos (by omega), if_pos (by simpa using hp)]) (ev_some _))
    (ev_step (f := fun _ => some false) (fun k => by
      simp only [spec_l1Has.l0]
      rw [if_neg (by omega)]) (ev_some _)) 0 (Nat.zero_le _)
  rw [Nat.sub_zero] at h
  cases e : rall (fun i => decide (l.getD i 0 ≠ x)) 0 l.length with
  | true => rw [e] at h; exact h
  | false => rw [e] at h; exact h
theorem contains_is (l : List Int) (x : Int) (hl : l.length ≤ 9223372036854775806) : Ev (fun k => slices_Contains_int_int.f k l x) (decide (x ∈ l)) := by
  have h := find_ev (fun k i => slices_Index_int_int.l0 k l x (l.length : Int) (i : Int)) l.length (fun i => decide (l.getD i 0 = x))
    (fun i r hi hp h => ev_step (fun k => by
      simp only [slices_Index_int_int.l0, rd_nat]
      rw [if_pos (by omega), if_pos (by omega), if_pos (by omega), if_neg (by intro e; rw [← e] at hp; simp at hp), w64 (by omega) (by omega)]
      rfl) h)
    (fun i hi hp => ev_step (f := fun _ => some (i : Int)) (fun k => by
      simp only [slices_Index_int_int.l0, rd_nat]
      rw [if_pos (by omega), if_pos (by omega), if_pos (by omega), if_pos (by have := of_decide_eq_true hp; exact this.symm)]) (ev_some _))
    (ev_step (f := fun _ => some (-1)) (fun k => by
      simp only [slices_Index_int_int.l0]
      rw [if_neg (by omega)]) (ev_some _))
  have e : decide (x ∈ l) = decide (fidx (fun i => decide (l.getD i 0 = x)) 0 l.length ≥ 0) := by
    rw [fidx_nonneg, mem_rall]
    congr 1
    exact rall_congr _ _ (fun j _ _ => by simp)
  rw [e]
  exact ev_bind h (ev_some _)
theorem allWithin_ev (l : List Int) (a b : Int) (hl : l.length ≤ 9223372036854775806) : Ev (fun k => impl_allWithin.f k l a b) (rall (fun i => inb (l.getD i 0) a b) 0 l.length) :=
  allb_ev (fun k i => impl_allWithin.l0 k a b l (l.length : Int) (i : Int)) l.length (fun i => inb (l.getD i 0) a b)
    (fun i r hi hp h => ev_step (fun k => by
      simp only [impl_allWithin.l0, within_is, Option.bind_some, rd_nat]
      rw [if_pos (by omega), if_pos (by omega), if_pos (by omega), if_pos hp, w64 (by omega) (by omega)]
      rfl) h)
    (fun i hi hp => ev_step (f := fun _ => some false) (fun k => by
      simp only [impl_allWithin.l0, within_is, Option.bind_some, rd_nat]
      rw [if_pos (by omega), if_pos (by omega), if_pos (by omega), if_neg (by rw [hp]; decide)]) (ev_some _))
    (ev_step (f := fun _ => some true) (fun k => by
      simp only [impl_allWithin.l0]
      rw [if_neg (by omega)]) (ev_some _))
theorem rall_and (p q : Nat → Bool) : ∀ d i, rall (fun j => p j && q j) i d = (rall p i d && rall q i d)
  | 0, i => rfl
  | d + 1, i => by
    show ((p i && q i) && rall (fun j => p j && q j) (i + 1) d) = ((p i && rall p (i + 1) d) && (q i && rall q (i + 1) d))
    rw [rall_and p q d (i + 1)]
    cases p i <;> cases q i <;> cases rall p (i + 1) d <;> rfl
end Go.Proofs.Ythekngnkajjhnaa.Pure
