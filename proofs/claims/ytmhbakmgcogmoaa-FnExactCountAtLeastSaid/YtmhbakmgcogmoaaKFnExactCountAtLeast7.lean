/- Texts of the claim FnExactCountAtLeast, merged: part 7 of 8: the program's and the reference's functions as Lean functions, the walks that show it, and plain lemmas; no conditions. -/
import Derived.Test.YtmhbakmgcogmoaaKFnExactCountAtLeast1
import Derived.Test.YtmhbakmgcogmoaaKFnExactCountAtLeast6
import Derived.Test.YtmhbakmgcogmoaaKFnExactCountAtLeast4
namespace Go.Proofs.Ytmhbakmgcogmoaa.P
open Go.RowKit Go.Proofs.YtmhbakmgcogmoaaW.PrintWords Go.Proofs.YtmhbakmgcogmoaaW.PrintLast Go.Proofs.YtmhbakmgcogmoaaW.PrintMore
attribute [local go_sem] max2_int min2_int max_two min_two max_three min_three max_four min_four   -- for this text's walks alone
set_option linter.unusedVariables false
set_option linter.unusedSimpArgs false

/-! ### laws_markFieldS: function 23 -/
def laws_markFieldS.l0 : Nat → List S24 → Int → Int → Option (Int × List S24)
  | 0, _, _, _ => none
  | k + 1, x0, x1, x5 => if x5 < (x0.length : Int) then (if 0 ≤ x5 then ((laws_markIntS.f k (rd_T24 x0 x5).f2 (wrap64 ((wrap64 (x1 + 1)) + 1))).bind fun bt => laws_markFieldS.l0 k (x0.set x5.toNat ⟨x1, wrap64 (x1 + 1), bt.2⟩) bt.1 (wrap64 (x5 + 1))) else none) else some (x1, x0)
def laws_markFieldS.f (k : Nat) (l0 : List S24) (a1 : Int) : Option (Int × List S24) := laws_markFieldS.l0 k l0 a1 0
/-- An element's first number, written. -/
theorem markFieldS_put0 {W : World} {base g n cap : Nat} {ok : Nat → Prop} {xs : List S24} (h : Kd.S k24 24 W base ok (.slice (some ⟨g, 0, none⟩) n cap) xs) (i : Int) (h0 : 0 ≤ i) (h1 : i < n) (a : Int) :
    Kd.S k24 24 (W.setCell ⟨g, i.toNat * 3, none⟩ (.int .i64 a)) base ok (.slice (some ⟨g, 0, none⟩) n cap) (xs.set i.toNat ⟨a, (rd_T24 xs i).f1, (rd_T24 xs i).f2⟩) ∧ W.grownBy (W.setCell ⟨g, i.toNat * 3, none⟩ (.int .i64 a)) (some g) ∧
      (∃ u, W.cell? ⟨g, i.toNat * 3, none⟩ = some (.int .i64 u)) ∧ W.frozen? ⟨g, i.toNat * 3, none⟩ = false := by
  obtain ⟨oki, c, hcl, hM, hcc, hfr, hoki, hH⟩ := Kd.S_elem h z24 i h0 h1
  obtain ⟨v2, rfl, hR⟩ := k24_openM hM
  obtain ⟨h2, h3⟩ := Kd.H_seg hH h0 h1 (seg := [.int .i64 a]) (j := 0) (show 0 + 1 ≤ 3 from by decide) (fun q hq => by rw [List.mem_singleton.1 hq]; rfl)
  exact ⟨Kd.H_back h2 (Kd.M_step (k24_mkM W base oki ⟨a, (rd_T24 xs i).f1, (rd_T24 xs i).f2⟩ hR) (fun k hk hlt => h3.block k hlt (fun he => (hoki k hk).2 (by injection he)))) (fun _ hk => hk), h3, ⟨_, hcc 0 _ rfl⟩, hfr 0⟩
/-- Its second number. -/
theorem markFieldS_put1 {W : World} {base g n cap : Nat} {ok : Nat → Prop} {xs : List S24} (h : Kd.S k24 24 W base ok (.slice (some ⟨g, 0, none⟩) n cap) xs) (i : Int) (h0 : 0 ≤ i) (h1 : i < n) (a : Int) :
    Kd.S k24 24 (W.setCell ⟨g, i.toNat * 3 + 1, none⟩ (.int .i64 a)) base ok (.slice (some ⟨g, 0, none⟩) n cap) (xs.set i.toNat ⟨(rd_T24 xs i).f0, a, (rd_T24 xs i).f2⟩) ∧ W.grownBy (W.setCell ⟨g, i.toNat * 3 + 1, none⟩ (.int .i64 a)) (some g) ∧
      (∃ u, W.cell? ⟨g, i.toNat * 3 + 1, none⟩ = some (.int .i64 u)) ∧ W.frozen? ⟨g, i.toNat * 3 + 1, none⟩ = false := by
  obtain ⟨oki, c, hcl, hM, hcc, hfr, hoki, hH⟩ := Kd.S_elem h z24 i h0 h1
  obtain ⟨v2, rfl, hR⟩ := k24_openM hM
  obtain ⟨h2, h3⟩ := Kd.H_seg hH h0 h1 (seg := [.int .i64 a]) (j := 1) (show 1 + 1 ≤ 3 from by decide) (fun q hq => by rw [List.mem_singleton.1 hq]; rfl)
  exact ⟨Kd.H_back h2 (Kd.M_step (k24_mkM W base oki ⟨(rd_T24 xs i).f0, a, (rd_T24 xs i).f2⟩ hR) (fun k hk hlt => h3.block k hlt (fun he => (hoki k hk).2 (by injection he)))) (fun _ hk => hk), h3, ⟨_, hcc 1 _ rfl⟩, hfr 1⟩
/-- Its inner row, lent and put back. -/
theorem markFieldS_lend {W : World} {base g n cap : Nat} {ok : Nat → Prop} {xs : List S24} (h : Kd.S k24 24 W base ok (.slice (some ⟨g, 0, none⟩) n cap) xs) (i : Int) (h0 : 0 ≤ i) (h1 : i < n) (hw : ∀ k, W.heap.size ≤ k → ok k) :
    ∃ (oki : Nat → Prop) (A : Option Addr) (c : Nat), W.cell? ⟨g, i.toNat * 3 + 2, none⟩ = some (.slice A (rd_T24 xs i).f2.length c) ∧ (Kd.int .i64).R 3 W base oki (.slice A (rd_T24 xs i).f2.length c) (rd_T24 xs i).f2 ∧ (∀ k, oki k → ok k) ∧
      ∀ (W' : World) (l' : List Int), Kept W W' oki → (Kd.int .i64).R 3 W' base (fun k => oki k ∨ W.heap.size ≤ k) (.slice A (rd_T24 xs i).f2.length c) l' →
        Kd.S k24 24 W' base ok (.slice (some ⟨g, 0, none⟩) n cap) (xs.set i.toNat ⟨(rd_T24 xs i).f0, (rd_T24 xs i).f1, l'⟩) := by
  obtain ⟨oki, c, hcl, hM, hcc, hoki, hH⟩ := Kd.S_lend h z24 i h0 h1
  obtain ⟨v2, rfl, hR⟩ := k24_openM hM
  obtain ⟨A, cc, rfl⟩ := Kd.R_slice hR
  refine ⟨oki, A, cc, hcc 2 _ rfl, hR, fun k hk => (hoki k hk).1, fun W' l' hk hR' => ?_⟩
  exact Kd.H_back (Kd.H_kept (Kd.H_widen hH) hk (fun k _ hn hs => hn (.inl hs))) (k24_mkM W' base _ ⟨(rd_T24 xs i).f0, (rd_T24 xs i).f1, l'⟩ hR') (fun k hk => hk.elim .inl (fun hle => .inr ⟨hw k hle, hle⟩))
theorem markFieldS_rd {xs : List S24} {i : Int} (h0 : 0 ≤ i) (h1 : i < xs.length) (x : S24) : rd_T24 (xs.set i.toNat x) i = x := by
  unfold rd_T24
  rw [List.getD_eq_getElem?_getD, List.getElem?_set_self (by omega)]
  rfl

set_option maxHeartbeats 8000000 in
set_option maxRecDepth 100000 in
theorem laws_markFieldS.calls (k : Nat) (P0_ : Nat → Prop) (u9000_ : Value) (l0 : List S24) (a1 : Int) (r1 : Int) (r2 : List S24) (w0 w : World) (hB : Below w0.heap.size w0 w) (ho0 : Kd.S k24 24 w w0.heap.size P0_ u9000_ l0) (h : laws_markFieldS.f k l0 a1 = some (r1, r2)) :
  Calls Try.prog 23 #[u9000_, .int .i64 a1] w fun e w' => e = .returned (.int .i64 r1) ∧ Kd.S k24 24 w' w0.heap.size (fun k_ => (P0_ k_ ∨ w.heap.size ≤ k_)) u9000_ r2 ∧ Below w0.heap.size w0 w' ∧ Kept w w' (fun k_ => P0_ k_) := by
 have HO0 := aK (show Kd.S k24 24 w w0.heap.size (fun k_ => (P0_ k_ ∨ w.heap.size ≤ k_)) u9000_ l0 from Kd.S_mono ho0 (fun k_ hk => (.inl hk)))
 have HK := aK (Kept.refl w (fun k_ => P0_ k_))
 have HW0 := Aside0.mk hB.size
 have HB := Aside0.mk hB
 clear hB
 have H : (laws_markFieldS.l0 k l0 a1 0) = some (r1, r2) := h
 clear h
 have H' := Aside0.mk H
 clear H
 go_enter Try.func23, Try.ntmps23
 go_wp2
 go_loopg [1, 5] k (fun kq v1 v5 w' => ∃ (x0_1 : List S24) (x1_1 : Int) (x5_1 : Int), v1 = .int .i64 x1_1 ∧ v5 = .int .i64 x5_1 ∧ Aside0 (laws_markFieldS.l0 kq x0_1 x1_1 x5_1 = some (r1, r2)) ∧ Aside0 (kq ≤ k) ∧ Aside0 (Kd.S k24 24 w' w0.heap.size (fun k_ => (P0_ k_ ∨ w.heap.size ≤ k_)) u9000_ x0_1) ∧ Aside0 (Kept w w' (fun k_ => P0_ k_)) ∧ Aside0 (Below w0.heap.size w0 w'))
 case atStart => exact ⟨(l0), (a1), (0), (by first | rfl | (simp; done) | (simp [*]; done)), (by first | rfl | (simp; done) | (simp [*]; done)), H', ⟨Nat.le_refl _⟩, ⟨by (with_reducible repeat (first | apply Kd.S_alloc | apply Kd.S_drewN | apply Kd.S_drew)); exact HO0.out⟩, ⟨by repeat (first | (with_reducible first | exact HK.out | apply Kept.alloc | apply Kept.drewN | apply Kept.drew) | exact HK.out)⟩, ⟨by repeat (first | (with_reducible first | exact HB.out | apply below_alloc | apply pw_below_drewN | apply below_drew1) | exact HB.out)⟩⟩
 case round =>
  clear H'
  try clear c1
  try clear p2
  obtain ⟨x0_1, x1_1, x5_1, rfl, rfl, HA, HK1, HO_0, HK, HB⟩ := hrel
  cases gk with
  | zero => exact absurd HA.out (by simp [laws_markFieldS.l0])
  | succ k1 =>
   have H := HA.out
   clear HA
   simp only [laws_markFieldS.l0] at H
   by_cases c3 : x5_1 < (x0_1.length : Int)
   ·
    rw [if_pos c3] at H
    have c3b0 : decide (x5_1 < (x0_1.length : Int)) = true := decide_eq_true c3
    clear c3
    by_cases c4 : 0 ≤ x5_1
    ·
     rw [if_pos c4] at H
     have c4b0 : decide (0 ≤ x5_1) = true := decide_eq_true c4
     clear c4
     replace H := Option.bind_eq_some_iff.mp H
     obtain ⟨⟨t102, t103⟩, A30, H⟩ := H
     replace H : laws_markFieldS.l0 k1 (x0_1.set x5_1.toNat ⟨x1_1, wrap64 (x1_1 + 1), t103⟩) t102 (wrap64 (x5_1 + 1)) = some (r1, r2) := H
     have A3 := Aside0.mk A30
     clear A30
     have H' := Aside0.mk H
     clear H
     obtain ⟨Ao6, co6, eo6⟩ := Kd.R_slice (Kd.S_R HO_0.out)
     subst eo6
     have p5 : 0 ≤ (x5_1 : Int) := of_decide_eq_true (by first | (with_reducible assumption) | assumption)
     have q5 : (x5_1 : Int) < ((x0_1.length : Int) : Int) := of_decide_eq_true (by first | (with_reducible assumption) | assumption)
     obtain ⟨go5, co5, eo5, gb5, gl5, cl5, HG5⟩ := Kd.R_form (Kd.S_R HO_0.out) (by omega)
     (first | cases eo5 | (injection eo5 with ea_ en_ ec_; (first | subst ea_ | (injection ea_ with ea_; subst ea_)); subst ec_; clear en_))
     have GB5 := Aside0.mk gb5
     clear gb5 gl5 HG5
     have HMgo5 := aK (show (P0_ go5 ∨ w.heap.size ≤ go5) from ((Kd.S_R HO_0.out).1 _ rfl))
     have HP7 := markFieldS_put0 HO_0.out x5_1 p5 q5 x1_1
     obtain ⟨ux0, hx0⟩ := HP7.2.2.1
     have hf0 := HP7.2.2.2
     have P5 := Aside0.mk p5
     have Q5 := Aside0.mk q5
     replace p5 := eq_true p5
     replace q5 := eq_true q5
     go_wp2_with (first | ((with_reducible refine gate_store (t := 3) (p := 16) rfl ?_); refine store_event (t := 3) (p := 16) (v := ?vo_w8) (w1 := (wr.setCell ⟨go5, (x5_1 : Int).toNat * 3, none⟩ (.int .i64 x1_1))) ?hg ?ho ?hn ?hr ?_; (case ho => rfl); (case hg => rfl); (case hn => rfl); (case hr => first | (go_simp; done) | (go_simp; rfl)); intro w8 hw; have hg : wr.grownBy w8 (some go5) := (by rw [hw]; exact HP7.2.1); have n0_ := aK (show Kd.S k24 24 w8 w0.heap.size (fun k_ => (P0_ k_ ∨ w.heap.size ≤ k_)) (.slice (some ⟨go5, 0, none⟩) x0_1.length co6) (x0_1.set x5_1.toNat ⟨x1_1, (rd_T24 x0_1 x5_1).f1, (rd_T24 x0_1 x5_1).f2⟩) from (by rw [hw]; exact HP7.1)); have n1_ := aK ((by rw [hw]; exact below_set (HB.out) GB5.out : Below w0.heap.size w0 w8)); have n2_ := aK (Kept.of_grown (S := (fun k_ => P0_ k_)) hg HK.out (fun k_ e_ => (by injection e_ with e_; subst e_; exact HMgo5.out))); clear HO_0 HB HK HP7 hx0 hf0; have HO_0 := n0_; have HB := n1_; have HK := n2_; clear n0_ n1_ n2_; clear hg hw; have HP9 := markFieldS_put1 HO_0.out x5_1 P5.out Q5.out (wrap64 (x1_1 + 1)); simp only [markFieldS_rd P5.out Q5.out, List.set_set] at HP9; obtain ⟨ux1, hx1⟩ := HP9.2.2.1; have hf1 := HP9.2.2.2) | ((with_reducible refine gate_store (t := 3) (p := 23) rfl ?_); refine store_event (t := 3) (p := 23) (v := ?vo_w9) (w1 := (w8.setCell ⟨go5, (x5_1 : Int).toNat * 3 + 1, none⟩ (.int .i64 (wrap64 (x1_1 + 1))))) ?hg ?ho ?hn ?hr ?_; (case ho => rfl); (case hg => rfl); (case hn => rfl); (case hr => first | (go_simp; done) | (go_simp; rfl)); intro w9 hw; have hg : w8.grownBy w9 (some go5) := (by rw [hw]; exact HP9.2.1); have n0_ := aK (show Kd.S k24 24 w9 w0.heap.size (fun k_ => (P0_ k_ ∨ w.heap.size ≤ k_)) (.slice (some ⟨go5, 0, none⟩) x0_1.length co6) (x0_1.set x5_1.toNat ⟨x1_1, wrap64 (x1_1 + 1), (rd_T24 x0_1 x5_1).f2⟩) from (by rw [hw]; exact HP9.1)); have n1_ := aK ((by rw [hw]; exact below_set (HB.out) GB5.out : Below w0.heap.size w0 w9)); have n2_ := aK (Kept.of_grown (S := (fun k_ => P0_ k_)) hg HK.out (fun k_ e_ => (by injection e_ with e_; subst e_; exact HMgo5.out))); clear HO_0 HB HK HP9 hx1 hf1; have HO_0 := n0_; have HB := n1_; have HK := n2_; clear n0_ n1_ n2_; clear hg hw; have HL := markFieldS_lend HO_0.out x5_1 P5.out Q5.out (fun k_ hk_ => .inr (Nat.le_trans HK.out.1 hk_)); simp only [markFieldS_rd P5.out Q5.out, List.set_set] at HL; obtain ⟨oki, A2, c2, hx2, hR2, hok2, hbk2⟩ := HL; have HR2 := aK hR2; have HBK2 := aK hbk2; have HOK2 := aK hok2; clear hR2 hbk2 hok2) | ((with_reducible refine gate_callee (f := 117) rfl ?_); refine goesL_ (some 32) rfl rfl Try.func117 (by kernel_rfl) rfl #[.slice A2 (rd_T24 x0_1 x5_1).f2.length c2, .int .i64 (wrap64 ((wrap64 (x1_1 + 1)) + 1))] rfl (by (try simp only [List.map_toArray, List.map_cons, List.map_nil]); first | done | rfl) ?_; (with_reducible refine (laws_markIntS.calls k1 oki (.slice A2 (rd_T24 x0_1 x5_1).f2.length c2) (rd_T24 x0_1 x5_1).f2 (wrap64 ((wrap64 (x1_1 + 1)) + 1)) t102 t103 w0 _ ?side1 ?side2 A3.out).mono ?_); (case side1 => repeat (first | (with_reducible first | exact HB.out | apply below_alloc | apply pw_below_drewN | apply below_drew1) | exact HB.out)); (case side2 => (with_reducible repeat (first | apply Kd.R_alloc | apply Kd.R_drewN | apply Kd.R_drew)); exact HR2.out); rintro e w10 ⟨rfl, hy0, hb, hkp⟩; refine ⟨_, rfl, ?_⟩; have n0_ := aK (HBK2.out w10 t103 hkp hy0); have n2_ := aK (Kept.then_ (S := (fun k_ => P0_ k_)) HK.out hkp (fun k_ hs_ => HOK2.out k_ hs_)); have n3_ := aK (hb); clear HO_0 HK HB HR2 HBK2 HOK2 hx2; have HO_0 := n0_; have HK := n2_; have HB := n3_; clear n0_ n2_ n3_; (try clear hb); (try clear hkp); (try clear hy0)))
     go_roundg k1
     case measure => have := HK1.out; omega
     case rel => exact ⟨_, t102, (wrap64 (x5_1 + 1)), (by first | rfl | (simp; done) | (simp [*]; done)), (by first | rfl | (simp; done) | (simp [*]; done)), H', ⟨by have := HK1.out; omega⟩, ⟨by (with_reducible repeat (first | apply Kd.S_alloc | apply Kd.S_drewN | apply Kd.S_drew)); exact HO_0.out⟩, ⟨by repeat (first | (with_reducible first | exact HK.out | apply Kept.alloc | apply Kept.drewN | apply Kept.drew) | exact HK.out)⟩, ⟨by repeat (first | (with_reducible first | exact HB.out | apply below_alloc | apply pw_below_drewN | apply below_drew1) | exact HB.out)⟩⟩
    ·
     rw [if_neg c4] at H
     exact absurd H (by simp)
   ·
    rw [if_neg c3] at H
    have c3b0 : decide (x5_1 < (x0_1.length : Int)) = false := decide_eq_false c3
    clear c3
    simp only [Option.some.injEq, Prod.mk.injEq] at H
    obtain ⟨rfl, rfl⟩ := H
    obtain ⟨Ao9, co9, eo9⟩ := Kd.R_slice (Kd.S_R HO_0.out)
    subst eo9
    go_wp2
    go_ret
    exact ⟨by first | rfl | (simp [errW_none, errW_some] <;> rfl) | (simp [*, errW_none, errW_some] <;> rfl), by (with_reducible repeat (first | apply Kd.S_alloc | apply Kd.S_drewN | apply Kd.S_drew)); exact HO_0.out, by repeat (first | (with_reducible first | exact HB.out | apply below_alloc | apply pw_below_drewN | apply below_drew1) | exact HB.out), by repeat (first | (with_reducible first | exact HK.out | apply Kept.alloc | apply Kept.drewN | apply Kept.drew) | exact HK.out)⟩

end Go.Proofs.Ytmhbakmgcogmoaa.P
namespace Go.Proofs.Ytmhbakmgcogmoaa.P
open Go.RowKit Go.Proofs.YtmhbakmgcogmoaaW.PrintWords Go.Proofs.YtmhbakmgcogmoaaW.PrintLast Go.Proofs.YtmhbakmgcogmoaaW.PrintMore
attribute [local go_sem] max2_int min2_int max_two min_two max_three min_three max_four min_four   -- for this text's walks alone
set_option linter.unusedVariables false
set_option linter.unusedSimpArgs false

/-! ### laws_markField: function 24 -/
def laws_markField.f (k : Nat) (a0_0 : Int) (a0_1 : Int) (l0_2 : List Int) (a1 : Int) : Option (Int × List Int) := (laws_markIntS.f k l0_2 a1).bind fun bt102 => (some (bt102.1, bt102.2))

set_option maxHeartbeats 8000000 in
set_option maxRecDepth 100000 in
theorem laws_markField.calls (k : Nat) (a0_0 : Int) (a0_1 : Int) (P0_2_ : Nat → Prop) (u9000_ : Value) (l0_2 : List Int) (a1 : Int) (r1 : Int) (r2 : List Int) (w0 w : World) (hB : Below w0.heap.size w0 w) (ho0_2 : Kd.R (Kd.int .i64) 3 w w0.heap.size P0_2_ u9000_ l0_2) (h : laws_markField.f k a0_0 a0_1 l0_2 a1 = some (r1, r2)) :
  Calls Try.prog 24 #[.agg #[.int .i64 a0_0, .int .i64 a0_1, u9000_], .int .i64 a1] w fun e w' => e = .returned (.int .i64 r1) ∧ Kd.R (Kd.int .i64) 3 w' w0.heap.size (fun k_ => (P0_2_ k_ ∨ w.heap.size ≤ k_)) u9000_ r2 ∧ Below w0.heap.size w0 w' ∧ Kept w w' (fun k_ => P0_2_ k_) := by
 have hu24 := Try.underlying24
 have HO0_2 := aK (show Kd.R (Kd.int .i64) 3 w w0.heap.size (fun k_ => (P0_2_ k_ ∨ w.heap.size ≤ k_)) u9000_ l0_2 from Kd.R_mono ho0_2 (fun k_ hk => (.inl hk)))
 have HK := aK (Kept.refl w (fun k_ => P0_2_ k_))
 have HW0 := Aside0.mk hB.size
 have HB := Aside0.mk hB
 clear hB
 have H : ((laws_markIntS.f k l0_2 a1).bind fun bt102 => (some (bt102.1, bt102.2))) = some (r1, r2) := h
 clear h
 replace H := Option.bind_eq_some_iff.mp H
 obtain ⟨⟨t102, t103⟩, A30, H⟩ := H
 replace H : (some (t102, t103)) = some (r1, r2) := H
 have A3 := Aside0.mk A30
 clear A30
 simp only [Option.some.injEq, Prod.mk.injEq] at H
 obtain ⟨rfl, rfl⟩ := H
 obtain ⟨Ao4, co4, eo4⟩ := Kd.R_slice HO0_2.out
 subst eo4
 go_enter Try.func24, Try.ntmps24
 go_wp2_with (first | ((with_reducible refine gate_dst (N := 2) rfl ?_); refine box_event ?hg (N := 2) ?hd (cs := #[.int .i64 a0_0, .int .i64 a0_1, .slice Ao4 l0_2.length co4]) (t := 24) ?hr ?_; (case hd => rfl); (case hg => rfl); (case hr => first | (go_simp; done) | (go_simp; rfl)); intro gb101 hg w5 hbox hb; have n0_ := aK (Kd.R_below (pR HO0_2.out) hb); have n1_ := aK (Kept.below (S := (fun k_ => P0_2_ k_)) (by repeat (first | (with_reducible first | exact HK.out | apply Kept.alloc | apply Kept.drewN | apply Kept.drew) | exact HK.out)) hb); have BK101 := aK (hbox); have GW101 := aK ((by rw [hg]; exact (by first | exact HK.out.1 | exact (show Kept w _ (fun k_ => P0_2_ k_) from by repeat (first | (with_reducible first | exact HK.out | apply Kept.alloc | apply Kept.drewN | apply Kept.drew) | exact HK.out)).1) : w.heap.size ≤ gb101)); have GE101 := aK (gE hg (pS HB.out)); replace HB := bS HB hb; clear HO0_2 HK; have HO0_2 := n0_; have HK := n1_; clear n0_ n1_ hb hbox hg; have hcz6_0 : w5.cell? ⟨gb101, 0, none⟩ = some (.int .i64 a0_0) := (blk_cell BK101.out 0).trans rfl; have hcz6_1 : w5.cell? ⟨gb101, 1, none⟩ = some (.int .i64 a0_1) := (blk_cell BK101.out 1).trans rfl; have hcz6_2 : w5.cell? ⟨gb101, 2, none⟩ = some (.slice Ao4 l0_2.length co4) := (blk_cell BK101.out 2).trans rfl; have hfz6_0 := blk_frozen BK101.out 0; have hfz6_1 := blk_frozen BK101.out 1; have hfz6_2 := blk_frozen BK101.out 2) | ((with_reducible refine gate_callee (f := 117) rfl ?_); refine goesL_ (some 8) rfl rfl Try.func117 (by kernel_rfl) rfl #[.slice Ao4 l0_2.length co4, .int .i64 a1] rfl (by (try simp only [List.map_toArray, List.map_cons, List.map_nil]); first | done | rfl | (simp only [List.length_drop, List.length_take]; rfl)) ?_; (with_reducible refine (laws_markIntS.calls k (fun k_ => some k_ = (.slice Ao4 l0_2.length co4 : Value).ownBlock) (.slice Ao4 l0_2.length co4) l0_2 a1 t102 t103 w0 _ ?side1 ?side2 A3.out).mono ?_); (case side1 => repeat (first | (with_reducible first | exact HB.out | apply below_alloc | apply pw_below_drewN | apply below_drew1 | refine below_set ?_ GE101.out) | exact HB.out)); (case side2 => exact Kd.R_tight rfl HO0_2.out); rintro e w7 ⟨rfl, hy0, hb, hkp⟩; refine ⟨_, rfl, ?_⟩; have n0_ := aK (Kd.R_reok rfl hy0 (fun k_ e_ => HO0_2.out.1 k_ e_)); have n1_ := aK (blk_kept (pB BK101.out) hkp (fun hs_ => (fun e_ => (Kd.R_ne HO0_2.out BK101.out (by decide)) e_) hs_)); have n2_ := aK (Kept.then_ (S := (fun k_ => P0_2_ k_)) (by repeat (first | (with_reducible first | exact HK.out | apply Kept.alloc | apply Kept.drewN | apply Kept.drew | refine Kept.setCell ?_ (.inr GW101.out) _) | exact HK.out)) hkp (fun k_ hs_ => (fun e_ => (HO0_2.out.1 k_ e_.symm)) hs_)); have n3_ := aK (hb); clear HO0_2 BK101 HK HB; have HO0_2 := n0_; have BK101 := n1_; have HK := n2_; have HB := n3_; clear n0_ n1_ n2_ n3_; (try clear hb); (try clear hkp); (try clear hy0)))
 go_ret
 exact ⟨by first | rfl | (simp [errW_none, errW_some] <;> rfl) | (simp [*, errW_none, errW_some] <;> rfl), by (with_reducible repeat (first | apply Kd.R_alloc | apply Kd.R_drewN | apply Kd.R_drew)); exact HO0_2.out, by repeat (first | (with_reducible first | exact HB.out | apply below_alloc | apply pw_below_drewN | apply below_drew1 | refine below_set ?_ GE101.out) | exact HB.out), by repeat (first | (with_reducible first | exact HK.out | apply Kept.alloc | apply Kept.drewN | apply Kept.drew | refine Kept.setCell ?_ (.inr GW101.out) _) | exact HK.out)⟩

end Go.Proofs.Ytmhbakmgcogmoaa.P
namespace Go.Proofs.Ytmhbakmgcogmoaa.P
open Go.RowKit Go.Proofs.YtmhbakmgcogmoaaW.PrintWords Go.Proofs.YtmhbakmgcogmoaaW.PrintLast Go.Proofs.YtmhbakmgcogmoaaW.PrintMore
attribute [local go_sem] max2_int min2_int max_two min_two max_three min_three max_four min_four   -- for this text's walks alone
set_option linter.unusedVariables false
set_option linter.unusedSimpArgs false

/-! ### laws_heldIntS: function 118 -/
def laws_heldIntS.l0 : Nat → List Int → Int → Int → Option (Int)
 | 0, _, _, _ => none
 | k + 1, x0, x1, x5 => if x5 < (x0.length : Int) then (if 0 ≤ x5 then (if (rd x0 x5) = x1 then (laws_heldIntS.l0 k x0 (wrap64 (x1 + 1)) (wrap64 (x5 + 1))) else (some (-1))) else (none)) else (some x1)
def laws_heldIntS.f (k : Nat) (l0 : List Int) (a1 : Int) : Option (Int) := laws_heldIntS.l0 k l0 a1 0

set_option maxHeartbeats 8000000 in
set_option maxRecDepth 100000 in
theorem laws_heldIntS.calls (k : Nat) (A0 : Option Addr) (c0 : Nat) (l0 : List Int) (a1 : Int) (r : Int) (w : World) (hr0 : Kd.C (Kd.int .i64) w A0 l0.length l0) (hc0 : l0.length ≤ c0) (h : laws_heldIntS.f k l0 a1 = some r) :
  Calls Try.prog 118 #[.slice A0 l0.length c0, .int .i64 a1] w fun e w' => e = .returned (.int .i64 r) ∧ Drawn0 w w' := by
 have HR0 := Aside0.mk hr0
 have HC0 := Aside0.mk hc0
 clear hr0 hc0
 have H : (laws_heldIntS.l0 k l0 a1 0) = some r := h
 clear h
 have H' := Aside0.mk H
 clear H
 go_enter Try.func118, Try.ntmps118
 go_wp2
 go_loopg [1, 5] k (fun kq v1 v5 w' => ∃ (x1_1 : Int) (x5_1 : Int), v1 = .int .i64 x1_1 ∧ v5 = .int .i64 x5_1 ∧ Aside0 (laws_heldIntS.l0 kq l0 x1_1 x5_1 = some r) ∧ Aside0 (kq ≤ k) ∧ Drawn0 w w')
 case atStart => exact ⟨(a1), (0), (by first | rfl | (simp; done) | (simp [*]; done)), (by first | rfl | (simp; done) | (simp [*]; done)), H', ⟨Nat.le_refl _⟩, by repeat (first | exact Drawn0.refl _ | apply Drawn0.step)⟩
 case round =>
  clear H'
  try clear c1
  try clear p2
  obtain ⟨x1_1, x5_1, rfl, rfl, HA, HK1, ⟨m1, rfl⟩⟩ := hrel
  cases gk with
  | zero => exact absurd HA.out (by simp [laws_heldIntS.l0])
  | succ k1 =>
   have H := HA.out
   clear HA
   simp only [laws_heldIntS.l0] at H
   by_cases c3 : x5_1 < (l0.length : Int)
   ·
    rw [if_pos c3] at H
    have c3b0 : decide (x5_1 < (l0.length : Int)) = true := decide_eq_true c3
    clear c3
    by_cases c4 : 0 ≤ x5_1
    ·
     rw [if_pos c4] at H
     have c4b0 : decide (0 ≤ x5_1) = true := decide_eq_true c4
     clear c4
     by_cases c5 : (rd l0 x5_1) = x1_1
     ·
      rw [if_pos c5] at H
      have c5b0 : ((rd l0 x5_1) == x1_1) = true := beq_iff_eq.mpr c5
      have c5b1 : ((rd l0 x5_1) != x1_1) = false := bne_eq_false_iff_eq.mpr c5
      clear c5
      have H' := Aside0.mk H
      clear H
      have p101 : 0 ≤ (x5_1 : Int) := of_decide_eq_true (by first | (with_reducible assumption) | assumption)
      have q101 : x5_1 < (l0.length : Int) := of_decide_eq_true (by first | (with_reducible assumption) | assumption)
      obtain ⟨ad101, e101, hx101_0⟩ := Kd.at_int HR0.out x5_1 p101 q101
      cases e101
      replace p101 := eq_true p101
      replace q101 := eq_true q101
      go_wp2
      go_roundg k1
      case measure => have := HK1.out; omega
      case rel => exact ⟨(wrap64 (x1_1 + 1)), (wrap64 (x5_1 + 1)), (by first | rfl | (simp; done) | (simp [*]; done)), (by first | rfl | (simp; done) | (simp [*]; done)), H', ⟨by have := HK1.out; omega⟩, by repeat (first | exact Drawn0.refl _ | apply Drawn0.step)⟩
     ·
      rw [if_neg c5] at H
      have c5b0 : ((rd l0 x5_1) == x1_1) = false := beq_eq_false_iff_ne.mpr c5
      have c5b1 : ((rd l0 x5_1) != x1_1) = true := bne_iff_ne.mpr c5
      obtain rfl := Option.some.inj H
      have p101 : 0 ≤ (x5_1 : Int) := of_decide_eq_true (by first | (with_reducible assumption) | assumption)
      have q101 : x5_1 < (l0.length : Int) := of_decide_eq_true (by first | (with_reducible assumption) | assumption)
      obtain ⟨ad101, e101, hx101_0⟩ := Kd.at_int HR0.out x5_1 p101 q101
      cases e101
      replace p101 := eq_true p101
      replace q101 := eq_true q101
      go_wp2
      go_ret
      exact ⟨by first | rfl | (simp; done) | (simp [*]; done), by repeat (first | exact Drawn0.refl _ | apply Drawn0.step)⟩
    ·
     rw [if_neg c4] at H
     exact absurd H (by simp)
   ·
    rw [if_neg c3] at H
    have c3b0 : decide (x5_1 < (l0.length : Int)) = false := decide_eq_false c3
    clear c3
    obtain rfl := Option.some.inj H
    go_wp2
    go_ret
    exact ⟨by first | rfl | (simp; done) | (simp [*]; done), by repeat (first | exact Drawn0.refl _ | apply Drawn0.step)⟩

end Go.Proofs.Ytmhbakmgcogmoaa.P
namespace Go.Proofs.Ytmhbakmgcogmoaa.P
open Go.RowKit Go.Proofs.YtmhbakmgcogmoaaW.PrintWords Go.Proofs.YtmhbakmgcogmoaaW.PrintLast Go.Proofs.YtmhbakmgcogmoaaW.PrintMore
attribute [local go_sem] max2_int min2_int max_two min_two max_three min_three max_four min_four   -- for this text's walks alone
set_option linter.unusedVariables false
set_option linter.unusedSimpArgs false

/-! ### laws_heldField: function 25 -/
def laws_heldField.f (k : Nat) (a0_0 : Int) (a0_1 : Int) (l0_2 : List Int) (a1 : Int) : Option (Int) := (laws_heldIntS.f k l0_2 a1).bind fun t102 => (if t102 < 0 then (some (-1)) else (some t102))

set_option maxHeartbeats 8000000 in
set_option maxRecDepth 100000 in
theorem laws_heldField.calls (k : Nat) (a0_0 : Int) (a0_1 : Int) (A0_2 : Option Addr) (c0_2 : Nat) (l0_2 : List Int) (a1 : Int) (r : Int) (w : World) (hr0_2 : Kd.C (Kd.int .i64) w A0_2 l0_2.length l0_2) (hc0_2 : l0_2.length ≤ c0_2) (h : laws_heldField.f k a0_0 a0_1 l0_2 a1 = some r) :
  Calls Try.prog 25 #[.agg #[.int .i64 a0_0, .int .i64 a0_1, .slice A0_2 l0_2.length c0_2], .int .i64 a1] w fun e w' => e = .returned (.int .i64 r) ∧ Below w.heap.size w w' := by
 have hu24 := Try.underlying24
 have HR0_2 := Aside0.mk hr0_2
 have HC0_2 := Aside0.mk hc0_2
 clear hr0_2 hc0_2
 have HB := aK (Below.refl w.heap.size w)
 have H : ((laws_heldIntS.f k l0_2 a1).bind fun t102 => (if t102 < 0 then (some (-1)) else (some t102))) = some r := h
 clear h
 replace H := Option.bind_eq_some_iff.mp H
 obtain ⟨t102, A30, H⟩ := H
 replace H : (if t102 < 0 then (some (-1)) else (some t102)) = some r := H
 have A3 := Aside0.mk A30
 clear A30
 by_cases c4 : t102 < 0
 ·
  rw [if_pos c4] at H
  have c4b0 : decide (t102 < 0) = true := decide_eq_true c4
  clear c4
  obtain rfl := Option.some.inj H
  go_enter Try.func25, Try.ntmps25
  go_wp2_with (first | ((with_reducible refine gate_dst (N := 2) rfl ?_); refine box_event ?hg (N := 2) ?hd (cs := #[.int .i64 a0_0, .int .i64 a0_1, .slice A0_2 l0_2.length c0_2]) (t := 24) ?hr ?_; (case hd => rfl); (case hg => rfl); (case hr => first | (go_simp; done) | (go_simp; rfl)); intro gb101 hg w5 hbox hb; have BK101 := aK (hbox); have GW101 := aK (gE hg (pS HB.out)); have GE101 := aK (gE hg (pS HB.out)); replace HB := bS HB hb; clear hb hbox hg; have hcz6_0 : w5.cell? ⟨gb101, 0, none⟩ = some (.int .i64 a0_0) := (blk_cell BK101.out 0).trans rfl; have hcz6_1 : w5.cell? ⟨gb101, 1, none⟩ = some (.int .i64 a0_1) := (blk_cell BK101.out 1).trans rfl; have hcz6_2 : w5.cell? ⟨gb101, 2, none⟩ = some (.slice A0_2 l0_2.length c0_2) := (blk_cell BK101.out 2).trans rfl; have hfz6_0 := blk_frozen BK101.out 0; have hfz6_1 := blk_frozen BK101.out 1; have hfz6_2 := blk_frozen BK101.out 2) | ((with_reducible refine gate_callee (f := 118) rfl ?_); refine goesL_ (some 8) rfl rfl Try.func118 (by kernel_rfl) rfl #[.slice A0_2 l0_2.length c0_2, .int .i64 a1] rfl (by (try simp only [List.map_toArray, List.map_cons, List.map_nil]); first | done | rfl | (simp only [List.length_drop, List.length_take]; rfl)) ?_; (with_reducible refine (laws_heldIntS.calls k _ _ l0_2 a1 t102 _ ?side1 ?side2 A3.out).mono ?_); (case side1 => repeat (first | exact (Kd.C_below HR0_2.out HB.out) | (with_reducible refine Kd.C_alloc ?_ _) | (with_reducible refine Kd.C_drewN ?_ _) | (with_reducible refine Kd.C_drew ?_))); (case side2 => exact HC0_2.out); rintro e w' ⟨rfl, ⟨nd, rfl⟩⟩; refine ⟨_, rfl, ?_⟩))
  go_ret
  exact ⟨by first | rfl | (simp [errW_none, errW_some] <;> rfl) | (simp [*, errW_none, errW_some] <;> rfl), by repeat (first | (with_reducible first | exact HB.out | apply below_alloc | apply pw_below_drewN | apply below_drew1 | refine below_set ?_ GE101.out) | exact HB.out)⟩
 ·
  rw [if_neg c4] at H
  have c4b0 : decide (t102 < 0) = false := decide_eq_false c4
  clear c4
  obtain rfl := Option.some.inj H
  go_enter Try.func25, Try.ntmps25
  go_wp2_with (first | ((with_reducible refine gate_dst (N := 2) rfl ?_); refine box_event ?hg (N := 2) ?hd (cs := #[.int .i64 a0_0, .int .i64 a0_1, .slice A0_2 l0_2.length c0_2]) (t := 24) ?hr ?_; (case hd => rfl); (case hg => rfl); (case hr => first | (go_simp; done) | (go_simp; rfl)); intro gb101 hg w7 hbox hb; have BK101 := aK (hbox); have GW101 := aK (gE hg (pS HB.out)); have GE101 := aK (gE hg (pS HB.out)); replace HB := bS HB hb; clear hb hbox hg; have hcz8_0 : w7.cell? ⟨gb101, 0, none⟩ = some (.int .i64 a0_0) := (blk_cell BK101.out 0).trans rfl; have hcz8_1 : w7.cell? ⟨gb101, 1, none⟩ = some (.int .i64 a0_1) := (blk_cell BK101.out 1).trans rfl; have hcz8_2 : w7.cell? ⟨gb101, 2, none⟩ = some (.slice A0_2 l0_2.length c0_2) := (blk_cell BK101.out 2).trans rfl; have hfz8_0 := blk_frozen BK101.out 0; have hfz8_1 := blk_frozen BK101.out 1; have hfz8_2 := blk_frozen BK101.out 2) | ((with_reducible refine gate_callee (f := 118) rfl ?_); refine goesL_ (some 8) rfl rfl Try.func118 (by kernel_rfl) rfl #[.slice A0_2 l0_2.length c0_2, .int .i64 a1] rfl (by (try simp only [List.map_toArray, List.map_cons, List.map_nil]); first | done | rfl | (simp only [List.length_drop, List.length_take]; rfl)) ?_; (with_reducible refine (laws_heldIntS.calls k _ _ l0_2 a1 t102 _ ?side1 ?side2 A3.out).mono ?_); (case side1 => repeat (first | exact (Kd.C_below HR0_2.out HB.out) | (with_reducible refine Kd.C_alloc ?_ _) | (with_reducible refine Kd.C_drewN ?_ _) | (with_reducible refine Kd.C_drew ?_))); (case side2 => exact HC0_2.out); rintro e w' ⟨rfl, ⟨nd, rfl⟩⟩; refine ⟨_, rfl, ?_⟩))
  go_ret
  exact ⟨by first | rfl | (simp [errW_none, errW_some] <;> rfl) | (simp [*, errW_none, errW_some] <;> rfl), by repeat (first | (with_reducible first | exact HB.out | apply below_alloc | apply pw_below_drewN | apply below_drew1 | refine below_set ?_ GE101.out) | exact HB.out)⟩

end Go.Proofs.Ytmhbakmgcogmoaa.P
namespace Go.Proofs.Ytmhbakmgcogmoaa.P
open Go.RowKit Go.Proofs.YtmhbakmgcogmoaaW.PrintWords Go.Proofs.YtmhbakmgcogmoaaW.PrintLast Go.Proofs.YtmhbakmgcogmoaaW.PrintMore
attribute [local go_sem] max2_int min2_int max_two min_two max_three min_three max_four min_four   -- for this text's walks alone
set_option linter.unusedVariables false
set_option linter.unusedSimpArgs false

/-! ### laws_FnExactCountAtLeast: function 4 -/
mutual
def laws_FnExactCountAtLeast.j0 : Nat → List (S40) → Int → Bool → List (S24) → Bool → Bool → Int → Int → List Int → Int → Int → List Int → Option (Bool)
 | 0, _, _, _, _, _, _, _, _, _, _, _, _ => none
 | k + 1, x0, x1, x7, x8, x10, x44, x112000, x112001, x112002, x122000, x122001, x122002 => if x44 = true then (some false) else ((laws_toFieldS.f k x0).bind fun t123 => ((laws_eqFieldS.f k x8 t123).bind fun t126 => (if t126 = true then ((laws_markFieldS.f k x8 1).bind fun bt127 => (if bt127.1 < 0 then (laws_FnExactCountAtLeast.j1 k x0 x1 x7 true x112000 x112001 x112002 x122000 x122001 x122002) else ((laws_eqField.f k x122000 x122001 x122002 x112000 x112001 x112002).bind fun t129 => (if t129 = true then (laws_FnExactCountAtLeast.j1 k x0 x1 x7 (x10 != x7) x112000 x112001 x112002 x122000 x122001 x122002) else (laws_FnExactCountAtLeast.j1 k x0 x1 x7 true x112000 x112001 x112002 x122000 x122001 x122002))))) else (some false))))
def laws_FnExactCountAtLeast.j1 : Nat → List (S40) → Int → Bool → Bool → Int → Int → List Int → Int → Int → List Int → Option (Bool)
 | 0, _, _, _, _, _, _, _, _, _, _ => none
 | k + 1, x0, x1, x7, x65, x112000, x112001, x112002, x122000, x122001, x122002 => if x65 = true then (some false) else ((laws_markField.f k x122000 x122001 x122002 1).bind fun bt130 => ((laws_heldField.f k x122000 x122001 bt130.2 1).bind fun t132 => (if t132 < 0 then (some false) else (if t132 = bt130.1 then ((laws_toFieldS.f k x0).bind fun t133 => ((impl_CountAtLeast.f k t133 x1).bind fun bt136 => ((laws_eqField.f k bt136.1 bt136.2.1 bt136.2.2.1 x112000 x112001 x112002).bind fun t143 => (if t143 = true then (laws_FnExactCountAtLeast.j2 k bt130.1 (bt136.2.2.2 != x7) x122000 x122001 bt130.2) else (laws_FnExactCountAtLeast.j2 k bt130.1 true x122000 x122001 bt130.2))))) else (some false)))))
def laws_FnExactCountAtLeast.j2 : Nat → Int → Bool → Int → Int → List Int → Option (Bool)
 | 0, _, _, _, _, _ => none
 | k + 1, x12, x92, x122000, x122001, x122002 => if x92 = true then (some false) else ((laws_heldField.f k x122000 x122001 x122002 1).bind fun t144 => (if t144 < 0 then (some false) else (if t144 = x12 then (some true) else (some false))))
end
def laws_FnExactCountAtLeast.f (k : Nat) (l0 : List (S40)) (a1 : Int) : Option (Bool) := (laws_szFieldS.f k l0 1048576).bind fun t101 => (if t101 < 0 then (some true) else ((laws_toFieldS.f k l0).bind fun t102 => ((spec_CountAtLeast.f k t102 a1).bind fun bt105 => ((laws_toFieldS.f k l0).bind fun t112 => ((impl_CountAtLeast.f k t112 a1).bind fun bt115 => ((laws_eqField.f k bt115.1 bt115.2.1 bt115.2.2.1 bt105.1 bt105.2.1 bt105.2.2.1).bind fun t122 => (if t122 = true then (laws_FnExactCountAtLeast.j0 k l0 a1 bt105.2.2.2 t112 bt115.2.2.2 (bt115.2.2.2 != bt105.2.2.2) bt105.1 bt105.2.1 bt105.2.2.1 bt115.1 bt115.2.1 bt115.2.2.1) else (laws_FnExactCountAtLeast.j0 k l0 a1 bt105.2.2.2 t112 bt115.2.2.2 true bt105.1 bt105.2.1 bt105.2.2.1 bt115.1 bt115.2.1 bt115.2.2.1))))))))

set_option maxHeartbeats 8000000 in
set_option maxRecDepth 100000 in
theorem laws_FnExactCountAtLeast.calls (k : Nat) (A0 : Option Addr) (c0 : Nat) (l0 : List (S40)) (a1 : Int) (r : Bool) (w : World) (hr0 : Kd.C k40 w A0 l0.length l0) (hc0 : l0.length ≤ c0) (h : laws_FnExactCountAtLeast.f k l0 a1 = some r) :
  Calls Try.prog 4 #[.slice A0 l0.length c0, .int .i64 a1] w fun e w' => e = .returned (.bool r) ∧ Below w.heap.size w w' := by
 have hu24 := Try.underlying24
 have HR0 := Aside0.mk hr0
 have HC0 := Aside0.mk hc0
 clear hr0 hc0
 have HB := aK (Below.refl w.heap.size w)
 have H : ((laws_szFieldS.f k l0 1048576).bind fun t101 => (if t101 < 0 then (some true) else ((laws_toFieldS.f k l0).bind fun t102 => ((spec_CountAtLeast.f k t102 a1).bind fun bt105 => ((laws_toFieldS.f k l0).bind fun t112 => ((impl_CountAtLeast.f k t112 a1).bind fun bt115 => ((laws_eqField.f k bt115.1 bt115.2.1 bt115.2.2.1 bt105.1 bt105.2.1 bt105.2.2.1).bind fun t122 => (if t122 = true then (laws_FnExactCountAtLeast.j0 k l0 a1 bt105.2.2.2 t112 bt115.2.2.2 (bt115.2.2.2 != bt105.2.2.2) bt105.1 bt105.2.1 bt105.2.2.1 bt115.1 bt115.2.1 bt115.2.2.1) else (laws_FnExactCountAtLeast.j0 k l0 a1 bt105.2.2.2 t112 bt115.2.2.2 true bt105.1 bt105.2.1 bt105.2.2.1 bt115.1 bt115.2.1 bt115.2.2.1))))))))) = some r := h
 clear h
 replace H := Option.bind_eq_some_iff.mp H
 obtain ⟨t101, A30, H⟩ := H
 replace H : (if t101 < 0 then (some true) else ((laws_toFieldS.f k l0).bind fun t102 => ((spec_CountAtLeast.f k t102 a1).bind fun bt105 => ((laws_toFieldS.f k l0).bind fun t112 => ((impl_CountAtLeast.f k t112 a1).bind fun bt115 => ((laws_eqField.f k bt115.1 bt115.2.1 bt115.2.2.1 bt105.1 bt105.2.1 bt105.2.2.1).bind fun t122 => (if t122 = true then (laws_FnExactCountAtLeast.j0 k l0 a1 bt105.2.2.2 t112 bt115.2.2.2 (bt115.2.2.2 != bt105.2.2.2) bt105.1 bt105.2.1 bt105.2.2.1 bt115.1 bt115.2.1 bt115.2.2.1) else (laws_FnExactCountAtLeast.j0 k l0 a1 bt105.2.2.2 t112 bt115.2.2.2 true bt105.1 bt105.2.1 bt105.2.2.1 bt115.1 bt115.2.1 bt115.2.2.1)))))))) = some r := H
 have A3 := Aside0.mk A30
 clear A30
 by_cases c4 : t101 < 0
 ·
  rw [if_pos c4] at H
  have c4b0 : decide (t101 < 0) = true := decide_eq_true c4
  clear c4
  obtain rfl := Option.some.inj H
  go_enter Try.func4, Try.ntmps4
  go_wp2_with (first | ((with_reducible refine gate_callee (f := 17) rfl ?_); refine goesL_ (some 18) rfl rfl Try.func17 (by kernel_rfl) rfl #[.slice A0 l0.length c0, .int .i64 1048576] rfl (by (try simp only [List.map_toArray, List.map_cons, List.map_nil]); first | done | rfl | (simp only [List.length_drop, List.length_take]; rfl)) ?_; (with_reducible refine (laws_szFieldS.calls k _ _ l0 1048576 t101 _ ?side1 ?side2 A3.out).mono ?_); (case side1 => repeat (first | exact HR0.out | (with_reducible refine Kd.C_alloc ?_ _) | (with_reducible refine Kd.C_drewN ?_ _) | (with_reducible refine Kd.C_drew ?_))); (case side2 => exact HC0.out); rintro e w5 ⟨rfl, hb⟩; refine ⟨_, rfl, ?_⟩; replace HB := bS HB hb; (try clear hb); (try clear hb2); (try clear hk); (try clear hi)))
  go_ret
  exact ⟨by first | rfl | (simp [errW_none, errW_some] <;> rfl) | (simp [*, errW_none, errW_some] <;> rfl), by repeat (first | (with_reducible first | exact HB.out | apply below_alloc | apply pw_below_drewN | apply below_drew1) | exact HB.out)⟩
 ·
  rw [if_neg c4] at H
  have c4b0 : decide (t101 < 0) = false := decide_eq_false c4
  clear c4
  replace H := Option.bind_eq_some_iff.mp H
  obtain ⟨t102, A60, H⟩ := H
  replace H : ((spec_CountAtLeast.f k t102 a1).bind fun bt105 => ((laws_toFieldS.f k l0).bind fun t112 => ((impl_CountAtLeast.f k t112 a1).bind fun bt115 => ((laws_eqField.f k bt115.1 bt115.2.1 bt115.2.2.1 bt105.1 bt105.2.1 bt105.2.2.1).bind fun t122 => (if t122 = true then (laws_FnExactCountAtLeast.j0 k l0 a1 bt105.2.2.2 t112 bt115.2.2.2 (bt115.2.2.2 != bt105.2.2.2) bt105.1 bt105.2.1 bt105.2.2.1 bt115.1 bt115.2.1 bt115.2.2.1) else (laws_FnExactCountAtLeast.j0 k l0 a1 bt105.2.2.2 t112 bt115.2.2.2 true bt105.1 bt105.2.1 bt105.2.2.1 bt115.1 bt115.2.1 bt115.2.2.1)))))) = some r := H
  have A6 := Aside0.mk A60
  clear A60
  replace H := Option.bind_eq_some_iff.mp H
  obtain ⟨⟨t105, t106, t107, t110⟩, A70, H⟩ := H
  replace H : ((laws_toFieldS.f k l0).bind fun t112 => ((impl_CountAtLeast.f k t112 a1).bind fun bt115 => ((laws_eqField.f k bt115.1 bt115.2.1 bt115.2.2.1 t105 t106 t107).bind fun t122 => (if t122 = true then (laws_FnExactCountAtLeast.j0 k l0 a1 t110 t112 bt115.2.2.2 (bt115.2.2.2 != t110) t105 t106 t107 bt115.1 bt115.2.1 bt115.2.2.1) else (laws_FnExactCountAtLeast.j0 k l0 a1 t110 t112 bt115.2.2.2 true t105 t106 t107 bt115.1 bt115.2.1 bt115.2.2.1))))) = some r := H
  have A7 := Aside0.mk A70
  clear A70
  replace H := Option.bind_eq_some_iff.mp H
  obtain ⟨t112, A80, H⟩ := H
  replace H : ((impl_CountAtLeast.f k t112 a1).bind fun bt115 => ((laws_eqField.f k bt115.1 bt115.2.1 bt115.2.2.1 t105 t106 t107).bind fun t122 => (if t122 = true then (laws_FnExactCountAtLeast.j0 k l0 a1 t110 t112 bt115.2.2.2 (bt115.2.2.2 != t110) t105 t106 t107 bt115.1 bt115.2.1 bt115.2.2.1) else (laws_FnExactCountAtLeast.j0 k l0 a1 t110 t112 bt115.2.2.2 true t105 t106 t107 bt115.1 bt115.2.1 bt115.2.2.1)))) = some r := H
  have A8 := Aside0.mk A80
  clear A80
  replace H := Option.bind_eq_some_iff.mp H
  obtain ⟨⟨t115, t116, t117, t120⟩, A90, H⟩ := H
  replace H : ((laws_eqField.f k t115 t116 t117 t105 t106 t107).bind fun t122 => (if t122 = true then (laws_FnExactCountAtLeast.j0 k l0 a1 t110 t112 t120 (t120 != t110) t105 t106 t107 t115 t116 t117) else (laws_FnExactCountAtLeast.j0 k l0 a1 t110 t112 t120 true t105 t106 t107 t115 t116 t117))) = some r := H
  have A9 := Aside0.mk A90
  clear A90
  have HC10 := Aside0.mk H
  clear H
  go_enter Try.func4, Try.ntmps4
  go_upto_region 8 with (first | ((with_reducible refine gate_callee (f := 17) rfl ?_); refine goesL_ (some 18) rfl rfl Try.func17 (by kernel_rfl) rfl #[.slice A0 l0.length c0, .int .i64 1048576] rfl (by (try simp only [List.map_toArray, List.map_cons, List.map_nil]); first | done | rfl | (simp only [List.length_drop, List.length_take]; rfl)) ?_; (with_reducible refine (laws_szFieldS.calls k _ _ l0 1048576 t101 _ ?side1 ?side2 A3.out).mono ?_); (case side1 => repeat (first | exact HR0.out | (with_reducible refine Kd.C_alloc ?_ _) | (with_reducible refine Kd.C_drewN ?_ _) | (with_reducible refine Kd.C_drew ?_))); (case side2 => exact HC0.out); rintro e w11 ⟨rfl, hb⟩; refine ⟨_, rfl, ?_⟩; replace HB := bS HB hb; (try clear hb); (try clear hb2); (try clear hk); (try clear hi)) | ((with_reducible refine gate_callee (f := 19) rfl ?_); refine goesL_ (some 23) rfl rfl Try.func19 (by kernel_rfl) rfl #[.slice A0 l0.length c0] rfl (by (try simp only [List.map_toArray, List.map_cons, List.map_nil]); first | done | rfl | (simp only [List.length_drop, List.length_take]; rfl)) ?_; (with_reducible refine (laws_toFieldS.calls k _ _ l0 t102 _ ?side1 ?side2 A6.out).mono ?_); (case side1 => repeat (first | exact (Kd.C_below HR0.out HB.out) | (with_reducible refine Kd.C_alloc ?_ _) | (with_reducible refine Kd.C_drewN ?_ _) | (with_reducible refine Kd.C_drew ?_))); (case side2 => exact HC0.out); rintro e w12 ⟨v103, rfl, ho0, hb⟩; refine ⟨_, rfl, ?_⟩; have HO104 := aK (Kd.S_lower ho0 (below_size (pS HB.out))); replace HB := bS HB hb; (try clear hb); (try clear hb2); (try clear hk); (try clear hi); (try clear ho0); obtain ⟨Ao13, co13, eo13⟩ := Kd.S_slice HO104.out; subst eo13) | ((with_reducible refine gate_callee (f := 18) rfl ?_); refine goesL_ (some 25) rfl rfl Try.func18 (by kernel_rfl) rfl #[.slice Ao13 t102.length co13, .int .i64 a1] rfl (by (try simp only [List.map_toArray, List.map_cons, List.map_nil]); first | done | rfl | (simp only [List.length_drop, List.length_take]; rfl)) ?_; (with_reducible refine (spec_CountAtLeast.calls k _ _ t102 a1 t105 t106 t107 t110 _ ?side1 ?side2 A7.out).mono ?_); (case side1 => repeat (first | exact (Kd.S_reads' HO104.out).2.2 | (with_reducible refine Kd.C_alloc ?_ _) | (with_reducible refine Kd.C_drewN ?_ _) | (with_reducible refine Kd.C_drew ?_))); (case side2 => exact (Kd.S_reads' HO104.out).2.1); rintro e w14 ⟨v108, rfl, ho0, hb⟩; refine ⟨_, rfl, ?_⟩; have n0_ := aK (Kd.S_elder' (by (with_reducible repeat (first | apply Kd.S_alloc | apply Kd.S_drewN | apply Kd.S_drew)); exact HO104.out) (Kd.R_base ho0) hb); have HO109 := aK (Kd.R_lower ho0 (below_size (pS HB.out))); replace HB := bS HB hb; clear HO104; have HO104 := n0_; clear n0_; (try clear hb); (try clear hb2); (try clear hk); (try clear hi); (try clear ho0)) | ((with_reducible refine gate_dst (N := 6) rfl ?_); refine box_event ?hg (N := 6) ?hd (cs := #[.int .i64 0, .int .i64 0, .slice none 0 0]) (t := 24) ?hr ?_; (case hd => rfl); (case hg => rfl); (case hr => first | (go_simp; done) | (go_simp; rfl)); intro gb111 hg w15 hbox hb; have n0_ := aK (Kd.S_below (Kd.S_elderB (by (with_reducible repeat (first | apply Kd.S_alloc | apply Kd.S_drewN | apply Kd.S_drew)); exact HO104.out) gb111 (Nat.le_of_eq hg.symm)) hb); have n1_ := aK (Kd.R_below (pR HO109.out) hb); have BK111 := aK (hbox); have GW111 := aK (gE hg (pS HB.out)); have GE111 := aK (gE hg (pS HB.out)); replace HB := bS HB hb; clear HO104 HO109; have HO104 := n0_; have HO109 := n1_; clear n0_ n1_ hb hbox hg; have hcz16_0 : w15.cell? ⟨gb111, 0, none⟩ = some (.int .i64 0) := (blk_cell BK111.out 0).trans rfl; have hcz16_1 : w15.cell? ⟨gb111, 1, none⟩ = some (.int .i64 0) := (blk_cell BK111.out 1).trans rfl; have hcz16_2 : w15.cell? ⟨gb111, 2, none⟩ = some (.slice none 0 0) := (blk_cell BK111.out 2).trans rfl; have hfz16_0 := blk_frozen BK111.out 0; have hfz16_1 := blk_frozen BK111.out 1; have hfz16_2 := blk_frozen BK111.out 2; obtain ⟨Ao17, co17, eo17⟩ := Kd.R_slice HO109.out; subst eo17) | ((with_reducible refine gate_callee (f := 19) rfl ?_); refine goesL_ (some 29) rfl rfl Try.func19 (by kernel_rfl) rfl #[.slice A0 l0.length c0] rfl (by (try simp only [List.map_toArray, List.map_cons, List.map_nil]); first | done | rfl | (simp only [List.length_drop, List.length_take]; rfl)) ?_; (with_reducible refine (laws_toFieldS.calls k _ _ l0 t112 _ ?side1 ?side2 A8.out).mono ?_); (case side1 => exact Kd.C_below HR0.out (pS HB.out)); (case side2 => exact HC0.out); rintro e w18 ⟨v113, rfl, ho0, hb⟩; refine ⟨_, rfl, ?_⟩; have n0_ := aK (Kd.S_elder' (by (with_reducible repeat (first | apply Kd.S_alloc | apply Kd.S_drewN | apply Kd.S_drew)); exact (Kd.S_mono (Kd.S_far (p := ⟨gb111, 2, none⟩) (Kd.S_far (p := ⟨gb111, 1, none⟩) (Kd.S_far (p := ⟨gb111, 0, none⟩) (Kd.S_mono HO104.out (fun k_ hk => (⟨hk, hk.2⟩ : _ ∧ k_ ≠ gb111))) (fun _ hk => hk.2) (.int .i64 t105)) (fun _ hk => hk.2) (.int .i64 t106)) (fun _ hk => hk.2) (.slice Ao17 t107.length co17)) (fun _ h_ => h_.1))) (Kd.S_base ho0) hb); have n1_ := aK (Kd.R_below (pR ((Kd.R_mono (Kd.R_far (p := ⟨gb111, 2, none⟩) (Kd.R_far (p := ⟨gb111, 1, none⟩) (Kd.R_far (p := ⟨gb111, 0, none⟩) (Kd.R_types HO109.out BK111.out (by decide)) (fun _ hk => hk.2) (.int .i64 t105)) (fun _ hk => hk.2) (.int .i64 t106)) (fun _ hk => hk.2) (.slice Ao17 t107.length co17)) (fun _ h_ => h_.1)))) hb); have HO114 := aK (Kd.S_lower (Kd.S_newB (Kd.S_new' (Kd.S_new' ho0 (Kd.S_lt (by (with_reducible repeat (first | apply Kd.S_alloc | apply Kd.S_drewN | apply Kd.S_drew)); exact (Kd.S_mono (Kd.S_far (p := ⟨gb111, 2, none⟩) (Kd.S_far (p := ⟨gb111, 1, none⟩) (Kd.S_far (p := ⟨gb111, 0, none⟩) (Kd.S_mono HO104.out (fun k_ hk => (⟨hk, hk.2⟩ : _ ∧ k_ ≠ gb111))) (fun _ hk => hk.2) (.int .i64 t105)) (fun _ hk => hk.2) (.int .i64 t106)) (fun _ hk => hk.2) (.slice Ao17 t107.length co17)) (fun _ h_ => h_.1))))) (Kd.R_lt (pR ((Kd.R_mono (Kd.R_far (p := ⟨gb111, 2, none⟩) (Kd.R_far (p := ⟨gb111, 1, none⟩) (Kd.R_far (p := ⟨gb111, 0, none⟩) (Kd.R_types HO109.out BK111.out (by decide)) (fun _ hk => hk.2) (.int .i64 t105)) (fun _ hk => hk.2) (.int .i64 t106)) (fun _ hk => hk.2) (.slice Ao17 t107.length co17)) (fun _ h_ => h_.1)))))) (g := gb111) (o := .cells #[.int .i64 t105, .int .i64 t106, .slice Ao17 t107.length co17] 24 (0, 0)) (by (with_reducible repeat (first | refine blk_drewN ?_ _ | refine blk_drew ?_ | refine blk_alloc ?_ _)); refine blk_put (cs := #[.int .i64 t105, .int .i64 t106, .slice none 0 0]) ?_ 2 _ rfl; (with_reducible repeat (first | refine blk_drewN ?_ _ | refine blk_drew ?_ | refine blk_alloc ?_ _)); refine blk_put (cs := #[.int .i64 t105, .int .i64 0, .slice none 0 0]) ?_ 1 _ rfl; (with_reducible repeat (first | refine blk_drewN ?_ _ | refine blk_drew ?_ | refine blk_alloc ?_ _)); refine blk_put (cs := #[.int .i64 0, .int .i64 0, .slice none 0 0]) ?_ 0 _ rfl; (with_reducible repeat (first | refine blk_drewN ?_ _ | refine blk_drew ?_ | refine blk_alloc ?_ _)); exact BK111.out)) (below_size (pS HB.out))); have n3_ := aK (blk_below (g := gb111) (o := .cells #[.int .i64 t105, .int .i64 t106, .slice Ao17 t107.length co17] 24 (0, 0)) (by (with_reducible repeat (first | refine blk_drewN ?_ _ | refine blk_drew ?_ | refine blk_alloc ?_ _)); refine blk_put (cs := #[.int .i64 t105, .int .i64 t106, .slice none 0 0]) ?_ 2 _ rfl; (with_reducible repeat (first | refine blk_drewN ?_ _ | refine blk_drew ?_ | refine blk_alloc ?_ _)); refine blk_put (cs := #[.int .i64 t105, .int .i64 0, .slice none 0 0]) ?_ 1 _ rfl; (with_reducible repeat (first | refine blk_drewN ?_ _ | refine blk_drew ?_ | refine blk_alloc ?_ _)); refine blk_put (cs := #[.int .i64 0, .int .i64 0, .slice none 0 0]) ?_ 0 _ rfl; (with_reducible repeat (first | refine blk_drewN ?_ _ | refine blk_drew ?_ | refine blk_alloc ?_ _)); exact BK111.out) hb); replace HB := bS HB hb; clear HO104 HO109 BK111; have HO104 := n0_; have HO109 := n1_; have BK111 := n3_; clear n0_ n1_ n3_; (try clear hb); (try clear hb2); (try clear hk); (try clear hi); (try clear ho0); obtain ⟨Ao19, co19, eo19⟩ := Kd.S_slice HO114.out; subst eo19) | ((with_reducible refine gate_callee (f := 20) rfl ?_); refine goesL_ (some 33) rfl rfl Try.func20 (by kernel_rfl) rfl #[.slice Ao19 t112.length co19, .int .i64 a1] rfl (by (try simp only [List.map_toArray, List.map_cons, List.map_nil]); first | done | rfl | (simp only [List.length_drop, List.length_take]; rfl)) ?_; (with_reducible refine (impl_CountAtLeast.calls k _ _ t112 a1 t115 t116 t117 t120 _ ?side1 ?side2 A9.out).mono ?_); (case side1 => repeat (first | exact (Kd.S_reads' HO114.out).2.2 | (with_reducible refine Kd.C_alloc ?_ _) | (with_reducible refine Kd.C_drewN ?_ _) | (with_reducible refine Kd.C_drew ?_))); (case side2 => exact (Kd.S_reads' HO114.out).2.1); rintro e w20 ⟨v118, rfl, ho0, hb⟩; refine ⟨_, rfl, ?_⟩; have n0_ := aK (Kd.S_elder' (by (with_reducible repeat (first | apply Kd.S_alloc | apply Kd.S_drewN | apply Kd.S_drew)); exact HO104.out) (Kd.R_base ho0) hb); have n1_ := aK (Kd.R_elder' (pR HO109.out) (Kd.R_base ho0) hb); have n2_ := aK (Kd.S_elder' (by (with_reducible repeat (first | apply Kd.S_alloc | apply Kd.S_drewN | apply Kd.S_drew)); exact HO114.out) (Kd.R_base ho0) hb); have HO119 := aK (Kd.R_lower (Kd.R_new' ho0 (Kd.R_lt (pR HO109.out))) (below_size (pS HB.out))); replace BK111 := bB BK111 hb; replace HB := bS HB hb; clear HO104 HO109 HO114; have HO104 := n0_; have HO109 := n1_; have HO114 := n2_; clear n0_ n1_ n2_; (try clear hb); (try clear hb2); (try clear hk); (try clear hi); (try clear ho0)) | ((with_reducible refine gate_dst (N := 9) rfl ?_); refine box_event ?hg (N := 9) ?hd (cs := #[.int .i64 0, .int .i64 0, .slice none 0 0]) (t := 24) ?hr ?_; (case hd => rfl); (case hg => rfl); (case hr => first | (go_simp; done) | (go_simp; rfl)); intro gb121 hg w21 hbox hb; have n0_ := aK (Kd.S_below (Kd.S_elderB (by (with_reducible repeat (first | apply Kd.S_alloc | apply Kd.S_drewN | apply Kd.S_drew)); exact HO104.out) gb121 (Nat.le_of_eq hg.symm)) hb); have n1_ := aK (Kd.R_below (pR HO109.out) hb); have n2_ := aK (Kd.S_below (Kd.S_elderB (by (with_reducible repeat (first | apply Kd.S_alloc | apply Kd.S_drewN | apply Kd.S_drew)); exact HO114.out) gb121 (Nat.le_of_eq hg.symm)) hb); have n3_ := aK (Kd.R_below (pR HO119.out) hb); have BK121 := aK (hbox); have GW121 := aK (gE hg (pS HB.out)); have GE121 := aK (gE hg (pS HB.out)); have NB111_121 := aK (nL hg (pB BK111.out)); have NB121_111 := aK (nG hg (pB BK111.out)); replace BK111 := bB BK111 hb; replace HB := bS HB hb; clear HO104 HO109 HO114 HO119; have HO104 := n0_; have HO109 := n1_; have HO114 := n2_; have HO119 := n3_; clear n0_ n1_ n2_ n3_ hb hbox hg; have hnb22 := NB121_111.out; have hnc22 := NB111_121.out; have hcz23_0 : w21.cell? ⟨gb121, 0, none⟩ = some (.int .i64 0) := (blk_cell BK121.out 0).trans rfl; have hcz23_1 : w21.cell? ⟨gb121, 1, none⟩ = some (.int .i64 0) := (blk_cell BK121.out 1).trans rfl; have hcz23_2 : w21.cell? ⟨gb121, 2, none⟩ = some (.slice none 0 0) := (blk_cell BK121.out 2).trans rfl; have hfz23_0 := blk_frozen BK121.out 0; have hfz23_1 := blk_frozen BK121.out 1; have hfz23_2 := blk_frozen BK121.out 2; obtain ⟨Ao24, co24, eo24⟩ := Kd.R_slice HO119.out; subst eo24))
  (try simp only [Act.put, List.setIfInBounds_toArray, List.set_cons_zero, List.set_cons_succ])
  go_cut [44] (fun v44 wc => ∃ (kq : Nat) (x44_9 : Bool), v44 = .bool x44_9 ∧ Aside0 (laws_FnExactCountAtLeast.j0 kq l0 a1 t110 t112 t120 x44_9 t105 t106 t107 t115 t116 t117 = some r) ∧ Aside0 (kq ≤ k) ∧ Aside0 (Kd.S k24 24 wc w.heap.size (fun k_ => some k_ ≠ ((.slice Ao17 t107.length co17) : Value).ownBlock ∧ some k_ ≠ ((.slice Ao24 t117.length co24) : Value).ownBlock ∧ k_ ≠ gb111 ∧ k_ ≠ gb121) (.slice Ao19 t112.length co19) t112) ∧ Aside0 (Kd.R (Kd.int .i64) 3 wc w.heap.size (fun k_ => some k_ ≠ ((.slice Ao24 t117.length co24) : Value).ownBlock) (.slice Ao17 t107.length co17) t107) ∧ Aside0 (Kd.R (Kd.int .i64) 3 wc w.heap.size (fun k_ => some k_ ≠ ((.slice Ao17 t107.length co17) : Value).ownBlock) (.slice Ao24 t117.length co24) t117) ∧ Aside0 (wc.heap[gb111]? = some (.cells #[.int .i64 t105, .int .i64 t106, (.slice Ao17 t107.length co17)] 24 (0, 0))) ∧ Aside0 (wc.heap[gb121]? = some (.cells #[.int .i64 t115, .int .i64 t116, (.slice Ao24 t117.length co24)] 24 (0, 0))) ∧ Aside0 (Below w.heap.size w wc))
  case first =>
   have H := HC10.out
   clear HC10
   replace H := Option.bind_eq_some_iff.mp H
   obtain ⟨t122, A250, H⟩ := H
   replace H : (if t122 = true then (laws_FnExactCountAtLeast.j0 k l0 a1 t110 t112 t120 (t120 != t110) t105 t106 t107 t115 t116 t117) else (laws_FnExactCountAtLeast.j0 k l0 a1 t110 t112 t120 true t105 t106 t107 t115 t116 t117)) = some r := H
   have A25 := Aside0.mk A250
   clear A250
   by_cases c26 : t122 = true
   ·
    subst c26
    have H1 : (laws_FnExactCountAtLeast.j0 k l0 a1 t110 t112 t120 (t120 != t110) t105 t106 t107 t115 t116 t117) = some r := by rw [if_pos rfl] at H; exact H
    clear H
    have H := H1
    clear H1
    have H' := Aside0.mk H
    clear H
    have hnb27 := NB121_111.out
    have hnc27 := NB111_121.out
    have hcz28_0 : w21.cell? ⟨gb121, 0, none⟩ = some (.int .i64 0) := (blk_cell BK121.out 0).trans rfl
    have hcz28_1 : w21.cell? ⟨gb121, 1, none⟩ = some (.int .i64 0) := (blk_cell BK121.out 1).trans rfl
    have hcz28_2 : w21.cell? ⟨gb121, 2, none⟩ = some (.slice none 0 0) := (blk_cell BK121.out 2).trans rfl
    have hfz28_0 := blk_frozen BK121.out 0
    have hfz28_1 := blk_frozen BK121.out 1
    have hfz28_2 := blk_frozen BK121.out 2
    have hcz29_0 : w21.cell? ⟨gb111, 0, none⟩ = some (.int .i64 t105) := (blk_cell BK111.out 0).trans rfl
    have hcz29_1 : w21.cell? ⟨gb111, 1, none⟩ = some (.int .i64 t106) := (blk_cell BK111.out 1).trans rfl
    have hcz29_2 : w21.cell? ⟨gb111, 2, none⟩ = some (.slice Ao17 t107.length co17) := (blk_cell BK111.out 2).trans rfl
    have hfz29_0 := blk_frozen BK111.out 0
    have hfz29_1 := blk_frozen BK111.out 1
    have hfz29_2 := blk_frozen BK111.out 2
    go_wp2_with (first | ((with_reducible refine gate_callee (f := 21) rfl ?_); refine goesL_ (some 38) rfl rfl Try.func21 (by kernel_rfl) rfl #[.agg #[.int .i64 t115, .int .i64 t116, .slice Ao24 t117.length co24], .agg #[.int .i64 t105, .int .i64 t106, .slice Ao17 t107.length co17]] rfl (by (try simp only [List.map_toArray, List.map_cons, List.map_nil]); first | done | rfl | (simp only [List.length_drop, List.length_take]; rfl)) ?_; (with_reducible refine (laws_eqField.calls k t115 t116 _ _ t117 t105 t106 _ _ t107 true _ ?side1 ?side2 ?side3 ?side4 A25.out).mono ?_); (case side1 => refine (Kd.R_reads' (e := 3) (base := w.heap.size) (ok := fun k_ => (True ∧ some k_ ≠ (.slice Ao17 t107.length co17 : Value).ownBlock)) (n := t117.length) (c := co24) ?_).2.2; exact (pR ((Kd.R_mono (Kd.R_far (p := ⟨gb121, 2, none⟩) (Kd.R_far (p := ⟨gb121, 1, none⟩) (Kd.R_far (p := ⟨gb121, 0, none⟩) (Kd.R_types HO119.out BK121.out (by decide)) (fun _ hk => hk.2) (.int .i64 t115)) (fun _ hk => hk.2) (.int .i64 t116)) (fun _ hk => hk.2) (.slice Ao24 t117.length co24)) (fun _ h_ => h_.1))))); (case side2 => exact (Kd.R_reads' HO119.out).2.1); (case side3 => refine (Kd.R_reads' (e := 3) (base := w.heap.size) (ok := fun k_ => (True ∧ some k_ ≠ (.slice Ao24 t117.length co24 : Value).ownBlock)) (n := t107.length) (c := co17) ?_).2.2; exact (pR ((Kd.R_mono (Kd.R_far (p := ⟨gb121, 2, none⟩) (Kd.R_far (p := ⟨gb121, 1, none⟩) (Kd.R_far (p := ⟨gb121, 0, none⟩) (Kd.R_types HO109.out BK121.out (by decide)) (fun _ hk => hk.2) (.int .i64 t115)) (fun _ hk => hk.2) (.int .i64 t116)) (fun _ hk => hk.2) (.slice Ao24 t117.length co24)) (fun _ h_ => h_.1))))); (case side4 => exact (Kd.R_reads' HO109.out).2.1); rintro e w30 ⟨rfl, hb⟩; refine ⟨_, rfl, ?_⟩; have n0_ := aK (Kd.S_below (by (with_reducible repeat (first | apply Kd.S_alloc | apply Kd.S_drewN | apply Kd.S_drew)); exact (Kd.S_mono (Kd.S_far (p := ⟨gb121, 2, none⟩) (Kd.S_far (p := ⟨gb121, 1, none⟩) (Kd.S_far (p := ⟨gb121, 0, none⟩) (Kd.S_mono HO104.out (fun k_ hk => (⟨hk, hk.2⟩ : _ ∧ k_ ≠ gb121))) (fun _ hk => hk.2) (.int .i64 t115)) (fun _ hk => hk.2) (.int .i64 t116)) (fun _ hk => hk.2) (.slice Ao24 t117.length co24)) (fun _ h_ => h_.1))) hb); have n1_ := aK (Kd.R_below (pR ((Kd.R_mono (Kd.R_far (p := ⟨gb121, 2, none⟩) (Kd.R_far (p := ⟨gb121, 1, none⟩) (Kd.R_far (p := ⟨gb121, 0, none⟩) (Kd.R_types HO109.out BK121.out (by decide)) (fun _ hk => hk.2) (.int .i64 t115)) (fun _ hk => hk.2) (.int .i64 t116)) (fun _ hk => hk.2) (.slice Ao24 t117.length co24)) (fun _ h_ => h_.1)))) hb); have n2_ := aK (Kd.S_below (by (with_reducible repeat (first | apply Kd.S_alloc | apply Kd.S_drewN | apply Kd.S_drew)); exact (Kd.S_mono (Kd.S_far (p := ⟨gb121, 2, none⟩) (Kd.S_far (p := ⟨gb121, 1, none⟩) (Kd.S_far (p := ⟨gb121, 0, none⟩) (Kd.S_mono HO114.out (fun k_ hk => (⟨hk, hk.2⟩ : _ ∧ k_ ≠ gb121))) (fun _ hk => hk.2) (.int .i64 t115)) (fun _ hk => hk.2) (.int .i64 t116)) (fun _ hk => hk.2) (.slice Ao24 t117.length co24)) (fun _ h_ => h_.1))) hb); have n3_ := aK (Kd.R_below (pR ((Kd.R_mono (Kd.R_far (p := ⟨gb121, 2, none⟩) (Kd.R_far (p := ⟨gb121, 1, none⟩) (Kd.R_far (p := ⟨gb121, 0, none⟩) (Kd.R_types HO119.out BK121.out (by decide)) (fun _ hk => hk.2) (.int .i64 t115)) (fun _ hk => hk.2) (.int .i64 t116)) (fun _ hk => hk.2) (.slice Ao24 t117.length co24)) (fun _ h_ => h_.1)))) hb); have n4_ := aK (blk_below (g := gb111) (o := .cells #[.int .i64 t105, .int .i64 t106, .slice Ao17 t107.length co17] 24 (0, 0)) (by (with_reducible repeat (first | refine blk_drewN ?_ _ | refine blk_drew ?_ | refine blk_alloc ?_ _)); refine blk_far ?_ NB111_121.out _; (with_reducible repeat (first | refine blk_drewN ?_ _ | refine blk_drew ?_ | refine blk_alloc ?_ _)); refine blk_far ?_ NB111_121.out _; (with_reducible repeat (first | refine blk_drewN ?_ _ | refine blk_drew ?_ | refine blk_alloc ?_ _)); refine blk_far ?_ NB111_121.out _; (with_reducible repeat (first | refine blk_drewN ?_ _ | refine blk_drew ?_ | refine blk_alloc ?_ _)); exact BK111.out) hb); have n5_ := aK (blk_below (g := gb121) (o := .cells #[.int .i64 t115, .int .i64 t116, .slice Ao24 t117.length co24] 24 (0, 0)) (by (with_reducible repeat (first | refine blk_drewN ?_ _ | refine blk_drew ?_ | refine blk_alloc ?_ _)); refine blk_put (cs := #[.int .i64 t115, .int .i64 t116, .slice none 0 0]) ?_ 2 _ rfl; (with_reducible repeat (first | refine blk_drewN ?_ _ | refine blk_drew ?_ | refine blk_alloc ?_ _)); refine blk_put (cs := #[.int .i64 t115, .int .i64 0, .slice none 0 0]) ?_ 1 _ rfl; (with_reducible repeat (first | refine blk_drewN ?_ _ | refine blk_drew ?_ | refine blk_alloc ?_ _)); refine blk_put (cs := #[.int .i64 0, .int .i64 0, .slice none 0 0]) ?_ 0 _ rfl; (with_reducible repeat (first | refine blk_drewN ?_ _ | refine blk_drew ?_ | refine blk_alloc ?_ _)); exact BK121.out) hb); replace HB := bS HB hb; clear HO104 HO109 HO114 HO119 BK111 BK121; have HO104 := n0_; have HO109 := n1_; have HO114 := n2_; have HO119 := n3_; have BK111 := n4_; have BK121 := n5_; clear n0_ n1_ n2_ n3_ n4_ n5_; (try clear hb); (try clear hb2); (try clear hk); (try clear hi)))
    go_meet
    case rel => exact ⟨_, ((t120 != t110)), (by first | rfl | (simp; done) | (simp [*]; done)), H', ⟨by first | omega | exact Nat.le_refl _⟩, ⟨by (with_reducible repeat (first | apply Kd.S_alloc | apply Kd.S_drewN | apply Kd.S_drew)); exact Kd.S_mono HO114.out (fun _ hk => ⟨hk.1.1.1.2, ⟨hk.1.2, ⟨hk.1.1.2, hk.2⟩⟩⟩)⟩, ⟨by (with_reducible repeat (first | apply Kd.R_alloc | apply Kd.R_drewN | apply Kd.R_drew)); exact Kd.R_mono HO109.out (fun _ hk => hk.2)⟩, ⟨by (with_reducible repeat (first | apply Kd.R_alloc | apply Kd.R_drewN | apply Kd.R_drew)); exact Kd.R_mono HO119.out (fun _ hk => hk.2)⟩, ⟨by (with_reducible repeat (first | refine blk_drewN ?_ _ | refine blk_drew ?_ | refine blk_alloc ?_ _)); exact BK111.out⟩, ⟨by (with_reducible repeat (first | refine blk_drewN ?_ _ | refine blk_drew ?_ | refine blk_alloc ?_ _)); exact BK121.out⟩, ⟨by repeat (first | (with_reducible first | exact HB.out | apply below_alloc | apply pw_below_drewN | apply below_drew1 | refine below_set ?_ GE111.out | refine below_set ?_ GE121.out) | exact HB.out)⟩⟩
   ·
    replace c26 := Bool.eq_false_iff.mpr c26
    subst c26
    have H1 : (laws_FnExactCountAtLeast.j0 k l0 a1 t110 t112 t120 true t105 t106 t107 t115 t116 t117) = some r := by rw [if_neg (show ¬ (false = true) by decide)] at H; exact H
    clear H
    have H := H1
    clear H1
    have H' := Aside0.mk H
    clear H
    have hnb31 := NB121_111.out
    have hnc31 := NB111_121.out
    have hcz32_0 : w21.cell? ⟨gb121, 0, none⟩ = some (.int .i64 0) := (blk_cell BK121.out 0).trans rfl
    have hcz32_1 : w21.cell? ⟨gb121, 1, none⟩ = some (.int .i64 0) := (blk_cell BK121.out 1).trans rfl
    have hcz32_2 : w21.cell? ⟨gb121, 2, none⟩ = some (.slice none 0 0) := (blk_cell BK121.out 2).trans rfl
    have hfz32_0 := blk_frozen BK121.out 0
    have hfz32_1 := blk_frozen BK121.out 1
    have hfz32_2 := blk_frozen BK121.out 2
    have hcz33_0 : w21.cell? ⟨gb111, 0, none⟩ = some (.int .i64 t105) := (blk_cell BK111.out 0).trans rfl
    have hcz33_1 : w21.cell? ⟨gb111, 1, none⟩ = some (.int .i64 t106) := (blk_cell BK111.out 1).trans rfl
    have hcz33_2 : w21.cell? ⟨gb111, 2, none⟩ = some (.slice Ao17 t107.length co17) := (blk_cell BK111.out 2).trans rfl
    have hfz33_0 := blk_frozen BK111.out 0
    have hfz33_1 := blk_frozen BK111.out 1
    have hfz33_2 := blk_frozen BK111.out 2
    go_wp2_with (first | ((with_reducible refine gate_callee (f := 21) rfl ?_); refine goesL_ (some 38) rfl rfl Try.func21 (by kernel_rfl) rfl #[.agg #[.int .i64 t115, .int .i64 t116, .slice Ao24 t117.length co24], .agg #[.int .i64 t105, .int .i64 t106, .slice Ao17 t107.length co17]] rfl (by (try simp only [List.map_toArray, List.map_cons, List.map_nil]); first | done | rfl | (simp only [List.length_drop, List.length_take]; rfl)) ?_; (with_reducible refine (laws_eqField.calls k t115 t116 _ _ t117 t105 t106 _ _ t107 false _ ?side1 ?side2 ?side3 ?side4 A25.out).mono ?_); (case side1 => refine (Kd.R_reads' (e := 3) (base := w.heap.size) (ok := fun k_ => (True ∧ some k_ ≠ (.slice Ao17 t107.length co17 : Value).ownBlock)) (n := t117.length) (c := co24) ?_).2.2; exact (pR ((Kd.R_mono (Kd.R_far (p := ⟨gb121, 2, none⟩) (Kd.R_far (p := ⟨gb121, 1, none⟩) (Kd.R_far (p := ⟨gb121, 0, none⟩) (Kd.R_types HO119.out BK121.out (by decide)) (fun _ hk => hk.2) (.int .i64 t115)) (fun _ hk => hk.2) (.int .i64 t116)) (fun _ hk => hk.2) (.slice Ao24 t117.length co24)) (fun _ h_ => h_.1))))); (case side2 => exact (Kd.R_reads' HO119.out).2.1); (case side3 => refine (Kd.R_reads' (e := 3) (base := w.heap.size) (ok := fun k_ => (True ∧ some k_ ≠ (.slice Ao24 t117.length co24 : Value).ownBlock)) (n := t107.length) (c := co17) ?_).2.2; exact (pR ((Kd.R_mono (Kd.R_far (p := ⟨gb121, 2, none⟩) (Kd.R_far (p := ⟨gb121, 1, none⟩) (Kd.R_far (p := ⟨gb121, 0, none⟩) (Kd.R_types HO109.out BK121.out (by decide)) (fun _ hk => hk.2) (.int .i64 t115)) (fun _ hk => hk.2) (.int .i64 t116)) (fun _ hk => hk.2) (.slice Ao24 t117.length co24)) (fun _ h_ => h_.1))))); (case side4 => exact (Kd.R_reads' HO109.out).2.1); rintro e w34 ⟨rfl, hb⟩; refine ⟨_, rfl, ?_⟩; have n0_ := aK (Kd.S_below (by (with_reducible repeat (first | apply Kd.S_alloc | apply Kd.S_drewN | apply Kd.S_drew)); exact (Kd.S_mono (Kd.S_far (p := ⟨gb121, 2, none⟩) (Kd.S_far (p := ⟨gb121, 1, none⟩) (Kd.S_far (p := ⟨gb121, 0, none⟩) (Kd.S_mono HO104.out (fun k_ hk => (⟨hk, hk.2⟩ : _ ∧ k_ ≠ gb121))) (fun _ hk => hk.2) (.int .i64 t115)) (fun _ hk => hk.2) (.int .i64 t116)) (fun _ hk => hk.2) (.slice Ao24 t117.length co24)) (fun _ h_ => h_.1))) hb); have n1_ := aK (Kd.R_below (pR ((Kd.R_mono (Kd.R_far (p := ⟨gb121, 2, none⟩) (Kd.R_far (p := ⟨gb121, 1, none⟩) (Kd.R_far (p := ⟨gb121, 0, none⟩) (Kd.R_types HO109.out BK121.out (by decide)) (fun _ hk => hk.2) (.int .i64 t115)) (fun _ hk => hk.2) (.int .i64 t116)) (fun _ hk => hk.2) (.slice Ao24 t117.length co24)) (fun _ h_ => h_.1)))) hb); have n2_ := aK (Kd.S_below (by (with_reducible repeat (first | apply Kd.S_alloc | apply Kd.S_drewN | apply Kd.S_drew)); exact (Kd.S_mono (Kd.S_far (p := ⟨gb121, 2, none⟩) (Kd.S_far (p := ⟨gb121, 1, none⟩) (Kd.S_far (p := ⟨gb121, 0, none⟩) (Kd.S_mono HO114.out (fun k_ hk => (⟨hk, hk.2⟩ : _ ∧ k_ ≠ gb121))) (fun _ hk => hk.2) (.int .i64 t115)) (fun _ hk => hk.2) (.int .i64 t116)) (fun _ hk => hk.2) (.slice Ao24 t117.length co24)) (fun _ h_ => h_.1))) hb); have n3_ := aK (Kd.R_below (pR ((Kd.R_mono (Kd.R_far (p := ⟨gb121, 2, none⟩) (Kd.R_far (p := ⟨gb121, 1, none⟩) (Kd.R_far (p := ⟨gb121, 0, none⟩) (Kd.R_types HO119.out BK121.out (by decide)) (fun _ hk => hk.2) (.int .i64 t115)) (fun _ hk => hk.2) (.int .i64 t116)) (fun _ hk => hk.2) (.slice Ao24 t117.length co24)) (fun _ h_ => h_.1)))) hb); have n4_ := aK (blk_below (g := gb111) (o := .cells #[.int .i64 t105, .int .i64 t106, .slice Ao17 t107.length co17] 24 (0, 0)) (by (with_reducible repeat (first | refine blk_drewN ?_ _ | refine blk_drew ?_ | refine blk_alloc ?_ _)); refine blk_far ?_ NB111_121.out _; (with_reducible repeat (first | refine blk_drewN ?_ _ | refine blk_drew ?_ | refine blk_alloc ?_ _)); refine blk_far ?_ NB111_121.out _; (with_reducible repeat (first | refine blk_drewN ?_ _ | refine blk_drew ?_ | refine blk_alloc ?_ _)); refine blk_far ?_ NB111_121.out _; (with_reducible repeat (first | refine blk_drewN ?_ _ | refine blk_drew ?_ | refine blk_alloc ?_ _)); exact BK111.out) hb); have n5_ := aK (blk_below (g := gb121) (o := .cells #[.int .i64 t115, .int .i64 t116, .slice Ao24 t117.length co24] 24 (0, 0)) (by (with_reducible repeat (first | refine blk_drewN ?_ _ | refine blk_drew ?_ | refine blk_alloc ?_ _)); refine blk_put (cs := #[.int .i64 t115, .int .i64 t116, .slice none 0 0]) ?_ 2 _ rfl; (with_reducible repeat (first | refine blk_drewN ?_ _ | refine blk_drew ?_ | refine blk_alloc ?_ _)); refine blk_put (cs := #[.int .i64 t115, .int .i64 0, .slice none 0 0]) ?_ 1 _ rfl; (with_reducible repeat (first | refine blk_drewN ?_ _ | refine blk_drew ?_ | refine blk_alloc ?_ _)); refine blk_put (cs := #[.int .i64 0, .int .i64 0, .slice none 0 0]) ?_ 0 _ rfl; (with_reducible repeat (first | refine blk_drewN ?_ _ | refine blk_drew ?_ | refine blk_alloc ?_ _)); exact BK121.out) hb); replace HB := bS HB hb; clear HO104 HO109 HO114 HO119 BK111 BK121; have HO104 := n0_; have HO109 := n1_; have HO114 := n2_; have HO119 := n3_; have BK111 := n4_; have BK121 := n5_; clear n0_ n1_ n2_ n3_ n4_ n5_; (try clear hb); (try clear hb2); (try clear hk); (try clear hi)))
    go_meet
    case rel => exact ⟨_, (true), (by first | rfl | (simp; done) | (simp [*]; done)), H', ⟨by first | omega | exact Nat.le_refl _⟩, ⟨by (with_reducible repeat (first | apply Kd.S_alloc | apply Kd.S_drewN | apply Kd.S_drew)); exact Kd.S_mono HO114.out (fun _ hk => ⟨hk.1.1.1.2, ⟨hk.1.2, ⟨hk.1.1.2, hk.2⟩⟩⟩)⟩, ⟨by (with_reducible repeat (first | apply Kd.R_alloc | apply Kd.R_drewN | apply Kd.R_drew)); exact Kd.R_mono HO109.out (fun _ hk => hk.2)⟩, ⟨by (with_reducible repeat (first | apply Kd.R_alloc | apply Kd.R_drewN | apply Kd.R_drew)); exact Kd.R_mono HO119.out (fun _ hk => hk.2)⟩, ⟨by (with_reducible repeat (first | refine blk_drewN ?_ _ | refine blk_drew ?_ | refine blk_alloc ?_ _)); exact BK111.out⟩, ⟨by (with_reducible repeat (first | refine blk_drewN ?_ _ | refine blk_drew ?_ | refine blk_alloc ?_ _)); exact BK121.out⟩, ⟨by repeat (first | (with_reducible first | exact HB.out | apply below_alloc | apply pw_below_drewN | apply below_drew1 | refine below_set ?_ GE111.out | refine below_set ?_ GE121.out) | exact HB.out)⟩⟩
  case rest =>
   clear HC10
   try clear c1
   try clear c2
   try clear p2
   try clear c3
   try clear c4
   try clear c4b0
   try clear c17
   try clear c18
   try clear c19
   try clear c20
   try clear c21
   try clear c22
   try clear c26
   try clear c27
   try clear c31
   try clear hcz16_0
   try clear hcz16_1
   try clear hcz16_2
   try clear hcz23_0
   try clear hcz23_1
   try clear hcz23_2
   try clear hcz28_0
   try clear hcz28_1
   try clear hcz28_2
   try clear hcz29_0
   try clear hcz29_1
   try clear hcz29_2
   try clear hcz32_0
   try clear hcz32_1
   try clear hcz32_2
   try clear hcz33_0
   try clear hcz33_1
   try clear hcz33_2
   try clear hfz16_0
   try clear hfz16_1
   try clear hfz16_2
   try clear hfz23_0
   try clear hfz23_1
   try clear hfz23_2
   try clear hfz28_0
   try clear hfz28_1
   try clear hfz28_2
   try clear hfz29_0
   try clear hfz29_1
   try clear hfz29_2
   try clear hfz32_0
   try clear hfz32_1
   try clear hfz32_2
   try clear hfz33_0
   try clear hfz33_1
   try clear hfz33_2
   obtain ⟨kq, x44_9, rfl, HA, HJ9, HO_8, HO_112002, HO_122002, BK111, BK121, HB⟩ := hcut
   cases kq with
   | zero => exact absurd HA.out (by simp [laws_FnExactCountAtLeast.j0])
   | succ kj9 =>
    have H := HA.out
    clear HA
    simp only [laws_FnExactCountAtLeast.j0] at H
    by_cases c35 : x44_9 = true
    ·
     subst c35
     have H1 : (some false) = some r := by rw [if_pos rfl] at H; exact H
     clear H
     have H := H1
     clear H1
     obtain rfl := Option.some.inj H
     go_wp2
     go_ret
     exact ⟨by first | rfl | (simp [errW_none, errW_some] <;> rfl) | (simp [*, errW_none, errW_some] <;> rfl), by repeat (first | (with_reducible first | exact HB.out | apply below_alloc | apply pw_below_drewN | apply below_drew1 | refine below_set ?_ GE111.out | refine below_set ?_ GE121.out) | exact HB.out)⟩
    ·
     replace c35 := Bool.eq_false_iff.mpr c35
     subst c35
     have H1 : ((laws_toFieldS.f kj9 l0).bind fun t123 => ((laws_eqFieldS.f kj9 t112 t123).bind fun t126 => (if t126 = true then ((laws_markFieldS.f kj9 t112 1).bind fun bt127 => (if bt127.1 < 0 then (laws_FnExactCountAtLeast.j1 kj9 l0 a1 t110 true t105 t106 t107 t115 t116 t117) else ((laws_eqField.f kj9 t115 t116 t117 t105 t106 t107).bind fun t129 => (if t129 = true then (laws_FnExactCountAtLeast.j1 kj9 l0 a1 t110 (t120 != t110) t105 t106 t107 t115 t116 t117) else (laws_FnExactCountAtLeast.j1 kj9 l0 a1 t110 true t105 t106 t107 t115 t116 t117))))) else (some false)))) = some r := by rw [if_neg (show ¬ (false = true) by decide)] at H; exact H
     clear H
     have H := H1
     clear H1
     replace H := Option.bind_eq_some_iff.mp H
     obtain ⟨t123, A360, H⟩ := H
     replace H : ((laws_eqFieldS.f kj9 t112 t123).bind fun t126 => (if t126 = true then ((laws_markFieldS.f kj9 t112 1).bind fun bt127 => (if bt127.1 < 0 then (laws_FnExactCountAtLeast.j1 kj9 l0 a1 t110 true t105 t106 t107 t115 t116 t117) else ((laws_eqField.f kj9 t115 t116 t117 t105 t106 t107).bind fun t129 => (if t129 = true then (laws_FnExactCountAtLeast.j1 kj9 l0 a1 t110 (t120 != t110) t105 t106 t107 t115 t116 t117) else (laws_FnExactCountAtLeast.j1 kj9 l0 a1 t110 true t105 t106 t107 t115 t116 t117))))) else (some false))) = some r := H
     have A36 := Aside0.mk A360
     clear A360
     replace H := Option.bind_eq_some_iff.mp H
     obtain ⟨t126, A370, H⟩ := H
     replace H : (if t126 = true then ((laws_markFieldS.f kj9 t112 1).bind fun bt127 => (if bt127.1 < 0 then (laws_FnExactCountAtLeast.j1 kj9 l0 a1 t110 true t105 t106 t107 t115 t116 t117) else ((laws_eqField.f kj9 t115 t116 t117 t105 t106 t107).bind fun t129 => (if t129 = true then (laws_FnExactCountAtLeast.j1 kj9 l0 a1 t110 (t120 != t110) t105 t106 t107 t115 t116 t117) else (laws_FnExactCountAtLeast.j1 kj9 l0 a1 t110 true t105 t106 t107 t115 t116 t117))))) else (some false)) = some r := H
     have A37 := Aside0.mk A370
     clear A370
     by_cases c38 : t126 = true
     ·
      subst c38
      have H1 : ((laws_markFieldS.f kj9 t112 1).bind fun bt127 => (if bt127.1 < 0 then (laws_FnExactCountAtLeast.j1 kj9 l0 a1 t110 true t105 t106 t107 t115 t116 t117) else ((laws_eqField.f kj9 t115 t116 t117 t105 t106 t107).bind fun t129 => (if t129 = true then (laws_FnExactCountAtLeast.j1 kj9 l0 a1 t110 (t120 != t110) t105 t106 t107 t115 t116 t117) else (laws_FnExactCountAtLeast.j1 kj9 l0 a1 t110 true t105 t106 t107 t115 t116 t117))))) = some r := by rw [if_pos rfl] at H; exact H
      clear H
      have H := H1
      clear H1
      replace H := Option.bind_eq_some_iff.mp H
      obtain ⟨⟨t127, t128⟩, A390, H⟩ := H
      replace H : (if t127 < 0 then (laws_FnExactCountAtLeast.j1 kj9 l0 a1 t110 true t105 t106 t107 t115 t116 t117) else ((laws_eqField.f kj9 t115 t116 t117 t105 t106 t107).bind fun t129 => (if t129 = true then (laws_FnExactCountAtLeast.j1 kj9 l0 a1 t110 (t120 != t110) t105 t106 t107 t115 t116 t117) else (laws_FnExactCountAtLeast.j1 kj9 l0 a1 t110 true t105 t106 t107 t115 t116 t117)))) = some r := H
      have A39 := Aside0.mk A390
      clear A390
      have HC40 := Aside0.mk H
      clear H
      go_upto_region 14 with (first | ((with_reducible refine gate_callee (f := 19) rfl ?_); refine goesL_ (some 47) rfl rfl Try.func19 (by kernel_rfl) rfl #[.slice A0 l0.length c0] rfl (by (try simp only [List.map_toArray, List.map_cons, List.map_nil]); first | done | rfl | (simp only [List.length_drop, List.length_take]; rfl)) ?_; (with_reducible refine (laws_toFieldS.calls kj9 _ _ l0 t123 _ ?side1 ?side2 A36.out).mono ?_); (case side1 => repeat (first | exact (Kd.C_below HR0.out HB.out) | (with_reducible refine Kd.C_alloc ?_ _) | (with_reducible refine Kd.C_drewN ?_ _) | (with_reducible refine Kd.C_drew ?_))); (case side2 => exact HC0.out); rintro e w41 ⟨v124, rfl, ho0, hb⟩; refine ⟨_, rfl, ?_⟩; have n0_ := aK (Kd.S_elder' (by (with_reducible repeat (first | apply Kd.S_alloc | apply Kd.S_drewN | apply Kd.S_drew)); exact HO_8.out) (Kd.S_base ho0) hb); have n1_ := aK (Kd.R_below (pR HO_112002.out) hb); have n2_ := aK (Kd.R_below (pR HO_122002.out) hb); have HO125 := aK (Kd.S_lower (Kd.S_newB (Kd.S_newB (Kd.S_new' (Kd.S_new' (Kd.S_new' ho0 (Kd.S_lt (by (with_reducible repeat (first | apply Kd.S_alloc | apply Kd.S_drewN | apply Kd.S_drew)); exact HO_8.out))) (Kd.R_lt (pR HO_112002.out))) (Kd.R_lt (pR HO_122002.out))) (g := gb111) (o := .cells #[.int .i64 t105, .int .i64 t106, .slice Ao17 t107.length co17] 24 (0, 0)) (pB BK111.out)) (g := gb121) (o := .cells #[.int .i64 t115, .int .i64 t116, .slice Ao24 t117.length co24] 24 (0, 0)) (pB BK121.out)) (below_size (pS HB.out))); replace BK111 := bB BK111 hb; replace BK121 := bB BK121 hb; replace HB := bS HB hb; clear HO_8 HO_112002 HO_122002; have HO_8 := n0_; have HO_112002 := n1_; have HO_122002 := n2_; clear n0_ n1_ n2_; (try clear hb); (try clear hb2); (try clear hk); (try clear hi); (try clear ho0); obtain ⟨Ao42, co42, eo42⟩ := Kd.S_slice HO125.out; subst eo42) | ((with_reducible refine gate_callee (f := 22) rfl ?_); refine goesL_ (some 48) rfl rfl Try.func22 (by kernel_rfl) rfl #[.slice Ao19 t112.length co19, .slice Ao42 t123.length co42] rfl (by (try simp only [List.map_toArray, List.map_cons, List.map_nil]); first | done | rfl | (simp only [List.length_drop, List.length_take]; rfl)) ?_; (with_reducible refine (laws_eqFieldS.calls kj9 _ _ t112 _ _ t123 true _ ?side1 ?side2 ?side3 ?side4 A37.out).mono ?_); (case side1 => repeat (first | exact (Kd.S_reads' HO_8.out).2.2 | (with_reducible refine Kd.C_alloc ?_ _) | (with_reducible refine Kd.C_drewN ?_ _) | (with_reducible refine Kd.C_drew ?_))); (case side2 => exact (Kd.S_reads' HO_8.out).2.1); (case side3 => repeat (first | exact (Kd.S_reads' HO125.out).2.2 | (with_reducible refine Kd.C_alloc ?_ _) | (with_reducible refine Kd.C_drewN ?_ _) | (with_reducible refine Kd.C_drew ?_))); (case side4 => exact (Kd.S_reads' HO125.out).2.1); rintro e w43 ⟨rfl, hb⟩; refine ⟨_, rfl, ?_⟩; have n0_ := aK (Kd.S_below (by (with_reducible repeat (first | apply Kd.S_alloc | apply Kd.S_drewN | apply Kd.S_drew)); exact HO_8.out) hb); have n1_ := aK (Kd.R_below (pR HO_112002.out) hb); have n2_ := aK (Kd.R_below (pR HO_122002.out) hb); have n3_ := aK (Kd.S_below (by (with_reducible repeat (first | apply Kd.S_alloc | apply Kd.S_drewN | apply Kd.S_drew)); exact HO125.out) hb); replace BK111 := bB BK111 hb; replace BK121 := bB BK121 hb; replace HB := bS HB hb; clear HO_8 HO_112002 HO_122002 HO125; have HO_8 := n0_; have HO_112002 := n1_; have HO_122002 := n2_; have HO125 := n3_; clear n0_ n1_ n2_ n3_; (try clear hb); (try clear hb2); (try clear hk); (try clear hi)) | ((with_reducible refine gate_callee (f := 23) rfl ?_); refine goesL_ (some 52) rfl rfl Try.func23 (by kernel_rfl) rfl #[.slice Ao19 t112.length co19, .int .i64 1] rfl (by (try simp only [List.map_toArray, List.map_cons, List.map_nil]); first | done | rfl | (simp only [List.length_drop, List.length_take]; rfl)) ?_; (with_reducible refine (laws_markFieldS.calls kj9 (fun k_ => (((some k_ ≠ (.slice Ao17 t107.length co17 : Value).ownBlock ∧ (some k_ ≠ (.slice Ao24 t117.length co24 : Value).ownBlock ∧ (k_ ≠ gb111 ∧ k_ ≠ gb121))) ∧ some k_ ≠ (.slice Ao42 t123.length co42 : Value).ownBlock) ∧ w.heap.size ≤ k_)) (.slice Ao19 t112.length co19) t112 1 t127 t128 w _ ?side1 ?side2 A39.out).mono ?_); (case side1 => repeat (first | (with_reducible first | exact HB.out | apply below_alloc | apply pw_below_drewN | apply below_drew1 | refine below_set ?_ GE111.out | refine below_set ?_ GE121.out) | exact HB.out)); (case side2 => exact Kd.S_mono (Kd.S_bound (HO_8.out)) (fun k_ hk_ => ⟨hk_.1, hk_.2.1⟩)); rintro e w44 ⟨rfl, hy0, hb, hkp⟩; refine ⟨_, rfl, ?_⟩; have n0_ := aK (Kd.S_mono (ok' := fun k_ => (some k_ ≠ (.slice Ao17 t107.length co17 : Value).ownBlock ∧ (some k_ ≠ (.slice Ao24 t117.length co24 : Value).ownBlock ∧ (k_ ≠ gb111 ∧ k_ ≠ gb121)))) hy0 (fun k_ hk_ => Or.elim hk_ (fun h_ => ⟨h_.1.1.1, ⟨h_.1.1.2.1, ⟨h_.1.1.2.2.1, h_.1.1.2.2.2⟩⟩⟩) (fun h_ => ⟨(fun e_ => Nat.not_le.2 (Kd.R_lt HO_112002.out k_ e_.symm) h_), ⟨(fun e_ => Nat.not_le.2 (Kd.R_lt HO_122002.out k_ e_.symm) h_), ⟨(fun e_ => Nat.not_le.2 (by rw [e_]; exact blk_lt BK111.out) h_), (fun e_ => Nat.not_le.2 (by rw [e_]; exact blk_lt BK121.out) h_)⟩⟩⟩))); have n1_ := aK (Kd.R_mono (ok' := fun k_ => some k_ ≠ (.slice Ao24 t117.length co24 : Value).ownBlock) (Kd.R_keptB ((Kd.R_mono (ok' := fun k_ => some k_ ≠ (.slice Ao24 t117.length co24 : Value).ownBlock ∧ ¬ (((some k_ ≠ (.slice Ao17 t107.length co17 : Value).ownBlock ∧ (some k_ ≠ (.slice Ao24 t117.length co24 : Value).ownBlock ∧ (k_ ≠ gb111 ∧ k_ ≠ gb121))) ∧ some k_ ≠ (.slice Ao42 t123.length co42 : Value).ownBlock) ∧ w.heap.size ≤ k_)) (Kd.R_tight2 rfl HO_112002.out) (fun k_ hk => ⟨hk.2, fun hs_ => (hs_.1.1.1) hk.1⟩))) hkp (fun k_ hk_ hs_ => (hk_.2) hs_)) (fun k_ hk_ => hk_.1.1)); have n2_ := aK (Kd.R_mono (ok' := fun k_ => some k_ ≠ (.slice Ao17 t107.length co17 : Value).ownBlock) (Kd.R_keptB ((Kd.R_mono (ok' := fun k_ => some k_ ≠ (.slice Ao17 t107.length co17 : Value).ownBlock ∧ ¬ (((some k_ ≠ (.slice Ao17 t107.length co17 : Value).ownBlock ∧ (some k_ ≠ (.slice Ao24 t117.length co24 : Value).ownBlock ∧ (k_ ≠ gb111 ∧ k_ ≠ gb121))) ∧ some k_ ≠ (.slice Ao42 t123.length co42 : Value).ownBlock) ∧ w.heap.size ≤ k_)) (Kd.R_tight2 rfl HO_122002.out) (fun k_ hk => ⟨hk.2, fun hs_ => (hs_.1.1.2.1) hk.1⟩))) hkp (fun k_ hk_ hs_ => (hk_.2) hs_)) (fun k_ hk_ => hk_.1.1)); have n3_ := aK (blk_kept (pB BK111.out) hkp (fun hs_ => (fun e_ => (e_.1.1.2.2.1) rfl) hs_)); have n4_ := aK (blk_kept (pB BK121.out) hkp (fun hs_ => (fun e_ => (e_.1.1.2.2.2) rfl) hs_)); have n5_ := aK (hb); clear HO_8 HO_112002 HO_122002 BK111 BK121 HB HO125; have HO_8 := n0_; have HO_112002 := n1_; have HO_122002 := n2_; have BK111 := n3_; have BK121 := n4_; have HB := n5_; clear n0_ n1_ n2_ n3_ n4_ n5_; (try clear hb); (try clear hkp); (try clear hy0)))
      (try simp only [Act.put, List.setIfInBounds_toArray, List.set_cons_zero, List.set_cons_succ])
      go_cut [65] (fun v65 wc => ∃ (kq : Nat) (x65_39 : Bool), v65 = .bool x65_39 ∧ Aside0 (laws_FnExactCountAtLeast.j1 kq l0 a1 t110 x65_39 t105 t106 t107 t115 t116 t117 = some r) ∧ Aside0 (kq ≤ kj9) ∧ Aside0 (Kd.R (Kd.int .i64) 3 wc w.heap.size (fun k_ => some k_ ≠ ((.slice Ao24 t117.length co24) : Value).ownBlock) (.slice Ao17 t107.length co17) t107) ∧ Aside0 (Kd.R (Kd.int .i64) 3 wc w.heap.size (fun k_ => some k_ ≠ ((.slice Ao17 t107.length co17) : Value).ownBlock) (.slice Ao24 t117.length co24) t117) ∧ Aside0 (wc.heap[gb111]? = some (.cells #[.int .i64 t105, .int .i64 t106, (.slice Ao17 t107.length co17)] 24 (0, 0))) ∧ Aside0 (wc.heap[gb121]? = some (.cells #[.int .i64 t115, .int .i64 t116, (.slice Ao24 t117.length co24)] 24 (0, 0))) ∧ Aside0 (Below w.heap.size w wc))
      case first =>
       have H := HC40.out
       clear HC40
       by_cases c45 : t127 < 0
       ·
        rw [if_pos c45] at H
        have c45b0 : decide (t127 < 0) = true := decide_eq_true c45
        clear c45
        (first | rw [c45b0] | (simp only [i64_w, i32_w]; rw [c45b0]) | skip)
        have H' := Aside0.mk H
        clear H
        go_wp2
        go_meet
        case rel => exact ⟨_, (true), (by first | rfl | (simp; done) | (simp [*]; done)), H', ⟨by have := HJ9.out; first | omega | exact Nat.le_refl _⟩, ⟨by (with_reducible repeat (first | apply Kd.R_alloc | apply Kd.R_drewN | apply Kd.R_drew)); exact HO_112002.out⟩, ⟨by (with_reducible repeat (first | apply Kd.R_alloc | apply Kd.R_drewN | apply Kd.R_drew)); exact HO_122002.out⟩, ⟨by (with_reducible repeat (first | refine blk_drewN ?_ _ | refine blk_drew ?_ | refine blk_alloc ?_ _)); exact BK111.out⟩, ⟨by (with_reducible repeat (first | refine blk_drewN ?_ _ | refine blk_drew ?_ | refine blk_alloc ?_ _)); exact BK121.out⟩, ⟨by repeat (first | (with_reducible first | exact HB.out | apply below_alloc | apply pw_below_drewN | apply below_drew1 | refine below_set ?_ GE111.out | refine below_set ?_ GE121.out) | exact HB.out)⟩⟩
       ·
        rw [if_neg c45] at H
        have c45b0 : decide (t127 < 0) = false := decide_eq_false c45
        clear c45
        (first | rw [c45b0] | (simp only [i64_w, i32_w]; rw [c45b0]) | skip)
        replace H := Option.bind_eq_some_iff.mp H
        obtain ⟨t129, A460, H⟩ := H
        replace H : (if t129 = true then (laws_FnExactCountAtLeast.j1 kj9 l0 a1 t110 (t120 != t110) t105 t106 t107 t115 t116 t117) else (laws_FnExactCountAtLeast.j1 kj9 l0 a1 t110 true t105 t106 t107 t115 t116 t117)) = some r := H
        have A46 := Aside0.mk A460
        clear A460
        by_cases c47 : t129 = true
        ·
         subst c47
         have H1 : (laws_FnExactCountAtLeast.j1 kj9 l0 a1 t110 (t120 != t110) t105 t106 t107 t115 t116 t117) = some r := by rw [if_pos rfl] at H; exact H
         clear H
         have H := H1
         clear H1
         have H' := Aside0.mk H
         clear H
         have hnb48 := NB121_111.out
         have hnc48 := NB111_121.out
         have hcz49_0 : w44.cell? ⟨gb121, 0, none⟩ = some (.int .i64 t115) := (blk_cell BK121.out 0).trans rfl
         have hcz49_1 : w44.cell? ⟨gb121, 1, none⟩ = some (.int .i64 t116) := (blk_cell BK121.out 1).trans rfl
         have hcz49_2 : w44.cell? ⟨gb121, 2, none⟩ = some (.slice Ao24 t117.length co24) := (blk_cell BK121.out 2).trans rfl
         have hfz49_0 := blk_frozen BK121.out 0
         have hfz49_1 := blk_frozen BK121.out 1
         have hfz49_2 := blk_frozen BK121.out 2
         have hcz50_0 : w44.cell? ⟨gb111, 0, none⟩ = some (.int .i64 t105) := (blk_cell BK111.out 0).trans rfl
         have hcz50_1 : w44.cell? ⟨gb111, 1, none⟩ = some (.int .i64 t106) := (blk_cell BK111.out 1).trans rfl
         have hcz50_2 : w44.cell? ⟨gb111, 2, none⟩ = some (.slice Ao17 t107.length co17) := (blk_cell BK111.out 2).trans rfl
         have hfz50_0 := blk_frozen BK111.out 0
         have hfz50_1 := blk_frozen BK111.out 1
         have hfz50_2 := blk_frozen BK111.out 2
         go_wp2_with (first | (go_at_call 21; (with_reducible refine (laws_eqField.calls kj9 t115 t116 _ _ t117 t105 t106 _ _ t107 true _ ?side1 ?side2 ?side3 ?side4 A46.out).mono ?_); (case side1 => repeat (first | exact (Kd.R_reads' HO_122002.out).2.2 | (with_reducible refine Kd.C_alloc ?_ _) | (with_reducible refine Kd.C_drewN ?_ _) | (with_reducible refine Kd.C_drew ?_))); (case side2 => exact (Kd.R_reads' HO_122002.out).2.1); (case side3 => repeat (first | exact (Kd.R_reads' HO_112002.out).2.2 | (with_reducible refine Kd.C_alloc ?_ _) | (with_reducible refine Kd.C_drewN ?_ _) | (with_reducible refine Kd.C_drew ?_))); (case side4 => exact (Kd.R_reads' HO_112002.out).2.1); rintro e w51 ⟨rfl, hb⟩; have n0_ := aK (Kd.S_below (by (with_reducible repeat (first | apply Kd.S_alloc | apply Kd.S_drewN | apply Kd.S_drew)); exact HO_8.out) hb); have n1_ := aK (Kd.R_below (pR HO_112002.out) hb); have n2_ := aK (Kd.R_below (pR HO_122002.out) hb); replace BK111 := bB BK111 hb; replace BK121 := bB BK121 hb; replace HB := bS HB hb; clear HO_8 HO_112002 HO_122002; have HO_8 := n0_; have HO_112002 := n1_; have HO_122002 := n2_; clear n0_ n1_ n2_; (try clear hb); (try clear hb2); (try clear hk); (try clear hi)))
         go_meet
         case rel => exact ⟨_, ((t120 != t110)), (by first | rfl | (simp; done) | (simp [*]; done)), H', ⟨by have := HJ9.out; first | omega | exact Nat.le_refl _⟩, ⟨by (with_reducible repeat (first | apply Kd.R_alloc | apply Kd.R_drewN | apply Kd.R_drew)); exact HO_112002.out⟩, ⟨by (with_reducible repeat (first | apply Kd.R_alloc | apply Kd.R_drewN | apply Kd.R_drew)); exact HO_122002.out⟩, ⟨by (with_reducible repeat (first | refine blk_drewN ?_ _ | refine blk_drew ?_ | refine blk_alloc ?_ _)); exact BK111.out⟩, ⟨by (with_reducible repeat (first | refine blk_drewN ?_ _ | refine blk_drew ?_ | refine blk_alloc ?_ _)); exact BK121.out⟩, ⟨by repeat (first | (with_reducible first | exact HB.out | apply below_alloc | apply pw_below_drewN | apply below_drew1 | refine below_set ?_ GE111.out | refine below_set ?_ GE121.out) | exact HB.out)⟩⟩
        ·
         replace c47 := Bool.eq_false_iff.mpr c47
         subst c47
         have H1 : (laws_FnExactCountAtLeast.j1 kj9 l0 a1 t110 true t105 t106 t107 t115 t116 t117) = some r := by rw [if_neg (show ¬ (false = true) by decide)] at H; exact H
         clear H
         have H := H1
         clear H1
         have H' := Aside0.mk H
         clear H
         have hnb52 := NB121_111.out
         have hnc52 := NB111_121.out
         have hcz53_0 : w44.cell? ⟨gb121, 0, none⟩ = some (.int .i64 t115) := (blk_cell BK121.out 0).trans rfl
         have hcz53_1 : w44.cell? ⟨gb121, 1, none⟩ = some (.int .i64 t116) := (blk_cell BK121.out 1).trans rfl
         have hcz53_2 : w44.cell? ⟨gb121, 2, none⟩ = some (.slice Ao24 t117.length co24) := (blk_cell BK121.out 2).trans rfl
         have hfz53_0 := blk_frozen BK121.out 0
         have hfz53_1 := blk_frozen BK121.out 1
         have hfz53_2 := blk_frozen BK121.out 2
         have hcz54_0 : w44.cell? ⟨gb111, 0, none⟩ = some (.int .i64 t105) := (blk_cell BK111.out 0).trans rfl
         have hcz54_1 : w44.cell? ⟨gb111, 1, none⟩ = some (.int .i64 t106) := (blk_cell BK111.out 1).trans rfl
         have hcz54_2 : w44.cell? ⟨gb111, 2, none⟩ = some (.slice Ao17 t107.length co17) := (blk_cell BK111.out 2).trans rfl
         have hfz54_0 := blk_frozen BK111.out 0
         have hfz54_1 := blk_frozen BK111.out 1
         have hfz54_2 := blk_frozen BK111.out 2
         go_wp2_with (first | (go_at_call 21; (with_reducible refine (laws_eqField.calls kj9 t115 t116 _ _ t117 t105 t106 _ _ t107 false _ ?side1 ?side2 ?side3 ?side4 A46.out).mono ?_); (case side1 => repeat (first | exact (Kd.R_reads' HO_122002.out).2.2 | (with_reducible refine Kd.C_alloc ?_ _) | (with_reducible refine Kd.C_drewN ?_ _) | (with_reducible refine Kd.C_drew ?_))); (case side2 => exact (Kd.R_reads' HO_122002.out).2.1); (case side3 => repeat (first | exact (Kd.R_reads' HO_112002.out).2.2 | (with_reducible refine Kd.C_alloc ?_ _) | (with_reducible refine Kd.C_drewN ?_ _) | (with_reducible refine Kd.C_drew ?_))); (case side4 => exact (Kd.R_reads' HO_112002.out).2.1); rintro e w55 ⟨rfl, hb⟩; have n0_ := aK (Kd.S_below (by (with_reducible repeat (first | apply Kd.S_alloc | apply Kd.S_drewN | apply Kd.S_drew)); exact HO_8.out) hb); have n1_ := aK (Kd.R_below (pR HO_112002.out) hb); have n2_ := aK (Kd.R_below (pR HO_122002.out) hb); replace BK111 := bB BK111 hb; replace BK121 := bB BK121 hb; replace HB := bS HB hb; clear HO_8 HO_112002 HO_122002; have HO_8 := n0_; have HO_112002 := n1_; have HO_122002 := n2_; clear n0_ n1_ n2_; (try clear hb); (try clear hb2); (try clear hk); (try clear hi)))
         go_meet
         case rel => exact ⟨_, (true), (by first | rfl | (simp; done) | (simp [*]; done)), H', ⟨by have := HJ9.out; first | omega | exact Nat.le_refl _⟩, ⟨by (with_reducible repeat (first | apply Kd.R_alloc | apply Kd.R_drewN | apply Kd.R_drew)); exact HO_112002.out⟩, ⟨by (with_reducible repeat (first | apply Kd.R_alloc | apply Kd.R_drewN | apply Kd.R_drew)); exact HO_122002.out⟩, ⟨by (with_reducible repeat (first | refine blk_drewN ?_ _ | refine blk_drew ?_ | refine blk_alloc ?_ _)); exact BK111.out⟩, ⟨by (with_reducible repeat (first | refine blk_drewN ?_ _ | refine blk_drew ?_ | refine blk_alloc ?_ _)); exact BK121.out⟩, ⟨by repeat (first | (with_reducible first | exact HB.out | apply below_alloc | apply pw_below_drewN | apply below_drew1 | refine below_set ?_ GE111.out | refine below_set ?_ GE121.out) | exact HB.out)⟩⟩
      case rest =>
       clear HC40
       try clear c1
       try clear c2
       try clear p2
       try clear c3
       try clear c4
       try clear c4b0
       try clear c5
       try clear c17
       try clear c18
       try clear c19
       try clear c20
       try clear c21
       try clear c22
       try clear c23
       try clear c26
       try clear c27
       try clear c31
       try clear c35
       try clear c38
       try clear c45
       try clear c45b0
       try clear c47
       try clear c48
       try clear c52
       try clear hcz16_0
       try clear hcz16_1
       try clear hcz16_2
       try clear hcz23_0
       try clear hcz23_1
       try clear hcz23_2
       try clear hcz28_0
       try clear hcz28_1
       try clear hcz28_2
       try clear hcz29_0
       try clear hcz29_1
       try clear hcz29_2
       try clear hcz32_0
       try clear hcz32_1
       try clear hcz32_2
       try clear hcz33_0
       try clear hcz33_1
       try clear hcz33_2
       try clear hcz49_0
       try clear hcz49_1
       try clear hcz49_2
       try clear hcz50_0
       try clear hcz50_1
       try clear hcz50_2
       try clear hcz53_0
       try clear hcz53_1
       try clear hcz53_2
       try clear hcz54_0
       try clear hcz54_1
       try clear hcz54_2
       try clear hfz16_0
       try clear hfz16_1
       try clear hfz16_2
       try clear hfz23_0
       try clear hfz23_1
       try clear hfz23_2
       try clear hfz28_0
       try clear hfz28_1
       try clear hfz28_2
       try clear hfz29_0
       try clear hfz29_1
       try clear hfz29_2
       try clear hfz32_0
       try clear hfz32_1
       try clear hfz32_2
       try clear hfz33_0
       try clear hfz33_1
       try clear hfz33_2
       try clear hfz49_0
       try clear hfz49_1
       try clear hfz49_2
       try clear hfz50_0
       try clear hfz50_1
       try clear hfz50_2
       try clear hfz53_0
       try clear hfz53_1
       try clear hfz53_2
       try clear hfz54_0
       try clear hfz54_1
       try clear hfz54_2
       try clear p2
       obtain ⟨kq, x65_39, rfl, HA, HJ39, HO_112002, HO_122002, BK111, BK121, HB⟩ := hcut
       cases kq with
       | zero => exact absurd HA.out (by simp [laws_FnExactCountAtLeast.j1])
       | succ kj39 =>
        have H := HA.out
        clear HA
        simp only [laws_FnExactCountAtLeast.j1] at H
        by_cases c56 : x65_39 = true
        ·
         subst c56
         have H1 : (some false) = some r := by rw [if_pos rfl] at H; exact H
         clear H
         have H := H1
         clear H1
         obtain rfl := Option.some.inj H
         go_wp2
         go_ret
         exact ⟨by first | rfl | (simp [errW_none, errW_some] <;> rfl) | (simp [*, errW_none, errW_some] <;> rfl), by repeat (first | (with_reducible first | exact HB.out | apply below_alloc | apply pw_below_drewN | apply below_drew1) | exact HB.out)⟩
        ·
         replace c56 := Bool.eq_false_iff.mpr c56
         subst c56
         have H1 : ((laws_markField.f kj39 t115 t116 t117 1).bind fun bt130 => ((laws_heldField.f kj39 t115 t116 bt130.2 1).bind fun t132 => (if t132 < 0 then (some false) else (if t132 = bt130.1 then ((laws_toFieldS.f kj39 l0).bind fun t133 => ((impl_CountAtLeast.f kj39 t133 a1).bind fun bt136 => ((laws_eqField.f kj39 bt136.1 bt136.2.1 bt136.2.2.1 t105 t106 t107).bind fun t143 => (if t143 = true then (laws_FnExactCountAtLeast.j2 kj39 bt130.1 (bt136.2.2.2 != t110) t115 t116 bt130.2) else (laws_FnExactCountAtLeast.j2 kj39 bt130.1 true t115 t116 bt130.2))))) else (some false))))) = some r := by rw [if_neg (show ¬ (false = true) by decide)] at H; exact H
         clear H
         have H := H1
         clear H1
         replace H := Option.bind_eq_some_iff.mp H
         obtain ⟨⟨t130, t131⟩, A570, H⟩ := H
         replace H : ((laws_heldField.f kj39 t115 t116 t131 1).bind fun t132 => (if t132 < 0 then (some false) else (if t132 = t130 then ((laws_toFieldS.f kj39 l0).bind fun t133 => ((impl_CountAtLeast.f kj39 t133 a1).bind fun bt136 => ((laws_eqField.f kj39 bt136.1 bt136.2.1 bt136.2.2.1 t105 t106 t107).bind fun t143 => (if t143 = true then (laws_FnExactCountAtLeast.j2 kj39 t130 (bt136.2.2.2 != t110) t115 t116 t131) else (laws_FnExactCountAtLeast.j2 kj39 t130 true t115 t116 t131))))) else (some false)))) = some r := H
         have A57 := Aside0.mk A570
         clear A570
         replace H := Option.bind_eq_some_iff.mp H
         obtain ⟨t132, A580, H⟩ := H
         replace H : (if t132 < 0 then (some false) else (if t132 = t130 then ((laws_toFieldS.f kj39 l0).bind fun t133 => ((impl_CountAtLeast.f kj39 t133 a1).bind fun bt136 => ((laws_eqField.f kj39 bt136.1 bt136.2.1 bt136.2.2.1 t105 t106 t107).bind fun t143 => (if t143 = true then (laws_FnExactCountAtLeast.j2 kj39 t130 (bt136.2.2.2 != t110) t115 t116 t131) else (laws_FnExactCountAtLeast.j2 kj39 t130 true t115 t116 t131))))) else (some false))) = some r := H
         have A58 := Aside0.mk A580
         clear A580
         by_cases c59 : t132 < 0
         ·
          rw [if_pos c59] at H
          have c59b0 : decide (t132 < 0) = true := decide_eq_true c59
          clear c59
          obtain rfl := Option.some.inj H
          have hcz60_0 : wc.cell? ⟨gb121, 0, none⟩ = some (.int .i64 t115) := (blk_cell BK121.out 0).trans rfl
          have hcz60_1 : wc.cell? ⟨gb121, 1, none⟩ = some (.int .i64 t116) := (blk_cell BK121.out 1).trans rfl
          have hcz60_2 : wc.cell? ⟨gb121, 2, none⟩ = some (.slice Ao24 t117.length co24) := (blk_cell BK121.out 2).trans rfl
          have hfz60_0 := blk_frozen BK121.out 0
          have hfz60_1 := blk_frozen BK121.out 1
          have hfz60_2 := blk_frozen BK121.out 2
          go_wp2_with (first | ((with_reducible refine gate_callee (f := 24) rfl ?_); refine goesL_ (some 68) rfl rfl Try.func24 (by kernel_rfl) rfl #[.agg #[.int .i64 t115, .int .i64 t116, .slice Ao24 t117.length co24], .int .i64 1] rfl (by (try simp only [List.map_toArray, List.map_cons, List.map_nil]); first | done | rfl | (simp only [List.length_drop, List.length_take]; rfl)) ?_; (with_reducible refine (laws_markField.calls kj39 t115 t116 (fun k_ => some k_ = (.slice Ao24 t117.length co24 : Value).ownBlock) (.slice Ao24 t117.length co24) t117 1 t130 t131 w _ ?side1 ?side2 A57.out).mono ?_); (case side1 => repeat (first | (with_reducible first | exact HB.out | apply below_alloc | apply pw_below_drewN | apply below_drew1 | refine below_set ?_ GE121.out) | exact HB.out)); (case side2 => exact Kd.R_tight rfl HO_122002.out); rintro e w61 ⟨rfl, hy0, hb, hkp⟩; refine ⟨_, rfl, ?_⟩; have n0_ := aK (Kd.R_mono (ok' := fun k_ => some k_ ≠ (.slice Ao24 t117.length co24 : Value).ownBlock) (Kd.R_keptB (HO_112002.out) hkp (fun k_ hk_ hs_ => (hk_) hs_)) (fun k_ hk_ => hk_.1)); have n1_ := aK (Kd.R_reok rfl hy0 (fun k_ e_ => HO_122002.out.1 k_ e_)); have n2_ := aK (blk_kept (pB BK121.out) hkp (fun hs_ => (fun e_ => (Kd.R_ne HO_122002.out BK121.out (by decide)) e_) hs_)); have n3_ := aK (hb); clear HO_112002 HO_122002 BK121 HB; have HO_112002 := n0_; have HO_122002 := n1_; have BK121 := n2_; have HB := n3_; clear n0_ n1_ n2_ n3_; (try clear hb); (try clear hkp); (try clear hy0); have hcz62_0 : w61.cell? ⟨gb121, 0, none⟩ = some (.int .i64 t115) := (blk_cell BK121.out 0).trans rfl; have hcz62_1 : w61.cell? ⟨gb121, 1, none⟩ = some (.int .i64 t116) := (blk_cell BK121.out 1).trans rfl; have hcz62_2 : w61.cell? ⟨gb121, 2, none⟩ = some (.slice Ao24 t117.length co24) := (blk_cell BK121.out 2).trans rfl; have hfz62_0 := blk_frozen BK121.out 0; have hfz62_1 := blk_frozen BK121.out 1; have hfz62_2 := blk_frozen BK121.out 2) | ((with_reducible refine gate_callee (f := 25) rfl ?_); refine goesL_ (some 71) rfl rfl Try.func25 (by kernel_rfl) rfl #[.agg #[.int .i64 t115, .int .i64 t116, .slice Ao24 t131.length co24], .int .i64 1] rfl (by (try simp only [List.map_toArray, List.map_cons, List.map_nil]); first | done | (rw [show t131.length = t117.length from (Kd.R_reads' HO_122002.out).1.symm] <;> rfl) | rfl | (simp only [List.length_drop, List.length_take]; rfl)) ?_; (with_reducible refine (laws_heldField.calls kj39 t115 t116 _ _ t131 1 t132 _ ?side1 ?side2 A58.out).mono ?_); (case side1 => repeat (first | exact (Kd.R_reads' HO_122002.out).2.2 | (with_reducible refine Kd.C_alloc ?_ _) | (with_reducible refine Kd.C_drewN ?_ _) | (with_reducible refine Kd.C_drew ?_))); (case side2 => rw [show t131.length = t117.length from (Kd.R_reads' HO_122002.out).1.symm]; exact (Kd.R_reads' HO_122002.out).2.1); rintro e w63 ⟨rfl, hb⟩; refine ⟨_, rfl, ?_⟩; have n0_ := aK (Kd.R_below (pR HO_112002.out) hb); have n1_ := aK (Kd.R_below (pR HO_122002.out) hb); replace HB := bS HB hb; clear HO_112002 HO_122002; have HO_112002 := n0_; have HO_122002 := n1_; clear n0_ n1_; (try clear hb); (try clear hb2); (try clear hk); (try clear hi)))
          go_ret
          exact ⟨by first | rfl | (simp [errW_none, errW_some] <;> rfl) | (simp [*, errW_none, errW_some] <;> rfl), by repeat (first | (with_reducible first | exact HB.out | apply below_alloc | apply pw_below_drewN | apply below_drew1) | exact HB.out)⟩
         ·
          rw [if_neg c59] at H
          have c59b0 : decide (t132 < 0) = false := decide_eq_false c59
          clear c59
          by_cases c64 : t132 = t130
          ·
           rw [if_pos c64] at H
           have c64b0 : (t132 == t130) = true := beq_iff_eq.mpr c64
           have c64b1 : (t132 != t130) = false := bne_eq_false_iff_eq.mpr c64
           clear c64
           replace H := Option.bind_eq_some_iff.mp H
           obtain ⟨t133, A650, H⟩ := H
           replace H : ((impl_CountAtLeast.f kj39 t133 a1).bind fun bt136 => ((laws_eqField.f kj39 bt136.1 bt136.2.1 bt136.2.2.1 t105 t106 t107).bind fun t143 => (if t143 = true then (laws_FnExactCountAtLeast.j2 kj39 t130 (bt136.2.2.2 != t110) t115 t116 t131) else (laws_FnExactCountAtLeast.j2 kj39 t130 true t115 t116 t131)))) = some r := H
           have A65 := Aside0.mk A650
           clear A650
           replace H := Option.bind_eq_some_iff.mp H
           obtain ⟨⟨t136, t137, t138, t141⟩, A660, H⟩ := H
           replace H : ((laws_eqField.f kj39 t136 t137 t138 t105 t106 t107).bind fun t143 => (if t143 = true then (laws_FnExactCountAtLeast.j2 kj39 t130 (t141 != t110) t115 t116 t131) else (laws_FnExactCountAtLeast.j2 kj39 t130 true t115 t116 t131))) = some r := H
           have A66 := Aside0.mk A660
           clear A660
           have HC67 := Aside0.mk H
           clear H
           have hnb68 := NB121_111.out
           have hnc68 := NB111_121.out
           have hcz69_0 : wc.cell? ⟨gb121, 0, none⟩ = some (.int .i64 t115) := (blk_cell BK121.out 0).trans rfl
           have hcz69_1 : wc.cell? ⟨gb121, 1, none⟩ = some (.int .i64 t116) := (blk_cell BK121.out 1).trans rfl
           have hcz69_2 : wc.cell? ⟨gb121, 2, none⟩ = some (.slice Ao24 t117.length co24) := (blk_cell BK121.out 2).trans rfl
           have hfz69_0 := blk_frozen BK121.out 0
           have hfz69_1 := blk_frozen BK121.out 1
           have hfz69_2 := blk_frozen BK121.out 2
           go_upto_region 25 with (first | ((with_reducible refine gate_callee (f := 24) rfl ?_); refine goesL_ (some 68) rfl rfl Try.func24 (by kernel_rfl) rfl #[.agg #[.int .i64 t115, .int .i64 t116, .slice Ao24 t117.length co24], .int .i64 1] rfl (by (try simp only [List.map_toArray, List.map_cons, List.map_nil]); first | done | rfl | (simp only [List.length_drop, List.length_take]; rfl)) ?_; (with_reducible refine (laws_markField.calls kj39 t115 t116 (fun k_ => some k_ = (.slice Ao24 t117.length co24 : Value).ownBlock) (.slice Ao24 t117.length co24) t117 1 t130 t131 w _ ?side1 ?side2 A57.out).mono ?_); (case side1 => repeat (first | (with_reducible first | exact HB.out | apply below_alloc | apply pw_below_drewN | apply below_drew1 | refine below_set ?_ GE111.out | refine below_set ?_ GE121.out) | exact HB.out)); (case side2 => exact Kd.R_tight rfl HO_122002.out); rintro e w70 ⟨rfl, hy0, hb, hkp⟩; refine ⟨_, rfl, ?_⟩; have n0_ := aK (Kd.R_mono (ok' := fun k_ => some k_ ≠ (.slice Ao24 t117.length co24 : Value).ownBlock) (Kd.R_keptB (HO_112002.out) hkp (fun k_ hk_ hs_ => (hk_) hs_)) (fun k_ hk_ => hk_.1)); have n1_ := aK (Kd.R_reok rfl hy0 (fun k_ e_ => HO_122002.out.1 k_ e_)); have n2_ := aK (blk_kept (pB BK111.out) hkp (fun hs_ => (fun e_ => (Kd.R_ne HO_122002.out BK111.out (by decide)) e_) hs_)); have n3_ := aK (blk_kept (pB BK121.out) hkp (fun hs_ => (fun e_ => (Kd.R_ne HO_122002.out BK121.out (by decide)) e_) hs_)); have n4_ := aK (hb); clear HO_112002 HO_122002 BK111 BK121 HB; have HO_112002 := n0_; have HO_122002 := n1_; have BK111 := n2_; have BK121 := n3_; have HB := n4_; clear n0_ n1_ n2_ n3_ n4_; (try clear hb); (try clear hkp); (try clear hy0); have hcz71_0 : w70.cell? ⟨gb121, 0, none⟩ = some (.int .i64 t115) := (blk_cell BK121.out 0).trans rfl; have hcz71_1 : w70.cell? ⟨gb121, 1, none⟩ = some (.int .i64 t116) := (blk_cell BK121.out 1).trans rfl; have hcz71_2 : w70.cell? ⟨gb121, 2, none⟩ = some (.slice Ao24 t117.length co24) := (blk_cell BK121.out 2).trans rfl; have hfz71_0 := blk_frozen BK121.out 0; have hfz71_1 := blk_frozen BK121.out 1; have hfz71_2 := blk_frozen BK121.out 2) | ((with_reducible refine gate_callee (f := 25) rfl ?_); refine goesL_ (some 71) rfl rfl Try.func25 (by kernel_rfl) rfl #[.agg #[.int .i64 t115, .int .i64 t116, .slice Ao24 t131.length co24], .int .i64 1] rfl (by (try simp only [List.map_toArray, List.map_cons, List.map_nil]); first | done | (rw [show t131.length = t117.length from (Kd.R_reads' HO_122002.out).1.symm] <;> rfl) | rfl | (simp only [List.length_drop, List.length_take]; rfl)) ?_; (with_reducible refine (laws_heldField.calls kj39 t115 t116 _ _ t131 1 t132 _ ?side1 ?side2 A58.out).mono ?_); (case side1 => repeat (first | exact (Kd.R_reads' HO_122002.out).2.2 | (with_reducible refine Kd.C_alloc ?_ _) | (with_reducible refine Kd.C_drewN ?_ _) | (with_reducible refine Kd.C_drew ?_))); (case side2 => rw [show t131.length = t117.length from (Kd.R_reads' HO_122002.out).1.symm]; exact (Kd.R_reads' HO_122002.out).2.1); rintro e w72 ⟨rfl, hb⟩; refine ⟨_, rfl, ?_⟩; have n0_ := aK (Kd.R_below (pR HO_112002.out) hb); have n1_ := aK (Kd.R_below (pR HO_122002.out) hb); replace BK111 := bB BK111 hb; replace BK121 := bB BK121 hb; replace HB := bS HB hb; clear HO_112002 HO_122002; have HO_112002 := n0_; have HO_122002 := n1_; clear n0_ n1_; (try clear hb); (try clear hb2); (try clear hk); (try clear hi)) | ((with_reducible refine gate_callee (f := 19) rfl ?_); refine goesL_ (some 79) rfl rfl Try.func19 (by kernel_rfl) rfl #[.slice A0 l0.length c0] rfl (by (try simp only [List.map_toArray, List.map_cons, List.map_nil]); first | done | rfl | (simp only [List.length_drop, List.length_take]; rfl)) ?_; (with_reducible refine (laws_toFieldS.calls kj39 _ _ l0 t133 _ ?side1 ?side2 A65.out).mono ?_); (case side1 => repeat (first | exact (Kd.C_below HR0.out HB.out) | (with_reducible refine Kd.C_alloc ?_ _) | (with_reducible refine Kd.C_drewN ?_ _) | (with_reducible refine Kd.C_drew ?_))); (case side2 => exact HC0.out); rintro e w73 ⟨v134, rfl, ho0, hb⟩; refine ⟨_, rfl, ?_⟩; have n0_ := aK (Kd.R_below (pR HO_112002.out) hb); have n1_ := aK (Kd.R_below (pR HO_122002.out) hb); have HO135 := aK (Kd.S_lower (Kd.S_newB (Kd.S_newB (Kd.S_new' (Kd.S_new' ho0 (Kd.R_lt (pR HO_112002.out))) (Kd.R_lt (pR HO_122002.out))) (g := gb111) (o := .cells #[.int .i64 t105, .int .i64 t106, .slice Ao17 t107.length co17] 24 (0, 0)) (pB BK111.out)) (g := gb121) (o := .cells #[.int .i64 t115, .int .i64 t116, .slice Ao24 t117.length co24] 24 (0, 0)) (pB BK121.out)) (below_size (pS HB.out))); replace BK111 := bB BK111 hb; replace BK121 := bB BK121 hb; replace HB := bS HB hb; clear HO_112002 HO_122002; have HO_112002 := n0_; have HO_122002 := n1_; clear n0_ n1_; (try clear hb); (try clear hb2); (try clear hk); (try clear hi); (try clear ho0); obtain ⟨Ao74, co74, eo74⟩ := Kd.S_slice HO135.out; subst eo74) | ((with_reducible refine gate_callee (f := 20) rfl ?_); refine goesL_ (some 81) rfl rfl Try.func20 (by kernel_rfl) rfl #[.slice Ao74 t133.length co74, .int .i64 a1] rfl (by (try simp only [List.map_toArray, List.map_cons, List.map_nil]); first | done | rfl | (simp only [List.length_drop, List.length_take]; rfl)) ?_; (with_reducible refine (impl_CountAtLeast.calls kj39 _ _ t133 a1 t136 t137 t138 t141 _ ?side1 ?side2 A66.out).mono ?_); (case side1 => repeat (first | exact (Kd.S_reads' HO135.out).2.2 | (with_reducible refine Kd.C_alloc ?_ _) | (with_reducible refine Kd.C_drewN ?_ _) | (with_reducible refine Kd.C_drew ?_))); (case side2 => exact (Kd.S_reads' HO135.out).2.1); rintro e w75 ⟨v139, rfl, ho0, hb⟩; refine ⟨_, rfl, ?_⟩; have n0_ := aK (Kd.R_elder' (pR HO_112002.out) (Kd.R_base ho0) hb); have n1_ := aK (Kd.R_elder' (pR HO_122002.out) (Kd.R_base ho0) hb); have n2_ := aK (Kd.S_elder' (by (with_reducible repeat (first | apply Kd.S_alloc | apply Kd.S_drewN | apply Kd.S_drew)); exact HO135.out) (Kd.R_base ho0) hb); have HO140 := aK (Kd.R_lower (Kd.R_new' (Kd.R_new' ho0 (Kd.R_lt (pR HO_112002.out))) (Kd.R_lt (pR HO_122002.out))) (below_size (pS HB.out))); replace BK111 := bB BK111 hb; replace BK121 := bB BK121 hb; replace HB := bS HB hb; clear HO_112002 HO_122002 HO135; have HO_112002 := n0_; have HO_122002 := n1_; have HO135 := n2_; clear n0_ n1_ n2_; (try clear hb); (try clear hb2); (try clear hk); (try clear hi); (try clear ho0)) | ((with_reducible refine gate_dst (N := 14) rfl ?_); refine box_event ?hg (N := 14) ?hd (cs := #[.int .i64 0, .int .i64 0, .slice none 0 0]) (t := 24) ?hr ?_; (case hd => rfl); (case hg => rfl); (case hr => first | (go_simp; done) | (go_simp; rfl)); intro gb142 hg w76 hbox hb; have n0_ := aK (Kd.R_below (pR HO_112002.out) hb); have n1_ := aK (Kd.R_below (pR HO_122002.out) hb); have n2_ := aK (Kd.S_below (Kd.S_elderB (by (with_reducible repeat (first | apply Kd.S_alloc | apply Kd.S_drewN | apply Kd.S_drew)); exact HO135.out) gb142 (Nat.le_of_eq hg.symm)) hb); have n3_ := aK (Kd.R_below (pR HO140.out) hb); have BK142 := aK (hbox); have GW142 := aK (gE hg (pS HB.out)); have GE142 := aK (gE hg (pS HB.out)); have NB111_142 := aK (nL hg (pB BK111.out)); have NB142_111 := aK (nG hg (pB BK111.out)); have NB121_142 := aK (nL hg (pB BK121.out)); have NB142_121 := aK (nG hg (pB BK121.out)); replace BK111 := bB BK111 hb; replace BK121 := bB BK121 hb; replace HB := bS HB hb; clear HO_112002 HO_122002 HO135 HO140; have HO_112002 := n0_; have HO_122002 := n1_; have HO135 := n2_; have HO140 := n3_; clear n0_ n1_ n2_ n3_ hb hbox hg; have hnb77 := NB142_111.out; have hnc77 := NB111_142.out; have hnb78 := NB142_121.out; have hnc78 := NB121_142.out; have hcz79_0 : w76.cell? ⟨gb142, 0, none⟩ = some (.int .i64 0) := (blk_cell BK142.out 0).trans rfl; have hcz79_1 : w76.cell? ⟨gb142, 1, none⟩ = some (.int .i64 0) := (blk_cell BK142.out 1).trans rfl; have hcz79_2 : w76.cell? ⟨gb142, 2, none⟩ = some (.slice none 0 0) := (blk_cell BK142.out 2).trans rfl; have hfz79_0 := blk_frozen BK142.out 0; have hfz79_1 := blk_frozen BK142.out 1; have hfz79_2 := blk_frozen BK142.out 2; obtain ⟨Ao80, co80, eo80⟩ := Kd.R_slice HO140.out; subst eo80))
           (try simp only [Act.put, List.setIfInBounds_toArray, List.set_cons_zero, List.set_cons_succ])
           go_cut [92] (fun v92 wc => ∃ (kq : Nat) (x92_66 : Bool), v92 = .bool x92_66 ∧ Aside0 (laws_FnExactCountAtLeast.j2 kq t130 x92_66 t115 t116 t131 = some r) ∧ Aside0 (kq ≤ kj39) ∧ Aside0 (Kd.R (Kd.int .i64) 3 wc w.heap.size (fun _ => True) (.slice Ao24 t117.length co24) t131) ∧ Aside0 (wc.heap[gb121]? = some (.cells #[.int .i64 t115, .int .i64 t116, (.slice Ao24 t117.length co24)] 24 (0, 0))) ∧ Aside0 (Below w.heap.size w wc))
           case first =>
            have H := HC67.out
            clear HC67
            replace H := Option.bind_eq_some_iff.mp H
            obtain ⟨t143, A810, H⟩ := H
            replace H : (if t143 = true then (laws_FnExactCountAtLeast.j2 kj39 t130 (t141 != t110) t115 t116 t131) else (laws_FnExactCountAtLeast.j2 kj39 t130 true t115 t116 t131)) = some r := H
            have A81 := Aside0.mk A810
            clear A810
            by_cases c82 : t143 = true
            ·
             subst c82
             have H1 : (laws_FnExactCountAtLeast.j2 kj39 t130 (t141 != t110) t115 t116 t131) = some r := by rw [if_pos rfl] at H; exact H
             clear H
             have H := H1
             clear H1
             have H' := Aside0.mk H
             clear H
             have hnb83 := NB142_111.out
             have hnc83 := NB111_142.out
             have hnb84 := NB142_121.out
             have hnc84 := NB121_142.out
             have hcz85_0 : w76.cell? ⟨gb142, 0, none⟩ = some (.int .i64 0) := (blk_cell BK142.out 0).trans rfl
             have hcz85_1 : w76.cell? ⟨gb142, 1, none⟩ = some (.int .i64 0) := (blk_cell BK142.out 1).trans rfl
             have hcz85_2 : w76.cell? ⟨gb142, 2, none⟩ = some (.slice none 0 0) := (blk_cell BK142.out 2).trans rfl
             have hfz85_0 := blk_frozen BK142.out 0
             have hfz85_1 := blk_frozen BK142.out 1
             have hfz85_2 := blk_frozen BK142.out 2
             have hnb86 := NB111_121.out
             have hnc86 := NB121_111.out
             have hcz87_0 : w76.cell? ⟨gb111, 0, none⟩ = some (.int .i64 t105) := (blk_cell BK111.out 0).trans rfl
             have hcz87_1 : w76.cell? ⟨gb111, 1, none⟩ = some (.int .i64 t106) := (blk_cell BK111.out 1).trans rfl
             have hcz87_2 : w76.cell? ⟨gb111, 2, none⟩ = some (.slice Ao17 t107.length co17) := (blk_cell BK111.out 2).trans rfl
             have hfz87_0 := blk_frozen BK111.out 0
             have hfz87_1 := blk_frozen BK111.out 1
             have hfz87_2 := blk_frozen BK111.out 2
             go_wp2_with (first | ((with_reducible refine gate_callee (f := 21) rfl ?_); refine goesL_ (some 86) rfl rfl Try.func21 (by kernel_rfl) rfl #[.agg #[.int .i64 t136, .int .i64 t137, .slice Ao80 t138.length co80], .agg #[.int .i64 t105, .int .i64 t106, .slice Ao17 t107.length co17]] rfl (by (try simp only [List.map_toArray, List.map_cons, List.map_nil]); first | done | rfl | (simp only [List.length_drop, List.length_take]; rfl)) ?_; (with_reducible refine (laws_eqField.calls kj39 t136 t137 _ _ t138 t105 t106 _ _ t107 true _ ?side1 ?side2 ?side3 ?side4 A81.out).mono ?_); (case side1 => refine (Kd.R_reads' (e := 3) (base := w.heap.size) (ok := fun k_ => ((True ∧ some k_ ≠ (.slice Ao17 t107.length co17 : Value).ownBlock) ∧ some k_ ≠ (.slice Ao24 t117.length co24 : Value).ownBlock)) (n := t138.length) (c := co80) ?_).2.2; exact (pR ((Kd.R_mono (Kd.R_far (p := ⟨gb142, 2, none⟩) (Kd.R_far (p := ⟨gb142, 1, none⟩) (Kd.R_far (p := ⟨gb142, 0, none⟩) (Kd.R_types HO140.out BK142.out (by decide)) (fun _ hk => hk.2) (.int .i64 t136)) (fun _ hk => hk.2) (.int .i64 t137)) (fun _ hk => hk.2) (.slice Ao80 t138.length co80)) (fun _ h_ => h_.1))))); (case side2 => exact (Kd.R_reads' HO140.out).2.1); (case side3 => refine (Kd.R_reads' (e := 3) (base := w.heap.size) (ok := fun k_ => (some k_ ≠ (.slice Ao24 t117.length co24 : Value).ownBlock ∧ some k_ ≠ (.slice Ao80 t138.length co80 : Value).ownBlock)) (n := t107.length) (c := co17) ?_).2.2; exact (pR ((Kd.R_mono (Kd.R_far (p := ⟨gb142, 2, none⟩) (Kd.R_far (p := ⟨gb142, 1, none⟩) (Kd.R_far (p := ⟨gb142, 0, none⟩) (Kd.R_types HO_112002.out BK142.out (by decide)) (fun _ hk => hk.2) (.int .i64 t136)) (fun _ hk => hk.2) (.int .i64 t137)) (fun _ hk => hk.2) (.slice Ao80 t138.length co80)) (fun _ h_ => h_.1))))); (case side4 => exact (Kd.R_reads' HO_112002.out).2.1); rintro e w88 ⟨rfl, hb⟩; refine ⟨_, rfl, ?_⟩; have n0_ := aK (Kd.R_below (pR ((Kd.R_mono (Kd.R_far (p := ⟨gb142, 2, none⟩) (Kd.R_far (p := ⟨gb142, 1, none⟩) (Kd.R_far (p := ⟨gb142, 0, none⟩) (Kd.R_types HO_112002.out BK142.out (by decide)) (fun _ hk => hk.2) (.int .i64 t136)) (fun _ hk => hk.2) (.int .i64 t137)) (fun _ hk => hk.2) (.slice Ao80 t138.length co80)) (fun _ h_ => h_.1)))) hb); have n1_ := aK (Kd.R_below (pR ((Kd.R_mono (Kd.R_far (p := ⟨gb142, 2, none⟩) (Kd.R_far (p := ⟨gb142, 1, none⟩) (Kd.R_far (p := ⟨gb142, 0, none⟩) (Kd.R_types HO_122002.out BK142.out (by decide)) (fun _ hk => hk.2) (.int .i64 t136)) (fun _ hk => hk.2) (.int .i64 t137)) (fun _ hk => hk.2) (.slice Ao80 t138.length co80)) (fun _ h_ => h_.1)))) hb); have n2_ := aK (Kd.S_below (by (with_reducible repeat (first | apply Kd.S_alloc | apply Kd.S_drewN | apply Kd.S_drew)); exact (Kd.S_mono (Kd.S_far (p := ⟨gb142, 2, none⟩) (Kd.S_far (p := ⟨gb142, 1, none⟩) (Kd.S_far (p := ⟨gb142, 0, none⟩) (Kd.S_mono HO135.out (fun k_ hk => (⟨hk, hk.2⟩ : _ ∧ k_ ≠ gb142))) (fun _ hk => hk.2) (.int .i64 t136)) (fun _ hk => hk.2) (.int .i64 t137)) (fun _ hk => hk.2) (.slice Ao80 t138.length co80)) (fun _ h_ => h_.1))) hb); have n3_ := aK (Kd.R_below (pR ((Kd.R_mono (Kd.R_far (p := ⟨gb142, 2, none⟩) (Kd.R_far (p := ⟨gb142, 1, none⟩) (Kd.R_far (p := ⟨gb142, 0, none⟩) (Kd.R_types HO140.out BK142.out (by decide)) (fun _ hk => hk.2) (.int .i64 t136)) (fun _ hk => hk.2) (.int .i64 t137)) (fun _ hk => hk.2) (.slice Ao80 t138.length co80)) (fun _ h_ => h_.1)))) hb); have n4_ := aK (blk_below (g := gb111) (o := .cells #[.int .i64 t105, .int .i64 t106, .slice Ao17 t107.length co17] 24 (0, 0)) (by (with_reducible repeat (first | refine blk_drewN ?_ _ | refine blk_drew ?_ | refine blk_alloc ?_ _)); refine blk_far ?_ NB111_142.out _; (with_reducible repeat (first | refine blk_drewN ?_ _ | refine blk_drew ?_ | refine blk_alloc ?_ _)); refine blk_far ?_ NB111_142.out _; (with_reducible repeat (first | refine blk_drewN ?_ _ | refine blk_drew ?_ | refine blk_alloc ?_ _)); refine blk_far ?_ NB111_142.out _; (with_reducible repeat (first | refine blk_drewN ?_ _ | refine blk_drew ?_ | refine blk_alloc ?_ _)); exact BK111.out) hb); have n5_ := aK (blk_below (g := gb121) (o := .cells #[.int .i64 t115, .int .i64 t116, .slice Ao24 t117.length co24] 24 (0, 0)) (by (with_reducible repeat (first | refine blk_drewN ?_ _ | refine blk_drew ?_ | refine blk_alloc ?_ _)); refine blk_far ?_ NB121_142.out _; (with_reducible repeat (first | refine blk_drewN ?_ _ | refine blk_drew ?_ | refine blk_alloc ?_ _)); refine blk_far ?_ NB121_142.out _; (with_reducible repeat (first | refine blk_drewN ?_ _ | refine blk_drew ?_ | refine blk_alloc ?_ _)); refine blk_far ?_ NB121_142.out _; (with_reducible repeat (first | refine blk_drewN ?_ _ | refine blk_drew ?_ | refine blk_alloc ?_ _)); exact BK121.out) hb); have n6_ := aK (blk_below (g := gb142) (o := .cells #[.int .i64 t136, .int .i64 t137, .slice Ao80 t138.length co80] 24 (0, 0)) (by (with_reducible repeat (first | refine blk_drewN ?_ _ | refine blk_drew ?_ | refine blk_alloc ?_ _)); refine blk_put (cs := #[.int .i64 t136, .int .i64 t137, .slice none 0 0]) ?_ 2 _ rfl; (with_reducible repeat (first | refine blk_drewN ?_ _ | refine blk_drew ?_ | refine blk_alloc ?_ _)); refine blk_put (cs := #[.int .i64 t136, .int .i64 0, .slice none 0 0]) ?_ 1 _ rfl; (with_reducible repeat (first | refine blk_drewN ?_ _ | refine blk_drew ?_ | refine blk_alloc ?_ _)); refine blk_put (cs := #[.int .i64 0, .int .i64 0, .slice none 0 0]) ?_ 0 _ rfl; (with_reducible repeat (first | refine blk_drewN ?_ _ | refine blk_drew ?_ | refine blk_alloc ?_ _)); exact BK142.out) hb); replace HB := bS HB hb; clear HO_112002 HO_122002 HO135 HO140 BK111 BK121 BK142; have HO_112002 := n0_; have HO_122002 := n1_; have HO135 := n2_; have HO140 := n3_; have BK111 := n4_; have BK121 := n5_; have BK142 := n6_; clear n0_ n1_ n2_ n3_ n4_ n5_ n6_; (try clear hb); (try clear hb2); (try clear hk); (try clear hi)))
             go_meet
             case rel => exact ⟨_, ((t141 != t110)), (by first | rfl | (simp; done) | (simp [*]; done)), H', ⟨by have := HJ9.out; have := HJ39.out; first | omega | exact Nat.le_refl _⟩, ⟨by (with_reducible repeat (first | apply Kd.R_alloc | apply Kd.R_drewN | apply Kd.R_drew)); exact Kd.R_mono HO_122002.out (fun _ hk => trivial)⟩, ⟨by (with_reducible repeat (first | refine blk_drewN ?_ _ | refine blk_drew ?_ | refine blk_alloc ?_ _)); exact BK121.out⟩, ⟨by repeat (first | (with_reducible first | exact HB.out | apply below_alloc | apply pw_below_drewN | apply below_drew1 | refine below_set ?_ GE111.out | refine below_set ?_ GE121.out | refine below_set ?_ GE142.out) | exact HB.out)⟩⟩
            ·
             replace c82 := Bool.eq_false_iff.mpr c82
             subst c82
             have H1 : (laws_FnExactCountAtLeast.j2 kj39 t130 true t115 t116 t131) = some r := by rw [if_neg (show ¬ (false = true) by decide)] at H; exact H
             clear H
             have H := H1
             clear H1
             have H' := Aside0.mk H
             clear H
             have hnb89 := NB142_111.out
             have hnc89 := NB111_142.out
             have hnb90 := NB142_121.out
             have hnc90 := NB121_142.out
             have hcz91_0 : w76.cell? ⟨gb142, 0, none⟩ = some (.int .i64 0) := (blk_cell BK142.out 0).trans rfl
             have hcz91_1 : w76.cell? ⟨gb142, 1, none⟩ = some (.int .i64 0) := (blk_cell BK142.out 1).trans rfl
             have hcz91_2 : w76.cell? ⟨gb142, 2, none⟩ = some (.slice none 0 0) := (blk_cell BK142.out 2).trans rfl
             have hfz91_0 := blk_frozen BK142.out 0
             have hfz91_1 := blk_frozen BK142.out 1
             have hfz91_2 := blk_frozen BK142.out 2
             have hnb92 := NB111_121.out
             have hnc92 := NB121_111.out
             have hcz93_0 : w76.cell? ⟨gb111, 0, none⟩ = some (.int .i64 t105) := (blk_cell BK111.out 0).trans rfl
             have hcz93_1 : w76.cell? ⟨gb111, 1, none⟩ = some (.int .i64 t106) := (blk_cell BK111.out 1).trans rfl
             have hcz93_2 : w76.cell? ⟨gb111, 2, none⟩ = some (.slice Ao17 t107.length co17) := (blk_cell BK111.out 2).trans rfl
             have hfz93_0 := blk_frozen BK111.out 0
             have hfz93_1 := blk_frozen BK111.out 1
             have hfz93_2 := blk_frozen BK111.out 2
             go_wp2_with (first | ((with_reducible refine gate_callee (f := 21) rfl ?_); refine goesL_ (some 86) rfl rfl Try.func21 (by kernel_rfl) rfl #[.agg #[.int .i64 t136, .int .i64 t137, .slice Ao80 t138.length co80], .agg #[.int .i64 t105, .int .i64 t106, .slice Ao17 t107.length co17]] rfl (by (try simp only [List.map_toArray, List.map_cons, List.map_nil]); first | done | rfl | (simp only [List.length_drop, List.length_take]; rfl)) ?_; (with_reducible refine (laws_eqField.calls kj39 t136 t137 _ _ t138 t105 t106 _ _ t107 false _ ?side1 ?side2 ?side3 ?side4 A81.out).mono ?_); (case side1 => refine (Kd.R_reads' (e := 3) (base := w.heap.size) (ok := fun k_ => ((True ∧ some k_ ≠ (.slice Ao17 t107.length co17 : Value).ownBlock) ∧ some k_ ≠ (.slice Ao24 t117.length co24 : Value).ownBlock)) (n := t138.length) (c := co80) ?_).2.2; exact (pR ((Kd.R_mono (Kd.R_far (p := ⟨gb142, 2, none⟩) (Kd.R_far (p := ⟨gb142, 1, none⟩) (Kd.R_far (p := ⟨gb142, 0, none⟩) (Kd.R_types HO140.out BK142.out (by decide)) (fun _ hk => hk.2) (.int .i64 t136)) (fun _ hk => hk.2) (.int .i64 t137)) (fun _ hk => hk.2) (.slice Ao80 t138.length co80)) (fun _ h_ => h_.1))))); (case side2 => exact (Kd.R_reads' HO140.out).2.1); (case side3 => refine (Kd.R_reads' (e := 3) (base := w.heap.size) (ok := fun k_ => (some k_ ≠ (.slice Ao24 t117.length co24 : Value).ownBlock ∧ some k_ ≠ (.slice Ao80 t138.length co80 : Value).ownBlock)) (n := t107.length) (c := co17) ?_).2.2; exact (pR ((Kd.R_mono (Kd.R_far (p := ⟨gb142, 2, none⟩) (Kd.R_far (p := ⟨gb142, 1, none⟩) (Kd.R_far (p := ⟨gb142, 0, none⟩) (Kd.R_types HO_112002.out BK142.out (by decide)) (fun _ hk => hk.2) (.int .i64 t136)) (fun _ hk => hk.2) (.int .i64 t137)) (fun _ hk => hk.2) (.slice Ao80 t138.length co80)) (fun _ h_ => h_.1))))); (case side4 => exact (Kd.R_reads' HO_112002.out).2.1); rintro e w94 ⟨rfl, hb⟩; refine ⟨_, rfl, ?_⟩; have n0_ := aK (Kd.R_below (pR ((Kd.R_mono (Kd.R_far (p := ⟨gb142, 2, none⟩) (Kd.R_far (p := ⟨gb142, 1, none⟩) (Kd.R_far (p := ⟨gb142, 0, none⟩) (Kd.R_types HO_112002.out BK142.out (by decide)) (fun _ hk => hk.2) (.int .i64 t136)) (fun _ hk => hk.2) (.int .i64 t137)) (fun _ hk => hk.2) (.slice Ao80 t138.length co80)) (fun _ h_ => h_.1)))) hb); have n1_ := aK (Kd.R_below (pR ((Kd.R_mono (Kd.R_far (p := ⟨gb142, 2, none⟩) (Kd.R_far (p := ⟨gb142, 1, none⟩) (Kd.R_far (p := ⟨gb142, 0, none⟩) (Kd.R_types HO_122002.out BK142.out (by decide)) (fun _ hk => hk.2) (.int .i64 t136)) (fun _ hk => hk.2) (.int .i64 t137)) (fun _ hk => hk.2) (.slice Ao80 t138.length co80)) (fun _ h_ => h_.1)))) hb); have n2_ := aK (Kd.S_below (by (with_reducible repeat (first | apply Kd.S_alloc | apply Kd.S_drewN | apply Kd.S_drew)); exact (Kd.S_mono (Kd.S_far (p := ⟨gb142, 2, none⟩) (Kd.S_far (p := ⟨gb142, 1, none⟩) (Kd.S_far (p := ⟨gb142, 0, none⟩) (Kd.S_mono HO135.out (fun k_ hk => (⟨hk, hk.2⟩ : _ ∧ k_ ≠ gb142))) (fun _ hk => hk.2) (.int .i64 t136)) (fun _ hk => hk.2) (.int .i64 t137)) (fun _ hk => hk.2) (.slice Ao80 t138.length co80)) (fun _ h_ => h_.1))) hb); have n3_ := aK (Kd.R_below (pR ((Kd.R_mono (Kd.R_far (p := ⟨gb142, 2, none⟩) (Kd.R_far (p := ⟨gb142, 1, none⟩) (Kd.R_far (p := ⟨gb142, 0, none⟩) (Kd.R_types HO140.out BK142.out (by decide)) (fun _ hk => hk.2) (.int .i64 t136)) (fun _ hk => hk.2) (.int .i64 t137)) (fun _ hk => hk.2) (.slice Ao80 t138.length co80)) (fun _ h_ => h_.1)))) hb); have n4_ := aK (blk_below (g := gb111) (o := .cells #[.int .i64 t105, .int .i64 t106, .slice Ao17 t107.length co17] 24 (0, 0)) (by (with_reducible repeat (first | refine blk_drewN ?_ _ | refine blk_drew ?_ | refine blk_alloc ?_ _)); refine blk_far ?_ NB111_142.out _; (with_reducible repeat (first | refine blk_drewN ?_ _ | refine blk_drew ?_ | refine blk_alloc ?_ _)); refine blk_far ?_ NB111_142.out _; (with_reducible repeat (first | refine blk_drewN ?_ _ | refine blk_drew ?_ | refine blk_alloc ?_ _)); refine blk_far ?_ NB111_142.out _; (with_reducible repeat (first | refine blk_drewN ?_ _ | refine blk_drew ?_ | refine blk_alloc ?_ _)); exact BK111.out) hb); have n5_ := aK (blk_below (g := gb121) (o := .cells #[.int .i64 t115, .int .i64 t116, .slice Ao24 t117.length co24] 24 (0, 0)) (by (with_reducible repeat (first | refine blk_drewN ?_ _ | refine blk_drew ?_ | refine blk_alloc ?_ _)); refine blk_far ?_ NB121_142.out _; (with_reducible repeat (first | refine blk_drewN ?_ _ | refine blk_drew ?_ | refine blk_alloc ?_ _)); refine blk_far ?_ NB121_142.out _; (with_reducible repeat (first | refine blk_drewN ?_ _ | refine blk_drew ?_ | refine blk_alloc ?_ _)); refine blk_far ?_ NB121_142.out _; (with_reducible repeat (first | refine blk_drewN ?_ _ | refine blk_drew ?_ | refine blk_alloc ?_ _)); exact BK121.out) hb); have n6_ := aK (blk_below (g := gb142) (o := .cells #[.int .i64 t136, .int .i64 t137, .slice Ao80 t138.length co80] 24 (0, 0)) (by (with_reducible repeat (first | refine blk_drewN ?_ _ | refine blk_drew ?_ | refine blk_alloc ?_ _)); refine blk_put (cs := #[.int .i64 t136, .int .i64 t137, .slice none 0 0]) ?_ 2 _ rfl; (with_reducible repeat (first | refine blk_drewN ?_ _ | refine blk_drew ?_ | refine blk_alloc ?_ _)); refine blk_put (cs := #[.int .i64 t136, .int .i64 0, .slice none 0 0]) ?_ 1 _ rfl; (with_reducible repeat (first | refine blk_drewN ?_ _ | refine blk_drew ?_ | refine blk_alloc ?_ _)); refine blk_put (cs := #[.int .i64 0, .int .i64 0, .slice none 0 0]) ?_ 0 _ rfl; (with_reducible repeat (first | refine blk_drewN ?_ _ | refine blk_drew ?_ | refine blk_alloc ?_ _)); exact BK142.out) hb); replace HB := bS HB hb; clear HO_112002 HO_122002 HO135 HO140 BK111 BK121 BK142; have HO_112002 := n0_; have HO_122002 := n1_; have HO135 := n2_; have HO140 := n3_; have BK111 := n4_; have BK121 := n5_; have BK142 := n6_; clear n0_ n1_ n2_ n3_ n4_ n5_ n6_; (try clear hb); (try clear hb2); (try clear hk); (try clear hi)))
             go_meet
             case rel => exact ⟨_, (true), (by first | rfl | (simp; done) | (simp [*]; done)), H', ⟨by have := HJ9.out; have := HJ39.out; first | omega | exact Nat.le_refl _⟩, ⟨by (with_reducible repeat (first | apply Kd.R_alloc | apply Kd.R_drewN | apply Kd.R_drew)); exact Kd.R_mono HO_122002.out (fun _ hk => trivial)⟩, ⟨by (with_reducible repeat (first | refine blk_drewN ?_ _ | refine blk_drew ?_ | refine blk_alloc ?_ _)); exact BK121.out⟩, ⟨by repeat (first | (with_reducible first | exact HB.out | apply below_alloc | apply pw_below_drewN | apply below_drew1 | refine below_set ?_ GE111.out | refine below_set ?_ GE121.out | refine below_set ?_ GE142.out) | exact HB.out)⟩⟩
           case rest =>
            clear HC67
            try clear c1
            try clear c2
            try clear p2
            try clear c3
            try clear c4
            try clear c4b0
            try clear c5
            try clear c6
            try clear c7
            try clear c8
            try clear c9
            try clear c17
            try clear c18
            try clear c19
            try clear c20
            try clear c21
            try clear c22
            try clear c23
            try clear c24
            try clear c25
            try clear c26
            try clear c27
            try clear c31
            try clear c35
            try clear c38
            try clear c45
            try clear c45b0
            try clear c47
            try clear c48
            try clear c52
            try clear c56
            try clear c59
            try clear c59b0
            try clear c64
            try clear c64b0
            try clear c64b1
            try clear c68
            try clear c77
            try clear c78
            try clear c82
            try clear c83
            try clear c84
            try clear c86
            try clear c89
            try clear c90
            try clear c92
            try clear hcz16_0
            try clear hcz16_1
            try clear hcz16_2
            try clear hcz23_0
            try clear hcz23_1
            try clear hcz23_2
            try clear hcz28_0
            try clear hcz28_1
            try clear hcz28_2
            try clear hcz29_0
            try clear hcz29_1
            try clear hcz29_2
            try clear hcz32_0
            try clear hcz32_1
            try clear hcz32_2
            try clear hcz33_0
            try clear hcz33_1
            try clear hcz33_2
            try clear hcz49_0
            try clear hcz49_1
            try clear hcz49_2
            try clear hcz50_0
            try clear hcz50_1
            try clear hcz50_2
            try clear hcz53_0
            try clear hcz53_1
            try clear hcz53_2
            try clear hcz54_0
            try clear hcz54_1
            try clear hcz54_2
            try clear hcz60_0
            try clear hcz60_1
            try clear hcz60_2
            try clear hcz62_0
            try clear hcz62_1
            try clear hcz62_2
            try clear hcz69_0
            try clear hcz69_1
            try clear hcz69_2
            try clear hcz71_0
            try clear hcz71_1
            try clear hcz71_2
            try clear hcz79_0
            try clear hcz79_1
            try clear hcz79_2
            try clear hcz85_0
            try clear hcz85_1
            try clear hcz85_2
            try clear hcz87_0
            try clear hcz87_1
            try clear hcz87_2
            try clear hcz91_0
            try clear hcz91_1
            try clear hcz91_2
            try clear hcz93_0
            try clear hcz93_1
            try clear hcz93_2
            try clear hfz16_0
            try clear hfz16_1
            try clear hfz16_2
            try clear hfz23_0
            try clear hfz23_1
            try clear hfz23_2
            try clear hfz28_0
            try clear hfz28_1
            try clear hfz28_2
            try clear hfz29_0
            try clear hfz29_1
            try clear hfz29_2
            try clear hfz32_0
            try clear hfz32_1
            try clear hfz32_2
            try clear hfz33_0
            try clear hfz33_1
            try clear hfz33_2
            try clear hfz49_0
            try clear hfz49_1
            try clear hfz49_2
            try clear hfz50_0
            try clear hfz50_1
            try clear hfz50_2
            try clear hfz53_0
            try clear hfz53_1
            try clear hfz53_2
            try clear hfz54_0
            try clear hfz54_1
            try clear hfz54_2
            try clear hfz60_0
            try clear hfz60_1
            try clear hfz60_2
            try clear hfz62_0
            try clear hfz62_1
            try clear hfz62_2
            try clear hfz69_0
            try clear hfz69_1
            try clear hfz69_2
            try clear hfz71_0
            try clear hfz71_1
            try clear hfz71_2
            try clear hfz79_0
            try clear hfz79_1
            try clear hfz79_2
            try clear hfz85_0
            try clear hfz85_1
            try clear hfz85_2
            try clear hfz87_0
            try clear hfz87_1
            try clear hfz87_2
            try clear hfz91_0
            try clear hfz91_1
            try clear hfz91_2
            try clear hfz93_0
            try clear hfz93_1
            try clear hfz93_2
            try clear p2
            obtain ⟨kq, x92_66, rfl, HA, HJ66, HO_122002, BK121, HB⟩ := hcut
            have hl122002_66 := (Kd.R_reads' HO_122002.out).1
            rw [hl122002_66] at HO_122002
            (try simp only [hl122002_66])
            (try simp only [hl122002_66] at BK121)
            cases kq with
            | zero => exact absurd HA.out (by simp [laws_FnExactCountAtLeast.j2])
            | succ kj66 =>
             have H := HA.out
             clear HA
             simp only [laws_FnExactCountAtLeast.j2] at H
             by_cases c95 : x92_66 = true
             ·
              subst c95
              have H1 : (some false) = some r := by rw [if_pos rfl] at H; exact H
              clear H
              have H := H1
              clear H1
              obtain rfl := Option.some.inj H
              go_wp2
              go_ret
              exact ⟨by first | rfl | (simp [errW_none, errW_some] <;> rfl) | (simp [*, errW_none, errW_some] <;> rfl), by repeat (first | (with_reducible first | exact HB.out | apply below_alloc | apply pw_below_drewN | apply below_drew1) | exact HB.out)⟩
             ·
              replace c95 := Bool.eq_false_iff.mpr c95
              subst c95
              have H1 : ((laws_heldField.f kj66 t115 t116 t131 1).bind fun t144 => (if t144 < 0 then (some false) else (if t144 = t130 then (some true) else (some false)))) = some r := by rw [if_neg (show ¬ (false = true) by decide)] at H; exact H
              clear H
              have H := H1
              clear H1
              replace H := Option.bind_eq_some_iff.mp H
              obtain ⟨t144, A960, H⟩ := H
              replace H : (if t144 < 0 then (some false) else (if t144 = t130 then (some true) else (some false))) = some r := H
              have A96 := Aside0.mk A960
              clear A960
              by_cases c97 : t144 < 0
              ·
               rw [if_pos c97] at H
               have c97b0 : decide (t144 < 0) = true := decide_eq_true c97
               clear c97
               obtain rfl := Option.some.inj H
               have hcz98_0 : wc.cell? ⟨gb121, 0, none⟩ = some (.int .i64 t115) := (blk_cell BK121.out 0).trans rfl
               have hcz98_1 : wc.cell? ⟨gb121, 1, none⟩ = some (.int .i64 t116) := (blk_cell BK121.out 1).trans rfl
               have hcz98_2 : wc.cell? ⟨gb121, 2, none⟩ = some (.slice Ao24 t131.length co24) := (blk_cell BK121.out 2).trans rfl
               have hfz98_0 := blk_frozen BK121.out 0
               have hfz98_1 := blk_frozen BK121.out 1
               have hfz98_2 := blk_frozen BK121.out 2
               go_wp2_with (first | ((with_reducible refine gate_callee (f := 25) rfl ?_); refine goesL_ (some 95) rfl rfl Try.func25 (by kernel_rfl) rfl #[.agg #[.int .i64 t115, .int .i64 t116, .slice Ao24 t131.length co24], .int .i64 1] rfl (by (try simp only [List.map_toArray, List.map_cons, List.map_nil]); first | done | rfl | (simp only [List.length_drop, List.length_take]; rfl)) ?_; (with_reducible refine (laws_heldField.calls kj66 t115 t116 _ _ t131 1 t144 _ ?side1 ?side2 A96.out).mono ?_); (case side1 => repeat (first | exact (Kd.R_reads' HO_122002.out).2.2 | (with_reducible refine Kd.C_alloc ?_ _) | (with_reducible refine Kd.C_drewN ?_ _) | (with_reducible refine Kd.C_drew ?_))); (case side2 => exact (Kd.R_reads' HO_122002.out).2.1); rintro e w99 ⟨rfl, hb⟩; refine ⟨_, rfl, ?_⟩; have n0_ := aK (Kd.R_below (pR HO_122002.out) hb); replace HB := bS HB hb; clear HO_122002; have HO_122002 := n0_; clear n0_; (try clear hb); (try clear hb2); (try clear hk); (try clear hi)))
               go_ret
               exact ⟨by first | rfl | (simp [errW_none, errW_some] <;> rfl) | (simp [*, errW_none, errW_some] <;> rfl), by repeat (first | (with_reducible first | exact HB.out | apply below_alloc | apply pw_below_drewN | apply below_drew1) | exact HB.out)⟩
              ·
               rw [if_neg c97] at H
               have c97b0 : decide (t144 < 0) = false := decide_eq_false c97
               clear c97
               by_cases c100 : t144 = t130
               ·
                rw [if_pos c100] at H
                have c100b0 : (t144 == t130) = true := beq_iff_eq.mpr c100
                have c100b1 : (t144 != t130) = false := bne_eq_false_iff_eq.mpr c100
                clear c100
                obtain rfl := Option.some.inj H
                have hcz101_0 : wc.cell? ⟨gb121, 0, none⟩ = some (.int .i64 t115) := (blk_cell BK121.out 0).trans rfl
                have hcz101_1 : wc.cell? ⟨gb121, 1, none⟩ = some (.int .i64 t116) := (blk_cell BK121.out 1).trans rfl
                have hcz101_2 : wc.cell? ⟨gb121, 2, none⟩ = some (.slice Ao24 t131.length co24) := (blk_cell BK121.out 2).trans rfl
                have hfz101_0 := blk_frozen BK121.out 0
                have hfz101_1 := blk_frozen BK121.out 1
                have hfz101_2 := blk_frozen BK121.out 2
                go_wp2_with (first | ((with_reducible refine gate_callee (f := 25) rfl ?_); refine goesL_ (some 95) rfl rfl Try.func25 (by kernel_rfl) rfl #[.agg #[.int .i64 t115, .int .i64 t116, .slice Ao24 t131.length co24], .int .i64 1] rfl (by (try simp only [List.map_toArray, List.map_cons, List.map_nil]); first | done | rfl | (simp only [List.length_drop, List.length_take]; rfl)) ?_; (with_reducible refine (laws_heldField.calls kj66 t115 t116 _ _ t131 1 t144 _ ?side1 ?side2 A96.out).mono ?_); (case side1 => repeat (first | exact (Kd.R_reads' HO_122002.out).2.2 | (with_reducible refine Kd.C_alloc ?_ _) | (with_reducible refine Kd.C_drewN ?_ _) | (with_reducible refine Kd.C_drew ?_))); (case side2 => exact (Kd.R_reads' HO_122002.out).2.1); rintro e w102 ⟨rfl, hb⟩; refine ⟨_, rfl, ?_⟩; have n0_ := aK (Kd.R_below (pR HO_122002.out) hb); replace HB := bS HB hb; clear HO_122002; have HO_122002 := n0_; clear n0_; (try clear hb); (try clear hb2); (try clear hk); (try clear hi)))
                go_ret
                exact ⟨by first | rfl | (simp [errW_none, errW_some] <;> rfl) | (simp [*, errW_none, errW_some] <;> rfl), by repeat (first | (with_reducible first | exact HB.out | apply below_alloc | apply pw_below_drewN | apply below_drew1) | exact HB.out)⟩
               ·
                rw [if_neg c100] at H
                have c100b0 : (t144 == t130) = false := beq_eq_false_iff_ne.mpr c100
                have c100b1 : (t144 != t130) = true := bne_iff_ne.mpr c100
                obtain rfl := Option.some.inj H
                have hcz103_0 : wc.cell? ⟨gb121, 0, none⟩ = some (.int .i64 t115) := (blk_cell BK121.out 0).trans rfl
                have hcz103_1 : wc.cell? ⟨gb121, 1, none⟩ = some (.int .i64 t116) := (blk_cell BK121.out 1).trans rfl
                have hcz103_2 : wc.cell? ⟨gb121, 2, none⟩ = some (.slice Ao24 t131.length co24) := (blk_cell BK121.out 2).trans rfl
                have hfz103_0 := blk_frozen BK121.out 0
                have hfz103_1 := blk_frozen BK121.out 1
                have hfz103_2 := blk_frozen BK121.out 2
                go_wp2_with (first | ((with_reducible refine gate_callee (f := 25) rfl ?_); refine goesL_ (some 95) rfl rfl Try.func25 (by kernel_rfl) rfl #[.agg #[.int .i64 t115, .int .i64 t116, .slice Ao24 t131.length co24], .int .i64 1] rfl (by (try simp only [List.map_toArray, List.map_cons, List.map_nil]); first | done | rfl | (simp only [List.length_drop, List.length_take]; rfl)) ?_; (with_reducible refine (laws_heldField.calls kj66 t115 t116 _ _ t131 1 t144 _ ?side1 ?side2 A96.out).mono ?_); (case side1 => repeat (first | exact (Kd.R_reads' HO_122002.out).2.2 | (with_reducible refine Kd.C_alloc ?_ _) | (with_reducible refine Kd.C_drewN ?_ _) | (with_reducible refine Kd.C_drew ?_))); (case side2 => exact (Kd.R_reads' HO_122002.out).2.1); rintro e w104 ⟨rfl, hb⟩; refine ⟨_, rfl, ?_⟩; have n0_ := aK (Kd.R_below (pR HO_122002.out) hb); replace HB := bS HB hb; clear HO_122002; have HO_122002 := n0_; clear n0_; (try clear hb); (try clear hb2); (try clear hk); (try clear hi)))
                go_ret
                exact ⟨by first | rfl | (simp [errW_none, errW_some] <;> rfl) | (simp [*, errW_none, errW_some] <;> rfl), by repeat (first | (with_reducible first | exact HB.out | apply below_alloc | apply pw_below_drewN | apply below_drew1) | exact HB.out)⟩
          ·
           rw [if_neg c64] at H
           have c64b0 : (t132 == t130) = false := beq_eq_false_iff_ne.mpr c64
           have c64b1 : (t132 != t130) = true := bne_iff_ne.mpr c64
           obtain rfl := Option.some.inj H
           have hcz105_0 : wc.cell? ⟨gb121, 0, none⟩ = some (.int .i64 t115) := (blk_cell BK121.out 0).trans rfl
           have hcz105_1 : wc.cell? ⟨gb121, 1, none⟩ = some (.int .i64 t116) := (blk_cell BK121.out 1).trans rfl
           have hcz105_2 : wc.cell? ⟨gb121, 2, none⟩ = some (.slice Ao24 t117.length co24) := (blk_cell BK121.out 2).trans rfl
           have hfz105_0 := blk_frozen BK121.out 0
           have hfz105_1 := blk_frozen BK121.out 1
           have hfz105_2 := blk_frozen BK121.out 2
           go_wp2_with (first | ((with_reducible refine gate_callee (f := 24) rfl ?_); refine goesL_ (some 68) rfl rfl Try.func24 (by kernel_rfl) rfl #[.agg #[.int .i64 t115, .int .i64 t116, .slice Ao24 t117.length co24], .int .i64 1] rfl (by (try simp only [List.map_toArray, List.map_cons, List.map_nil]); first | done | rfl | (simp only [List.length_drop, List.length_take]; rfl)) ?_; (with_reducible refine (laws_markField.calls kj39 t115 t116 (fun k_ => some k_ = (.slice Ao24 t117.length co24 : Value).ownBlock) (.slice Ao24 t117.length co24) t117 1 t130 t131 w _ ?side1 ?side2 A57.out).mono ?_); (case side1 => repeat (first | (with_reducible first | exact HB.out | apply below_alloc | apply pw_below_drewN | apply below_drew1 | refine below_set ?_ GE121.out) | exact HB.out)); (case side2 => exact Kd.R_tight rfl HO_122002.out); rintro e w106 ⟨rfl, hy0, hb, hkp⟩; refine ⟨_, rfl, ?_⟩; have n0_ := aK (Kd.R_mono (ok' := fun k_ => some k_ ≠ (.slice Ao24 t117.length co24 : Value).ownBlock) (Kd.R_keptB (HO_112002.out) hkp (fun k_ hk_ hs_ => (hk_) hs_)) (fun k_ hk_ => hk_.1)); have n1_ := aK (Kd.R_reok rfl hy0 (fun k_ e_ => HO_122002.out.1 k_ e_)); have n2_ := aK (blk_kept (pB BK121.out) hkp (fun hs_ => (fun e_ => (Kd.R_ne HO_122002.out BK121.out (by decide)) e_) hs_)); have n3_ := aK (hb); clear HO_112002 HO_122002 BK121 HB; have HO_112002 := n0_; have HO_122002 := n1_; have BK121 := n2_; have HB := n3_; clear n0_ n1_ n2_ n3_; (try clear hb); (try clear hkp); (try clear hy0); have hcz107_0 : w106.cell? ⟨gb121, 0, none⟩ = some (.int .i64 t115) := (blk_cell BK121.out 0).trans rfl; have hcz107_1 : w106.cell? ⟨gb121, 1, none⟩ = some (.int .i64 t116) := (blk_cell BK121.out 1).trans rfl; have hcz107_2 : w106.cell? ⟨gb121, 2, none⟩ = some (.slice Ao24 t117.length co24) := (blk_cell BK121.out 2).trans rfl; have hfz107_0 := blk_frozen BK121.out 0; have hfz107_1 := blk_frozen BK121.out 1; have hfz107_2 := blk_frozen BK121.out 2) | ((with_reducible refine gate_callee (f := 25) rfl ?_); refine goesL_ (some 71) rfl rfl Try.func25 (by kernel_rfl) rfl #[.agg #[.int .i64 t115, .int .i64 t116, .slice Ao24 t131.length co24], .int .i64 1] rfl (by (try simp only [List.map_toArray, List.map_cons, List.map_nil]); first | done | (rw [show t131.length = t117.length from (Kd.R_reads' HO_122002.out).1.symm] <;> rfl) | rfl | (simp only [List.length_drop, List.length_take]; rfl)) ?_; (with_reducible refine (laws_heldField.calls kj39 t115 t116 _ _ t131 1 t132 _ ?side1 ?side2 A58.out).mono ?_); (case side1 => repeat (first | exact (Kd.R_reads' HO_122002.out).2.2 | (with_reducible refine Kd.C_alloc ?_ _) | (with_reducible refine Kd.C_drewN ?_ _) | (with_reducible refine Kd.C_drew ?_))); (case side2 => rw [show t131.length = t117.length from (Kd.R_reads' HO_122002.out).1.symm]; exact (Kd.R_reads' HO_122002.out).2.1); rintro e w108 ⟨rfl, hb⟩; refine ⟨_, rfl, ?_⟩; have n0_ := aK (Kd.R_below (pR HO_112002.out) hb); have n1_ := aK (Kd.R_below (pR HO_122002.out) hb); replace HB := bS HB hb; clear HO_112002 HO_122002; have HO_112002 := n0_; have HO_122002 := n1_; clear n0_ n1_; (try clear hb); (try clear hb2); (try clear hk); (try clear hi)))
           go_ret
           exact ⟨by first | rfl | (simp [errW_none, errW_some] <;> rfl) | (simp [*, errW_none, errW_some] <;> rfl), by repeat (first | (with_reducible first | exact HB.out | apply below_alloc | apply pw_below_drewN | apply below_drew1) | exact HB.out)⟩
     ·
      replace c38 := Bool.eq_false_iff.mpr c38
      subst c38
      have H1 : (some false) = some r := by rw [if_neg (show ¬ (false = true) by decide)] at H; exact H
      clear H
      have H := H1
      clear H1
      obtain rfl := Option.some.inj H
      go_wp2_with (first | ((with_reducible refine gate_callee (f := 19) rfl ?_); refine goesL_ (some 47) rfl rfl Try.func19 (by kernel_rfl) rfl #[.slice A0 l0.length c0] rfl (by (try simp only [List.map_toArray, List.map_cons, List.map_nil]); first | done | rfl | (simp only [List.length_drop, List.length_take]; rfl)) ?_; (with_reducible refine (laws_toFieldS.calls kj9 _ _ l0 t123 _ ?side1 ?side2 A36.out).mono ?_); (case side1 => repeat (first | exact (Kd.C_below HR0.out HB.out) | (with_reducible refine Kd.C_alloc ?_ _) | (with_reducible refine Kd.C_drewN ?_ _) | (with_reducible refine Kd.C_drew ?_))); (case side2 => exact HC0.out); rintro e w109 ⟨v124, rfl, ho0, hb⟩; refine ⟨_, rfl, ?_⟩; have n0_ := aK (Kd.S_elder' (by (with_reducible repeat (first | apply Kd.S_alloc | apply Kd.S_drewN | apply Kd.S_drew)); exact HO_8.out) (Kd.S_base ho0) hb); have n1_ := aK (Kd.R_below (pR HO_112002.out) hb); have n2_ := aK (Kd.R_below (pR HO_122002.out) hb); have HO125 := aK (Kd.S_lower (Kd.S_newB (Kd.S_newB (Kd.S_new' (Kd.S_new' (Kd.S_new' ho0 (Kd.S_lt (by (with_reducible repeat (first | apply Kd.S_alloc | apply Kd.S_drewN | apply Kd.S_drew)); exact HO_8.out))) (Kd.R_lt (pR HO_112002.out))) (Kd.R_lt (pR HO_122002.out))) (g := gb111) (o := .cells #[.int .i64 t105, .int .i64 t106, .slice Ao17 t107.length co17] 24 (0, 0)) (pB BK111.out)) (g := gb121) (o := .cells #[.int .i64 t115, .int .i64 t116, .slice Ao24 t117.length co24] 24 (0, 0)) (pB BK121.out)) (below_size (pS HB.out))); replace BK111 := bB BK111 hb; replace BK121 := bB BK121 hb; replace HB := bS HB hb; clear HO_8 HO_112002 HO_122002; have HO_8 := n0_; have HO_112002 := n1_; have HO_122002 := n2_; clear n0_ n1_ n2_; (try clear hb); (try clear hb2); (try clear hk); (try clear hi); (try clear ho0); obtain ⟨Ao110, co110, eo110⟩ := Kd.S_slice HO125.out; subst eo110) | ((with_reducible refine gate_callee (f := 22) rfl ?_); refine goesL_ (some 48) rfl rfl Try.func22 (by kernel_rfl) rfl #[.slice Ao19 t112.length co19, .slice Ao110 t123.length co110] rfl (by (try simp only [List.map_toArray, List.map_cons, List.map_nil]); first | done | rfl | (simp only [List.length_drop, List.length_take]; rfl)) ?_; (with_reducible refine (laws_eqFieldS.calls kj9 _ _ t112 _ _ t123 false _ ?side1 ?side2 ?side3 ?side4 A37.out).mono ?_); (case side1 => repeat (first | exact (Kd.S_reads' HO_8.out).2.2 | (with_reducible refine Kd.C_alloc ?_ _) | (with_reducible refine Kd.C_drewN ?_ _) | (with_reducible refine Kd.C_drew ?_))); (case side2 => exact (Kd.S_reads' HO_8.out).2.1); (case side3 => repeat (first | exact (Kd.S_reads' HO125.out).2.2 | (with_reducible refine Kd.C_alloc ?_ _) | (with_reducible refine Kd.C_drewN ?_ _) | (with_reducible refine Kd.C_drew ?_))); (case side4 => exact (Kd.S_reads' HO125.out).2.1); rintro e w111 ⟨rfl, hb⟩; refine ⟨_, rfl, ?_⟩; have n0_ := aK (Kd.S_below (by (with_reducible repeat (first | apply Kd.S_alloc | apply Kd.S_drewN | apply Kd.S_drew)); exact HO_8.out) hb); have n1_ := aK (Kd.R_below (pR HO_112002.out) hb); have n2_ := aK (Kd.R_below (pR HO_122002.out) hb); have n3_ := aK (Kd.S_below (by (with_reducible repeat (first | apply Kd.S_alloc | apply Kd.S_drewN | apply Kd.S_drew)); exact HO125.out) hb); replace BK111 := bB BK111 hb; replace BK121 := bB BK121 hb; replace HB := bS HB hb; clear HO_8 HO_112002 HO_122002 HO125; have HO_8 := n0_; have HO_112002 := n1_; have HO_122002 := n2_; have HO125 := n3_; clear n0_ n1_ n2_ n3_; (try clear hb); (try clear hb2); (try clear hk); (try clear hi)))
      go_ret
      exact ⟨by first | rfl | (simp [errW_none, errW_some] <;> rfl) | (simp [*, errW_none, errW_some] <;> rfl), by repeat (first | (with_reducible first | exact HB.out | apply below_alloc | apply pw_below_drewN | apply below_drew1 | refine below_set ?_ GE111.out | refine below_set ?_ GE121.out) | exact HB.out)⟩

/-- The one plain statement of FnExactCountAtLeast. -/
def laws_FnExactCountAtLeast.Pure : Prop := ∀ (l0 : List (S40)) (a1 : Int), (l0.length ≤ 9223372036854775807 ∧ ∀ z0 ∈ l0, (Lit.int .i64 z0.f0).wf = true ∧ (Lit.int .i64 z0.f1).wf = true ∧ (z0.f2.length ≤ 9223372036854775807 ∧ ∀ z1 ∈ z0.f2, (Lit.int .i64 z1).wf = true)) → l0.length * 40 ≤ 140737488351232 → (Lit.int .i64 a1).wf = true → ∃ k, laws_FnExactCountAtLeast.f k l0 a1 = some true

end Go.Proofs.Ytmhbakmgcogmoaa.P
