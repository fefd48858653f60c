/- The law FnCalibrated: the shares of a calibration do not decrease, and over classes of one share the hits are this share of the cases; no conditions. -/
import Derived.Test.YthekngnkajjhnaaPureCalibSh
import Derived.Test.YthekngnkajjhnaaPureCalibrationOf
import Derived.Test.YthekngnkajjhnaaPureSh
import Derived.Test.YthekngnkajjhnaaPf6
namespace Go.Proofs.Ythekngnkajjhnaa.Pure
set_option linter.unusedVariables false
set_option linter.unusedSimpArgs false
open Go.RowKit Go.Proofs.Ythekngnkajjhnaa.P Go.Proofs.YthekngnkajjhnaaW.PrintWords Go.Proofs.YthekngnkajjhnaaW.PrintLast
/-- Does a run of one share end with class i? -/
def turnB (G : List SG) (i : Nat) : Bool := decide (i + 1 = 11) || (!((shG G ((i + 1 : Nat) : Int)).f0 == (shG G (i : Int)).f0) || !((shG G ((i + 1 : Nat) : Int)).f1 == (shG G (i : Int)).f1))
theorem shr_ext {a b : SHR} (h0 : a.f0 = b.f0) (h1 : a.f1 = b.f1) : a = b := by
  cases a
  cases b
  dsimp only at h0 h1
  rw [h0, h1]
theorem turnB_no {G : List SG} {i : Nat} (h : turnB G i = false) : i + 1 ≠ 11 ∧ shG G ((i + 1 : Nat) : Int) = shG G (i : Int) := by
  unfold turnB at h
  simp only [Bool.or_eq_false_iff, decide_eq_false_iff_not, Bool.not_eq_false', beq_iff_eq] at h
  exact ⟨h.1, shr_ext h.2.1 h.2.2⟩
theorem turnB_yes {G : List SG} {i : Nat} (h : turnB G i = true) : i + 1 = 11 ∨ shG G (i : Int) ≠ shG G ((i + 1 : Nat) : Int) := by
  unfold turnB at h
  rw [Bool.or_eq_true, decide_eq_true_eq] at h
  rcases h with h | h
  · exact .inl h
  · refine .inr (fun e => ?_)
    rw [e] at h
    simp at h
theorem pre_bd {cs : List Int} (h : ∀ i, i < 11 → 0 ≤ cs.getD i 0 ∧ cs.getD i 0 ≤ 1000) : ∀ i a, a ≤ i → i ≤ 11 → 0 ≤ pre cs i - pre cs a ∧ pre cs i - pre cs a ≤ 1000 * ((i : Int) - a)
  | 0, a, h0, _ => by
    obtain rfl : a = 0 := by omega
    exact ⟨by omega, by omega⟩
  | i + 1, a, h0, h1 => by
    by_cases e : a = i + 1
    · subst e
      exact ⟨by omega, by omega⟩
    · have ih := pre_bd h i a (by omega) (by omega)
      have := h i (by omega)
      have e2 : pre cs (i + 1) = pre cs i + cs.getD i 0 := rfl
      constructor <;> omega
theorem calibrated_loop {cs hs : List Int} {G : List SG} (ok : tallyOk cs hs = true) (hG : GInv 11 G) (I : PI cs hs 11 G) (h1 : 1 ≤ G.length) :
    Ev (fun k => laws_FnCalibrated.l0 k (tab 11 (fun c => shG G (c : Int))) (tab 11 (fun c => shG G (c : Int))) 0 0 (tab 11 (fun c => shG G (c : Int))) 11 0 cs hs) true := by
  obtain ⟨hc, hh, hv⟩ := tallyOk_iff.1 ok
  generalize hL : tab 11 (fun c : Nat => shG G (c : Int)) = L
  have hl : (L.length : Int) = 11 := by rw [← hL, tab_length]; rfl
  have hcl : (cs.length : Int) = 11 := by omega
  have hhl : (hs.length : Int) = 11 := by omega
  have hg : ∀ i, i < 11 → L.getD i z55 = shG G (i : Int) := fun i hi => by rw [← hL]; exact tab_getD 11 _ _ hi
  have bc := pre_bd (cs := cs) (fun i hi => by have := hv i hi; omega)
  have bh := pre_bd (cs := hs) (fun i hi => by have := hv i hi; omega)
  have h := loop_ev (fun k (s : Int × Int) i => laws_FnCalibrated.l0 k L L s.1 s.2 L 11 (i : Int) cs hs) 11
    (fun i s => if turnB G i = true then (0, 0) else (s.1 + hs.getD i 0, s.2 + cs.getD i 0)) (fun _ => true)
    (fun i s => i < 11 → ∃ a, a ≤ i ∧ (a = 0 ∨ shG G ((a - 1 : Nat) : Int) ≠ shG G (a : Int)) ∧ (∀ j : Nat, a ≤ j → j ≤ i → shG G (j : Int) = shG G (i : Int)) ∧ s.1 = pre hs i - pre hs a ∧ s.2 = pre cs i - pre cs a)
    (fun i s r hI hi hr => by
      obtain ⟨a, ha, hst, hall, e1, e2⟩ := hI hi
      have n1 := Aside0.mk (show wrap64 ((i : Int) + 1) = ((i + 1 : Nat) : Int) by rw [w64 (by omega) (by omega)]; rfl)
      have b1 := bh (i + 1) a (by omega) (by omega)
      have b2 := bc (i + 1) a (by omega) (by omega)
      have ph : pre hs (i + 1) = pre hs i + hs.getD i 0 := rfl
      have pc : pre cs (i + 1) = pre cs i + cs.getD i 0 := rfl
      have w1 := Aside0.mk (show wrap64 (s.1 + hs.getD i 0) = s.1 + hs.getD i 0 from w64 (by omega) (by omega))
      have w2 := Aside0.mk (show wrap64 (s.2 + cs.getD i 0) = s.2 + cs.getD i 0 from w64 (by omega) (by omega))
      have sb := shG_bd hG h1 (i : Int)
      have last : Ev (fun k => laws_FnCalibrated.j3 k L L (s.1 + hs.getD i 0) (s.2 + cs.getD i 0) L 11 (i : Int) (turnB G i) cs hs (shG G (i : Int)).f0 (shG G (i : Int)).f1) r := by
        refine ev_step (fun k => laws_FnCalibrated.j3.eq_2 _ _ _ _ _ _ _ _ _ _ _ _ k) ?_
        rw [n1.out]
        cases ht : turnB G i with
        | false =>
          rw [ht] at hr
          exact ev_ifn (by simp) hr
        | true =>
          rw [ht] at hr
          refine ev_ifp rfl ?_
          by_cases hp : s.2 + cs.getD i 0 > 0
          · have hs1 := run_sum hG I h1 ha hi hst hall (turnB_yes ht)
            rw [show pre hs (i + 1) - pre hs a = s.1 + hs.getD i 0 by omega, show pre cs (i + 1) - pre cs a = s.2 + cs.getD i 0 by omega] at hs1
            exact ev_ifp hp (ev_ifp (by rw [hs1]) hr)
          · exact ev_ifn hp hr
      have mid : Ev (fun k => laws_FnCalibrated.j2 k L L s.1 s.2 (i : Int) L 11 (i : Int) false cs hs (shG G (i : Int)).f0 (shG G (i : Int)).f1) r := by
        refine ev_step (fun k => laws_FnCalibrated.j2.eq_2 _ _ _ _ _ _ _ _ _ _ _ _ _ k) (ev_ifn (by simp) (ev_ifp (by omega) (ev_ifp (by omega) (ev_ifp (by omega) ?_))))
        rw [n1.out, rd_nat, rd_nat, w1.out, w2.out, hl]
        by_cases he : i + 1 = 11
        · have et : turnB G i = true := by unfold turnB; rw [decide_eq_true he]; rfl
          rw [et] at last
          exact ev_ifp (by omega) last
        · have et : turnB G i = (!((shG G ((i + 1 : Nat) : Int)).f0 == (shG G (i : Int)).f0) || !((shG G ((i + 1 : Nat) : Int)).f1 == (shG G (i : Int)).f1)) := by unfold turnB; rw [decide_eq_false he]; rfl
          rw [et] at last
          refine ev_ifn (by omega) (ev_ifp (by omega) (ev_ifp (by omega) ?_))
          rw [rdsh, hg (i + 1) (by omega)]
          exact last
      refine ev_step (fun k => laws_FnCalibrated.l0.eq_2 _ _ _ _ _ _ _ _ _ k) (ev_ifp (by omega) (ev_ifp (by omega) (ev_ifp (by omega) (ev_ifp (by omega) (ev_ifn (by simp) ?_)))))
      rw [rdsh, hg i hi]
      by_cases hp : (i : Int) > 0
      · obtain ⟨c, rfl⟩ : ∃ c, i = c + 1 := ⟨i - 1, by omega⟩
        have n2 := Aside0.mk (show wrap64 (((c + 1 : Nat) : Int) - 1) = (c : Int) by rw [w64 (by omega) (by omega)]; omega)
        have sc := shG_bd hG h1 (c : Int)
        have le := shG_le hG I h1 (c := c) (d := c + 1) (by omega) hi
        have p1 := prod_bd (a := (shG G (c : Int)).f0) (b := (shG G ((c + 1 : Nat) : Int)).f1) (by omega) (by omega) (by omega) (by omega)
        have p2 := prod_bd (a := (shG G ((c + 1 : Nat) : Int)).f0) (b := (shG G (c : Int)).f1) (by omega) (by omega) (by omega) (by omega)
        refine ev_ifp hp ?_
        rw [n2.out, hl, rdsh, hg c (by omega)]
        refine ev_ifp (by omega) (ev_ifp (by omega) ?_)
        rw [w64 (x := (shG G (c : Int)).f0 * (shG G ((c + 1 : Nat) : Int)).f1) (by omega) (by omega), w64 (x := (shG G ((c + 1 : Nat) : Int)).f0 * (shG G (c : Int)).f1) (by omega) (by omega), decide_eq_false (by omega)]
        exact mid
      · exact ev_ifn hp mid)
    (fun i s hI hi => by
      intro hi2
      obtain ⟨a, ha, hst, hall, e1, e2⟩ := hI hi
      have ph : pre hs (i + 1) = pre hs i + hs.getD i 0 := rfl
      have pc : pre cs (i + 1) = pre cs i + cs.getD i 0 := rfl
      cases ht : turnB G i with
      | true =>
        rw [if_pos rfl]
        refine ⟨i + 1, Nat.le_refl _, .inr ?_, fun j h2 h3 => by rw [show j = i + 1 by omega], by dsimp only; omega, by dsimp only; omega⟩
        rcases turnB_yes ht with h2 | h2
        · omega
        · exact h2
      | false =>
        rw [if_neg (by simp)]
        obtain ⟨_, h3⟩ := turnB_no ht
        refine ⟨a, by omega, hst, fun j h4 h5 => ?_, by dsimp only; omega, by dsimp only; omega⟩
        by_cases hj : j = i + 1
        · rw [hj]
        · rw [hall j h4 (by omega), h3])
    (fun s hI => ev_step (fun k => laws_FnCalibrated.l0.eq_2 _ _ _ _ _ _ _ _ _ k) (ev_ifn (by omega) (ev_some _)))
    0 (0, 0) (Nat.zero_le _) (fun _ => ⟨0, Nat.le_refl _, .inl rfl, fun j h2 h3 => by rw [show j = 0 by omega], by dsimp only; omega, by dsimp only; omega⟩)
  exact h
theorem FnCalibrated : laws_FnCalibrated.Pure := by
  intro c h hc hh
  refine Ev.rounds ?_
  unfold laws_FnCalibrated.f
  by_cases hb : (c.length : Int) > 4096
  · exact ev_ifp hb (ev_some _)
  refine ev_ifn hb ?_
  have g1 := l10Good_ev c h
  have g2 := isValidTally_ev c h
  have fin : ∀ (L : List SHR), (L.length : Int) ≤ 11 → Ev (fun k => laws_FnCalibrated.l0 k L L 0 0 L (L.length : Int) 0 c h) true → ∀ b : Bool, Ev (fun k => impl_CalibrationOf.f k c h) (L, b) → Ev (fun k => spec_CalibrationOf.f k c h) (L, b) →
      Ev (fun k => (impl_CalibrationOf.f k c h).bind fun bt102 => (spec_CalibrationOf.f k c h).bind fun bt106 => if (bt102.2 != bt106.2) = true then laws_FnCalibrated.j0 k bt102.1 bt106.1 true c h else laws_FnCalibrated.j0 k bt102.1 bt106.1 ((bt102.1.length : Int) != (bt106.1.length : Int)) c h) true := by
    intro L hl hL b e1 e2
    refine ev_bind e1 (ev_bind e2 (ev_ifn (by simp) (ev_step (fun k => laws_FnCalibrated.j0.eq_2 _ _ _ _ _ k) (ev_ifn (by simp) hL))))
  cases ok : tallyOk c h with
  | false =>
    rw [ok] at g1 g2
    refine fin [] (by simp) (ev_step (fun k => laws_FnCalibrated.l0.eq_2 _ _ _ _ _ _ _ _ _ k) (ev_ifn (by simp) (ev_some _))) false ?_ ?_
    · unfold impl_CalibrationOf.f
      exact ev_bind g2 (ev_ifn (by simp) (ev_some _))
    · unfold spec_CalibrationOf.f
      exact ev_bind g1 (ev_ifn (by simp) (ev_some _))
  | true =>
    rw [ok] at g1 g2
    obtain ⟨G, _, gg, ⟨_, h1, h2⟩ | ⟨hl, h1, h2⟩⟩ := calib_both ok
    · refine fin [] (by simp) (ev_step (fun k => laws_FnCalibrated.l0.eq_2 _ _ _ _ _ _ _ _ _ k) (ev_ifn (by simp) (ev_some _))) false ?_ ?_
      · unfold impl_CalibrationOf.f
        exact ev_bind g2 (ev_ifp rfl (ev_bind h2 (ev_some _)))
      · unfold spec_CalibrationOf.f
        exact ev_bind g1 (ev_ifp rfl (ev_bind h1 (ev_ifp rfl (ev_some _))))
    · obtain ⟨i1, i2⟩ := calib_inv ok gg
      have e11 : ((tab 11 (fun c : Nat => shG G (c : Int))).length : Int) = 11 := by rw [tab_length]; rfl
      refine fin (tab 11 (fun c => shG G (c : Int))) (by omega) ?_ true ?_ ?_
      · rw [e11]
        exact calibrated_loop ok i1 i2 hl
      · unfold impl_CalibrationOf.f
        exact ev_bind g2 (ev_ifp rfl (ev_bind h2 (ev_some _)))
      · unfold spec_CalibrationOf.f
        exact ev_bind g1 (ev_ifp rfl (ev_bind h1 (ev_ifn (by rw [tab_length]; decide) (ev_bind h1 (ev_some _)))))
end Go.Proofs.Ythekngnkajjhnaa.Pure
