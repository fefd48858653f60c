/- The groups of a calibration: intervals of classes, their sums, their order; and what the shares of the classes are. Condition: the tally is valid. -/
import Derived.Test.YthekngnkajjhnaaPureCalib
namespace Go.Proofs.Ythekngnkajjhnaa.Pure
set_option linter.unusedVariables false
set_option linter.unusedSimpArgs false
open Go.RowKit Go.Proofs.Ythekngnkajjhnaa.P Go.Proofs.YthekngnkajjhnaaW.PrintWords Go.Proofs.YthekngnkajjhnaaW.PrintLast
theorem ev_det {α : Type} {g : Nat → Option α} {r s : α} (h : Ev g r) (k : Ev g s) : r = s := by
  obtain ⟨K, hk⟩ := ev_two h k
  have := hk K (Nat.le_refl _)
  exact Option.some.inj (this.1.symm.trans this.2)
def pre (cs : List Int) : Nat → Int
  | 0 => 0
  | i + 1 => pre cs i + cs.getD i 0
/-- Groups, the last one first: intervals of classes up to i, with their sums, in order. -/
def PIr (cs hs : List Int) : Nat → List SG → Prop
  | i, [] => pre cs i = 0 ∧ pre hs i = 0
  | i, b :: U => ∃ F : Nat, b.f0.getD 0 0 = (F : Int) ∧ F < i ∧ b.f1 = pre cs i - pre cs F ∧ b.f2 = pre hs i - pre hs F ∧ GOk b ∧ (∀ c, U.head? = some c → c.f2 * b.f1 ≤ b.f2 * c.f1) ∧ PIr cs hs F U
theorem pop_inv (cs hs : List Int) (i : Nat) (hi : i < 11) : ∀ (n : Nat) (T : List SG) (q : SG) (F : Nat), T.length = n → (∀ s ∈ T, GOk s) → GOk q → sm (fun s : SG => s.f1) T + q.f1 ≤ 1000 * ((i : Int) + 1) → sm len0 T + len0 q ≤ (i : Int) + 1 →
    PIr cs hs F T.reverse → q.f0.getD 0 0 = (F : Int) → F < i + 1 → q.f1 = pre cs (i + 1) - pre cs F → q.f2 = pre hs (i + 1) - pre hs F →
    ∃ T', GInv ((i + 1 : Nat) : Int) T' ∧ PIr cs hs (i + 1) T'.reverse ∧ (∀ r, Ev (fun k => spec_l10Groups.l0 k T' ((i + 1 : Nat) : Int) cs hs) r → Ev (fun k => spec_l10Groups.l1 k T (i : Int) cs hs q.f0 q.f1 q.f2) r) := by
  have e1 := Aside0.mk (show wrap64 ((i : Int) + 1) = ((i + 1 : Nat) : Int) by rw [w64 (by omega) (by omega)]; rfl)
  have stop : ∀ (T : List SG) (q : SG), (∀ s ∈ T, GOk s) → GOk q → sm (fun s : SG => s.f1) T + q.f1 ≤ 1000 * ((i : Int) + 1) → sm len0 T + len0 q ≤ (i : Int) + 1 → GInv ((i + 1 : Nat) : Int) (T ++ [q]) := fun T q hT hq h1 h2 =>
    ⟨fun s hs => (List.mem_append.1 hs).elim (hT s) (fun h => by rw [List.mem_singleton.1 h]; exact hq), by rw [sm_app, sm_one]; omega, by rw [sm_app, sm_one]; omega⟩
  have short : ∀ T : List SG, (∀ s ∈ T, GOk s) → ∀ q : SG, GOk q → sm (fun s : SG => s.f1) T + q.f1 ≤ 1000 * ((i : Int) + 1) → T.length ≤ 11000 := fun T hT q hq h1 => by
    have := sm_len (h := fun s : SG => s.f1) (l := T) (fun s hs => (hT s hs).a)
    have := hq.a
    omega
  intro n
  induction n with
  | zero =>
    intro T q F hn hT hq h1 h2 hP hF1 hF2 hF3 hF4
    obtain rfl := List.length_eq_zero_iff.1 hn
    refine ⟨[] ++ [q], stop [] q hT hq h1 h2, ⟨F, hF1, hF2, hF3, hF4, hq, fun c hc => absurd hc (by simp), hP⟩, fun r h => ?_⟩
    refine ev_step (fun k => spec_l10Groups.l1.eq_2 _ _ _ _ _ _ _ k) (ev_ifn (by simp) (ev_ifp (by simp) ?_))
    rw [e1.out]
    exact h
  | succ n ih =>
    intro T q F hn hT hq h1 h2 hP hF1 hF2 hF3 hF4
    have hTs := short T hT q hq h1
    have hne : T ≠ [] := fun e => by rw [e] at hn; simp at hn
    obtain ⟨U, b, rfl⟩ : ∃ U b, T = U ++ [b] := ⟨T.dropLast, T.getLast hne, (List.dropLast_concat_getLast hne).symm⟩
    have hU : U.length = n := by rw [List.length_append, List.length_singleton] at hn; omega
    have hb := hT b (List.mem_append.2 (.inr (List.mem_singleton.2 rfl)))
    have hTU : ∀ s ∈ U, GOk s := fun s hs => hT s (List.mem_append.2 (.inl hs))
    have hrev : (U ++ [b]).reverse = b :: U.reverse := by simp
    have hP0 := hP
    rw [hrev] at hP
    obtain ⟨Fb, hb1, hb2, hb3, hb4, _, hb6, hb7⟩ := hP
    rw [sm_app, sm_one] at h1 h2
    have n1 := sm_nn (h := fun s : SG => s.f1) (l := U) (fun s hs => by have := (hTU s hs).a; omega)
    have n2 := sm_nn (h := len0) (l := U) (fun s hs => by unfold len0; omega)
    have l1 : ((U ++ [b]).length : Int) = (U.length : Int) + 1 := by simp
    have ei : wrap64 ((U.length : Int) + 1 - 1) = (U.length : Int) := by rw [w64 (by omega) (by omega)]; omega
    have g1 : (U ++ [b]).getD U.length z135 = b := by simp [List.getD]
    have t1 : (U ++ [b]).take U.length = U := by simp
    have ba := hb.a
    have bb := hb.b
    have bc := hb.c
    have qa := hq.a
    have qb := hq.b
    have qc := hq.c
    have p1 := prod_bd (a := b.f2) (b := q.f1) bb (by omega) (by omega) (by omega)
    have p2 := prod_bd (a := q.f2) (b := b.f1) qb (by omega) (by omega) (by omega)
    have w1 := Aside0.mk (show wrap64 (b.f2 * q.f1) = b.f2 * q.f1 from w64 (by omega) (by omega))
    have w2 := Aside0.mk (show wrap64 (q.f2 * b.f1) = q.f2 * b.f1 from w64 (by omega) (by omega))
    have w3 := Aside0.mk (show wrap64 (b.f1 + q.f1) = b.f1 + q.f1 from w64 (by omega) (by omega))
    have w4 := Aside0.mk (show wrap64 (b.f2 + q.f2) = b.f2 + q.f2 from w64 (by omega) (by omega))
    unfold len0 at h2 n2
    have bl : b.f0.length < 100 := by omega
    have ql : q.f0.length < 100 := by omega
    by_cases hc : b.f2 * q.f1 > q.f2 * b.f1
    · have ef : (b.f0 ++ q.f0).getD 0 0 = b.f0.getD 0 0 := by
        have := hb.ne
        simp only [List.getD, List.getElem?_append_left (show 0 < b.f0.length by omega)]
      obtain ⟨T', i1, i0, i2⟩ := ih U ⟨b.f0 ++ q.f0, b.f1 + q.f1, b.f2 + q.f2⟩ Fb hU hTU ⟨by have := hb.ne; simp; omega, by dsimp only; omega, by dsimp only; omega, by dsimp only; omega⟩ (by dsimp only; omega) (by unfold len0; simp only [List.length_append]; omega)
        hb7 (by dsimp only; rw [ef]; exact hb1) (by omega) (by dsimp only; omega) (by dsimp only; omega)
      refine ⟨T', i1, i0, fun r h => ?_⟩
      have h3 := i2 r h
      refine ev_step (fun k => spec_l10Groups.l1.eq_2 _ _ _ _ _ _ _ k) ?_
      rw [l1, ei, rdsg, g1, w1.out, w2.out, w3.out, w4.out, Int.toNat_natCast, t1]
      exact ev_ifp (by omega) (ev_ifp (by omega) (ev_ifp (by omega) (ev_ifp hc (ev_bind (ev_const (l1Own_is4 b.f0 (by omega))) (ev_ifp (by omega) (ev_ifp (by omega) h3))))))
    · refine ⟨(U ++ [b]) ++ [q], stop _ q hT hq (by rw [sm_app, sm_one]; omega) (by rw [sm_app, sm_one]; unfold len0; omega), ?_, fun r h => ?_⟩
      · have er : ((U ++ [b]) ++ [q]).reverse = q :: (U ++ [b]).reverse := by simp
        rw [er]
        refine ⟨F, hF1, hF2, hF3, hF4, hq, fun c hc2 => ?_, hP0⟩
        rw [hrev] at hc2
        obtain rfl := Option.some.inj hc2
        omega
      · refine ev_step (fun k => spec_l10Groups.l1.eq_2 _ _ _ _ _ _ _ k) ?_
        rw [l1, ei, rdsg, g1, w1.out, w2.out, e1.out]
        exact ev_ifp (by omega) (ev_ifp (by omega) (ev_ifp (by omega) (ev_ifn hc (ev_ifp (by omega) h))))
theorem groups_inv {cs hs : List Int} (ok : tallyOk cs hs = true) : ∀ (d i : Nat) (T : List SG), i + d = 11 → GInv (i : Int) T → PIr cs hs i T.reverse →
    ∃ G, GInv 11 G ∧ PIr cs hs 11 G.reverse ∧ Ev (fun k => spec_l10Groups.l0 k T (i : Int) cs hs) G := by
  obtain ⟨hc, hh, hv⟩ := tallyOk_iff.1 ok
  intro d
  induction d with
  | zero =>
    intro i T h0 hT hP
    obtain rfl : i = 11 := by omega
    exact ⟨T, hT, hP, ev_step (fun k => spec_l10Groups.l0.eq_2 _ _ _ _ k) (ev_ifn (by omega) (ev_some _))⟩
  | succ d ih =>
    intro i T h0 hT hP
    have hi : i < 11 := by omega
    obtain ⟨v1, v2, v3, v4⟩ := hv i hi
    have e1 := Aside0.mk (show wrap64 ((i : Int) + 1) = ((i + 1 : Nat) : Int) by rw [w64 (by omega) (by omega)]; rfl)
    have pc : pre cs (i + 1) = pre cs i + cs.getD i 0 := rfl
    have ph : pre hs (i + 1) = pre hs i + hs.getD i 0 := rfl
    by_cases h1 : cs.getD i 0 = 0
    · have hP' : PIr cs hs (i + 1) T.reverse := by
        cases hT2 : T.reverse with
        | nil =>
          rw [hT2] at hP
          obtain ⟨a1, a2⟩ := hP
          exact ⟨by omega, by omega⟩
        | cons b U =>
          rw [hT2] at hP
          obtain ⟨F, f1, f2, f3, f4, f5, f6, f7⟩ := hP
          exact ⟨F, f1, by omega, by omega, by omega, f5, f6, f7⟩
      obtain ⟨G, g1, g0, g2⟩ := ih (i + 1) T (by omega) (hT.more (by omega)) hP'
      refine ⟨G, g1, g0, ?_⟩
      refine ev_step (fun k => spec_l10Groups.l0.eq_2 _ _ _ _ k) (ev_ifp (by omega) (ev_ifp (by omega) ?_))
      rw [rd_nat, e1.out]
      exact ev_ifp h1 g2
    · obtain ⟨T', t1, t0, t2⟩ := pop_inv cs hs i hi T.length T ⟨[(i : Int)], cs.getD i 0, hs.getD i 0⟩ i rfl hT.ok ⟨by simp, by dsimp only; omega, v3, v4⟩ (by have := hT.sum; dsimp only; omega) (by have := hT.len; unfold len0; simp only [List.length_singleton]; unfold len0 at this; omega)
        hP (by simp) (by omega) (by dsimp only; omega) (by dsimp only; omega)
      obtain ⟨G, g1, g0, g2⟩ := ih (i + 1) T' (by omega) t1 t0
      refine ⟨G, g1, g0, ?_⟩
      refine ev_step (fun k => spec_l10Groups.l0.eq_2 _ _ _ _ k) (ev_ifp (by omega) (ev_ifp (by omega) ?_))
      rw [rd_nat, rd_nat]
      exact ev_ifn h1 (ev_ifp (by omega) (t2 G g2))
/-- The first class of a group, and i behind the last one. -/
def Fk (G : List SG) (i k : Nat) : Nat := if k < G.length then ((G.getD k z135).f0.getD 0 0).toNat else i
structure PI (cs hs : List Int) (i : Nat) (G : List SG) : Prop where
  first : ∀ k, k < G.length → (G.getD k z135).f0.getD 0 0 = (Fk G i k : Int)
  up : ∀ k, k < G.length → Fk G i k < Fk G i (k + 1)
  cases : ∀ k, k < G.length → (G.getD k z135).f1 = pre cs (Fk G i (k + 1)) - pre cs (Fk G i k)
  hits : ∀ k, k < G.length → (G.getD k z135).f2 = pre hs (Fk G i (k + 1)) - pre hs (Fk G i k)
  ok : ∀ k, k < G.length → GOk (G.getD k z135)
  ord : ∀ k, k + 1 < G.length → (G.getD k z135).f2 * (G.getD (k + 1) z135).f1 ≤ (G.getD (k + 1) z135).f2 * (G.getD k z135).f1
  c0 : pre cs (Fk G i 0) = 0
  h0 : pre hs (Fk G i 0) = 0
theorem PI_of {cs hs : List Int} : ∀ (n i : Nat) (G : List SG), G.length = n → PIr cs hs i G.reverse → PI cs hs i G := by
  intro n
  induction n with
  | zero =>
    intro i G hn hP
    obtain rfl := List.length_eq_zero_iff.1 hn
    exact ⟨fun k h => absurd h (by simp), fun k h => absurd h (by simp), fun k h => absurd h (by simp), fun k h => absurd h (by simp), fun k h => absurd h (by simp), fun k h => absurd h (by simp), hP.1, hP.2⟩
  | succ n ih =>
    intro i G hn hP
    have hne : G ≠ [] := fun e => by rw [e] at hn; simp at hn
    obtain ⟨U, b, rfl⟩ : ∃ U b, G = U ++ [b] := ⟨G.dropLast, G.getLast hne, (List.dropLast_concat_getLast hne).symm⟩
    have hU : U.length = n := by rw [List.length_append, List.length_singleton] at hn; omega
    rw [show (U ++ [b]).reverse = b :: U.reverse by simp] at hP
    obtain ⟨F, f1, f2, f3, f4, f5, f6, f7⟩ := hP
    have I := ih F U hU f7
    have hl : (U ++ [b]).length = U.length + 1 := by simp
    have gb : (U ++ [b]).getD U.length z135 = b := by simp [List.getD]
    have gu : ∀ k, k < U.length → (U ++ [b]).getD k z135 = U.getD k z135 := fun k hk => by simp only [List.getD, List.getElem?_append_left hk]
    have fb : Fk (U ++ [b]) i U.length = F := by unfold Fk; rw [if_pos (by omega), gb, f1]; rfl
    have fu : ∀ k, k ≤ U.length → Fk (U ++ [b]) i k = Fk U F k := fun k hk => by
      by_cases h : k < U.length
      · unfold Fk; rw [if_pos (by omega), if_pos h, gu k h]
      · obtain rfl : k = U.length := by omega
        rw [fb]; unfold Fk; rw [if_neg (by omega)]
    have fi : Fk (U ++ [b]) i (U.length + 1) = i := by unfold Fk; rw [if_neg (by omega)]
    refine ⟨fun k hk => ?_, fun k hk => ?_, fun k hk => ?_, fun k hk => ?_, fun k hk => ?_, fun k hk => ?_, ?_, ?_⟩
    · by_cases h : k < U.length
      · rw [gu k h, fu k (by omega)]; exact I.first k h
      · obtain rfl : k = U.length := by omega
        rw [gb, fb]; exact f1
    · by_cases h : k < U.length
      · rw [fu k (by omega), fu (k + 1) (by omega)]; exact I.up k h
      · obtain rfl : k = U.length := by omega
        rw [fb, fi]; exact f2
    · by_cases h : k < U.length
      · rw [gu k h, fu k (by omega), fu (k + 1) (by omega)]; exact I.cases k h
      · obtain rfl : k = U.length := by omega
        rw [gb, fb, fi]; exact f3
    · by_cases h : k < U.length
      · rw [gu k h, fu k (by omega), fu (k + 1) (by omega)]; exact I.hits k h
      · obtain rfl : k = U.length := by omega
        rw [gb, fb, fi]; exact f4
    · by_cases h : k < U.length
      · rw [gu k h]; exact I.ok k h
      · obtain rfl : k = U.length := by omega
        rw [gb]; exact f5
    · by_cases h : k + 1 < U.length
      · rw [gu k (by omega), gu (k + 1) h]; exact I.ord k h
      · have e : U.length = k + 1 := by omega
        rw [gu k (by omega), show k + 1 = U.length from e.symm, gb]
        refine f6 _ ?_
        rw [List.head?_reverse, List.getLast?_eq_getElem?, show U.length - 1 = k by omega, getD_eq_get _ (show k < U.length by omega), List.getElem?_eq_getElem (show k < U.length by omega)]
    · rw [fu 0 (Nat.zero_le _)]; exact I.c0
    · rw [fu 0 (Nat.zero_le _)]; exact I.h0
/-- The groups of a valid tally. -/
theorem calib_inv {cs hs : List Int} (ok : tallyOk cs hs = true) {G : List SG} (hG : Ev (fun k => spec_l10Groups.f k cs hs) G) : GInv 11 G ∧ PI cs hs 11 G := by
  obtain ⟨G', g1, g2, g3⟩ := groups_inv ok 11 0 [] rfl ⟨fun s hs => absurd hs (by simp), by simp [sm], by simp [sm]⟩ ⟨rfl, rfl⟩
  have h3 : Ev (fun k => spec_l10Groups.f k cs hs) G' := by unfold spec_l10Groups.f; exact g3
  obtain rfl := ev_det hG h3
  exact ⟨g1, PI_of _ _ _ rfl g2⟩
section
variable {cs hs : List Int} {G : List SG} (ok : tallyOk cs hs = true) (hG : GInv 11 G) (I : PI cs hs 11 G) (h1 : 1 ≤ G.length)
include I
theorem Fk_lt {j k : Nat} (hjk : j < k) (hk : k ≤ G.length) : Fk G 11 j < Fk G 11 k := by
  induction k with
  | zero => omega
  | succ k ih =>
    have := I.up k (by omega)
    by_cases h : j = k
    · subst h; exact this
    · have := ih (by omega) (by omega); omega
theorem Fk_le {j k : Nat} (hjk : j ≤ k) (hk : k ≤ G.length) : Fk G 11 j ≤ Fk G 11 k := by
  by_cases h : j = k
  · subst h; exact Nat.le_refl _
  · exact Nat.le_of_lt (Fk_lt I (by omega) hk)
omit I in
theorem Fk_end : Fk G 11 G.length = 11 := by unfold Fk; rw [if_neg (by omega)]
/-- What is picked for a class among the first i groups. -/
theorem pkG_spec (c : Nat) : ∀ i, i ≤ G.length → (pkG G (c : Int) i = 0 ∨ Fk G 11 (pkG G (c : Int) i) ≤ c) ∧ ∀ j, pkG G (c : Int) i < j → j < i → c < Fk G 11 j
  | 0, _ => ⟨.inl rfl, fun j _ h => absurd h (by omega)⟩
  | i + 1, hi => by
    have ih := pkG_spec c i (by omega)
    have hf := I.first i (by omega)
    unfold pkG
    by_cases h : (G.getD i z135).f0.getD 0 0 ≤ (c : Int)
    · rw [if_pos h]
      exact ⟨.inr (by omega), fun j h1 h2 => absurd h1 (by omega)⟩
    · rw [if_neg h]
      refine ⟨ih.1, fun j h1 h2 => ?_⟩
      by_cases e : j = i
      · subst e; omega
      · exact ih.2 j h1 (by omega)
omit I in
def pk (G : List SG) (c : Nat) : Nat := pkG G (c : Int) G.length
include h1
omit I in
theorem pk_lt (c : Nat) : pk G c < G.length := pkG_lt G c G.length h1 (Nat.le_refl _)
omit h1 in
theorem pk_lo (c : Nat) (h : 0 < pk G c) : Fk G 11 (pk G c) ≤ c := by
  rcases (pkG_spec I c G.length (Nat.le_refl _)).1 with h2 | h2
  · unfold pk at h; omega
  · exact h2
theorem pk_hi (c : Nat) (hc : c < 11) : c < Fk G 11 (pk G c + 1) := by
  have hp := pk_lt h1 c
  by_cases h : pk G c + 1 < G.length
  · exact (pkG_spec I c G.length (Nat.le_refl _)).2 _ (by unfold pk; omega) h
  · rw [show pk G c + 1 = G.length by omega, Fk_end]; exact hc
theorem pk_eq (c k : Nat) (hk : k < G.length) (h2 : Fk G 11 k ≤ c) (h3 : c < Fk G 11 (k + 1)) : pk G c = k := by
  have hp := pk_lt h1 c
  have h4 := (pkG_spec I c G.length (Nat.le_refl _)).2
  by_cases h : pk G c < k
  · have := h4 k (by unfold pk at h; exact h) hk
    omega
  · by_cases h5 : k < pk G c
    · have := pk_lo I c (by omega)
      have := Fk_le I (j := k + 1) (k := pk G c) (by omega) (by omega)
      omega
    · omega
theorem pk_mono {c d : Nat} (h : c ≤ d) (hd : d < 11) : pk G c ≤ pk G d := by
  have hp := pk_lt h1 c
  have hq := pk_lt h1 d
  by_cases h2 : pk G d < pk G c
  · have a1 := pk_lo I c (by omega)
    have a2 := pk_hi I h1 d hd
    have := Fk_le I (j := pk G d + 1) (k := pk G c) (by omega) (by omega)
    omega
  · omega
omit h1 in
theorem chain {j k : Nat} (hjk : j ≤ k) (hk : k < G.length) : (G.getD j z135).f2 * (G.getD k z135).f1 ≤ (G.getD k z135).f2 * (G.getD j z135).f1 := by
  induction k with
  | zero => obtain rfl : j = 0 := by omega
            exact Int.le_refl _
  | succ k ih =>
    by_cases h : j = k + 1
    · subst h; exact Int.le_refl _
    · have i1 := ih (by omega) (by omega)
      have i2 := I.ord k hk
      have oj := I.ok j (by omega)
      have ok1 := I.ok k (by omega)
      have ok2 := I.ok (k + 1) hk
      have a0 := oj.a
      have a1 := ok1.a
      have a2 := ok2.a
      generalize (G.getD j z135).f1 = u1 at *
      generalize (G.getD j z135).f2 = u2 at *
      generalize (G.getD k z135).f1 = v1 at *
      generalize (G.getD k z135).f2 = v2 at *
      generalize (G.getD (k + 1) z135).f1 = x1 at *
      generalize (G.getD (k + 1) z135).f2 = x2 at *
      have m1 : u2 * v1 * x1 ≤ v2 * u1 * x1 := Int.mul_le_mul_of_nonneg_right i1 (by omega)
      have m2 : v2 * x1 * u1 ≤ x2 * v1 * u1 := Int.mul_le_mul_of_nonneg_right i2 (by omega)
      have e1 : v2 * u1 * x1 = v2 * x1 * u1 := by rw [Int.mul_assoc, Int.mul_assoc, Int.mul_comm u1]
      have e2 : u2 * v1 * x1 = (u2 * x1) * v1 := by rw [Int.mul_assoc, Int.mul_assoc, Int.mul_comm v1]
      have e3 : x2 * v1 * u1 = (x2 * u1) * v1 := by rw [Int.mul_assoc, Int.mul_assoc, Int.mul_comm v1]
      exact Int.le_of_mul_le_mul_right (a := v1) (by omega) (by omega)
end
end Go.Proofs.Ythekngnkajjhnaa.Pure
