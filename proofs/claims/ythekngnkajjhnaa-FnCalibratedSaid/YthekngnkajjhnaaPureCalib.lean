/- The groups of a calibration and the shares of all classes: one list in the program and in the reference. No conditions but that the tally is valid. -/
import Derived.Test.YthekngnkajjhnaaPureTallyOk
import Derived.Test.YthekngnkajjhnaaPureGcd
import Derived.Test.YthekngnkajjhnaaPureTab
import Derived.Test.YthekngnkajjhnaaPf148
import Derived.Test.YthekngnkajjhnaaPf150
import Derived.Test.YthekngnkajjhnaaPf147
namespace Go.Proofs.Ythekngnkajjhnaa.Pure
set_option linter.unusedVariables false
set_option linter.unusedSimpArgs false
open Go.RowKit Go.Proofs.Ythekngnkajjhnaa.P Go.Proofs.YthekngnkajjhnaaW.PrintWords Go.Proofs.YthekngnkajjhnaaW.PrintLast
abbrev SG := S135
abbrev IG := S173
abbrev SHR := S55
def toI (s : SG) : IG := ⟨s.f0.getD 0 0, s.f1, s.f2⟩
theorem rdsg (xs : List SG) (i : Nat) : rd_T135 xs (i : Int) = xs.getD i z135 := by simp [rd_T135]
theorem rdig (xs : List IG) (i : Nat) : rd_T173 xs (i : Int) = xs.getD i z173 := by simp [rd_T173]
theorem map_get (xs : List SG) {i : Nat} (h : i < xs.length) : (xs.map toI).getD i z173 = toI (xs.getD i z135) := by
  rw [getD_eq_get _ (by rw [List.length_map]; exact h), getD_eq_get _ h, List.getElem_map]
def sm {α : Type} (h : α → Int) : List α → Int
  | [] => 0
  | x :: l => h x + sm h l
theorem sm_app {α : Type} (h : α → Int) : ∀ l m : List α, sm h (l ++ m) = sm h l + sm h m
  | [], m => by simp [sm]
  | x :: l, m => by simp only [List.cons_append, sm]; rw [sm_app h l m]; omega
theorem sm_one {α : Type} (h : α → Int) (x : α) : sm h [x] = h x := by simp [sm]
theorem sm_nn {α : Type} {h : α → Int} : ∀ {l : List α}, (∀ x ∈ l, 0 ≤ h x) → 0 ≤ sm h l
  | [], _ => Int.le_refl _
  | x :: l, hp => by
    have h1 := hp x (List.mem_cons_self ..)
    have h2 := sm_nn (l := l) (fun y hy => hp y (List.mem_cons_of_mem _ hy))
    simp only [sm]
    omega
theorem sm_mem {α : Type} {h : α → Int} : ∀ {l : List α} {x : α}, (∀ x ∈ l, 0 ≤ h x) → x ∈ l → h x ≤ sm h l
  | y :: l, x, hp, hx => by
    have h1 := hp y (List.mem_cons_self ..)
    have h2 := sm_nn (l := l) (fun z hz => hp z (List.mem_cons_of_mem _ hz))
    simp only [sm]
    rcases List.mem_cons.1 hx with e | e
    · subst e; omega
    · have := sm_mem (l := l) (fun z hz => hp z (List.mem_cons_of_mem _ hz)) e
      omega
theorem sm_len {α : Type} {h : α → Int} : ∀ {l : List α}, (∀ x ∈ l, 1 ≤ h x) → (l.length : Int) ≤ sm h l
  | [], _ => by simp [sm]
  | x :: l, hp => by
    have h1 := hp x (List.mem_cons_self ..)
    have h2 := sm_len (l := l) (fun y hy => hp y (List.mem_cons_of_mem _ hy))
    simp only [sm, List.length_cons]
    omega
/-- A group that is in order. -/
structure GOk (s : SG) : Prop where
  ne : 1 ≤ s.f0.length
  a : 1 ≤ s.f1
  b : 0 ≤ s.f2
  c : s.f2 ≤ s.f1
def len0 (s : SG) : Int := (s.f0.length : Int)
structure GInv (m : Int) (l : List SG) : Prop where
  ok : ∀ s ∈ l, GOk s
  sum : sm (fun s : SG => s.f1) l ≤ 1000 * m
  len : sm len0 l ≤ m
theorem GInv.more {m m' : Int} {l : List SG} (h : GInv m l) (hm : m ≤ m') : GInv m' l := ⟨h.ok, by have := h.sum; omega, by have := h.len; omega⟩
theorem prod_bd {a b : Int} (a0 : 0 ≤ a) (a1 : a ≤ 11000) (b0 : 0 ≤ b) (b1 : b ≤ 11000) : 0 ≤ a * b ∧ a * b ≤ 121000000 := by
  have h1 : a * b ≤ 11000 * b := Int.mul_le_mul_of_nonneg_right a1 b0
  exact ⟨Int.mul_nonneg a0 b0, by omega⟩
theorem l1Own_is4 (l : List Int) (hl : l.length < 17592186044416) : spec_l1Own.f l = some l := by
  unfold spec_l1Own.f
  rw [Option.bind_some, if_pos (by simpa using hl)]
  rfl
/-- A new group takes in the groups before it whose share is greater. -/
theorem pop_sim (cs hs : List Int) (i : Nat) (hi : i < 11) : ∀ (n : Nat) (T : List SG) (q : SG), T.length = n → (∀ s ∈ T, GOk s) → GOk q → sm (fun s : SG => s.f1) T + q.f1 ≤ 1000 * ((i : Int) + 1) → sm len0 T + len0 q ≤ (i : Int) + 1 →
    ∃ T', GInv ((i + 1 : Nat) : Int) T' ∧ (∀ r, Ev (fun k => spec_l10Groups.l0 k T' ((i + 1 : Nat) : Int) cs hs) r → Ev (fun k => spec_l10Groups.l1 k T (i : Int) cs hs q.f0 q.f1 q.f2) r) ∧
      (∀ r, Ev (fun k => impl_calibrationOf.l0 k (T'.map toI) cs 11 ((i + 1 : Nat) : Int) cs hs) r → Ev (fun k => impl_calibrationOf.l1 k (T.map toI) ((T.map toI).length : Int) cs 11 (i : Int) cs hs (toI q).f0 (toI q).f1 (toI q).f2) r) := by
  have e1 := Aside0.mk (show wrap64 ((i : Int) + 1) = ((i + 1 : Nat) : Int) by rw [w64 (by omega) (by omega)]; rfl)
  have stop : ∀ (T : List SG) (q : SG), (∀ s ∈ T, GOk s) → GOk q → sm (fun s : SG => s.f1) T + q.f1 ≤ 1000 * ((i : Int) + 1) → sm len0 T + len0 q ≤ (i : Int) + 1 → GInv ((i + 1 : Nat) : Int) (T ++ [q]) := fun T q hT hq h1 h2 =>
    ⟨fun s hs => (List.mem_append.1 hs).elim (hT s) (fun h => by rw [List.mem_singleton.1 h]; exact hq), by rw [sm_app, sm_one]; omega, by rw [sm_app, sm_one]; omega⟩
  have short : ∀ T : List SG, (∀ s ∈ T, GOk s) → ∀ q : SG, GOk q → sm (fun s : SG => s.f1) T + q.f1 ≤ 1000 * ((i : Int) + 1) → T.length ≤ 11000 := fun T hT q hq h1 => by
    have := sm_len (h := fun s : SG => s.f1) (l := T) (fun s hs => (hT s hs).a)
    have := hq.a
    omega
  intro n
  induction n with
  | zero =>
    intro T q hn hT hq h1 h2
    obtain rfl := List.length_eq_zero_iff.1 hn
    refine ⟨[] ++ [q], stop [] q hT hq h1 h2, fun r h => ?_, fun r h => ?_⟩
    · refine ev_step (fun k => spec_l10Groups.l1.eq_2 _ _ _ _ _ _ _ k) (ev_ifn (by simp) (ev_ifp (by simp) ?_))
      rw [e1.out]
      exact h
    · refine ev_step (fun k => impl_calibrationOf.l1.eq_2 _ _ _ _ _ _ _ _ _ _ k) (ev_ifn (by simp) (ev_ifp (by simp) ?_))
      rw [e1.out]
      exact h
  | succ n ih =>
    intro T q hn hT hq h1 h2
    have hTs := short T hT q hq h1
    have hne : T ≠ [] := fun e => by rw [e] at hn; simp at hn
    obtain ⟨U, b, rfl⟩ : ∃ U b, T = U ++ [b] := ⟨T.dropLast, T.getLast hne, (List.dropLast_concat_getLast hne).symm⟩
    have hU : U.length = n := by rw [List.length_append, List.length_singleton] at hn; omega
    have hb := hT b (List.mem_append.2 (.inr (List.mem_singleton.2 rfl)))
    have hTU : ∀ s ∈ U, GOk s := fun s hs => hT s (List.mem_append.2 (.inl hs))
    rw [sm_app, sm_one] at h1 h2
    have n1 := sm_nn (h := fun s : SG => s.f1) (l := U) (fun s hs => by have := (hTU s hs).a; omega)
    have n2 := sm_nn (h := len0) (l := U) (fun s hs => by unfold len0; omega)
    have l1 : ((U ++ [b]).length : Int) = (U.length : Int) + 1 := by simp
    have l2 : (((U ++ [b]).map toI).length : Int) = (U.length : Int) + 1 := by simp
    have ei : wrap64 ((U.length : Int) + 1 - 1) = (U.length : Int) := by rw [w64 (by omega) (by omega)]; omega
    have g1 : (U ++ [b]).getD U.length z135 = b := by simp [List.getD]
    have g2 : ((U ++ [b]).map toI).getD U.length z173 = toI b := by rw [map_get _ (by simp), g1]
    have t1 : (U ++ [b]).take U.length = U := by simp
    have t2 : ((U ++ [b]).map toI).take U.length = U.map toI := by simp
    have ba := hb.a
    have bb := hb.b
    have bc := hb.c
    have qa := hq.a
    have qb := hq.b
    have qc := hq.c
    have p1 := prod_bd (a := b.f2) (b := q.f1) bb (by omega) (by omega) (by omega)
    have p2 := prod_bd (a := q.f2) (b := b.f1) qb (by omega) (by omega) (by omega)
    have w1 := Aside0.mk (show wrap64 (b.f2 * q.f1) = b.f2 * q.f1 from w64 (by omega) (by omega))
    have w2 := Aside0.mk (show wrap64 (q.f2 * b.f1) = q.f2 * b.f1 from w64 (by omega) (by omega))
    have w3 := Aside0.mk (show wrap64 (b.f1 + q.f1) = b.f1 + q.f1 from w64 (by omega) (by omega))
    have w4 := Aside0.mk (show wrap64 (b.f2 + q.f2) = b.f2 + q.f2 from w64 (by omega) (by omega))
    have v1 := Aside0.mk (show wrap64 ((toI b).f2 * (toI q).f1) = b.f2 * q.f1 from w1.out)
    have v2 := Aside0.mk (show wrap64 ((toI q).f2 * (toI b).f1) = q.f2 * b.f1 from w2.out)
    have v3 := Aside0.mk (show wrap64 ((toI b).f1 + (toI q).f1) = b.f1 + q.f1 from w3.out)
    have v4 := Aside0.mk (show wrap64 ((toI b).f2 + (toI q).f2) = b.f2 + q.f2 from w4.out)
    unfold len0 at h2 n2
    have bl : b.f0.length < 100 := by omega
    have ql : q.f0.length < 100 := by omega
    by_cases hc : b.f2 * q.f1 > q.f2 * b.f1
    · obtain ⟨T', i1, i2, i3⟩ := ih U ⟨b.f0 ++ q.f0, b.f1 + q.f1, b.f2 + q.f2⟩ hU hTU ⟨by have := hb.ne; simp; omega, by dsimp only; omega, by dsimp only; omega, by dsimp only; omega⟩ (by dsimp only; omega) (by unfold len0; simp only [List.length_append]; omega)
      have ef : (b.f0 ++ q.f0).getD 0 0 = b.f0.getD 0 0 := by
        have := hb.ne
        simp only [List.getD, List.getElem?_append_left (show 0 < b.f0.length by omega)]
      refine ⟨T', i1, fun r h => ?_, fun r h => ?_⟩
      · have h3 := i2 r h
        refine ev_step (fun k => spec_l10Groups.l1.eq_2 _ _ _ _ _ _ _ k) ?_
        rw [l1, ei, rdsg, g1, w1.out, w2.out, w3.out, w4.out, Int.toNat_natCast, t1]
        exact ev_ifp (by omega) (ev_ifp (by omega) (ev_ifp (by omega) (ev_ifp hc (ev_bind (ev_const (l1Own_is4 b.f0 (by omega))) (ev_ifp (by omega) (ev_ifp (by omega) h3))))))
      · have h3 := i3 r h
        refine ev_step (fun k => impl_calibrationOf.l1.eq_2 _ _ _ _ _ _ _ _ _ _ k) ?_
        rw [l2, ei, rdig, g2, v1.out, v2.out, v3.out, v4.out, Int.toNat_natCast, t2]
        refine ev_ifp (by omega) (ev_ifp (by omega) (ev_ifp (by omega) (ev_ifn (by omega) (ev_ifp (by omega) (ev_bind (ev_some _) ?_)))))
        show Ev (fun k => impl_calibrationOf.l1 k (U.map toI) ((U.map toI).length : Int) cs 11 (i : Int) cs hs (b.f0.getD 0 0) (b.f1 + q.f1) (b.f2 + q.f2)) r
        rw [← ef]
        exact h3
    · refine ⟨(U ++ [b]) ++ [q], stop _ q hT hq (by rw [sm_app, sm_one]; omega) (by rw [sm_app, sm_one]; unfold len0; omega), fun r h => ?_, fun r h => ?_⟩
      · refine ev_step (fun k => spec_l10Groups.l1.eq_2 _ _ _ _ _ _ _ k) ?_
        rw [l1, ei, rdsg, g1, w1.out, w2.out, e1.out]
        exact ev_ifp (by omega) (ev_ifp (by omega) (ev_ifp (by omega) (ev_ifn hc (ev_ifp (by omega) h))))
      · refine ev_step (fun k => impl_calibrationOf.l1.eq_2 _ _ _ _ _ _ _ _ _ _ k) ?_
        rw [l2, ei, rdig, g2, e1.out, v1.out, v2.out]
        have h' : Ev (fun k => impl_calibrationOf.l0 k ((U ++ [b]).map toI ++ [toI q]) cs 11 ((i + 1 : Nat) : Int) cs hs) r := by
          rw [List.map_append] at h
          exact h
        exact ev_ifp (by omega) (ev_ifp (by omega) (ev_ifp (by omega) (ev_ifp (by omega) (ev_ifp (by rw [List.length_map]; omega) h'))))
/-- The groups of a valid tally: the same in the program and in the reference. -/
theorem groups_sim {cs hs : List Int} (ok : tallyOk cs hs = true) : ∀ (d i : Nat) (T : List SG), i + d = 11 → GInv (i : Int) T →
    ∃ G, GInv 11 G ∧ Ev (fun k => spec_l10Groups.l0 k T (i : Int) cs hs) G ∧ (∀ r, Ev (fun k => impl_calibrationOf.l0 k (G.map toI) cs 11 11 cs hs) r → Ev (fun k => impl_calibrationOf.l0 k (T.map toI) cs 11 (i : Int) cs hs) r) := by
  obtain ⟨hc, hh, hv⟩ := tallyOk_iff.1 ok
  intro d
  induction d with
  | zero =>
    intro i T h0 hT
    obtain rfl : i = 11 := by omega
    exact ⟨T, hT, ev_step (fun k => spec_l10Groups.l0.eq_2 _ _ _ _ k) (ev_ifn (by omega) (ev_some _)), fun r h => h⟩
  | succ d ih =>
    intro i T h0 hT
    have hi : i < 11 := by omega
    obtain ⟨v1, v2, v3, v4⟩ := hv i hi
    have e1 := Aside0.mk (show wrap64 ((i : Int) + 1) = ((i + 1 : Nat) : Int) by rw [w64 (by omega) (by omega)]; rfl)
    by_cases h1 : cs.getD i 0 = 0
    · obtain ⟨G, g1, g2, g3⟩ := ih (i + 1) T (by omega) (hT.more (by omega))
      refine ⟨G, g1, ?_, fun r h => ?_⟩
      · refine ev_step (fun k => spec_l10Groups.l0.eq_2 _ _ _ _ k) (ev_ifp (by omega) (ev_ifp (by omega) ?_))
        rw [rd_nat, e1.out]
        exact ev_ifp h1 g2
      · refine ev_step (fun k => impl_calibrationOf.l0.eq_2 _ _ _ _ _ _ k) (ev_ifp (by omega) (ev_ifp (by omega) (ev_ifp (by omega) ?_)))
        rw [rd_nat, e1.out]
        exact ev_ifp h1 (g3 r h)
    · obtain ⟨T', t1, t2, t3⟩ := pop_sim cs hs i hi T.length T ⟨[(i : Int)], cs.getD i 0, hs.getD i 0⟩ rfl hT.ok ⟨by simp, by dsimp only; omega, v3, v4⟩ (by have := hT.sum; dsimp only; omega) (by have := hT.len; unfold len0; simp only [List.length_singleton]; unfold len0 at this; omega)
      obtain ⟨G, g1, g2, g3⟩ := ih (i + 1) T' (by omega) t1
      refine ⟨G, g1, ?_, fun r h => ?_⟩
      · refine ev_step (fun k => spec_l10Groups.l0.eq_2 _ _ _ _ k) (ev_ifp (by omega) (ev_ifp (by omega) ?_))
        rw [rd_nat, rd_nat]
        exact ev_ifn h1 (ev_ifp (by omega) (t2 G g2))
      · refine ev_step (fun k => impl_calibrationOf.l0.eq_2 _ _ _ _ _ _ k) (ev_ifp (by omega) (ev_ifp (by omega) (ev_ifp (by omega) ?_)))
        rw [rd_nat, rd_nat]
        exact ev_ifn h1 (ev_ifp (by omega) (t3 r (g3 r h)))
/-- The last of the first i groups that begins at a class or below. -/
def pkG (G : List SG) (c : Int) : Nat → Nat
  | 0 => 0
  | i + 1 => if (G.getD i z135).f0.getD 0 0 ≤ c then i else pkG G c i
theorem pkG_lt (G : List SG) (c : Int) : ∀ i, 1 ≤ G.length → i ≤ G.length → pkG G c i < G.length
  | 0, h, _ => h
  | i + 1, h, h1 => by
    unfold pkG
    split
    · omega
    · exact pkG_lt G c i h (by omega)
def grp (G : List SG) (c : Int) : SG := G.getD (pkG G c G.length) z135
def shG (G : List SG) (c : Int) : SHR := ⟨(shareN (grp G c).f2.toNat (grp G c).f1.toNat).1, (shareN (grp G c).f2.toNat (grp G c).f1.toNat).2⟩
section
variable {G : List SG} (hG : GInv 11 G) (h1 : 1 ≤ G.length)
include hG h1
theorem grp_ok (c : Int) : GOk (grp G c) := by
  unfold grp
  rw [getD_eq_get _ (pkG_lt G c G.length h1 (Nat.le_refl _))]
  exact hG.ok _ (List.getElem_mem _)
omit h1 in
theorem G_short : G.length ≤ 11000 := by
  have := sm_len (h := fun s : SG => s.f1) (l := G) (fun s hs => (hG.ok s hs).a)
  have := hG.sum
  omega
theorem grp_bd (c : Int) : (grp G c).f1 ≤ 11000 := by
  have hm : grp G c ∈ G := by
    unfold grp
    rw [getD_eq_get _ (pkG_lt G c G.length h1 (Nat.le_refl _))]
    exact List.getElem_mem _
  have := sm_mem (h := fun s : SG => s.f1) (l := G) (fun s hs => by have := (hG.ok s hs).a; omega) hm
  have := hG.sum
  omega
theorem share_spec (c : Int) : Ev (fun k => spec_l10Share.f k (grp G c).f2 (grp G c).f1) (shareN (grp G c).f2.toNat (grp G c).f1.toNat) := by
  have o := grp_ok hG h1 c
  have b := grp_bd hG h1 c
  have oa := o.a
  have ob := o.b
  have oc := o.c
  have h := l10Share_ev (grp G c).f2.toNat (grp G c).f1.toNat (by omega) (by omega) (by omega)
  rw [Int.toNat_of_nonneg ob, Int.toNat_of_nonneg (show 0 ≤ (grp G c).f1 by omega)] at h
  exact h
theorem share_impl (c : Int) : Ev (fun k => impl_shareOf.f k (grp G c).f2 (grp G c).f1) (shareN (grp G c).f2.toNat (grp G c).f1.toNat) := by
  have o := grp_ok hG h1 c
  have b := grp_bd hG h1 c
  have oa := o.a
  have ob := o.b
  have oc := o.c
  have h := shareOf_ev (grp G c).f2.toNat (grp G c).f1.toNat (by omega) (by omega) (by omega)
  rw [Int.toNat_of_nonneg ob, Int.toNat_of_nonneg (show 0 ≤ (grp G c).f1 by omega)] at h
  exact h
theorem pick_spec (c : Int) : Ev (fun k => spec_l10Shares.l1 k G c (G.getD 0 z135).f1 (G.getD 0 z135).f2 0) ((grp G c).f1, (grp G c).f2) := by
  have hs := G_short hG
  have h := loop_ev (fun k (a : Nat) i => spec_l10Shares.l1 k G c (G.getD a z135).f1 (G.getD a z135).f2 (i : Int)) G.length (fun i a => if (G.getD i z135).f0.getD 0 0 ≤ c then i else a) (fun _ => ((grp G c).f1, (grp G c).f2)) (fun i a => a = pkG G c i)
    (fun i a r hI hi hh => by
      have e1 := Aside0.mk (show wrap64 ((i : Int) + 1) = ((i + 1 : Nat) : Int) by rw [w64 (by omega) (by omega)]; rfl)
      have hne : 1 ≤ (G.getD i z135).f0.length := by
        rw [getD_eq_get _ hi]
        exact (hG.ok _ (List.getElem_mem hi)).ne
      refine ev_step (fun k => spec_l10Shares.l1.eq_2 _ _ _ _ _ k) (ev_ifp (by omega) (ev_ifp (by omega) ?_))
      rw [rdsg, e1.out]
      refine ev_ifp (by omega) ?_
      have r0 : rd (G.getD i z135).f0 0 = (G.getD i z135).f0.getD 0 0 := rfl
      rw [r0]
      by_cases hle : (G.getD i z135).f0.getD 0 0 ≤ c
      · simp only [if_pos hle] at hh
        exact ev_ifp hle hh
      · simp only [if_neg hle] at hh
        exact ev_ifn hle hh)
    (fun i a hI hi => by show (if (G.getD i z135).f0.getD 0 0 ≤ c then i else a) = pkG G c (i + 1); rw [hI]; rfl)
    (fun a hI => ev_step (fun k => spec_l10Shares.l1.eq_2 _ _ _ _ _ k) (ev_ifn (by omega) (ev_const (by rw [hI]; rfl)))) 0 0 (Nat.zero_le _) rfl
  exact h
theorem pick_impl (c : Nat) (hc : c < 11) (out : List SHR) (r : List SHR × Bool) (ho : out.length = 11) (h : Ev (fun k => impl_calibrationOf.l2 k (G.map toI) (out.set c (shG G (c : Int))) 11 ((c + 1 : Nat) : Int)) r) :
    Ev (fun k => impl_calibrationOf.l3 k (G.map toI) out (c : Int) 0 11 (c : Int) (G.map toI) ((G.map toI).length : Int) 0) r := by
  have hs := G_short hG
  have hl : ((G.map toI).length : Int) = (G.length : Int) := by rw [List.length_map]
  rw [hl]
  have e2 := Aside0.mk (show wrap64 ((c : Int) + 1) = ((c + 1 : Nat) : Int) by rw [w64 (by omega) (by omega)]; rfl)
  have h2 := loop_ev (fun k (a : Nat) i => impl_calibrationOf.l3 k (G.map toI) out (c : Int) (a : Int) 11 (c : Int) (G.map toI) (G.length : Int) (i : Int)) G.length (fun i a => if (G.getD i z135).f0.getD 0 0 ≤ (c : Int) then i else a) (fun _ => r) (fun i a => a = pkG G (c : Int) i)
    (fun i a r hI hi hh => by
      have e1 := Aside0.mk (show wrap64 ((i : Int) + 1) = ((i + 1 : Nat) : Int) by rw [w64 (by omega) (by omega)]; rfl)
      refine ev_step (fun k => impl_calibrationOf.l3.eq_2 _ _ _ _ _ _ _ _ _ k) (ev_ifp (by omega) (ev_ifp (by omega) (ev_ifp (by omega) ?_)))
      rw [rdig, map_get _ hi, e1.out]
      have r0 : (toI (G.getD i z135)).f0 = (G.getD i z135).f0.getD 0 0 := rfl
      rw [r0]
      by_cases hle : (G.getD i z135).f0.getD 0 0 ≤ (c : Int)
      · simp only [if_pos hle] at hh
        exact ev_ifp hle hh
      · simp only [if_neg hle] at hh
        exact ev_ifn hle hh)
    (fun i a hI hi => by show (if (G.getD i z135).f0.getD 0 0 ≤ (c : Int) then i else a) = pkG G (c : Int) (i + 1); rw [hI]; rfl)
    (fun a hI => by
      have hlt := pkG_lt G (c : Int) G.length h1 (Nat.le_refl _)
      rw [← hI] at hlt
      refine ev_step (fun k => impl_calibrationOf.l3.eq_2 _ _ _ _ _ _ _ _ _ k) (ev_ifn (by omega) (ev_ifp (by omega) (ev_ifp (by omega) ?_)))
      rw [rdig, map_get _ hlt, e2.out]
      have eg : G.getD a z135 = grp G (c : Int) := by rw [hI]; rfl
      rw [eg]
      refine ev_bind (share_impl hG h1 (c : Int)) (ev_ifp (by omega) (ev_ifp (by omega) ?_))
      rw [Int.toNat_natCast]
      exact h) 0 0 (Nat.zero_le _) rfl
  exact h2
theorem shares_spec : Ev (fun k => spec_l10Shares.l0 k G 0 []) (tab 11 (fun c => shG G (c : Int))) := by
  have h := loop_ev (fun k (out : List SHR) i => spec_l10Shares.l0 k G (i : Int) out) 11 (fun i out => out ++ [shG G (i : Int)]) (fun s => s) (fun i out => out.length = i)
    (fun i out r hI hi hh => by
      have e1 := Aside0.mk (show wrap64 ((i : Int) + 1) = ((i + 1 : Nat) : Int) by rw [w64 (by omega) (by omega)]; rfl)
      refine ev_step (fun k => spec_l10Shares.l0.eq_2 _ _ _ k) (ev_ifp (by omega) (ev_ifp (by omega) ?_))
      rw [show rd_T135 G 0 = G.getD 0 z135 from rdsg G 0, e1.out]
      exact ev_bind (pick_spec hG h1 (i : Int)) (ev_bind (share_spec hG h1 (i : Int)) (ev_ifp (by omega) hh)))
    (fun i out hI hi => by rw [List.length_append, hI]; rfl)
    (fun s hI => ev_step (fun k => spec_l10Shares.l0.eq_2 _ _ _ k) (ev_ifn (by omega) (ev_some _))) 0 [] (Nat.zero_le _) rfl
  rw [Nat.sub_zero, iter_app0] at h
  exact h
theorem shares_impl : Ev (fun k => impl_calibrationOf.l2 k (G.map toI) (List.replicate 11 z55) 11 0) (tab 11 (fun c => shG G (c : Int)), true) := by
  have h := loop_ev (fun k (out : List SHR) i => impl_calibrationOf.l2 k (G.map toI) out 11 (i : Int)) 11 (fun i out => out.set i (shG G (i : Int))) (fun s => (s, true)) (fun _ out => out.length = 11)
    (fun i out r hI hi hh => ev_step (fun k => impl_calibrationOf.l2.eq_2 _ _ _ _ k) (ev_ifp (by omega) (pick_impl hG h1 i hi out r hI hh)))
    (fun i out hI hi => by simpa using hI)
    (fun s hI => ev_step (fun k => impl_calibrationOf.l2.eq_2 _ _ _ _ k) (ev_ifn (by omega) (ev_some _))) 0 (List.replicate 11 z55) (Nat.zero_le _) (by simp)
  rw [Nat.sub_zero, iter_set_tab z55 (fun c : Nat => shG G (c : Int)) 11 _ (by simp)] at h
  exact h
end
/-- The shares of a valid tally, or none. -/
theorem calib_both {cs hs : List Int} (ok : tallyOk cs hs = true) : ∃ G, GInv 11 G ∧ Ev (fun k => spec_l10Groups.f k cs hs) G ∧
    ((G = [] ∧ Ev (fun k => spec_l10Shares.f k cs hs) [] ∧ Ev (fun k => impl_calibrationOf.f k cs hs) ([], false)) ∨
     (1 ≤ G.length ∧ Ev (fun k => spec_l10Shares.f k cs hs) (tab 11 (fun c => shG G (c : Int))) ∧ Ev (fun k => impl_calibrationOf.f k cs hs) (tab 11 (fun c => shG G (c : Int)), true))) := by
  obtain ⟨hc, hh, hv⟩ := tallyOk_iff.1 ok
  obtain ⟨G, g1, g2, g3⟩ := groups_sim ok 11 0 [] rfl ⟨fun s hs => absurd hs (by simp), by simp [sm], by simp [sm]⟩
  refine ⟨G, g1, g2, ?_⟩
  have h11 : ((cs.length : Nat) : Int) = 11 := by omega
  by_cases h : G.length = 0
  · obtain rfl := List.length_eq_zero_iff.1 h
    refine .inl ⟨rfl, ?_, ?_⟩
    · unfold spec_l10Shares.f spec_l10Groups.f
      exact ev_bind g2 (ev_ifp rfl (ev_some _))
    · unfold impl_calibrationOf.f
      rw [h11]
      exact g3 _ (ev_step (fun k => impl_calibrationOf.l0.eq_2 _ _ _ _ _ _ k) (ev_ifn (by omega) (ev_ifp (by simp) (ev_some _))))
  · refine .inr ⟨by omega, ?_, ?_⟩
    · unfold spec_l10Shares.f spec_l10Groups.f
      exact ev_bind g2 (ev_ifn (by omega) (shares_spec g1 (by omega)))
    · unfold impl_calibrationOf.f
      rw [h11]
      refine g3 _ (ev_step (fun k => impl_calibrationOf.l0.eq_2 _ _ _ _ _ _ k) (ev_ifn (by omega) (ev_ifn (by rw [List.length_map]; omega) (ev_ifp (by omega) (ev_bind (ev_some _) ?_)))))
      simp only [List.length_replicate]
      exact shares_impl g1 (by omega)
end Go.Proofs.Ythekngnkajjhnaa.Pure
