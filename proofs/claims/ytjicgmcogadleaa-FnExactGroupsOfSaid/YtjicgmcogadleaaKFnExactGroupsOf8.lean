/- Texts of the claim FnExactGroupsOf, merged: part 8 of 8: the program's and the reference's functions as Lean functions, the walks that show it, and plain lemmas; no conditions. -/
import Derived.Test.YtjicgmcogadleaaKFnExactGroupsOf7
import Derived.Test.YtjicgmcogadleaaKFnExactGroupsOf4
import Derived.Test.YtjicgmcogadleaaKFnExactGroupsOf6
import Derived.Test.YtjicgmcogadleaaKFnExactGroupsOf5
import Derived.Test.YtjicgmcogadleaaKFnExactGroupsOf3
import Derived.Test.YtjicgmcogadleaaRows
import Derived.WalkKit
import Derived.ProofKit
import Derived.OpenShut
import Derived.ShutString
import Derived.ChangeOld
import Derived.Below
import Derived.SizedLaws
namespace Go.Proofs.Ytjicgmcogadleaa.Pure
set_option linter.unusedVariables false
set_option linter.unusedSimpArgs false
open Go.RowKit Go.Proofs.Ytjicgmcogadleaa.P Go.Proofs.YtjicgmcogadleaaW.PrintWords Go.Proofs.YtjicgmcogadleaaW.PrintLast
abbrev SG := S86
abbrev IG := S93
abbrev SHR := S33
def toI (s : SG) : IG := ⟨s.f0.getD 0 0, s.f1, s.f2⟩
theorem rdsg (xs : List SG) (i : Nat) : rd_T86 xs (i : Int) = xs.getD i z86 := by simp [rd_T86]
theorem rdig (xs : List IG) (i : Nat) : rd_T93 xs (i : Int) = xs.getD i z93 := by simp [rd_T93]
theorem map_get (xs : List SG) {i : Nat} (h : i < xs.length) : (xs.map toI).getD i z93 = toI (xs.getD i z86) := by
  rw [getD_eq_get _ (by rw [List.length_map]; exact h), getD_eq_get _ h, List.getElem_map]
def sm {α : Type} (h : α → Int) : List α → Int
  | [] => 0
  | x :: l => h x + sm h l
theorem sm_app {α : Type} (h : α → Int) : ∀ l m : List α, sm h (l ++ m) = sm h l + sm h m
  | [], m => by simp [sm]
  | x :: l, m => by simp only [List.cons_append, sm]; rw [sm_app h l m]; omega
theorem sm_one {α : Type} (h : α → Int) (x : α) : sm h [x] = h x := by simp [sm]
theorem sm_nn {α : Type} {h : α → Int} : ∀ {l : List α}, (∀ x ∈ l, 0 ≤ h x) → 0 ≤ sm h l
  | [], _ => Int.le_refl _
  | x :: l, hp => by
    have h1 := hp x (List.mem_cons_self ..)
    have h2 := sm_nn (l := l) (fun y hy => hp y (List.mem_cons_of_mem _ hy))
    simp only [sm]
    omega
theorem sm_mem {α : Type} {h : α → Int} : ∀ {l : List α} {x : α}, (∀ x ∈ l, 0 ≤ h x) → x ∈ l → h x ≤ sm h l
  | y :: l, x, hp, hx => by
    have h1 := hp y (List.mem_cons_self ..)
    have h2 := sm_nn (l := l) (fun z hz => hp z (List.mem_cons_of_mem _ hz))
    simp only [sm]
    rcases List.mem_cons.1 hx with e | e
    · subst e; omega
    · have := sm_mem (l := l) (fun z hz => hp z (List.mem_cons_of_mem _ hz)) e
      omega
theorem sm_len {α : Type} {h : α → Int} : ∀ {l : List α}, (∀ x ∈ l, 1 ≤ h x) → (l.length : Int) ≤ sm h l
  | [], _ => by simp [sm]
  | x :: l, hp => by
    have h1 := hp x (List.mem_cons_self ..)
    have h2 := sm_len (l := l) (fun y hy => hp y (List.mem_cons_of_mem _ hy))
    simp only [sm, List.length_cons]
    omega
structure GOk (s : SG) : Prop where
  ne : 1 ≤ s.f0.length
  a : 1 ≤ s.f1
  b : 0 ≤ s.f2
  c : s.f2 ≤ s.f1
def len0 (s : SG) : Int := (s.f0.length : Int)
structure GInv (m : Int) (l : List SG) : Prop where
  ok : ∀ s ∈ l, GOk s
  sum : sm (fun s : SG => s.f1) l ≤ 1000 * m
  len : sm len0 l ≤ m
theorem GInv.more {m m' : Int} {l : List SG} (h : GInv m l) (hm : m ≤ m') : GInv m' l := ⟨h.ok, by have := h.sum; omega, by have := h.len; omega⟩
theorem prod_bd {a b : Int} (a0 : 0 ≤ a) (a1 : a ≤ 11000) (b0 : 0 ≤ b) (b1 : b ≤ 11000) : 0 ≤ a * b ∧ a * b ≤ 121000000 := by
  have h1 : a * b ≤ 11000 * b := Int.mul_le_mul_of_nonneg_right a1 b0
  exact ⟨Int.mul_nonneg a0 b0, by omega⟩
theorem l1Own_is4 (l : List Int) (hl : l.length < 17592186044416) : spec_l1Own.f l = some l := by
  unfold spec_l1Own.f
  rw [Option.bind_some, if_pos (by simpa using hl)]
  rfl
theorem pop_sim (cs hs : List Int) (i : Nat) (hi : i < 11) : ∀ (n : Nat) (T : List SG) (q : SG), T.length = n → (∀ s ∈ T, GOk s) → GOk q → sm (fun s : SG => s.f1) T + q.f1 ≤ 1000 * ((i : Int) + 1) → sm len0 T + len0 q ≤ (i : Int) + 1 →
    ∃ T', GInv ((i + 1 : Nat) : Int) T' ∧ (∀ r, Ev (fun k => spec_l10Groups.l0 k T' ((i + 1 : Nat) : Int) cs hs) r → Ev (fun k => spec_l10Groups.l1 k T (i : Int) cs hs q.f0 q.f1 q.f2) r) ∧
      (∀ r, Ev (fun k => impl_calibrationOf.l0 k (T'.map toI) cs 11 ((i + 1 : Nat) : Int) cs hs) r → Ev (fun k => impl_calibrationOf.l1 k (T.map toI) ((T.map toI).length : Int) cs 11 (i : Int) cs hs (toI q).f0 (toI q).f1 (toI q).f2) r) := by
  have e1 := Aside0.mk (show wrap64 ((i : Int) + 1) = ((i + 1 : Nat) : Int) by rw [w64 (by omega) (by omega)]; rfl)
  have stop : ∀ (T : List SG) (q : SG), (∀ s ∈ T, GOk s) → GOk q → sm (fun s : SG => s.f1) T + q.f1 ≤ 1000 * ((i : Int) + 1) → sm len0 T + len0 q ≤ (i : Int) + 1 → GInv ((i + 1 : Nat) : Int) (T ++ [q]) := fun T q hT hq h1 h2 =>
    ⟨fun s hs => (List.mem_append.1 hs).elim (hT s) (fun h => by rw [List.mem_singleton.1 h]; exact hq), by rw [sm_app, sm_one]; omega, by rw [sm_app, sm_one]; omega⟩
  have short : ∀ T : List SG, (∀ s ∈ T, GOk s) → ∀ q : SG, GOk q → sm (fun s : SG => s.f1) T + q.f1 ≤ 1000 * ((i : Int) + 1) → T.length ≤ 11000 := fun T hT q hq h1 => by
    have := sm_len (h := fun s : SG => s.f1) (l := T) (fun s hs => (hT s hs).a)
    have := hq.a
    omega
  intro n
  induction n with
  | zero =>
    intro T q hn hT hq h1 h2
    obtain rfl := List.length_eq_zero_iff.1 hn
    refine ⟨[] ++ [q], stop [] q hT hq h1 h2, fun r h => ?_, fun r h => ?_⟩
    · refine ev_step (fun k => spec_l10Groups.l1.eq_2 _ _ _ _ _ _ _ k) (ev_ifn (by simp) (ev_ifp (by simp) ?_))
      rw [e1.out]
      exact h
    · refine ev_step (fun k => impl_calibrationOf.l1.eq_2 _ _ _ _ _ _ _ _ _ _ k) (ev_ifn (by simp) (ev_ifp (by simp) ?_))
      rw [e1.out]
      exact h
  | succ n ih =>
    intro T q hn hT hq h1 h2
    have hTs := short T hT q hq h1
    have hne : T ≠ [] := fun e => by rw [e] at hn; simp at hn
    obtain ⟨U, b, rfl⟩ : ∃ U b, T = U ++ [b] := ⟨T.dropLast, T.getLast hne, (List.dropLast_concat_getLast hne).symm⟩
    have hU : U.length = n := by rw [List.length_append, List.length_singleton] at hn; omega
    have hb := hT b (List.mem_append.2 (.inr (List.mem_singleton.2 rfl)))
    have hTU : ∀ s ∈ U, GOk s := fun s hs => hT s (List.mem_append.2 (.inl hs))
    rw [sm_app, sm_one] at h1 h2
    have n1 := sm_nn (h := fun s : SG => s.f1) (l := U) (fun s hs => by have := (hTU s hs).a; omega)
    have n2 := sm_nn (h := len0) (l := U) (fun s hs => by unfold len0; omega)
    have l1 : ((U ++ [b]).length : Int) = (U.length : Int) + 1 := by simp
    have l2 : (((U ++ [b]).map toI).length : Int) = (U.length : Int) + 1 := by simp
    have ei : wrap64 ((U.length : Int) + 1 - 1) = (U.length : Int) := by rw [w64 (by omega) (by omega)]; omega
    have g1 : (U ++ [b]).getD U.length z86 = b := by simp [List.getD]
    have g2 : ((U ++ [b]).map toI).getD U.length z93 = toI b := by rw [map_get _ (by simp), g1]
    have t1 : (U ++ [b]).take U.length = U := by simp
    have t2 : ((U ++ [b]).map toI).take U.length = U.map toI := by simp
    have ba := hb.a
    have bb := hb.b
    have bc := hb.c
    have qa := hq.a
    have qb := hq.b
    have qc := hq.c
    have p1 := prod_bd (a := b.f2) (b := q.f1) bb (by omega) (by omega) (by omega)
    have p2 := prod_bd (a := q.f2) (b := b.f1) qb (by omega) (by omega) (by omega)
    have w1 := Aside0.mk (show wrap64 (b.f2 * q.f1) = b.f2 * q.f1 from w64 (by omega) (by omega))
    have w2 := Aside0.mk (show wrap64 (q.f2 * b.f1) = q.f2 * b.f1 from w64 (by omega) (by omega))
    have w3 := Aside0.mk (show wrap64 (b.f1 + q.f1) = b.f1 + q.f1 from w64 (by omega) (by omega))
    have w4 := Aside0.mk (show wrap64 (b.f2 + q.f2) = b.f2 + q.f2 from w64 (by omega) (by omega))
    have v1 := Aside0.mk (show wrap64 ((toI b).f2 * (toI q).f1) = b.f2 * q.f1 from w1.out)
    have v2 := Aside0.mk (show wrap64 ((toI q).f2 * (toI b).f1) = q.f2 * b.f1 from w2.out)
    have v3 := Aside0.mk (show wrap64 ((toI b).f1 + (toI q).f1) = b.f1 + q.f1 from w3.out)
    have v4 := Aside0.mk (show wrap64 ((toI b).f2 + (toI q).f2) = b.f2 + q.f2 from w4.out)
    unfold len0 at h2 n2
    have bl : b.f0.length < 100 := by omega
    have ql : q.f0.length < 100 := by omega
    by_cases hc : b.f2 * q.f1 > q.f2 * b.f1
    · obtain ⟨T', i1, i2, i3⟩ := ih U ⟨b.f0 ++ q.f0, b.f1 + q.f1, b.f2 + q.f2⟩ hU hTU ⟨by have := hb.ne; simp; omega, by dsimp only; omega, by dsimp only; omega, by dsimp only; omega⟩ (by dsimp only; omega) (by unfold len0; simp only [List.length_append]; omega)
      have ef : (b.f0 ++ q.f0).getD 0 0 = b.f0.getD 0 0 := by
        have := hb.ne
        simp only [List.getD, List.getElem?_append_left (show 0 < b.f0.length by omega)]
      refine ⟨T', i1, fun r h => ?_, fun r h => ?_⟩
      · have h3 := i2 r h
        refine ev_step (fun k => spec_l10Groups.l1.eq_2 _ _ _ _ _ _ _ k) ?_
        rw [l1, ei, rdsg, g1, w1.out, w2.out, w3.out, w4.out, Int.toNat_natCast, t1]
        exact ev_ifp (by omega) (ev_ifp (by omega) (ev_ifp (by omega) (ev_ifp hc (ev_bind (ev_const (l1Own_is4 b.f0 (by omega))) (ev_ifp (by omega) (ev_ifp (by omega) h3))))))
      · have h3 := i3 r h
        refine ev_step (fun k => impl_calibrationOf.l1.eq_2 _ _ _ _ _ _ _ _ _ _ k) ?_
        rw [l2, ei, rdig, g2, v1.out, v2.out, v3.out, v4.out, Int.toNat_natCast, t2]
        refine ev_ifp (by omega) (ev_ifp (by omega) (ev_ifp (by omega) (ev_ifn (by omega) (ev_ifp (by omega) (ev_bind (ev_some _) ?_)))))
        show Ev (fun k => impl_calibrationOf.l1 k (U.map toI) ((U.map toI).length : Int) cs 11 (i : Int) cs hs (b.f0.getD 0 0) (b.f1 + q.f1) (b.f2 + q.f2)) r
        rw [← ef]
        exact h3
    · refine ⟨(U ++ [b]) ++ [q], stop _ q hT hq (by rw [sm_app, sm_one]; omega) (by rw [sm_app, sm_one]; unfold len0; omega), fun r h => ?_, fun r h => ?_⟩
      · refine ev_step (fun k => spec_l10Groups.l1.eq_2 _ _ _ _ _ _ _ k) ?_
        rw [l1, ei, rdsg, g1, w1.out, w2.out, e1.out]
        exact ev_ifp (by omega) (ev_ifp (by omega) (ev_ifp (by omega) (ev_ifn hc (ev_ifp (by omega) h))))
      · refine ev_step (fun k => impl_calibrationOf.l1.eq_2 _ _ _ _ _ _ _ _ _ _ k) ?_
        rw [l2, ei, rdig, g2, e1.out, v1.out, v2.out]
        have h' : Ev (fun k => impl_calibrationOf.l0 k ((U ++ [b]).map toI ++ [toI q]) cs 11 ((i + 1 : Nat) : Int) cs hs) r := by
          rw [List.map_append] at h
          exact h
        exact ev_ifp (by omega) (ev_ifp (by omega) (ev_ifp (by omega) (ev_ifp (by omega) (ev_ifp (by rw [List.length_map]; omega) h'))))
theorem groups_sim {cs hs : List Int} (ok : tallyOk cs hs = true) : ∀ (d i : Nat) (T : List SG), i + d = 11 → GInv (i : Int) T →
    ∃ G, GInv 11 G ∧ Ev (fun k => spec_l10Groups.l0 k T (i : Int) cs hs) G ∧ (∀ r, Ev (fun k => impl_calibrationOf.l0 k (G.map toI) cs 11 11 cs hs) r → Ev (fun k => impl_calibrationOf.l0 k (T.map toI) cs 11 (i : Int) cs hs) r) := by
  obtain ⟨hc, hh, hv⟩ := tallyOk_iff.1 ok
  intro d
  induction d with
  | zero =>
    intro i T h0 hT
    obtain rfl : i = 11 := by omega
    exact ⟨T, hT, ev_step (fun k => spec_l10Groups.l0.eq_2 _ _ _ _ k) (ev_ifn (by omega) (ev_some _)), fun r h => h⟩
  | succ d ih =>
    intro i T h0 hT
    have hi : i < 11 := by omega
    obtain ⟨v1, v2, v3, v4⟩ := hv i hi
    have e1 := Aside0.mk (show wrap64 ((i : Int) + 1) = ((i + 1 : Nat) : Int) by rw [w64 (by omega) (by omega)]; rfl)
    by_cases h1 : cs.getD i 0 = 0
    · obtain ⟨G, g1, g2, g3⟩ := ih (i + 1) T (by omega) (hT.more (by omega))
      refine ⟨G, g1, ?_, fun r h => ?_⟩
      · refine ev_step (fun k => spec_l10Groups.l0.eq_2 _ _ _ _ k) (ev_ifp (by omega) (ev_ifp (by omega) ?_))
        rw [rd_nat, e1.out]
        exact ev_ifp h1 g2
      · refine ev_step (fun k => impl_calibrationOf.l0.eq_2 _ _ _ _ _ _ k) (ev_ifp (by omega) (ev_ifp (by omega) (ev_ifp (by omega) ?_)))
        rw [rd_nat, e1.out]
        exact ev_ifp h1 (g3 r h)
    · obtain ⟨T', t1, t2, t3⟩ := pop_sim cs hs i hi T.length T ⟨[(i : Int)], cs.getD i 0, hs.getD i 0⟩ rfl hT.ok ⟨by simp, by dsimp only; omega, v3, v4⟩ (by have := hT.sum; dsimp only; omega) (by have := hT.len; unfold len0; simp only [List.length_singleton]; unfold len0 at this; omega)
      obtain ⟨G, g1, g2, g3⟩ := ih (i + 1) T' (by omega) t1
      refine ⟨G, g1, ?_, fun r h => ?_⟩
      · refine ev_step (fun k => spec_l10Groups.l0.eq_2 _ _ _ _ k) (ev_ifp (by omega) (ev_ifp (by omega) ?_))
        rw [rd_nat, rd_nat]
        exact ev_ifn h1 (ev_ifp (by omega) (t2 G g2))
      · refine ev_step (fun k => impl_calibrationOf.l0.eq_2 _ _ _ _ _ _ k) (ev_ifp (by omega) (ev_ifp (by omega) (ev_ifp (by omega) ?_)))
        rw [rd_nat, rd_nat]
        exact ev_ifn h1 (ev_ifp (by omega) (t3 r (g3 r h)))
def pkG (G : List SG) (c : Int) : Nat → Nat
  | 0 => 0
  | i + 1 => if (G.getD i z86).f0.getD 0 0 ≤ c then i else pkG G c i
theorem pkG_lt (G : List SG) (c : Int) : ∀ i, 1 ≤ G.length → i ≤ G.length → pkG G c i < G.length
  | 0, h, _ => h
  | i + 1, h, h1 => by
    unfold pkG
    split
    · omega
    · exact pkG_lt G c i h (by omega)
def grp (G : List SG) (c : Int) : SG := G.getD (pkG G c G.length) z86
def shG (G : List SG) (c : Int) : SHR := ⟨(shareN (grp G c).f2.toNat (grp G c).f1.toNat).1, (shareN (grp G c).f2.toNat (grp G c).f1.toNat).2⟩
section
variable {G : List SG} (hG : GInv 11 G) (h1 : 1 ≤ G.length)
include hG h1
theorem grp_ok (c : Int) : GOk (grp G c) := by
  unfold grp
  rw [getD_eq_get _ (pkG_lt G c G.length h1 (Nat.le_refl _))]
  exact hG.ok _ (List.getElem_mem _)
omit h1 in
theorem G_short : G.length ≤ 11000 := by
  have := sm_len (h := fun s : SG => s.f1) (l := G) (fun s hs => (hG.ok s hs).a)
  have := hG.sum
  omega
theorem grp_bd (c : Int) : (grp G c).f1 ≤ 11000 := by
  have hm : grp G c ∈ G := by
    unfold grp
    rw [getD_eq_get _ (pkG_lt G c G.length h1 (Nat.le_refl _))]
    exact List.getElem_mem _
  have := sm_mem (h := fun s : SG => s.f1) (l := G) (fun s hs => by have := (hG.ok s hs).a; omega) hm
  have := hG.sum
  omega
theorem share_spec (c : Int) : Ev (fun k => spec_l10Share.f k (grp G c).f2 (grp G c).f1) (shareN (grp G c).f2.toNat (grp G c).f1.toNat) := by
  have o := grp_ok hG h1 c
  have b := grp_bd hG h1 c
  have oa := o.a
  have ob := o.b
  have oc := o.c
  have h := l10Share_ev (grp G c).f2.toNat (grp G c).f1.toNat (by omega) (by omega) (by omega)
  rw [Int.toNat_of_nonneg ob, Int.toNat_of_nonneg (show 0 ≤ (grp G c).f1 by omega)] at h
  exact h
theorem share_impl (c : Int) : Ev (fun k => impl_shareOf.f k (grp G c).f2 (grp G c).f1) (shareN (grp G c).f2.toNat (grp G c).f1.toNat) := by
  have o := grp_ok hG h1 c
  have b := grp_bd hG h1 c
  have oa := o.a
  have ob := o.b
  have oc := o.c
  have h := shareOf_ev (grp G c).f2.toNat (grp G c).f1.toNat (by omega) (by omega) (by omega)
  rw [Int.toNat_of_nonneg ob, Int.toNat_of_nonneg (show 0 ≤ (grp G c).f1 by omega)] at h
  exact h
theorem pick_spec (c : Int) : Ev (fun k => spec_l10Shares.l1 k G c (G.getD 0 z86).f1 (G.getD 0 z86).f2 0) ((grp G c).f1, (grp G c).f2) := by
  have hs := G_short hG
  have h := loop_ev (fun k (a : Nat) i => spec_l10Shares.l1 k G c (G.getD a z86).f1 (G.getD a z86).f2 (i : Int)) G.length (fun i a => if (G.getD i z86).f0.getD 0 0 ≤ c then i else a) (fun _ => ((grp G c).f1, (grp G c).f2)) (fun i a => a = pkG G c i)
    (fun i a r hI hi hh => by
      have e1 := Aside0.mk (show wrap64 ((i : Int) + 1) = ((i + 1 : Nat) : Int) by rw [w64 (by omega) (by omega)]; rfl)
      have hne : 1 ≤ (G.getD i z86).f0.length := by
        rw [getD_eq_get _ hi]
        exact (hG.ok _ (List.getElem_mem hi)).ne
      refine ev_step (fun k => spec_l10Shares.l1.eq_2 _ _ _ _ _ k) (ev_ifp (by omega) (ev_ifp (by omega) ?_))
      rw [rdsg, e1.out]
      refine ev_ifp (by omega) ?_
      have r0 : rd (G.getD i z86).f0 0 = (G.getD i z86).f0.getD 0 0 := rfl
      rw [r0]
      by_cases hle : (G.getD i z86).f0.getD 0 0 ≤ c
      · simp only [if_pos hle] at hh
        exact ev_ifp hle hh
      · simp only [if_neg hle] at hh
        exact ev_ifn hle hh)
    (fun i a hI hi => by show (if (G.getD i z86).f0.getD 0 0 ≤ c then i else a) = pkG G c (i + 1); rw [hI]; rfl)
    (fun a hI => ev_step (fun k => spec_l10Shares.l1.eq_2 _ _ _ _ _ k) (ev_ifn (by omega) (ev_const (by rw [hI]; rfl)))) 0 0 (Nat.zero_le _) rfl
  exact h
theorem pick_impl (c : Nat) (hc : c < 11) (out : List SHR) (r : List SHR × Bool) (ho : out.length = 11) (h : Ev (fun k => impl_calibrationOf.l2 k (G.map toI) (out.set c (shG G (c : Int))) 11 ((c + 1 : Nat) : Int)) r) :
    Ev (fun k => impl_calibrationOf.l3 k (G.map toI) out (c : Int) 0 11 (c : Int) (G.map toI) ((G.map toI).length : Int) 0) r := by
  have hs := G_short hG
  have hl : ((G.map toI).length : Int) = (G.length : Int) := by rw [List.length_map]
  rw [hl]
  have e2 := Aside0.mk (show wrap64 ((c : Int) + 1) = ((c + 1 : Nat) : Int) by rw [w64 (by omega) (by omega)]; rfl)
  have h2 := loop_ev (fun k (a : Nat) i => impl_calibrationOf.l3 k (G.map toI) out (c : Int) (a : Int) 11 (c : Int) (G.map toI) (G.length : Int) (i : Int)) G.length (fun i a => if (G.getD i z86).f0.getD 0 0 ≤ (c : Int) then i else a) (fun _ => r) (fun i a => a = pkG G (c : Int) i)
    (fun i a r hI hi hh => by
      have e1 := Aside0.mk (show wrap64 ((i : Int) + 1) = ((i + 1 : Nat) : Int) by rw [w64 (by omega) (by omega)]; rfl)
      refine ev_step (fun k => impl_calibrationOf.l3.eq_2 _ _ _ _ _ _ _ _ _ k) (ev_ifp (by omega) (ev_ifp (by omega) (ev_ifp (by omega) ?_)))
      rw [rdig, map_get _ hi, e1.out]
      have r0 : (toI (G.getD i z86)).f0 = (G.getD i z86).f0.getD 0 0 := rfl
      rw [r0]
      by_cases hle : (G.getD i z86).f0.getD 0 0 ≤ (c : Int)
      · simp only [if_pos hle] at hh
        exact ev_ifp hle hh
      · simp only [if_neg hle] at hh
        exact ev_ifn hle hh)
    (fun i a hI hi => by show (if (G.getD i z86).f0.getD 0 0 ≤ (c : Int) then i else a) = pkG G (c : Int) (i + 1); rw [hI]; rfl)
    (fun a hI => by
      have hlt := pkG_lt G (c : Int) G.length h1 (Nat.le_refl _)
      rw [← hI] at hlt
      refine ev_step (fun k => impl_calibrationOf.l3.eq_2 _ _ _ _ _ _ _ _ _ k) (ev_ifn (by omega) (ev_ifp (by omega) (ev_ifp (by omega) ?_)))
      rw [rdig, map_get _ hlt, e2.out]
      have eg : G.getD a z86 = grp G (c : Int) := by rw [hI]; rfl
      rw [eg]
      refine ev_bind (share_impl hG h1 (c : Int)) (ev_ifp (by omega) (ev_ifp (by omega) ?_))
      rw [Int.toNat_natCast]
      exact h) 0 0 (Nat.zero_le _) rfl
  exact h2
theorem shares_spec : Ev (fun k => spec_l10Shares.l0 k G 0 []) (tab 11 (fun c => shG G (c : Int))) := by
  have h := loop_ev (fun k (out : List SHR) i => spec_l10Shares.l0 k G (i : Int) out) 11 (fun i out => out ++ [shG G (i : Int)]) (fun s => s) (fun i out => out.length = i)
    (fun i out r hI hi hh => by
      have e1 := Aside0.mk (show wrap64 ((i : Int) + 1) = ((i + 1 : Nat) : Int) by rw [w64 (by omega) (by omega)]; rfl)
      refine ev_step (fun k => spec_l10Shares.l0.eq_2 _ _ _ k) (ev_ifp (by omega) (ev_ifp (by omega) ?_))
      rw [show rd_T86 G 0 = G.getD 0 z86 from rdsg G 0, e1.out]
      exact ev_bind (pick_spec hG h1 (i : Int)) (ev_bind (share_spec hG h1 (i : Int)) (ev_ifp (by omega) hh)))
    (fun i out hI hi => by rw [List.length_append, hI]; rfl)
    (fun s hI => ev_step (fun k => spec_l10Shares.l0.eq_2 _ _ _ k) (ev_ifn (by omega) (ev_some _))) 0 [] (Nat.zero_le _) rfl
  rw [Nat.sub_zero, iter_app0] at h
  exact h
theorem shares_impl : Ev (fun k => impl_calibrationOf.l2 k (G.map toI) (List.replicate 11 z33) 11 0) (tab 11 (fun c => shG G (c : Int)), true) := by
  have h := loop_ev (fun k (out : List SHR) i => impl_calibrationOf.l2 k (G.map toI) out 11 (i : Int)) 11 (fun i out => out.set i (shG G (i : Int))) (fun s => (s, true)) (fun _ out => out.length = 11)
    (fun i out r hI hi hh => ev_step (fun k => impl_calibrationOf.l2.eq_2 _ _ _ _ k) (ev_ifp (by omega) (pick_impl hG h1 i hi out r hI hh)))
    (fun i out hI hi => by simpa using hI)
    (fun s hI => ev_step (fun k => impl_calibrationOf.l2.eq_2 _ _ _ _ k) (ev_ifn (by omega) (ev_some _))) 0 (List.replicate 11 z33) (Nat.zero_le _) (by simp)
  rw [Nat.sub_zero, iter_set_tab z33 (fun c : Nat => shG G (c : Int)) 11 _ (by simp)] at h
  exact h
end
theorem calib_both {cs hs : List Int} (ok : tallyOk cs hs = true) : ∃ G, GInv 11 G ∧ Ev (fun k => spec_l10Groups.f k cs hs) G ∧
    ((G = [] ∧ Ev (fun k => spec_l10Shares.f k cs hs) [] ∧ Ev (fun k => impl_calibrationOf.f k cs hs) ([], false)) ∨
     (1 ≤ G.length ∧ Ev (fun k => spec_l10Shares.f k cs hs) (tab 11 (fun c => shG G (c : Int))) ∧ Ev (fun k => impl_calibrationOf.f k cs hs) (tab 11 (fun c => shG G (c : Int)), true))) := by
  obtain ⟨hc, hh, hv⟩ := tallyOk_iff.1 ok
  obtain ⟨G, g1, g2, g3⟩ := groups_sim ok 11 0 [] rfl ⟨fun s hs => absurd hs (by simp), by simp [sm], by simp [sm]⟩
  refine ⟨G, g1, g2, ?_⟩
  have h11 : ((cs.length : Nat) : Int) = 11 := by omega
  by_cases h : G.length = 0
  · obtain rfl := List.length_eq_zero_iff.1 h
    refine .inl ⟨rfl, ?_, ?_⟩
    · unfold spec_l10Shares.f spec_l10Groups.f
      exact ev_bind g2 (ev_ifp rfl (ev_some _))
    · unfold impl_calibrationOf.f
      rw [h11]
      exact g3 _ (ev_step (fun k => impl_calibrationOf.l0.eq_2 _ _ _ _ _ _ k) (ev_ifn (by omega) (ev_ifp (by simp) (ev_some _))))
  · refine .inr ⟨by omega, ?_, ?_⟩
    · unfold spec_l10Shares.f spec_l10Groups.f
      exact ev_bind g2 (ev_ifn (by omega) (shares_spec g1 (by omega)))
    · unfold impl_calibrationOf.f
      rw [h11]
      refine g3 _ (ev_step (fun k => impl_calibrationOf.l0.eq_2 _ _ _ _ _ _ k) (ev_ifn (by omega) (ev_ifn (by rw [List.length_map]; omega) (ev_ifp (by omega) (ev_bind (ev_some _) ?_)))))
      simp only [List.length_replicate]
      exact shares_impl g1 (by omega)
theorem ev_det {α : Type} {g : Nat → Option α} {r s : α} (h : Ev g r) (k : Ev g s) : r = s := by
  obtain ⟨K, hk⟩ := ev_two h k
  have := hk K (Nat.le_refl _)
  exact Option.some.inj (this.1.symm.trans this.2)
def pre (cs : List Int) : Nat → Int
  | 0 => 0
  | i + 1 => pre cs i + cs.getD i 0
def nz (cs : List Int) (a : Nat) : Nat → List Int
  | 0 => []
  | b + 1 => if a ≤ b ∧ cs.getD b 0 ≠ 0 then nz cs a b ++ [(b : Int)] else nz cs a b
theorem nz_nil (cs : List Int) (a : Nat) : ∀ b, b ≤ a → nz cs a b = []
  | 0, _ => rfl
  | b + 1, h => by rw [nz, if_neg (by omega)]; exact nz_nil cs a b (by omega)
theorem nz_app (cs : List Int) (a m : Nat) (ham : a ≤ m) : ∀ b, m ≤ b → nz cs a m ++ nz cs m b = nz cs a b
  | 0, h => by obtain rfl : m = 0 := by omega
               simp [nz]
  | b + 1, h => by
    by_cases hm : m = b + 1
    · subst hm
      rw [nz_nil cs (b + 1) (b + 1) (Nat.le_refl _), List.append_nil]
    · have ih := nz_app cs a m ham b (by omega)
      have e1 : nz cs m (b + 1) = if m ≤ b ∧ cs.getD b 0 ≠ 0 then nz cs m b ++ [(b : Int)] else nz cs m b := rfl
      have e2 : nz cs a (b + 1) = if a ≤ b ∧ cs.getD b 0 ≠ 0 then nz cs a b ++ [(b : Int)] else nz cs a b := rfl
      rw [e1, e2]
      by_cases hc : cs.getD b 0 ≠ 0
      · rw [if_pos ⟨by omega, hc⟩, if_pos ⟨by omega, hc⟩, ← List.append_assoc, ih]
      · rw [if_neg (fun h => hc h.2), if_neg (fun h => hc h.2), ih]
theorem nz_one (cs : List Int) (c : Nat) : nz cs c (c + 1) = if cs.getD c 0 ≠ 0 then [(c : Int)] else [] := by
  rw [nz, nz_nil cs c c (Nat.le_refl _)]
  by_cases h : cs.getD c 0 ≠ 0
  · rw [if_pos ⟨Nat.le_refl _, h⟩, if_pos h]; rfl
  · rw [if_neg (fun h2 => h h2.2), if_neg h]
theorem nz_none (cs : List Int) (a : Nat) : ∀ b, nz cs a b = [] → ∀ j, a ≤ j → j < b → cs.getD j 0 = 0
  | 0, _, j, _, h => absurd h (by omega)
  | b + 1, h, j, h1, h2 => by
    rw [nz] at h
    by_cases hc : a ≤ b ∧ cs.getD b 0 ≠ 0
    · rw [if_pos hc] at h
      simp at h
    · rw [if_neg hc] at h
      by_cases e : j = b
      · subst e
        exact Decidable.byContradiction fun hn => hc ⟨h1, hn⟩
      · exact nz_none cs a b h j h1 (by omega)
def PIr (cs hs : List Int) : Nat → List SG → Prop
  | i, [] => pre cs i = 0 ∧ pre hs i = 0 ∧ nz cs 0 i = []
  | i, b :: U => ∃ F : Nat, b.f0.getD 0 0 = (F : Int) ∧ F < i ∧ b.f1 = pre cs i - pre cs F ∧ b.f2 = pre hs i - pre hs F ∧ GOk b ∧ (b.f0 = nz cs F i ∧ cs.getD F 0 ≠ 0) ∧ (∀ c, U.head? = some c → c.f2 * b.f1 ≤ b.f2 * c.f1) ∧ PIr cs hs F U
theorem pop_inv (cs hs : List Int) (i : Nat) (hi : i < 11) : ∀ (n : Nat) (T : List SG) (q : SG) (F : Nat), T.length = n → (∀ s ∈ T, GOk s) → GOk q → sm (fun s : SG => s.f1) T + q.f1 ≤ 1000 * ((i : Int) + 1) → sm len0 T + len0 q ≤ (i : Int) + 1 →
    PIr cs hs F T.reverse → q.f0.getD 0 0 = (F : Int) → F < i + 1 → q.f1 = pre cs (i + 1) - pre cs F → q.f2 = pre hs (i + 1) - pre hs F → q.f0 = nz cs F (i + 1) ∧ cs.getD F 0 ≠ 0 →
    ∃ T', GInv ((i + 1 : Nat) : Int) T' ∧ PIr cs hs (i + 1) T'.reverse ∧ (∀ r, Ev (fun k => spec_l10Groups.l0 k T' ((i + 1 : Nat) : Int) cs hs) r → Ev (fun k => spec_l10Groups.l1 k T (i : Int) cs hs q.f0 q.f1 q.f2) r) := by
  have e1 := Aside0.mk (show wrap64 ((i : Int) + 1) = ((i + 1 : Nat) : Int) by rw [w64 (by omega) (by omega)]; rfl)
  have stop : ∀ (T : List SG) (q : SG), (∀ s ∈ T, GOk s) → GOk q → sm (fun s : SG => s.f1) T + q.f1 ≤ 1000 * ((i : Int) + 1) → sm len0 T + len0 q ≤ (i : Int) + 1 → GInv ((i + 1 : Nat) : Int) (T ++ [q]) := fun T q hT hq h1 h2 =>
    ⟨fun s hs => (List.mem_append.1 hs).elim (hT s) (fun h => by rw [List.mem_singleton.1 h]; exact hq), by rw [sm_app, sm_one]; omega, by rw [sm_app, sm_one]; omega⟩
  have short : ∀ T : List SG, (∀ s ∈ T, GOk s) → ∀ q : SG, GOk q → sm (fun s : SG => s.f1) T + q.f1 ≤ 1000 * ((i : Int) + 1) → T.length ≤ 11000 := fun T hT q hq h1 => by
    have := sm_len (h := fun s : SG => s.f1) (l := T) (fun s hs => (hT s hs).a)
    have := hq.a
    omega
  intro n
  induction n with
  | zero =>
    intro T q F hn hT hq h1 h2 hP hF1 hF2 hF3 hF4 hF5
    obtain rfl := List.length_eq_zero_iff.1 hn
    refine ⟨[] ++ [q], stop [] q hT hq h1 h2, ⟨F, hF1, hF2, hF3, hF4, hq, hF5, fun c hc => absurd hc (by simp), hP⟩, fun r h => ?_⟩
    refine ev_step (fun k => spec_l10Groups.l1.eq_2 _ _ _ _ _ _ _ k) (ev_ifn (by simp) (ev_ifp (by simp) ?_))
    rw [e1.out]
    exact h
  | succ n ih =>
    intro T q F hn hT hq h1 h2 hP hF1 hF2 hF3 hF4 hF5
    have hTs := short T hT q hq h1
    have hne : T ≠ [] := fun e => by rw [e] at hn; simp at hn
    obtain ⟨U, b, rfl⟩ : ∃ U b, T = U ++ [b] := ⟨T.dropLast, T.getLast hne, (List.dropLast_concat_getLast hne).symm⟩
    have hU : U.length = n := by rw [List.length_append, List.length_singleton] at hn; omega
    have hb := hT b (List.mem_append.2 (.inr (List.mem_singleton.2 rfl)))
    have hTU : ∀ s ∈ U, GOk s := fun s hs => hT s (List.mem_append.2 (.inl hs))
    have hrev : (U ++ [b]).reverse = b :: U.reverse := by simp
    have hP0 := hP
    rw [hrev] at hP
    obtain ⟨Fb, hb1, hb2, hb3, hb4, _, hb5, hb6, hb7⟩ := hP
    rw [sm_app, sm_one] at h1 h2
    have n1 := sm_nn (h := fun s : SG => s.f1) (l := U) (fun s hs => by have := (hTU s hs).a; omega)
    have n2 := sm_nn (h := len0) (l := U) (fun s hs => by unfold len0; omega)
    have l1 : ((U ++ [b]).length : Int) = (U.length : Int) + 1 := by simp
    have ei : wrap64 ((U.length : Int) + 1 - 1) = (U.length : Int) := by rw [w64 (by omega) (by omega)]; omega
    have g1 : (U ++ [b]).getD U.length z86 = b := by simp [List.getD]
    have t1 : (U ++ [b]).take U.length = U := by simp
    have ba := hb.a
    have bb := hb.b
    have bc := hb.c
    have qa := hq.a
    have qb := hq.b
    have qc := hq.c
    have p1 := prod_bd (a := b.f2) (b := q.f1) bb (by omega) (by omega) (by omega)
    have p2 := prod_bd (a := q.f2) (b := b.f1) qb (by omega) (by omega) (by omega)
    have w1 := Aside0.mk (show wrap64 (b.f2 * q.f1) = b.f2 * q.f1 from w64 (by omega) (by omega))
    have w2 := Aside0.mk (show wrap64 (q.f2 * b.f1) = q.f2 * b.f1 from w64 (by omega) (by omega))
    have w3 := Aside0.mk (show wrap64 (b.f1 + q.f1) = b.f1 + q.f1 from w64 (by omega) (by omega))
    have w4 := Aside0.mk (show wrap64 (b.f2 + q.f2) = b.f2 + q.f2 from w64 (by omega) (by omega))
    unfold len0 at h2 n2
    have bl : b.f0.length < 100 := by omega
    have ql : q.f0.length < 100 := by omega
    by_cases hc : b.f2 * q.f1 > q.f2 * b.f1
    · have ef : (b.f0 ++ q.f0).getD 0 0 = b.f0.getD 0 0 := by
        have := hb.ne
        simp only [List.getD, List.getElem?_append_left (show 0 < b.f0.length by omega)]
      obtain ⟨T', i1, i0, i2⟩ := ih U ⟨b.f0 ++ q.f0, b.f1 + q.f1, b.f2 + q.f2⟩ Fb hU hTU ⟨by have := hb.ne; simp; omega, by dsimp only; omega, by dsimp only; omega, by dsimp only; omega⟩ (by dsimp only; omega) (by unfold len0; simp only [List.length_append]; omega)
        hb7 (by dsimp only; rw [ef]; exact hb1) (by omega) (by dsimp only; omega) (by dsimp only; omega) ⟨by dsimp only; rw [hb5.1, hF5.1]; exact nz_app cs Fb F (by omega) (i + 1) (by omega), hb5.2⟩
      refine ⟨T', i1, i0, fun r h => ?_⟩
      have h3 := i2 r h
      refine ev_step (fun k => spec_l10Groups.l1.eq_2 _ _ _ _ _ _ _ k) ?_
      rw [l1, ei, rdsg, g1, w1.out, w2.out, w3.out, w4.out, Int.toNat_natCast, t1]
      exact ev_ifp (by omega) (ev_ifp (by omega) (ev_ifp (by omega) (ev_ifp hc (ev_bind (ev_const (l1Own_is4 b.f0 (by omega))) (ev_ifp (by omega) (ev_ifp (by omega) h3))))))
    · refine ⟨(U ++ [b]) ++ [q], stop _ q hT hq (by rw [sm_app, sm_one]; omega) (by rw [sm_app, sm_one]; unfold len0; omega), ?_, fun r h => ?_⟩
      · have er : ((U ++ [b]) ++ [q]).reverse = q :: (U ++ [b]).reverse := by simp
        rw [er]
        refine ⟨F, hF1, hF2, hF3, hF4, hq, hF5, fun c hc2 => ?_, hP0⟩
        rw [hrev] at hc2
        obtain rfl := Option.some.inj hc2
        omega
      · refine ev_step (fun k => spec_l10Groups.l1.eq_2 _ _ _ _ _ _ _ k) ?_
        rw [l1, ei, rdsg, g1, w1.out, w2.out, e1.out]
        exact ev_ifp (by omega) (ev_ifp (by omega) (ev_ifp (by omega) (ev_ifn hc (ev_ifp (by omega) h))))
theorem groups_inv {cs hs : List Int} (ok : tallyOk cs hs = true) : ∀ (d i : Nat) (T : List SG), i + d = 11 → GInv (i : Int) T → PIr cs hs i T.reverse →
    ∃ G, GInv 11 G ∧ PIr cs hs 11 G.reverse ∧ Ev (fun k => spec_l10Groups.l0 k T (i : Int) cs hs) G := by
  obtain ⟨hc, hh, hv⟩ := tallyOk_iff.1 ok
  intro d
  induction d with
  | zero =>
    intro i T h0 hT hP
    obtain rfl : i = 11 := by omega
    exact ⟨T, hT, hP, ev_step (fun k => spec_l10Groups.l0.eq_2 _ _ _ _ k) (ev_ifn (by omega) (ev_some _))⟩
  | succ d ih =>
    intro i T h0 hT hP
    have hi : i < 11 := by omega
    obtain ⟨v1, v2, v3, v4⟩ := hv i hi
    have e1 := Aside0.mk (show wrap64 ((i : Int) + 1) = ((i + 1 : Nat) : Int) by rw [w64 (by omega) (by omega)]; rfl)
    have pc : pre cs (i + 1) = pre cs i + cs.getD i 0 := rfl
    have ph : pre hs (i + 1) = pre hs i + hs.getD i 0 := rfl
    by_cases h1 : cs.getD i 0 = 0
    · have hP' : PIr cs hs (i + 1) T.reverse := by
        cases hT2 : T.reverse with
        | nil =>
          rw [hT2] at hP
          obtain ⟨a1, a2, a3⟩ := hP
          exact ⟨by omega, by omega, by rw [nz, if_neg (fun h => h.2 h1)]; exact a3⟩
        | cons b U =>
          rw [hT2] at hP
          obtain ⟨F, f1, f2, f3, f4, f5, fz, f6, f7⟩ := hP
          exact ⟨F, f1, by omega, by omega, by omega, f5, ⟨by rw [nz, if_neg (fun h => h.2 h1)]; exact fz.1, fz.2⟩, f6, f7⟩
      obtain ⟨G, g1, g0, g2⟩ := ih (i + 1) T (by omega) (hT.more (by omega)) hP'
      refine ⟨G, g1, g0, ?_⟩
      refine ev_step (fun k => spec_l10Groups.l0.eq_2 _ _ _ _ k) (ev_ifp (by omega) (ev_ifp (by omega) ?_))
      rw [rd_nat, e1.out]
      exact ev_ifp h1 g2
    · obtain ⟨T', t1, t0, t2⟩ := pop_inv cs hs i hi T.length T ⟨[(i : Int)], cs.getD i 0, hs.getD i 0⟩ i rfl hT.ok ⟨by simp, by dsimp only; omega, v3, v4⟩ (by have := hT.sum; dsimp only; omega) (by have := hT.len; unfold len0; simp only [List.length_singleton]; unfold len0 at this; omega)
        hP (by simp) (by omega) (by dsimp only; omega) (by dsimp only; omega) ⟨by rw [nz_one, if_pos h1], h1⟩
      obtain ⟨G, g1, g0, g2⟩ := ih (i + 1) T' (by omega) t1 t0
      refine ⟨G, g1, g0, ?_⟩
      refine ev_step (fun k => spec_l10Groups.l0.eq_2 _ _ _ _ k) (ev_ifp (by omega) (ev_ifp (by omega) ?_))
      rw [rd_nat, rd_nat]
      exact ev_ifn h1 (ev_ifp (by omega) (t2 G g2))
def Fk (G : List SG) (i k : Nat) : Nat := if k < G.length then ((G.getD k z86).f0.getD 0 0).toNat else i
structure PI (cs hs : List Int) (i : Nat) (G : List SG) : Prop where
  first : ∀ k, k < G.length → (G.getD k z86).f0.getD 0 0 = (Fk G i k : Int)
  up : ∀ k, k < G.length → Fk G i k < Fk G i (k + 1)
  cases : ∀ k, k < G.length → (G.getD k z86).f1 = pre cs (Fk G i (k + 1)) - pre cs (Fk G i k)
  hits : ∀ k, k < G.length → (G.getD k z86).f2 = pre hs (Fk G i (k + 1)) - pre hs (Fk G i k)
  ok : ∀ k, k < G.length → GOk (G.getD k z86)
  ord : ∀ k, k + 1 < G.length → (G.getD k z86).f2 * (G.getD (k + 1) z86).f1 ≤ (G.getD (k + 1) z86).f2 * (G.getD k z86).f1
  rows : ∀ k, k < G.length → (G.getD k z86).f0 = nz cs (Fk G i k) (Fk G i (k + 1)) ∧ cs.getD (Fk G i k) 0 ≠ 0
  c0 : pre cs (Fk G i 0) = 0
  h0 : pre hs (Fk G i 0) = 0
  n0 : nz cs 0 (Fk G i 0) = []
theorem PI_of {cs hs : List Int} : ∀ (n i : Nat) (G : List SG), G.length = n → PIr cs hs i G.reverse → PI cs hs i G := by
  intro n
  induction n with
  | zero =>
    intro i G hn hP
    obtain rfl := List.length_eq_zero_iff.1 hn
    exact ⟨fun k h => absurd h (by simp), fun k h => absurd h (by simp), fun k h => absurd h (by simp), fun k h => absurd h (by simp), fun k h => absurd h (by simp), fun k h => absurd h (by simp), fun k h => absurd h (by simp), hP.1, hP.2.1, hP.2.2⟩
  | succ n ih =>
    intro i G hn hP
    have hne : G ≠ [] := fun e => by rw [e] at hn; simp at hn
    obtain ⟨U, b, rfl⟩ : ∃ U b, G = U ++ [b] := ⟨G.dropLast, G.getLast hne, (List.dropLast_concat_getLast hne).symm⟩
    have hU : U.length = n := by rw [List.length_append, List.length_singleton] at hn; omega
    rw [show (U ++ [b]).reverse = b :: U.reverse by simp] at hP
    obtain ⟨F, f1, f2, f3, f4, f5, fz, f6, f7⟩ := hP
    have I := ih F U hU f7
    have hl : (U ++ [b]).length = U.length + 1 := by simp
    have gb : (U ++ [b]).getD U.length z86 = b := by simp [List.getD]
    have gu : ∀ k, k < U.length → (U ++ [b]).getD k z86 = U.getD k z86 := fun k hk => by simp only [List.getD, List.getElem?_append_left hk]
    have fb : Fk (U ++ [b]) i U.length = F := by unfold Fk; rw [if_pos (by omega), gb, f1]; rfl
    have fu : ∀ k, k ≤ U.length → Fk (U ++ [b]) i k = Fk U F k := fun k hk => by
      by_cases h : k < U.length
      · unfold Fk; rw [if_pos (by omega), if_pos h, gu k h]
      · obtain rfl : k = U.length := by omega
        rw [fb]; unfold Fk; rw [if_neg (by omega)]
    have fi : Fk (U ++ [b]) i (U.length + 1) = i := by unfold Fk; rw [if_neg (by omega)]
    refine ⟨fun k hk => ?_, fun k hk => ?_, fun k hk => ?_, fun k hk => ?_, fun k hk => ?_, fun k hk => ?_, fun k hk => ?_, ?_, ?_, ?_⟩
    · by_cases h : k < U.length
      · rw [gu k h, fu k (by omega)]; exact I.first k h
      · obtain rfl : k = U.length := by omega
        rw [gb, fb]; exact f1
    · by_cases h : k < U.length
      · rw [fu k (by omega), fu (k + 1) (by omega)]; exact I.up k h
      · obtain rfl : k = U.length := by omega
        rw [fb, fi]; exact f2
    · by_cases h : k < U.length
      · rw [gu k h, fu k (by omega), fu (k + 1) (by omega)]; exact I.cases k h
      · obtain rfl : k = U.length := by omega
        rw [gb, fb, fi]; exact f3
    · by_cases h : k < U.length
      · rw [gu k h, fu k (by omega), fu (k + 1) (by omega)]; exact I.hits k h
      · obtain rfl : k = U.length := by omega
        rw [gb, fb, fi]; exact f4
    · by_cases h : k < U.length
      · rw [gu k h]; exact I.ok k h
      · obtain rfl : k = U.length := by omega
        rw [gb]; exact f5
    · by_cases h : k + 1 < U.length
      · rw [gu k (by omega), gu (k + 1) h]; exact I.ord k h
      · have e : U.length = k + 1 := by omega
        rw [gu k (by omega), show k + 1 = U.length from e.symm, gb]
        refine f6 _ ?_
        rw [List.head?_reverse, List.getLast?_eq_getElem?, show U.length - 1 = k by omega, getD_eq_get _ (show k < U.length by omega), List.getElem?_eq_getElem (show k < U.length by omega)]
    · by_cases h : k < U.length
      · rw [gu k h, fu k (by omega), fu (k + 1) (by omega)]; exact I.rows k h
      · obtain rfl : k = U.length := by omega
        rw [gb, fb, fi]; exact fz
    · rw [fu 0 (Nat.zero_le _)]; exact I.c0
    · rw [fu 0 (Nat.zero_le _)]; exact I.h0
    · rw [fu 0 (Nat.zero_le _)]; exact I.n0
theorem calib_inv {cs hs : List Int} (ok : tallyOk cs hs = true) {G : List SG} (hG : Ev (fun k => spec_l10Groups.f k cs hs) G) : GInv 11 G ∧ PI cs hs 11 G := by
  obtain ⟨G', g1, g2, g3⟩ := groups_inv ok 11 0 [] rfl ⟨fun s hs => absurd hs (by simp), by simp [sm], by simp [sm]⟩ ⟨rfl, rfl, rfl⟩
  have h3 : Ev (fun k => spec_l10Groups.f k cs hs) G' := by unfold spec_l10Groups.f; exact g3
  obtain rfl := ev_det hG h3
  exact ⟨g1, PI_of _ _ _ rfl g2⟩
section
variable {cs hs : List Int} {G : List SG} (ok : tallyOk cs hs = true) (hG : GInv 11 G) (I : PI cs hs 11 G) (h1 : 1 ≤ G.length)
include I
theorem Fk_lt {j k : Nat} (hjk : j < k) (hk : k ≤ G.length) : Fk G 11 j < Fk G 11 k := by
  induction k with
  | zero => omega
  | succ k ih =>
    have := I.up k (by omega)
    by_cases h : j = k
    · subst h; exact this
    · have := ih (by omega) (by omega); omega
theorem Fk_le {j k : Nat} (hjk : j ≤ k) (hk : k ≤ G.length) : Fk G 11 j ≤ Fk G 11 k := by
  by_cases h : j = k
  · subst h; exact Nat.le_refl _
  · exact Nat.le_of_lt (Fk_lt I (by omega) hk)
omit I in
theorem Fk_end : Fk G 11 G.length = 11 := by unfold Fk; rw [if_neg (by omega)]
theorem pkG_spec (c : Nat) : ∀ i, i ≤ G.length → (pkG G (c : Int) i = 0 ∨ Fk G 11 (pkG G (c : Int) i) ≤ c) ∧ ∀ j, pkG G (c : Int) i < j → j < i → c < Fk G 11 j
  | 0, _ => ⟨.inl rfl, fun j _ h => absurd h (by omega)⟩
  | i + 1, hi => by
    have ih := pkG_spec c i (by omega)
    have hf := I.first i (by omega)
    unfold pkG
    by_cases h : (G.getD i z86).f0.getD 0 0 ≤ (c : Int)
    · rw [if_pos h]
      exact ⟨.inr (by omega), fun j h1 h2 => absurd h1 (by omega)⟩
    · rw [if_neg h]
      refine ⟨ih.1, fun j h1 h2 => ?_⟩
      by_cases e : j = i
      · subst e; omega
      · exact ih.2 j h1 (by omega)
omit I in
def pk (G : List SG) (c : Nat) : Nat := pkG G (c : Int) G.length
include h1
omit I in
theorem pk_lt (c : Nat) : pk G c < G.length := pkG_lt G c G.length h1 (Nat.le_refl _)
omit h1 in
theorem pk_lo (c : Nat) (h : 0 < pk G c) : Fk G 11 (pk G c) ≤ c := by
  rcases (pkG_spec I c G.length (Nat.le_refl _)).1 with h2 | h2
  · unfold pk at h; omega
  · exact h2
theorem pk_eq (c k : Nat) (hk : k < G.length) (h2 : Fk G 11 k ≤ c) (h3 : c < Fk G 11 (k + 1)) : pk G c = k := by
  have hp := pk_lt h1 c
  have h4 := (pkG_spec I c G.length (Nat.le_refl _)).2
  by_cases h : pk G c < k
  · have := h4 k (by unfold pk at h; exact h) hk
    omega
  · by_cases h5 : k < pk G c
    · have := pk_lo I c (by omega)
      have := Fk_le I (j := k + 1) (k := pk G c) (by omega) (by omega)
      omega
    · omega
end
theorem shareN_mul (a b : Nat) : (shareN a b).1 * (b : Int) = (a : Int) * (shareN a b).2 := by
  have h1 : a / Nat.gcd a b * Nat.gcd a b = a := Nat.div_mul_cancel (Nat.gcd_dvd_left a b)
  have h2 : b / Nat.gcd a b * Nat.gcd a b = b := Nat.div_mul_cancel (Nat.gcd_dvd_right a b)
  have h3 : a / Nat.gcd a b * b = a * (b / Nat.gcd a b) := by
    generalize a / Nat.gcd a b = x at *
    generalize b / Nat.gcd a b = y at *
    generalize Nat.gcd a b = g at *
    subst h1 h2
    rw [Nat.mul_comm y g, Nat.mul_assoc]
  show ((a / Nat.gcd a b : Nat) : Int) * (b : Int) = (a : Int) * ((b / Nat.gcd a b : Nat) : Int)
  rw [← Int.natCast_mul, ← Int.natCast_mul, h3]
theorem shareN_bd (a b : Nat) (hb : 0 < b) : 0 ≤ (shareN a b).1 ∧ (shareN a b).1 ≤ (a : Int) ∧ 1 ≤ (shareN a b).2 ∧ (shareN a b).2 ≤ (b : Int) := by
  have h1 := Nat.div_le_self a (Nat.gcd a b)
  have h2 := Nat.div_le_self b (Nat.gcd a b)
  have h3 : 0 < b / Nat.gcd a b := Nat.div_pos (Nat.le_of_dvd hb (Nat.gcd_dvd_right a b)) (Nat.gcd_pos_of_pos_right a hb)
  unfold shareN
  dsimp only
  generalize a / Nat.gcd a b = x at *
  generalize b / Nat.gcd a b = y at *
  omega
section
variable {cs hs : List Int} {G : List SG} (hG : GInv 11 G) (I : PI cs hs 11 G) (h1 : 1 ≤ G.length)
include hG h1
end
theorem shareN_eq {a b c d : Nat} (hb : 0 < b) (hd : 0 < d) : shareN a b = shareN c d ↔ (a : Int) * (d : Int) = (c : Int) * (b : Int) := by
  constructor
  · intro h
    have m1 := shareN_mul a b
    have m2 := shareN_mul c d
    have bd := shareN_bd a b hb
    rw [← h] at m2
    generalize (shareN a b).1 = x at *
    generalize (shareN a b).2 = y at *
    have hy : 0 < y := by omega
    refine Int.eq_of_mul_eq_mul_right (show y ≠ 0 by omega) ?_
    calc (a : Int) * d * y = (a * y) * d := by ac_rfl
      _ = (x * b) * d := by rw [m1]
      _ = (x * d) * b := by ac_rfl
      _ = (c * y) * b := by rw [m2]
      _ = (c : Int) * b * y := by ac_rfl
  · intro h
    have h : a * d = c * b := by exact_mod_cast h
    have g : Nat.gcd a b * d = Nat.gcd c d * b := by
      rw [← Nat.gcd_mul_right, ← Nat.gcd_mul_right, h, Nat.mul_comm b d]
    have h1 : a / Nat.gcd a b * Nat.gcd a b = a := Nat.div_mul_cancel (Nat.gcd_dvd_left a b)
    have h2 : b / Nat.gcd a b * Nat.gcd a b = b := Nat.div_mul_cancel (Nat.gcd_dvd_right a b)
    have h3 : c / Nat.gcd c d * Nat.gcd c d = c := Nat.div_mul_cancel (Nat.gcd_dvd_left c d)
    have h4 : d / Nat.gcd c d * Nat.gcd c d = d := Nat.div_mul_cancel (Nat.gcd_dvd_right c d)
    have p1 : 0 < Nat.gcd a b := Nat.gcd_pos_of_pos_right a hb
    have p2 : 0 < Nat.gcd c d := Nat.gcd_pos_of_pos_right c hd
    unfold shareN
    generalize a / Nat.gcd a b = x at *
    generalize b / Nat.gcd a b = y at *
    generalize c / Nat.gcd c d = u at *
    generalize d / Nat.gcd c d = v at *
    generalize Nat.gcd a b = p at *
    generalize Nat.gcd c d = q at *
    have e1 : v = y := by
      refine Nat.eq_of_mul_eq_mul_right (Nat.mul_pos p1 p2) ?_
      calc v * (p * q) = p * (v * q) := by ac_rfl
        _ = p * d := by rw [h4]
        _ = q * b := g
        _ = q * (y * p) := by rw [h2]
        _ = y * (p * q) := by ac_rfl
    have hv : 0 < v := Nat.pos_of_ne_zero fun e => by rw [e, Nat.zero_mul] at h4; omega
    have e2 : x = u := by
      refine Nat.eq_of_mul_eq_mul_right (Nat.mul_pos (Nat.mul_pos p1 p2) hv) ?_
      calc x * (p * q * v) = (x * p) * (v * q) := by ac_rfl
        _ = a * d := by rw [h1, h4]
        _ = c * b := h
        _ = (u * q) * (y * p) := by rw [h3, h2]
        _ = u * (p * q * v) := by rw [e1]; ac_rfl
    rw [e1, e2]
instance shrDec (a b : SHR) : Decidable (a = b) := decidable_of_iff (a.f0 = b.f0 ∧ a.f1 = b.f1) ⟨fun h => by
  cases a
  cases b
  simp only at h
  rw [h.1, h.2], fun h => by rw [h]; exact ⟨rfl, rfl⟩⟩
def app1 (O : List (List Int)) (r : List Int) : List (List Int) := O.set (O.length - 1) (O.getD (O.length - 1) [] ++ r)
theorem app1_len (O : List (List Int)) (r : List Int) : (app1 O r).length = O.length := by simp [app1]
theorem app1_two (O : List (List Int)) (hO : 1 ≤ O.length) (r s : List Int) : app1 (app1 O r) s = app1 O (r ++ s) := by
  unfold app1
  have h : (O.set (O.length - 1) (O.getD (O.length - 1) [] ++ r)).getD (O.length - 1) [] = O.getD (O.length - 1) [] ++ r := by
    simp [List.getD, List.getElem?_set_self (show O.length - 1 < O.length by omega)]
  rw [List.length_set, h, List.set_set, List.append_assoc]
theorem app1_new (O : List (List Int)) (r s : List Int) : app1 (O ++ [r]) s = O ++ [r ++ s] := by
  unfold app1
  have e : (O ++ [r]).length - 1 = O.length := by simp
  rw [e]
  have h : (O ++ [r]).getD O.length [] = r := by simp [List.getD]
  rw [h]
  simp
theorem app1_big {O : List (List Int)} {m n : Nat} (h : ∀ s ∈ O, s.length ≤ m) {r : List Int} (hr : r.length ≤ n) : ∀ s ∈ app1 O r, s.length ≤ m + n := fun s hs => by
  rcases List.mem_or_eq_of_mem_set hs with h1 | h1
  · have := h s h1; omega
  · rw [h1, List.length_append]
    by_cases hO : O.length - 1 < O.length
    · have := h _ (List.getElem_mem hO)
      rw [getD_eq_get _ hO]
      omega
    · rw [show O.getD (O.length - 1) [] = [] by simp [List.getD, List.getElem?_eq_none (show O.length ≤ O.length - 1 by omega)]]
      simp
      omega
def stick (p : Bool) (O : List (List Int)) (r : List Int) : List (List Int) := if p then app1 O r else O ++ [r]
theorem stick_len (p : Bool) (O : List (List Int)) (r : List Int) (h : p = true → 1 ≤ O.length) : 1 ≤ (stick p O r).length ∧ (stick p O r).length ≤ O.length + 1 := by
  unfold stick
  cases p
  · simp
  · have := h rfl
    simp only [if_pos, app1_len]
    omega
theorem stick_app (p : Bool) (O : List (List Int)) (h : p = true → 1 ≤ O.length) (r s : List Int) : app1 (stick p O r) s = stick p O (r ++ s) := by
  unfold stick
  cases p
  · exact app1_new O r s
  · exact app1_two O (h rfl) r s
theorem stick_big {O : List (List Int)} {m n : Nat} (p : Bool) (h : ∀ s ∈ O, s.length ≤ m) {r : List Int} (hr : r.length ≤ n) : ∀ s ∈ stick p O r, s.length ≤ m + n := fun s hs => by
  unfold stick at hs
  cases p
  · rcases List.mem_append.1 hs with h1 | h1
    · have := h s h1; omega
    · rw [List.mem_singleton.1 h1]; omega
  · exact app1_big h hr s hs
abbrev gk (G : List SG) (k : Nat) : SG := G.getD k z86
def sameK (G : List SG) (k : Nat) : Bool := decide (0 < k) && decide ((gk G (k - 1)).f2 * (gk G k).f1 = (gk G k).f2 * (gk G (k - 1)).f1)
def joinG (G : List SG) : Nat → List (List Int)
  | 0 => []
  | k + 1 => stick (sameK G k) (joinG G k) (gk G k).f0
theorem joinG_len (G : List SG) : ∀ k, (joinG G k).length ≤ k ∧ (0 < k → 1 ≤ (joinG G k).length)
  | 0 => by simp [joinG]
  | k + 1 => by
    have h := joinG_len G k
    have := stick_len (sameK G k) (joinG G k) (gk G k).f0 (fun e => h.2 (by unfold sameK at e; simp at e; omega))
    unfold joinG
    omega
def stI (cs : List Int) (q : Nat → SHR) : Nat → List (List Int) × SHR
  | 0 => ([], z33)
  | c + 1 => if cs.getD c 0 = 0 then stI cs q c else (stick (decide (0 < (stI cs q c).1.length) && decide (q c = (stI cs q c).2)) (stI cs q c).1 [(c : Int)], q c)
theorem stI_len (cs : List Int) (q : Nat → SHR) : ∀ c, (stI cs q c).1.length ≤ c ∧ ∀ s ∈ (stI cs q c).1, s.length ≤ c
  | 0 => by simp [stI]
  | c + 1 => by
    have h := stI_len cs q c
    unfold stI
    by_cases hc : cs.getD c 0 = 0
    · rw [if_pos hc]
      exact ⟨by omega, fun s hs => by have := h.2 s hs; omega⟩
    · rw [if_neg hc]
      have l := stick_len (decide (0 < (stI cs q c).1.length) && decide (q c = (stI cs q c).2)) (stI cs q c).1 [(c : Int)] (fun e => by simp at e; omega)
      exact ⟨by dsimp only; omega, fun s hs => stick_big _ h.2 (show ([(c : Int)] : List Int).length ≤ 1 by simp) s hs⟩
section
variable {cs hs : List Int} {G : List SG} (hG : GInv 11 G) (I : PI cs hs 11 G)
include I
theorem share_at {k : Nat} (hk : k < G.length) (c : Nat) (h2 : Fk G 11 k ≤ c) (h3 : c < Fk G 11 (k + 1)) : shG G (c : Int) = ⟨(shareN (gk G k).f2.toNat (gk G k).f1.toNat).1, (shareN (gk G k).f2.toNat (gk G k).f1.toNat).2⟩ := by
  have h := pk_eq I (by omega) c k hk h2 h3
  unfold shG grp
  unfold pk at h
  rw [h]
theorem share_turn {j k : Nat} (hj : j < G.length) (hk : k < G.length) : shG G (Fk G 11 j : Int) = shG G (Fk G 11 k : Int) ↔ (gk G j).f2 * (gk G k).f1 = (gk G k).f2 * (gk G j).f1 := by
  have oj := I.ok j hj
  have ok := I.ok k hk
  have a1 := oj.a
  have b1 := oj.b
  have a2 := ok.a
  have b2 := ok.b
  rw [share_at I hj _ (Nat.le_refl _) (I.up j hj), share_at I hk _ (Nat.le_refl _) (I.up k hk)]
  have h := shareN_eq (a := (gk G j).f2.toNat) (b := (gk G j).f1.toNat) (c := (gk G k).f2.toNat) (d := (gk G k).f1.toNat) (by unfold gk; omega) (by unfold gk; omega)
  rw [Int.toNat_of_nonneg (show 0 ≤ (gk G j).f2 from b1), Int.toNat_of_nonneg (show 0 ≤ (gk G k).f2 from b2), Int.toNat_of_nonneg (show 0 ≤ (gk G j).f1 by unfold gk; omega), Int.toNat_of_nonneg (show 0 ≤ (gk G k).f1 by unfold gk; omega)] at h
  rw [← h]
  constructor
  · intro e
    injection e with e1 e2
    exact Prod.ext e1 e2
  · intro e
    rw [e]
def lastK (G : List SG) (k : Nat) : SHR := if k = 0 then z33 else shG G (Fk G 11 (k - 1) : Int)
theorem stI_low : ∀ c, c ≤ Fk G 11 0 → stI cs (fun c => shG G (c : Int)) c = ([], z33)
  | 0, _ => rfl
  | c + 1, h => by
    unfold stI
    rw [if_pos (nz_none cs 0 _ I.n0 c (Nat.zero_le _) (by omega))]
    exact stI_low c (by omega)
theorem stI_in {k : Nat} (hk : k < G.length) (h0 : stI cs (fun c => shG G (c : Int)) (Fk G 11 k) = (joinG G k, lastK G k)) :
    ∀ d, Fk G 11 k + 1 + d ≤ Fk G 11 (k + 1) → stI cs (fun c => shG G (c : Int)) (Fk G 11 k + 1 + d) = (stick (sameK G k) (joinG G k) (nz cs (Fk G 11 k) (Fk G 11 k + 1 + d)), shG G (Fk G 11 k : Int))
  | 0, h => by
    have hr := (I.rows k hk).2
    have hl := joinG_len G k
    have e : stI cs (fun c => shG G (c : Int)) (Fk G 11 k + 1 + 0) = if cs.getD (Fk G 11 k) 0 = 0 then stI cs (fun c => shG G (c : Int)) (Fk G 11 k) else (stick (decide (0 < (stI cs (fun c => shG G (c : Int)) (Fk G 11 k)).1.length) && decide (shG G (Fk G 11 k : Int) = (stI cs (fun c => shG G (c : Int)) (Fk G 11 k)).2)) (stI cs (fun c => shG G (c : Int)) (Fk G 11 k)).1 [(Fk G 11 k : Int)], shG G (Fk G 11 k : Int)) := rfl
    rw [e, if_neg hr, h0, Nat.add_zero, nz_one, if_pos hr]
    have ec : (decide (0 < (joinG G k).length) && decide (shG G (Fk G 11 k : Int) = lastK G k)) = sameK G k := by
      by_cases hk0 : k = 0
      · subst hk0
        simp [joinG, sameK]
      · have h1 := hl.2 (by omega)
        unfold sameK lastK
        rw [if_neg hk0, decide_eq_true (show 0 < (joinG G k).length by omega), decide_eq_true (show 0 < k by omega), Bool.true_and, Bool.true_and]
        have ht := share_turn I (j := k - 1) (k := k) (by omega) hk
        by_cases hs : shG G (Fk G 11 (k - 1) : Int) = shG G (Fk G 11 k : Int)
        · rw [decide_eq_true hs.symm, decide_eq_true (ht.1 hs)]
        · rw [decide_eq_false (fun e => hs e.symm), decide_eq_false (fun e => hs (ht.2 e))]
    dsimp only
    rw [ec]
  | d + 1, h => by
    have ih := stI_in hk h0 d (by omega)
    have hj := joinG_len G k
    have hp : sameK G k = true → 1 ≤ (joinG G k).length := fun e => hj.2 (by unfold sameK at e; simp at e; omega)
    generalize hb : Fk G 11 k + 1 + d = b at *
    have e : stI cs (fun c => shG G (c : Int)) (Fk G 11 k + 1 + (d + 1)) = if cs.getD b 0 = 0 then stI cs (fun c => shG G (c : Int)) b else (stick (decide (0 < (stI cs (fun c => shG G (c : Int)) b).1.length) && decide (shG G (b : Int) = (stI cs (fun c => shG G (c : Int)) b).2)) (stI cs (fun c => shG G (c : Int)) b).1 [(b : Int)], shG G (b : Int)) := by
      rw [show Fk G 11 k + 1 + (d + 1) = b + 1 by omega]; rfl
    have en : nz cs (Fk G 11 k) (Fk G 11 k + 1 + (d + 1)) = if Fk G 11 k ≤ b ∧ cs.getD b 0 ≠ 0 then nz cs (Fk G 11 k) b ++ [(b : Int)] else nz cs (Fk G 11 k) b := by
      rw [show Fk G 11 k + 1 + (d + 1) = b + 1 by omega]; rfl
    have es : shG G (b : Int) = shG G (Fk G 11 k : Int) := by
      rw [share_at I hk _ (by omega) (by omega), share_at I hk _ (Nat.le_refl _) (I.up k hk)]
    rw [e, en, ih]
    by_cases hc : cs.getD b 0 = 0
    · rw [if_pos hc, if_neg (fun h => h.2 hc)]
    · rw [if_neg hc, if_pos ⟨by omega, hc⟩, es]
      have l := stick_len (sameK G k) (joinG G k) (nz cs (Fk G 11 k) b) hp
      dsimp only
      rw [decide_eq_true (show 0 < (stick (sameK G k) (joinG G k) (nz cs (Fk G 11 k) b)).length by omega), decide_eq_true rfl, ← stick_app _ _ hp]
      rfl
theorem stI_join : ∀ k, k ≤ G.length → stI cs (fun c => shG G (c : Int)) (Fk G 11 k) = (joinG G k, lastK G k)
  | 0, _ => stI_low I _ (Nat.le_refl _)
  | k + 1, h => by
    have hu := I.up k (by omega)
    have h2 := stI_in I (by omega) (stI_join k (by omega)) (Fk G 11 (k + 1) - (Fk G 11 k + 1)) (by omega)
    rw [show Fk G 11 k + 1 + (Fk G 11 (k + 1) - (Fk G 11 k + 1)) = Fk G 11 (k + 1) by omega] at h2
    rw [h2]
    have ej : joinG G (k + 1) = stick (sameK G k) (joinG G k) (gk G k).f0 := rfl
    rw [ej]
    unfold lastK
    rw [if_neg (by omega), Nat.add_sub_cancel, show (gk G k).f0 = _ from (I.rows k (by omega)).1]
include hG
theorem one_bd {k : Nat} (hk : k < G.length) : 1 ≤ (gk G k).f1 ∧ (gk G k).f1 ≤ 11000 ∧ 0 ≤ (gk G k).f2 ∧ (gk G k).f2 ≤ 11000 ∧ (gk G k).f0.length ≤ 11 := by
  have o := I.ok k hk
  have hm : gk G k ∈ G := by unfold gk; rw [getD_eq_get _ hk]; exact List.getElem_mem hk
  have s1 := sm_mem (h := fun s : SG => s.f1) (fun s hs => by have := (hG.ok s hs).a; omega) hm
  have s2 := sm_mem (h := len0) (fun s hs => by unfold len0; omega) hm
  have a := hG.sum
  have b := hG.len
  have oa := o.a
  have ob := o.b
  have oc := o.c
  unfold len0 at s2 b
  unfold gk at *
  omega
theorem joinG_big : ∀ k, k ≤ G.length → ∀ s ∈ joinG G k, s.length ≤ 11 * k
  | 0, _, s, h => absurd h (by simp [joinG])
  | k + 1, hk, s, h => by
    have := stick_big (sameK G k) (joinG_big k (by omega)) (one_bd hG I (show k < G.length by omega)).2.2.2.2 s h
    omega
theorem groups_spec : Ev (fun k => spec_GroupsOf.l0 k [] G 0) (joinG G G.length, true) := by
  have hs := G_short hG
  have h := loop_ev (σ := Unit) (fun k _ i => spec_GroupsOf.l0 k (joinG G i) G (i : Int)) G.length (fun _ _ => ()) (fun _ => (joinG G G.length, true)) (fun _ _ => True)
    (fun i s r _ hi hr => by
      have hj := joinG_len G i
      have bi := one_bd hG I hi
      have e3 := Aside0.mk (show wrap64 ((i : Int) + 1) = ((i + 1 : Nat) : Int) by rw [w64 (by omega) (by omega)]; rfl)
      have ej : joinG G (i + 1) = stick (sameK G i) (joinG G i) (gk G i).f0 := rfl
      refine ev_step (fun k => spec_GroupsOf.l0.eq_2 _ _ _ k) (ev_ifp (by omega) ?_)
      rw [ej] at hr
      by_cases h0 : 0 < i
      · have bp := one_bd hG I (show i - 1 < G.length by omega)
        have e1 := Aside0.mk (show wrap64 ((i : Int) - 1) = ((i - 1 : Nat) : Int) by rw [w64 (by omega) (by omega)]; omega)
        have e2 := Aside0.mk (show wrap64 (((joinG G i).length : Int) - 1) = (((joinG G i).length - 1 : Nat) : Int) by rw [w64 (by omega) (by omega)]; omega)
        have p1 := prod_bd (a := (gk G (i - 1)).f2) (b := (gk G i).f1) (by omega) (by omega) (by omega) (by omega)
        have p2 := prod_bd (a := (gk G i).f2) (b := (gk G (i - 1)).f1) (by omega) (by omega) (by omega) (by omega)
        refine ev_ifp (by omega) ?_
        rw [e1.out, e2.out, e3.out, rdsg, rdsg]
        rw [show wrap64 ((G.getD (i - 1) z86).f2 * (G.getD i z86).f1) = (gk G (i - 1)).f2 * (gk G i).f1 from w64 (by unfold gk at p1; omega) (by unfold gk at p1; omega)]
        rw [show wrap64 ((G.getD i z86).f2 * (G.getD (i - 1) z86).f1) = (gk G i).f2 * (gk G (i - 1)).f1 from w64 (by unfold gk at p2; omega) (by unfold gk at p2; omega)]
        refine ev_ifp (by omega) (ev_ifp (by omega) (ev_ifp (by omega) ?_))
        by_cases hc : (gk G (i - 1)).f2 * (gk G i).f1 = (gk G i).f2 * (gk G (i - 1)).f1
        · have hl := hj.2 h0
          have hb : ((joinG G i).getD ((joinG G i).length - 1) []).length ≤ 11 * i := by
            rw [getD_eq_get _ (show (joinG G i).length - 1 < (joinG G i).length by omega)]
            exact joinG_big hG I i (by omega) _ (List.getElem_mem _)
          have er : rd_L3 (joinG G i) (((joinG G i).length - 1 : Nat) : Int) = (joinG G i).getD ((joinG G i).length - 1) [] := by simp [rd_L3]
          rw [er]
          refine ev_ifp hc (ev_ifp (by omega) (ev_ifp (by omega) (ev_ifp (by have := bi.2.2.2.2; unfold gk at this; omega) ?_)))
          rw [Int.toNat_natCast]
          have es : sameK G i = true := by unfold sameK; rw [decide_eq_true h0, decide_eq_true hc]; rfl
          rw [es] at hr
          exact hr
        · have es : sameK G i = false := by unfold sameK; rw [decide_eq_false hc, Bool.and_false]
          rw [es] at hr
          exact ev_ifn hc (ev_bind (ev_const (l1Own_is4 _ (by have := bi.2.2.2.2; unfold gk at this; omega))) (ev_ifp (by omega) hr))
      · have es : sameK G i = false := by unfold sameK; rw [decide_eq_false h0, Bool.false_and]
        rw [es] at hr
        refine ev_ifn (by omega) (ev_ifp (by omega) ?_)
        rw [rdsg, e3.out]
        exact ev_bind (ev_const (l1Own_is4 _ (by have := bi.2.2.2.2; unfold gk at this; omega))) (ev_ifp (by omega) hr))
    (fun _ _ _ _ => trivial)
    (fun s _ => ev_step (fun k => spec_GroupsOf.l0.eq_2 _ _ _ k) (ev_ifn (by omega) (ev_some _))) 0 () (Nat.zero_le _) trivial
  exact h
end
theorem rdsh (xs : List SHR) (i : Nat) : rd_T33 xs (i : Int) = xs.getD i z33 := by simp [rd_T33]
theorem groups_impl (cs hs : List Int) (q : Nat → SHR) (hc : cs.length = 11) : Ev (fun k => impl_GroupsOf.l0 k [] (tab 11 q) 11 0 cs hs 0 0) ((stI cs q 11).1, true) := by
  have h := loop_ev (σ := Unit) (fun k _ i => impl_GroupsOf.l0 k (stI cs q i).1 (tab 11 q) 11 (i : Int) cs hs (stI cs q i).2.f0 (stI cs q i).2.f1) 11 (fun _ _ => ()) (fun _ => ((stI cs q 11).1, true)) (fun _ _ => True)
    (fun i s r _ hi hr => by
      have hl := stI_len cs q i
      have e3 := Aside0.mk (show wrap64 ((i : Int) + 1) = ((i + 1 : Nat) : Int) by rw [w64 (by omega) (by omega)]; rfl)
      have ej : stI cs q (i + 1) = if cs.getD i 0 = 0 then stI cs q i else (stick (decide (0 < (stI cs q i).1.length) && decide (q i = (stI cs q i).2)) (stI cs q i).1 [(i : Int)], q i) := rfl
      rw [ej] at hr
      refine ev_step (fun k => impl_GroupsOf.l0.eq_2 _ _ _ _ _ _ _ _ k) (ev_ifp (by omega) (ev_ifp (by omega) (ev_ifp (by rw [tab_length]; omega) (ev_ifp (by omega) ?_))))
      rw [rd_nat, e3.out, rdsh, tab_getD _ _ _ hi]
      by_cases h0 : cs.getD i 0 = 0
      · rw [if_pos h0] at hr
        exact ev_ifp h0 hr
      · rw [if_neg h0] at hr
        refine ev_ifn h0 ?_
        by_cases hn : 0 < (stI cs q i).1.length
        · refine ev_ifp (by omega) ?_
          by_cases hq : q i = (stI cs q i).2
          · have e2 := Aside0.mk (show wrap64 (((stI cs q i).1.length : Int) - 1) = (((stI cs q i).1.length - 1 : Nat) : Int) by rw [w64 (by omega) (by omega)]; omega)
            have hb : ((stI cs q i).1.getD ((stI cs q i).1.length - 1) []).length ≤ i := by
              rw [getD_eq_get _ (show (stI cs q i).1.length - 1 < (stI cs q i).1.length by omega)]
              exact hl.2 _ (List.getElem_mem _)
            have er : rd_L3 (stI cs q i).1 (((stI cs q i).1.length - 1 : Nat) : Int) = (stI cs q i).1.getD ((stI cs q i).1.length - 1) [] := by simp [rd_L3]
            rw [decide_eq_true hn, decide_eq_true hq] at hr
            rw [e2.out, er, Int.toNat_natCast]
            refine ev_ifp (by rw [hq]; simp) (ev_ifp (by omega) (ev_ifp (by omega) (ev_ifp (by omega) ?_)))
            exact hr
          · have hq2 : ¬ ((q i).f0 == (stI cs q i).2.f0 && ((q i).f1 == (stI cs q i).2.f1)) = true := fun e => hq (by
              simp only [Bool.and_eq_true, beq_iff_eq] at e
              cases hx : q i
              cases hy : (stI cs q i).2
              rw [hx, hy] at e
              simp only at e
              rw [e.1, e.2])
            rw [decide_eq_false hq, Bool.and_false] at hr
            exact ev_ifn hq2 (ev_ifp (by omega) hr)
        · rw [decide_eq_false hn, Bool.false_and] at hr
          exact ev_ifn (by omega) (ev_ifp (by omega) hr))
    (fun _ _ _ _ => trivial)
    (fun s _ => ev_step (fun k => impl_GroupsOf.l0.eq_2 _ _ _ _ _ _ _ _ k) (ev_ifn (by omega) (ev_some _))) 0 () (Nat.zero_le _) trivial
  exact h
theorem groupsOf_both (c h : List Int) : ∃ r : List (List Int) × Bool, Ev (fun k => spec_GroupsOf.f k c h) r ∧ Ev (fun k => impl_GroupsOf.f k c h) r ∧ r.1.length ≤ 11 ∧ ∀ s ∈ r.1, s.length ≤ 11 := by
  have g1 := l10Good_ev c h
  have g2 := isValidTally_ev c h
  unfold spec_GroupsOf.f impl_GroupsOf.f
  cases ok : tallyOk c h with
  | false =>
    rw [ok] at g1 g2
    exact ⟨([], false), ev_bind (ev_some _) (ev_bind g1 (ev_ifn (by simp) (ev_some _))), ev_bind g2 (ev_ifn (by simp) (ev_some _)), by simp, by simp⟩
  | true =>
    rw [ok] at g1 g2
    obtain ⟨G, hG, hs, hcal⟩ := calib_both ok
    obtain ⟨hG2, I⟩ := calib_inv ok hs
    have hsp := groups_spec hG I
    rcases hcal with ⟨rfl, h1, h2⟩ | ⟨hl, h1, h2⟩
    · exact ⟨([], true), ev_bind (ev_some _) (ev_bind g1 (ev_ifp rfl (ev_bind hs hsp))), ev_bind g2 (ev_ifp rfl (ev_bind h2 (ev_ifn (by simp) (ev_some _)))), by simp, by simp⟩
    · have hj := stI_join I G.length (Nat.le_refl _)
      rw [Fk_end] at hj
      have hi := groups_impl c h (fun c => shG G (c : Int)) (tallyOk_iff.1 ok).1
      have hb := stI_len c (fun c => shG G (c : Int)) 11
      rw [hj] at hi hb
      refine ⟨(joinG G G.length, true), ev_bind (ev_some _) (ev_bind g1 (ev_ifp rfl (ev_bind hs hsp))), ev_bind g2 (ev_ifp rfl (ev_bind h2 (ev_ifp rfl ?_))), hb.1, hb.2⟩
      dsimp only
      rw [tab_length]
      exact hi
def cnt (a : Int) (n : Nat) : List Int := (List.range n).map (fun i : Nat => a + (i : Int))
theorem cnt_length (a : Int) (n : Nat) : (cnt a n).length = n := by simp [cnt]
theorem cnt_getD (a : Int) (n i : Nat) (h : i < n) : (cnt a n).getD i 0 = a + i := by simp [cnt, List.getD, h]
theorem markIntS_ev (l : List Int) (a : Int) (h0 : 0 ≤ a) (h1 : a + l.length ≤ 9223372036854775806) : Ev (fun k => laws_markIntS.f k l a) (a + l.length, cnt a l.length) := by
  have h := loop_ev (fun k s i => laws_markIntS.l0 k s (a + (i : Int)) (i : Int)) l.length (fun i s => s.set i (a + i)) (fun s => (a + (l.length : Int), s))
    (fun i s => s.length = l.length ∧ ∀ j, j < i → s.getD j 0 = a + j)
    (fun i s r hI hi h => ev_step (fun k => by
      show laws_markIntS.l0 (k + 1) s (a + (i : Int)) (i : Int) = laws_markIntS.l0 k (s.set i (a + i)) (a + ((i + 1 : Nat) : Int)) ((i + 1 : Nat) : Int)
      have := hI.1
      simp only [laws_markIntS.l0]
      rw [if_pos (by omega), if_pos (by omega), w64 (by omega) (by omega), w64 (by omega) (by omega)]
      simp [Int.add_assoc]) h)
    (fun i s hI hi => ⟨by simp [hI.1], fun j hj => by
      by_cases e : j = i
      · subst e
        have := hI.1
        simp [List.getD, List.getElem?_set_self (show j < s.length by omega)]
      · have := hI.2 j (by omega)
        rw [← this]
        simp [List.getD, List.getElem?_set_ne (Ne.symm e)]⟩)
    (fun s hI => ev_step (f := fun _ => some (a + (l.length : Int), s)) (fun k => by
      have := hI.1
      simp only [laws_markIntS.l0]
      rw [if_neg (by omega)]) (ev_some _)) 0 l (Nat.zero_le _) ⟨rfl, fun j hj => by omega⟩
  have e : iter (fun i (s : List Int) => s.set i (a + i)) 0 (l.length - 0) l = cnt a l.length := by
    have hi := iter_inv (fun i (s : List Int) => s.set i (a + i)) (fun i s => s.length = l.length ∧ ∀ j, j < i → s.getD j 0 = a + j) l.length
      (fun i s hI hi => ⟨by simp [hI.1], fun j hj => by
        by_cases e : j = i
        · subst e
          have := hI.1
          simp [List.getD, List.getElem?_set_self (show j < s.length by omega)]
        · have := hI.2 j (by omega)
          rw [← this]
          simp [List.getD, List.getElem?_set_ne (Ne.symm e)]⟩) (l.length - 0) 0 l (by omega) ⟨rfl, fun j hj => by omega⟩
    exact eq_index 0 (by rw [hi.1, cnt_length]) (fun j hj => by rw [hi.2 j (by have := hi.1; omega), cnt_getD a _ j (by have := hi.1; omega)])
  rw [e] at h
  refine Ev.congr (fun k => ?_) h
  unfold laws_markIntS.f
  simp
theorem heldIntS_ev (a : Int) (n : Nat) (h0 : 0 ≤ a) (h1 : a + n ≤ 9223372036854775806) : Ev (fun k => laws_heldIntS.f k (cnt a n) a) (a + n) := by
  have h := loop_ev (σ := Unit) (fun k _ i => laws_heldIntS.l0 k (cnt a n) (a + (i : Int)) (i : Int)) n (fun _ _ => ()) (fun _ => a + (n : Int)) (fun _ _ => True)
    (fun i s r _ hi h => ev_step (fun k => by
      show laws_heldIntS.l0 (k + 1) (cnt a n) (a + (i : Int)) (i : Int) = laws_heldIntS.l0 k (cnt a n) (a + ((i + 1 : Nat) : Int)) ((i + 1 : Nat) : Int)
      simp only [laws_heldIntS.l0, cnt_length, rd_nat, cnt_getD a n i hi]
      rw [if_pos (by omega), if_pos (by omega), if_pos trivial, w64 (by omega) (by omega), w64 (by omega) (by omega)]
      simp [Int.add_assoc]) h)
    (fun _ _ _ _ => trivial)
    (fun _ _ => ev_step (f := fun _ => some (a + (n : Int))) (fun k => by
      simp only [laws_heldIntS.l0, cnt_length]
      rw [if_neg (by omega)]) (ev_some _)) 0 () (Nat.zero_le _) trivial
  refine Ev.congr (fun k => ?_) h
  unfold laws_heldIntS.f
  simp
theorem toIntS_ev (xs : List Int) (hm : xs.length ≤ 35184372088832) : Ev (fun k => laws_toIntS.f k xs) xs := by
  have h := loop_ev (fun k ys i => laws_toIntS.l0 k xs ys (i : Int)) xs.length (fun i ys => ys.set i (xs.getD i 0)) (fun ys => ys)
    (fun i ys => ys.length = xs.length ∧ ∀ j, j < i → ys.getD j 0 = xs.getD j 0)
    (fun i ys r hI hi h => ev_step (fun k => by
      show laws_toIntS.l0 (k + 1) xs ys (i : Int) = laws_toIntS.l0 k xs (ys.set i (xs.getD i 0)) ((i + 1 : Nat) : Int)
      have hl := hI.1
      simp only [laws_toIntS.l0]
      rw [if_pos (by omega), if_pos (by omega), if_pos (by omega), w64 (by omega) (by omega), rd_nat]
      simp) h)
    (fun i ys hI hi => ⟨by simp [hI.1], fun j hj => by
      by_cases e : j = i
      · subst e
        have := hI.1
        simp [List.getD, List.getElem?_set_self (show j < ys.length by omega)]
      · have := hI.2 j (by omega)
        rw [← this]
        simp [List.getD, List.getElem?_set_ne (Ne.symm e)]⟩)
    (fun ys hI => ev_step (f := fun _ => some ys) (fun k => by
      simp only [laws_toIntS.l0]
      rw [if_neg (by omega)]) (ev_some _)) 0 (List.replicate xs.length 0) (Nat.zero_le _) ⟨by simp, fun j hj => by omega⟩
  have e : iter (fun i (ys : List Int) => ys.set i (xs.getD i 0)) 0 (xs.length - 0) (List.replicate xs.length 0) = xs := by
    have hi := iter_inv (fun i (ys : List Int) => ys.set i (xs.getD i 0)) (fun i ys => ys.length = xs.length ∧ ∀ j, j < i → ys.getD j 0 = xs.getD j 0) xs.length
      (fun i ys hI hi => ⟨by simp [hI.1], fun j hj => by
        by_cases e : j = i
        · subst e
          have := hI.1
          simp [List.getD, List.getElem?_set_self (show j < ys.length by omega)]
        · have := hI.2 j (by omega)
          rw [← this]
          simp [List.getD, List.getElem?_set_ne (Ne.symm e)]⟩) (xs.length - 0) 0 (List.replicate xs.length 0) (by omega) ⟨by simp, fun j hj => by omega⟩
    exact eq_index 0 hi.1 (fun j hj => hi.2 j (by have := hi.1; omega))
  rw [e] at h
  refine Ev.congr (fun k => ?_) h
  unfold laws_toIntS.f
  rw [if_pos (by omega), if_pos (by omega)]
  simp
theorem eqIntS_ev (xs ys : List Int) (hm : xs.length ≤ 9223372036854775806) : Ev (fun k => laws_eqIntS.f k xs ys) (decide (xs = ys)) := by
  by_cases hl : xs.length = ys.length
  · have h := allb_ev (fun k i => laws_eqIntS.l0 k xs ys (i : Int)) xs.length (fun i => decide (xs.getD i 0 = ys.getD i 0))
      (fun i r hi hp h => ev_step (fun k => by
        simp only [laws_eqIntS.l0]
        rw [if_pos (by omega), if_pos (by omega), if_pos (by omega), rd_nat, rd_nat, if_pos (by simpa using hp), w64 (by omega) (by omega)]
        rfl) h)
      (fun i hi hp => ev_step (f := fun _ => some false) (fun k => by
        simp only [laws_eqIntS.l0]
        rw [if_pos (by omega), if_pos (by omega), if_pos (by omega), rd_nat, rd_nat, if_neg (by simpa using hp)]) (ev_some _))
      (ev_step (f := fun _ => some true) (fun k => by
        simp only [laws_eqIntS.l0]
        rw [if_neg (by omega)]) (ev_some _))
    rw [rall_eq 0 hl] at h
    refine Ev.congr (fun k => ?_) h
    unfold laws_eqIntS.f
    rw [if_pos (by omega)]
    rfl
  · refine Ev.congr (f := fun _ => some false) (fun k => ?_) (by rw [decide_eq_false (fun e => hl (by rw [e]))]; exact ev_some _)
    unfold laws_eqIntS.f
    rw [if_neg (by omega)]
theorem eqIntS_self (xs : List Int) (hm : xs.length ≤ 9223372036854775806) : Ev (fun k => laws_eqIntS.f k xs xs) true := by
  have := eqIntS_ev xs xs hm
  simpa using this
theorem rdl3 (xs : List (List Int)) (i : Nat) : rd_L3 xs (i : Int) = xs.getD i [] := by simp [rd_L3]
theorem eqIntSS_self (l : List (List Int)) (hl : l.length ≤ 1048576) (hs : ∀ s ∈ l, s.length ≤ 1048576) : Ev (fun k => laws_eqIntSS.f k l l) true := by
  have h := loop_ev (σ := Unit) (fun k _ i => laws_eqIntSS.l0 k l l (i : Int)) l.length (fun _ _ => ()) (fun _ => true) (fun _ _ => True)
    (fun i s r _ hi hr => by
      have e3 := Aside0.mk (show wrap64 ((i : Int) + 1) = ((i + 1 : Nat) : Int) by rw [w64 (by omega) (by omega)]; rfl)
      have hb : (l.getD i []).length ≤ 1048576 := by rw [getD_eq_get _ hi]; exact hs _ (List.getElem_mem hi)
      refine ev_step (fun k => laws_eqIntSS.l0.eq_2 _ _ _ k) (ev_ifp (by omega) (ev_ifp (by omega) (ev_ifp (by omega) ?_)))
      rw [rdl3, e3.out]
      exact ev_bind (eqIntS_self _ (by omega)) (ev_ifp rfl hr))
    (fun _ _ _ _ => trivial)
    (fun s _ => ev_step (fun k => laws_eqIntSS.l0.eq_2 _ _ _ k) (ev_ifn (by omega) (ev_some _))) 0 () (Nat.zero_le _) trivial
  unfold laws_eqIntSS.f
  exact ev_ifp rfl h
def mrAt (l : List (List Int)) : Nat → Int
  | 0 => 1
  | i + 1 => mrAt l i + ((l.getD i []).length : Int)
theorem mrAt_bd {l : List (List Int)} (hs : ∀ i, (l.getD i []).length ≤ 1048576) : ∀ i : Nat, 1 ≤ mrAt l i ∧ mrAt l i ≤ 1 + 1048576 * (i : Int)
  | 0 => by unfold mrAt; omega
  | i + 1 => by
    have h := mrAt_bd hs i
    have := hs i
    unfold mrAt
    omega
theorem markHeldIntSS (l : List (List Int)) (hl : l.length ≤ 1048576) (hs : ∀ x ∈ l, x.length ≤ 1048576) : ∃ r : Int × List (List Int), Ev (fun k => laws_markIntSS.f k l 1) r ∧ Ev (fun k => laws_heldIntSS.f k r.2 1) r.1 ∧ 0 ≤ r.1 := by
  have hsz : ∀ i, (l.getD i []).length ≤ 1048576 := fun i => by
    by_cases hi : i < l.length
    · rw [getD_eq_get _ hi]
      exact hs _ (List.getElem_mem hi)
    · simp [List.getD, List.getElem?_eq_none (show l.length ≤ i by omega)]
  have hb := mrAt_bd hsz
  have h1 : Ev (fun k => laws_markIntSS.l0 k l 1 0) (mrAt l l.length, tab l.length (fun i => cnt (mrAt l i) (l.getD i []).length)) := by
    have h := loop_ev (fun k (s : List (List Int)) i => laws_markIntSS.l0 k s (mrAt l i) (i : Int)) l.length (fun i s => s.set i (cnt (mrAt l i) (l.getD i []).length)) (fun s => (mrAt l l.length, s)) (fun i s => s.length = l.length ∧ ∀ j, i ≤ j → s.getD j [] = l.getD j [])
      (fun i s r hI hi hr => by
        obtain ⟨i1, i2⟩ := hI
        have b := hb i
        have bl := hsz i
        have e0 : Go.Proofs.Ytjicgmcogadleaa.P.rowAt s (i : Int) = l.getD i [] := by rw [← i2 i (Nat.le_refl _)]; simp [Go.Proofs.Ytjicgmcogadleaa.P.rowAt]
        have e3 := Aside0.mk (show wrap64 ((i : Int) + 1) = ((i + 1 : Nat) : Int) by rw [w64 (by omega) (by omega)]; rfl)
        refine ev_step (fun k => laws_markIntSS.l0.eq_2 _ _ _ k) (ev_ifp (by omega) (ev_ifp (by omega) ?_))
        rw [e0, e3.out, Int.toNat_natCast]
        exact ev_bind (markIntS_ev (l.getD i []) (mrAt l i) (by omega) (by omega)) hr)
      (fun i s hI hi => ⟨by rw [List.length_set]; exact hI.1, fun j hj => by rw [List.getD, List.getElem?_set_ne (by omega)]; exact hI.2 j (by omega)⟩)
      (fun s hI => ev_step (fun k => laws_markIntSS.l0.eq_2 _ _ _ k) (ev_ifn (by have := hI.1; omega) (ev_some _))) 0 l (Nat.zero_le _) ⟨rfl, fun _ _ => rfl⟩
    rw [Nat.sub_zero, iter_set_tab [] (fun i => cnt (mrAt l i) (l.getD i []).length) l.length l rfl] at h
    exact h
  have h2 : Ev (fun k => laws_heldIntSS.l0 k (tab l.length (fun i => cnt (mrAt l i) (l.getD i []).length)) 1 0) (mrAt l l.length) := by
    have h := loop_ev (σ := Unit) (fun k _ i => laws_heldIntSS.l0 k (tab l.length (fun i => cnt (mrAt l i) (l.getD i []).length)) (mrAt l i) (i : Int)) l.length (fun _ _ => ()) (fun _ => mrAt l l.length) (fun _ _ => True)
      (fun i s r _ hi hr => by
        have b := hb i
        have bl := hsz i
        have e0 : rd_L3 (tab l.length (fun i => cnt (mrAt l i) (l.getD i []).length)) (i : Int) = cnt (mrAt l i) (l.getD i []).length := by rw [rdl3, tab_getD _ _ _ hi]
        have e3 := Aside0.mk (show wrap64 ((i : Int) + 1) = ((i + 1 : Nat) : Int) by rw [w64 (by omega) (by omega)]; rfl)
        refine ev_step (fun k => laws_heldIntSS.l0.eq_2 _ _ _ k) (ev_ifp (by rw [tab_length]; omega) (ev_ifp (by omega) ?_))
        rw [e0, e3.out]
        exact ev_bind (heldIntS_ev (mrAt l i) (l.getD i []).length (by omega) (by omega)) (ev_ifn (by omega) hr))
      (fun _ _ _ _ => trivial)
      (fun s _ => ev_step (fun k => laws_heldIntSS.l0.eq_2 _ _ _ k) (ev_ifn (by rw [tab_length]; omega) (ev_some _))) 0 () (Nat.zero_le _) trivial
    exact h
  exact ⟨(mrAt l l.length, tab l.length (fun i => cnt (mrAt l i) (l.getD i []).length)), h1, h2, by have := hb l.length; dsimp only; omega⟩
theorem toTally_ev (c h : List Int) (hc : c.length ≤ 35184372088832) (hh : h.length ≤ 35184372088832) : Ev (fun k => laws_toTally.f k c h) (c, h) :=
  ev_bind (toIntS_ev c hc) (ev_bind (toIntS_ev h hh) (ev_some _))
theorem eqTally_ev (c h c' h' : List Int) (hc : c.length ≤ 9223372036854775806) (hh : h.length ≤ 9223372036854775806) : Ev (fun k => laws_eqTally.f k c h c' h') (decide (c = c') && decide (h = h')) := by
  unfold laws_eqTally.f
  refine ev_bind (eqIntS_ev c c' hc) ?_
  by_cases e : c = c'
  · rw [decide_eq_true e, Bool.true_and]
    refine ev_ifp rfl (ev_bind (eqIntS_ev h h' hh) ?_)
    by_cases e' : h = h'
    · rw [decide_eq_true e']; exact ev_ifp rfl (ev_some _)
    · rw [decide_eq_false e']; exact ev_ifn (by simp) (ev_some _)
  · rw [decide_eq_false e, Bool.false_and]
    exact ev_ifn (by simp) (ev_some _)
theorem eqTally_self (c h : List Int) (hc : c.length ≤ 9223372036854775806) (hh : h.length ≤ 9223372036854775806) : Ev (fun k => laws_eqTally.f k c h c h) true := by
  have := eqTally_ev c h c h hc hh
  simpa using this
theorem szIntS_is (l : List Int) (a : Int) (ha : 0 ≤ a) (ha2 : a ≤ 1048576) (hl : l.length ≤ 9223372036854775807) : laws_szIntS.f l a = some (if a < l.length then -1 else a - l.length) := by
  unfold laws_szIntS.f
  rw [w64 (by omega) (by omega)]
  split
  · rw [if_pos (by omega)]
  · rw [if_neg (by omega)]
theorem markTally_ev (c h : List Int) (a : Int) (h0 : 0 ≤ a) (h1 : a + c.length + h.length ≤ 9223372036854775806) : Ev (fun k => laws_markTally.f k c h a) (a + c.length + h.length, cnt a c.length, cnt (a + c.length) h.length) :=
  ev_bind (markIntS_ev c a h0 (by omega)) (ev_bind (markIntS_ev h (a + c.length) (by omega) (by omega)) (ev_some _))
theorem szTally_go (c h : List Int) (s : Int) (hs : 0 ≤ s) (hs2 : s ≤ 1048576) (hl : c.length ≤ 9223372036854775807 ∧ h.length ≤ 9223372036854775807) :
    (∃ r, laws_szTally.f c h s = some r ∧ r < 0) ∨ ∃ r, laws_szTally.f c h s = some r ∧ ¬ r < 0 ∧ 0 ≤ r ∧ r ≤ s ∧ (c.length : Int) + h.length ≤ s := by
  unfold laws_szTally.f
  rw [szIntS_is c _ hs hs2 hl.1]
  by_cases h1 : s < c.length
  · rw [if_pos h1]
    exact .inl ⟨-1, by simp, by omega⟩
  · rw [if_neg h1, Option.bind_some, if_neg (by omega), szIntS_is h _ (by omega) (by omega) hl.2]
    by_cases h2 : s - c.length < h.length
    · rw [if_pos h2]
      exact .inl ⟨-1, by simp, by omega⟩
    · rw [if_neg h2, Option.bind_some, if_neg (by omega)]
      exact .inr ⟨_, rfl, by omega, by omega, by omega, by omega⟩
theorem FnExactGroupsOf : laws_FnExactGroupsOf.Pure := by
  intro c h hl hm
  refine Ev.rounds ?_
  unfold laws_FnExactGroupsOf.f
  rcases szTally_go c h 1048576 (by first | omega | (dsimp only; omega) | (simp; omega)) (by first | omega | (dsimp only; omega) | (simp; omega)) (⟨hl.1, hm.1⟩) with ⟨rz1, ez1, hz1⟩ | ⟨rz1, ez1, hz1, hza1, hzb1, hlz1⟩
  · exact ev_bind (ev_const ez1) (ev_ifp hz1 (ev_some _))
  refine ev_bind (ev_const ez1) ?_
  refine ev_ifn hz1 ?_
  obtain ⟨⟨r1, g⟩, hs, hi, hr1, hr2⟩ := groupsOf_both c h; have hb1 : r1.length ≤ 1048576 := by dsimp only at hr1; omega
  have hb2 : ∀ s ∈ r1, s.length ≤ 1048576 := fun s hs => by have := hr2 s hs; omega
  obtain ⟨⟨m, M⟩, hm1, hm2, hm0⟩ := markHeldIntSS r1 hb1 hb2; dsimp only at hm2 hm0
  refine ev_bind (toTally_ev _ _ (by first | omega | (dsimp only; omega) | (simp; omega)) (by first | omega | (dsimp only; omega) | (simp; omega))) ?_
  refine ev_bind hs ?_
  refine ev_bind (toTally_ev _ _ (by first | omega | (dsimp only; omega) | (simp; omega)) (by first | omega | (dsimp only; omega) | (simp; omega))) ?_
  refine ev_bind hi ?_
  refine ev_bind (eqIntSS_self _ hb1 hb2) ?_
  refine ev_ifp rfl ?_
  refine ev_step (fun k => laws_FnExactGroupsOf.j0.eq_2 _ _ _ _ _ _ _ _ _ k) ?_
  refine ev_ifn (by simp) ?_
  refine ev_bind (toTally_ev _ _ (by first | omega | (dsimp only; omega) | (simp; omega)) (by first | omega | (dsimp only; omega) | (simp; omega))) ?_
  refine ev_bind (eqTally_self _ _ (by first | omega | (dsimp only; omega) | (simp; omega)) (by first | omega | (dsimp only; omega) | (simp; omega))) ?_
  refine ev_ifp rfl ?_
  refine ev_bind (markTally_ev _ _ _ (by first | omega | (dsimp only; omega) | (simp; omega)) (by first | omega | (dsimp only; omega) | (simp; omega))) ?_
  refine ev_ifn (by first | (simp; done) | (simp; omega) | omega) ?_
  refine ev_bind (eqIntSS_self _ hb1 hb2) ?_
  refine ev_ifp rfl ?_
  refine ev_step (fun k => laws_FnExactGroupsOf.j1.eq_2 _ _ _ _ _ _ k) ?_
  refine ev_ifn (by simp) ?_
  refine ev_bind hm1 ?_
  refine ev_bind hm2 ?_
  refine ev_ifn (by first | (simp; done) | (simp; omega) | omega) ?_
  refine ev_ifp (by first | rfl | (simp; done)) ?_
  refine ev_bind (toTally_ev _ _ (by first | omega | (dsimp only; omega) | (simp; omega)) (by first | omega | (dsimp only; omega) | (simp; omega))) ?_
  refine ev_bind hi ?_
  refine ev_bind (eqIntSS_self _ hb1 hb2) ?_
  refine ev_ifp rfl ?_
  refine ev_step (fun k => laws_FnExactGroupsOf.j2.eq_2 _ _ _ k) ?_
  refine ev_ifn (by simp) ?_
  refine ev_bind hm2 ?_
  refine ev_ifn (by first | (simp; done) | (simp; omega) | omega) ?_
  refine ev_ifp (by first | rfl | (simp; done)) ?_
  exact ev_some _
end Go.Proofs.Ytjicgmcogadleaa.Pure
namespace Go.Proofs.Ytjicgmcogadleaa.fnExactGroupsOf
open Go.ChangeShapes Go.WideShapes Go.ChangeAt Go.RowKit Go.Proofs.Ytjicgmcogadleaa.Open Go.Proofs.Ytjicgmcogadleaa.P Go.Proofs.YtjicgmcogadleaaW.PrintWords
open Go.ChangeMaps (open_string shut_string)
set_option linter.unusedVariables false
theorem own : ownKnob Try.prog.godebug = none := by kernel_rfl
theorem laidOut : laidOutB Try.prog = true := by kernel_rfl
set_option maxRecDepth 100000 in
theorem lifted (os : Os) (started : os.Started) (H : Type) (enc : TypeId × Value → H) :
    ReturnsInHanded {} Try.checked os 4 .any (Rows.fnExactGroupsOfSpec.pre6 enc Try.prog Try.f4 Rows.fnExactGroupsOfRow.domain false) (Rows.fnExactGroupsOfSpec.post enc Try.prog Try.f4 false true false false) := by
  refine returnsInHanded_of_change_sized (C := Try.checked) own started (by kernel_rfl) Try.func4
    (ChangeSpec.witness6 (enc := enc) (C := Try.checked) false ⟨#[], #[.agg #[.slice none 0 0, .slice none 0 0]], []⟩ 8 (by kernel_rfl) (by kernel_rfl) (by kernel_rfl) (by kernel_rfl)) ?_
  intro W base args ds gs before hval0 hW hcnd hsz0 _
  have hsz : (DataW.weightsEach Try.prog (Try.f4.params.toList ++ Rows.fnExactGroupsOfSpec.plain.varTypes Try.prog) (ds ++ gs)).all (· ≤ reachBytes) = true := hsz0
  have hval : ∀ (j : Nat) t v, Try.f4.params[j]? = some t → args[j]? = some v → Value.okWide Try.prog W .any base t v := hval0
  have hW' := hW
  obtain ⟨p, q, hA0, hV, rfl, hfz, hnd⟩ := hW
  have hA : DataW.TrodAll enc Try.prog W 0 (fun _ => true) true Try.f4.params.toList args.toList ds p := hA0
  rw [Try.params4] at hA hval hsz
  obtain ⟨v0, vs0, d0, ds0, p0, q0, hargs, rfl, rfl, h0, r0⟩ := trodAll_cons hA
  obtain ⟨rfl, rfl, rfl⟩ := trodAll_nil r0
  obtain rfl : args = #[v0] := by cases args; simp_all
  obtain ⟨rfl, rfl⟩ := trodVars_none hV
  have k0 := h0
  have lt0 : ∀ x ∈ p0, x.block < W.heap.size := by obtain ⟨m, hm⟩ := k0; exact DataW.trod_lt m _ _ _ hm
  obtain ⟨u0_0, u0_1, b0_0, b0_1, rfl, K0_0, w0_0, K0_1, w0_1⟩ := agg2_at Try.underlying49 (by kernel_rfl) (by kernel_rfl) (opens_slice Try.underlying24 (by kernel_rfl) (opens_int Try.underlying3)) (opens_slice Try.underlying24 (by kernel_rfl) (opens_int Try.underlying3)) (hval 0 49 v0 rfl rfl) h0
  obtain ⟨A0_0, c0_0, rfl, hc0_0, hr0_0⟩ := slice_cell K0_0
  obtain ⟨A0_1, c0_1, rfl, hc0_1, hr0_1⟩ := slice_cell K0_1
  clear hA0 hval0 hsz0 hsz
  obtain ⟨k, hp⟩ := Pure.FnExactGroupsOf b0_0 b0_1 w0_0 w0_1
  refine (laws_FnExactGroupsOf.calls k A0_0 c0_0 b0_0 A0_1 c0_1 b0_1 true W hr0_0 hc0_0 hr0_1 hc0_1 hp).mono fun e W' ⟨he, bel0⟩ => ?_
  have bel : Below W.heap.size W W' := bel0
  subst he
  exact ⟨_, rfl, _, _, _, [], _, [], hW', trodAll_mk1 (shut_bool Try.underlying4 _), (trodAll_cons_mk (Below.trod laidOut (by kernel_rfl) (of_decide_eq_true (by kernel_rfl)) k0 bel lt0) trodAll_mk0), rfl, bel.frame _, fun h => by cases h⟩
theorem over : Rows.fnExactGroupsOfRow.holds Try.pinned (OpenSpec.ofChange Rows.fnExactGroupsOfSpec) :=
  OpenClaim.holds_of_wide 4 Try.f4 rfl rfl rfl rfl rfl rfl rfl ⟨rfl, rfl, rfl, rfl, rfl⟩ rfl rfl rfl rfl rfl (by kernel_rfl) Try.func4 (by kernel_rfl)
    (of_decide_eq_true (by kernel_rfl)) (by unfold Func.isWrapper; first | (rw [if_pos (by decide +kernel)]; kernel_rfl) | (rw [if_neg (by decide +kernel)]; exact ⟨rfl, rfl⟩))
    (fun os started H enc _ => lifted os started H enc)
theorem proved : Rows.FnExactGroupsOfSaid := over
#print axioms proved
end Go.Proofs.Ytjicgmcogadleaa.fnExactGroupsOf
namespace Go.Proofs.Ytjicgmcogadleaa
theorem fnExactGroupsOf_holds : Rows.FnExactGroupsOfSaid := fnExactGroupsOf.proved
end Go.Proofs.Ytjicgmcogadleaa
