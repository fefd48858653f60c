/- Texts of the claim FnExactRegionField, merged: part 4 of 4: the program's and the reference's functions as Lean functions, the walks that show it, and plain lemmas; no conditions. -/
import Derived.Test.YtfiijdiccjapiaaWMore
import Derived.Test.YtfiijdiccjapiaaWSized
import Derived.ProofKit
import Derived.OpenShut
import Derived.Deep.Slices
import Derived.Deep.Strs
import Derived.Deep.Fields
import Derived.Lib.SmallJoins
import Derived.Test.YtfiijdiccjapiaaKFnExactRegionField1
import Derived.Test.YtfiijdiccjapiaaKFnExactRegionField2
import Derived.Test.YtfiijdiccjapiaaKFnExactRegionField3
import Derived.Test.YtfiijdiccjapiaaRows
import Derived.WalkKit
import Derived.ShutString
import Derived.ChangeOld
import Derived.Below
import Derived.SizedLaws
/- What a Go argument reads as, opened into a Lean value of the print's kinds: whole numbers, slices, structs of two, three and four one-cell fields. No conditions. -/
namespace Go.Proofs.Ytfiijdiccjapiaa.Open
open Go.ChangeShapes Go.WideShapes Go.RowKit Go.Deep Go.Joins Go.Proofs.YtfiijdiccjapiaaW.PrintWords

/-- Whatever is read as a datum of type t holds a value of kind d that meets wf. -/
def Opens {α : Type} (P : Program) (t : TypeId) (d : Kd α) (wf : α → Prop) : Prop :=
  ∀ {H : Type} {enc : TypeId × Value → H} {W : World} {fuel : Nat} {cs : List Value} {x : DataW H × List MemPlace},
    DataW.trod enc P W 0 (fun _ => true) true fuel t cs = some x → ∃ y, d.K W y cs ∧ wf y

theorem opens_int {P : Program} {t : TypeId} {k : IntKind} (h : P.underlying t = some (.int k)) : Opens P t (Kd.int k) (fun n => (Lit.int k n).wf = true) := by
  intro H enc W fuel cs x hx
  obtain ⟨n, rfl, _, hw⟩ := DataW.trod_int h hx
  exact ⟨n, rfl, hw⟩

theorem opens_bool {P : Program} {t : TypeId} (h : P.underlying t = some .bool) : Opens P t Kd.bool (fun _ => True) := by
  intro H enc W fuel cs x hx
  obtain ⟨n, rfl, _⟩ := DataW.trod_bool h hx
  exact ⟨n, rfl, trivial⟩

theorem list_of {α : Type} {p : Nat → α → Prop} : ∀ (n : Nat), (∀ i, i < n → ∃ y, p i y) → ∃ ys : List α, ys.length = n ∧ ∀ (i : Nat) (y : α), ys[i]? = some y → p i y
  | 0, _ => ⟨[], rfl, fun i y h => by simp at h⟩
  | n + 1, h => by
    obtain ⟨ys, hl, hy⟩ := list_of n (fun i hi => h i (by omega))
    obtain ⟨y, hp⟩ := h n (by omega)
    refine ⟨ys ++ [y], by simp [hl], fun i z hz => ?_⟩
    by_cases hi : i < n
    · rw [List.getElem?_append_left (by omega)] at hz
      exact hy i z hz
    · have hi2 : i = n := by
        have := (List.getElem?_eq_some_iff.1 hz).1
        simp [hl] at this
        omega
      subst hi2
      rw [List.getElem?_append_right (by omega), hl] at hz
      simp at hz
      subst hz
      exact hp

theorem opens_slice {α : Type} {P : Program} {t e : TypeId} {d : Kd α} {wf : α → Prop} (h : P.underlying t = some (.slice e)) (hc : P.cellsOf e = d.sz) (he : Opens P e d wf) :
    Opens P t (Kd.slice e d) (fun l => l.length ≤ 9223372036854775807 ∧ ∀ x ∈ l, wf x) := by
  intro H enc W fuel cs x hx
  rcases open_slice h hx with ⟨rfl, _⟩ | ⟨a, len, cap, m, n, D, Pl, rfl, _, hl, hm, hmm, _, hx⟩
  · exact ⟨[], ⟨none, 0, rfl, by simp, Kd.C_nil d W⟩, by simp, by simp⟩
  · obtain ⟨ys, hlen, hy⟩ := list_of (p := fun i y => ∃ cs', W.cells? 0 (a.add (i * P.cellsOf e)) (P.cellsOf e) = some cs' ∧ d.K W y cs' ∧ wf y) len (fun i hi => by
      obtain ⟨cs', h1, h2⟩ := hx i (by rw [hmm]; split <;> omega)
      obtain ⟨y, hK, hw⟩ := he h2
      exact ⟨y, cs', h1, hK, hw⟩)
    have hm' : cap ≤ 9223372036854775807 := by simpa [maxLen] using hm
    refine ⟨ys, ⟨some a, cap, by rw [hlen], by omega, ⟨rfl, by omega, fun _ => ⟨a, rfl, fun j y hj => ?_⟩⟩⟩, by omega, fun y hmem => ?_⟩
    · obtain ⟨cs', h1, hK, _⟩ := hy j y hj
      obtain ⟨_, hl2, hcell⟩ := World.cells?_some h1
      refine ⟨cs', d.K_len hK, hK, fun i u hu => ?_⟩
      have hi : i < P.cellsOf e := by
        have := (List.getElem?_eq_some_iff.1 hu).1
        omega
      rw [← hc, ← Go.Deep.add_add, hcell i hi]
      exact hu
    · obtain ⟨j, hj⟩ := List.getElem?_of_mem hmem
      obtain ⟨_, _, _, hw⟩ := hy j y hj
      exact hw

theorem opens2 {α0 α1 : Type} {P : Program} {t : TypeId} {f0 f1 : Field} {d0 : Kd α0} {d1 : Kd α1} {w0 : α0 → Prop} {w1 : α1 → Prop} (hs : P.underlying t = some (.struct #[f0, f1]))
    (hone : oneCellFields P #[f0, f1] = true) (hC : P.cellsOf t = 2) (h0 : Opens P f0.type d0 w0) (h1 : Opens P f1.type d1 w1) : Opens P t (Kd.pair d0 d1) (fun y => w0 y.1 ∧ w1 y.2) := by
  intro H enc W fuel cs x hx
  obtain ⟨y0, y1, n, _, hlen, e0, e1⟩ := trod_struct2 hs hx
  rw [hC] at hlen
  match cs, hlen with
  | [c0, c1], _ =>
    obtain ⟨o0, k0⟩ := hone_of hone 0 f0 rfl
    obtain ⟨o1, k1⟩ := hone_of hone 1 f1 rfl
    obtain ⟨z0, K0, W0⟩ := h0 (show DataW.trod enc P W 0 (fun _ => true) true n f0.type [c0] = some y0 by simpa [o0, k0] using e0)
    obtain ⟨z1, K1, W1⟩ := h1 (show DataW.trod enc P W 0 (fun _ => true) true n f1.type [c1] = some y1 by simpa [o1, k1] using e1)
    exact ⟨(z0, z1), ⟨[c0], [c1], rfl, K0, K1⟩, W0, W1⟩

theorem opens3 {α0 α1 α2 : Type} {P : Program} {t : TypeId} {f0 f1 f2 : Field} {d0 : Kd α0} {d1 : Kd α1} {d2 : Kd α2} {w0 : α0 → Prop} {w1 : α1 → Prop} {w2 : α2 → Prop}
    (hs : P.underlying t = some (.struct #[f0, f1, f2])) (hone : oneCellFields P #[f0, f1, f2] = true) (hC : P.cellsOf t = 3) (h0 : Opens P f0.type d0 w0) (h1 : Opens P f1.type d1 w1) (h2 : Opens P f2.type d2 w2) :
    Opens P t (Kd.pair d0 (Kd.pair d1 d2)) (fun y => w0 y.1 ∧ w1 y.2.1 ∧ w2 y.2.2) := by
  intro H enc W fuel cs x hx
  obtain ⟨y0, y1, y2, n, _, hlen, e0, e1, e2⟩ := trod_struct3 hs hx
  rw [hC] at hlen
  match cs, hlen with
  | [c0, c1, c2], _ =>
    obtain ⟨o0, k0⟩ := hone_of hone 0 f0 rfl
    obtain ⟨o1, k1⟩ := hone_of hone 1 f1 rfl
    obtain ⟨o2, k2⟩ := hone_of hone 2 f2 rfl
    obtain ⟨z0, K0, W0⟩ := h0 (show DataW.trod enc P W 0 (fun _ => true) true n f0.type [c0] = some y0 by simpa [o0, k0] using e0)
    obtain ⟨z1, K1, W1⟩ := h1 (show DataW.trod enc P W 0 (fun _ => true) true n f1.type [c1] = some y1 by simpa [o1, k1] using e1)
    obtain ⟨z2, K2, W2⟩ := h2 (show DataW.trod enc P W 0 (fun _ => true) true n f2.type [c2] = some y2 by simpa [o2, k2] using e2)
    exact ⟨(z0, z1, z2), ⟨[c0], [c1, c2], rfl, K0, [c1], [c2], rfl, K1, K2⟩, W0, W1, W2⟩

theorem opens4 {α0 α1 α2 α3 : Type} {P : Program} {t : TypeId} {f0 f1 f2 f3 : Field} {d0 : Kd α0} {d1 : Kd α1} {d2 : Kd α2} {d3 : Kd α3} {w0 : α0 → Prop} {w1 : α1 → Prop} {w2 : α2 → Prop} {w3 : α3 → Prop}
    (hs : P.underlying t = some (.struct #[f0, f1, f2, f3])) (hone : oneCellFields P #[f0, f1, f2, f3] = true) (hC : P.cellsOf t = 4) (h0 : Opens P f0.type d0 w0) (h1 : Opens P f1.type d1 w1) (h2 : Opens P f2.type d2 w2) (h3 : Opens P f3.type d3 w3) :
    Opens P t (Kd.pair d0 (Kd.pair d1 (Kd.pair d2 d3))) (fun y => w0 y.1 ∧ w1 y.2.1 ∧ w2 y.2.2.1 ∧ w3 y.2.2.2) := by
  intro H enc W fuel cs x hx
  obtain ⟨y0, y1, y2, y3, n, _, hlen, e0, e1, e2, e3⟩ := trod_struct4 hs hx
  rw [hC] at hlen
  match cs, hlen with
  | [c0, c1, c2, c3], _ =>
    obtain ⟨o0, k0⟩ := hone_of hone 0 f0 rfl
    obtain ⟨o1, k1⟩ := hone_of hone 1 f1 rfl
    obtain ⟨o2, k2⟩ := hone_of hone 2 f2 rfl
    obtain ⟨o3, k3⟩ := hone_of hone 3 f3 rfl
    obtain ⟨z0, K0, W0⟩ := h0 (show DataW.trod enc P W 0 (fun _ => true) true n f0.type [c0] = some y0 by simpa [o0, k0] using e0)
    obtain ⟨z1, K1, W1⟩ := h1 (show DataW.trod enc P W 0 (fun _ => true) true n f1.type [c1] = some y1 by simpa [o1, k1] using e1)
    obtain ⟨z2, K2, W2⟩ := h2 (show DataW.trod enc P W 0 (fun _ => true) true n f2.type [c2] = some y2 by simpa [o2, k2] using e2)
    obtain ⟨z3, K3, W3⟩ := h3 (show DataW.trod enc P W 0 (fun _ => true) true n f3.type [c3] = some y3 by simpa [o3, k3] using e3)
    exact ⟨(z0, z1, z2, z3), ⟨[c0], [c1, c2, c3], rfl, K0, [c1], [c2, c3], rfl, K1, [c2], [c3], rfl, K2, K3⟩, W0, W1, W2, W3⟩

theorem opens_iso {α β : Type} {P : Program} {t : TypeId} {d : Kd α} {wf : α → Prop} (h : Opens P t d wf) (f : β → α) (g : α → β) (hg : ∀ y, f (g y) = y) : Opens P t (Kd.iso d f) (fun s => wf (f s)) := by
  intro H enc W fuel cs x hx
  obtain ⟨y, hK, hw⟩ := h hx
  exact ⟨g y, show d.K W (f (g y)) cs by rw [hg]; exact hK, show wf (f (g y)) by rw [hg]; exact hw⟩

/-- A slice of whatever elements is no longer than its weight allows. -/
theorem sized_any {H : Type} {enc : TypeId × Value → H} {P : Program} {W : World} {base : Nat} {spare : Nat → Bool} {held : Bool} {t e : TypeId} {a : Option Addr} {len cap : Nat} {d : DataW H} {ps : List MemPlace} {ts : List TypeId} {ds : List (DataW H)} {j : Nat}
    (hsz : (DataW.weightsEach P ts ds).all (· ≤ reachBytes) = true) (ht : ts[j]? = some t) (hd : ds[j]? = some d) (hu : P.underlying t = some (.slice e)) {B : Nat} (hB : P.bytesOf e = B)
    (h : DataW.Trod enc P W base spare held t (.slice a len cap) d ps) : len * B ≤ 140737488351232 := by
  obtain ⟨fuel, hf⟩ := h
  rcases open_slice hu hf with ⟨hcs, _⟩ | ⟨x, l, c, m, n, D, Pl, hcs, _, hl, _, _, hx, _⟩
  · simp [Value.cells] at hcs
    obtain ⟨rfl, rfl, rfl⟩ := hcs
    simp
  · simp [Value.cells] at hcs
    obtain ⟨rfl, rfl, rfl⟩ := hcs
    obtain ⟨hx, _⟩ := Prod.mk.inj hx
    subst hx
    have z := sized_slice hsz ht hd hu
    rw [hB] at z
    refine Nat.le_trans (Nat.mul_le_mul_right _ ?_) z
    simp

/-- A slice's value and its reading, as one. -/
theorem slice_at {α : Type} {P : Program} {W : World} {t e : TypeId} {d : Kd α} {wf : List α → Prop} {H : Type} {enc : TypeId × Value → H} {a : Option Addr} {len cap : Nat} {dd : DataW H} {ps : List MemPlace} (ho : Opens P t (Kd.slice e d) wf)
    (h : DataW.Trod enc P W 0 (fun _ => true) true t (.slice a len cap) dd ps) : ∃ l : List α, len = l.length ∧ l.length ≤ cap ∧ d.C W a l.length l ∧ wf l := by
  obtain ⟨fuel, hf⟩ := h
  obtain ⟨l, ⟨A, c, hcs, hl, hC⟩, hw⟩ := ho hf
  simp [Value.cells] at hcs
  obtain ⟨rfl, rfl, rfl⟩ := hcs
  exact ⟨l, rfl, hl, hC, hw⟩

theorem int_cell {k : IntKind} {W : World} {y : Int} {v : Value} (h : (Kd.int k).K W y [v]) : v = .int k y := by
  have h' : [v] = [Value.int k y] := h
  simpa using h'
theorem bool_cell {W : World} {y : Bool} {v : Value} (h : Kd.bool.K W y [v]) : v = .bool y := by
  have h' : [v] = [Value.bool y] := h
  simpa using h'
theorem slice_cell {α : Type} {d : Kd α} {e : Nat} {W : World} {l : List α} {v : Value} (h : (Kd.slice e d).K W l [v]) : ∃ A c, v = .slice A l.length c ∧ l.length ≤ c ∧ d.C W A l.length l := by
  obtain ⟨A, c, hc, hl, hC⟩ := h
  exact ⟨A, c, by simpa using hc, hl, hC⟩

section
variable {P : Program} {t : TypeId} {W : World} {H : Type} {enc : TypeId × Value → H} {r : Reach} {b0 : Nat} {v : Value} {d : DataW H} {p : List MemPlace}
theorem agg2_at {α0 α1 : Type} {f0 f1 : Field} {d0 : Kd α0} {d1 : Kd α1} {w0 : α0 → Prop} {w1 : α1 → Prop} (hs : P.underlying t = some (.struct #[f0, f1])) (hone : oneCellFields P #[f0, f1] = true) (hC : P.cellsOf t = 2)
    (h0 : Opens P f0.type d0 w0) (h1 : Opens P f1.type d1 w1) (hv : Value.okWide P W r b0 t v) (h : DataW.Trod enc P W 0 (fun _ => true) true t v d p) :
    ∃ (v0 v1 : Value) (y0 : α0) (y1 : α1), v = .agg #[v0, v1] ∧ d0.K W y0 [v0] ∧ w0 y0 ∧ d1.K W y1 [v1] ∧ w1 y1 := by
  obtain ⟨v0, v1, _, _, _, rfl, _, _, e0, e1⟩ := open_agg2 hs hone hC hv h
  obtain ⟨y0, K0, W0⟩ := h0 e0
  obtain ⟨y1, K1, W1⟩ := h1 e1
  exact ⟨v0, v1, y0, y1, rfl, K0, W0, K1, W1⟩
theorem agg3_at {α0 α1 α2 : Type} {f0 f1 f2 : Field} {d0 : Kd α0} {d1 : Kd α1} {d2 : Kd α2} {w0 : α0 → Prop} {w1 : α1 → Prop} {w2 : α2 → Prop} (hs : P.underlying t = some (.struct #[f0, f1, f2])) (hone : oneCellFields P #[f0, f1, f2] = true)
    (hC : P.cellsOf t = 3) (h0 : Opens P f0.type d0 w0) (h1 : Opens P f1.type d1 w1) (h2 : Opens P f2.type d2 w2) (hv : Value.okWide P W r b0 t v) (h : DataW.Trod enc P W 0 (fun _ => true) true t v d p) :
    ∃ (v0 v1 v2 : Value) (y0 : α0) (y1 : α1) (y2 : α2), v = .agg #[v0, v1, v2] ∧ d0.K W y0 [v0] ∧ w0 y0 ∧ d1.K W y1 [v1] ∧ w1 y1 ∧ d2.K W y2 [v2] ∧ w2 y2 := by
  obtain ⟨v0, v1, v2, _, _, _, _, rfl, _, _, e0, e1, e2⟩ := open_agg3 hs hone hC hv h
  obtain ⟨y0, K0, W0⟩ := h0 e0
  obtain ⟨y1, K1, W1⟩ := h1 e1
  obtain ⟨y2, K2, W2⟩ := h2 e2
  exact ⟨v0, v1, v2, y0, y1, y2, rfl, K0, W0, K1, W1, K2, W2⟩
theorem agg4_at {α0 α1 α2 α3 : Type} {f0 f1 f2 f3 : Field} {d0 : Kd α0} {d1 : Kd α1} {d2 : Kd α2} {d3 : Kd α3} {w0 : α0 → Prop} {w1 : α1 → Prop} {w2 : α2 → Prop} {w3 : α3 → Prop} (hs : P.underlying t = some (.struct #[f0, f1, f2, f3]))
    (hone : oneCellFields P #[f0, f1, f2, f3] = true) (hC : P.cellsOf t = 4) (h0 : Opens P f0.type d0 w0) (h1 : Opens P f1.type d1 w1) (h2 : Opens P f2.type d2 w2) (h3 : Opens P f3.type d3 w3)
    (hv : Value.okWide P W r b0 t v) (h : DataW.Trod enc P W 0 (fun _ => true) true t v d p) :
    ∃ (v0 v1 v2 v3 : Value) (y0 : α0) (y1 : α1) (y2 : α2) (y3 : α3), v = .agg #[v0, v1, v2, v3] ∧ d0.K W y0 [v0] ∧ w0 y0 ∧ d1.K W y1 [v1] ∧ w1 y1 ∧ d2.K W y2 [v2] ∧ w2 y2 ∧ d3.K W y3 [v3] ∧ w3 y3 := by
  obtain ⟨v0, v1, v2, v3, _, _, _, _, _, rfl, _, _, e0, e1, e2, e3⟩ := open_agg4 hs hone hC hv h
  obtain ⟨y0, K0, W0⟩ := h0 e0
  obtain ⟨y1, K1, W1⟩ := h1 e1
  obtain ⟨y2, K2, W2⟩ := h2 e2
  obtain ⟨y3, K3, W3⟩ := h3 e3
  exact ⟨v0, v1, v2, v3, y0, y1, y2, y3, rfl, K0, W0, K1, W1, K2, W2, K3, W3⟩
end

end Go.Proofs.Ytfiijdiccjapiaa.Open
-- written by mp.py (this session's), with the print's functions; Lean checks it
namespace Go.Proofs.Ytfiijdiccjapiaa.P
open Go.RowKit Go.Proofs.YtfiijdiccjapiaaW.PrintWords Go.Proofs.YtfiijdiccjapiaaW.PrintLast Go.Proofs.YtfiijdiccjapiaaW.PrintMore
attribute [local go_sem] max2_int min2_int max_two min_two max_three min_three max_four min_four   -- for this text's walks alone
set_option linter.unusedVariables false
set_option linter.unusedSimpArgs false

open Go.Proofs.Ytfiijdiccjapiaa.Open
theorem opens30 : Opens Try.prog 30 k30 (fun x : S30 => (Lit.int .i64 x.f0).wf = true ∧ (Lit.int .i64 x.f1).wf = true ∧ (x.f2.length ≤ 9223372036854775807 ∧ ∀ z0 ∈ x.f2, (Lit.int .i64 z0).wf = true)) :=
  opens_iso (opens3 Try.underlying30 (by kernel_rfl) (by kernel_rfl) (opens_int Try.underlying3) (opens_int Try.underlying3) (opens_slice Try.underlying22 (by kernel_rfl) (opens_int Try.underlying3))) (fun x : S30 => (x.f0, x.f1, x.f2)) (fun y => (⟨y.1, y.2.1, y.2.2⟩ : S30)) (fun _ => rfl)
theorem opens131 : Opens Try.prog 131 k131 (fun x : S131 => (Lit.int .i64 x.f0).wf = true ∧ (Lit.int .i64 x.f1).wf = true ∧ (Lit.int .i64 x.f2).wf = true ∧ (Lit.int .i64 x.f3).wf = true) :=
  opens_iso (opens4 Try.underlying131 (by kernel_rfl) (by kernel_rfl) (opens_int Try.underlying3) (opens_int Try.underlying3) (opens_int Try.underlying3) (opens_int Try.underlying3)) (fun x : S131 => (x.f0, x.f1, x.f2, x.f3)) (fun y => (⟨y.1, y.2.1, y.2.2.1, y.2.2.2⟩ : S131)) (fun _ => rfl)
end Go.Proofs.Ytfiijdiccjapiaa.P
/- Plain words for the laws' plain proofs: rounds that end, loops over an index, lists read at an index. No conditions. -/
namespace Go.Proofs.Ytfiijdiccjapiaa.Pure
set_option linter.unusedVariables false
set_option linter.unusedSimpArgs false
open Go.RowKit Go.Proofs.YtfiijdiccjapiaaW.PrintWords Go.Proofs.YtfiijdiccjapiaaW.PrintLast Go.Proofs.YtfiijdiccjapiaaW.PrintMore

theorem w64 {x : Int} (h0 : -9223372036854775808 ≤ x) (h1 : x ≤ 9223372036854775807) : wrap64 x = x := by
  unfold wrap64
  omega
theorem w64n {n : Nat} (h : n ≤ 9223372036854775807) : wrap64 (n : Int) = (n : Int) := w64 (by omega) (by omega)
theorem rd_nat (xs : List Int) (i : Nat) : rd xs (i : Int) = xs.getD i 0 := by simp [rd]
theorem wf_bd {x : Int} (h : (Lit.int .i64 x).wf = true) : -9223372036854775808 ≤ x ∧ x ≤ 9223372036854775807 := by
  simp [Lit.wf, IntKind.min, IntKind.max, IntKind.signed, IntKind.bits] at h
  omega

section
variable {α β : Type} {f g : Nat → Option α} {r : α}
theorem ev_some (r : α) : Ev (fun _ => some r) r := ⟨0, fun _ _ => rfl⟩
theorem ev_ifp {c : Prop} [Decidable c] (h : c) (k : Ev f r) : Ev (fun n => if c then f n else g n) r := Ev.congr (fun _ => if_pos h) k
theorem ev_ifn {c : Prop} [Decidable c] (h : ¬ c) (k : Ev g r) : Ev (fun n => if c then f n else g n) r := Ev.congr (fun _ => if_neg h) k
theorem ev_bind {F : Nat → α → Option β} {q : β} (h : Ev g r) (k : Ev (fun n => F n r) q) : Ev (fun n => (g n).bind (fun x => F n x)) q := by
  obtain ⟨K1, h1⟩ := h
  obtain ⟨K2, h2⟩ := k
  exact ⟨K1 + K2, fun n hn => by show (g n).bind (fun x => F n x) = some q; rw [h1 n (by omega)]; exact h2 n (by omega)⟩
theorem ev_const {a : Option α} (h : a = some r) : Ev (fun _ => a) r := ⟨0, fun _ _ => h⟩
theorem ev_step (h : ∀ k, g (k + 1) = f k) (k : Ev f r) : Ev g r := by
  obtain ⟨K, h1⟩ := k
  refine ⟨K + 1, fun n hn => ?_⟩
  obtain ⟨m, rfl⟩ : ∃ m, n = m + 1 := ⟨n - 1, by omega⟩
  rw [h m]
  exact h1 m (by omega)
/-- One number of rounds for two. -/
theorem ev_two {f : Nat → Option α} {g : Nat → Option β} {a : α} {b : β} (h : Ev f a) (k : Ev g b) : ∃ K, ∀ n, K ≤ n → f n = some a ∧ g n = some b := by
  obtain ⟨K1, h1⟩ := h
  obtain ⟨K2, h2⟩ := k
  exact ⟨K1 + K2, fun n hn => ⟨h1 n (by omega), h2 n (by omega)⟩⟩
end

/-- A state that d rounds turn, from round i on. -/
def iter {σ : Type} (g : Nat → σ → σ) : Nat → Nat → σ → σ
  | _, 0, s => s
  | i, d + 1, s => iter g (i + 1) d (g i s)

theorem loop_ev {σ ρ : Type} (F : Nat → σ → Nat → Option ρ) (n : Nat) (g : Nat → σ → σ) (fin : σ → ρ) (I : Nat → σ → Prop)
    (hs : ∀ i s r, I i s → i < n → Ev (fun k => F k (g i s) (i + 1)) r → Ev (fun k => F k s i) r) (hI : ∀ i s, I i s → i < n → I (i + 1) (g i s))
    (he : ∀ s, I n s → Ev (fun k => F k s n) (fin s)) : ∀ i s, i ≤ n → I i s → Ev (fun k => F k s i) (fin (iter g i (n - i) s)) := by
  have key : ∀ d i s, n - i = d → i ≤ n → I i s → Ev (fun k => F k s i) (fin (iter g i d s)) := by
    intro d
    induction d with
    | zero =>
      intro i s h0 h1 h2
      obtain rfl : i = n := by omega
      exact he s h2
    | succ d ih =>
      intro i s h0 h1 h2
      exact hs i s _ h2 (by omega) (ih (i + 1) (g i s) (by omega) (by omega) (hI i s h2 (by omega)))
  exact fun i s h1 h2 => key (n - i) i s rfl h1 h2

theorem iter_inv {σ : Type} (g : Nat → σ → σ) (I : Nat → σ → Prop) (n : Nat) (hI : ∀ i s, I i s → i < n → I (i + 1) (g i s)) : ∀ d i s, i + d = n → I i s → I n (iter g i d s) := by
  intro d
  induction d with
  | zero => intro i s h0 h1; obtain rfl : i = n := by omega
            exact h1
  | succ d ih => intro i s h0 h1; exact ih (i + 1) _ (by omega) (hI i s h1 (by omega))

/-- The rounds as a fold over what is left of a list. -/
theorem iter_foldl {σ α : Type} (f : σ → α → σ) (z : α) (xs : List α) : ∀ d i s, i + d = xs.length → iter (fun i s => f s (xs.getD i z)) i d s = (xs.drop i).foldl f s := by
  intro d
  induction d with
  | zero =>
    intro i s h
    rw [List.drop_of_length_le (by omega)]
    rfl
  | succ d ih =>
    intro i s h
    have hlt : i < xs.length := by omega
    rw [List.drop_eq_getElem_cons hlt]
    show iter _ (i + 1) d _ = _
    rw [ih (i + 1) _ (by omega), List.foldl_cons]
    simp [List.getD, List.getElem?_eq_getElem hlt]

/-- Do all of d indices from i on say yes? -/
def rall (p : Nat → Bool) : Nat → Nat → Bool
  | _, 0 => true
  | i, d + 1 => p i && rall p (i + 1) d
theorem rall_iff (p : Nat → Bool) : ∀ d i, rall p i d = true ↔ ∀ j, i ≤ j → j < i + d → p j = true
  | 0, i => ⟨fun _ j h1 h2 => by omega, fun _ => rfl⟩
  | d + 1, i => by
    show (p i && rall p (i + 1) d) = true ↔ _
    rw [Bool.and_eq_true, rall_iff p d (i + 1)]
    constructor
    · rintro ⟨h0, h1⟩ j h2 h3
      by_cases e : j = i
      · rw [e]; exact h0
      · exact h1 j (by omega) (by omega)
    · intro h
      exact ⟨h i (Nat.le_refl _) (by omega), fun j h2 h3 => h j (by omega) (by omega)⟩
theorem rall_congr {p q : Nat → Bool} : ∀ d i, (∀ j, i ≤ j → j < i + d → p j = q j) → rall p i d = rall q i d
  | 0, _, _ => rfl
  | d + 1, i, h => by
    show (p i && rall p (i + 1) d) = (q i && rall q (i + 1) d)
    rw [h i (Nat.le_refl _) (by omega), rall_congr d (i + 1) (fun j h1 h2 => h j (by omega) (by omega))]

/-- A loop that ends with 'no' at the first index that fails, and with 'yes' (or what follows) behind all. -/
theorem all_ev {ρ : Type} (F : Nat → Nat → Option ρ) (n : Nat) (p : Nat → Bool) (no yes : ρ) (hs : ∀ i r, i < n → p i = true → Ev (fun k => F k (i + 1)) r → Ev (fun k => F k i) r)
    (hn : ∀ i, i < n → p i = false → Ev (fun k => F k i) no) (he : Ev (fun k => F k n) yes) :
    ∀ i, i ≤ n → Ev (fun k => F k i) (if rall p i (n - i) = true then yes else no) := by
  have key : ∀ d i, n - i = d → i ≤ n → Ev (fun k => F k i) (if rall p i d = true then yes else no) := by
    intro d
    induction d with
    | zero =>
      intro i h0 h1
      obtain rfl : i = n := by omega
      rw [show rall p i 0 = true from rfl, if_pos rfl]
      exact he
    | succ d ih =>
      intro i h0 h1
      have h := ih (i + 1) (by omega) (by omega)
      have e : rall p i (d + 1) = (p i && rall p (i + 1) d) := rfl
      cases hp : p i with
      | true =>
        rw [e, hp, Bool.true_and]
        exact hs i _ (by omega) hp h
      | false =>
        rw [e, hp, Bool.false_and, if_neg (by simp)]
        exact hn i (by omega) hp
  exact fun i h1 => key (n - i) i rfl h1
/-- The same, where the answer is a bool. -/
theorem allb_ev (F : Nat → Nat → Option Bool) (n : Nat) (p : Nat → Bool) (hs : ∀ i r, i < n → p i = true → Ev (fun k => F k (i + 1)) r → Ev (fun k => F k i) r)
    (hn : ∀ i, i < n → p i = false → Ev (fun k => F k i) false) (he : Ev (fun k => F k n) true) : Ev (fun k => F k 0) (rall p 0 n) := by
  have h := all_ev F n p false true hs hn he 0 (Nat.zero_le _)
  rw [Nat.sub_zero] at h
  cases e : rall p 0 n <;> simpa [e] using h

theorem getD_eq_get {α : Type} {xs : List α} {i : Nat} (z : α) (h : i < xs.length) : xs.getD i z = xs[i] := by simp [List.getD, List.getElem?_eq_getElem h]
theorem rall_list {α : Type} (xs : List α) (z : α) (p : α → Bool) : rall (fun j => p (xs.getD j z)) 0 xs.length = xs.all p := by
  rw [Bool.eq_iff_iff, rall_iff, List.all_eq_true]
  constructor
  · intro h x hx
    obtain ⟨i, hi, rfl⟩ := List.getElem_of_mem hx
    rw [← getD_eq_get z hi]
    exact h i (Nat.zero_le _) (by omega)
  · intro h j _ hj
    rw [getD_eq_get z (by omega)]
    exact h _ (List.getElem_mem (by omega))
theorem eq_index {α : Type} {xs ys : List α} (z : α) (h : xs.length = ys.length) (hh : ∀ j, j < xs.length → xs.getD j z = ys.getD j z) : xs = ys := by
  refine List.ext_getElem h (fun i h1 h2 => ?_)
  rw [← getD_eq_get z h1, ← getD_eq_get z h2]
  exact hh i h1
theorem rall_eq {α : Type} [DecidableEq α] {xs ys : List α} (z : α) (h : xs.length = ys.length) : rall (fun j => decide (xs.getD j z = ys.getD j z)) 0 xs.length = decide (xs = ys) := by
  rw [Bool.eq_iff_iff, rall_iff, decide_eq_true_eq]
  constructor
  · exact fun hh => eq_index z h (fun j hj => by simpa using hh j (Nat.zero_le _) (by omega))
  · rintro rfl j _ _
    simp

/-- A copy, element by element. -/
theorem copy_ev {α β : Type} (F : Nat → List β → Nat → Option (List β)) (xs : List α) (c : α → β) (z : α) (zb : β)
    (hs : ∀ i ys r, ys.length = xs.length → i < xs.length → Ev (fun k => F k (ys.set i (c (xs.getD i z))) (i + 1)) r → Ev (fun k => F k ys i) r)
    (he : ∀ ys, ys.length = xs.length → Ev (fun k => F k ys xs.length) ys) (ys0 : List β) (h0 : ys0.length = xs.length) : Ev (fun k => F k ys0 0) (xs.map c) := by
  have inv : ∀ i (s : List β), (s.length = xs.length ∧ ∀ j, j < i → s.getD j zb = (xs.map c).getD j zb) → i < xs.length → ((s.set i (c (xs.getD i z))).length = xs.length ∧ ∀ j, j < i + 1 → (s.set i (c (xs.getD i z))).getD j zb = (xs.map c).getD j zb) := by
    intro i s hI hi
    refine ⟨by simp [hI.1], fun j hj => ?_⟩
    by_cases e : j = i
    · subst e
      have := hI.1
      simp [List.getD, List.getElem?_set_self (show j < s.length by omega), List.getElem?_eq_getElem hi]
    · rw [← hI.2 j (by omega)]
      simp [List.getD, List.getElem?_set_ne (Ne.symm e)]
  have h := loop_ev F xs.length (fun i ys => ys.set i (c (xs.getD i z))) (fun ys => ys) (fun i s => s.length = xs.length ∧ ∀ j, j < i → s.getD j zb = (xs.map c).getD j zb)
    (fun i ys r hI hi h => hs i ys r hI.1 hi h) inv (fun ys hI => he ys hI.1) 0 ys0 (Nat.zero_le _) ⟨h0, fun j hj => by omega⟩
  have hi := iter_inv (fun i (ys : List β) => ys.set i (c (xs.getD i z))) (fun i s => s.length = xs.length ∧ ∀ j, j < i → s.getD j zb = (xs.map c).getD j zb) xs.length inv (xs.length - 0) 0 ys0 (by omega) ⟨h0, fun j hj => by omega⟩
  rw [eq_index zb (by rw [hi.1, List.length_map]) (fun j hj => hi.2 j (by have := hi.1; omega))] at h
  exact h
/-- A loop that ends: at each index it goes on with some state, or it answers. -/
theorem ends_ev {σ ρ : Type} (F : Nat → σ → Nat → Option ρ) (n : Nat) (hs : ∀ i s, i < n → (∃ s', ∀ r, Ev (fun k => F k s' (i + 1)) r → Ev (fun k => F k s i) r) ∨ ∃ r, Ev (fun k => F k s i) r)
    (he : ∀ s, ∃ r, Ev (fun k => F k s n) r) : ∀ i s, i ≤ n → ∃ r, Ev (fun k => F k s i) r := by
  have key : ∀ d i s, n - i = d → i ≤ n → ∃ r, Ev (fun k => F k s i) r := by
    intro d
    induction d with
    | zero =>
      intro i s h0 h1
      obtain rfl : i = n := by omega
      exact he s
    | succ d ih =>
      intro i s h0 h1
      rcases hs i s (by omega) with ⟨s', h⟩ | h
      · obtain ⟨r, hr⟩ := ih (i + 1) s' (by omega) (by omega)
        exact ⟨r, h r hr⟩
      · exact h
  exact fun i s h1 => key (n - i) i s rfl h1
theorem tmod_next {i n : Nat} (hi : i < n) : Int.tmod ((i : Int) + 1) (n : Int) = (((i + 1) % n : Nat) : Int) := by
  rw [Int.tmod_eq_emod_of_nonneg (by omega)]
  rfl

/-- The first of d indices from i on at which p holds, or -1. -/
def fidx (p : Nat → Bool) : Nat → Nat → Int
  | _, 0 => -1
  | i, d + 1 => if p i = true then (i : Int) else fidx p (i + 1) d
theorem fidx_nonneg (p : Nat → Bool) : ∀ d i, decide (fidx p i d ≥ 0) = !rall (fun j => !p j) i d
  | 0, i => rfl
  | d + 1, i => by
    have h := fidx_nonneg p d (i + 1)
    show decide ((if p i = true then (i : Int) else fidx p (i + 1) d) ≥ 0) = !((!p i) && rall (fun j => !p j) (i + 1) d)
    cases e : p i with
    | true => simp
    | false => simpa using h
theorem find_ev (F : Nat → Nat → Option Int) (n : Nat) (p : Nat → Bool) (hs : ∀ i r, i < n → p i = false → Ev (fun k => F k (i + 1)) r → Ev (fun k => F k i) r) (hx : ∀ i, i < n → p i = true → Ev (fun k => F k i) (i : Int))
    (he : Ev (fun k => F k n) (-1)) : Ev (fun k => F k 0) (fidx p 0 n) := by
  have key : ∀ d i, n - i = d → i ≤ n → Ev (fun k => F k i) (fidx p i d) := by
    intro d
    induction d with
    | zero =>
      intro i h0 h1
      obtain rfl : i = n := by omega
      exact he
    | succ d ih =>
      intro i h0 h1
      show Ev (fun k => F k i) (if p i = true then (i : Int) else fidx p (i + 1) d)
      cases e : p i with
      | true => rw [if_pos rfl]; exact hx i (by omega) e
      | false => rw [if_neg (by simp)]; exact hs i _ (by omega) e (ih (i + 1) (by omega) (by omega))
  exact key n 0 (by omega) (Nat.zero_le _)
theorem ev_ite {α : Type} {f g : Nat → Option α} {a b : α} {c : Bool} (h : c = true → Ev f a) (k : c = false → Ev g b) : Ev (fun n => if c = true then f n else g n) (if c = true then a else b) := by
  cases c with
  | true => exact h rfl
  | false => exact k rfl

theorem iter_add {σ : Type} (g : Nat → σ → σ) : ∀ a i b s, iter g i (a + b) s = iter g (i + a) b (iter g i a s) := by
  intro a
  induction a with
  | zero => intro i b s; rw [Nat.zero_add]; rfl
  | succ a ih =>
    intro i b s
    rw [show a + 1 + b = (a + b) + 1 by omega]
    show iter g (i + 1) (a + b) (g i s) = _
    rw [ih (i + 1) b (g i s)]
    show _ = iter g (i + (a + 1)) b (iter g (i + 1) a (g i s))
    rw [show i + 1 + a = i + (a + 1) by omega]
theorem iter_congr {σ : Type} {g h : Nat → σ → σ} : ∀ d i s, (∀ j s, i ≤ j → j < i + d → g j s = h j s) → iter g i d s = iter h i d s := by
  intro d
  induction d with
  | zero => intro i s _; rfl
  | succ d ih =>
    intro i s hh
    show iter g (i + 1) d (g i s) = iter h (i + 1) d (h i s)
    rw [hh i s (Nat.le_refl _) (by omega)]
    exact ih (i + 1) _ (fun j s h1 h2 => hh j s (by omega) (by omega))
/-- Rows of w cells, one behind the other: the rounds of two loops are the rounds of one. -/
theorem grid_ev {σ ρ : Type} (F0 : Nat → σ → Nat → Option ρ) (F1 : Nat → σ → Nat → Nat → Option ρ) (w h : Nat) (g : Nat → σ → σ) (fin : σ → ρ) (I : Nat → σ → Prop)
    (hout : ∀ y s r, I (y * w) s → y < h → Ev (fun k => F1 k s y 0) r → Ev (fun k => F0 k s y) r)
    (hin : ∀ y x s r, I (y * w + x) s → y < h → x < w → Ev (fun k => F1 k (g (y * w + x) s) y (x + 1)) r → Ev (fun k => F1 k s y x) r)
    (hI : ∀ y x s, I (y * w + x) s → y < h → x < w → I (y * w + (x + 1)) (g (y * w + x) s))
    (hrow : ∀ y s r, I (y * w + w) s → y < h → Ev (fun k => F0 k s (y + 1)) r → Ev (fun k => F1 k s y w) r)
    (hend : ∀ s, I (h * w) s → Ev (fun k => F0 k s h) (fin s)) : ∀ s, I 0 s → Ev (fun k => F0 k s 0) (fin (iter g 0 (h * w) s)) := by
  have row : ∀ d y x s r, w - x = d → x ≤ w → y < h → I (y * w + x) s → Ev (fun k => F0 k (iter g (y * w + x) d s) (y + 1)) r → Ev (fun k => F1 k s y x) r := by
    intro d
    induction d with
    | zero =>
      intro y x s r h0 h1 h2 h3 h4
      obtain rfl : x = w := by omega
      exact hrow y s r h3 h2 h4
    | succ d ih =>
      intro y x s r h0 h1 h2 h3 h4
      exact hin y x s r h3 h2 (by omega) (ih y (x + 1) _ r (by omega) (by omega) h2 (hI y x s h3 h2 (by omega)) h4)
  have rowI : ∀ d y x s, w - x = d → x ≤ w → y < h → I (y * w + x) s → I (y * w + w) (iter g (y * w + x) d s) := by
    intro d
    induction d with
    | zero =>
      intro y x s h0 h1 h2 h3
      obtain rfl : x = w := by omega
      exact h3
    | succ d ih =>
      intro y x s h0 h1 h2 h3
      exact ih y (x + 1) _ (by omega) (by omega) h2 (hI y x s h3 h2 (by omega))
  have key : ∀ d y s, h - y = d → y ≤ h → I (y * w) s → Ev (fun k => F0 k s y) (fin (iter g (y * w) (d * w) s)) := by
    intro d
    induction d with
    | zero =>
      intro y s h0 h1 h2
      obtain rfl : y = h := by omega
      rw [Nat.zero_mul]
      exact hend s h2
    | succ d ih =>
      intro y s h0 h1 h2
      have hb := rowI w y 0 s (by omega) (Nat.zero_le _) (by omega) h2
      have e1 : y * w + w = (y + 1) * w := by rw [Nat.add_mul, Nat.one_mul]
      rw [Nat.add_zero] at hb
      rw [e1] at hb
      have hk := ih (y + 1) _ (by omega) (by omega) hb
      rw [show (d + 1) * w = w + d * w by rw [Nat.add_mul, Nat.one_mul]; omega, iter_add, e1]
      exact hout y s _ h2 (by omega) (row w y 0 s _ (by omega) (Nat.zero_le _) (by omega) h2 hk)
  intro s h0
  have hk := key h 0 s (by omega) (Nat.zero_le _) (by rw [Nat.zero_mul]; exact h0)
  rw [Nat.zero_mul] at hk
  exact hk

end Go.Proofs.Ytfiijdiccjapiaa.Pure
/- 'Within' of the program and of the reference: the same test. No conditions. -/
namespace Go.Proofs.Ytfiijdiccjapiaa.Pure
set_option linter.unusedVariables false
set_option linter.unusedSimpArgs false
open Go.RowKit Go.Proofs.Ytfiijdiccjapiaa.P Go.Proofs.YtfiijdiccjapiaaW.PrintWords Go.Proofs.YtfiijdiccjapiaaW.PrintLast
def inb (x a b : Int) : Bool := decide (a ≤ x) && decide (x ≤ b)
theorem inb_iff {x a b : Int} : inb x a b = true ↔ a ≤ x ∧ x ≤ b := by simp [inb]
theorem l1In_is (x a b : Int) : spec_l1In.f x a b = some (inb x a b) := by
  unfold spec_l1In.f inb
  split
  · rename_i h; simp [show a ≤ x from h]
  · rename_i h; simp [show ¬ a ≤ x from h]
theorem within_is (x a b : Int) : impl_within.f x a b = some (inb x a b) := l1In_is x a b
end Go.Proofs.Ytfiijdiccjapiaa.Pure
/- Are all numbers of a list within bounds? The program's answer. No conditions but that the list is no longer than a machine allows. -/
namespace Go.Proofs.Ytfiijdiccjapiaa.Pure
set_option linter.unusedVariables false
set_option linter.unusedSimpArgs false
open Go.RowKit Go.Proofs.Ytfiijdiccjapiaa.P Go.Proofs.YtfiijdiccjapiaaW.PrintWords Go.Proofs.YtfiijdiccjapiaaW.PrintLast
theorem allWithin_ev (l : List Int) (a b : Int) (hl : l.length ≤ 9223372036854775806) : Ev (fun k => impl_allWithin.f k l a b) (rall (fun i => inb (l.getD i 0) a b) 0 l.length) :=
  allb_ev (fun k i => impl_allWithin.l0 k a b l (l.length : Int) (i : Int)) l.length (fun i => inb (l.getD i 0) a b)
    (fun i r hi hp h => ev_step (fun k => by
      simp only [impl_allWithin.l0, within_is, Option.bind_some, rd_nat]
      rw [if_pos (by omega), if_pos (by omega), if_pos (by omega), if_pos hp, w64 (by omega) (by omega)]
      rfl) h)
    (fun i hi hp => ev_step (f := fun _ => some false) (fun k => by
      simp only [impl_allWithin.l0, within_is, Option.bind_some, rd_nat]
      rw [if_pos (by omega), if_pos (by omega), if_pos (by omega), if_neg (by rw [hp]; decide)]) (ev_some _))
    (ev_step (f := fun _ => some true) (fun k => by
      simp only [impl_allWithin.l0]
      rw [if_neg (by omega)]) (ev_some _))
theorem rall_and (p q : Nat → Bool) : ∀ d i, rall (fun j => p j && q j) i d = (rall p i d && rall q i d)
  | 0, i => rfl
  | d + 1, i => by
    show ((p i && q i) && rall (fun j => p j && q j) (i + 1) d) = ((p i && rall p (i + 1) d) && (q i && rall q (i + 1) d))
    rw [rall_and p q d (i + 1)]
    cases p i <;> cases q i <;> cases rall p (i + 1) d <;> rfl
end Go.Proofs.Ytfiijdiccjapiaa.Pure
-- written by mp.py (this session's), with the print's functions; Lean checks it
namespace Go.Proofs.Ytfiijdiccjapiaa.P
open Go.RowKit Go.Proofs.YtfiijdiccjapiaaW.PrintWords Go.Proofs.YtfiijdiccjapiaaW.PrintLast Go.Proofs.YtfiijdiccjapiaaW.PrintMore
attribute [local go_sem] max2_int min2_int max_two min_two max_three min_three max_four min_four   -- for this text's walks alone
set_option linter.unusedVariables false
set_option linter.unusedSimpArgs false

/-! ### spec_l2Value: function 132 -/
def spec_l2Value.f (a0 : Int) : Option (Bool) := if a0 = (-9999) then (some true) else ((spec_l1In.f a0 (-9000) 9000).bind fun t101 => (some t101))
set_option maxHeartbeats 8000000 in
set_option maxRecDepth 100000 in
theorem spec_l2Value.calls (a0 : Int) (r : Bool) (w : World) (h : spec_l2Value.f a0 = some r) :
    Calls Try.prog 132 #[.int .i64 a0] w fun e w' => e = .returned (.bool r) ∧ Drawn0 w w' := by
  have H : (if a0 = (-9999) then (some true) else ((spec_l1In.f a0 (-9000) 9000).bind fun t101 => (some t101))) = some r := h
  clear h
  by_cases c2 : a0 = (-9999)
  · rw [if_pos c2] at H
    have c2b0 : (a0 == (-9999)) = true := beq_iff_eq.mpr c2
    have c2b1 : (a0 != (-9999)) = false := bne_eq_false_iff_eq.mpr c2
    clear c2
    obtain rfl := Option.some.inj H
    go_enter Try.func132, Try.ntmps132
    go_wp2
    go_ret
    exact ⟨by first | rfl | (simp; done) | (simp [*]; done), by repeat (first | exact Drawn0.refl _ | apply Drawn0.step)⟩
  · rw [if_neg c2] at H
    have c2b0 : (a0 == (-9999)) = false := beq_eq_false_iff_ne.mpr c2
    have c2b1 : (a0 != (-9999)) = true := bne_iff_ne.mpr c2
    replace H := Option.bind_eq_some_iff.mp H
    obtain ⟨t101, A30, H⟩ := H
    replace H : (some t101) = some r := H
    have A3 := Aside0.mk A30
    clear A30
    obtain rfl := Option.some.inj H
    go_enter Try.func132, Try.ntmps132
    go_wp2_with (first | (go_at_call 69; (with_reducible refine (spec_l1In.calls a0 (-9000) 9000 t101 _ A3.out).mono ?_); rintro e w' ⟨rfl, ⟨nd, rfl⟩⟩))
    go_ret
    exact ⟨by first | rfl | (simp; done) | (simp [*]; done), by repeat (first | exact Drawn0.refl _ | apply Drawn0.step)⟩

end Go.Proofs.Ytfiijdiccjapiaa.P
-- written by mp.py (this session's), with the print's functions; Lean checks it
namespace Go.Proofs.Ytfiijdiccjapiaa.P
open Go.RowKit Go.Proofs.YtfiijdiccjapiaaW.PrintWords Go.Proofs.YtfiijdiccjapiaaW.PrintLast Go.Proofs.YtfiijdiccjapiaaW.PrintMore
attribute [local go_sem] max2_int min2_int max_two min_two max_three min_three max_four min_four   -- for this text's walks alone
set_option linter.unusedVariables false
set_option linter.unusedSimpArgs false

/-! ### spec_l2Good: function 76 -/
mutual
def spec_l2Good.j0 : Nat → Bool → Int → Int → List Int → Option (Bool)
  | 0, _, _, _, _ => none
  | k + 1, x20, x102000, x102001, x102002 => if x20 = true then (some false) else (spec_l2Good.l0 k 0 x102000 x102001 x102002)
def spec_l2Good.l0 : Nat → Int → Int → Int → List Int → Option (Bool)
  | 0, _, _, _, _ => none
  | k + 1, x3, x102000, x102001, x102002 => if x3 < (x102002.length : Int) then (if 0 ≤ x3 then ((spec_l2Value.f (rd x102002 x3)).bind fun t104 => (if t104 = true then (spec_l2Good.l0 k (wrap64 (x3 + 1)) x102000 x102001 x102002) else (some false))) else (none)) else (some true)
end
def spec_l2Good.f (k : Nat) (a0_0 : Int) (a0_1 : Int) (l0_2 : List Int) : Option (Bool) := (spec_l2Shape.f a0_0 a0_1).bind fun t102 => (if t102 = true then (spec_l2Good.j0 k ((l0_2.length : Int) != (wrap64 (a0_0 * a0_1))) a0_0 a0_1 l0_2) else (spec_l2Good.j0 k true a0_0 a0_1 l0_2))
theorem spec_l2Good.mono_l : ∀ k, (∀ y0 y1 y2 y3, LeO (spec_l2Good.j0 k y0 y1 y2 y3) (spec_l2Good.j0 (k + 1) y0 y1 y2 y3)) ∧ (∀ y0 y1 y2 y3, LeO (spec_l2Good.l0 k y0 y1 y2 y3) (spec_l2Good.l0 (k + 1) y0 y1 y2 y3))
  | 0 => ⟨fun _ _ _ _ r h => by simp [spec_l2Good.j0] at h, fun _ _ _ _ r h => by simp [spec_l2Good.l0] at h⟩
  | k + 1 => by
    obtain ⟨ih0, ih1⟩ := spec_l2Good.mono_l k
    refine ⟨?_, ?_⟩
    · intro y0 y1 y2 y3
      unfold spec_l2Good.j0
      repeat' first
      | (with_reducible exact ih0 _ _ _ _)
      | (with_reducible exact ih1 _ _ _ _)
      | (with_reducible exact LeO.refl _)
      | (with_reducible exact LeO.none _)
      | (with_reducible refine LeO.ite ?_ ?_)
      | (with_reducible refine LeO.bind ?_ (fun _ => ?_))
      | exact ih0 _ _ _ _
      | exact ih1 _ _ _ _
      | exact LeO.none _
      | refine LeO.ite ?_ ?_
      | refine LeO.bind ?_ (fun _ => ?_)
    · intro y0 y1 y2 y3
      unfold spec_l2Good.l0
      repeat' first
      | (with_reducible exact ih0 _ _ _ _)
      | (with_reducible exact ih1 _ _ _ _)
      | (with_reducible exact LeO.refl _)
      | (with_reducible exact LeO.none _)
      | (with_reducible refine LeO.ite ?_ ?_)
      | (with_reducible refine LeO.bind ?_ (fun _ => ?_))
      | exact ih0 _ _ _ _
      | exact ih1 _ _ _ _
      | exact LeO.none _
      | refine LeO.ite ?_ ?_
      | refine LeO.bind ?_ (fun _ => ?_)
theorem spec_l2Good.mono : ∀ a0 a1 a2 k, LeO (spec_l2Good.f k a0 a1 a2) (spec_l2Good.f (k + 1) a0 a1 a2) := by
  intro a0 a1 a2 k
  obtain ⟨ih0, ih1⟩ := spec_l2Good.mono_l k
  unfold spec_l2Good.f
  repeat' first
      | (with_reducible exact ih0 _ _ _ _)
      | (with_reducible exact ih1 _ _ _ _)
      | (with_reducible exact LeO.refl _)
      | (with_reducible exact LeO.none _)
      | (with_reducible refine LeO.ite ?_ ?_)
      | (with_reducible refine LeO.bind ?_ (fun _ => ?_))
      | exact ih0 _ _ _ _
      | exact ih1 _ _ _ _
      | exact LeO.none _
      | refine LeO.ite ?_ ?_
      | refine LeO.bind ?_ (fun _ => ?_)
set_option maxHeartbeats 8000000 in
set_option maxRecDepth 100000 in
theorem spec_l2Good.calls (k : Nat) (a0_0 : Int) (a0_1 : Int) (A0_2 : Option Addr) (c0_2 : Nat) (l0_2 : List Int) (r : Bool) (w : World) (hr0_2 : Kd.C (Kd.int .i64) w A0_2 l0_2.length l0_2) (hc0_2 : l0_2.length ≤ c0_2) (h : spec_l2Good.f k a0_0 a0_1 l0_2 = some r) :
    Calls Try.prog 76 #[.agg #[.int .i64 a0_0, .int .i64 a0_1, .slice A0_2 l0_2.length c0_2]] w fun e w' => e = .returned (.bool r) ∧ Below w.heap.size w w' := by
  have hu34 := Try.underlying34
  have HR0_2 := Aside0.mk hr0_2
  have HC0_2 := Aside0.mk hc0_2
  clear hr0_2 hc0_2
  have HB := Aside0.mk (Below.refl w.heap.size w)
  have H : ((spec_l2Shape.f a0_0 a0_1).bind fun t102 => (if t102 = true then (spec_l2Good.j0 k ((l0_2.length : Int) != (wrap64 (a0_0 * a0_1))) a0_0 a0_1 l0_2) else (spec_l2Good.j0 k true a0_0 a0_1 l0_2))) = some r := h
  clear h
  have HC2 := Aside0.mk H
  clear H
  go_enter Try.func76, Try.ntmps76
  go_upto_region 1 with (first | ((with_reducible refine gate_dst (N := 1) rfl ?_); (try (refine gate_guard (by rfl) ?_; dsimp only)); refine box_event ?hg (N := 1) ?hd (cs := #[.int .i64 a0_0, .int .i64 a0_1, .slice A0_2 l0_2.length c0_2]) (t := 34) ?hr ?_; (case hd => rfl); (case hg => rfl); (case hr => first | (go_simp; done) | (go_simp; rfl)); intro gb101 hg w3 hbox hb; have n0_ := Aside0.mk (below_step (by repeat (first | (with_reducible first | exact HB.out | apply below_alloc | apply pw_below_drewN | apply below_drew1) | exact HB.out)) hb); have n1_ := Aside0.mk (hbox); have n2_ := Aside0.mk ((by rw [hg]; exact (below_size (by repeat (first | (with_reducible first | exact HB.out | apply below_alloc | apply pw_below_drewN | apply below_drew1) | exact HB.out))) : w.heap.size ≤ gb101)); have n3_ := Aside0.mk ((by rw [hg]; exact (below_size (by repeat (first | (with_reducible first | exact HB.out | apply below_alloc | apply pw_below_drewN | apply below_drew1) | exact HB.out))) : w.heap.size ≤ gb101)); clear HB; have HB := n0_; have BK101 := n1_; have GW101 := n2_; have GE101 := n3_; clear n0_ n1_ n2_ n3_; clear hb hbox hg))
  (try simp only [Act.put, List.setIfInBounds_toArray, List.set_cons_zero, List.set_cons_succ])
  go_cut [20] (fun v20 wc => ∃ (kq : Nat) (x20_1 : Bool), v20 = .bool x20_1 ∧ Aside0 (spec_l2Good.j0 kq x20_1 a0_0 a0_1 l0_2 = some r) ∧ Aside0 (kq ≤ k) ∧ Aside0 (wc.heap[gb101]? = some (.cells #[.int .i64 a0_0, .int .i64 a0_1, (.slice A0_2 l0_2.length c0_2)] 34 (0, 0))) ∧ Aside0 (Below w.heap.size w wc))
  case first =>
    have H := HC2.out
    clear HC2
    replace H := Option.bind_eq_some_iff.mp H
    obtain ⟨t102, A40, H⟩ := H
    replace H : (if t102 = true then (spec_l2Good.j0 k ((l0_2.length : Int) != (wrap64 (a0_0 * a0_1))) a0_0 a0_1 l0_2) else (spec_l2Good.j0 k true a0_0 a0_1 l0_2)) = some r := H
    have A4 := Aside0.mk A40
    clear A40
    by_cases c5 : t102 = true
    · subst c5
      have H1 : (spec_l2Good.j0 k ((l0_2.length : Int) != (wrap64 (a0_0 * a0_1))) a0_0 a0_1 l0_2) = some r := by rw [if_pos rfl] at H; exact H
      clear H
      have H := H1
      clear H1
      have H' := Aside0.mk H
      clear H
      have hcz6_0 : w3.cell? ⟨gb101, 0, none⟩ = some (.int .i64 a0_0) := (blk_cell BK101.out 0).trans rfl
      have hcz6_1 : w3.cell? ⟨gb101, 1, none⟩ = some (.int .i64 a0_1) := (blk_cell BK101.out 1).trans rfl
      have hcz6_2 : w3.cell? ⟨gb101, 2, none⟩ = some (.slice A0_2 l0_2.length c0_2) := (blk_cell BK101.out 2).trans rfl
      have hfz6_0 := blk_frozen BK101.out 0
      have hfz6_1 := blk_frozen BK101.out 1
      have hfz6_2 := blk_frozen BK101.out 2
      go_wp2_with (first | ((with_reducible refine gate_callee (f := 120) rfl ?_); refine goesL_ (some 8) rfl rfl Try.func120 (by kernel_rfl) rfl #[.int .i64 a0_0, .int .i64 a0_1] rfl (by (try simp only [List.map_toArray, List.map_cons, List.map_nil]); first | done | rfl | (simp only [List.length_drop, List.length_take]; rfl)) ?_; (with_reducible refine (spec_l2Shape.calls a0_0 a0_1 true _ A4.out).mono ?_); rintro e w' ⟨rfl, ⟨nd, rfl⟩⟩; refine ⟨_, rfl, ?_⟩))
      go_meet
      case rel => exact ⟨_, (((l0_2.length : Int) != (wrap64 (a0_0 * a0_1)))), (by first | rfl | (simp; done) | (simp [*]; done)), H', ⟨by first | omega | exact Nat.le_refl _⟩, ⟨by (with_reducible repeat (first | refine blk_drewN ?_ _ | refine blk_drew ?_ | refine blk_alloc ?_ _)); exact BK101.out⟩, ⟨by repeat (first | (with_reducible first | exact HB.out | apply below_alloc | apply pw_below_drewN | apply below_drew1 | refine below_set ?_ GE101.out) | exact HB.out)⟩⟩
    · replace c5 := Bool.eq_false_iff.mpr c5
      subst c5
      have H1 : (spec_l2Good.j0 k true a0_0 a0_1 l0_2) = some r := by rw [if_neg (show ¬ (false = true) by decide)] at H; exact H
      clear H
      have H := H1
      clear H1
      have H' := Aside0.mk H
      clear H
      have hcz7_0 : w3.cell? ⟨gb101, 0, none⟩ = some (.int .i64 a0_0) := (blk_cell BK101.out 0).trans rfl
      have hcz7_1 : w3.cell? ⟨gb101, 1, none⟩ = some (.int .i64 a0_1) := (blk_cell BK101.out 1).trans rfl
      have hcz7_2 : w3.cell? ⟨gb101, 2, none⟩ = some (.slice A0_2 l0_2.length c0_2) := (blk_cell BK101.out 2).trans rfl
      have hfz7_0 := blk_frozen BK101.out 0
      have hfz7_1 := blk_frozen BK101.out 1
      have hfz7_2 := blk_frozen BK101.out 2
      go_wp2_with (first | ((with_reducible refine gate_callee (f := 120) rfl ?_); refine goesL_ (some 8) rfl rfl Try.func120 (by kernel_rfl) rfl #[.int .i64 a0_0, .int .i64 a0_1] rfl (by (try simp only [List.map_toArray, List.map_cons, List.map_nil]); first | done | rfl | (simp only [List.length_drop, List.length_take]; rfl)) ?_; (with_reducible refine (spec_l2Shape.calls a0_0 a0_1 false _ A4.out).mono ?_); rintro e w' ⟨rfl, ⟨nd, rfl⟩⟩; refine ⟨_, rfl, ?_⟩))
      go_meet
      case rel => exact ⟨_, (true), (by first | rfl | (simp; done) | (simp [*]; done)), H', ⟨by first | omega | exact Nat.le_refl _⟩, ⟨by (with_reducible repeat (first | refine blk_drewN ?_ _ | refine blk_drew ?_ | refine blk_alloc ?_ _)); exact BK101.out⟩, ⟨by repeat (first | (with_reducible first | exact HB.out | apply below_alloc | apply pw_below_drewN | apply below_drew1 | refine below_set ?_ GE101.out) | exact HB.out)⟩⟩
  case rest =>
    clear HC2
    try clear c1
    try clear p2
    try clear c5
    try clear p6
    try clear c7
    try clear hcz6_0
    try clear hcz6_1
    try clear hcz6_2
    try clear hcz7_0
    try clear hcz7_1
    try clear hcz7_2
    try clear hfz6_0
    try clear hfz6_1
    try clear hfz6_2
    try clear hfz7_0
    try clear hfz7_1
    try clear hfz7_2
    obtain ⟨kq, x20_1, rfl, HA, HJ1, BK101, HB⟩ := hcut
    cases kq with
    | zero => exact absurd HA.out (by simp [spec_l2Good.j0])
    | succ kj1 =>
      have H := HA.out
      clear HA
      simp only [spec_l2Good.j0] at H
      by_cases c8 : x20_1 = true
      · subst c8
        have H1 : (some false) = some r := by rw [if_pos rfl] at H; exact H
        clear H
        have H := H1
        clear H1
        obtain rfl := Option.some.inj H
        go_wp2
        go_ret
        exact ⟨by first | rfl | (simp [errW_none, errW_some] <;> rfl) | (simp [*, errW_none, errW_some] <;> rfl), by repeat (first | (with_reducible first | exact HB.out | apply below_alloc | apply pw_below_drewN | apply below_drew1 | refine below_set ?_ GE101.out) | exact HB.out)⟩
      · replace c8 := Bool.eq_false_iff.mpr c8
        subst c8
        have H1 : (spec_l2Good.l0 kj1 0 a0_0 a0_1 l0_2) = some r := by rw [if_neg (show ¬ (false = true) by decide)] at H; exact H
        clear H
        have H := H1
        clear H1
        have H' := Aside0.mk H
        clear H
        go_wp2
        go_loopg [3] kj1 (fun kq v3 w' => ∃ (x3_2 : Int), v3 = .int .i64 x3_2 ∧ Aside0 (spec_l2Good.l0 kq x3_2 a0_0 a0_1 l0_2 = some r) ∧ Aside0 (kq ≤ kj1) ∧ Aside0 (w'.heap[gb101]? = some (.cells #[.int .i64 a0_0, .int .i64 a0_1, (.slice A0_2 l0_2.length c0_2)] 34 (0, 0))) ∧ Aside0 (Below w.heap.size w w'))
        case atStart => exact ⟨(0), (by first | rfl | (simp; done) | (simp [*]; done)), H', ⟨Nat.le_refl _⟩, ⟨by (with_reducible repeat (first | refine blk_drewN ?_ _ | refine blk_drew ?_ | refine blk_alloc ?_ _)); exact BK101.out⟩, ⟨by repeat (first | (with_reducible first | exact HB.out | apply below_alloc | apply pw_below_drewN | apply below_drew1 | refine below_set ?_ GE101.out) | exact HB.out)⟩⟩
        case round =>
          clear H'
          try clear c1
          try clear p2
          try clear c5
          try clear p6
          try clear c7
          try clear c8
          try clear hcz6_0
          try clear hcz6_1
          try clear hcz6_2
          try clear hcz7_0
          try clear hcz7_1
          try clear hcz7_2
          try clear hfz6_0
          try clear hfz6_1
          try clear hfz6_2
          try clear hfz7_0
          try clear hfz7_1
          try clear hfz7_2
          try clear p2
          try clear p6
          obtain ⟨x3_2, rfl, HA, HK2, BK101, HB⟩ := hrel
          cases gk with
          | zero => exact absurd HA.out (by simp [spec_l2Good.l0])
          | succ k2 =>
            have H := HA.out
            clear HA
            simp only [spec_l2Good.l0] at H
            by_cases c9 : x3_2 < (l0_2.length : Int)
            · rw [if_pos c9] at H
              have c9b0 : decide (x3_2 < (l0_2.length : Int)) = true := decide_eq_true c9
              clear c9
              by_cases c10 : 0 ≤ x3_2
              · rw [if_pos c10] at H
                have c10b0 : decide (0 ≤ x3_2) = true := decide_eq_true c10
                clear c10
                replace H := Option.bind_eq_some_iff.mp H
                obtain ⟨t104, A110, H⟩ := H
                replace H : (if t104 = true then (spec_l2Good.l0 k2 (wrap64 (x3_2 + 1)) a0_0 a0_1 l0_2) else (some false)) = some r := H
                have A11 := Aside0.mk A110
                clear A110
                by_cases c12 : t104 = true
                · subst c12
                  have H1 : (spec_l2Good.l0 k2 (wrap64 (x3_2 + 1)) a0_0 a0_1 l0_2) = some r := by rw [if_pos rfl] at H; exact H
                  clear H
                  have H := H1
                  clear H1
                  have H' := Aside0.mk H
                  clear H
                  have hcz13_0 : wr.cell? ⟨gb101, 0, none⟩ = some (.int .i64 a0_0) := (blk_cell BK101.out 0).trans rfl
                  have hcz13_1 : wr.cell? ⟨gb101, 1, none⟩ = some (.int .i64 a0_1) := (blk_cell BK101.out 1).trans rfl
                  have hcz13_2 : wr.cell? ⟨gb101, 2, none⟩ = some (.slice A0_2 l0_2.length c0_2) := (blk_cell BK101.out 2).trans rfl
                  have hfz13_0 := blk_frozen BK101.out 0
                  have hfz13_1 := blk_frozen BK101.out 1
                  have hfz13_2 := blk_frozen BK101.out 2
                  have p103 : 0 ≤ (x3_2 : Int) := of_decide_eq_true (by first | (with_reducible assumption) | assumption)
                  have q103 : x3_2 < (l0_2.length : Int) := of_decide_eq_true (by first | (with_reducible assumption) | assumption)
                  obtain ⟨ad103, e103, hx103_0⟩ := Kd.at_int HR0_2.out x3_2 p103 q103
                  cases e103
                  replace hx103_0 := (HB.out.cell (World.block_lt_of_cell? w _ hx103_0)).trans hx103_0
                  replace p103 := eq_true p103
                  replace q103 := eq_true q103
                  go_wp2_with (first | ((with_reducible refine gate_callee (f := 132) rfl ?_); refine goesL_ (some 33) rfl rfl Try.func132 (by kernel_rfl) rfl #[.int .i64 (rd l0_2 x3_2)] rfl (by (try simp only [List.map_toArray, List.map_cons, List.map_nil]); first | done | rfl | (simp only [List.length_drop, List.length_take]; rfl)) ?_; (with_reducible refine (spec_l2Value.calls (rd l0_2 x3_2) true _ A11.out).mono ?_); rintro e w' ⟨rfl, ⟨nd, rfl⟩⟩; refine ⟨_, rfl, ?_⟩))
                  go_roundg k2
                  case measure => have := HJ1.out; have := HK2.out; omega
                  case rel => exact ⟨(wrap64 (x3_2 + 1)), (by first | rfl | (simp; done) | (simp [*]; done)), H', ⟨by have := HJ1.out; have := HK2.out; omega⟩, ⟨by (with_reducible repeat (first | refine blk_drewN ?_ _ | refine blk_drew ?_ | refine blk_alloc ?_ _)); exact BK101.out⟩, ⟨by repeat (first | (with_reducible first | exact HB.out | apply below_alloc | apply pw_below_drewN | apply below_drew1 | refine below_set ?_ GE101.out) | exact HB.out)⟩⟩
                · replace c12 := Bool.eq_false_iff.mpr c12
                  subst c12
                  have H1 : (some false) = some r := by rw [if_neg (show ¬ (false = true) by decide)] at H; exact H
                  clear H
                  have H := H1
                  clear H1
                  obtain rfl := Option.some.inj H
                  have hcz14_0 : wr.cell? ⟨gb101, 0, none⟩ = some (.int .i64 a0_0) := (blk_cell BK101.out 0).trans rfl
                  have hcz14_1 : wr.cell? ⟨gb101, 1, none⟩ = some (.int .i64 a0_1) := (blk_cell BK101.out 1).trans rfl
                  have hcz14_2 : wr.cell? ⟨gb101, 2, none⟩ = some (.slice A0_2 l0_2.length c0_2) := (blk_cell BK101.out 2).trans rfl
                  have hfz14_0 := blk_frozen BK101.out 0
                  have hfz14_1 := blk_frozen BK101.out 1
                  have hfz14_2 := blk_frozen BK101.out 2
                  have p103 : 0 ≤ (x3_2 : Int) := of_decide_eq_true (by first | (with_reducible assumption) | assumption)
                  have q103 : x3_2 < (l0_2.length : Int) := of_decide_eq_true (by first | (with_reducible assumption) | assumption)
                  obtain ⟨ad103, e103, hx103_0⟩ := Kd.at_int HR0_2.out x3_2 p103 q103
                  cases e103
                  replace hx103_0 := (HB.out.cell (World.block_lt_of_cell? w _ hx103_0)).trans hx103_0
                  replace p103 := eq_true p103
                  replace q103 := eq_true q103
                  go_wp2_with (first | ((with_reducible refine gate_callee (f := 132) rfl ?_); refine goesL_ (some 33) rfl rfl Try.func132 (by kernel_rfl) rfl #[.int .i64 (rd l0_2 x3_2)] rfl (by (try simp only [List.map_toArray, List.map_cons, List.map_nil]); first | done | rfl | (simp only [List.length_drop, List.length_take]; rfl)) ?_; (with_reducible refine (spec_l2Value.calls (rd l0_2 x3_2) false _ A11.out).mono ?_); rintro e w' ⟨rfl, ⟨nd, rfl⟩⟩; refine ⟨_, rfl, ?_⟩))
                  go_ret
                  exact ⟨by first | rfl | (simp [errW_none, errW_some] <;> rfl) | (simp [*, errW_none, errW_some] <;> rfl), by repeat (first | (with_reducible first | exact HB.out | apply below_alloc | apply pw_below_drewN | apply below_drew1 | refine below_set ?_ GE101.out) | exact HB.out)⟩
              · rw [if_neg c10] at H
                exact absurd H (by simp)
            · rw [if_neg c9] at H
              have c9b0 : decide (x3_2 < (l0_2.length : Int)) = false := decide_eq_false c9
              clear c9
              obtain rfl := Option.some.inj H
              have hcz15_0 : wr.cell? ⟨gb101, 0, none⟩ = some (.int .i64 a0_0) := (blk_cell BK101.out 0).trans rfl
              have hcz15_1 : wr.cell? ⟨gb101, 1, none⟩ = some (.int .i64 a0_1) := (blk_cell BK101.out 1).trans rfl
              have hcz15_2 : wr.cell? ⟨gb101, 2, none⟩ = some (.slice A0_2 l0_2.length c0_2) := (blk_cell BK101.out 2).trans rfl
              have hfz15_0 := blk_frozen BK101.out 0
              have hfz15_1 := blk_frozen BK101.out 1
              have hfz15_2 := blk_frozen BK101.out 2
              go_wp2
              go_ret
              exact ⟨by first | rfl | (simp [errW_none, errW_some] <;> rfl) | (simp [*, errW_none, errW_some] <;> rfl), by repeat (first | (with_reducible first | exact HB.out | apply below_alloc | apply pw_below_drewN | apply below_drew1 | refine below_set ?_ GE101.out) | exact HB.out)⟩

end Go.Proofs.Ytfiijdiccjapiaa.P
-- written by mp.py (this session's), with the print's functions; Lean checks it
namespace Go.Proofs.Ytfiijdiccjapiaa.P
open Go.RowKit Go.Proofs.YtfiijdiccjapiaaW.PrintWords Go.Proofs.YtfiijdiccjapiaaW.PrintLast Go.Proofs.YtfiijdiccjapiaaW.PrintMore
attribute [local go_sem] max2_int min2_int max_two min_two max_three min_three max_four min_four   -- for this text's walks alone
set_option linter.unusedVariables false
set_option linter.unusedSimpArgs false

/-! ### slices_IndexFunc_int_int: function 175 -/
/-- What is asked of a function value handed on: at every x, in every world in which all that lay in w lies unturned, it answers p x. -/
def PredOK {α : Type} (g : Nat) (lb : Array Value) (enc : α → Value) (p : α → Bool) (w : World) : Prop :=
  ∀ (x : α) (W : World), Below w.heap.size w W → Calls Try.prog g (#[enc x] ++ lb) W fun e W' => e = .returned (.bool (p x)) ∧ Below W.heap.size W W'
/-- The first index from i on at which p holds, or -1. -/
def idxFrom {α : Type} (p : α → Bool) : Nat → List α → Int
  | _, [] => -1
  | i, x :: xs => if p x = true then (i : Int) else idxFrom p (i + 1) xs
theorem idxFrom_hit {α : Type} (p : α → Bool) (z : α) : ∀ (xs : List α) (i k : Nat), k < xs.length → p (xs.getD k z) = true → (∀ j, j < k → p (xs.getD j z) = false) → idxFrom p i xs = ((i + k : Nat) : Int)
  | [], _, k, h, _, _ => by simp at h
  | x :: xs, i, 0, _, h, _ => by simp only [List.getD_cons_zero] at h; simp [idxFrom, h]
  | x :: xs, i, k + 1, hk, h, hb => by
    have h0 : p x = false := by simpa using hb 0 (by omega)
    simp only [idxFrom, h0, Bool.false_eq_true, if_false]
    rw [idxFrom_hit p z xs (i + 1) k (by simpa using hk) (by simpa using h) (fun j hj => by simpa using hb (j + 1) (by omega))]
    congr 1
    omega
theorem idxFrom_miss {α : Type} (p : α → Bool) (z : α) : ∀ (xs : List α) (i : Nat), (∀ j, j < xs.length → p (xs.getD j z) = false) → idxFrom p i xs = -1
  | [], _, _ => rfl
  | x :: xs, i, hb => by
    have h0 : p x = false := by simpa using hb 0 (by simp)
    simp only [idxFrom, h0, Bool.false_eq_true, if_false]
    exact idxFrom_miss p z xs (i + 1) (fun j hj => by simpa using hb (j + 1) (by simpa using hj))
theorem idxFrom_any {α : Type} (p : α → Bool) : ∀ (xs : List α) (i : Nat), decide (idxFrom p i xs ≥ 0) = xs.any p
  | [], _ => rfl
  | x :: xs, i => by
    simp only [idxFrom, List.any_cons]
    by_cases h : p x = true
    · simp [h]
    · rw [Bool.not_eq_true] at h
      simp only [h, Bool.false_eq_true, if_false, Bool.false_or]
      exact idxFrom_any p xs (i + 1)
set_option maxHeartbeats 2000000 in
set_option maxRecDepth 100000 in
theorem indexFunc_int (g : Nat) (lb : Array Value) (p : Int → Bool) (eg : ∀ args w, (callFunc g args).run Try.prog w = .ok (.enter g args) w) (A : Option Addr) (c : Nat) (xs : List Int) (w : World)
    (hr : Kd.C (Kd.int .i64) w A xs.length xs) (hp : PredOK g lb (Value.int .i64) p w) :
    Calls Try.prog 175 #[.slice A xs.length c, .func (.func g) #[] lb] w fun e w' => e = .returned (.int .i64 (idxFrom p 0 xs)) ∧ Below w.heap.size w w' := by
  have hn : xs.length ≤ 9223372036854775807 := hr.2.1
  have HR := Aside0.mk hr
  clear hr
  go_enter Try.func175, Try.ntmps175
  go_wp2
  go_loopg [5, 8] xs.length (fun gg _ s8 wr => ∃ x : Int, s8 = .int .i64 x ∧ Aside0 (0 ≤ x ∧ x ≤ (xs.length : Int) ∧ (xs.length : Int) - x ≤ (gg : Int) ∧ ∀ j : Nat, (j : Int) < x → p (xs.getD j 0) = false) ∧ Below w.heap.size w wr)
  case atStart => exact ⟨0, rfl, ⟨by omega, by omega, by omega, fun j hj => by omega⟩, Below.refl _ _⟩
  case round =>
    obtain ⟨x, rfl, AA, hb⟩ := hrel
    have HB := Aside0.mk hb
    clear hb
    by_cases hlt : x < (xs.length : Int)
    · have c4b0 : decide (x < (xs.length : Int)) = true := decide_eq_true hlt
      obtain ⟨ad, e0, hcell⟩ := Kd.at_int (Kd.C_below HR.out HB.out) x AA.out.1 hlt
      cases e0
      have hcall := hp (rd xs x) _ HB.out
      have BB : Aside0 (xs.getD x.toNat 0 = rd xs x) := ⟨rfl⟩
      have p101 := eq_true AA.out.1
      have q101 := eq_true hlt
      have LT := Aside0.mk hlt
      clear hlt
      cases hq : p (rd xs x) with
      | true =>
        rw [hq] at hcall
        have HC := Aside0.mk hcall
        have HQ := Aside0.mk hq
        clear hcall hq
        go_wp2_with fail
        refine HC.out.mono ?_
        rintro e w' ⟨rfl, hb'⟩
        have HB2 := Aside0.mk hb'
        clear hb'
        go_wp2_with fail
        go_ret
        have hA := AA.out
        have hl := LT.out
        refine ⟨?_, below_then HB.out HB.out.size HB2.out⟩
        rw [idxFrom_hit p 0 xs 0 x.toNat (by omega) (by rw [BB.out]; exact HQ.out) (fun j hj => hA.2.2.2 j (by omega))]
        rw [show ((0 + x.toNat : Nat) : Int) = x by omega]
        rfl
      | false =>
        rw [hq] at hcall
        have HC := Aside0.mk hcall
        have HQ := Aside0.mk hq
        clear hcall hq
        go_wp2_with fail
        refine HC.out.mono ?_
        rintro e w' ⟨rfl, hb'⟩
        have HB2 := Aside0.mk hb'
        clear hb'
        go_wp2_with fail
        go_roundg (xs.length - (x.toNat + 1))
        case measure => have hA := AA.out; have hl := LT.out; omega
        case rel =>
          have hA := AA.out
          have hl := LT.out
          refine ⟨x + 1, by (first | rfl | (congr 1; unfold wrap64; omega)), ⟨by omega, by omega, by omega, fun j hj => ?_⟩, below_then HB.out HB.out.size HB2.out⟩
          by_cases e : (j : Int) = x
          · have e2 : j = x.toNat := by omega
            rw [e2, BB.out]; exact HQ.out
          · exact hA.2.2.2 j (by omega)
    · have c4b0 : decide (x < (xs.length : Int)) = false := decide_eq_false hlt
      have LT := Aside0.mk hlt
      clear hlt
      go_wp2_with fail
      go_ret
      have hA := AA.out
      have hl := LT.out
      refine ⟨?_, HB.out⟩
      rw [idxFrom_miss p 0 xs 0 (fun j hj => hA.2.2.2 j (by omega))]
      rfl

end Go.Proofs.Ytfiijdiccjapiaa.P
-- written by mp.py (this session's), with the print's functions; Lean checks it
namespace Go.Proofs.Ytfiijdiccjapiaa.P
open Go.RowKit Go.Proofs.YtfiijdiccjapiaaW.PrintWords Go.Proofs.YtfiijdiccjapiaaW.PrintLast Go.Proofs.YtfiijdiccjapiaaW.PrintMore
attribute [local go_sem] max2_int min2_int max_two min_two max_three min_three max_four min_four   -- for this text's walks alone
set_option linter.unusedVariables false
set_option linter.unusedSimpArgs false

/-! ### slices_ContainsFunc_int_int: function 166 -/
set_option maxHeartbeats 2000000 in
set_option maxRecDepth 100000 in
theorem containsFunc_int (g : Nat) (lb : Array Value) (p : Int → Bool) (eg : ∀ args w, (callFunc g args).run Try.prog w = .ok (.enter g args) w) (A : Option Addr) (c : Nat) (xs : List Int) (w : World)
    (hr : Kd.C (Kd.int .i64) w A xs.length xs) (hp : PredOK g lb (Value.int .i64) p w) :
    Calls Try.prog 166 #[.slice A xs.length c, .func (.func g) #[] lb] w fun e w' => e = .returned (.bool (xs.any p)) ∧ Below w.heap.size w w' := by
  rw [← idxFrom_any p xs 0]
  go_enter Try.func166, Try.ntmps166
  go_wp2_with (go_at_call 175; refine (indexFunc_int g lb p eg A c xs _ hr hp).mono ?_; rintro e w' ⟨rfl, hb'⟩)
  go_ret
  exact ⟨rfl, by assumption⟩

end Go.Proofs.Ytfiijdiccjapiaa.P
-- written by mp.py (this session's), with the print's functions; Lean checks it
namespace Go.Proofs.Ytfiijdiccjapiaa.P
open Go.RowKit Go.Proofs.YtfiijdiccjapiaaW.PrintWords Go.Proofs.YtfiijdiccjapiaaW.PrintLast Go.Proofs.YtfiijdiccjapiaaW.PrintMore
attribute [local go_sem] max2_int min2_int max_two min_two max_three min_three max_four min_four   -- for this text's walks alone
set_option linter.unusedVariables false
set_option linter.unusedSimpArgs false

/-! ### impl_isCell: function 168 -/
def impl_isCell.f (a0 : Int) : Option (Bool) := if a0 = (-9999) then (some true) else ((impl_within.f a0 (-9000) 9000).bind fun t101 => (some t101))
set_option maxHeartbeats 8000000 in
set_option maxRecDepth 100000 in
theorem impl_isCell.calls (a0 : Int) (r : Bool) (w : World) (h : impl_isCell.f a0 = some r) :
    Calls Try.prog 168 #[.int .i64 a0] w fun e w' => e = .returned (.bool r) ∧ Drawn0 w w' := by
  have H : (if a0 = (-9999) then (some true) else ((impl_within.f a0 (-9000) 9000).bind fun t101 => (some t101))) = some r := h
  clear h
  by_cases c2 : a0 = (-9999)
  · rw [if_pos c2] at H
    have c2b0 : (a0 == (-9999)) = true := beq_iff_eq.mpr c2
    have c2b1 : (a0 != (-9999)) = false := bne_eq_false_iff_eq.mpr c2
    clear c2
    obtain rfl := Option.some.inj H
    go_enter Try.func168, Try.ntmps168
    go_wp2
    go_ret
    exact ⟨by first | rfl | (simp; done) | (simp [*]; done), by repeat (first | exact Drawn0.refl _ | apply Drawn0.step)⟩
  · rw [if_neg c2] at H
    have c2b0 : (a0 == (-9999)) = false := beq_eq_false_iff_ne.mpr c2
    have c2b1 : (a0 != (-9999)) = true := bne_iff_ne.mpr c2
    replace H := Option.bind_eq_some_iff.mp H
    obtain ⟨t101, A30, H⟩ := H
    replace H : (some t101) = some r := H
    have A3 := Aside0.mk A30
    clear A30
    obtain rfl := Option.some.inj H
    go_enter Try.func168, Try.ntmps168
    go_wp2_with (first | (go_at_call 71; (with_reducible refine (impl_within.calls a0 (-9000) 9000 t101 _ A3.out).mono ?_); rintro e w' ⟨rfl, ⟨nd, rfl⟩⟩))
    go_ret
    exact ⟨by first | rfl | (simp; done) | (simp [*]; done), by repeat (first | exact Drawn0.refl _ | apply Drawn0.step)⟩

end Go.Proofs.Ytfiijdiccjapiaa.P
-- written by mp.py (this session's), with the print's functions; Lean checks it
namespace Go.Proofs.Ytfiijdiccjapiaa.P
open Go.RowKit Go.Proofs.YtfiijdiccjapiaaW.PrintWords Go.Proofs.YtfiijdiccjapiaaW.PrintLast Go.Proofs.YtfiijdiccjapiaaW.PrintMore
attribute [local go_sem] max2_int min2_int max_two min_two max_three min_three max_four min_four   -- for this text's walks alone
set_option linter.unusedVariables false
set_option linter.unusedSimpArgs false

/-! ### impl_IsValidField_1: function 167 -/
def impl_IsValidField_1.f (a0 : Int) : Option (Bool) := (impl_isCell.f a0).bind fun t101 => (some (!t101))
set_option maxHeartbeats 8000000 in
set_option maxRecDepth 100000 in
theorem impl_IsValidField_1.calls (a0 : Int) (r : Bool) (w : World) (h : impl_IsValidField_1.f a0 = some r) :
    Calls Try.prog 167 #[.int .i64 a0] w fun e w' => e = .returned (.bool r) ∧ Drawn0 w w' := by
  have H : ((impl_isCell.f a0).bind fun t101 => (some (!t101))) = some r := h
  clear h
  replace H := Option.bind_eq_some_iff.mp H
  obtain ⟨t101, A20, H⟩ := H
  replace H : (some (!t101)) = some r := H
  have A2 := Aside0.mk A20
  clear A20
  obtain rfl := Option.some.inj H
  go_enter Try.func167, Try.ntmps167
  go_wp2_with (first | ((with_reducible refine gate_callee (f := 168) rfl ?_); refine goesL_ (some 4) rfl rfl Try.func168 (by kernel_rfl) rfl #[.int .i64 a0] rfl (by (try simp only [List.map_toArray, List.map_cons, List.map_nil]); first | done | rfl | (simp only [List.length_drop, List.length_take]; rfl)) ?_; (with_reducible refine (impl_isCell.calls a0 t101 _ A2.out).mono ?_); rintro e w' ⟨rfl, ⟨nd, rfl⟩⟩; refine ⟨_, rfl, ?_⟩))
  go_ret
  exact ⟨by first | rfl | (simp; done) | (simp [*]; done), by repeat (first | exact Drawn0.refl _ | apply Drawn0.step)⟩

end Go.Proofs.Ytfiijdiccjapiaa.P
-- written by mp.py (this session's), with the print's functions; Lean checks it
namespace Go.Proofs.Ytfiijdiccjapiaa.P
open Go.RowKit Go.Proofs.YtfiijdiccjapiaaW.PrintWords Go.Proofs.YtfiijdiccjapiaaW.PrintLast Go.Proofs.YtfiijdiccjapiaaW.PrintMore
attribute [local go_sem] max2_int min2_int max_two min_two max_three min_three max_four min_four   -- for this text's walks alone
set_option linter.unusedVariables false
set_option linter.unusedSimpArgs false

/-! ### slices_ContainsFunc_int_at_impl_IsValidField_1 -/
def slices_ContainsFunc_int_at_impl_IsValidField_1.p (x : Int) : Bool := !(decide (x = -9999) || (decide (-9000 ≤ x) && decide (x ≤ 9000)))
def slices_ContainsFunc_int_at_impl_IsValidField_1.f (l0 : List Int) : Option Bool := some (l0.any slices_ContainsFunc_int_at_impl_IsValidField_1.p)
theorem slices_ContainsFunc_int_at_impl_IsValidField_1.one (x : Int) : impl_IsValidField_1.f x = some (slices_ContainsFunc_int_at_impl_IsValidField_1.p x) := by
  unfold impl_IsValidField_1.f impl_isCell.f impl_within.f slices_ContainsFunc_int_at_impl_IsValidField_1.p
  by_cases h : x = -9999
  · simp [h]
  · by_cases h1 : -9000 ≤ x <;> simp [h, h1]
theorem slices_ContainsFunc_int_at_impl_IsValidField_1.calls (A0 : Option Addr) (c0 : Nat) (l0 : List Int) (r : Bool) (w : World) (hr0 : Kd.C (Kd.int .i64) w A0 l0.length l0) (_hc0 : l0.length ≤ c0) (h : slices_ContainsFunc_int_at_impl_IsValidField_1.f l0 = some r) :
    Calls Try.prog 166 #[.slice A0 l0.length c0, .func (.func 167) #[] #[]] w fun e w' => e = .returned (.bool r) ∧ Below w.heap.size w w' := by
  obtain rfl := Option.some.inj h
  refine containsFunc_int 167 #[] _ (fun args w => enters_ Try.func167 (by kernel_rfl) rfl args w) A0 c0 l0 w hr0 (fun x W _ => ?_)
  refine (impl_IsValidField_1.calls x _ W (slices_ContainsFunc_int_at_impl_IsValidField_1.one x)).mono ?_
  rintro e w' ⟨rfl, hd⟩
  exact ⟨rfl, hd.below⟩

end Go.Proofs.Ytfiijdiccjapiaa.P
-- written by mp.py (this session's), with the print's functions; Lean checks it
namespace Go.Proofs.Ytfiijdiccjapiaa.P
open Go.RowKit Go.Proofs.YtfiijdiccjapiaaW.PrintWords Go.Proofs.YtfiijdiccjapiaaW.PrintLast Go.Proofs.YtfiijdiccjapiaaW.PrintMore
attribute [local go_sem] max2_int min2_int max_two min_two max_three min_three max_four min_four   -- for this text's walks alone
set_option linter.unusedVariables false
set_option linter.unusedSimpArgs false

/-! ### impl_IsValidField: function 123 -/
def impl_IsValidField.f (a0_0 : Int) (a0_1 : Int) (l0_2 : List Int) : Option (Bool) := (impl_within.f a0_0 1 8).bind fun t102 => (if t102 = true then ((impl_within.f a0_1 1 8).bind fun t103 => (if t103 = true then (if (l0_2.length : Int) = (wrap64 (a0_0 * a0_1)) then ((slices_ContainsFunc_int_at_impl_IsValidField_1.f l0_2).bind fun t104 => (some (!t104))) else (some false)) else (some false))) else (some false))
set_option maxHeartbeats 8000000 in
set_option maxRecDepth 100000 in
theorem impl_IsValidField.calls (a0_0 : Int) (a0_1 : Int) (A0_2 : Option Addr) (c0_2 : Nat) (l0_2 : List Int) (r : Bool) (w : World) (hr0_2 : Kd.C (Kd.int .i64) w A0_2 l0_2.length l0_2) (hc0_2 : l0_2.length ≤ c0_2) (h : impl_IsValidField.f a0_0 a0_1 l0_2 = some r) :
    Calls Try.prog 123 #[.agg #[.int .i64 a0_0, .int .i64 a0_1, .slice A0_2 l0_2.length c0_2]] w fun e w' => e = .returned (.bool r) ∧ Below w.heap.size w w' := by
  have hu34 := Try.underlying34
  have HR0_2 := Aside0.mk hr0_2
  have HC0_2 := Aside0.mk hc0_2
  clear hr0_2 hc0_2
  have HB := Aside0.mk (Below.refl w.heap.size w)
  have H : ((impl_within.f a0_0 1 8).bind fun t102 => (if t102 = true then ((impl_within.f a0_1 1 8).bind fun t103 => (if t103 = true then (if (l0_2.length : Int) = (wrap64 (a0_0 * a0_1)) then ((slices_ContainsFunc_int_at_impl_IsValidField_1.f l0_2).bind fun t104 => (some (!t104))) else (some false)) else (some false))) else (some false))) = some r := h
  clear h
  replace H := Option.bind_eq_some_iff.mp H
  obtain ⟨t102, A20, H⟩ := H
  replace H : (if t102 = true then ((impl_within.f a0_1 1 8).bind fun t103 => (if t103 = true then (if (l0_2.length : Int) = (wrap64 (a0_0 * a0_1)) then ((slices_ContainsFunc_int_at_impl_IsValidField_1.f l0_2).bind fun t104 => (some (!t104))) else (some false)) else (some false))) else (some false)) = some r := H
  have A2 := Aside0.mk A20
  clear A20
  by_cases c3 : t102 = true
  · subst c3
    have H1 : ((impl_within.f a0_1 1 8).bind fun t103 => (if t103 = true then (if (l0_2.length : Int) = (wrap64 (a0_0 * a0_1)) then ((slices_ContainsFunc_int_at_impl_IsValidField_1.f l0_2).bind fun t104 => (some (!t104))) else (some false)) else (some false))) = some r := by rw [if_pos rfl] at H; exact H
    clear H
    have H := H1
    clear H1
    replace H := Option.bind_eq_some_iff.mp H
    obtain ⟨t103, A40, H⟩ := H
    replace H : (if t103 = true then (if (l0_2.length : Int) = (wrap64 (a0_0 * a0_1)) then ((slices_ContainsFunc_int_at_impl_IsValidField_1.f l0_2).bind fun t104 => (some (!t104))) else (some false)) else (some false)) = some r := H
    have A4 := Aside0.mk A40
    clear A40
    by_cases c5 : t103 = true
    · subst c5
      have H1 : (if (l0_2.length : Int) = (wrap64 (a0_0 * a0_1)) then ((slices_ContainsFunc_int_at_impl_IsValidField_1.f l0_2).bind fun t104 => (some (!t104))) else (some false)) = some r := by rw [if_pos rfl] at H; exact H
      clear H
      have H := H1
      clear H1
      by_cases c6 : (l0_2.length : Int) = (wrap64 (a0_0 * a0_1))
      · rw [if_pos c6] at H
        have c6b0 : ((l0_2.length : Int) == (wrap64 (a0_0 * a0_1))) = true := beq_iff_eq.mpr c6
        have c6b1 : ((l0_2.length : Int) != (wrap64 (a0_0 * a0_1))) = false := bne_eq_false_iff_eq.mpr c6
        clear c6
        replace H := Option.bind_eq_some_iff.mp H
        obtain ⟨t104, A70, H⟩ := H
        replace H : (some (!t104)) = some r := H
        have A7 := Aside0.mk A70
        clear A70
        obtain rfl := Option.some.inj H
        go_enter Try.func123, Try.ntmps123
        go_wp2_with (first | ((with_reducible refine gate_dst (N := 1) rfl ?_); (try (refine gate_guard (by rfl) ?_; dsimp only)); refine box_event ?hg (N := 1) ?hd (cs := #[.int .i64 a0_0, .int .i64 a0_1, .slice A0_2 l0_2.length c0_2]) (t := 34) ?hr ?_; (case hd => rfl); (case hg => rfl); (case hr => first | (go_simp; done) | (go_simp; rfl)); intro gb101 hg w8 hbox hb; have n0_ := Aside0.mk (below_step (by repeat (first | (with_reducible first | exact HB.out | apply below_alloc | apply pw_below_drewN | apply below_drew1) | exact HB.out)) hb); have n1_ := Aside0.mk (hbox); have n2_ := Aside0.mk ((by rw [hg]; exact (below_size (by repeat (first | (with_reducible first | exact HB.out | apply below_alloc | apply pw_below_drewN | apply below_drew1) | exact HB.out))) : w.heap.size ≤ gb101)); have n3_ := Aside0.mk ((by rw [hg]; exact (below_size (by repeat (first | (with_reducible first | exact HB.out | apply below_alloc | apply pw_below_drewN | apply below_drew1) | exact HB.out))) : w.heap.size ≤ gb101)); clear HB; have HB := n0_; have BK101 := n1_; have GW101 := n2_; have GE101 := n3_; clear n0_ n1_ n2_ n3_; clear hb hbox hg; have hcz9_0 : w8.cell? ⟨gb101, 0, none⟩ = some (.int .i64 a0_0) := (blk_cell BK101.out 0).trans rfl; have hcz9_1 : w8.cell? ⟨gb101, 1, none⟩ = some (.int .i64 a0_1) := (blk_cell BK101.out 1).trans rfl; have hcz9_2 : w8.cell? ⟨gb101, 2, none⟩ = some (.slice A0_2 l0_2.length c0_2) := (blk_cell BK101.out 2).trans rfl; have hfz9_0 := blk_frozen BK101.out 0; have hfz9_1 := blk_frozen BK101.out 1; have hfz9_2 := blk_frozen BK101.out 2) | ((with_reducible refine gate_callee (f := 71) rfl ?_); refine goesL_ (some 5) rfl rfl Try.func71 (by kernel_rfl) rfl #[.int .i64 a0_0, .int .i64 1, .int .i64 8] rfl (by (try simp only [List.map_toArray, List.map_cons, List.map_nil]); first | done | rfl | (simp only [List.length_drop, List.length_take]; rfl)) ?_; (with_reducible refine (impl_within.calls a0_0 1 8 true _ A2.out).mono ?_); rintro e w' ⟨rfl, ⟨nd, rfl⟩⟩; refine ⟨_, rfl, ?_⟩) | (go_at_call 71; (with_reducible refine (impl_within.calls a0_1 1 8 true _ A4.out).mono ?_); rintro e w' ⟨rfl, ⟨nd, rfl⟩⟩) | (go_at_call 166; (with_reducible refine (slices_ContainsFunc_int_at_impl_IsValidField_1.calls _ _ l0_2 t104 _ ?side1 ?side2 A7.out).mono ?_); (case side1 => repeat (first | exact (Kd.C_below HR0_2.out (by repeat (first | (with_reducible first | exact HB.out | apply below_alloc | apply pw_below_drewN | apply below_drew1 | refine below_set ?_ GE101.out) | exact HB.out))) | (with_reducible refine Kd.C_alloc ?_ _) | (with_reducible refine Kd.C_drewN ?_ _) | (with_reducible refine Kd.C_drew ?_))); (case side2 => exact HC0_2.out); rintro e w10 ⟨rfl, hb⟩; have n0_ := Aside0.mk (blk_below (g := gb101) (o := .cells #[.int .i64 a0_0, .int .i64 a0_1, .slice A0_2 l0_2.length c0_2] 34 (0, 0)) (by (with_reducible repeat (first | refine blk_drewN ?_ _ | refine blk_drew ?_ | refine blk_alloc ?_ _)); exact BK101.out) hb); have n1_ := Aside0.mk (below_step (by repeat (first | (with_reducible first | exact HB.out | apply below_alloc | apply pw_below_drewN | apply below_drew1 | refine below_set ?_ GE101.out) | exact HB.out)) hb); clear BK101; clear HB; have BK101 := n0_; have HB := n1_; clear n0_ n1_; (try clear hb); (try clear hb2); (try clear hk); (try clear hi)))
        go_ret
        exact ⟨by first | rfl | (simp [errW_none, errW_some] <;> rfl) | (simp [*, errW_none, errW_some] <;> rfl), by repeat (first | (with_reducible first | exact HB.out | apply below_alloc | apply pw_below_drewN | apply below_drew1 | refine below_set ?_ GE101.out) | exact HB.out)⟩
      · rw [if_neg c6] at H
        have c6b0 : ((l0_2.length : Int) == (wrap64 (a0_0 * a0_1))) = false := beq_eq_false_iff_ne.mpr c6
        have c6b1 : ((l0_2.length : Int) != (wrap64 (a0_0 * a0_1))) = true := bne_iff_ne.mpr c6
        obtain rfl := Option.some.inj H
        go_enter Try.func123, Try.ntmps123
        go_wp2_with (first | ((with_reducible refine gate_dst (N := 1) rfl ?_); (try (refine gate_guard (by rfl) ?_; dsimp only)); refine box_event ?hg (N := 1) ?hd (cs := #[.int .i64 a0_0, .int .i64 a0_1, .slice A0_2 l0_2.length c0_2]) (t := 34) ?hr ?_; (case hd => rfl); (case hg => rfl); (case hr => first | (go_simp; done) | (go_simp; rfl)); intro gb101 hg w11 hbox hb; have n0_ := Aside0.mk (below_step (by repeat (first | (with_reducible first | exact HB.out | apply below_alloc | apply pw_below_drewN | apply below_drew1) | exact HB.out)) hb); have n1_ := Aside0.mk (hbox); have n2_ := Aside0.mk ((by rw [hg]; exact (below_size (by repeat (first | (with_reducible first | exact HB.out | apply below_alloc | apply pw_below_drewN | apply below_drew1) | exact HB.out))) : w.heap.size ≤ gb101)); have n3_ := Aside0.mk ((by rw [hg]; exact (below_size (by repeat (first | (with_reducible first | exact HB.out | apply below_alloc | apply pw_below_drewN | apply below_drew1) | exact HB.out))) : w.heap.size ≤ gb101)); clear HB; have HB := n0_; have BK101 := n1_; have GW101 := n2_; have GE101 := n3_; clear n0_ n1_ n2_ n3_; clear hb hbox hg; have hcz12_0 : w11.cell? ⟨gb101, 0, none⟩ = some (.int .i64 a0_0) := (blk_cell BK101.out 0).trans rfl; have hcz12_1 : w11.cell? ⟨gb101, 1, none⟩ = some (.int .i64 a0_1) := (blk_cell BK101.out 1).trans rfl; have hcz12_2 : w11.cell? ⟨gb101, 2, none⟩ = some (.slice A0_2 l0_2.length c0_2) := (blk_cell BK101.out 2).trans rfl; have hfz12_0 := blk_frozen BK101.out 0; have hfz12_1 := blk_frozen BK101.out 1; have hfz12_2 := blk_frozen BK101.out 2) | ((with_reducible refine gate_callee (f := 71) rfl ?_); refine goesL_ (some 5) rfl rfl Try.func71 (by kernel_rfl) rfl #[.int .i64 a0_0, .int .i64 1, .int .i64 8] rfl (by (try simp only [List.map_toArray, List.map_cons, List.map_nil]); first | done | rfl | (simp only [List.length_drop, List.length_take]; rfl)) ?_; (with_reducible refine (impl_within.calls a0_0 1 8 true _ A2.out).mono ?_); rintro e w' ⟨rfl, ⟨nd, rfl⟩⟩; refine ⟨_, rfl, ?_⟩) | (go_at_call 71; (with_reducible refine (impl_within.calls a0_1 1 8 true _ A4.out).mono ?_); rintro e w' ⟨rfl, ⟨nd, rfl⟩⟩))
        go_ret
        exact ⟨by first | rfl | (simp [errW_none, errW_some] <;> rfl) | (simp [*, errW_none, errW_some] <;> rfl), by repeat (first | (with_reducible first | exact HB.out | apply below_alloc | apply pw_below_drewN | apply below_drew1 | refine below_set ?_ GE101.out) | exact HB.out)⟩
    · replace c5 := Bool.eq_false_iff.mpr c5
      subst c5
      have H1 : (some false) = some r := by rw [if_neg (show ¬ (false = true) by decide)] at H; exact H
      clear H
      have H := H1
      clear H1
      obtain rfl := Option.some.inj H
      go_enter Try.func123, Try.ntmps123
      go_wp2_with (first | ((with_reducible refine gate_dst (N := 1) rfl ?_); (try (refine gate_guard (by rfl) ?_; dsimp only)); refine box_event ?hg (N := 1) ?hd (cs := #[.int .i64 a0_0, .int .i64 a0_1, .slice A0_2 l0_2.length c0_2]) (t := 34) ?hr ?_; (case hd => rfl); (case hg => rfl); (case hr => first | (go_simp; done) | (go_simp; rfl)); intro gb101 hg w13 hbox hb; have n0_ := Aside0.mk (below_step (by repeat (first | (with_reducible first | exact HB.out | apply below_alloc | apply pw_below_drewN | apply below_drew1) | exact HB.out)) hb); have n1_ := Aside0.mk (hbox); have n2_ := Aside0.mk ((by rw [hg]; exact (below_size (by repeat (first | (with_reducible first | exact HB.out | apply below_alloc | apply pw_below_drewN | apply below_drew1) | exact HB.out))) : w.heap.size ≤ gb101)); have n3_ := Aside0.mk ((by rw [hg]; exact (below_size (by repeat (first | (with_reducible first | exact HB.out | apply below_alloc | apply pw_below_drewN | apply below_drew1) | exact HB.out))) : w.heap.size ≤ gb101)); clear HB; have HB := n0_; have BK101 := n1_; have GW101 := n2_; have GE101 := n3_; clear n0_ n1_ n2_ n3_; clear hb hbox hg; have hcz14_0 : w13.cell? ⟨gb101, 0, none⟩ = some (.int .i64 a0_0) := (blk_cell BK101.out 0).trans rfl; have hcz14_1 : w13.cell? ⟨gb101, 1, none⟩ = some (.int .i64 a0_1) := (blk_cell BK101.out 1).trans rfl; have hcz14_2 : w13.cell? ⟨gb101, 2, none⟩ = some (.slice A0_2 l0_2.length c0_2) := (blk_cell BK101.out 2).trans rfl; have hfz14_0 := blk_frozen BK101.out 0; have hfz14_1 := blk_frozen BK101.out 1; have hfz14_2 := blk_frozen BK101.out 2) | ((with_reducible refine gate_callee (f := 71) rfl ?_); refine goesL_ (some 5) rfl rfl Try.func71 (by kernel_rfl) rfl #[.int .i64 a0_0, .int .i64 1, .int .i64 8] rfl (by (try simp only [List.map_toArray, List.map_cons, List.map_nil]); first | done | rfl | (simp only [List.length_drop, List.length_take]; rfl)) ?_; (with_reducible refine (impl_within.calls a0_0 1 8 true _ A2.out).mono ?_); rintro e w' ⟨rfl, ⟨nd, rfl⟩⟩; refine ⟨_, rfl, ?_⟩) | (go_at_call 71; (with_reducible refine (impl_within.calls a0_1 1 8 false _ A4.out).mono ?_); rintro e w' ⟨rfl, ⟨nd, rfl⟩⟩))
      go_ret
      exact ⟨by first | rfl | (simp [errW_none, errW_some] <;> rfl) | (simp [*, errW_none, errW_some] <;> rfl), by repeat (first | (with_reducible first | exact HB.out | apply below_alloc | apply pw_below_drewN | apply below_drew1 | refine below_set ?_ GE101.out) | exact HB.out)⟩
  · replace c3 := Bool.eq_false_iff.mpr c3
    subst c3
    have H1 : (some false) = some r := by rw [if_neg (show ¬ (false = true) by decide)] at H; exact H
    clear H
    have H := H1
    clear H1
    obtain rfl := Option.some.inj H
    go_enter Try.func123, Try.ntmps123
    go_wp2_with (first | ((with_reducible refine gate_dst (N := 1) rfl ?_); (try (refine gate_guard (by rfl) ?_; dsimp only)); refine box_event ?hg (N := 1) ?hd (cs := #[.int .i64 a0_0, .int .i64 a0_1, .slice A0_2 l0_2.length c0_2]) (t := 34) ?hr ?_; (case hd => rfl); (case hg => rfl); (case hr => first | (go_simp; done) | (go_simp; rfl)); intro gb101 hg w15 hbox hb; have n0_ := Aside0.mk (below_step (by repeat (first | (with_reducible first | exact HB.out | apply below_alloc | apply pw_below_drewN | apply below_drew1) | exact HB.out)) hb); have n1_ := Aside0.mk (hbox); have n2_ := Aside0.mk ((by rw [hg]; exact (below_size (by repeat (first | (with_reducible first | exact HB.out | apply below_alloc | apply pw_below_drewN | apply below_drew1) | exact HB.out))) : w.heap.size ≤ gb101)); have n3_ := Aside0.mk ((by rw [hg]; exact (below_size (by repeat (first | (with_reducible first | exact HB.out | apply below_alloc | apply pw_below_drewN | apply below_drew1) | exact HB.out))) : w.heap.size ≤ gb101)); clear HB; have HB := n0_; have BK101 := n1_; have GW101 := n2_; have GE101 := n3_; clear n0_ n1_ n2_ n3_; clear hb hbox hg; have hcz16_0 : w15.cell? ⟨gb101, 0, none⟩ = some (.int .i64 a0_0) := (blk_cell BK101.out 0).trans rfl; have hcz16_1 : w15.cell? ⟨gb101, 1, none⟩ = some (.int .i64 a0_1) := (blk_cell BK101.out 1).trans rfl; have hcz16_2 : w15.cell? ⟨gb101, 2, none⟩ = some (.slice A0_2 l0_2.length c0_2) := (blk_cell BK101.out 2).trans rfl; have hfz16_0 := blk_frozen BK101.out 0; have hfz16_1 := blk_frozen BK101.out 1; have hfz16_2 := blk_frozen BK101.out 2) | ((with_reducible refine gate_callee (f := 71) rfl ?_); refine goesL_ (some 5) rfl rfl Try.func71 (by kernel_rfl) rfl #[.int .i64 a0_0, .int .i64 1, .int .i64 8] rfl (by (try simp only [List.map_toArray, List.map_cons, List.map_nil]); first | done | rfl | (simp only [List.length_drop, List.length_take]; rfl)) ?_; (with_reducible refine (impl_within.calls a0_0 1 8 false _ A2.out).mono ?_); rintro e w' ⟨rfl, ⟨nd, rfl⟩⟩; refine ⟨_, rfl, ?_⟩))
    go_ret
    exact ⟨by first | rfl | (simp [errW_none, errW_some] <;> rfl) | (simp [*, errW_none, errW_some] <;> rfl), by repeat (first | (with_reducible first | exact HB.out | apply below_alloc | apply pw_below_drewN | apply below_drew1 | refine below_set ?_ GE101.out) | exact HB.out)⟩

end Go.Proofs.Ytfiijdiccjapiaa.P
/- A field is valid in the program just when it is valid in the reference. No conditions. -/
namespace Go.Proofs.Ytfiijdiccjapiaa.Pure
set_option linter.unusedVariables false
set_option linter.unusedSimpArgs false
open Go.RowKit Go.Proofs.Ytfiijdiccjapiaa.P Go.Proofs.YtfiijdiccjapiaaW.PrintWords Go.Proofs.YtfiijdiccjapiaaW.PrintLast
def cellOk (x : Int) : Bool := decide (x = -9999) || inb x (-9000) 9000
def fieldOk (a b : Int) (l : List Int) : Bool := inb a 1 8 && (inb b 1 8 && (decide ((l.length : Int) = a * b) && l.all cellOk))
theorem cellOk_bd {x : Int} (h : cellOk x = true) : -9999 ≤ x ∧ x ≤ 9000 := by
  unfold cellOk at h
  rw [Bool.or_eq_true, decide_eq_true_eq, inb_iff] at h
  omega
structure FieldIs (a b : Int) (l : List Int) : Prop where
  a1 : 1 ≤ a
  a8 : a ≤ 8
  b1 : 1 ≤ b
  b8 : b ≤ 8
  len : (l.length : Int) = a * b
  cells : ∀ x ∈ l, cellOk x = true
theorem fieldOk_iff {a b : Int} {l : List Int} : fieldOk a b l = true ↔ FieldIs a b l := by
  unfold fieldOk
  rw [Bool.and_eq_true, Bool.and_eq_true, Bool.and_eq_true, inb_iff, inb_iff, decide_eq_true_eq, List.all_eq_true]
  exact ⟨fun ⟨⟨h1, h2⟩, ⟨h3, h4⟩, h5, h6⟩ => ⟨h1, h2, h3, h4, h5, h6⟩, fun h => ⟨⟨h.a1, h.a8⟩, ⟨h.b1, h.b8⟩, h.len, h.cells⟩⟩
theorem mul_bd {a b : Int} (a1 : 1 ≤ a) (a8 : a ≤ 8) (b1 : 1 ≤ b) (b8 : b ≤ 8) : 1 ≤ a * b ∧ a * b ≤ 64 := by
  obtain h | h | h | h | h | h | h | h : a = 1 ∨ a = 2 ∨ a = 3 ∨ a = 4 ∨ a = 5 ∨ a = 6 ∨ a = 7 ∨ a = 8 := by omega
  all_goals subst h; omega
theorem FieldIs.len64 {a b : Int} {l : List Int} (h : FieldIs a b l) : 1 ≤ l.length ∧ l.length ≤ 64 := by
  have := mul_bd h.a1 h.a8 h.b1 h.b8
  have := h.len
  omega
theorem l2Value_is (x : Int) : spec_l2Value.f x = some (cellOk x) := by
  unfold spec_l2Value.f cellOk
  rw [l1In_is]
  by_cases h : x = -9999
  · simp [h]
  · simp [h]
theorem l2Shape_is (a b : Int) : spec_l2Shape.f a b = some (inb a 1 8 && inb b 1 8) := by
  unfold spec_l2Shape.f
  rw [l1In_is, l1In_is]
  cases inb a 1 8 <;> simp
theorem shape_iff {a b : Int} : (inb a 1 8 && inb b 1 8) = true ↔ (1 ≤ a ∧ a ≤ 8) ∧ 1 ≤ b ∧ b ≤ 8 := by rw [Bool.and_eq_true, inb_iff, inb_iff]
theorem l2Good_ev (a b : Int) (l : List Int) (hl : l.length ≤ 9223372036854775806) : Ev (fun k => spec_l2Good.f k a b l) (fieldOk a b l) := by
  have no : Ev (fun k => spec_l2Good.j0 k true a b l) false := ev_step (f := fun _ => some false) (fun k => by simp [spec_l2Good.j0]) (ev_some _)
  unfold spec_l2Good.f
  rw [l2Shape_is]
  simp only [Option.bind_some]
  by_cases hs : (inb a 1 8 && inb b 1 8) = true
  · refine ev_ifp hs ?_
    obtain ⟨⟨a1, a8⟩, b1, b8⟩ := shape_iff.1 hs
    have hm := mul_bd a1 a8 b1 b8
    rw [w64 (by omega) (by omega)]
    by_cases hl2 : (l.length : Int) = a * b
    · have h := allb_ev (fun k i => spec_l2Good.l0 k (i : Int) a b l) l.length (fun i => cellOk (l.getD i 0))
        (fun i r hi hp hh => ev_step (fun k => by
          simp only [spec_l2Good.l0, l2Value_is, Option.bind_some, rd_nat]
          rw [if_pos (by omega), if_pos (by omega), if_pos hp, w64 (by omega) (by omega)]
          rfl) hh)
        (fun i hi hp => ev_step (f := fun _ => some false) (fun k => by
          simp only [spec_l2Good.l0, l2Value_is, Option.bind_some, rd_nat]
          rw [if_pos (by omega), if_pos (by omega), if_neg (by rw [hp]; decide)]) (ev_some _))
        (ev_step (f := fun _ => some true) (fun k => by
          simp only [spec_l2Good.l0]
          rw [if_neg (by omega)]) (ev_some _))
      rw [rall_list] at h
      have e : fieldOk a b l = l.all cellOk := by
        rw [Bool.and_eq_true] at hs
        simp [fieldOk, hs.1, hs.2, hl2]
      rw [e, show ((l.length : Int) != a * b) = false by rw [bne_eq_false_iff_eq]; exact hl2]
      exact ev_step (f := fun k => spec_l2Good.l0 k 0 a b l) (fun k => by simp [spec_l2Good.j0]) h
    · have e : fieldOk a b l = false := by simp [fieldOk, hl2]
      rw [e, show ((l.length : Int) != a * b) = true by rw [bne_iff_ne]; exact hl2]
      exact no
  · refine ev_ifn hs ?_
    have e : fieldOk a b l = false := by
      cases h1 : inb a 1 8 with
      | false => simp [fieldOk, h1]
      | true =>
        cases h2 : inb b 1 8 with
        | false => simp [fieldOk, h2]
        | true => exact absurd (by rw [h1, h2]; rfl) hs
    rw [e]
    exact no
theorem isValidField_is (a b : Int) (l : List Int) : impl_IsValidField.f a b l = some (fieldOk a b l) := by
  unfold impl_IsValidField.f slices_ContainsFunc_int_at_impl_IsValidField_1.f
  rw [within_is, within_is]
  simp only [Option.bind_some]
  cases h1 : inb a 1 8 with
  | false => simp [fieldOk, h1]
  | true =>
    cases h2 : inb b 1 8 with
    | false => simp [fieldOk, h2]
    | true =>
      have hm := mul_bd (inb_iff.1 h1).1 (inb_iff.1 h1).2 (inb_iff.1 h2).1 (inb_iff.1 h2).2
      rw [w64 (by omega) (by omega)]
      by_cases hl : (l.length : Int) = a * b
      · have e : (!l.any slices_ContainsFunc_int_at_impl_IsValidField_1.p) = l.all cellOk := by
          rw [List.not_any_eq_all_not]
          congr 1
          funext x
          simp [slices_ContainsFunc_int_at_impl_IsValidField_1.p, cellOk, inb]
        simp [fieldOk, h1, h2, hl, e]
      · simp [fieldOk, hl]
end Go.Proofs.Ytfiijdiccjapiaa.Pure
/- Regions: a list that rises, of cells of a grid: one answer in the program and in the reference; a field in which every cell is one value. No conditions but that the list is no longer than a machine allows. -/
namespace Go.Proofs.Ytfiijdiccjapiaa.Pure
set_option linter.unusedVariables false
set_option linter.unusedSimpArgs false
open Go.RowKit Go.Proofs.Ytfiijdiccjapiaa.P Go.Proofs.YtfiijdiccjapiaaW.PrintWords Go.Proofs.YtfiijdiccjapiaaW.PrintLast
def rising (l : List Int) : Bool := rall (fun i => decide (l.getD i 0 < l.getD (i + 1) 0)) 0 (l.length - 1)
def regionOk (a b : Int) (l : List Int) : Bool := (inb a 1 8 && inb b 1 8) && (rising l && rall (fun i => inb (l.getD i 0) 0 (a * b - 1)) 0 l.length)
theorem increasing_ev (l : List Int) (hl : l.length ≤ 9223372036854775806) : Ev (fun k => impl_increasing.f k l) (rising l) := by
  have h := allb_ev (fun k i => impl_increasing.l0 k l ((i : Int) + 1)) (l.length - 1) (fun i => decide (l.getD i 0 < l.getD (i + 1) 0))
    (fun i r hi hp h => ev_step (fun k => by
      simp only [impl_increasing.l0]
      rw [if_pos (by omega), show wrap64 ((i : Int) + 1 - 1) = (i : Int) by rw [w64 (by omega) (by omega)]; omega, if_pos (by omega), if_pos (by omega), if_pos (by omega), show ((i : Int) + 1) = ((i + 1 : Nat) : Int) by omega, rd_nat, rd_nat,
        if_neg (by have := of_decide_eq_true hp; omega), w64 (by omega) (by omega)]) h)
    (fun i hi hp => ev_step (f := fun _ => some false) (fun k => by
      simp only [impl_increasing.l0]
      rw [if_pos (by omega), show wrap64 ((i : Int) + 1 - 1) = (i : Int) by rw [w64 (by omega) (by omega)]; omega, if_pos (by omega), if_pos (by omega), if_pos (by omega), show ((i : Int) + 1) = ((i + 1 : Nat) : Int) by omega, rd_nat, rd_nat,
        if_pos (by have := of_decide_eq_false hp; omega)]) (ev_some _))
    (ev_step (f := fun _ => some true) (fun k => by
      simp only [impl_increasing.l0]
      rw [if_neg (by omega)]) (ev_some _))
  exact h
theorem isShape_is (a b : Int) : impl_isShape.f a b = some (inb a 1 8 && inb b 1 8) := by
  unfold impl_isShape.f
  rw [within_is, Option.bind_some, within_is]
  cases inb a 1 8 <;> simp
theorem isRegion_ev (a b : Int) (l : List Int) (hl : l.length ≤ 9223372036854775806) : Ev (fun k => impl_isRegion.f k a b l) (regionOk a b l) := by
  unfold impl_isRegion.f regionOk
  refine ev_bind (ev_const (isShape_is a b)) ?_
  cases e : (inb a 1 8 && inb b 1 8) with
  | false => exact ev_ifn (by simp) (ev_some _)
  | true =>
    obtain ⟨⟨a1, a8⟩, b1, b8⟩ := shape_iff.1 e
    have hm := mul_bd a1 a8 b1 b8
    rw [Bool.true_and]
    refine ev_ifp rfl (ev_bind (increasing_ev l hl) ?_)
    cases rising l with
    | false => exact ev_ifn (by simp) (ev_some _)
    | true =>
      rw [Bool.true_and, show wrap64 (wrap64 (a * b) - 1) = a * b - 1 by rw [w64 (x := a * b) (by omega) (by omega), w64 (by omega) (by omega)]]
      exact ev_ifp rfl (ev_bind (allWithin_ev l 0 (a * b - 1) hl) (ev_some _))
theorem l1Rising_ev (l : List Int) (x y : Int) (hl : l.length ≤ 9223372036854775806) : Ev (fun k => spec_l1Rising.f k l x y) (rising l && rall (fun i => inb (l.getD i 0) x y) 0 l.length) := by
  have h := allb_ev (fun k i => spec_l1Rising.l0 k l x y (i : Int)) l.length (fun i => inb (l.getD i 0) x y && (decide (i = 0) || decide (l.getD (i - 1) 0 < l.getD i 0)))
    (fun i r hi hp h => ev_step (fun k => by
      rw [Bool.and_eq_true, Bool.or_eq_true] at hp
      simp only [spec_l1Rising.l0, l1In_is, Option.bind_some, rd_nat]
      rw [if_pos (by omega), if_pos (by omega), if_pos hp.1, w64 (x := (i : Int) + 1) (by omega) (by omega)]
      by_cases e : i = 0
      · rw [if_neg (by omega)]; rfl
      · have h2 := of_decide_eq_true (hp.2.resolve_left (by simpa using e))
        rw [if_pos (by omega), show wrap64 ((i : Int) - 1) = ((i - 1 : Nat) : Int) by rw [w64 (by omega) (by omega)]; omega, if_pos (by omega), if_pos (by omega), rd_nat, if_neg (by omega)]
        rfl) h)
    (fun i hi hp => ev_step (f := fun _ => some false) (fun k => by
      simp only [spec_l1Rising.l0, l1In_is, Option.bind_some, rd_nat]
      rw [if_pos (by omega), if_pos (by omega)]
      cases e : inb (l.getD i 0) x y with
      | false => simp
      | true =>
        rw [e, Bool.true_and, Bool.or_eq_false_iff] at hp
        have h1 := of_decide_eq_false hp.1
        have h2 := of_decide_eq_false hp.2
        rw [if_pos rfl, if_pos (by omega), show wrap64 ((i : Int) - 1) = ((i - 1 : Nat) : Int) by rw [w64 (by omega) (by omega)]; omega, if_pos (by omega), if_pos (by omega), rd_nat, if_pos (by omega)]) (ev_some _))
    (ev_step (f := fun _ => some true) (fun k => by
      simp only [spec_l1Rising.l0]
      rw [if_neg (by omega)]) (ev_some _))
  have e : rall (fun i => inb (l.getD i 0) x y && (decide (i = 0) || decide (l.getD (i - 1) 0 < l.getD i 0))) 0 l.length = (rising l && rall (fun i => inb (l.getD i 0) x y) 0 l.length) := by
    rw [Bool.eq_iff_iff, Bool.and_eq_true]
    unfold rising
    rw [rall_iff, rall_iff, rall_iff]
    constructor
    · intro hh
      refine ⟨fun j _ hj => ?_, fun j _ hj => ?_⟩
      · have := hh (j + 1) (Nat.zero_le _) (by omega)
        rw [Bool.and_eq_true, Bool.or_eq_true] at this
        have h2 := this.2.resolve_left (by simp)
        simpa using h2
      · have := hh j (Nat.zero_le _) (by omega)
        rw [Bool.and_eq_true] at this
        exact this.1
    · rintro ⟨h1, h2⟩ j _ hj
      rw [Bool.and_eq_true, Bool.or_eq_true]
      refine ⟨h2 j (Nat.zero_le _) hj, ?_⟩
      by_cases e : j = 0
      · exact .inl (by simpa using e)
      · have := h1 (j - 1) (Nat.zero_le _) (by omega)
        rw [show j - 1 + 1 = j by omega] at this
        exact .inr this
  rw [e] at h
  exact h
theorem l8Region_ev (a b : Int) (l : List Int) (hl : l.length ≤ 9223372036854775806) : Ev (fun k => spec_l8Region.f k a b l) (regionOk a b l) := by
  unfold spec_l8Region.f regionOk
  refine ev_bind (ev_const (l2Shape_is a b)) ?_
  cases e : (inb a 1 8 && inb b 1 8) with
  | false => exact ev_ifn (by simp) (ev_some _)
  | true =>
    obtain ⟨⟨a1, a8⟩, b1, b8⟩ := shape_iff.1 e
    have hm := mul_bd a1 a8 b1 b8
    rw [Bool.true_and, show wrap64 (wrap64 (a * b) - 1) = a * b - 1 by rw [w64 (x := a * b) (by omega) (by omega), w64 (by omega) (by omega)]]
    exact ev_ifp rfl (ev_bind (l1Rising_ev l 0 (a * b - 1) hl) (ev_some _))
end Go.Proofs.Ytfiijdiccjapiaa.Pure
/- A field in which every cell is one value. No conditions but on the shape. -/
namespace Go.Proofs.Ytfiijdiccjapiaa.Pure
set_option linter.unusedVariables false
set_option linter.unusedSimpArgs false
open Go.RowKit Go.Proofs.Ytfiijdiccjapiaa.P Go.Proofs.YtfiijdiccjapiaaW.PrintWords Go.Proofs.YtfiijdiccjapiaaW.PrintLast
theorem filled_is (a b v : Int) (h0 : 1 ≤ a * b) (h1 : a * b ≤ 64) : impl_filled.f a b v = some (a, b, List.replicate (a * b).toNat v) := by
  unfold impl_filled.f slices_Repeat_int_int.f
  rw [w64 (by omega) (by omega), if_pos ⟨rfl, by omega, h1⟩]
  rfl
theorem iter_rep {α : Type} (v : α) : ∀ d i (s : List α), iter (fun _ s => s ++ [v]) i d s = s ++ List.replicate d v
  | 0, i, s => by simp [iter]
  | d + 1, i, s => by
    show iter (fun _ s => s ++ [v]) (i + 1) d (s ++ [v]) = _
    rw [iter_rep v d (i + 1), List.append_assoc, List.replicate_succ]
    rfl
theorem l2Fill_ev (a b v : Int) (h0 : 1 ≤ a * b) (h1 : a * b ≤ 64) : Ev (fun k => spec_l2Fill.f k a b v) (a, b, List.replicate (a * b).toNat v) := by
  obtain ⟨n, hn⟩ := Int.eq_ofNat_of_zero_le (show 0 ≤ a * b by omega)
  have h := loop_ev (fun k s i => spec_l2Fill.l0 k a b v (i : Int) a b s) n (fun _ s => s ++ [v]) (fun s => (a, b, s)) (fun i s => s.length = i)
    (fun i s r hI hi h => ev_step (fun k => by
      simp only [spec_l2Fill.l0]
      rw [w64 (x := a * b) (by omega) (by omega), if_pos (by omega), if_pos (by omega), w64 (by omega) (by omega)]
      rfl) h)
    (fun i s hI _ => by simp [hI])
    (fun s hI => ev_step (f := fun _ => some (a, b, s)) (fun k => by
      simp only [spec_l2Fill.l0]
      rw [w64 (x := a * b) (by omega) (by omega), if_neg (by omega)]) (ev_some _)) 0 [] (Nat.zero_le _) rfl
  rw [iter_rep, List.nil_append, Nat.sub_zero] at h
  rw [hn, Int.toNat_natCast]
  exact h
end Go.Proofs.Ytfiijdiccjapiaa.Pure
/- The field of a region: one field in the program and in the reference. No conditions but that the list is no longer than a machine allows. -/
namespace Go.Proofs.Ytfiijdiccjapiaa.Pure
set_option linter.unusedVariables false
set_option linter.unusedSimpArgs false
open Go.RowKit Go.Proofs.Ytfiijdiccjapiaa.P Go.Proofs.YtfiijdiccjapiaaW.PrintWords Go.Proofs.YtfiijdiccjapiaaW.PrintLast
def markCell (l : List Int) (i : Nat) (s : List Int) : List Int := s.set (l.getD i 0).toNat 1
def regionField (a b : Int) (l : List Int) : Int × Int × List Int × Bool :=
  if regionOk a b l = true then (a, b, iter (markCell l) 0 l.length (List.replicate (a * b).toNat 0), true) else (0, 0, [], false)
theorem region_cells {a b : Int} {l : List Int} (h : regionOk a b l = true) : ((1 ≤ a ∧ a ≤ 8) ∧ 1 ≤ b ∧ b ≤ 8) ∧ ∀ i, i < l.length → 0 ≤ l.getD i 0 ∧ l.getD i 0 ≤ a * b - 1 := by
  unfold regionOk at h
  rw [Bool.and_eq_true] at h
  obtain ⟨h1, h2⟩ := h
  rw [Bool.and_eq_true, rall_iff] at h2
  exact ⟨shape_iff.1 h1, fun i hi => inb_iff.1 (h2.2 i (Nat.zero_le _) (by omega))⟩
theorem regionField_both (a b : Int) (l : List Int) (hl : l.length ≤ 9223372036854775806) :
    ∃ r, Ev (fun k => spec_RegionField.f k a b l) r ∧ Ev (fun k => impl_RegionField.f k a b l) r ∧ r.2.2.1.length ≤ 64 := by
  refine ⟨regionField a b l, ?_, ?_, ?_⟩
  · unfold spec_RegionField.f regionField
    refine ev_bind (l8Region_ev a b l hl) (ev_ite (fun ok => ?_) (fun _ => ev_some _))
    obtain ⟨⟨⟨a1, a8⟩, b1, b8⟩, hc⟩ := region_cells ok
    have hm := mul_bd a1 a8 b1 b8
    refine ev_bind (l2Fill_ev a b 0 hm.1 hm.2) ?_
    exact loop_ev (fun k s i => spec_RegionField.l0 k l (i : Int) a b s) l.length (markCell l) (fun s => (a, b, s, true)) (fun i s => (s.length : Int) = a * b)
      (fun i s r hI hi h => ev_step (fun k => by
        have := hc i hi
        simp only [spec_RegionField.l0, rd_nat]
        rw [if_pos (by omega), if_pos (by omega), if_pos (by omega), if_pos (by omega), w64 (by omega) (by omega)]
        rfl) h)
      (fun i s hI _ => by simpa [markCell] using hI)
      (fun s hI => ev_step (f := fun _ => some (a, b, s, true)) (fun k => by
        simp only [spec_RegionField.l0]
        rw [if_neg (by omega)]) (ev_some _)) 0 _ (Nat.zero_le _) (by rw [List.length_replicate]; omega)
  · unfold impl_RegionField.f regionField
    refine ev_bind (isRegion_ev a b l hl) (ev_ite (fun ok => ?_) (fun _ => ev_some _))
    obtain ⟨⟨⟨a1, a8⟩, b1, b8⟩, hc⟩ := region_cells ok
    have hm := mul_bd a1 a8 b1 b8
    refine ev_bind (ev_const (filled_is a b 0 hm.1 hm.2)) ?_
    exact loop_ev (fun k s i => impl_RegionField.l0 k l (l.length : Int) (i : Int) a b s) l.length (markCell l) (fun s => (a, b, s, true)) (fun i s => (s.length : Int) = a * b)
      (fun i s r hI hi h => ev_step (fun k => by
        have := hc i hi
        simp only [impl_RegionField.l0, rd_nat]
        rw [if_pos (by omega), if_pos (by omega), if_pos (by omega), if_pos (by omega), if_pos (by omega), w64 (by omega) (by omega)]
        rfl) h)
      (fun i s hI _ => by simpa [markCell] using hI)
      (fun s hI => ev_step (f := fun _ => some (a, b, s, true)) (fun k => by
        simp only [impl_RegionField.l0]
        rw [if_neg (by omega)]) (ev_some _)) 0 _ (Nat.zero_le _) (by rw [List.length_replicate]; omega)
  · unfold regionField
    split
    · rename_i ok
      obtain ⟨⟨⟨a1, a8⟩, b1, b8⟩, hc⟩ := region_cells ok
      have hm := mul_bd a1 a8 b1 b8
      have := iter_inv (markCell l) (fun _ s => (s.length : Int) = a * b) l.length (fun i s hI _ => by simpa [markCell] using hI) l.length 0 (List.replicate (a * b).toNat 0) (by omega) (by rw [List.length_replicate]; omega)
      simp only
      omega
    · simp
end Go.Proofs.Ytfiijdiccjapiaa.Pure
/- What the laws' helpers for lists of whole numbers come to: a copy is the list, equality is equality. No conditions. -/
namespace Go.Proofs.Ytfiijdiccjapiaa.Pure
set_option linter.unusedVariables false
set_option linter.unusedSimpArgs false
open Go.RowKit Go.Proofs.Ytfiijdiccjapiaa.P Go.Proofs.YtfiijdiccjapiaaW.PrintWords Go.Proofs.YtfiijdiccjapiaaW.PrintLast

theorem toIntS_ev (xs : List Int) (hm : xs.length ≤ 35184372088832) : Ev (fun k => laws_toIntS.f k xs) xs := by
  have h := loop_ev (fun k ys i => laws_toIntS.l0 k xs ys (i : Int)) xs.length (fun i ys => ys.set i (xs.getD i 0)) (fun ys => ys)
    (fun i ys => ys.length = xs.length ∧ ∀ j, j < i → ys.getD j 0 = xs.getD j 0)
    (fun i ys r hI hi h => ev_step (fun k => by
      show laws_toIntS.l0 (k + 1) xs ys (i : Int) = laws_toIntS.l0 k xs (ys.set i (xs.getD i 0)) ((i + 1 : Nat) : Int)
      have hl := hI.1
      simp only [laws_toIntS.l0]
      rw [if_pos (by omega), if_pos (by omega), if_pos (by omega), w64 (by omega) (by omega), rd_nat]
      simp) h)
    (fun i ys hI hi => ⟨by simp [hI.1], fun j hj => by
      by_cases e : j = i
      · subst e
        have := hI.1
        simp [List.getD, List.getElem?_set_self (show j < ys.length by omega)]
      · have := hI.2 j (by omega)
        rw [← this]
        simp [List.getD, List.getElem?_set_ne (Ne.symm e)]⟩)
    (fun ys hI => ev_step (f := fun _ => some ys) (fun k => by
      simp only [laws_toIntS.l0]
      rw [if_neg (by omega)]) (ev_some _)) 0 (List.replicate xs.length 0) (Nat.zero_le _) ⟨by simp, fun j hj => by omega⟩
  have e : iter (fun i (ys : List Int) => ys.set i (xs.getD i 0)) 0 (xs.length - 0) (List.replicate xs.length 0) = xs := by
    have hi := iter_inv (fun i (ys : List Int) => ys.set i (xs.getD i 0)) (fun i ys => ys.length = xs.length ∧ ∀ j, j < i → ys.getD j 0 = xs.getD j 0) xs.length
      (fun i ys hI hi => ⟨by simp [hI.1], fun j hj => by
        by_cases e : j = i
        · subst e
          have := hI.1
          simp [List.getD, List.getElem?_set_self (show j < ys.length by omega)]
        · have := hI.2 j (by omega)
          rw [← this]
          simp [List.getD, List.getElem?_set_ne (Ne.symm e)]⟩) (xs.length - 0) 0 (List.replicate xs.length 0) (by omega) ⟨by simp, fun j hj => by omega⟩
    exact eq_index 0 hi.1 (fun j hj => hi.2 j (by have := hi.1; omega))
  rw [e] at h
  refine Ev.congr (fun k => ?_) h
  unfold laws_toIntS.f
  rw [if_pos (by omega), if_pos (by omega)]
  simp

theorem eqIntS_ev (xs ys : List Int) (hm : xs.length ≤ 9223372036854775806) : Ev (fun k => laws_eqIntS.f k xs ys) (decide (xs = ys)) := by
  by_cases hl : xs.length = ys.length
  · have h := allb_ev (fun k i => laws_eqIntS.l0 k xs ys (i : Int)) xs.length (fun i => decide (xs.getD i 0 = ys.getD i 0))
      (fun i r hi hp h => ev_step (fun k => by
        simp only [laws_eqIntS.l0]
        rw [if_pos (by omega), if_pos (by omega), if_pos (by omega), rd_nat, rd_nat, if_pos (by simpa using hp), w64 (by omega) (by omega)]
        rfl) h)
      (fun i hi hp => ev_step (f := fun _ => some false) (fun k => by
        simp only [laws_eqIntS.l0]
        rw [if_pos (by omega), if_pos (by omega), if_pos (by omega), rd_nat, rd_nat, if_neg (by simpa using hp)]) (ev_some _))
      (ev_step (f := fun _ => some true) (fun k => by
        simp only [laws_eqIntS.l0]
        rw [if_neg (by omega)]) (ev_some _))
    rw [rall_eq 0 hl] at h
    refine Ev.congr (fun k => ?_) h
    unfold laws_eqIntS.f
    rw [if_pos (by omega)]
    rfl
  · refine Ev.congr (f := fun _ => some false) (fun k => ?_) (by rw [decide_eq_false (fun e => hl (by rw [e]))]; exact ev_some _)
    unfold laws_eqIntS.f
    rw [if_neg (by omega)]
theorem eqIntS_self (xs : List Int) (hm : xs.length ≤ 9223372036854775806) : Ev (fun k => laws_eqIntS.f k xs xs) true := by
  have := eqIntS_ev xs xs hm
  simpa using this

end Go.Proofs.Ytfiijdiccjapiaa.Pure
-- written by mp.py (this session's), with the print's functions; Lean checks it
namespace Go.Proofs.Ytfiijdiccjapiaa.P
open Go.RowKit Go.Proofs.YtfiijdiccjapiaaW.PrintWords Go.Proofs.YtfiijdiccjapiaaW.PrintLast Go.Proofs.YtfiijdiccjapiaaW.PrintMore
attribute [local go_sem] max2_int min2_int max_two min_two max_three min_three max_four min_four   -- for this text's walks alone
set_option linter.unusedVariables false
set_option linter.unusedSimpArgs false

/-! ### laws_toField: function 23 -/
def laws_toField.f (k : Nat) (a0_0 : Int) (a0_1 : Int) (l0_2 : List Int) : Option (Int × Int × List Int) := (laws_toIntS.f k l0_2).bind fun t104 => (some (a0_0, a0_1, t104))
theorem laws_toField.mono : ∀ a0 a1 a2 k, LeO (laws_toField.f k a0 a1 a2) (laws_toField.f (k + 1) a0 a1 a2) := by
  intro a0 a1 a2 k
  unfold laws_toField.f
  repeat' first
      | (with_reducible exact laws_toIntS.mono _ _)
      | (with_reducible exact LeO.refl _)
      | (with_reducible exact LeO.none _)
      | (with_reducible refine LeO.ite ?_ ?_)
      | (with_reducible refine LeO.bind ?_ (fun _ => ?_))
      | exact laws_toIntS.mono _ _
      | exact LeO.none _
      | refine LeO.ite ?_ ?_
      | refine LeO.bind ?_ (fun _ => ?_)
set_option maxHeartbeats 8000000 in
set_option maxRecDepth 100000 in
theorem laws_toField.calls (k : Nat) (a0_0 : Int) (a0_1 : Int) (A0_2 : Option Addr) (c0_2 : Nat) (l0_2 : List Int) (r1 : Int) (r2 : Int) (r3 : List Int) (w : World) (hr0_2 : Kd.C (Kd.int .i64) w A0_2 l0_2.length l0_2) (hc0_2 : l0_2.length ≤ c0_2) (h : laws_toField.f k a0_0 a0_1 l0_2 = some (r1, r2, r3)) :
    Calls Try.prog 23 #[.agg #[.int .i64 a0_0, .int .i64 a0_1, .slice A0_2 l0_2.length c0_2]] w fun e w' => ∃ v2_ : Value, e = .returned (.agg #[.int .i64 r1, .int .i64 r2, v2_]) ∧ Kd.R (Kd.int .i64) 3 w' w.heap.size (fun _ => True) v2_ r3 ∧ Below w.heap.size w w' := by
  have hu30 := Try.underlying30
  have hu34 := Try.underlying34
  have HR0_2 := Aside0.mk hr0_2
  have HC0_2 := Aside0.mk hc0_2
  clear hr0_2 hc0_2
  have HB := Aside0.mk (Below.refl w.heap.size w)
  have H : ((laws_toIntS.f k l0_2).bind fun t104 => (some (a0_0, a0_1, t104))) = some (r1, r2, r3) := h
  clear h
  replace H := Option.bind_eq_some_iff.mp H
  obtain ⟨t104, A20, H⟩ := H
  replace H : (some (a0_0, a0_1, t104)) = some (r1, r2, r3) := H
  have A2 := Aside0.mk A20
  clear A20
  simp only [Option.some.injEq, Prod.mk.injEq] at H
  obtain ⟨rfl, rfl, rfl⟩ := H
  go_enter Try.func23, Try.ntmps23
  go_wp2_with (first | ((with_reducible refine gate_dst (N := 1) rfl ?_); refine box_event ?hg (N := 1) ?hd (cs := #[.int .i64 a0_0, .int .i64 a0_1, .slice A0_2 l0_2.length c0_2]) (t := 30) ?hr ?_; (case hd => rfl); (case hg => rfl); (case hr => first | (go_simp; done) | (go_simp; rfl)); intro gb101 hg w3 hbox hb; have n0_ := Aside0.mk (below_step (by repeat (first | (with_reducible first | exact HB.out | apply below_alloc | apply pw_below_drewN | apply below_drew1) | exact HB.out)) hb); have n1_ := Aside0.mk (hbox); have n2_ := Aside0.mk ((by rw [hg]; exact (below_size (by repeat (first | (with_reducible first | exact HB.out | apply below_alloc | apply pw_below_drewN | apply below_drew1) | exact HB.out))) : w.heap.size ≤ gb101)); have n3_ := Aside0.mk ((by rw [hg]; exact (below_size (by repeat (first | (with_reducible first | exact HB.out | apply below_alloc | apply pw_below_drewN | apply below_drew1) | exact HB.out))) : w.heap.size ≤ gb101)); clear HB; have HB := n0_; have BK101 := n1_; have GW101 := n2_; have GE101 := n3_; clear n0_ n1_ n2_ n3_; clear hb hbox hg) | ((with_reducible refine gate_dst (N := 2) rfl ?_); refine box_event ?hg (N := 2) ?hd (cs := #[.int .i64 0, .int .i64 0, .slice none 0 0]) (t := 34) ?hr ?_; (case hd => rfl); (case hg => rfl); (case hr => first | (go_simp; done) | (go_simp; rfl)); intro gb102 hg w4 hbox hb; have n0_ := Aside0.mk (blk_below (g := gb101) (o := .cells #[.int .i64 a0_0, .int .i64 a0_1, .slice A0_2 l0_2.length c0_2] 30 (0, 0)) (by (with_reducible repeat (first | refine blk_drewN ?_ _ | refine blk_drew ?_ | refine blk_alloc ?_ _)); exact BK101.out) hb); have n1_ := Aside0.mk (below_step (by repeat (first | (with_reducible first | exact HB.out | apply below_alloc | apply pw_below_drewN | apply below_drew1 | refine below_set ?_ GE101.out) | exact HB.out)) hb); have n2_ := Aside0.mk (hbox); have n3_ := Aside0.mk ((by rw [hg]; exact (below_size (by repeat (first | (with_reducible first | exact HB.out | apply below_alloc | apply pw_below_drewN | apply below_drew1 | refine below_set ?_ GE101.out) | exact HB.out))) : w.heap.size ≤ gb102)); have n4_ := Aside0.mk ((by rw [hg]; exact (below_size (by repeat (first | (with_reducible first | exact HB.out | apply below_alloc | apply pw_below_drewN | apply below_drew1 | refine below_set ?_ GE101.out) | exact HB.out))) : w.heap.size ≤ gb102)); have n5_ := Aside0.mk ((by rw [hg]; exact Nat.ne_of_lt (blk_lt (g := gb101) (o := .cells #[.int .i64 a0_0, .int .i64 a0_1, .slice A0_2 l0_2.length c0_2] 30 (0, 0)) (by (with_reducible repeat (first | refine blk_drewN ?_ _ | refine blk_drew ?_ | refine blk_alloc ?_ _)); exact BK101.out)) : gb101 ≠ gb102)); have n6_ := Aside0.mk ((by rw [hg]; exact Nat.ne_of_gt (blk_lt (g := gb101) (o := .cells #[.int .i64 a0_0, .int .i64 a0_1, .slice A0_2 l0_2.length c0_2] 30 (0, 0)) (by (with_reducible repeat (first | refine blk_drewN ?_ _ | refine blk_drew ?_ | refine blk_alloc ?_ _)); exact BK101.out)) : gb102 ≠ gb101)); clear BK101; clear HB; have BK101 := n0_; have HB := n1_; have BK102 := n2_; have GW102 := n3_; have GE102 := n4_; have NB101_102 := n5_; have NB102_101 := n6_; clear n0_ n1_ n2_ n3_ n4_ n5_ n6_; clear hb hbox hg) | ((with_reducible refine gate_dst (N := 3) rfl ?_); refine box_event ?hg (N := 3) ?hd (cs := #[.int .i64 0, .int .i64 0, .slice none 0 0]) (t := 34) ?hr ?_; (case hd => rfl); (case hg => rfl); (case hr => first | (go_simp; done) | (go_simp; rfl)); intro gb103 hg w5 hbox hb; have n0_ := Aside0.mk (blk_below (g := gb101) (o := .cells #[.int .i64 a0_0, .int .i64 a0_1, .slice A0_2 l0_2.length c0_2] 30 (0, 0)) (by (with_reducible repeat (first | refine blk_drewN ?_ _ | refine blk_drew ?_ | refine blk_alloc ?_ _)); exact BK101.out) hb); have n1_ := Aside0.mk (blk_below (g := gb102) (o := .cells #[.int .i64 0, .int .i64 0, .slice none 0 0] 34 (0, 0)) (by (with_reducible repeat (first | refine blk_drewN ?_ _ | refine blk_drew ?_ | refine blk_alloc ?_ _)); exact BK102.out) hb); have n2_ := Aside0.mk (below_step (by repeat (first | (with_reducible first | exact HB.out | apply below_alloc | apply pw_below_drewN | apply below_drew1 | refine below_set ?_ GE101.out | refine below_set ?_ GE102.out) | exact HB.out)) hb); have n3_ := Aside0.mk (hbox); have n4_ := Aside0.mk ((by rw [hg]; exact (below_size (by repeat (first | (with_reducible first | exact HB.out | apply below_alloc | apply pw_below_drewN | apply below_drew1 | refine below_set ?_ GE101.out | refine below_set ?_ GE102.out) | exact HB.out))) : w.heap.size ≤ gb103)); have n5_ := Aside0.mk ((by rw [hg]; exact (below_size (by repeat (first | (with_reducible first | exact HB.out | apply below_alloc | apply pw_below_drewN | apply below_drew1 | refine below_set ?_ GE101.out | refine below_set ?_ GE102.out) | exact HB.out))) : w.heap.size ≤ gb103)); have n6_ := Aside0.mk ((by rw [hg]; exact Nat.ne_of_lt (blk_lt (g := gb101) (o := .cells #[.int .i64 a0_0, .int .i64 a0_1, .slice A0_2 l0_2.length c0_2] 30 (0, 0)) (by (with_reducible repeat (first | refine blk_drewN ?_ _ | refine blk_drew ?_ | refine blk_alloc ?_ _)); exact BK101.out)) : gb101 ≠ gb103)); have n7_ := Aside0.mk ((by rw [hg]; exact Nat.ne_of_gt (blk_lt (g := gb101) (o := .cells #[.int .i64 a0_0, .int .i64 a0_1, .slice A0_2 l0_2.length c0_2] 30 (0, 0)) (by (with_reducible repeat (first | refine blk_drewN ?_ _ | refine blk_drew ?_ | refine blk_alloc ?_ _)); exact BK101.out)) : gb103 ≠ gb101)); have n8_ := Aside0.mk ((by rw [hg]; exact Nat.ne_of_lt (blk_lt (g := gb102) (o := .cells #[.int .i64 0, .int .i64 0, .slice none 0 0] 34 (0, 0)) (by (with_reducible repeat (first | refine blk_drewN ?_ _ | refine blk_drew ?_ | refine blk_alloc ?_ _)); exact BK102.out)) : gb102 ≠ gb103)); have n9_ := Aside0.mk ((by rw [hg]; exact Nat.ne_of_gt (blk_lt (g := gb102) (o := .cells #[.int .i64 0, .int .i64 0, .slice none 0 0] 34 (0, 0)) (by (with_reducible repeat (first | refine blk_drewN ?_ _ | refine blk_drew ?_ | refine blk_alloc ?_ _)); exact BK102.out)) : gb103 ≠ gb102)); clear BK101; clear BK102; clear HB; have BK101 := n0_; have BK102 := n1_; have HB := n2_; have BK103 := n3_; have GW103 := n4_; have GE103 := n5_; have NB101_103 := n6_; have NB103_101 := n7_; have NB102_103 := n8_; have NB103_102 := n9_; clear n0_ n1_ n2_ n3_ n4_ n5_ n6_ n7_ n8_ n9_; clear hb hbox hg; have hnb6 := NB101_102.out; have hnc6 := NB102_101.out; have hnb7 := NB101_103.out; have hnc7 := NB103_101.out; have hcz8_0 : w5.cell? ⟨gb101, 0, none⟩ = some (.int .i64 a0_0) := (blk_cell BK101.out 0).trans rfl; have hcz8_1 : w5.cell? ⟨gb101, 1, none⟩ = some (.int .i64 a0_1) := (blk_cell BK101.out 1).trans rfl; have hcz8_2 : w5.cell? ⟨gb101, 2, none⟩ = some (.slice A0_2 l0_2.length c0_2) := (blk_cell BK101.out 2).trans rfl; have hfz8_0 := blk_frozen BK101.out 0; have hfz8_1 := blk_frozen BK101.out 1; have hfz8_2 := blk_frozen BK101.out 2; have hnb9 := NB103_102.out; have hnc9 := NB102_103.out; have hcz10_0 : w5.cell? ⟨gb103, 0, none⟩ = some (.int .i64 0) := (blk_cell BK103.out 0).trans rfl; have hcz10_1 : w5.cell? ⟨gb103, 1, none⟩ = some (.int .i64 0) := (blk_cell BK103.out 1).trans rfl; have hcz10_2 : w5.cell? ⟨gb103, 2, none⟩ = some (.slice none 0 0) := (blk_cell BK103.out 2).trans rfl; have hfz10_0 := blk_frozen BK103.out 0; have hfz10_1 := blk_frozen BK103.out 1; have hfz10_2 := blk_frozen BK103.out 2) | ((with_reducible refine gate_callee (f := 16) rfl ?_); refine goesL_ (some 12) rfl rfl Try.func16 (by kernel_rfl) rfl #[.slice A0_2 l0_2.length c0_2] rfl (by (try simp only [List.map_toArray, List.map_cons, List.map_nil]); first | done | rfl | (simp only [List.length_drop, List.length_take]; rfl)) ?_; (with_reducible refine (laws_toIntS.calls k _ _ l0_2 t104 _ ?side1 ?side2 A2.out).mono ?_); (case side1 => exact Kd.C_below HR0_2.out (by repeat (first | (with_reducible first | exact HB.out | apply below_alloc | apply pw_below_drewN | apply below_drew1 | refine below_set ?_ GE101.out | refine below_set ?_ GE102.out | refine below_set ?_ GE103.out) | exact HB.out))); (case side2 => exact HC0_2.out); rintro e w11 ⟨v105, rfl, ho0, hb⟩; refine ⟨_, rfl, ?_⟩; have n0_ := Aside0.mk (Kd.R_lower ho0 (below_size (by repeat (first | (with_reducible first | exact HB.out | apply below_alloc | apply pw_below_drewN | apply below_drew1 | refine below_set ?_ GE101.out | refine below_set ?_ GE102.out | refine below_set ?_ GE103.out) | exact HB.out)))); have n1_ := Aside0.mk (blk_below (g := gb101) (o := .cells #[.int .i64 a0_0, .int .i64 a0_1, .slice A0_2 l0_2.length c0_2] 30 (0, 0)) (by (with_reducible repeat (first | refine blk_drewN ?_ _ | refine blk_drew ?_ | refine blk_alloc ?_ _)); refine blk_far ?_ NB101_103.out _; (with_reducible repeat (first | refine blk_drewN ?_ _ | refine blk_drew ?_ | refine blk_alloc ?_ _)); refine blk_far ?_ NB101_103.out _; (with_reducible repeat (first | refine blk_drewN ?_ _ | refine blk_drew ?_ | refine blk_alloc ?_ _)); exact BK101.out) hb); have n2_ := Aside0.mk (blk_below (g := gb102) (o := .cells #[.int .i64 0, .int .i64 0, .slice none 0 0] 34 (0, 0)) (by (with_reducible repeat (first | refine blk_drewN ?_ _ | refine blk_drew ?_ | refine blk_alloc ?_ _)); refine blk_far ?_ NB102_103.out _; (with_reducible repeat (first | refine blk_drewN ?_ _ | refine blk_drew ?_ | refine blk_alloc ?_ _)); refine blk_far ?_ NB102_103.out _; (with_reducible repeat (first | refine blk_drewN ?_ _ | refine blk_drew ?_ | refine blk_alloc ?_ _)); exact BK102.out) hb); have n3_ := Aside0.mk (blk_below (g := gb103) (o := .cells #[.int .i64 a0_0, .int .i64 a0_1, .slice none 0 0] 34 (0, 0)) (by (with_reducible repeat (first | refine blk_drewN ?_ _ | refine blk_drew ?_ | refine blk_alloc ?_ _)); refine blk_put (cs := #[.int .i64 a0_0, .int .i64 0, .slice none 0 0]) ?_ 1 _ rfl; (with_reducible repeat (first | refine blk_drewN ?_ _ | refine blk_drew ?_ | refine blk_alloc ?_ _)); refine blk_put (cs := #[.int .i64 0, .int .i64 0, .slice none 0 0]) ?_ 0 _ rfl; (with_reducible repeat (first | refine blk_drewN ?_ _ | refine blk_drew ?_ | refine blk_alloc ?_ _)); exact BK103.out) hb); have n4_ := Aside0.mk (below_step (by repeat (first | (with_reducible first | exact HB.out | apply below_alloc | apply pw_below_drewN | apply below_drew1 | refine below_set ?_ GE101.out | refine below_set ?_ GE102.out | refine below_set ?_ GE103.out) | exact HB.out)) hb); clear BK101; clear BK102; clear BK103; clear HB; have HO106 := n0_; have BK101 := n1_; have BK102 := n2_; have BK103 := n3_; have HB := n4_; clear n0_ n1_ n2_ n3_ n4_; (try clear hb); (try clear hb2); (try clear hk); (try clear hi); (try clear ho0); obtain ⟨Ao12, co12, eo12⟩ := Kd.R_slice HO106.out; subst eo12; have hcz13_0 : w11.cell? ⟨gb103, 0, none⟩ = some (.int .i64 a0_0) := (blk_cell BK103.out 0).trans rfl; have hcz13_1 : w11.cell? ⟨gb103, 1, none⟩ = some (.int .i64 a0_1) := (blk_cell BK103.out 1).trans rfl; have hcz13_2 : w11.cell? ⟨gb103, 2, none⟩ = some (.slice none 0 0) := (blk_cell BK103.out 2).trans rfl; have hfz13_0 := blk_frozen BK103.out 0; have hfz13_1 := blk_frozen BK103.out 1; have hfz13_2 := blk_frozen BK103.out 2; have hcz14_0 : w11.cell? ⟨gb102, 0, none⟩ = some (.int .i64 0) := (blk_cell BK102.out 0).trans rfl; have hcz14_1 : w11.cell? ⟨gb102, 1, none⟩ = some (.int .i64 0) := (blk_cell BK102.out 1).trans rfl; have hcz14_2 : w11.cell? ⟨gb102, 2, none⟩ = some (.slice none 0 0) := (blk_cell BK102.out 2).trans rfl; have hfz14_0 := blk_frozen BK102.out 0; have hfz14_1 := blk_frozen BK102.out 1; have hfz14_2 := blk_frozen BK102.out 2))
  refine bodyPost_ret (results_cell_row rfl _ _ gb102 34 #[.int .i64 a0_0, .int .i64 a0_1, .slice Ao12 t104.length co12] (0, 0) _ rfl (by (with_reducible repeat (first | refine blk_drewN ?_ _ | refine blk_drew ?_ | refine blk_alloc ?_ _)); refine blk_put (cs := #[.int .i64 a0_0, .int .i64 a0_1, .slice none 0 0]) ?_ 2 _ rfl; (with_reducible repeat (first | refine blk_drewN ?_ _ | refine blk_drew ?_ | refine blk_alloc ?_ _)); refine blk_put (cs := #[.int .i64 a0_0, .int .i64 0, .slice none 0 0]) ?_ 1 _ rfl; (with_reducible repeat (first | refine blk_drewN ?_ _ | refine blk_drew ?_ | refine blk_alloc ?_ _)); refine blk_put (cs := #[.int .i64 0, .int .i64 0, .slice none 0 0]) ?_ 0 _ rfl; (with_reducible repeat (first | refine blk_drewN ?_ _ | refine blk_drew ?_ | refine blk_alloc ?_ _)); refine blk_far ?_ NB102_103.out _; (with_reducible repeat (first | refine blk_drewN ?_ _ | refine blk_drew ?_ | refine blk_alloc ?_ _)); exact BK102.out) Try.underlying34 rfl (by kernel_rfl)) rfl ?_
  exact ⟨_, by first | rfl | (simp [errW_none, errW_some] <;> rfl) | (simp [*, errW_none, errW_some] <;> rfl), by (with_reducible repeat (first | apply Kd.R_alloc | apply Kd.R_drewN | apply Kd.R_drew)); exact Kd.R_mono (Kd.R_far (p := ⟨gb102, 2, none⟩) (Kd.R_far (p := ⟨gb102, 1, none⟩) (Kd.R_far (p := ⟨gb102, 0, none⟩) (Kd.R_far (p := ⟨gb103, 2, none⟩) (Kd.R_types (Kd.R_types HO106.out BK103.out (by decide)) BK102.out (by decide)) (fun _ hk => hk.1.2) (.slice Ao12 t104.length co12)) (fun _ hk => hk.2) (.int .i64 a0_0)) (fun _ hk => hk.2) (.int .i64 a0_1)) (fun _ hk => hk.2) (.slice Ao12 t104.length co12)) (fun _ hk => trivial), by repeat (first | (with_reducible first | exact HB.out | apply below_alloc | apply pw_below_drewN | apply below_drew1 | refine below_set ?_ GE101.out | refine below_set ?_ GE102.out | refine below_set ?_ GE103.out) | exact HB.out)⟩

end Go.Proofs.Ytfiijdiccjapiaa.P
-- written by mp.py (this session's), with the print's functions; Lean checks it
namespace Go.Proofs.Ytfiijdiccjapiaa.P
open Go.RowKit Go.Proofs.YtfiijdiccjapiaaW.PrintWords Go.Proofs.YtfiijdiccjapiaaW.PrintLast Go.Proofs.YtfiijdiccjapiaaW.PrintMore
attribute [local go_sem] max2_int min2_int max_two min_two max_three min_three max_four min_four   -- for this text's walks alone
set_option linter.unusedVariables false
set_option linter.unusedSimpArgs false

/-! ### laws_szIntS: function 75 -/
def laws_szIntS.f (l0 : List Int) (a1 : Int) : Option (Int) := if (wrap64 (a1 - (l0.length : Int))) < 0 then (some (-1)) else (some (wrap64 (a1 - (l0.length : Int))))
set_option maxHeartbeats 8000000 in
set_option maxRecDepth 100000 in
theorem laws_szIntS.calls (A0 : Option Addr) (c0 : Nat) (l0 : List Int) (a1 : Int) (r : Int) (w : World) (hr0 : Kd.C (Kd.int .i64) w A0 l0.length l0) (hc0 : l0.length ≤ c0) (h : laws_szIntS.f l0 a1 = some r) :
    Calls Try.prog 75 #[.slice A0 l0.length c0, .int .i64 a1] w fun e w' => e = .returned (.int .i64 r) ∧ Drawn0 w w' := by
  have HR0 := Aside0.mk hr0
  have HC0 := Aside0.mk hc0
  clear hr0 hc0
  have H : (if (wrap64 (a1 - (l0.length : Int))) < 0 then (some (-1)) else (some (wrap64 (a1 - (l0.length : Int))))) = some r := h
  clear h
  by_cases c3 : (wrap64 (a1 - (l0.length : Int))) < 0
  · rw [if_pos c3] at H
    have c3b0 : decide ((wrap64 (a1 - (l0.length : Int))) < 0) = true := decide_eq_true c3
    clear c3
    obtain rfl := Option.some.inj H
    go_enter Try.func75, Try.ntmps75
    go_wp2
    go_ret
    exact ⟨by first | rfl | (simp; done) | (simp [*]; done), by repeat (first | exact Drawn0.refl _ | apply Drawn0.step)⟩
  · rw [if_neg c3] at H
    have c3b0 : decide ((wrap64 (a1 - (l0.length : Int))) < 0) = false := decide_eq_false c3
    clear c3
    obtain rfl := Option.some.inj H
    go_enter Try.func75, Try.ntmps75
    go_wp2
    go_ret
    exact ⟨by first | rfl | (simp; done) | (simp [*]; done), by repeat (first | exact Drawn0.refl _ | apply Drawn0.step)⟩

end Go.Proofs.Ytfiijdiccjapiaa.P
-- written by mp.py (this session's), with the print's functions; Lean checks it
namespace Go.Proofs.Ytfiijdiccjapiaa.P
open Go.RowKit Go.Proofs.YtfiijdiccjapiaaW.PrintWords Go.Proofs.YtfiijdiccjapiaaW.PrintLast Go.Proofs.YtfiijdiccjapiaaW.PrintMore
attribute [local go_sem] max2_int min2_int max_two min_two max_three min_three max_four min_four   -- for this text's walks alone
set_option linter.unusedVariables false
set_option linter.unusedSimpArgs false

/-! ### laws_szField: function 21 -/
def laws_szField.f (a0_0 : Int) (a0_1 : Int) (l0_2 : List Int) (a1 : Int) : Option (Int) := (laws_szIntS.f l0_2 a1).bind fun t102 => (if t102 < 0 then (some (-1)) else (some t102))
set_option maxHeartbeats 8000000 in
set_option maxRecDepth 100000 in
theorem laws_szField.calls (a0_0 : Int) (a0_1 : Int) (A0_2 : Option Addr) (c0_2 : Nat) (l0_2 : List Int) (a1 : Int) (r : Int) (w : World) (hr0_2 : Kd.C (Kd.int .i64) w A0_2 l0_2.length l0_2) (hc0_2 : l0_2.length ≤ c0_2) (h : laws_szField.f a0_0 a0_1 l0_2 a1 = some r) :
    Calls Try.prog 21 #[.agg #[.int .i64 a0_0, .int .i64 a0_1, .slice A0_2 l0_2.length c0_2], .int .i64 a1] w fun e w' => e = .returned (.int .i64 r) ∧ Below w.heap.size w w' := by
  have hu30 := Try.underlying30
  have HR0_2 := Aside0.mk hr0_2
  have HC0_2 := Aside0.mk hc0_2
  clear hr0_2 hc0_2
  have HB := Aside0.mk (Below.refl w.heap.size w)
  have H : ((laws_szIntS.f l0_2 a1).bind fun t102 => (if t102 < 0 then (some (-1)) else (some t102))) = some r := h
  clear h
  replace H := Option.bind_eq_some_iff.mp H
  obtain ⟨t102, A30, H⟩ := H
  replace H : (if t102 < 0 then (some (-1)) else (some t102)) = some r := H
  have A3 := Aside0.mk A30
  clear A30
  by_cases c4 : t102 < 0
  · rw [if_pos c4] at H
    have c4b0 : decide (t102 < 0) = true := decide_eq_true c4
    clear c4
    obtain rfl := Option.some.inj H
    go_enter Try.func21, Try.ntmps21
    go_wp2_with (first | ((with_reducible refine gate_dst (N := 2) rfl ?_); refine box_event ?hg (N := 2) ?hd (cs := #[.int .i64 a0_0, .int .i64 a0_1, .slice A0_2 l0_2.length c0_2]) (t := 30) ?hr ?_; (case hd => rfl); (case hg => rfl); (case hr => first | (go_simp; done) | (go_simp; rfl)); intro gb101 hg w5 hbox hb; have n0_ := Aside0.mk (below_step (by repeat (first | (with_reducible first | exact HB.out | apply below_alloc | apply pw_below_drewN | apply below_drew1) | exact HB.out)) hb); have n1_ := Aside0.mk (hbox); have n2_ := Aside0.mk ((by rw [hg]; exact (below_size (by repeat (first | (with_reducible first | exact HB.out | apply below_alloc | apply pw_below_drewN | apply below_drew1) | exact HB.out))) : w.heap.size ≤ gb101)); have n3_ := Aside0.mk ((by rw [hg]; exact (below_size (by repeat (first | (with_reducible first | exact HB.out | apply below_alloc | apply pw_below_drewN | apply below_drew1) | exact HB.out))) : w.heap.size ≤ gb101)); clear HB; have HB := n0_; have BK101 := n1_; have GW101 := n2_; have GE101 := n3_; clear n0_ n1_ n2_ n3_; clear hb hbox hg; have hcz6_0 : w5.cell? ⟨gb101, 0, none⟩ = some (.int .i64 a0_0) := (blk_cell BK101.out 0).trans rfl; have hcz6_1 : w5.cell? ⟨gb101, 1, none⟩ = some (.int .i64 a0_1) := (blk_cell BK101.out 1).trans rfl; have hcz6_2 : w5.cell? ⟨gb101, 2, none⟩ = some (.slice A0_2 l0_2.length c0_2) := (blk_cell BK101.out 2).trans rfl; have hfz6_0 := blk_frozen BK101.out 0; have hfz6_1 := blk_frozen BK101.out 1; have hfz6_2 := blk_frozen BK101.out 2) | ((with_reducible refine gate_callee (f := 75) rfl ?_); refine goesL_ (some 8) rfl rfl Try.func75 (by kernel_rfl) rfl #[.slice A0_2 l0_2.length c0_2, .int .i64 a1] rfl (by (try simp only [List.map_toArray, List.map_cons, List.map_nil]); first | done | rfl | (simp only [List.length_drop, List.length_take]; rfl)) ?_; (with_reducible refine (laws_szIntS.calls _ _ l0_2 a1 t102 _ ?side1 ?side2 A3.out).mono ?_); (case side1 => repeat (first | exact (Kd.C_below HR0_2.out HB.out) | (with_reducible refine Kd.C_alloc ?_ _) | (with_reducible refine Kd.C_drewN ?_ _) | (with_reducible refine Kd.C_drew ?_))); (case side2 => exact HC0_2.out); rintro e w' ⟨rfl, ⟨nd, rfl⟩⟩; refine ⟨_, rfl, ?_⟩))
    go_ret
    exact ⟨by first | rfl | (simp [errW_none, errW_some] <;> rfl) | (simp [*, errW_none, errW_some] <;> rfl), by repeat (first | (with_reducible first | exact HB.out | apply below_alloc | apply pw_below_drewN | apply below_drew1 | refine below_set ?_ GE101.out) | exact HB.out)⟩
  · rw [if_neg c4] at H
    have c4b0 : decide (t102 < 0) = false := decide_eq_false c4
    clear c4
    obtain rfl := Option.some.inj H
    go_enter Try.func21, Try.ntmps21
    go_wp2_with (first | ((with_reducible refine gate_dst (N := 2) rfl ?_); refine box_event ?hg (N := 2) ?hd (cs := #[.int .i64 a0_0, .int .i64 a0_1, .slice A0_2 l0_2.length c0_2]) (t := 30) ?hr ?_; (case hd => rfl); (case hg => rfl); (case hr => first | (go_simp; done) | (go_simp; rfl)); intro gb101 hg w7 hbox hb; have n0_ := Aside0.mk (below_step (by repeat (first | (with_reducible first | exact HB.out | apply below_alloc | apply pw_below_drewN | apply below_drew1) | exact HB.out)) hb); have n1_ := Aside0.mk (hbox); have n2_ := Aside0.mk ((by rw [hg]; exact (below_size (by repeat (first | (with_reducible first | exact HB.out | apply below_alloc | apply pw_below_drewN | apply below_drew1) | exact HB.out))) : w.heap.size ≤ gb101)); have n3_ := Aside0.mk ((by rw [hg]; exact (below_size (by repeat (first | (with_reducible first | exact HB.out | apply below_alloc | apply pw_below_drewN | apply below_drew1) | exact HB.out))) : w.heap.size ≤ gb101)); clear HB; have HB := n0_; have BK101 := n1_; have GW101 := n2_; have GE101 := n3_; clear n0_ n1_ n2_ n3_; clear hb hbox hg; have hcz8_0 : w7.cell? ⟨gb101, 0, none⟩ = some (.int .i64 a0_0) := (blk_cell BK101.out 0).trans rfl; have hcz8_1 : w7.cell? ⟨gb101, 1, none⟩ = some (.int .i64 a0_1) := (blk_cell BK101.out 1).trans rfl; have hcz8_2 : w7.cell? ⟨gb101, 2, none⟩ = some (.slice A0_2 l0_2.length c0_2) := (blk_cell BK101.out 2).trans rfl; have hfz8_0 := blk_frozen BK101.out 0; have hfz8_1 := blk_frozen BK101.out 1; have hfz8_2 := blk_frozen BK101.out 2) | ((with_reducible refine gate_callee (f := 75) rfl ?_); refine goesL_ (some 8) rfl rfl Try.func75 (by kernel_rfl) rfl #[.slice A0_2 l0_2.length c0_2, .int .i64 a1] rfl (by (try simp only [List.map_toArray, List.map_cons, List.map_nil]); first | done | rfl | (simp only [List.length_drop, List.length_take]; rfl)) ?_; (with_reducible refine (laws_szIntS.calls _ _ l0_2 a1 t102 _ ?side1 ?side2 A3.out).mono ?_); (case side1 => repeat (first | exact (Kd.C_below HR0_2.out HB.out) | (with_reducible refine Kd.C_alloc ?_ _) | (with_reducible refine Kd.C_drewN ?_ _) | (with_reducible refine Kd.C_drew ?_))); (case side2 => exact HC0_2.out); rintro e w' ⟨rfl, ⟨nd, rfl⟩⟩; refine ⟨_, rfl, ?_⟩))
    go_ret
    exact ⟨by first | rfl | (simp [errW_none, errW_some] <;> rfl) | (simp [*, errW_none, errW_some] <;> rfl), by repeat (first | (with_reducible first | exact HB.out | apply below_alloc | apply pw_below_drewN | apply below_drew1 | refine below_set ?_ GE101.out) | exact HB.out)⟩

end Go.Proofs.Ytfiijdiccjapiaa.P
/- What the laws' helpers for fields come to: copies, equality, sizes, marks. No conditions. -/
namespace Go.Proofs.Ytfiijdiccjapiaa.Pure
set_option linter.unusedVariables false
set_option linter.unusedSimpArgs false
open Go.RowKit Go.Proofs.Ytfiijdiccjapiaa.P Go.Proofs.YtfiijdiccjapiaaW.PrintWords Go.Proofs.YtfiijdiccjapiaaW.PrintLast
theorem toField_ev (a b : Int) (l : List Int) (hl : l.length ≤ 35184372088832) : Ev (fun k => laws_toField.f k a b l) (a, b, l) := ev_bind (toIntS_ev l hl) (ev_some _)
theorem eqField_ev (a b : Int) (l : List Int) (a' b' : Int) (l' : List Int) (hl : l.length ≤ 9223372036854775806) : Ev (fun k => laws_eqField.f k a b l a' b' l') (decide (a = a' ∧ b = b' ∧ l = l')) := by
  unfold laws_eqField.f
  by_cases h1 : a = a'
  · refine ev_ifp h1 ?_
    by_cases h2 : b = b'
    · refine ev_ifp h2 (ev_bind (eqIntS_ev l l' hl) ?_)
      by_cases h3 : l = l'
      · simp only [h1, h2, h3, decide_true, and_self, if_true]
        exact ev_some _
      · simp only [h3, decide_false, and_false, Bool.false_eq_true, if_false]
        exact ev_some _
    · simp only [h2, false_and, and_false, decide_false, if_false]
      exact ev_some _
  · simp only [h1, false_and, decide_false, if_false]
    exact ev_some _
theorem eqField_self (a b : Int) (l : List Int) (hl : l.length ≤ 9223372036854775806) : Ev (fun k => laws_eqField.f k a b l a b l) true := by
  have := eqField_ev a b l a b l hl
  simpa using this
theorem szInt_is (l : List Int) (a : Int) (ha : 0 ≤ a) (ha2 : a ≤ 1048576) (hl : l.length ≤ 9223372036854775807) : laws_szIntS.f l a = some (if a < l.length then -1 else a - l.length) := by
  unfold laws_szIntS.f
  rw [w64 (by omega) (by omega)]
  split
  · rw [if_pos (by omega)]
  · rw [if_neg (by omega)]
theorem szField_at (a b : Int) (l : List Int) (s : Int) (hs : 0 ≤ s) (hs2 : s ≤ 1048576) (hl : l.length ≤ 9223372036854775807) : laws_szField.f a b l s = some (if s < l.length then -1 else s - l.length) := by
  unfold laws_szField.f
  rw [szInt_is l s hs hs2 hl]
  by_cases h : s < (l.length : Int)
  · simp [h]
  · rw [if_neg h, Option.bind_some, if_neg (by omega)]
/-- The law's guard on a field's size: too large, or the list is short. -/
theorem szField_go (a b : Int) (l : List Int) (s : Int) (hs : 0 ≤ s) (hs2 : s ≤ 1048576) (hl : l.length ≤ 9223372036854775807) :
    (∃ r, laws_szField.f a b l s = some r ∧ r < 0) ∨ ∃ r, laws_szField.f a b l s = some r ∧ ¬ r < 0 ∧ 0 ≤ r ∧ r ≤ 1048576 ∧ l.length ≤ 1048576 := by
  rw [szField_at a b l s hs hs2 hl]
  by_cases h : s < (l.length : Int)
  · rw [if_pos h]
    exact .inl ⟨_, rfl, by omega⟩
  · rw [if_neg h]
    exact .inr ⟨_, rfl, by omega, by omega, by omega, by omega⟩
end Go.Proofs.Ytfiijdiccjapiaa.Pure
/- What the laws' marks come to: a row that is written with numbers rising from a is held by the same count. No conditions. -/
namespace Go.Proofs.Ytfiijdiccjapiaa.Pure
set_option linter.unusedVariables false
set_option linter.unusedSimpArgs false
open Go.RowKit Go.Proofs.Ytfiijdiccjapiaa.P Go.Proofs.YtfiijdiccjapiaaW.PrintWords Go.Proofs.YtfiijdiccjapiaaW.PrintLast
/-- n numbers rising from a. -/
def cnt (a : Int) (n : Nat) : List Int := (List.range n).map (fun i : Nat => a + (i : Int))
theorem cnt_length (a : Int) (n : Nat) : (cnt a n).length = n := by simp [cnt]
theorem cnt_getD (a : Int) (n i : Nat) (h : i < n) : (cnt a n).getD i 0 = a + i := by simp [cnt, List.getD, h]
theorem markIntS_ev (l : List Int) (a : Int) (h0 : 0 ≤ a) (h1 : a + l.length ≤ 9223372036854775806) : Ev (fun k => laws_markIntS.f k l a) (a + l.length, cnt a l.length) := by
  have h := loop_ev (fun k s i => laws_markIntS.l0 k s (a + (i : Int)) (i : Int)) l.length (fun i s => s.set i (a + i)) (fun s => (a + (l.length : Int), s))
    (fun i s => s.length = l.length ∧ ∀ j, j < i → s.getD j 0 = a + j)
    (fun i s r hI hi h => ev_step (fun k => by
      show laws_markIntS.l0 (k + 1) s (a + (i : Int)) (i : Int) = laws_markIntS.l0 k (s.set i (a + i)) (a + ((i + 1 : Nat) : Int)) ((i + 1 : Nat) : Int)
      have := hI.1
      simp only [laws_markIntS.l0]
      rw [if_pos (by omega), if_pos (by omega), w64 (by omega) (by omega), w64 (by omega) (by omega)]
      simp [Int.add_assoc]) h)
    (fun i s hI hi => ⟨by simp [hI.1], fun j hj => by
      by_cases e : j = i
      · subst e
        have := hI.1
        simp [List.getD, List.getElem?_set_self (show j < s.length by omega)]
      · have := hI.2 j (by omega)
        rw [← this]
        simp [List.getD, List.getElem?_set_ne (Ne.symm e)]⟩)
    (fun s hI => ev_step (f := fun _ => some (a + (l.length : Int), s)) (fun k => by
      have := hI.1
      simp only [laws_markIntS.l0]
      rw [if_neg (by omega)]) (ev_some _)) 0 l (Nat.zero_le _) ⟨rfl, fun j hj => by omega⟩
  have e : iter (fun i (s : List Int) => s.set i (a + i)) 0 (l.length - 0) l = cnt a l.length := by
    have hi := iter_inv (fun i (s : List Int) => s.set i (a + i)) (fun i s => s.length = l.length ∧ ∀ j, j < i → s.getD j 0 = a + j) l.length
      (fun i s hI hi => ⟨by simp [hI.1], fun j hj => by
        by_cases e : j = i
        · subst e
          have := hI.1
          simp [List.getD, List.getElem?_set_self (show j < s.length by omega)]
        · have := hI.2 j (by omega)
          rw [← this]
          simp [List.getD, List.getElem?_set_ne (Ne.symm e)]⟩) (l.length - 0) 0 l (by omega) ⟨rfl, fun j hj => by omega⟩
    exact eq_index 0 (by rw [hi.1, cnt_length]) (fun j hj => by rw [hi.2 j (by have := hi.1; omega), cnt_getD a _ j (by have := hi.1; omega)])
  rw [e] at h
  refine Ev.congr (fun k => ?_) h
  unfold laws_markIntS.f
  simp
theorem heldIntS_ev (a : Int) (n : Nat) (h0 : 0 ≤ a) (h1 : a + n ≤ 9223372036854775806) : Ev (fun k => laws_heldIntS.f k (cnt a n) a) (a + n) := by
  have h := loop_ev (σ := Unit) (fun k _ i => laws_heldIntS.l0 k (cnt a n) (a + (i : Int)) (i : Int)) n (fun _ _ => ()) (fun _ => a + (n : Int)) (fun _ _ => True)
    (fun i s r _ hi h => ev_step (fun k => by
      show laws_heldIntS.l0 (k + 1) (cnt a n) (a + (i : Int)) (i : Int) = laws_heldIntS.l0 k (cnt a n) (a + ((i + 1 : Nat) : Int)) ((i + 1 : Nat) : Int)
      simp only [laws_heldIntS.l0, cnt_length, rd_nat, cnt_getD a n i hi]
      rw [if_pos (by omega), if_pos (by omega), if_pos trivial, w64 (by omega) (by omega), w64 (by omega) (by omega)]
      simp [Int.add_assoc]) h)
    (fun _ _ _ _ => trivial)
    (fun _ _ => ev_step (f := fun _ => some (a + (n : Int))) (fun k => by
      simp only [laws_heldIntS.l0, cnt_length]
      rw [if_neg (by omega)]) (ev_some _)) 0 () (Nat.zero_le _) trivial
  refine Ev.congr (fun k => ?_) h
  unfold laws_heldIntS.f
  simp
end Go.Proofs.Ytfiijdiccjapiaa.Pure
/- The marks of a field's row. No conditions. -/
namespace Go.Proofs.Ytfiijdiccjapiaa.Pure
set_option linter.unusedVariables false
set_option linter.unusedSimpArgs false
open Go.RowKit Go.Proofs.Ytfiijdiccjapiaa.P Go.Proofs.YtfiijdiccjapiaaW.PrintWords Go.Proofs.YtfiijdiccjapiaaW.PrintLast
theorem markField_ev (x y : Int) (l : List Int) (a : Int) (h0 : 0 ≤ a) (h1 : a + l.length ≤ 9223372036854775806) : Ev (fun k => laws_markField.f k x y l a) (a + l.length, cnt a l.length) := ev_bind (markIntS_ev l a h0 h1) (ev_some _)
end Go.Proofs.Ytfiijdiccjapiaa.Pure
/- What holds of a field's marks. No conditions. -/
namespace Go.Proofs.Ytfiijdiccjapiaa.Pure
set_option linter.unusedVariables false
set_option linter.unusedSimpArgs false
open Go.RowKit Go.Proofs.Ytfiijdiccjapiaa.P Go.Proofs.YtfiijdiccjapiaaW.PrintWords Go.Proofs.YtfiijdiccjapiaaW.PrintLast
theorem heldField_ev (x y : Int) (n : Nat) (a : Int) (h0 : 0 ≤ a) (h1 : a + n ≤ 9223372036854775806) : Ev (fun k => laws_heldField.f k x y (cnt a n) a) (a + n) :=
  ev_bind (heldIntS_ev a n h0 h1) (ev_ifn (by omega) (ev_some _))
end Go.Proofs.Ytfiijdiccjapiaa.Pure
/- The program's RegionField returns what the reference's RegionField returns, for all arguments; no conditions. -/
namespace Go.Proofs.Ytfiijdiccjapiaa.Pure
set_option linter.unusedVariables false
set_option linter.unusedSimpArgs false
open Go.RowKit Go.Proofs.Ytfiijdiccjapiaa.P Go.Proofs.YtfiijdiccjapiaaW.PrintWords Go.Proofs.YtfiijdiccjapiaaW.PrintLast
theorem FnExactRegionField : laws_FnExactRegionField.Pure := by
  intro a b l ha hb hl hy
  refine Ev.rounds ?_
  unfold laws_FnExactRegionField.f
  by_cases hlen0 : (l.length : Int) > 1048576
  · exact ev_ifp hlen0 (ev_some _)
  refine ev_ifn hlen0 ?_
  obtain ⟨⟨ra, rb, rs, g⟩, hs, hi, hlen⟩ := regionField_both a b l (by omega); simp only at hlen
  refine ev_bind (toIntS_ev _ (by first | omega | (dsimp only; omega) | (simp; omega))) ?_
  refine ev_bind hs ?_
  refine ev_bind (toIntS_ev _ (by first | omega | (dsimp only; omega) | (simp; omega))) ?_
  refine ev_bind hi ?_
  refine ev_bind (eqField_self _ _ _ (by first | omega | (dsimp only; omega) | (simp; omega))) ?_
  refine ev_ifp rfl ?_
  refine ev_step (fun k => laws_FnExactRegionField.j0.eq_2 _ _ _ _ _ _ _ _ _ _ _ _ _ k) ?_
  refine ev_ifn (by simp) ?_
  refine ev_bind (toIntS_ev _ (by first | omega | (dsimp only; omega) | (simp; omega))) ?_
  refine ev_bind (eqIntS_self _ (by first | omega | (dsimp only; omega) | (simp; omega))) ?_
  refine ev_ifp rfl ?_
  refine ev_bind (markIntS_ev _ _ (by first | omega | (dsimp only; omega) | (simp; omega)) (by first | omega | (dsimp only; omega) | (simp; omega))) ?_
  refine ev_ifn (by first | (simp; done) | (simp; omega) | omega) ?_
  refine ev_bind (eqField_self _ _ _ (by first | omega | (dsimp only; omega) | (simp; omega))) ?_
  refine ev_ifp rfl ?_
  refine ev_step (fun k => laws_FnExactRegionField.j1.eq_2 _ _ _ _ _ _ _ _ _ _ _ k) ?_
  refine ev_ifn (by simp) ?_
  refine ev_bind (markField_ev _ _ _ _ (by first | omega | (dsimp only; omega) | (simp; omega)) (by first | omega | (dsimp only; omega) | (simp; omega))) ?_
  refine ev_bind (heldField_ev _ _ _ _ (by first | omega | (dsimp only; omega) | (simp; omega)) (by first | omega | (dsimp only; omega) | (simp; omega))) ?_
  refine ev_ifn (by first | (simp; done) | (simp; omega) | omega) ?_
  refine ev_ifp (by first | rfl | (simp; done)) ?_
  refine ev_bind (toIntS_ev _ (by first | omega | (dsimp only; omega) | (simp; omega))) ?_
  refine ev_bind hi ?_
  refine ev_bind (eqField_self _ _ _ (by first | omega | (dsimp only; omega) | (simp; omega))) ?_
  refine ev_ifp rfl ?_
  refine ev_step (fun k => laws_FnExactRegionField.j2.eq_2 _ _ _ _ _ k) ?_
  refine ev_ifn (by simp) ?_
  refine ev_bind (heldField_ev _ _ _ _ (by first | omega | (dsimp only; omega) | (simp; omega)) (by first | omega | (dsimp only; omega) | (simp; omega))) ?_
  refine ev_ifn (by first | (simp; done) | (simp; omega) | omega) ?_
  refine ev_ifp (by first | rfl | (simp; done)) ?_
  exact ev_some _
end Go.Proofs.Ytfiijdiccjapiaa.Pure
/- The law FnExactRegionField answers true whatever its arguments are; no conditions. (Written by mp.py out of the plain law and the walk.) -/
namespace Go.Proofs.Ytfiijdiccjapiaa.fnExactRegionField
open Go.ChangeShapes Go.WideShapes Go.ChangeAt Go.RowKit Go.Proofs.Ytfiijdiccjapiaa.Open Go.Proofs.Ytfiijdiccjapiaa.P Go.Proofs.YtfiijdiccjapiaaW.PrintWords
open Go.ChangeMaps (open_string shut_string)
set_option linter.unusedVariables false
theorem own : ownKnob Try.prog.godebug = none := by kernel_rfl
theorem laidOut : laidOutB Try.prog = true := by kernel_rfl
set_option maxRecDepth 100000 in
theorem lifted (os : Os) (started : os.Started) (H : Type) (enc : TypeId × Value → H) :
    ReturnsInHanded {} Try.checked os 9 .any (Rows.fnExactRegionFieldSpec.pre6 enc Try.prog Try.f9 Rows.fnExactRegionFieldRow.domain false) (Rows.fnExactRegionFieldSpec.post enc Try.prog Try.f9 false true false false) := by
  refine returnsInHanded_of_change_sized (C := Try.checked) own started (by kernel_rfl) Try.func9
    (ChangeSpec.witness6 (enc := enc) (C := Try.checked) false ⟨#[], #[.int .i64 0, .int .i64 0, .slice none 0 0], []⟩ 8 (by kernel_rfl) (by kernel_rfl) (by kernel_rfl) (by kernel_rfl)) ?_
  intro W base args ds gs before hval0 hW hcnd hsz0 _
  have hsz : (DataW.weightsEach Try.prog (Try.f9.params.toList ++ Rows.fnExactRegionFieldSpec.plain.varTypes Try.prog) (ds ++ gs)).all (· ≤ reachBytes) = true := hsz0
  have hval : ∀ (j : Nat) t v, Try.f9.params[j]? = some t → args[j]? = some v → Value.okWide Try.prog W .any base t v := hval0
  have hW' := hW
  obtain ⟨p, q, hA0, hV, rfl, hfz, hnd⟩ := hW
  have hA : DataW.TrodAll enc Try.prog W 0 (fun _ => true) true Try.f9.params.toList args.toList ds p := hA0
  rw [Try.params9] at hA hval hsz
  obtain ⟨v0, vs0, d0, ds0, p0, q0, hargs, rfl, rfl, h0, r0⟩ := trodAll_cons hA
  obtain ⟨v1, vs1, d1, ds1, p1, q1, rfl, rfl, rfl, h1, r1⟩ := trodAll_cons r0
  obtain ⟨v2, vs2, d2, ds2, p2, q2, rfl, rfl, rfl, h2, r2⟩ := trodAll_cons r1
  obtain ⟨rfl, rfl, rfl⟩ := trodAll_nil r2
  obtain rfl : args = #[v0, v1, v2] := by cases args; simp_all
  obtain ⟨rfl, rfl⟩ := trodVars_none hV
  obtain ⟨a0, rfl, rfl, rfl, w0⟩ := open_int Try.underlying3 (hval 0 3 v0 rfl rfl) h0
  obtain ⟨a1, rfl, rfl, rfl, w1⟩ := open_int Try.underlying3 (hval 1 3 v1 rfl rfl) h1
  obtain ⟨A2, len2, c2, rfl⟩ := okWide_slice Try.underlying22 (hval 2 22 v2 rfl rfl)
  have k2 := h2
  have lt2 : ∀ x ∈ p2, x.block < W.heap.size := by obtain ⟨m, hm⟩ := k2; exact DataW.trod_lt m _ _ _ hm
  have y2 : len2 * 8 ≤ 140737488351232 := sized_any hsz (j := 2) (t := 22) rfl rfl Try.underlying22 (by kernel_rfl) h2
  obtain ⟨l2, rfl, hc2, hr2, w2⟩ := slice_at (opens_slice Try.underlying22 (by kernel_rfl) (opens_int Try.underlying3)) h2
  clear hA0 hval0 hsz0 hsz
  obtain ⟨k, hp⟩ := Pure.FnExactRegionField a0 a1 l2 w0 w1 w2 y2
  refine (laws_FnExactRegionField.calls k a0 a1 A2 c2 l2 true W hr2 hc2 hp).mono fun e W' ⟨he, bel0⟩ => ?_
  have bel : Below W.heap.size W W' := bel0
  subst he
  exact ⟨_, rfl, _, _, _, [], _, [], hW', trodAll_mk1 (shut_bool Try.underlying4 _), (trodAll_cons_mk (shut_int Try.underlying3 w0) (trodAll_cons_mk (shut_int Try.underlying3 w1) (trodAll_cons_mk (Below.trod laidOut (by kernel_rfl) (of_decide_eq_true (by kernel_rfl)) k2 bel lt2) trodAll_mk0))), rfl, bel.frame _, fun h => by cases h⟩
theorem over : Rows.fnExactRegionFieldRow.holds Try.pinned (OpenSpec.ofChange Rows.fnExactRegionFieldSpec) :=
  OpenClaim.holds_of_wide 9 Try.f9 rfl rfl rfl rfl rfl rfl rfl ⟨rfl, rfl, rfl, rfl, rfl⟩ rfl rfl rfl rfl rfl (by kernel_rfl) Try.func9 (by kernel_rfl)
    (of_decide_eq_true (by kernel_rfl)) (by unfold Func.isWrapper; first | (rw [if_pos (by decide +kernel)]; kernel_rfl) | (rw [if_neg (by decide +kernel)]; exact ⟨rfl, rfl⟩))
    (fun os started H enc _ => lifted os started H enc)
theorem proved : Rows.FnExactRegionFieldSaid := over
#print axioms proved
end Go.Proofs.Ytfiijdiccjapiaa.fnExactRegionField
namespace Go.Proofs.Ytfiijdiccjapiaa
/-- The row, under a short name, for the claim. -/
theorem fnExactRegionField_holds : Rows.FnExactRegionFieldSaid := fnExactRegionField.proved
end Go.Proofs.Ytfiijdiccjapiaa
