/- Texts of the claim FnExactMotionError, merged: part 6 of 6: the program's and the reference's functions as Lean functions, the walks that show it, and plain lemmas; no conditions. -/
import Derived.Test.YtfiijdiccjapiaaWMore
import Derived.Test.YtfiijdiccjapiaaWSized
import Derived.ProofKit
import Derived.OpenShut
import Derived.Deep.Slices
import Derived.Deep.Strs
import Derived.Deep.Fields
import Derived.Lib.SmallJoins
import Derived.Test.YtfiijdiccjapiaaKFnExactMotionError1
import Derived.Test.YtfiijdiccjapiaaKFnExactMotionError3
import Derived.Test.YtfiijdiccjapiaaKFnExactMotionError2
import Derived.Test.YtfiijdiccjapiaaKFnExactMotionError4
import Derived.Test.YtfiijdiccjapiaaKFnExactMotionError5
import Derived.Test.YtfiijdiccjapiaaRows
import Derived.WalkKit
import Derived.ShutString
import Derived.ChangeOld
import Derived.Below
import Derived.SizedLaws
/- What a Go argument reads as, opened into a Lean value of the print's kinds: whole numbers, slices, structs of two, three and four one-cell fields. No conditions. -/
namespace Go.Proofs.Ytfiijdiccjapiaa.Open
open Go.ChangeShapes Go.WideShapes Go.RowKit Go.Deep Go.Joins Go.Proofs.YtfiijdiccjapiaaW.PrintWords

/-- Whatever is read as a datum of type t holds a value of kind d that meets wf. -/
def Opens {α : Type} (P : Program) (t : TypeId) (d : Kd α) (wf : α → Prop) : Prop :=
  ∀ {H : Type} {enc : TypeId × Value → H} {W : World} {fuel : Nat} {cs : List Value} {x : DataW H × List MemPlace},
    DataW.trod enc P W 0 (fun _ => true) true fuel t cs = some x → ∃ y, d.K W y cs ∧ wf y

theorem opens_int {P : Program} {t : TypeId} {k : IntKind} (h : P.underlying t = some (.int k)) : Opens P t (Kd.int k) (fun n => (Lit.int k n).wf = true) := by
  intro H enc W fuel cs x hx
  obtain ⟨n, rfl, _, hw⟩ := DataW.trod_int h hx
  exact ⟨n, rfl, hw⟩

theorem opens_bool {P : Program} {t : TypeId} (h : P.underlying t = some .bool) : Opens P t Kd.bool (fun _ => True) := by
  intro H enc W fuel cs x hx
  obtain ⟨n, rfl, _⟩ := DataW.trod_bool h hx
  exact ⟨n, rfl, trivial⟩

theorem list_of {α : Type} {p : Nat → α → Prop} : ∀ (n : Nat), (∀ i, i < n → ∃ y, p i y) → ∃ ys : List α, ys.length = n ∧ ∀ (i : Nat) (y : α), ys[i]? = some y → p i y
  | 0, _ => ⟨[], rfl, fun i y h => by simp at h⟩
  | n + 1, h => by
    obtain ⟨ys, hl, hy⟩ := list_of n (fun i hi => h i (by omega))
    obtain ⟨y, hp⟩ := h n (by omega)
    refine ⟨ys ++ [y], by simp [hl], fun i z hz => ?_⟩
    by_cases hi : i < n
    · rw [List.getElem?_append_left (by omega)] at hz
      exact hy i z hz
    · have hi2 : i = n := by
        have := (List.getElem?_eq_some_iff.1 hz).1
        simp [hl] at this
        omega
      subst hi2
      rw [List.getElem?_append_right (by omega), hl] at hz
      simp at hz
      subst hz
      exact hp

theorem opens_slice {α : Type} {P : Program} {t e : TypeId} {d : Kd α} {wf : α → Prop} (h : P.underlying t = some (.slice e)) (hc : P.cellsOf e = d.sz) (he : Opens P e d wf) :
    Opens P t (Kd.slice e d) (fun l => l.length ≤ 9223372036854775807 ∧ ∀ x ∈ l, wf x) := by
  intro H enc W fuel cs x hx
  rcases open_slice h hx with ⟨rfl, _⟩ | ⟨a, len, cap, m, n, D, Pl, rfl, _, hl, hm, hmm, _, hx⟩
  · exact ⟨[], ⟨none, 0, rfl, by simp, Kd.C_nil d W⟩, by simp, by simp⟩
  · obtain ⟨ys, hlen, hy⟩ := list_of (p := fun i y => ∃ cs', W.cells? 0 (a.add (i * P.cellsOf e)) (P.cellsOf e) = some cs' ∧ d.K W y cs' ∧ wf y) len (fun i hi => by
      obtain ⟨cs', h1, h2⟩ := hx i (by rw [hmm]; split <;> omega)
      obtain ⟨y, hK, hw⟩ := he h2
      exact ⟨y, cs', h1, hK, hw⟩)
    have hm' : cap ≤ 9223372036854775807 := by simpa [maxLen] using hm
    refine ⟨ys, ⟨some a, cap, by rw [hlen], by omega, ⟨rfl, by omega, fun _ => ⟨a, rfl, fun j y hj => ?_⟩⟩⟩, by omega, fun y hmem => ?_⟩
    · obtain ⟨cs', h1, hK, _⟩ := hy j y hj
      obtain ⟨_, hl2, hcell⟩ := World.cells?_some h1
      refine ⟨cs', d.K_len hK, hK, fun i u hu => ?_⟩
      have hi : i < P.cellsOf e := by
        have := (List.getElem?_eq_some_iff.1 hu).1
        omega
      rw [← hc, ← Go.Deep.add_add, hcell i hi]
      exact hu
    · obtain ⟨j, hj⟩ := List.getElem?_of_mem hmem
      obtain ⟨_, _, _, hw⟩ := hy j y hj
      exact hw

theorem opens2 {α0 α1 : Type} {P : Program} {t : TypeId} {f0 f1 : Field} {d0 : Kd α0} {d1 : Kd α1} {w0 : α0 → Prop} {w1 : α1 → Prop} (hs : P.underlying t = some (.struct #[f0, f1]))
    (hone : oneCellFields P #[f0, f1] = true) (hC : P.cellsOf t = 2) (h0 : Opens P f0.type d0 w0) (h1 : Opens P f1.type d1 w1) : Opens P t (Kd.pair d0 d1) (fun y => w0 y.1 ∧ w1 y.2) := by
  intro H enc W fuel cs x hx
  obtain ⟨y0, y1, n, _, hlen, e0, e1⟩ := trod_struct2 hs hx
  rw [hC] at hlen
  match cs, hlen with
  | [c0, c1], _ =>
    obtain ⟨o0, k0⟩ := hone_of hone 0 f0 rfl
    obtain ⟨o1, k1⟩ := hone_of hone 1 f1 rfl
    obtain ⟨z0, K0, W0⟩ := h0 (show DataW.trod enc P W 0 (fun _ => true) true n f0.type [c0] = some y0 by simpa [o0, k0] using e0)
    obtain ⟨z1, K1, W1⟩ := h1 (show DataW.trod enc P W 0 (fun _ => true) true n f1.type [c1] = some y1 by simpa [o1, k1] using e1)
    exact ⟨(z0, z1), ⟨[c0], [c1], rfl, K0, K1⟩, W0, W1⟩

theorem opens3 {α0 α1 α2 : Type} {P : Program} {t : TypeId} {f0 f1 f2 : Field} {d0 : Kd α0} {d1 : Kd α1} {d2 : Kd α2} {w0 : α0 → Prop} {w1 : α1 → Prop} {w2 : α2 → Prop}
    (hs : P.underlying t = some (.struct #[f0, f1, f2])) (hone : oneCellFields P #[f0, f1, f2] = true) (hC : P.cellsOf t = 3) (h0 : Opens P f0.type d0 w0) (h1 : Opens P f1.type d1 w1) (h2 : Opens P f2.type d2 w2) :
    Opens P t (Kd.pair d0 (Kd.pair d1 d2)) (fun y => w0 y.1 ∧ w1 y.2.1 ∧ w2 y.2.2) := by
  intro H enc W fuel cs x hx
  obtain ⟨y0, y1, y2, n, _, hlen, e0, e1, e2⟩ := trod_struct3 hs hx
  rw [hC] at hlen
  match cs, hlen with
  | [c0, c1, c2], _ =>
    obtain ⟨o0, k0⟩ := hone_of hone 0 f0 rfl
    obtain ⟨o1, k1⟩ := hone_of hone 1 f1 rfl
    obtain ⟨o2, k2⟩ := hone_of hone 2 f2 rfl
    obtain ⟨z0, K0, W0⟩ := h0 (show DataW.trod enc P W 0 (fun _ => true) true n f0.type [c0] = some y0 by simpa [o0, k0] using e0)
    obtain ⟨z1, K1, W1⟩ := h1 (show DataW.trod enc P W 0 (fun _ => true) true n f1.type [c1] = some y1 by simpa [o1, k1] using e1)
    obtain ⟨z2, K2, W2⟩ := h2 (show DataW.trod enc P W 0 (fun _ => true) true n f2.type [c2] = some y2 by simpa [o2, k2] using e2)
    exact ⟨(z0, z1, z2), ⟨[c0], [c1, c2], rfl, K0, [c1], [c2], rfl, K1, K2⟩, W0, W1, W2⟩

theorem opens4 {α0 α1 α2 α3 : Type} {P : Program} {t : TypeId} {f0 f1 f2 f3 : Field} {d0 : Kd α0} {d1 : Kd α1} {d2 : Kd α2} {d3 : Kd α3} {w0 : α0 → Prop} {w1 : α1 → Prop} {w2 : α2 → Prop} {w3 : α3 → Prop}
    (hs : P.underlying t = some (.struct #[f0, f1, f2, f3])) (hone : oneCellFields P #[f0, f1, f2, f3] = true) (hC : P.cellsOf t = 4) (h0 : Opens P f0.type d0 w0) (h1 : Opens P f1.type d1 w1) (h2 : Opens P f2.type d2 w2) (h3 : Opens P f3.type d3 w3) :
    Opens P t (Kd.pair d0 (Kd.pair d1 (Kd.pair d2 d3))) (fun y => w0 y.1 ∧ w1 y.2.1 ∧ w2 y.2.2.1 ∧ w3 y.2.2.2) := by
  intro H enc W fuel cs x hx
  obtain ⟨y0, y1, y2, y3, n, _, hlen, e0, e1, e2, e3⟩ := trod_struct4 hs hx
  rw [hC] at hlen
  match cs, hlen with
  | [c0, c1, c2, c3], _ =>
    obtain ⟨o0, k0⟩ := hone_of hone 0 f0 rfl
    obtain ⟨o1, k1⟩ := hone_of hone 1 f1 rfl
    obtain ⟨o2, k2⟩ := hone_of hone 2 f2 rfl
    obtain ⟨o3, k3⟩ := hone_of hone 3 f3 rfl
    obtain ⟨z0, K0, W0⟩ := h0 (show DataW.trod enc P W 0 (fun _ => true) true n f0.type [c0] = some y0 by simpa [o0, k0] using e0)
    obtain ⟨z1, K1, W1⟩ := h1 (show DataW.trod enc P W 0 (fun _ => true) true n f1.type [c1] = some y1 by simpa [o1, k1] using e1)
    obtain ⟨z2, K2, W2⟩ := h2 (show DataW.trod enc P W 0 (fun _ => true) true n f2.type [c2] = some y2 by simpa [o2, k2] using e2)
    obtain ⟨z3, K3, W3⟩ := h3 (show DataW.trod enc P W 0 (fun _ => true) true n f3.type [c3] = some y3 by simpa [o3, k3] using e3)
    exact ⟨(z0, z1, z2, z3), ⟨[c0], [c1, c2, c3], rfl, K0, [c1], [c2, c3], rfl, K1, [c2], [c3], rfl, K2, K3⟩, W0, W1, W2, W3⟩

theorem opens_iso {α β : Type} {P : Program} {t : TypeId} {d : Kd α} {wf : α → Prop} (h : Opens P t d wf) (f : β → α) (g : α → β) (hg : ∀ y, f (g y) = y) : Opens P t (Kd.iso d f) (fun s => wf (f s)) := by
  intro H enc W fuel cs x hx
  obtain ⟨y, hK, hw⟩ := h hx
  exact ⟨g y, show d.K W (f (g y)) cs by rw [hg]; exact hK, show wf (f (g y)) by rw [hg]; exact hw⟩

/-- A slice of whatever elements is no longer than its weight allows. -/
theorem sized_any {H : Type} {enc : TypeId × Value → H} {P : Program} {W : World} {base : Nat} {spare : Nat → Bool} {held : Bool} {t e : TypeId} {a : Option Addr} {len cap : Nat} {d : DataW H} {ps : List MemPlace} {ts : List TypeId} {ds : List (DataW H)} {j : Nat}
    (hsz : (DataW.weightsEach P ts ds).all (· ≤ reachBytes) = true) (ht : ts[j]? = some t) (hd : ds[j]? = some d) (hu : P.underlying t = some (.slice e)) {B : Nat} (hB : P.bytesOf e = B)
    (h : DataW.Trod enc P W base spare held t (.slice a len cap) d ps) : len * B ≤ 140737488351232 := by
  obtain ⟨fuel, hf⟩ := h
  rcases open_slice hu hf with ⟨hcs, _⟩ | ⟨x, l, c, m, n, D, Pl, hcs, _, hl, _, _, hx, _⟩
  · simp [Value.cells] at hcs
    obtain ⟨rfl, rfl, rfl⟩ := hcs
    simp
  · simp [Value.cells] at hcs
    obtain ⟨rfl, rfl, rfl⟩ := hcs
    obtain ⟨hx, _⟩ := Prod.mk.inj hx
    subst hx
    have z := sized_slice hsz ht hd hu
    rw [hB] at z
    refine Nat.le_trans (Nat.mul_le_mul_right _ ?_) z
    simp

/-- A slice's value and its reading, as one. -/
theorem slice_at {α : Type} {P : Program} {W : World} {t e : TypeId} {d : Kd α} {wf : List α → Prop} {H : Type} {enc : TypeId × Value → H} {a : Option Addr} {len cap : Nat} {dd : DataW H} {ps : List MemPlace} (ho : Opens P t (Kd.slice e d) wf)
    (h : DataW.Trod enc P W 0 (fun _ => true) true t (.slice a len cap) dd ps) : ∃ l : List α, len = l.length ∧ l.length ≤ cap ∧ d.C W a l.length l ∧ wf l := by
  obtain ⟨fuel, hf⟩ := h
  obtain ⟨l, ⟨A, c, hcs, hl, hC⟩, hw⟩ := ho hf
  simp [Value.cells] at hcs
  obtain ⟨rfl, rfl, rfl⟩ := hcs
  exact ⟨l, rfl, hl, hC, hw⟩

theorem int_cell {k : IntKind} {W : World} {y : Int} {v : Value} (h : (Kd.int k).K W y [v]) : v = .int k y := by
  have h' : [v] = [Value.int k y] := h
  simpa using h'
theorem bool_cell {W : World} {y : Bool} {v : Value} (h : Kd.bool.K W y [v]) : v = .bool y := by
  have h' : [v] = [Value.bool y] := h
  simpa using h'
theorem slice_cell {α : Type} {d : Kd α} {e : Nat} {W : World} {l : List α} {v : Value} (h : (Kd.slice e d).K W l [v]) : ∃ A c, v = .slice A l.length c ∧ l.length ≤ c ∧ d.C W A l.length l := by
  obtain ⟨A, c, hc, hl, hC⟩ := h
  exact ⟨A, c, by simpa using hc, hl, hC⟩

section
variable {P : Program} {t : TypeId} {W : World} {H : Type} {enc : TypeId × Value → H} {r : Reach} {b0 : Nat} {v : Value} {d : DataW H} {p : List MemPlace}
theorem agg2_at {α0 α1 : Type} {f0 f1 : Field} {d0 : Kd α0} {d1 : Kd α1} {w0 : α0 → Prop} {w1 : α1 → Prop} (hs : P.underlying t = some (.struct #[f0, f1])) (hone : oneCellFields P #[f0, f1] = true) (hC : P.cellsOf t = 2)
    (h0 : Opens P f0.type d0 w0) (h1 : Opens P f1.type d1 w1) (hv : Value.okWide P W r b0 t v) (h : DataW.Trod enc P W 0 (fun _ => true) true t v d p) :
    ∃ (v0 v1 : Value) (y0 : α0) (y1 : α1), v = .agg #[v0, v1] ∧ d0.K W y0 [v0] ∧ w0 y0 ∧ d1.K W y1 [v1] ∧ w1 y1 := by
  obtain ⟨v0, v1, _, _, _, rfl, _, _, e0, e1⟩ := open_agg2 hs hone hC hv h
  obtain ⟨y0, K0, W0⟩ := h0 e0
  obtain ⟨y1, K1, W1⟩ := h1 e1
  exact ⟨v0, v1, y0, y1, rfl, K0, W0, K1, W1⟩
theorem agg3_at {α0 α1 α2 : Type} {f0 f1 f2 : Field} {d0 : Kd α0} {d1 : Kd α1} {d2 : Kd α2} {w0 : α0 → Prop} {w1 : α1 → Prop} {w2 : α2 → Prop} (hs : P.underlying t = some (.struct #[f0, f1, f2])) (hone : oneCellFields P #[f0, f1, f2] = true)
    (hC : P.cellsOf t = 3) (h0 : Opens P f0.type d0 w0) (h1 : Opens P f1.type d1 w1) (h2 : Opens P f2.type d2 w2) (hv : Value.okWide P W r b0 t v) (h : DataW.Trod enc P W 0 (fun _ => true) true t v d p) :
    ∃ (v0 v1 v2 : Value) (y0 : α0) (y1 : α1) (y2 : α2), v = .agg #[v0, v1, v2] ∧ d0.K W y0 [v0] ∧ w0 y0 ∧ d1.K W y1 [v1] ∧ w1 y1 ∧ d2.K W y2 [v2] ∧ w2 y2 := by
  obtain ⟨v0, v1, v2, _, _, _, _, rfl, _, _, e0, e1, e2⟩ := open_agg3 hs hone hC hv h
  obtain ⟨y0, K0, W0⟩ := h0 e0
  obtain ⟨y1, K1, W1⟩ := h1 e1
  obtain ⟨y2, K2, W2⟩ := h2 e2
  exact ⟨v0, v1, v2, y0, y1, y2, rfl, K0, W0, K1, W1, K2, W2⟩
theorem agg4_at {α0 α1 α2 α3 : Type} {f0 f1 f2 f3 : Field} {d0 : Kd α0} {d1 : Kd α1} {d2 : Kd α2} {d3 : Kd α3} {w0 : α0 → Prop} {w1 : α1 → Prop} {w2 : α2 → Prop} {w3 : α3 → Prop} (hs : P.underlying t = some (.struct #[f0, f1, f2, f3]))
    (hone : oneCellFields P #[f0, f1, f2, f3] = true) (hC : P.cellsOf t = 4) (h0 : Opens P f0.type d0 w0) (h1 : Opens P f1.type d1 w1) (h2 : Opens P f2.type d2 w2) (h3 : Opens P f3.type d3 w3)
    (hv : Value.okWide P W r b0 t v) (h : DataW.Trod enc P W 0 (fun _ => true) true t v d p) :
    ∃ (v0 v1 v2 v3 : Value) (y0 : α0) (y1 : α1) (y2 : α2) (y3 : α3), v = .agg #[v0, v1, v2, v3] ∧ d0.K W y0 [v0] ∧ w0 y0 ∧ d1.K W y1 [v1] ∧ w1 y1 ∧ d2.K W y2 [v2] ∧ w2 y2 ∧ d3.K W y3 [v3] ∧ w3 y3 := by
  obtain ⟨v0, v1, v2, v3, _, _, _, _, _, rfl, _, _, e0, e1, e2, e3⟩ := open_agg4 hs hone hC hv h
  obtain ⟨y0, K0, W0⟩ := h0 e0
  obtain ⟨y1, K1, W1⟩ := h1 e1
  obtain ⟨y2, K2, W2⟩ := h2 e2
  obtain ⟨y3, K3, W3⟩ := h3 e3
  exact ⟨v0, v1, v2, v3, y0, y1, y2, y3, rfl, K0, W0, K1, W1, K2, W2, K3, W3⟩
end

end Go.Proofs.Ytfiijdiccjapiaa.Open
-- written by mp.py (this session's), with the print's functions; Lean checks it
namespace Go.Proofs.Ytfiijdiccjapiaa.P
open Go.RowKit Go.Proofs.YtfiijdiccjapiaaW.PrintWords Go.Proofs.YtfiijdiccjapiaaW.PrintLast Go.Proofs.YtfiijdiccjapiaaW.PrintMore
attribute [local go_sem] max2_int min2_int max_two min_two max_three min_three max_four min_four   -- for this text's walks alone
set_option linter.unusedVariables false
set_option linter.unusedSimpArgs false

open Go.Proofs.Ytfiijdiccjapiaa.Open
theorem opens30 : Opens Try.prog 30 k30 (fun x : S30 => (Lit.int .i64 x.f0).wf = true ∧ (Lit.int .i64 x.f1).wf = true ∧ (x.f2.length ≤ 9223372036854775807 ∧ ∀ z0 ∈ x.f2, (Lit.int .i64 z0).wf = true)) :=
  opens_iso (opens3 Try.underlying30 (by kernel_rfl) (by kernel_rfl) (opens_int Try.underlying3) (opens_int Try.underlying3) (opens_slice Try.underlying22 (by kernel_rfl) (opens_int Try.underlying3))) (fun x : S30 => (x.f0, x.f1, x.f2)) (fun y => (⟨y.1, y.2.1, y.2.2⟩ : S30)) (fun _ => rfl)
theorem opens131 : Opens Try.prog 131 k131 (fun x : S131 => (Lit.int .i64 x.f0).wf = true ∧ (Lit.int .i64 x.f1).wf = true ∧ (Lit.int .i64 x.f2).wf = true ∧ (Lit.int .i64 x.f3).wf = true) :=
  opens_iso (opens4 Try.underlying131 (by kernel_rfl) (by kernel_rfl) (opens_int Try.underlying3) (opens_int Try.underlying3) (opens_int Try.underlying3) (opens_int Try.underlying3)) (fun x : S131 => (x.f0, x.f1, x.f2, x.f3)) (fun y => (⟨y.1, y.2.1, y.2.2.1, y.2.2.2⟩ : S131)) (fun _ => rfl)
end Go.Proofs.Ytfiijdiccjapiaa.P
/- Plain words for the laws' plain proofs: rounds that end, loops over an index, lists read at an index. No conditions. -/
namespace Go.Proofs.Ytfiijdiccjapiaa.Pure
set_option linter.unusedVariables false
set_option linter.unusedSimpArgs false
open Go.RowKit Go.Proofs.YtfiijdiccjapiaaW.PrintWords Go.Proofs.YtfiijdiccjapiaaW.PrintLast Go.Proofs.YtfiijdiccjapiaaW.PrintMore

theorem w64 {x : Int} (h0 : -9223372036854775808 ≤ x) (h1 : x ≤ 9223372036854775807) : wrap64 x = x := by
  unfold wrap64
  omega
theorem w64n {n : Nat} (h : n ≤ 9223372036854775807) : wrap64 (n : Int) = (n : Int) := w64 (by omega) (by omega)
theorem rd_nat (xs : List Int) (i : Nat) : rd xs (i : Int) = xs.getD i 0 := by simp [rd]
theorem wf_bd {x : Int} (h : (Lit.int .i64 x).wf = true) : -9223372036854775808 ≤ x ∧ x ≤ 9223372036854775807 := by
  simp [Lit.wf, IntKind.min, IntKind.max, IntKind.signed, IntKind.bits] at h
  omega

section
variable {α β : Type} {f g : Nat → Option α} {r : α}
theorem ev_some (r : α) : Ev (fun _ => some r) r := ⟨0, fun _ _ => rfl⟩
theorem ev_ifp {c : Prop} [Decidable c] (h : c) (k : Ev f r) : Ev (fun n => if c then f n else g n) r := Ev.congr (fun _ => if_pos h) k
theorem ev_ifn {c : Prop} [Decidable c] (h : ¬ c) (k : Ev g r) : Ev (fun n => if c then f n else g n) r := Ev.congr (fun _ => if_neg h) k
theorem ev_bind {F : Nat → α → Option β} {q : β} (h : Ev g r) (k : Ev (fun n => F n r) q) : Ev (fun n => (g n).bind (fun x => F n x)) q := by
  obtain ⟨K1, h1⟩ := h
  obtain ⟨K2, h2⟩ := k
  exact ⟨K1 + K2, fun n hn => by show (g n).bind (fun x => F n x) = some q; rw [h1 n (by omega)]; exact h2 n (by omega)⟩
theorem ev_const {a : Option α} (h : a = some r) : Ev (fun _ => a) r := ⟨0, fun _ _ => h⟩
theorem ev_step (h : ∀ k, g (k + 1) = f k) (k : Ev f r) : Ev g r := by
  obtain ⟨K, h1⟩ := k
  refine ⟨K + 1, fun n hn => ?_⟩
  obtain ⟨m, rfl⟩ : ∃ m, n = m + 1 := ⟨n - 1, by omega⟩
  rw [h m]
  exact h1 m (by omega)
/-- One number of rounds for two. -/
theorem ev_two {f : Nat → Option α} {g : Nat → Option β} {a : α} {b : β} (h : Ev f a) (k : Ev g b) : ∃ K, ∀ n, K ≤ n → f n = some a ∧ g n = some b := by
  obtain ⟨K1, h1⟩ := h
  obtain ⟨K2, h2⟩ := k
  exact ⟨K1 + K2, fun n hn => ⟨h1 n (by omega), h2 n (by omega)⟩⟩
end

/-- A state that d rounds turn, from round i on. -/
def iter {σ : Type} (g : Nat → σ → σ) : Nat → Nat → σ → σ
  | _, 0, s => s
  | i, d + 1, s => iter g (i + 1) d (g i s)

theorem loop_ev {σ ρ : Type} (F : Nat → σ → Nat → Option ρ) (n : Nat) (g : Nat → σ → σ) (fin : σ → ρ) (I : Nat → σ → Prop)
    (hs : ∀ i s r, I i s → i < n → Ev (fun k => F k (g i s) (i + 1)) r → Ev (fun k => F k s i) r) (hI : ∀ i s, I i s → i < n → I (i + 1) (g i s))
    (he : ∀ s, I n s → Ev (fun k => F k s n) (fin s)) : ∀ i s, i ≤ n → I i s → Ev (fun k => F k s i) (fin (iter g i (n - i) s)) := by
  have key : ∀ d i s, n - i = d → i ≤ n → I i s → Ev (fun k => F k s i) (fin (iter g i d s)) := by
    intro d
    induction d with
    | zero =>
      intro i s h0 h1 h2
      obtain rfl : i = n := by omega
      exact he s h2
    | succ d ih =>
      intro i s h0 h1 h2
      exact hs i s _ h2 (by omega) (ih (i + 1) (g i s) (by omega) (by omega) (hI i s h2 (by omega)))
  exact fun i s h1 h2 => key (n - i) i s rfl h1 h2

theorem iter_inv {σ : Type} (g : Nat → σ → σ) (I : Nat → σ → Prop) (n : Nat) (hI : ∀ i s, I i s → i < n → I (i + 1) (g i s)) : ∀ d i s, i + d = n → I i s → I n (iter g i d s) := by
  intro d
  induction d with
  | zero => intro i s h0 h1; obtain rfl : i = n := by omega
            exact h1
  | succ d ih => intro i s h0 h1; exact ih (i + 1) _ (by omega) (hI i s h1 (by omega))

/-- The rounds as a fold over what is left of a list. -/
theorem iter_foldl {σ α : Type} (f : σ → α → σ) (z : α) (xs : List α) : ∀ d i s, i + d = xs.length → iter (fun i s => f s (xs.getD i z)) i d s = (xs.drop i).foldl f s := by
  intro d
  induction d with
  | zero =>
    intro i s h
    rw [List.drop_of_length_le (by omega)]
    rfl
  | succ d ih =>
    intro i s h
    have hlt : i < xs.length := by omega
    rw [List.drop_eq_getElem_cons hlt]
    show iter _ (i + 1) d _ = _
    rw [ih (i + 1) _ (by omega), List.foldl_cons]
    simp [List.getD, List.getElem?_eq_getElem hlt]

/-- Do all of d indices from i on say yes? -/
def rall (p : Nat → Bool) : Nat → Nat → Bool
  | _, 0 => true
  | i, d + 1 => p i && rall p (i + 1) d
theorem rall_iff (p : Nat → Bool) : ∀ d i, rall p i d = true ↔ ∀ j, i ≤ j → j < i + d → p j = true
  | 0, i => ⟨fun _ j h1 h2 => by omega, fun _ => rfl⟩
  | d + 1, i => by
    show (p i && rall p (i + 1) d) = true ↔ _
    rw [Bool.and_eq_true, rall_iff p d (i + 1)]
    constructor
    · rintro ⟨h0, h1⟩ j h2 h3
      by_cases e : j = i
      · rw [e]; exact h0
      · exact h1 j (by omega) (by omega)
    · intro h
      exact ⟨h i (Nat.le_refl _) (by omega), fun j h2 h3 => h j (by omega) (by omega)⟩
theorem rall_congr {p q : Nat → Bool} : ∀ d i, (∀ j, i ≤ j → j < i + d → p j = q j) → rall p i d = rall q i d
  | 0, _, _ => rfl
  | d + 1, i, h => by
    show (p i && rall p (i + 1) d) = (q i && rall q (i + 1) d)
    rw [h i (Nat.le_refl _) (by omega), rall_congr d (i + 1) (fun j h1 h2 => h j (by omega) (by omega))]

/-- A loop that ends with 'no' at the first index that fails, and with 'yes' (or what follows) behind all. -/
theorem all_ev {ρ : Type} (F : Nat → Nat → Option ρ) (n : Nat) (p : Nat → Bool) (no yes : ρ) (hs : ∀ i r, i < n → p i = true → Ev (fun k => F k (i + 1)) r → Ev (fun k => F k i) r)
    (hn : ∀ i, i < n → p i = false → Ev (fun k => F k i) no) (he : Ev (fun k => F k n) yes) :
    ∀ i, i ≤ n → Ev (fun k => F k i) (if rall p i (n - i) = true then yes else no) := by
  have key : ∀ d i, n - i = d → i ≤ n → Ev (fun k => F k i) (if rall p i d = true then yes else no) := by
    intro d
    induction d with
    | zero =>
      intro i h0 h1
      obtain rfl : i = n := by omega
      rw [show rall p i 0 = true from rfl, if_pos rfl]
      exact he
    | succ d ih =>
      intro i h0 h1
      have h := ih (i + 1) (by omega) (by omega)
      have e : rall p i (d + 1) = (p i && rall p (i + 1) d) := rfl
      cases hp : p i with
      | true =>
        rw [e, hp, Bool.true_and]
        exact hs i _ (by omega) hp h
      | false =>
        rw [e, hp, Bool.false_and, if_neg (by simp)]
        exact hn i (by omega) hp
  exact fun i h1 => key (n - i) i rfl h1
/-- The same, where the answer is a bool. -/
theorem allb_ev (F : Nat → Nat → Option Bool) (n : Nat) (p : Nat → Bool) (hs : ∀ i r, i < n → p i = true → Ev (fun k => F k (i + 1)) r → Ev (fun k => F k i) r)
    (hn : ∀ i, i < n → p i = false → Ev (fun k => F k i) false) (he : Ev (fun k => F k n) true) : Ev (fun k => F k 0) (rall p 0 n) := by
  have h := all_ev F n p false true hs hn he 0 (Nat.zero_le _)
  rw [Nat.sub_zero] at h
  cases e : rall p 0 n <;> simpa [e] using h

theorem getD_eq_get {α : Type} {xs : List α} {i : Nat} (z : α) (h : i < xs.length) : xs.getD i z = xs[i] := by simp [List.getD, List.getElem?_eq_getElem h]
theorem rall_list {α : Type} (xs : List α) (z : α) (p : α → Bool) : rall (fun j => p (xs.getD j z)) 0 xs.length = xs.all p := by
  rw [Bool.eq_iff_iff, rall_iff, List.all_eq_true]
  constructor
  · intro h x hx
    obtain ⟨i, hi, rfl⟩ := List.getElem_of_mem hx
    rw [← getD_eq_get z hi]
    exact h i (Nat.zero_le _) (by omega)
  · intro h j _ hj
    rw [getD_eq_get z (by omega)]
    exact h _ (List.getElem_mem (by omega))
theorem eq_index {α : Type} {xs ys : List α} (z : α) (h : xs.length = ys.length) (hh : ∀ j, j < xs.length → xs.getD j z = ys.getD j z) : xs = ys := by
  refine List.ext_getElem h (fun i h1 h2 => ?_)
  rw [← getD_eq_get z h1, ← getD_eq_get z h2]
  exact hh i h1
theorem rall_eq {α : Type} [DecidableEq α] {xs ys : List α} (z : α) (h : xs.length = ys.length) : rall (fun j => decide (xs.getD j z = ys.getD j z)) 0 xs.length = decide (xs = ys) := by
  rw [Bool.eq_iff_iff, rall_iff, decide_eq_true_eq]
  constructor
  · exact fun hh => eq_index z h (fun j hj => by simpa using hh j (Nat.zero_le _) (by omega))
  · rintro rfl j _ _
    simp

/-- A copy, element by element. -/
theorem copy_ev {α β : Type} (F : Nat → List β → Nat → Option (List β)) (xs : List α) (c : α → β) (z : α) (zb : β)
    (hs : ∀ i ys r, ys.length = xs.length → i < xs.length → Ev (fun k => F k (ys.set i (c (xs.getD i z))) (i + 1)) r → Ev (fun k => F k ys i) r)
    (he : ∀ ys, ys.length = xs.length → Ev (fun k => F k ys xs.length) ys) (ys0 : List β) (h0 : ys0.length = xs.length) : Ev (fun k => F k ys0 0) (xs.map c) := by
  have inv : ∀ i (s : List β), (s.length = xs.length ∧ ∀ j, j < i → s.getD j zb = (xs.map c).getD j zb) → i < xs.length → ((s.set i (c (xs.getD i z))).length = xs.length ∧ ∀ j, j < i + 1 → (s.set i (c (xs.getD i z))).getD j zb = (xs.map c).getD j zb) := by
    intro i s hI hi
    refine ⟨by simp [hI.1], fun j hj => ?_⟩
    by_cases e : j = i
    · subst e
      have := hI.1
      simp [List.getD, List.getElem?_set_self (show j < s.length by omega), List.getElem?_eq_getElem hi]
    · rw [← hI.2 j (by omega)]
      simp [List.getD, List.getElem?_set_ne (Ne.symm e)]
  have h := loop_ev F xs.length (fun i ys => ys.set i (c (xs.getD i z))) (fun ys => ys) (fun i s => s.length = xs.length ∧ ∀ j, j < i → s.getD j zb = (xs.map c).getD j zb)
    (fun i ys r hI hi h => hs i ys r hI.1 hi h) inv (fun ys hI => he ys hI.1) 0 ys0 (Nat.zero_le _) ⟨h0, fun j hj => by omega⟩
  have hi := iter_inv (fun i (ys : List β) => ys.set i (c (xs.getD i z))) (fun i s => s.length = xs.length ∧ ∀ j, j < i → s.getD j zb = (xs.map c).getD j zb) xs.length inv (xs.length - 0) 0 ys0 (by omega) ⟨h0, fun j hj => by omega⟩
  rw [eq_index zb (by rw [hi.1, List.length_map]) (fun j hj => hi.2 j (by have := hi.1; omega))] at h
  exact h
/-- A loop that ends: at each index it goes on with some state, or it answers. -/
theorem ends_ev {σ ρ : Type} (F : Nat → σ → Nat → Option ρ) (n : Nat) (hs : ∀ i s, i < n → (∃ s', ∀ r, Ev (fun k => F k s' (i + 1)) r → Ev (fun k => F k s i) r) ∨ ∃ r, Ev (fun k => F k s i) r)
    (he : ∀ s, ∃ r, Ev (fun k => F k s n) r) : ∀ i s, i ≤ n → ∃ r, Ev (fun k => F k s i) r := by
  have key : ∀ d i s, n - i = d → i ≤ n → ∃ r, Ev (fun k => F k s i) r := by
    intro d
    induction d with
    | zero =>
      intro i s h0 h1
      obtain rfl : i = n := by omega
      exact he s
    | succ d ih =>
      intro i s h0 h1
      rcases hs i s (by omega) with ⟨s', h⟩ | h
      · obtain ⟨r, hr⟩ := ih (i + 1) s' (by omega) (by omega)
        exact ⟨r, h r hr⟩
      · exact h
  exact fun i s h1 => key (n - i) i s rfl h1
theorem tmod_next {i n : Nat} (hi : i < n) : Int.tmod ((i : Int) + 1) (n : Int) = (((i + 1) % n : Nat) : Int) := by
  rw [Int.tmod_eq_emod_of_nonneg (by omega)]
  rfl

/-- The first of d indices from i on at which p holds, or -1. -/
def fidx (p : Nat → Bool) : Nat → Nat → Int
  | _, 0 => -1
  | i, d + 1 => if p i = true then (i : Int) else fidx p (i + 1) d
theorem fidx_nonneg (p : Nat → Bool) : ∀ d i, decide (fidx p i d ≥ 0) = !rall (fun j => !p j) i d
  | 0, i => rfl
  | d + 1, i => by
    have h := fidx_nonneg p d (i + 1)
    show decide ((if p i = true then (i : Int) else fidx p (i + 1) d) ≥ 0) = !((!p i) && rall (fun j => !p j) (i + 1) d)
    cases e : p i with
    | true => simp
    | false => simpa using h
theorem find_ev (F : Nat → Nat → Option Int) (n : Nat) (p : Nat → Bool) (hs : ∀ i r, i < n → p i = false → Ev (fun k => F k (i + 1)) r → Ev (fun k => F k i) r) (hx : ∀ i, i < n → p i = true → Ev (fun k => F k i) (i : Int))
    (he : Ev (fun k => F k n) (-1)) : Ev (fun k => F k 0) (fidx p 0 n) := by
  have key : ∀ d i, n - i = d → i ≤ n → Ev (fun k => F k i) (fidx p i d) := by
    intro d
    induction d with
    | zero =>
      intro i h0 h1
      obtain rfl : i = n := by omega
      exact he
    | succ d ih =>
      intro i h0 h1
      show Ev (fun k => F k i) (if p i = true then (i : Int) else fidx p (i + 1) d)
      cases e : p i with
      | true => rw [if_pos rfl]; exact hx i (by omega) e
      | false => rw [if_neg (by simp)]; exact hs i _ (by omega) e (ih (i + 1) (by omega) (by omega))
  exact key n 0 (by omega) (Nat.zero_le _)
theorem ev_ite {α : Type} {f g : Nat → Option α} {a b : α} {c : Bool} (h : c = true → Ev f a) (k : c = false → Ev g b) : Ev (fun n => if c = true then f n else g n) (if c = true then a else b) := by
  cases c with
  | true => exact h rfl
  | false => exact k rfl

theorem iter_add {σ : Type} (g : Nat → σ → σ) : ∀ a i b s, iter g i (a + b) s = iter g (i + a) b (iter g i a s) := by
  intro a
  induction a with
  | zero => intro i b s; rw [Nat.zero_add]; rfl
  | succ a ih =>
    intro i b s
    rw [show a + 1 + b = (a + b) + 1 by omega]
    show iter g (i + 1) (a + b) (g i s) = _
    rw [ih (i + 1) b (g i s)]
    show _ = iter g (i + (a + 1)) b (iter g (i + 1) a (g i s))
    rw [show i + 1 + a = i + (a + 1) by omega]
theorem iter_congr {σ : Type} {g h : Nat → σ → σ} : ∀ d i s, (∀ j s, i ≤ j → j < i + d → g j s = h j s) → iter g i d s = iter h i d s := by
  intro d
  induction d with
  | zero => intro i s _; rfl
  | succ d ih =>
    intro i s hh
    show iter g (i + 1) d (g i s) = iter h (i + 1) d (h i s)
    rw [hh i s (Nat.le_refl _) (by omega)]
    exact ih (i + 1) _ (fun j s h1 h2 => hh j s (by omega) (by omega))
/-- Rows of w cells, one behind the other: the rounds of two loops are the rounds of one. -/
theorem grid_ev {σ ρ : Type} (F0 : Nat → σ → Nat → Option ρ) (F1 : Nat → σ → Nat → Nat → Option ρ) (w h : Nat) (g : Nat → σ → σ) (fin : σ → ρ) (I : Nat → σ → Prop)
    (hout : ∀ y s r, I (y * w) s → y < h → Ev (fun k => F1 k s y 0) r → Ev (fun k => F0 k s y) r)
    (hin : ∀ y x s r, I (y * w + x) s → y < h → x < w → Ev (fun k => F1 k (g (y * w + x) s) y (x + 1)) r → Ev (fun k => F1 k s y x) r)
    (hI : ∀ y x s, I (y * w + x) s → y < h → x < w → I (y * w + (x + 1)) (g (y * w + x) s))
    (hrow : ∀ y s r, I (y * w + w) s → y < h → Ev (fun k => F0 k s (y + 1)) r → Ev (fun k => F1 k s y w) r)
    (hend : ∀ s, I (h * w) s → Ev (fun k => F0 k s h) (fin s)) : ∀ s, I 0 s → Ev (fun k => F0 k s 0) (fin (iter g 0 (h * w) s)) := by
  have row : ∀ d y x s r, w - x = d → x ≤ w → y < h → I (y * w + x) s → Ev (fun k => F0 k (iter g (y * w + x) d s) (y + 1)) r → Ev (fun k => F1 k s y x) r := by
    intro d
    induction d with
    | zero =>
      intro y x s r h0 h1 h2 h3 h4
      obtain rfl : x = w := by omega
      exact hrow y s r h3 h2 h4
    | succ d ih =>
      intro y x s r h0 h1 h2 h3 h4
      exact hin y x s r h3 h2 (by omega) (ih y (x + 1) _ r (by omega) (by omega) h2 (hI y x s h3 h2 (by omega)) h4)
  have rowI : ∀ d y x s, w - x = d → x ≤ w → y < h → I (y * w + x) s → I (y * w + w) (iter g (y * w + x) d s) := by
    intro d
    induction d with
    | zero =>
      intro y x s h0 h1 h2 h3
      obtain rfl : x = w := by omega
      exact h3
    | succ d ih =>
      intro y x s h0 h1 h2 h3
      exact ih y (x + 1) _ (by omega) (by omega) h2 (hI y x s h3 h2 (by omega))
  have key : ∀ d y s, h - y = d → y ≤ h → I (y * w) s → Ev (fun k => F0 k s y) (fin (iter g (y * w) (d * w) s)) := by
    intro d
    induction d with
    | zero =>
      intro y s h0 h1 h2
      obtain rfl : y = h := by omega
      rw [Nat.zero_mul]
      exact hend s h2
    | succ d ih =>
      intro y s h0 h1 h2
      have hb := rowI w y 0 s (by omega) (Nat.zero_le _) (by omega) h2
      have e1 : y * w + w = (y + 1) * w := by rw [Nat.add_mul, Nat.one_mul]
      rw [Nat.add_zero] at hb
      rw [e1] at hb
      have hk := ih (y + 1) _ (by omega) (by omega) hb
      rw [show (d + 1) * w = w + d * w by rw [Nat.add_mul, Nat.one_mul]; omega, iter_add, e1]
      exact hout y s _ h2 (by omega) (row w y 0 s _ (by omega) (Nat.zero_le _) (by omega) h2 hk)
  intro s h0
  have hk := key h 0 s (by omega) (Nat.zero_le _) (by rw [Nat.zero_mul]; exact h0)
  rw [Nat.zero_mul] at hk
  exact hk

end Go.Proofs.Ytfiijdiccjapiaa.Pure
/- 'Within' of the program and of the reference: the same test. No conditions. -/
namespace Go.Proofs.Ytfiijdiccjapiaa.Pure
set_option linter.unusedVariables false
set_option linter.unusedSimpArgs false
open Go.RowKit Go.Proofs.Ytfiijdiccjapiaa.P Go.Proofs.YtfiijdiccjapiaaW.PrintWords Go.Proofs.YtfiijdiccjapiaaW.PrintLast
def inb (x a b : Int) : Bool := decide (a ≤ x) && decide (x ≤ b)
theorem inb_iff {x a b : Int} : inb x a b = true ↔ a ≤ x ∧ x ≤ b := by simp [inb]
theorem l1In_is (x a b : Int) : spec_l1In.f x a b = some (inb x a b) := by
  unfold spec_l1In.f inb
  split
  · rename_i h; simp [show a ≤ x from h]
  · rename_i h; simp [show ¬ a ≤ x from h]
theorem within_is (x a b : Int) : impl_within.f x a b = some (inb x a b) := l1In_is x a b
end Go.Proofs.Ytfiijdiccjapiaa.Pure
/- A field is valid in the program just when it is valid in the reference. No conditions. -/
namespace Go.Proofs.Ytfiijdiccjapiaa.Pure
set_option linter.unusedVariables false
set_option linter.unusedSimpArgs false
open Go.RowKit Go.Proofs.Ytfiijdiccjapiaa.P Go.Proofs.YtfiijdiccjapiaaW.PrintWords Go.Proofs.YtfiijdiccjapiaaW.PrintLast
def cellOk (x : Int) : Bool := decide (x = -9999) || inb x (-9000) 9000
def fieldOk (a b : Int) (l : List Int) : Bool := inb a 1 8 && (inb b 1 8 && (decide ((l.length : Int) = a * b) && l.all cellOk))
theorem cellOk_bd {x : Int} (h : cellOk x = true) : -9999 ≤ x ∧ x ≤ 9000 := by
  unfold cellOk at h
  rw [Bool.or_eq_true, decide_eq_true_eq, inb_iff] at h
  omega
structure FieldIs (a b : Int) (l : List Int) : Prop where
  a1 : 1 ≤ a
  a8 : a ≤ 8
  b1 : 1 ≤ b
  b8 : b ≤ 8
  len : (l.length : Int) = a * b
  cells : ∀ x ∈ l, cellOk x = true
theorem fieldOk_iff {a b : Int} {l : List Int} : fieldOk a b l = true ↔ FieldIs a b l := by
  unfold fieldOk
  rw [Bool.and_eq_true, Bool.and_eq_true, Bool.and_eq_true, inb_iff, inb_iff, decide_eq_true_eq, List.all_eq_true]
  exact ⟨fun ⟨⟨h1, h2⟩, ⟨h3, h4⟩, h5, h6⟩ => ⟨h1, h2, h3, h4, h5, h6⟩, fun h => ⟨⟨h.a1, h.a8⟩, ⟨h.b1, h.b8⟩, h.len, h.cells⟩⟩
theorem mul_bd {a b : Int} (a1 : 1 ≤ a) (a8 : a ≤ 8) (b1 : 1 ≤ b) (b8 : b ≤ 8) : 1 ≤ a * b ∧ a * b ≤ 64 := by
  obtain h | h | h | h | h | h | h | h : a = 1 ∨ a = 2 ∨ a = 3 ∨ a = 4 ∨ a = 5 ∨ a = 6 ∨ a = 7 ∨ a = 8 := by omega
  all_goals subst h; omega
theorem FieldIs.len64 {a b : Int} {l : List Int} (h : FieldIs a b l) : 1 ≤ l.length ∧ l.length ≤ 64 := by
  have := mul_bd h.a1 h.a8 h.b1 h.b8
  have := h.len
  omega
theorem l2Value_is (x : Int) : spec_l2Value.f x = some (cellOk x) := by
  unfold spec_l2Value.f cellOk
  rw [l1In_is]
  by_cases h : x = -9999
  · simp [h]
  · simp [h]
theorem l2Shape_is (a b : Int) : spec_l2Shape.f a b = some (inb a 1 8 && inb b 1 8) := by
  unfold spec_l2Shape.f
  rw [l1In_is, l1In_is]
  cases inb a 1 8 <;> simp
theorem shape_iff {a b : Int} : (inb a 1 8 && inb b 1 8) = true ↔ (1 ≤ a ∧ a ≤ 8) ∧ 1 ≤ b ∧ b ≤ 8 := by rw [Bool.and_eq_true, inb_iff, inb_iff]
theorem l2Good_ev (a b : Int) (l : List Int) (hl : l.length ≤ 9223372036854775806) : Ev (fun k => spec_l2Good.f k a b l) (fieldOk a b l) := by
  have no : Ev (fun k => spec_l2Good.j0 k true a b l) false := ev_step (f := fun _ => some false) (fun k => by simp [spec_l2Good.j0]) (ev_some _)
  unfold spec_l2Good.f
  rw [l2Shape_is]
  simp only [Option.bind_some]
  by_cases hs : (inb a 1 8 && inb b 1 8) = true
  · refine ev_ifp hs ?_
    obtain ⟨⟨a1, a8⟩, b1, b8⟩ := shape_iff.1 hs
    have hm := mul_bd a1 a8 b1 b8
    rw [w64 (by omega) (by omega)]
    by_cases hl2 : (l.length : Int) = a * b
    · have h := allb_ev (fun k i => spec_l2Good.l0 k (i : Int) a b l) l.length (fun i => cellOk (l.getD i 0))
        (fun i r hi hp hh => ev_step (fun k => by
          simp only [spec_l2Good.l0, l2Value_is, Option.bind_some, rd_nat]
          rw [if_pos (by omega), if_pos (by omega), if_pos hp, w64 (by omega) (by omega)]
          rfl) hh)
        (fun i hi hp => ev_step (f := fun _ => some false) (fun k => by
          simp only [spec_l2Good.l0, l2Value_is, Option.bind_some, rd_nat]
          rw [if_pos (by omega), if_pos (by omega), if_neg (by rw [hp]; decide)]) (ev_some _))
        (ev_step (f := fun _ => some true) (fun k => by
          simp only [spec_l2Good.l0]
          rw [if_neg (by omega)]) (ev_some _))
      rw [rall_list] at h
      have e : fieldOk a b l = l.all cellOk := by
        rw [Bool.and_eq_true] at hs
        simp [fieldOk, hs.1, hs.2, hl2]
      rw [e, show ((l.length : Int) != a * b) = false by rw [bne_eq_false_iff_eq]; exact hl2]
      exact ev_step (f := fun k => spec_l2Good.l0 k 0 a b l) (fun k => by simp [spec_l2Good.j0]) h
    · have e : fieldOk a b l = false := by simp [fieldOk, hl2]
      rw [e, show ((l.length : Int) != a * b) = true by rw [bne_iff_ne]; exact hl2]
      exact no
  · refine ev_ifn hs ?_
    have e : fieldOk a b l = false := by
      cases h1 : inb a 1 8 with
      | false => simp [fieldOk, h1]
      | true =>
        cases h2 : inb b 1 8 with
        | false => simp [fieldOk, h2]
        | true => exact absurd (by rw [h1, h2]; rfl) hs
    rw [e]
    exact no
theorem isValidField_is (a b : Int) (l : List Int) : impl_IsValidField.f a b l = some (fieldOk a b l) := by
  unfold impl_IsValidField.f slices_ContainsFunc_int_at_impl_IsValidField_1.f
  rw [within_is, within_is]
  simp only [Option.bind_some]
  cases h1 : inb a 1 8 with
  | false => simp [fieldOk, h1]
  | true =>
    cases h2 : inb b 1 8 with
    | false => simp [fieldOk, h2]
    | true =>
      have hm := mul_bd (inb_iff.1 h1).1 (inb_iff.1 h1).2 (inb_iff.1 h2).1 (inb_iff.1 h2).2
      rw [w64 (by omega) (by omega)]
      by_cases hl : (l.length : Int) = a * b
      · have e : (!l.any slices_ContainsFunc_int_at_impl_IsValidField_1.p) = l.all cellOk := by
          rw [List.not_any_eq_all_not]
          congr 1
          funext x
          simp [slices_ContainsFunc_int_at_impl_IsValidField_1.p, cellOk, inb]
        simp [fieldOk, h1, h2, hl, e]
      · simp [fieldOk, hl]
end Go.Proofs.Ytfiijdiccjapiaa.Pure
/- Two fields of one shape: one test in the program and in the reference. No conditions. -/
namespace Go.Proofs.Ytfiijdiccjapiaa.Pure
set_option linter.unusedVariables false
set_option linter.unusedSimpArgs false
open Go.RowKit Go.Proofs.Ytfiijdiccjapiaa.P Go.Proofs.YtfiijdiccjapiaaW.PrintWords Go.Proofs.YtfiijdiccjapiaaW.PrintLast
def alike (a b : Int) (l : List Int) (a' b' : Int) (l' : List Int) : Bool := fieldOk a b l && (fieldOk a' b' l' && (decide (a = a') && decide (b = b')))
theorem alike_iff {a b : Int} {l : List Int} {a' b' : Int} {l' : List Int} : alike a b l a' b' l' = true ↔ FieldIs a b l ∧ FieldIs a' b' l' ∧ a = a' ∧ b = b' := by
  unfold alike
  rw [Bool.and_eq_true, Bool.and_eq_true, Bool.and_eq_true, decide_eq_true_eq, decide_eq_true_eq, fieldOk_iff, fieldOk_iff]
theorem l2Same_ev (a b : Int) (l : List Int) (a' b' : Int) (l' : List Int) (hl : l.length ≤ 9223372036854775806) (hl' : l'.length ≤ 9223372036854775806) : Ev (fun k => spec_l2Same.f k a b l a' b' l') (alike a b l a' b' l') := by
  unfold spec_l2Same.f alike
  refine ev_bind (l2Good_ev a b l hl) ?_
  cases fieldOk a b l with
  | false => exact ev_ifn (by simp) (ev_some _)
  | true =>
    refine ev_ifp rfl (ev_bind (l2Good_ev a' b' l' hl') ?_)
    cases fieldOk a' b' l' with
    | false => exact ev_ifn (by simp) (ev_some _)
    | true =>
      refine ev_ifp rfl ?_
      by_cases h : a = a'
      · rw [decide_eq_true h]
        refine ev_ifp h (ev_const ?_)
        simp only [Bool.true_and]
        rfl
      · rw [decide_eq_false h]
        exact ev_ifn h (ev_some _)
theorem sameShape_at (a b : Int) (l : List Int) (a' b' : Int) (l' : List Int) : impl_sameShape.f a b l a' b' l' = some (decide (a = a') && decide (b = b')) := by
  unfold impl_sameShape.f
  by_cases h : a = a'
  · rw [if_pos h, decide_eq_true h, Bool.true_and]
    congr 1
  · rw [if_neg h, decide_eq_false h, Bool.false_and]
theorem alike2_ev (a b : Int) (l : List Int) (a' b' : Int) (l' : List Int) : Ev (fun k => impl_areAlike.f k [(⟨a, b, l⟩ : S34), (⟨a', b', l'⟩ : S34)]) (alike a b l a' b' l') := by
  have e2 : ∀ k, impl_areAlike.l0 (k + 1) [(⟨a, b, l⟩ : S34), (⟨a', b', l'⟩ : S34)] [(⟨a, b, l⟩ : S34), (⟨a', b', l'⟩ : S34)] 2 2 = some true := fun k => by
    simp only [impl_areAlike.l0]
    rw [if_neg (by omega)]
  have e1 : ∀ k, impl_areAlike.l0 (k + 1) [(⟨a, b, l⟩ : S34), (⟨a', b', l'⟩ : S34)] [(⟨a, b, l⟩ : S34), (⟨a', b', l'⟩ : S34)] 2 1 = if fieldOk a' b' l' = true then (if (decide (a' = a) && decide (b' = b)) = true then impl_areAlike.l0 k [(⟨a, b, l⟩ : S34), (⟨a', b', l'⟩ : S34)] [(⟨a, b, l⟩ : S34), (⟨a', b', l'⟩ : S34)] 2 2 else some false) else some false := fun k => by
    simp [impl_areAlike.l0, rd_T34, isValidField_is, sameShape_at, w64]
  have e0 : ∀ k, impl_areAlike.l0 (k + 1) [(⟨a, b, l⟩ : S34), (⟨a', b', l'⟩ : S34)] [(⟨a, b, l⟩ : S34), (⟨a', b', l'⟩ : S34)] 2 0 = if fieldOk a b l = true then impl_areAlike.l0 k [(⟨a, b, l⟩ : S34), (⟨a', b', l'⟩ : S34)] [(⟨a, b, l⟩ : S34), (⟨a', b', l'⟩ : S34)] 2 1 else some false := fun k => by
    simp [impl_areAlike.l0, rd_T34, isValidField_is, sameShape_at, w64]
  refine Ev.congr (f := fun k => impl_areAlike.l0 k [(⟨a, b, l⟩ : S34), (⟨a', b', l'⟩ : S34)] [(⟨a, b, l⟩ : S34), (⟨a', b', l'⟩ : S34)] 2 0) (fun k => rfl) (ev_step e0 ?_)
  unfold alike
  cases fieldOk a b l with
  | false => exact ev_ifn (by simp) (ev_some _)
  | true =>
    refine ev_ifp rfl (ev_step e1 ?_)
    cases fieldOk a' b' l' with
    | false => exact ev_ifn (by simp) (ev_some _)
    | true =>
      refine ev_ifp rfl ?_
      by_cases h : a = a'
      · by_cases h2 : b = b'
        · rw [decide_eq_true h, decide_eq_true h2]
          exact ev_ifp (by simp [h, h2]) (ev_step e2 (ev_some _))
        · rw [decide_eq_false h2]
          simp only [Bool.and_false]
          exact ev_ifn (by simp [Ne.symm h2]) (ev_some _)
      · rw [decide_eq_false h]
        simp only [Bool.false_and, Bool.and_false]
        exact ev_ifn (by simp [Ne.symm h]) (ev_some _)
end Go.Proofs.Ytfiijdiccjapiaa.Pure
/- Differences of two fields: the program's sum over the cells in line. No conditions. -/
namespace Go.Proofs.Ytfiijdiccjapiaa.Pure
set_option linter.unusedVariables false
set_option linter.unusedSimpArgs false
open Go.RowKit Go.Proofs.Ytfiijdiccjapiaa.P Go.Proofs.YtfiijdiccjapiaaW.PrintWords Go.Proofs.YtfiijdiccjapiaaW.PrintLast
def absZ (x : Int) : Int := if x < 0 then -x else x
/-- One cell's part: the sum of the absolute differences so far, and their number. -/
def diffStep (u v : List Int) (i : Nat) (s : Int × Int) : Int × Int := if u.getD i 0 = -9999 then s else if v.getD i 0 = -9999 then s else (s.1 + absZ (u.getD i 0 - v.getD i 0), s.2 + 1)
def diffInv (i : Nat) (s : Int × Int) : Prop := 0 ≤ s.1 ∧ s.1 ≤ 20000 * i ∧ 0 ≤ s.2 ∧ s.2 ≤ i
theorem absZ_bd {x y : Int} (hx : -9999 ≤ x ∧ x ≤ 9000) (hy : -9999 ≤ y ∧ y ≤ 9000) : 0 ≤ absZ (x - y) ∧ absZ (x - y) ≤ 18999 := by
  unfold absZ
  split <;> omega
theorem absOf_at (x : Int) (h0 : -9223372036854775807 ≤ x) (h1 : x ≤ 9223372036854775807) : impl_absOf.f x = some (absZ x) := by
  unfold impl_absOf.f absZ
  rw [w64 (by omega) (by omega)]
  split <;> rfl
theorem cell_bd {l : List Int} (hl : ∀ x ∈ l, cellOk x = true) (i : Nat) : -9999 ≤ l.getD i 0 ∧ l.getD i 0 ≤ 9000 := by
  by_cases hi : i < l.length
  · rw [getD_eq_get 0 hi]
    exact cellOk_bd (hl _ (List.getElem_mem hi))
  · simp [List.getD, List.getElem?_eq_none (show l.length ≤ i by omega)]
theorem diffStep_inv {u v : List Int} (hu : ∀ x ∈ u, cellOk x = true) (hv : ∀ x ∈ v, cellOk x = true) (i : Nat) (s : Int × Int) (h : diffInv i s) : diffInv (i + 1) (diffStep u v i s) := by
  obtain ⟨h1, h2, h3, h4⟩ := h
  unfold diffStep
  split
  · exact ⟨h1, by omega, h3, by omega⟩
  · split
    · exact ⟨h1, by omega, h3, by omega⟩
    · have hb := absZ_bd (cell_bd hu i) (cell_bd hv i)
      refine ⟨?_, ?_, ?_, ?_⟩
      · show 0 ≤ s.1 + absZ (u.getD i 0 - v.getD i 0); omega
      · show s.1 + absZ (u.getD i 0 - v.getD i 0) ≤ 20000 * ((i + 1 : Nat) : Int); omega
      · show 0 ≤ s.2 + 1; omega
      · show s.2 + 1 ≤ ((i + 1 : Nat) : Int); omega
def diffs (u v : List Int) : Int × Int := iter (diffStep u v) 0 u.length (0, 0)
theorem differences_ev (a b : Int) (u : List Int) (a' b' : Int) (v : List Int) (hu : ∀ x ∈ u, cellOk x = true) (hv : ∀ x ∈ v, cellOk x = true) (hl : u.length = v.length) (h64 : u.length ≤ 64) :
    Ev (fun k => impl_differences.f k a b u a' b' v) (diffs u v) := by
  exact loop_ev (fun k s i => impl_differences.l0 k s.1 s.2 u (u.length : Int) (i : Int) a' b' v) u.length (diffStep u v) (fun s => s) diffInv
    (fun i s r hI hi h => ev_step (fun k => by
      obtain ⟨h1, h2, h3, h4⟩ := hI
      have b1 := cell_bd hu i
      have b2 := cell_bd hv i
      have hb := absZ_bd b1 b2
      simp only [impl_differences.l0, rd_nat]
      rw [w64 (show -9223372036854775808 ≤ u.getD i 0 - v.getD i 0 by omega) (by omega), absOf_at _ (by omega) (by omega), if_pos (by omega), if_pos (by omega), if_pos (by omega), if_pos (by omega), w64 (show -9223372036854775808 ≤ (i : Int) + 1 by omega) (by omega)]
      simp only [Option.bind_some]
      rw [w64 (show -9223372036854775808 ≤ s.1 + absZ (u.getD i 0 - v.getD i 0) by omega) (by omega), w64 (show -9223372036854775808 ≤ s.2 + 1 by omega) (by omega)]
      unfold diffStep
      split
      · rfl
      · split <;> rfl) h)
    (fun i s hI hi => diffStep_inv hu hv i s hI)
    (fun s hI => ev_step (f := fun _ => some (s.1, s.2)) (fun k => by
      simp only [impl_differences.l0]
      rw [if_neg (by omega)]) (ev_some _)) 0 (0, 0) (Nat.zero_le _) ⟨by omega, by omega, by omega, by omega⟩
theorem diffs_bd {u v : List Int} (hu : ∀ x ∈ u, cellOk x = true) (hv : ∀ x ∈ v, cellOk x = true) : diffInv u.length (diffs u v) :=
  iter_inv (diffStep u v) diffInv u.length (fun i s hI _ => diffStep_inv hu hv i s hI) u.length 0 (0, 0) (by omega) ⟨by omega, by omega, by omega, by omega⟩
end Go.Proofs.Ytfiijdiccjapiaa.Pure
/- The match of two fields for a motion: the reference's sum, row by row. No conditions. -/
namespace Go.Proofs.Ytfiijdiccjapiaa.Pure
set_option linter.unusedVariables false
set_option linter.unusedSimpArgs false
open Go.RowKit Go.Proofs.Ytfiijdiccjapiaa.P Go.Proofs.YtfiijdiccjapiaaW.PrintWords Go.Proofs.YtfiijdiccjapiaaW.PrintLast
theorem l2At_is (a b : Int) (l : List Int) (W H x y : Nat) (ha : a = W) (hx : x < W) (hy : y < H) (hl : l.length = H * W) (h64 : l.length ≤ 64) : spec_l2At.f a b l (x : Int) (y : Int) = some (l.getD (y * W + x) 0) := by
  subst ha
  have h1 : y * W + x < H * W := by
    have : (y + 1) * W ≤ H * W := Nat.mul_le_mul_right W hy
    rw [Nat.add_mul] at this
    omega
  have e : wrap64 ((wrap64 ((y : Int) * (W : Int))) + (x : Int)) = ((y * W + x : Nat) : Int) := by
    have e1 : (y : Int) * (W : Int) = ((y * W : Nat) : Int) := by simp
    rw [e1, w64n (by omega), show ((y * W : Nat) : Int) + (x : Int) = ((y * W + x : Nat) : Int) by simp]
    exact w64n (by omega)
  unfold spec_l2At.f
  rw [e, if_pos (by omega), if_pos (by omega), rd_nat]
theorem l2Has_is (a b : Int) (l : List Int) (x y : Int) (ha : 1 ≤ a ∧ a ≤ 8) (hb : 1 ≤ b ∧ b ≤ 8) : spec_l2Has.f a b l x y = some (inb x 0 (a - 1) && inb y 0 (b - 1)) := by
  unfold spec_l2Has.f
  rw [w64 (by omega) (by omega), w64 (by omega) (by omega), l1In_is, l1In_is]
  cases inb x 0 (a - 1) <;> simp
theorem absS_at (x : Int) (h0 : -9223372036854775807 ≤ x) (h1 : x ≤ 9223372036854775807) : spec_l11Abs.f x = some (absZ x) := by
  unfold spec_l11Abs.f spec_l1Most.f absZ
  rw [w64 (by omega) (by omega)]
  by_cases h : x < 0
  · rw [if_neg (by omega), if_pos h]; rfl
  · by_cases h2 : x = 0
    · subst h2; simp
    · rw [if_pos (by omega), if_neg h]; rfl
/-- One cell's part in the match for a motion (mx, my), W columns and H rows. -/
def matchStep (W H : Nat) (u v : List Int) (mx my : Int) (i : Nat) (s : Int × Int) : Int × Int :=
  if inb (((i % W : Nat) : Int) + mx) 0 ((W : Int) - 1) = true ∧ inb (((i / W : Nat) : Int) + my) 0 ((H : Int) - 1) = true then
    (if u.getD i 0 = -9999 then s else if v.getD ((((i / W : Nat) : Int) + my).toNat * W + (((i % W : Nat) : Int) + mx).toNat) 0 = -9999 then s else
      (s.1 + absZ (u.getD i 0 - v.getD ((((i / W : Nat) : Int) + my).toNat * W + (((i % W : Nat) : Int) + mx).toNat) 0), s.2 + 1))
  else s
theorem matchStep_inv {W H : Nat} {u v : List Int} {mx my : Int} (hu : ∀ x ∈ u, cellOk x = true) (hv : ∀ x ∈ v, cellOk x = true) (i : Nat) (s : Int × Int) (h : diffInv i s) : diffInv (i + 1) (matchStep W H u v mx my i s) := by
  obtain ⟨h1, h2, h3, h4⟩ := h
  unfold matchStep
  split
  · split
    · exact ⟨h1, by omega, h3, by omega⟩
    · split
      · exact ⟨h1, by omega, h3, by omega⟩
      · have hb := absZ_bd (cell_bd hu i) (cell_bd hv ((((i / W : Nat) : Int) + my).toNat * W + (((i % W : Nat) : Int) + mx).toNat))
        refine ⟨?_, ?_, ?_, ?_⟩
        · show 0 ≤ s.1 + _; omega
        · show s.1 + _ ≤ 20000 * ((i + 1 : Nat) : Int); omega
        · show 0 ≤ s.2 + 1; omega
        · show s.2 + 1 ≤ ((i + 1 : Nat) : Int); omega
  · exact ⟨h1, by omega, h3, by omega⟩
theorem div_at {W y x : Nat} (hx : x < W) : (y * W + x) / W = y ∧ (y * W + x) % W = x := by
  have hW : 0 < W := by omega
  constructor
  · rw [Nat.mul_comm, Nat.mul_add_div hW, Nat.div_eq_of_lt hx, Nat.add_zero]
  · rw [Nat.mul_comm, Nat.mul_add_mod, Nat.mod_eq_of_lt hx]
def matchS (W H : Nat) (u v : List Int) (mx my : Int) : Int × Int := iter (matchStep W H u v mx my) 0 (H * W) (0, 0)
theorem l11Match_ev (a b : Int) (u : List Int) (v : List Int) (mx my : Int) (W H : Nat) (ha : a = W) (hb : b = H) (fu : FieldIs a b u) (fv : FieldIs a b v) (hmx : -2 ≤ mx ∧ mx ≤ 2) (hmy : -2 ≤ my ∧ my ≤ 2) :
    Ev (fun k => spec_l11Match.f k a b u a b v mx my) (matchS W H u v mx my) := by
  have hW : 1 ≤ W ∧ W ≤ 8 := by have := fu.a1; have := fu.a8; omega
  have hH : 1 ≤ H ∧ H ≤ 8 := by have := fu.b1; have := fu.b8; omega
  have hlu : u.length = H * W := by have := fu.len; rw [ha, hb, Int.mul_comm] at this; exact_mod_cast this
  have hlv : v.length = H * W := by have := fv.len; rw [ha, hb, Int.mul_comm] at this; exact_mod_cast this
  have h64 : H * W ≤ 64 := by have := fu.len64; omega
  refine grid_ev (fun k s y => spec_l11Match.l0 k s.1 s.2 (y : Int) a b u a b v mx my) (fun k s y x => spec_l11Match.l1 k s.1 s.2 (y : Int) (x : Int) a b u a b v mx my) W H (matchStep W H u v mx my) (fun s => s) diffInv
    (fun y s r hI hy h => ev_step (fun k => by
      simp only [spec_l11Match.l0]
      rw [if_pos (by omega)]
      rfl) h)
    (fun y x s r hI hy hx h => ?_)
    (fun y x s hI hy hx => matchStep_inv fu.cells fv.cells _ s hI)
    (fun y s r hI hy h => ev_step (fun k => by
      simp only [spec_l11Match.l1]
      rw [if_neg (by omega), w64 (by omega) (by omega)]
      rfl) h)
    (fun s hI => ev_step (f := fun _ => some (s.1, s.2)) (fun k => by
      simp only [spec_l11Match.l0]
      rw [if_neg (by omega)]) (ev_some _)) (0, 0) ⟨by omega, by omega, by omega, by omega⟩
  refine ev_step (fun k => ?_) h
  obtain ⟨h1, h2, h3, h4⟩ := hI
  have hyx : y * W + x < H * W := by
    have : (y + 1) * W ≤ H * W := Nat.mul_le_mul_right W hy
    rw [Nat.add_mul] at this
    omega
  obtain ⟨d1, d2⟩ := div_at (y := y) hx
  simp only [spec_l11Match.l1]
  rw [if_pos (by omega), w64 (show -9223372036854775808 ≤ (x : Int) + mx by omega) (by omega), w64 (show -9223372036854775808 ≤ (y : Int) + my by omega) (by omega), l2Has_is a b v _ _ ⟨fv.a1, fv.a8⟩ ⟨fv.b1, fv.b8⟩,
    w64 (show -9223372036854775808 ≤ (x : Int) + 1 by omega) (by omega)]
  simp only [Option.bind_some]
  unfold matchStep
  rw [d1, d2, ← ha, ← hb]
  by_cases hin : inb ((x : Int) + mx) 0 (a - 1) = true ∧ inb ((y : Int) + my) 0 (b - 1) = true
  · rw [if_pos hin, if_pos (by rw [hin.1, hin.2]; rfl), l2At_is a b u W H x y ha hx hy hlu (by omega)]
    obtain ⟨i1, i2⟩ := hin
    rw [inb_iff] at i1 i2
    have ex : (x : Int) + mx = (((x : Int) + mx).toNat : Int) := by omega
    have ey : (y : Int) + my = (((y : Int) + my).toNat : Int) := by omega
    have hb1 := cell_bd fu.cells (y * W + x)
    have hb2 := cell_bd fv.cells (((y : Int) + my).toNat * W + ((x : Int) + mx).toNat)
    have hbb := absZ_bd hb1 hb2
    have eAt : spec_l2At.f a b v ((x : Int) + mx) ((y : Int) + my) = some (v.getD (((y : Int) + my).toNat * W + ((x : Int) + mx).toNat) 0) := by
      have := l2At_is a b v W H ((x : Int) + mx).toNat ((y : Int) + my).toNat ha (by omega) (by omega) hlv (by omega)
      rw [← ex, ← ey] at this
      exact this
    rw [eAt]
    simp only [Option.bind_some]
    rw [w64 (show -9223372036854775808 ≤ u.getD (y * W + x) 0 - v.getD (((y : Int) + my).toNat * W + ((x : Int) + mx).toNat) 0 by omega) (by omega), absS_at _ (by omega) (by omega)]
    simp only [Option.bind_some]
    rw [w64 (show -9223372036854775808 ≤ s.1 + absZ (u.getD (y * W + x) 0 - v.getD (((y : Int) + my).toNat * W + ((x : Int) + mx).toNat) 0) by omega) (by omega), w64 (show -9223372036854775808 ≤ s.2 + 1 by omega) (by omega)]
    split
    · rfl
    · split <;> rfl
  · rw [if_neg hin, if_neg (by rw [Bool.and_eq_true]; exact hin)]
    rfl
end Go.Proofs.Ytfiijdiccjapiaa.Pure
/- The error of a forecast: one sum and one count in the program and in the reference. No conditions. -/
namespace Go.Proofs.Ytfiijdiccjapiaa.Pure
set_option linter.unusedVariables false
set_option linter.unusedSimpArgs false
open Go.RowKit Go.Proofs.Ytfiijdiccjapiaa.P Go.Proofs.YtfiijdiccjapiaaW.PrintWords Go.Proofs.YtfiijdiccjapiaaW.PrintLast
theorem match_zero (W H : Nat) (u v : List Int) (hl : u.length = H * W) : matchS W H u v 0 0 = diffs u v := by
  unfold matchS diffs
  rw [hl]
  refine iter_congr _ _ _ (fun i s _ hi => ?_)
  have hW : 0 < W := by
    rcases Nat.eq_zero_or_pos W with h | h
    · subst h; simp at hi
    · exact h
  have h1 := Nat.mod_lt i hW
  have h2 : i / W < H := by
    rw [Nat.div_lt_iff_lt_mul hW]
    omega
  have e : (((i / W : Nat) : Int) + 0).toNat * W + (((i % W : Nat) : Int) + 0).toNat = i := by
    rw [Int.add_zero, Int.add_zero, Int.toNat_natCast, Int.toNat_natCast, Nat.mul_comm]
    exact Nat.div_add_mod i W
  unfold matchStep diffStep
  rw [e]
  clear e
  generalize i / W = q at *
  generalize i % W = p at *
  rw [if_pos ⟨by rw [inb_iff]; omega, by rw [inb_iff]; omega⟩]
theorem motionError_both (a b : Int) (u : List Int) (a' b' : Int) (v : List Int) (hu : u.length ≤ 9223372036854775806) (hv : v.length ≤ 9223372036854775806) :
    ∃ r, Ev (fun k => spec_MotionError.f k a b u a' b' v) r ∧ Ev (fun k => impl_MotionError.f k a b u a' b' v) r := by
  unfold spec_MotionError.f impl_MotionError.f
  have g1 := l2Same_ev a b u a' b' v hu hv
  have g2 := alike2_ev a b u a' b' v
  cases h : alike a b u a' b' v with
  | false =>
    rw [h] at g1 g2
    exact ⟨_, ev_bind g1 (ev_ifn (by simp) (ev_some (0, 0, false))), ev_bind g2 (ev_ifn (by simp) (ev_some (0, 0, false)))⟩
  | true =>
    rw [h] at g1 g2
    obtain ⟨fu, fv, ea, eb⟩ := alike_iff.1 h
    subst ea
    subst eb
    obtain ⟨W, hW⟩ := Int.eq_ofNat_of_zero_le (show 0 ≤ a by have := fu.a1; omega)
    obtain ⟨H, hH⟩ := Int.eq_ofNat_of_zero_le (show 0 ≤ b by have := fu.b1; omega)
    have hlu : u.length = H * W := by have := fu.len; rw [hW, hH, Int.mul_comm] at this; exact_mod_cast this
    have hlv : v.length = H * W := by have := fv.len; rw [hW, hH, Int.mul_comm] at this; exact_mod_cast this
    have m1 := l11Match_ev a b u v 0 0 W H hW hH fu fv (by omega) (by omega)
    rw [match_zero W H u v hlu] at m1
    have m2 := differences_ev a b u a b v fu.cells fv.cells (by omega) fu.len64.2
    exact ⟨((diffs u v).1, (diffs u v).2, true), ev_bind g1 (ev_ifp rfl (ev_bind m1 (ev_some _))), ev_bind g2 (ev_ifp rfl (ev_bind m2 (ev_some _)))⟩
end Go.Proofs.Ytfiijdiccjapiaa.Pure
/- What the laws' helpers for lists of whole numbers come to: a copy is the list, equality is equality. No conditions. -/
namespace Go.Proofs.Ytfiijdiccjapiaa.Pure
set_option linter.unusedVariables false
set_option linter.unusedSimpArgs false
open Go.RowKit Go.Proofs.Ytfiijdiccjapiaa.P Go.Proofs.YtfiijdiccjapiaaW.PrintWords Go.Proofs.YtfiijdiccjapiaaW.PrintLast

theorem toIntS_ev (xs : List Int) (hm : xs.length ≤ 35184372088832) : Ev (fun k => laws_toIntS.f k xs) xs := by
  have h := loop_ev (fun k ys i => laws_toIntS.l0 k xs ys (i : Int)) xs.length (fun i ys => ys.set i (xs.getD i 0)) (fun ys => ys)
    (fun i ys => ys.length = xs.length ∧ ∀ j, j < i → ys.getD j 0 = xs.getD j 0)
    (fun i ys r hI hi h => ev_step (fun k => by
      show laws_toIntS.l0 (k + 1) xs ys (i : Int) = laws_toIntS.l0 k xs (ys.set i (xs.getD i 0)) ((i + 1 : Nat) : Int)
      have hl := hI.1
      simp only [laws_toIntS.l0]
      rw [if_pos (by omega), if_pos (by omega), if_pos (by omega), w64 (by omega) (by omega), rd_nat]
      simp) h)
    (fun i ys hI hi => ⟨by simp [hI.1], fun j hj => by
      by_cases e : j = i
      · subst e
        have := hI.1
        simp [List.getD, List.getElem?_set_self (show j < ys.length by omega)]
      · have := hI.2 j (by omega)
        rw [← this]
        simp [List.getD, List.getElem?_set_ne (Ne.symm e)]⟩)
    (fun ys hI => ev_step (f := fun _ => some ys) (fun k => by
      simp only [laws_toIntS.l0]
      rw [if_neg (by omega)]) (ev_some _)) 0 (List.replicate xs.length 0) (Nat.zero_le _) ⟨by simp, fun j hj => by omega⟩
  have e : iter (fun i (ys : List Int) => ys.set i (xs.getD i 0)) 0 (xs.length - 0) (List.replicate xs.length 0) = xs := by
    have hi := iter_inv (fun i (ys : List Int) => ys.set i (xs.getD i 0)) (fun i ys => ys.length = xs.length ∧ ∀ j, j < i → ys.getD j 0 = xs.getD j 0) xs.length
      (fun i ys hI hi => ⟨by simp [hI.1], fun j hj => by
        by_cases e : j = i
        · subst e
          have := hI.1
          simp [List.getD, List.getElem?_set_self (show j < ys.length by omega)]
        · have := hI.2 j (by omega)
          rw [← this]
          simp [List.getD, List.getElem?_set_ne (Ne.symm e)]⟩) (xs.length - 0) 0 (List.replicate xs.length 0) (by omega) ⟨by simp, fun j hj => by omega⟩
    exact eq_index 0 hi.1 (fun j hj => hi.2 j (by have := hi.1; omega))
  rw [e] at h
  refine Ev.congr (fun k => ?_) h
  unfold laws_toIntS.f
  rw [if_pos (by omega), if_pos (by omega)]
  simp

theorem eqIntS_ev (xs ys : List Int) (hm : xs.length ≤ 9223372036854775806) : Ev (fun k => laws_eqIntS.f k xs ys) (decide (xs = ys)) := by
  by_cases hl : xs.length = ys.length
  · have h := allb_ev (fun k i => laws_eqIntS.l0 k xs ys (i : Int)) xs.length (fun i => decide (xs.getD i 0 = ys.getD i 0))
      (fun i r hi hp h => ev_step (fun k => by
        simp only [laws_eqIntS.l0]
        rw [if_pos (by omega), if_pos (by omega), if_pos (by omega), rd_nat, rd_nat, if_pos (by simpa using hp), w64 (by omega) (by omega)]
        rfl) h)
      (fun i hi hp => ev_step (f := fun _ => some false) (fun k => by
        simp only [laws_eqIntS.l0]
        rw [if_pos (by omega), if_pos (by omega), if_pos (by omega), rd_nat, rd_nat, if_neg (by simpa using hp)]) (ev_some _))
      (ev_step (f := fun _ => some true) (fun k => by
        simp only [laws_eqIntS.l0]
        rw [if_neg (by omega)]) (ev_some _))
    rw [rall_eq 0 hl] at h
    refine Ev.congr (fun k => ?_) h
    unfold laws_eqIntS.f
    rw [if_pos (by omega)]
    rfl
  · refine Ev.congr (f := fun _ => some false) (fun k => ?_) (by rw [decide_eq_false (fun e => hl (by rw [e]))]; exact ev_some _)
    unfold laws_eqIntS.f
    rw [if_neg (by omega)]
theorem eqIntS_self (xs : List Int) (hm : xs.length ≤ 9223372036854775806) : Ev (fun k => laws_eqIntS.f k xs xs) true := by
  have := eqIntS_ev xs xs hm
  simpa using this

end Go.Proofs.Ytfiijdiccjapiaa.Pure
/- What the laws' helpers for fields come to: copies, equality, sizes, marks. No conditions. -/
namespace Go.Proofs.Ytfiijdiccjapiaa.Pure
set_option linter.unusedVariables false
set_option linter.unusedSimpArgs false
open Go.RowKit Go.Proofs.Ytfiijdiccjapiaa.P Go.Proofs.YtfiijdiccjapiaaW.PrintWords Go.Proofs.YtfiijdiccjapiaaW.PrintLast
theorem toField_ev (a b : Int) (l : List Int) (hl : l.length ≤ 35184372088832) : Ev (fun k => laws_toField.f k a b l) (a, b, l) := ev_bind (toIntS_ev l hl) (ev_some _)
theorem eqField_ev (a b : Int) (l : List Int) (a' b' : Int) (l' : List Int) (hl : l.length ≤ 9223372036854775806) : Ev (fun k => laws_eqField.f k a b l a' b' l') (decide (a = a' ∧ b = b' ∧ l = l')) := by
  unfold laws_eqField.f
  by_cases h1 : a = a'
  · refine ev_ifp h1 ?_
    by_cases h2 : b = b'
    · refine ev_ifp h2 (ev_bind (eqIntS_ev l l' hl) ?_)
      by_cases h3 : l = l'
      · simp only [h1, h2, h3, decide_true, and_self, if_true]
        exact ev_some _
      · simp only [h3, decide_false, and_false, Bool.false_eq_true, if_false]
        exact ev_some _
    · simp only [h2, false_and, and_false, decide_false, if_false]
      exact ev_some _
  · simp only [h1, false_and, decide_false, if_false]
    exact ev_some _
theorem eqField_self (a b : Int) (l : List Int) (hl : l.length ≤ 9223372036854775806) : Ev (fun k => laws_eqField.f k a b l a b l) true := by
  have := eqField_ev a b l a b l hl
  simpa using this
theorem szInt_is (l : List Int) (a : Int) (ha : 0 ≤ a) (ha2 : a ≤ 1048576) (hl : l.length ≤ 9223372036854775807) : laws_szIntS.f l a = some (if a < l.length then -1 else a - l.length) := by
  unfold laws_szIntS.f
  rw [w64 (by omega) (by omega)]
  split
  · rw [if_pos (by omega)]
  · rw [if_neg (by omega)]
theorem szField_at (a b : Int) (l : List Int) (s : Int) (hs : 0 ≤ s) (hs2 : s ≤ 1048576) (hl : l.length ≤ 9223372036854775807) : laws_szField.f a b l s = some (if s < l.length then -1 else s - l.length) := by
  unfold laws_szField.f
  rw [szInt_is l s hs hs2 hl]
  by_cases h : s < (l.length : Int)
  · simp [h]
  · rw [if_neg h, Option.bind_some, if_neg (by omega)]
/-- The law's guard on a field's size: too large, or the list is short. -/
theorem szField_go (a b : Int) (l : List Int) (s : Int) (hs : 0 ≤ s) (hs2 : s ≤ 1048576) (hl : l.length ≤ 9223372036854775807) :
    (∃ r, laws_szField.f a b l s = some r ∧ r < 0) ∨ ∃ r, laws_szField.f a b l s = some r ∧ ¬ r < 0 ∧ 0 ≤ r ∧ r ≤ 1048576 ∧ l.length ≤ 1048576 := by
  rw [szField_at a b l s hs hs2 hl]
  by_cases h : s < (l.length : Int)
  · rw [if_pos h]
    exact .inl ⟨_, rfl, by omega⟩
  · rw [if_neg h]
    exact .inr ⟨_, rfl, by omega, by omega, by omega, by omega⟩
end Go.Proofs.Ytfiijdiccjapiaa.Pure
/- The program's MotionError returns what the reference's MotionError returns, for all arguments; no conditions. -/
namespace Go.Proofs.Ytfiijdiccjapiaa.Pure
set_option linter.unusedVariables false
set_option linter.unusedSimpArgs false
open Go.RowKit Go.Proofs.Ytfiijdiccjapiaa.P Go.Proofs.YtfiijdiccjapiaaW.PrintWords Go.Proofs.YtfiijdiccjapiaaW.PrintLast
theorem FnExactMotionError : laws_FnExactMotionError.Pure := by
  intro a b l a' b' l' ha hb hl ha' hb' hl'
  refine Ev.rounds ?_
  unfold laws_FnExactMotionError.f
  rcases szField_go a b l 1048576 (by first | omega | (dsimp only; omega) | (simp; omega)) (by first | omega | (dsimp only; omega) | (simp; omega)) (hl.1) with ⟨rz1, ez1, hz1⟩ | ⟨rz1, ez1, hz1, hza1, hzb1, hlz1⟩
  · exact ev_bind (ev_const ez1) (ev_ifp hz1 (ev_some _))
  refine ev_bind (ev_const ez1) ?_
  refine ev_ifn hz1 ?_
  rcases szField_go a' b' l' rz1 (by first | omega | (dsimp only; omega) | (simp; omega)) (by first | omega | (dsimp only; omega) | (simp; omega)) (hl'.1) with ⟨rz2, ez2, hz2⟩ | ⟨rz2, ez2, hz2, hza2, hzb2, hlz2⟩
  · exact ev_bind (ev_const ez2) (ev_ifp hz2 (ev_some _))
  refine ev_bind (ev_const ez2) ?_
  refine ev_ifn hz2 ?_
  obtain ⟨⟨x, y, z⟩, hs, hi⟩ := motionError_both a b l a' b' l' (by omega) (by omega)
  refine ev_bind (toField_ev _ _ _ (by first | omega | (dsimp only; omega) | (simp; omega))) ?_
  refine ev_bind (toField_ev _ _ _ (by first | omega | (dsimp only; omega) | (simp; omega))) ?_
  refine ev_bind hs ?_
  refine ev_bind (toField_ev _ _ _ (by first | omega | (dsimp only; omega) | (simp; omega))) ?_
  refine ev_bind (toField_ev _ _ _ (by first | omega | (dsimp only; omega) | (simp; omega))) ?_
  refine ev_bind hi ?_
  refine ev_ifp (by first | rfl | (simp; done)) ?_
  refine ev_ifp (by first | rfl | (simp; done)) ?_
  refine ev_step (fun k => laws_FnExactMotionError.j0.eq_2 _ _ _ _ _ _ _ _ _ _ _ _ _ k) ?_
  refine ev_ifn (by simp) ?_
  refine ev_bind (toField_ev _ _ _ (by first | omega | (dsimp only; omega) | (simp; omega))) ?_
  refine ev_bind (eqField_self _ _ _ (by first | omega | (dsimp only; omega) | (simp; omega))) ?_
  refine ev_ifp rfl ?_
  refine ev_bind (toField_ev _ _ _ (by first | omega | (dsimp only; omega) | (simp; omega))) ?_
  refine ev_bind (eqField_self _ _ _ (by first | omega | (dsimp only; omega) | (simp; omega))) ?_
  refine ev_ifp rfl ?_
  exact ev_some _
end Go.Proofs.Ytfiijdiccjapiaa.Pure
/- The law FnExactMotionError answers true whatever its arguments are; no conditions. (Written by mp.py out of the plain law and the walk.) -/
namespace Go.Proofs.Ytfiijdiccjapiaa.fnExactMotionError
open Go.ChangeShapes Go.WideShapes Go.ChangeAt Go.RowKit Go.Proofs.Ytfiijdiccjapiaa.Open Go.Proofs.Ytfiijdiccjapiaa.P Go.Proofs.YtfiijdiccjapiaaW.PrintWords
open Go.ChangeMaps (open_string shut_string)
set_option linter.unusedVariables false
theorem own : ownKnob Try.prog.godebug = none := by kernel_rfl
theorem laidOut : laidOutB Try.prog = true := by kernel_rfl
set_option maxRecDepth 100000 in
theorem lifted (os : Os) (started : os.Started) (H : Type) (enc : TypeId × Value → H) :
    ReturnsInHanded {} Try.checked os 5 .any (Rows.fnExactMotionErrorSpec.pre6 enc Try.prog Try.f5 Rows.fnExactMotionErrorRow.domain false) (Rows.fnExactMotionErrorSpec.post enc Try.prog Try.f5 false true false false) := by
  refine returnsInHanded_of_change_sized (C := Try.checked) own started (by kernel_rfl) Try.func5
    (ChangeSpec.witness6 (enc := enc) (C := Try.checked) false ⟨#[], #[.agg #[.int .i64 0, .int .i64 0, .slice none 0 0], .agg #[.int .i64 0, .int .i64 0, .slice none 0 0]], []⟩ 8 (by kernel_rfl) (by kernel_rfl) (by kernel_rfl) (by kernel_rfl)) ?_
  intro W base args ds gs before hval0 hW hcnd hsz0 _
  have hsz : (DataW.weightsEach Try.prog (Try.f5.params.toList ++ Rows.fnExactMotionErrorSpec.plain.varTypes Try.prog) (ds ++ gs)).all (· ≤ reachBytes) = true := hsz0
  have hval : ∀ (j : Nat) t v, Try.f5.params[j]? = some t → args[j]? = some v → Value.okWide Try.prog W .any base t v := hval0
  have hW' := hW
  obtain ⟨p, q, hA0, hV, rfl, hfz, hnd⟩ := hW
  have hA : DataW.TrodAll enc Try.prog W 0 (fun _ => true) true Try.f5.params.toList args.toList ds p := hA0
  rw [Try.params5] at hA hval hsz
  obtain ⟨v0, vs0, d0, ds0, p0, q0, hargs, rfl, rfl, h0, r0⟩ := trodAll_cons hA
  obtain ⟨v1, vs1, d1, ds1, p1, q1, rfl, rfl, rfl, h1, r1⟩ := trodAll_cons r0
  obtain ⟨rfl, rfl, rfl⟩ := trodAll_nil r1
  obtain rfl : args = #[v0, v1] := by cases args; simp_all
  obtain ⟨rfl, rfl⟩ := trodVars_none hV
  have k0 := h0
  have lt0 : ∀ x ∈ p0, x.block < W.heap.size := by obtain ⟨m, hm⟩ := k0; exact DataW.trod_lt m _ _ _ hm
  obtain ⟨u0_0, u0_1, u0_2, b0_0, b0_1, b0_2, rfl, K0_0, w0_0, K0_1, w0_1, K0_2, w0_2⟩ := agg3_at Try.underlying30 (by kernel_rfl) (by kernel_rfl) (opens_int Try.underlying3) (opens_int Try.underlying3) (opens_slice Try.underlying22 (by kernel_rfl) (opens_int Try.underlying3)) (hval 0 30 v0 rfl rfl) h0
  obtain rfl := int_cell K0_0
  obtain rfl := int_cell K0_1
  obtain ⟨A0_2, c0_2, rfl, hc0_2, hr0_2⟩ := slice_cell K0_2
  have k1 := h1
  have lt1 : ∀ x ∈ p1, x.block < W.heap.size := by obtain ⟨m, hm⟩ := k1; exact DataW.trod_lt m _ _ _ hm
  obtain ⟨u1_0, u1_1, u1_2, b1_0, b1_1, b1_2, rfl, K1_0, w1_0, K1_1, w1_1, K1_2, w1_2⟩ := agg3_at Try.underlying30 (by kernel_rfl) (by kernel_rfl) (opens_int Try.underlying3) (opens_int Try.underlying3) (opens_slice Try.underlying22 (by kernel_rfl) (opens_int Try.underlying3)) (hval 1 30 v1 rfl rfl) h1
  obtain rfl := int_cell K1_0
  obtain rfl := int_cell K1_1
  obtain ⟨A1_2, c1_2, rfl, hc1_2, hr1_2⟩ := slice_cell K1_2
  clear hA0 hval0 hsz0 hsz
  obtain ⟨k, hp⟩ := Pure.FnExactMotionError b0_0 b0_1 b0_2 b1_0 b1_1 b1_2 w0_0 w0_1 w0_2 w1_0 w1_1 w1_2
  refine (laws_FnExactMotionError.calls k b0_0 b0_1 A0_2 c0_2 b0_2 b1_0 b1_1 A1_2 c1_2 b1_2 true W hr0_2 hc0_2 hr1_2 hc1_2 hp).mono fun e W' ⟨he, bel0⟩ => ?_
  have bel : Below W.heap.size W W' := bel0
  subst he
  exact ⟨_, rfl, _, _, _, [], _, [], hW', trodAll_mk1 (shut_bool Try.underlying4 _), (trodAll_cons_mk (Below.trod laidOut (by kernel_rfl) (of_decide_eq_true (by kernel_rfl)) k0 bel lt0) (trodAll_cons_mk (Below.trod laidOut (by kernel_rfl) (of_decide_eq_true (by kernel_rfl)) k1 bel lt1) trodAll_mk0)), rfl, bel.frame _, fun h => by cases h⟩
theorem over : Rows.fnExactMotionErrorRow.holds Try.pinned (OpenSpec.ofChange Rows.fnExactMotionErrorSpec) :=
  OpenClaim.holds_of_wide 5 Try.f5 rfl rfl rfl rfl rfl rfl rfl ⟨rfl, rfl, rfl, rfl, rfl⟩ rfl rfl rfl rfl rfl (by kernel_rfl) Try.func5 (by kernel_rfl)
    (of_decide_eq_true (by kernel_rfl)) (by unfold Func.isWrapper; first | (rw [if_pos (by decide +kernel)]; kernel_rfl) | (rw [if_neg (by decide +kernel)]; exact ⟨rfl, rfl⟩))
    (fun os started H enc _ => lifted os started H enc)
theorem proved : Rows.FnExactMotionErrorSaid := over
#print axioms proved
end Go.Proofs.Ytfiijdiccjapiaa.fnExactMotionError
namespace Go.Proofs.Ytfiijdiccjapiaa
/-- The row, under a short name, for the claim. -/
theorem fnExactMotionError_holds : Rows.FnExactMotionErrorSaid := fnExactMotionError.proved
end Go.Proofs.Ytfiijdiccjapiaa
