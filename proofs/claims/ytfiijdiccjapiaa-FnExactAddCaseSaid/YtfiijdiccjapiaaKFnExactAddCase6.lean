/- Texts of the claim FnExactAddCase, merged: part 6 of 6: the program's and the reference's functions as Lean functions, the walks that show it, and plain lemmas; no conditions. -/
import Derived.Test.YtfiijdiccjapiaaWMore
import Derived.Test.YtfiijdiccjapiaaWSized
import Derived.ProofKit
import Derived.OpenShut
import Derived.Deep.Slices
import Derived.Deep.Strs
import Derived.Deep.Fields
import Derived.Lib.SmallJoins
import Derived.Test.YtfiijdiccjapiaaKFnExactAddCase1
import Derived.Test.YtfiijdiccjapiaaKFnExactAddCase2
import Derived.Test.YtfiijdiccjapiaaKFnExactAddCase3
import Derived.Test.YtfiijdiccjapiaaKFnExactAddCase4
import Derived.Test.YtfiijdiccjapiaaKFnExactAddCase5
import Derived.Test.YtfiijdiccjapiaaRows
import Derived.WalkKit
import Derived.ShutString
import Derived.ChangeOld
import Derived.Below
import Derived.SizedLaws
/- What a Go argument reads as, opened into a Lean value of the print's kinds: whole numbers, slices, structs of two, three and four one-cell fields. No conditions. -/
namespace Go.Proofs.Ytfiijdiccjapiaa.Open
open Go.ChangeShapes Go.WideShapes Go.RowKit Go.Deep Go.Joins Go.Proofs.YtfiijdiccjapiaaW.PrintWords

/-- Whatever is read as a datum of type t holds a value of kind d that meets wf. -/
def Opens {α : Type} (P : Program) (t : TypeId) (d : Kd α) (wf : α → Prop) : Prop :=
  ∀ {H : Type} {enc : TypeId × Value → H} {W : World} {fuel : Nat} {cs : List Value} {x : DataW H × List MemPlace},
    DataW.trod enc P W 0 (fun _ => true) true fuel t cs = some x → ∃ y, d.K W y cs ∧ wf y

theorem opens_int {P : Program} {t : TypeId} {k : IntKind} (h : P.underlying t = some (.int k)) : Opens P t (Kd.int k) (fun n => (Lit.int k n).wf = true) := by
  intro H enc W fuel cs x hx
  obtain ⟨n, rfl, _, hw⟩ := DataW.trod_int h hx
  exact ⟨n, rfl, hw⟩

theorem opens_bool {P : Program} {t : TypeId} (h : P.underlying t = some .bool) : Opens P t Kd.bool (fun _ => True) := by
  intro H enc W fuel cs x hx
  obtain ⟨n, rfl, _⟩ := DataW.trod_bool h hx
  exact ⟨n, rfl, trivial⟩

theorem list_of {α : Type} {p : Nat → α → Prop} : ∀ (n : Nat), (∀ i, i < n → ∃ y, p i y) → ∃ ys : List α, ys.length = n ∧ ∀ (i : Nat) (y : α), ys[i]? = some y → p i y
  | 0, _ => ⟨[], rfl, fun i y h => by simp at h⟩
  | n + 1, h => by
    obtain ⟨ys, hl, hy⟩ := list_of n (fun i hi => h i (by omega))
    obtain ⟨y, hp⟩ := h n (by omega)
    refine ⟨ys ++ [y], by simp [hl], fun i z hz => ?_⟩
    by_cases hi : i < n
    · rw [List.getElem?_append_left (by omega)] at hz
      exact hy i z hz
    · have hi2 : i = n := by
        have := (List.getElem?_eq_some_iff.1 hz).1
        simp [hl] at this
        omega
      subst hi2
      rw [List.getElem?_append_right (by omega), hl] at hz
      simp at hz
      subst hz
      exact hp

theorem opens_slice {α : Type} {P : Program} {t e : TypeId} {d : Kd α} {wf : α → Prop} (h : P.underlying t = some (.slice e)) (hc : P.cellsOf e = d.sz) (he : Opens P e d wf) :
    Opens P t (Kd.slice e d) (fun l => l.length ≤ 9223372036854775807 ∧ ∀ x ∈ l, wf x) := by
  intro H enc W fuel cs x hx
  rcases open_slice h hx with ⟨rfl, _⟩ | ⟨a, len, cap, m, n, D, Pl, rfl, _, hl, hm, hmm, _, hx⟩
  · exact ⟨[], ⟨none, 0, rfl, by simp, Kd.C_nil d W⟩, by simp, by simp⟩
  · obtain ⟨ys, hlen, hy⟩ := list_of (p := fun i y => ∃ cs', W.cells? 0 (a.add (i * P.cellsOf e)) (P.cellsOf e) = some cs' ∧ d.K W y cs' ∧ wf y) len (fun i hi => by
      obtain ⟨cs', h1, h2⟩ := hx i (by rw [hmm]; split <;> omega)
      obtain ⟨y, hK, hw⟩ := he h2
      exact ⟨y, cs', h1, hK, hw⟩)
    have hm' : cap ≤ 9223372036854775807 := by simpa [maxLen] using hm
    refine ⟨ys, ⟨some a, cap, by rw [hlen], by omega, ⟨rfl, by omega, fun _ => ⟨a, rfl, fun j y hj => ?_⟩⟩⟩, by omega, fun y hmem => ?_⟩
    · obtain ⟨cs', h1, hK, _⟩ := hy j y hj
      obtain ⟨_, hl2, hcell⟩ := World.cells?_some h1
      refine ⟨cs', d.K_len hK, hK, fun i u hu => ?_⟩
      have hi : i < P.cellsOf e := by
        have := (List.getElem?_eq_some_iff.1 hu).1
        omega
      rw [← hc, ← Go.Deep.add_add, hcell i hi]
      exact hu
    · obtain ⟨j, hj⟩ := List.getElem?_of_mem hmem
      obtain ⟨_, _, _, hw⟩ := hy j y hj
      exact hw

theorem opens2 {α0 α1 : Type} {P : Program} {t : TypeId} {f0 f1 : Field} {d0 : Kd α0} {d1 : Kd α1} {w0 : α0 → Prop} {w1 : α1 → Prop} (hs : P.underlying t = some (.struct #[f0, f1]))
    (hone : oneCellFields P #[f0, f1] = true) (hC : P.cellsOf t = 2) (h0 : Opens P f0.type d0 w0) (h1 : Opens P f1.type d1 w1) : Opens P t (Kd.pair d0 d1) (fun y => w0 y.1 ∧ w1 y.2) := by
  intro H enc W fuel cs x hx
  obtain ⟨y0, y1, n, _, hlen, e0, e1⟩ := trod_struct2 hs hx
  rw [hC] at hlen
  match cs, hlen with
  | [c0, c1], _ =>
    obtain ⟨o0, k0⟩ := hone_of hone 0 f0 rfl
    obtain ⟨o1, k1⟩ := hone_of hone 1 f1 rfl
    obtain ⟨z0, K0, W0⟩ := h0 (show DataW.trod enc P W 0 (fun _ => true) true n f0.type [c0] = some y0 by simpa [o0, k0] using e0)
    obtain ⟨z1, K1, W1⟩ := h1 (show DataW.trod enc P W 0 (fun _ => true) true n f1.type [c1] = some y1 by simpa [o1, k1] using e1)
    exact ⟨(z0, z1), ⟨[c0], [c1], rfl, K0, K1⟩, W0, W1⟩

theorem opens3 {α0 α1 α2 : Type} {P : Program} {t : TypeId} {f0 f1 f2 : Field} {d0 : Kd α0} {d1 : Kd α1} {d2 : Kd α2} {w0 : α0 → Prop} {w1 : α1 → Prop} {w2 : α2 → Prop}
    (hs : P.underlying t = some (.struct #[f0, f1, f2])) (hone : oneCellFields P #[f0, f1, f2] = true) (hC : P.cellsOf t = 3) (h0 : Opens P f0.type d0 w0) (h1 : Opens P f1.type d1 w1) (h2 : Opens P f2.type d2 w2) :
    Opens P t (Kd.pair d0 (Kd.pair d1 d2)) (fun y => w0 y.1 ∧ w1 y.2.1 ∧ w2 y.2.2) := by
  intro H enc W fuel cs x hx
  obtain ⟨y0, y1, y2, n, _, hlen, e0, e1, e2⟩ := trod_struct3 hs hx
  rw [hC] at hlen
  match cs, hlen with
  | [c0, c1, c2], _ =>
    obtain ⟨o0, k0⟩ := hone_of hone 0 f0 rfl
    obtain ⟨o1, k1⟩ := hone_of hone 1 f1 rfl
    obtain ⟨o2, k2⟩ := hone_of hone 2 f2 rfl
    obtain ⟨z0, K0, W0⟩ := h0 (show DataW.trod enc P W 0 (fun _ => true) true n f0.type [c0] = some y0 by simpa [o0, k0] using e0)
    obtain ⟨z1, K1, W1⟩ := h1 (show DataW.trod enc P W 0 (fun _ => true) true n f1.type [c1] = some y1 by simpa [o1, k1] using e1)
    obtain ⟨z2, K2, W2⟩ := h2 (show DataW.trod enc P W 0 (fun _ => true) true n f2.type [c2] = some y2 by simpa [o2, k2] using e2)
    exact ⟨(z0, z1, z2), ⟨[c0], [c1, c2], rfl, K0, [c1], [c2], rfl, K1, K2⟩, W0, W1, W2⟩

theorem opens4 {α0 α1 α2 α3 : Type} {P : Program} {t : TypeId} {f0 f1 f2 f3 : Field} {d0 : Kd α0} {d1 : Kd α1} {d2 : Kd α2} {d3 : Kd α3} {w0 : α0 → Prop} {w1 : α1 → Prop} {w2 : α2 → Prop} {w3 : α3 → Prop}
    (hs : P.underlying t = some (.struct #[f0, f1, f2, f3])) (hone : oneCellFields P #[f0, f1, f2, f3] = true) (hC : P.cellsOf t = 4) (h0 : Opens P f0.type d0 w0) (h1 : Opens P f1.type d1 w1) (h2 : Opens P f2.type d2 w2) (h3 : Opens P f3.type d3 w3) :
    Opens P t (Kd.pair d0 (Kd.pair d1 (Kd.pair d2 d3))) (fun y => w0 y.1 ∧ w1 y.2.1 ∧ w2 y.2.2.1 ∧ w3 y.2.2.2) := by
  intro H enc W fuel cs x hx
  obtain ⟨y0, y1, y2, y3, n, _, hlen, e0, e1, e2, e3⟩ := trod_struct4 hs hx
  rw [hC] at hlen
  match cs, hlen with
  | [c0, c1, c2, c3], _ =>
    obtain ⟨o0, k0⟩ := hone_of hone 0 f0 rfl
    obtain ⟨o1, k1⟩ := hone_of hone 1 f1 rfl
    obtain ⟨o2, k2⟩ := hone_of hone 2 f2 rfl
    obtain ⟨o3, k3⟩ := hone_of hone 3 f3 rfl
    obtain ⟨z0, K0, W0⟩ := h0 (show DataW.trod enc P W 0 (fun _ => true) true n f0.type [c0] = some y0 by simpa [o0, k0] using e0)
    obtain ⟨z1, K1, W1⟩ := h1 (show DataW.trod enc P W 0 (fun _ => true) true n f1.type [c1] = some y1 by simpa [o1, k1] using e1)
    obtain ⟨z2, K2, W2⟩ := h2 (show DataW.trod enc P W 0 (fun _ => true) true n f2.type [c2] = some y2 by simpa [o2, k2] using e2)
    obtain ⟨z3, K3, W3⟩ := h3 (show DataW.trod enc P W 0 (fun _ => true) true n f3.type [c3] = some y3 by simpa [o3, k3] using e3)
    exact ⟨(z0, z1, z2, z3), ⟨[c0], [c1, c2, c3], rfl, K0, [c1], [c2, c3], rfl, K1, [c2], [c3], rfl, K2, K3⟩, W0, W1, W2, W3⟩

theorem opens_iso {α β : Type} {P : Program} {t : TypeId} {d : Kd α} {wf : α → Prop} (h : Opens P t d wf) (f : β → α) (g : α → β) (hg : ∀ y, f (g y) = y) : Opens P t (Kd.iso d f) (fun s => wf (f s)) := by
  intro H enc W fuel cs x hx
  obtain ⟨y, hK, hw⟩ := h hx
  exact ⟨g y, show d.K W (f (g y)) cs by rw [hg]; exact hK, show wf (f (g y)) by rw [hg]; exact hw⟩

/-- A slice of whatever elements is no longer than its weight allows. -/
theorem sized_any {H : Type} {enc : TypeId × Value → H} {P : Program} {W : World} {base : Nat} {spare : Nat → Bool} {held : Bool} {t e : TypeId} {a : Option Addr} {len cap : Nat} {d : DataW H} {ps : List MemPlace} {ts : List TypeId} {ds : List (DataW H)} {j : Nat}
    (hsz : (DataW.weightsEach P ts ds).all (· ≤ reachBytes) = true) (ht : ts[j]? = some t) (hd : ds[j]? = some d) (hu : P.underlying t = some (.slice e)) {B : Nat} (hB : P.bytesOf e = B)
    (h : DataW.Trod enc P W base spare held t (.slice a len cap) d ps) : len * B ≤ 140737488351232 := by
  obtain ⟨fuel, hf⟩ := h
  rcases open_slice hu hf with ⟨hcs, _⟩ | ⟨x, l, c, m, n, D, Pl, hcs, _, hl, _, _, hx, _⟩
  · simp [Value.cells] at hcs
    obtain ⟨rfl, rfl, rfl⟩ := hcs
    simp
  · simp [Value.cells] at hcs
    obtain ⟨rfl, rfl, rfl⟩ := hcs
    obtain ⟨hx, _⟩ := Prod.mk.inj hx
    subst hx
    have z := sized_slice hsz ht hd hu
    rw [hB] at z
    refine Nat.le_trans (Nat.mul_le_mul_right _ ?_) z
    simp

/-- A slice's value and its reading, as one. -/
theorem slice_at {α : Type} {P : Program} {W : World} {t e : TypeId} {d : Kd α} {wf : List α → Prop} {H : Type} {enc : TypeId × Value → H} {a : Option Addr} {len cap : Nat} {dd : DataW H} {ps : List MemPlace} (ho : Opens P t (Kd.slice e d) wf)
    (h : DataW.Trod enc P W 0 (fun _ => true) true t (.slice a len cap) dd ps) : ∃ l : List α, len = l.length ∧ l.length ≤ cap ∧ d.C W a l.length l ∧ wf l := by
  obtain ⟨fuel, hf⟩ := h
  obtain ⟨l, ⟨A, c, hcs, hl, hC⟩, hw⟩ := ho hf
  simp [Value.cells] at hcs
  obtain ⟨rfl, rfl, rfl⟩ := hcs
  exact ⟨l, rfl, hl, hC, hw⟩

theorem int_cell {k : IntKind} {W : World} {y : Int} {v : Value} (h : (Kd.int k).K W y [v]) : v = .int k y := by
  have h' : [v] = [Value.int k y] := h
  simpa using h'
theorem bool_cell {W : World} {y : Bool} {v : Value} (h : Kd.bool.K W y [v]) : v = .bool y := by
  have h' : [v] = [Value.bool y] := h
  simpa using h'
theorem slice_cell {α : Type} {d : Kd α} {e : Nat} {W : World} {l : List α} {v : Value} (h : (Kd.slice e d).K W l [v]) : ∃ A c, v = .slice A l.length c ∧ l.length ≤ c ∧ d.C W A l.length l := by
  obtain ⟨A, c, hc, hl, hC⟩ := h
  exact ⟨A, c, by simpa using hc, hl, hC⟩

section
variable {P : Program} {t : TypeId} {W : World} {H : Type} {enc : TypeId × Value → H} {r : Reach} {b0 : Nat} {v : Value} {d : DataW H} {p : List MemPlace}
theorem agg2_at {α0 α1 : Type} {f0 f1 : Field} {d0 : Kd α0} {d1 : Kd α1} {w0 : α0 → Prop} {w1 : α1 → Prop} (hs : P.underlying t = some (.struct #[f0, f1])) (hone : oneCellFields P #[f0, f1] = true) (hC : P.cellsOf t = 2)
    (h0 : Opens P f0.type d0 w0) (h1 : Opens P f1.type d1 w1) (hv : Value.okWide P W r b0 t v) (h : DataW.Trod enc P W 0 (fun _ => true) true t v d p) :
    ∃ (v0 v1 : Value) (y0 : α0) (y1 : α1), v = .agg #[v0, v1] ∧ d0.K W y0 [v0] ∧ w0 y0 ∧ d1.K W y1 [v1] ∧ w1 y1 := by
  obtain ⟨v0, v1, _, _, _, rfl, _, _, e0, e1⟩ := open_agg2 hs hone hC hv h
  obtain ⟨y0, K0, W0⟩ := h0 e0
  obtain ⟨y1, K1, W1⟩ := h1 e1
  exact ⟨v0, v1, y0, y1, rfl, K0, W0, K1, W1⟩
theorem agg3_at {α0 α1 α2 : Type} {f0 f1 f2 : Field} {d0 : Kd α0} {d1 : Kd α1} {d2 : Kd α2} {w0 : α0 → Prop} {w1 : α1 → Prop} {w2 : α2 → Prop} (hs : P.underlying t = some (.struct #[f0, f1, f2])) (hone : oneCellFields P #[f0, f1, f2] = true)
    (hC : P.cellsOf t = 3) (h0 : Opens P f0.type d0 w0) (h1 : Opens P f1.type d1 w1) (h2 : Opens P f2.type d2 w2) (hv : Value.okWide P W r b0 t v) (h : DataW.Trod enc P W 0 (fun _ => true) true t v d p) :
    ∃ (v0 v1 v2 : Value) (y0 : α0) (y1 : α1) (y2 : α2), v = .agg #[v0, v1, v2] ∧ d0.K W y0 [v0] ∧ w0 y0 ∧ d1.K W y1 [v1] ∧ w1 y1 ∧ d2.K W y2 [v2] ∧ w2 y2 := by
  obtain ⟨v0, v1, v2, _, _, _, _, rfl, _, _, e0, e1, e2⟩ := open_agg3 hs hone hC hv h
  obtain ⟨y0, K0, W0⟩ := h0 e0
  obtain ⟨y1, K1, W1⟩ := h1 e1
  obtain ⟨y2, K2, W2⟩ := h2 e2
  exact ⟨v0, v1, v2, y0, y1, y2, rfl, K0, W0, K1, W1, K2, W2⟩
theorem agg4_at {α0 α1 α2 α3 : Type} {f0 f1 f2 f3 : Field} {d0 : Kd α0} {d1 : Kd α1} {d2 : Kd α2} {d3 : Kd α3} {w0 : α0 → Prop} {w1 : α1 → Prop} {w2 : α2 → Prop} {w3 : α3 → Prop} (hs : P.underlying t = some (.struct #[f0, f1, f2, f3]))
    (hone : oneCellFields P #[f0, f1, f2, f3] = true) (hC : P.cellsOf t = 4) (h0 : Opens P f0.type d0 w0) (h1 : Opens P f1.type d1 w1) (h2 : Opens P f2.type d2 w2) (h3 : Opens P f3.type d3 w3)
    (hv : Value.okWide P W r b0 t v) (h : DataW.Trod enc P W 0 (fun _ => true) true t v d p) :
    ∃ (v0 v1 v2 v3 : Value) (y0 : α0) (y1 : α1) (y2 : α2) (y3 : α3), v = .agg #[v0, v1, v2, v3] ∧ d0.K W y0 [v0] ∧ w0 y0 ∧ d1.K W y1 [v1] ∧ w1 y1 ∧ d2.K W y2 [v2] ∧ w2 y2 ∧ d3.K W y3 [v3] ∧ w3 y3 := by
  obtain ⟨v0, v1, v2, v3, _, _, _, _, _, rfl, _, _, e0, e1, e2, e3⟩ := open_agg4 hs hone hC hv h
  obtain ⟨y0, K0, W0⟩ := h0 e0
  obtain ⟨y1, K1, W1⟩ := h1 e1
  obtain ⟨y2, K2, W2⟩ := h2 e2
  obtain ⟨y3, K3, W3⟩ := h3 e3
  exact ⟨v0, v1, v2, v3, y0, y1, y2, y3, rfl, K0, W0, K1, W1, K2, W2, K3, W3⟩
end

end Go.Proofs.Ytfiijdiccjapiaa.Open
-- written by mp.py (this session's), with the print's functions; Lean checks it
namespace Go.Proofs.Ytfiijdiccjapiaa.P
open Go.RowKit Go.Proofs.YtfiijdiccjapiaaW.PrintWords Go.Proofs.YtfiijdiccjapiaaW.PrintLast Go.Proofs.YtfiijdiccjapiaaW.PrintMore
attribute [local go_sem] max2_int min2_int max_two min_two max_three min_three max_four min_four   -- for this text's walks alone
set_option linter.unusedVariables false
set_option linter.unusedSimpArgs false

open Go.Proofs.Ytfiijdiccjapiaa.Open
theorem opens30 : Opens Try.prog 30 k30 (fun x : S30 => (Lit.int .i64 x.f0).wf = true ∧ (Lit.int .i64 x.f1).wf = true ∧ (x.f2.length ≤ 9223372036854775807 ∧ ∀ z0 ∈ x.f2, (Lit.int .i64 z0).wf = true)) :=
  opens_iso (opens3 Try.underlying30 (by kernel_rfl) (by kernel_rfl) (opens_int Try.underlying3) (opens_int Try.underlying3) (opens_slice Try.underlying22 (by kernel_rfl) (opens_int Try.underlying3))) (fun x : S30 => (x.f0, x.f1, x.f2)) (fun y => (⟨y.1, y.2.1, y.2.2⟩ : S30)) (fun _ => rfl)
theorem opens131 : Opens Try.prog 131 k131 (fun x : S131 => (Lit.int .i64 x.f0).wf = true ∧ (Lit.int .i64 x.f1).wf = true ∧ (Lit.int .i64 x.f2).wf = true ∧ (Lit.int .i64 x.f3).wf = true) :=
  opens_iso (opens4 Try.underlying131 (by kernel_rfl) (by kernel_rfl) (opens_int Try.underlying3) (opens_int Try.underlying3) (opens_int Try.underlying3) (opens_int Try.underlying3)) (fun x : S131 => (x.f0, x.f1, x.f2, x.f3)) (fun y => (⟨y.1, y.2.1, y.2.2.1, y.2.2.2⟩ : S131)) (fun _ => rfl)
end Go.Proofs.Ytfiijdiccjapiaa.P
/- Plain words for the laws' plain proofs: rounds that end, loops over an index, lists read at an index. No conditions. -/
namespace Go.Proofs.Ytfiijdiccjapiaa.Pure
set_option linter.unusedVariables false
set_option linter.unusedSimpArgs false
open Go.RowKit Go.Proofs.YtfiijdiccjapiaaW.PrintWords Go.Proofs.YtfiijdiccjapiaaW.PrintLast Go.Proofs.YtfiijdiccjapiaaW.PrintMore

theorem w64 {x : Int} (h0 : -9223372036854775808 ≤ x) (h1 : x ≤ 9223372036854775807) : wrap64 x = x := by
  unfold wrap64
  omega
theorem w64n {n : Nat} (h : n ≤ 9223372036854775807) : wrap64 (n : Int) = (n : Int) := w64 (by omega) (by omega)
theorem rd_nat (xs : List Int) (i : Nat) : rd xs (i : Int) = xs.getD i 0 := by simp [rd]
theorem wf_bd {x : Int} (h : (Lit.int .i64 x).wf = true) : -9223372036854775808 ≤ x ∧ x ≤ 9223372036854775807 := by
  simp [Lit.wf, IntKind.min, IntKind.max, IntKind.signed, IntKind.bits] at h
  omega

section
variable {α β : Type} {f g : Nat → Option α} {r : α}
theorem ev_some (r : α) : Ev (fun _ => some r) r := ⟨0, fun _ _ => rfl⟩
theorem ev_ifp {c : Prop} [Decidable c] (h : c) (k : Ev f r) : Ev (fun n => if c then f n else g n) r := Ev.congr (fun _ => if_pos h) k
theorem ev_ifn {c : Prop} [Decidable c] (h : ¬ c) (k : Ev g r) : Ev (fun n => if c then f n else g n) r := Ev.congr (fun _ => if_neg h) k
theorem ev_bind {F : Nat → α → Option β} {q : β} (h : Ev g r) (k : Ev (fun n => F n r) q) : Ev (fun n => (g n).bind (fun x => F n x)) q := by
  obtain ⟨K1, h1⟩ := h
  obtain ⟨K2, h2⟩ := k
  exact ⟨K1 + K2, fun n hn => by show (g n).bind (fun x => F n x) = some q; rw [h1 n (by omega)]; exact h2 n (by omega)⟩
theorem ev_const {a : Option α} (h : a = some r) : Ev (fun _ => a) r := ⟨0, fun _ _ => h⟩
theorem ev_step (h : ∀ k, g (k + 1) = f k) (k : Ev f r) : Ev g r := by
  obtain ⟨K, h1⟩ := k
  refine ⟨K + 1, fun n hn => ?_⟩
  obtain ⟨m, rfl⟩ : ∃ m, n = m + 1 := ⟨n - 1, by omega⟩
  rw [h m]
  exact h1 m (by omega)
/-- One number of rounds for two. -/
theorem ev_two {f : Nat → Option α} {g : Nat → Option β} {a : α} {b : β} (h : Ev f a) (k : Ev g b) : ∃ K, ∀ n, K ≤ n → f n = some a ∧ g n = some b := by
  obtain ⟨K1, h1⟩ := h
  obtain ⟨K2, h2⟩ := k
  exact ⟨K1 + K2, fun n hn => ⟨h1 n (by omega), h2 n (by omega)⟩⟩
end

/-- A state that d rounds turn, from round i on. -/
def iter {σ : Type} (g : Nat → σ → σ) : Nat → Nat → σ → σ
  | _, 0, s => s
  | i, d + 1, s => iter g (i + 1) d (g i s)

theorem loop_ev {σ ρ : Type} (F : Nat → σ → Nat → Option ρ) (n : Nat) (g : Nat → σ → σ) (fin : σ → ρ) (I : Nat → σ → Prop)
    (hs : ∀ i s r, I i s → i < n → Ev (fun k => F k (g i s) (i + 1)) r → Ev (fun k => F k s i) r) (hI : ∀ i s, I i s → i < n → I (i + 1) (g i s))
    (he : ∀ s, I n s → Ev (fun k => F k s n) (fin s)) : ∀ i s, i ≤ n → I i s → Ev (fun k => F k s i) (fin (iter g i (n - i) s)) := by
  have key : ∀ d i s, n - i = d → i ≤ n → I i s → Ev (fun k => F k s i) (fin (iter g i d s)) := by
    intro d
    induction d with
    | zero =>
      intro i s h0 h1 h2
      obtain rfl : i = n := by omega
      exact he s h2
    | succ d ih =>
      intro i s h0 h1 h2
      exact hs i s _ h2 (by omega) (ih (i + 1) (g i s) (by omega) (by omega) (hI i s h2 (by omega)))
  exact fun i s h1 h2 => key (n - i) i s rfl h1 h2

theorem iter_inv {σ : Type} (g : Nat → σ → σ) (I : Nat → σ → Prop) (n : Nat) (hI : ∀ i s, I i s → i < n → I (i + 1) (g i s)) : ∀ d i s, i + d = n → I i s → I n (iter g i d s) := by
  intro d
  induction d with
  | zero => intro i s h0 h1; obtain rfl : i = n := by omega
            exact h1
  | succ d ih => intro i s h0 h1; exact ih (i + 1) _ (by omega) (hI i s h1 (by omega))

/-- The rounds as a fold over what is left of a list. -/
theorem iter_foldl {σ α : Type} (f : σ → α → σ) (z : α) (xs : List α) : ∀ d i s, i + d = xs.length → iter (fun i s => f s (xs.getD i z)) i d s = (xs.drop i).foldl f s := by
  intro d
  induction d with
  | zero =>
    intro i s h
    rw [List.drop_of_length_le (by omega)]
    rfl
  | succ d ih =>
    intro i s h
    have hlt : i < xs.length := by omega
    rw [List.drop_eq_getElem_cons hlt]
    show iter _ (i + 1) d _ = _
    rw [ih (i + 1) _ (by omega), List.foldl_cons]
    simp [List.getD, List.getElem?_eq_getElem hlt]

/-- Do all of d indices from i on say yes? -/
def rall (p : Nat → Bool) : Nat → Nat → Bool
  | _, 0 => true
  | i, d + 1 => p i && rall p (i + 1) d
theorem rall_iff (p : Nat → Bool) : ∀ d i, rall p i d = true ↔ ∀ j, i ≤ j → j < i + d → p j = true
  | 0, i => ⟨fun _ j h1 h2 => by omega, fun _ => rfl⟩
  | d + 1, i => by
    show (p i && rall p (i + 1) d) = true ↔ _
    rw [Bool.and_eq_true, rall_iff p d (i + 1)]
    constructor
    · rintro ⟨h0, h1⟩ j h2 h3
      by_cases e : j = i
      · rw [e]; exact h0
      · exact h1 j (by omega) (by omega)
    · intro h
      exact ⟨h i (Nat.le_refl _) (by omega), fun j h2 h3 => h j (by omega) (by omega)⟩
theorem rall_congr {p q : Nat → Bool} : ∀ d i, (∀ j, i ≤ j → j < i + d → p j = q j) → rall p i d = rall q i d
  | 0, _, _ => rfl
  | d + 1, i, h => by
    show (p i && rall p (i + 1) d) = (q i && rall q (i + 1) d)
    rw [h i (Nat.le_refl _) (by omega), rall_congr d (i + 1) (fun j h1 h2 => h j (by omega) (by omega))]

/-- A loop that ends with 'no' at the first index that fails, and with 'yes' (or what follows) behind all. -/
theorem all_ev {ρ : Type} (F : Nat → Nat → Option ρ) (n : Nat) (p : Nat → Bool) (no yes : ρ) (hs : ∀ i r, i < n → p i = true → Ev (fun k => F k (i + 1)) r → Ev (fun k => F k i) r)
    (hn : ∀ i, i < n → p i = false → Ev (fun k => F k i) no) (he : Ev (fun k => F k n) yes) :
    ∀ i, i ≤ n → Ev (fun k => F k i) (if rall p i (n - i) = true then yes else no) := by
  have key : ∀ d i, n - i = d → i ≤ n → Ev (fun k => F k i) (if rall p i d = true then yes else no) := by
    intro d
    induction d with
    | zero =>
      intro i h0 h1
      obtain rfl : i = n := by omega
      rw [show rall p i 0 = true from rfl, if_pos rfl]
      exact he
    | succ d ih =>
      intro i h0 h1
      have h := ih (i + 1) (by omega) (by omega)
      have e : rall p i (d + 1) = (p i && rall p (i + 1) d) := rfl
      cases hp : p i with
      | true =>
        rw [e, hp, Bool.true_and]
        exact hs i _ (by omega) hp h
      | false =>
        rw [e, hp, Bool.false_and, if_neg (by simp)]
        exact hn i (by omega) hp
  exact fun i h1 => key (n - i) i rfl h1
/-- The same, where the answer is a bool. -/
theorem allb_ev (F : Nat → Nat → Option Bool) (n : Nat) (p : Nat → Bool) (hs : ∀ i r, i < n → p i = true → Ev (fun k => F k (i + 1)) r → Ev (fun k => F k i) r)
    (hn : ∀ i, i < n → p i = false → Ev (fun k => F k i) false) (he : Ev (fun k => F k n) true) : Ev (fun k => F k 0) (rall p 0 n) := by
  have h := all_ev F n p false true hs hn he 0 (Nat.zero_le _)
  rw [Nat.sub_zero] at h
  cases e : rall p 0 n <;> simpa [e] using h

theorem getD_eq_get {α : Type} {xs : List α} {i : Nat} (z : α) (h : i < xs.length) : xs.getD i z = xs[i] := by simp [List.getD, List.getElem?_eq_getElem h]
theorem rall_list {α : Type} (xs : List α) (z : α) (p : α → Bool) : rall (fun j => p (xs.getD j z)) 0 xs.length = xs.all p := by
  rw [Bool.eq_iff_iff, rall_iff, List.all_eq_true]
  constructor
  · intro h x hx
    obtain ⟨i, hi, rfl⟩ := List.getElem_of_mem hx
    rw [← getD_eq_get z hi]
    exact h i (Nat.zero_le _) (by omega)
  · intro h j _ hj
    rw [getD_eq_get z (by omega)]
    exact h _ (List.getElem_mem (by omega))
theorem eq_index {α : Type} {xs ys : List α} (z : α) (h : xs.length = ys.length) (hh : ∀ j, j < xs.length → xs.getD j z = ys.getD j z) : xs = ys := by
  refine List.ext_getElem h (fun i h1 h2 => ?_)
  rw [← getD_eq_get z h1, ← getD_eq_get z h2]
  exact hh i h1
theorem rall_eq {α : Type} [DecidableEq α] {xs ys : List α} (z : α) (h : xs.length = ys.length) : rall (fun j => decide (xs.getD j z = ys.getD j z)) 0 xs.length = decide (xs = ys) := by
  rw [Bool.eq_iff_iff, rall_iff, decide_eq_true_eq]
  constructor
  · exact fun hh => eq_index z h (fun j hj => by simpa using hh j (Nat.zero_le _) (by omega))
  · rintro rfl j _ _
    simp

/-- A copy, element by element. -/
theorem copy_ev {α β : Type} (F : Nat → List β → Nat → Option (List β)) (xs : List α) (c : α → β) (z : α) (zb : β)
    (hs : ∀ i ys r, ys.length = xs.length → i < xs.length → Ev (fun k => F k (ys.set i (c (xs.getD i z))) (i + 1)) r → Ev (fun k => F k ys i) r)
    (he : ∀ ys, ys.length = xs.length → Ev (fun k => F k ys xs.length) ys) (ys0 : List β) (h0 : ys0.length = xs.length) : Ev (fun k => F k ys0 0) (xs.map c) := by
  have inv : ∀ i (s : List β), (s.length = xs.length ∧ ∀ j, j < i → s.getD j zb = (xs.map c).getD j zb) → i < xs.length → ((s.set i (c (xs.getD i z))).length = xs.length ∧ ∀ j, j < i + 1 → (s.set i (c (xs.getD i z))).getD j zb = (xs.map c).getD j zb) := by
    intro i s hI hi
    refine ⟨by simp [hI.1], fun j hj => ?_⟩
    by_cases e : j = i
    · subst e
      have := hI.1
      simp [List.getD, List.getElem?_set_self (show j < s.length by omega), List.getElem?_eq_getElem hi]
    · rw [← hI.2 j (by omega)]
      simp [List.getD, List.getElem?_set_ne (Ne.symm e)]
  have h := loop_ev F xs.length (fun i ys => ys.set i (c (xs.getD i z))) (fun ys => ys) (fun i s => s.length = xs.length ∧ ∀ j, j < i → s.getD j zb = (xs.map c).getD j zb)
    (fun i ys r hI hi h => hs i ys r hI.1 hi h) inv (fun ys hI => he ys hI.1) 0 ys0 (Nat.zero_le _) ⟨h0, fun j hj => by omega⟩
  have hi := iter_inv (fun i (ys : List β) => ys.set i (c (xs.getD i z))) (fun i s => s.length = xs.length ∧ ∀ j, j < i → s.getD j zb = (xs.map c).getD j zb) xs.length inv (xs.length - 0) 0 ys0 (by omega) ⟨h0, fun j hj => by omega⟩
  rw [eq_index zb (by rw [hi.1, List.length_map]) (fun j hj => hi.2 j (by have := hi.1; omega))] at h
  exact h
/-- A loop that ends: at each index it goes on with some state, or it answers. -/
theorem ends_ev {σ ρ : Type} (F : Nat → σ → Nat → Option ρ) (n : Nat) (hs : ∀ i s, i < n → (∃ s', ∀ r, Ev (fun k => F k s' (i + 1)) r → Ev (fun k => F k s i) r) ∨ ∃ r, Ev (fun k => F k s i) r)
    (he : ∀ s, ∃ r, Ev (fun k => F k s n) r) : ∀ i s, i ≤ n → ∃ r, Ev (fun k => F k s i) r := by
  have key : ∀ d i s, n - i = d → i ≤ n → ∃ r, Ev (fun k => F k s i) r := by
    intro d
    induction d with
    | zero =>
      intro i s h0 h1
      obtain rfl : i = n := by omega
      exact he s
    | succ d ih =>
      intro i s h0 h1
      rcases hs i s (by omega) with ⟨s', h⟩ | h
      · obtain ⟨r, hr⟩ := ih (i + 1) s' (by omega) (by omega)
        exact ⟨r, h r hr⟩
      · exact h
  exact fun i s h1 => key (n - i) i s rfl h1
theorem tmod_next {i n : Nat} (hi : i < n) : Int.tmod ((i : Int) + 1) (n : Int) = (((i + 1) % n : Nat) : Int) := by
  rw [Int.tmod_eq_emod_of_nonneg (by omega)]
  rfl

/-- The first of d indices from i on at which p holds, or -1. -/
def fidx (p : Nat → Bool) : Nat → Nat → Int
  | _, 0 => -1
  | i, d + 1 => if p i = true then (i : Int) else fidx p (i + 1) d
theorem fidx_nonneg (p : Nat → Bool) : ∀ d i, decide (fidx p i d ≥ 0) = !rall (fun j => !p j) i d
  | 0, i => rfl
  | d + 1, i => by
    have h := fidx_nonneg p d (i + 1)
    show decide ((if p i = true then (i : Int) else fidx p (i + 1) d) ≥ 0) = !((!p i) && rall (fun j => !p j) (i + 1) d)
    cases e : p i with
    | true => simp
    | false => simpa using h
theorem find_ev (F : Nat → Nat → Option Int) (n : Nat) (p : Nat → Bool) (hs : ∀ i r, i < n → p i = false → Ev (fun k => F k (i + 1)) r → Ev (fun k => F k i) r) (hx : ∀ i, i < n → p i = true → Ev (fun k => F k i) (i : Int))
    (he : Ev (fun k => F k n) (-1)) : Ev (fun k => F k 0) (fidx p 0 n) := by
  have key : ∀ d i, n - i = d → i ≤ n → Ev (fun k => F k i) (fidx p i d) := by
    intro d
    induction d with
    | zero =>
      intro i h0 h1
      obtain rfl : i = n := by omega
      exact he
    | succ d ih =>
      intro i h0 h1
      show Ev (fun k => F k i) (if p i = true then (i : Int) else fidx p (i + 1) d)
      cases e : p i with
      | true => rw [if_pos rfl]; exact hx i (by omega) e
      | false => rw [if_neg (by simp)]; exact hs i _ (by omega) e (ih (i + 1) (by omega) (by omega))
  exact key n 0 (by omega) (Nat.zero_le _)
theorem ev_ite {α : Type} {f g : Nat → Option α} {a b : α} {c : Bool} (h : c = true → Ev f a) (k : c = false → Ev g b) : Ev (fun n => if c = true then f n else g n) (if c = true then a else b) := by
  cases c with
  | true => exact h rfl
  | false => exact k rfl

theorem iter_add {σ : Type} (g : Nat → σ → σ) : ∀ a i b s, iter g i (a + b) s = iter g (i + a) b (iter g i a s) := by
  intro a
  induction a with
  | zero => intro i b s; rw [Nat.zero_add]; rfl
  | succ a ih =>
    intro i b s
    rw [show a + 1 + b = (a + b) + 1 by omega]
    show iter g (i + 1) (a + b) (g i s) = _
    rw [ih (i + 1) b (g i s)]
    show _ = iter g (i + (a + 1)) b (iter g (i + 1) a (g i s))
    rw [show i + 1 + a = i + (a + 1) by omega]
theorem iter_congr {σ : Type} {g h : Nat → σ → σ} : ∀ d i s, (∀ j s, i ≤ j → j < i + d → g j s = h j s) → iter g i d s = iter h i d s := by
  intro d
  induction d with
  | zero => intro i s _; rfl
  | succ d ih =>
    intro i s hh
    show iter g (i + 1) d (g i s) = iter h (i + 1) d (h i s)
    rw [hh i s (Nat.le_refl _) (by omega)]
    exact ih (i + 1) _ (fun j s h1 h2 => hh j s (by omega) (by omega))
/-- Rows of w cells, one behind the other: the rounds of two loops are the rounds of one. -/
theorem grid_ev {σ ρ : Type} (F0 : Nat → σ → Nat → Option ρ) (F1 : Nat → σ → Nat → Nat → Option ρ) (w h : Nat) (g : Nat → σ → σ) (fin : σ → ρ) (I : Nat → σ → Prop)
    (hout : ∀ y s r, I (y * w) s → y < h → Ev (fun k => F1 k s y 0) r → Ev (fun k => F0 k s y) r)
    (hin : ∀ y x s r, I (y * w + x) s → y < h → x < w → Ev (fun k => F1 k (g (y * w + x) s) y (x + 1)) r → Ev (fun k => F1 k s y x) r)
    (hI : ∀ y x s, I (y * w + x) s → y < h → x < w → I (y * w + (x + 1)) (g (y * w + x) s))
    (hrow : ∀ y s r, I (y * w + w) s → y < h → Ev (fun k => F0 k s (y + 1)) r → Ev (fun k => F1 k s y w) r)
    (hend : ∀ s, I (h * w) s → Ev (fun k => F0 k s h) (fin s)) : ∀ s, I 0 s → Ev (fun k => F0 k s 0) (fin (iter g 0 (h * w) s)) := by
  have row : ∀ d y x s r, w - x = d → x ≤ w → y < h → I (y * w + x) s → Ev (fun k => F0 k (iter g (y * w + x) d s) (y + 1)) r → Ev (fun k => F1 k s y x) r := by
    intro d
    induction d with
    | zero =>
      intro y x s r h0 h1 h2 h3 h4
      obtain rfl : x = w := by omega
      exact hrow y s r h3 h2 h4
    | succ d ih =>
      intro y x s r h0 h1 h2 h3 h4
      exact hin y x s r h3 h2 (by omega) (ih y (x + 1) _ r (by omega) (by omega) h2 (hI y x s h3 h2 (by omega)) h4)
  have rowI : ∀ d y x s, w - x = d → x ≤ w → y < h → I (y * w + x) s → I (y * w + w) (iter g (y * w + x) d s) := by
    intro d
    induction d with
    | zero =>
      intro y x s h0 h1 h2 h3
      obtain rfl : x = w := by omega
      exact h3
    | succ d ih =>
      intro y x s h0 h1 h2 h3
      exact ih y (x + 1) _ (by omega) (by omega) h2 (hI y x s h3 h2 (by omega))
  have key : ∀ d y s, h - y = d → y ≤ h → I (y * w) s → Ev (fun k => F0 k s y) (fin (iter g (y * w) (d * w) s)) := by
    intro d
    induction d with
    | zero =>
      intro y s h0 h1 h2
      obtain rfl : y = h := by omega
      rw [Nat.zero_mul]
      exact hend s h2
    | succ d ih =>
      intro y s h0 h1 h2
      have hb := rowI w y 0 s (by omega) (Nat.zero_le _) (by omega) h2
      have e1 : y * w + w = (y + 1) * w := by rw [Nat.add_mul, Nat.one_mul]
      rw [Nat.add_zero] at hb
      rw [e1] at hb
      have hk := ih (y + 1) _ (by omega) (by omega) hb
      rw [show (d + 1) * w = w + d * w by rw [Nat.add_mul, Nat.one_mul]; omega, iter_add, e1]
      exact hout y s _ h2 (by omega) (row w y 0 s _ (by omega) (Nat.zero_le _) (by omega) h2 hk)
  intro s h0
  have hk := key h 0 s (by omega) (Nat.zero_le _) (by rw [Nat.zero_mul]; exact h0)
  rw [Nat.zero_mul] at hk
  exact hk

end Go.Proofs.Ytfiijdiccjapiaa.Pure
/- 'Within' of the program and of the reference: the same test. No conditions. -/
namespace Go.Proofs.Ytfiijdiccjapiaa.Pure
set_option linter.unusedVariables false
set_option linter.unusedSimpArgs false
open Go.RowKit Go.Proofs.Ytfiijdiccjapiaa.P Go.Proofs.YtfiijdiccjapiaaW.PrintWords Go.Proofs.YtfiijdiccjapiaaW.PrintLast
def inb (x a b : Int) : Bool := decide (a ≤ x) && decide (x ≤ b)
theorem inb_iff {x a b : Int} : inb x a b = true ↔ a ≤ x ∧ x ≤ b := by simp [inb]
theorem l1In_is (x a b : Int) : spec_l1In.f x a b = some (inb x a b) := by
  unfold spec_l1In.f inb
  split
  · rename_i h; simp [show a ≤ x from h]
  · rename_i h; simp [show ¬ a ≤ x from h]
theorem within_is (x a b : Int) : impl_within.f x a b = some (inb x a b) := l1In_is x a b
end Go.Proofs.Ytfiijdiccjapiaa.Pure
/- What the laws' helpers for lists of whole numbers come to: a copy is the list, equality is equality. No conditions. -/
namespace Go.Proofs.Ytfiijdiccjapiaa.Pure
set_option linter.unusedVariables false
set_option linter.unusedSimpArgs false
open Go.RowKit Go.Proofs.Ytfiijdiccjapiaa.P Go.Proofs.YtfiijdiccjapiaaW.PrintWords Go.Proofs.YtfiijdiccjapiaaW.PrintLast

theorem toIntS_ev (xs : List Int) (hm : xs.length ≤ 35184372088832) : Ev (fun k => laws_toIntS.f k xs) xs := by
  have h := loop_ev (fun k ys i => laws_toIntS.l0 k xs ys (i : Int)) xs.length (fun i ys => ys.set i (xs.getD i 0)) (fun ys => ys)
    (fun i ys => ys.length = xs.length ∧ ∀ j, j < i → ys.getD j 0 = xs.getD j 0)
    (fun i ys r hI hi h => ev_step (fun k => by
      show laws_toIntS.l0 (k + 1) xs ys (i : Int) = laws_toIntS.l0 k xs (ys.set i (xs.getD i 0)) ((i + 1 : Nat) : Int)
      have hl := hI.1
      simp only [laws_toIntS.l0]
      rw [if_pos (by omega), if_pos (by omega), if_pos (by omega), w64 (by omega) (by omega), rd_nat]
      simp) h)
    (fun i ys hI hi => ⟨by simp [hI.1], fun j hj => by
      by_cases e : j = i
      · subst e
        have := hI.1
        simp [List.getD, List.getElem?_set_self (show j < ys.length by omega)]
      · have := hI.2 j (by omega)
        rw [← this]
        simp [List.getD, List.getElem?_set_ne (Ne.symm e)]⟩)
    (fun ys hI => ev_step (f := fun _ => some ys) (fun k => by
      simp only [laws_toIntS.l0]
      rw [if_neg (by omega)]) (ev_some _)) 0 (List.replicate xs.length 0) (Nat.zero_le _) ⟨by simp, fun j hj => by omega⟩
  have e : iter (fun i (ys : List Int) => ys.set i (xs.getD i 0)) 0 (xs.length - 0) (List.replicate xs.length 0) = xs := by
    have hi := iter_inv (fun i (ys : List Int) => ys.set i (xs.getD i 0)) (fun i ys => ys.length = xs.length ∧ ∀ j, j < i → ys.getD j 0 = xs.getD j 0) xs.length
      (fun i ys hI hi => ⟨by simp [hI.1], fun j hj => by
        by_cases e : j = i
        · subst e
          have := hI.1
          simp [List.getD, List.getElem?_set_self (show j < ys.length by omega)]
        · have := hI.2 j (by omega)
          rw [← this]
          simp [List.getD, List.getElem?_set_ne (Ne.symm e)]⟩) (xs.length - 0) 0 (List.replicate xs.length 0) (by omega) ⟨by simp, fun j hj => by omega⟩
    exact eq_index 0 hi.1 (fun j hj => hi.2 j (by have := hi.1; omega))
  rw [e] at h
  refine Ev.congr (fun k => ?_) h
  unfold laws_toIntS.f
  rw [if_pos (by omega), if_pos (by omega)]
  simp

theorem eqIntS_ev (xs ys : List Int) (hm : xs.length ≤ 9223372036854775806) : Ev (fun k => laws_eqIntS.f k xs ys) (decide (xs = ys)) := by
  by_cases hl : xs.length = ys.length
  · have h := allb_ev (fun k i => laws_eqIntS.l0 k xs ys (i : Int)) xs.length (fun i => decide (xs.getD i 0 = ys.getD i 0))
      (fun i r hi hp h => ev_step (fun k => by
        simp only [laws_eqIntS.l0]
        rw [if_pos (by omega), if_pos (by omega), if_pos (by omega), rd_nat, rd_nat, if_pos (by simpa using hp), w64 (by omega) (by omega)]
        rfl) h)
      (fun i hi hp => ev_step (f := fun _ => some false) (fun k => by
        simp only [laws_eqIntS.l0]
        rw [if_pos (by omega), if_pos (by omega), if_pos (by omega), rd_nat, rd_nat, if_neg (by simpa using hp)]) (ev_some _))
      (ev_step (f := fun _ => some true) (fun k => by
        simp only [laws_eqIntS.l0]
        rw [if_neg (by omega)]) (ev_some _))
    rw [rall_eq 0 hl] at h
    refine Ev.congr (fun k => ?_) h
    unfold laws_eqIntS.f
    rw [if_pos (by omega)]
    rfl
  · refine Ev.congr (f := fun _ => some false) (fun k => ?_) (by rw [decide_eq_false (fun e => hl (by rw [e]))]; exact ev_some _)
    unfold laws_eqIntS.f
    rw [if_neg (by omega)]
theorem eqIntS_self (xs : List Int) (hm : xs.length ≤ 9223372036854775806) : Ev (fun k => laws_eqIntS.f k xs xs) true := by
  have := eqIntS_ev xs xs hm
  simpa using this

end Go.Proofs.Ytfiijdiccjapiaa.Pure
/- A tally is valid in the program just when it is valid in the reference; copies of tallies; their sizes. No conditions. -/
namespace Go.Proofs.Ytfiijdiccjapiaa.Pure
set_option linter.unusedVariables false
set_option linter.unusedSimpArgs false
open Go.RowKit Go.Proofs.Ytfiijdiccjapiaa.P Go.Proofs.YtfiijdiccjapiaaW.PrintWords Go.Proofs.YtfiijdiccjapiaaW.PrintLast

def tallyOk (c h : List Int) : Bool := decide (c.length = 11) && (decide (h.length = 11) && rall (fun i => inb (c.getD i 0) 0 1000 && inb (h.getD i 0) 0 (c.getD i 0)) 0 11)

theorem tallyOk_iff {c h : List Int} : tallyOk c h = true ↔ c.length = 11 ∧ h.length = 11 ∧ ∀ i, i < 11 → 0 ≤ c.getD i 0 ∧ c.getD i 0 ≤ 1000 ∧ 0 ≤ h.getD i 0 ∧ h.getD i 0 ≤ c.getD i 0 := by
  unfold tallyOk
  rw [Bool.and_eq_true, Bool.and_eq_true, rall_iff, decide_eq_true_eq, decide_eq_true_eq]
  constructor
  · rintro ⟨h1, h2, h3⟩
    refine ⟨h1, h2, fun i hi => ?_⟩
    have := h3 i (Nat.zero_le _) (by omega)
    rw [Bool.and_eq_true, inb_iff, inb_iff] at this
    omega
  · rintro ⟨h1, h2, h3⟩
    refine ⟨h1, h2, fun i _ hi => ?_⟩
    rw [Bool.and_eq_true, inb_iff, inb_iff]
    have := h3 i (by omega)
    omega

theorem l10Good_ev (c h : List Int) : Ev (fun k => spec_l10Good.f k c h) (tallyOk c h) := by
  by_cases h1 : c.length = 11
  · by_cases h2 : h.length = 11
    · have := allb_ev (fun k i => spec_l10Good.l0 k (i : Int) c h) 11 (fun i => inb (c.getD i 0) 0 1000 && inb (h.getD i 0) 0 (c.getD i 0))
        (fun i r hi hp hh => ev_step (fun k => by
          rw [Bool.and_eq_true] at hp
          simp only [spec_l10Good.l0, l1In_is, Option.bind_some, rd_nat]
          rw [if_pos (by omega), if_pos (by omega), if_pos hp.1, if_pos (by omega), if_pos hp.2, w64 (by omega) (by omega)]
          rfl) hh)
        (fun i hi hp => ev_step (f := fun _ => some false) (fun k => by
          simp only [spec_l10Good.l0, l1In_is, Option.bind_some, rd_nat]
          rw [if_pos (by omega), if_pos (by omega)]
          cases e : inb (c.getD i 0) 0 1000 with
          | false => simp
          | true =>
            rw [e, Bool.true_and] at hp
            simp only [hp, if_true]
            rw [if_pos (by omega)]
            simp) (ev_some _))
        (ev_step (f := fun _ => some true) (fun k => by
          simp only [spec_l10Good.l0]
          rw [if_neg (by omega)]) (ev_some _))
      have e : tallyOk c h = rall (fun i => inb (c.getD i 0) 0 1000 && inb (h.getD i 0) 0 (c.getD i 0)) 0 11 := by simp [tallyOk, h1, h2]
      rw [e]
      refine Ev.congr (f := fun k => spec_l10Good.j0 k false c h) (fun k => ?_) (ev_step (f := fun k => spec_l10Good.l0 k 0 c h) (fun k => by simp [spec_l10Good.j0]) this)
      unfold spec_l10Good.f
      rw [if_pos (by omega)]
      simp [h2]
    · have e : tallyOk c h = false := by simp [tallyOk, h2]
      rw [e]
      refine Ev.congr (f := fun k => spec_l10Good.j0 k true c h) (fun k => ?_) (ev_step (f := fun k => some false) (fun k => by simp [spec_l10Good.j0]) (ev_some _))
      unfold spec_l10Good.f
      rw [if_pos (by omega), show ((h.length : Int) != 11) = true by rw [bne_iff_ne]; omega]
  · have e : tallyOk c h = false := by simp [tallyOk, h1]
    rw [e]
    refine Ev.congr (f := fun k => spec_l10Good.j0 k true c h) (fun k => ?_) (ev_step (f := fun k => some false) (fun k => by simp [spec_l10Good.j0]) (ev_some _))
    unfold spec_l10Good.f
    rw [if_neg (by omega)]

theorem isValidTally_ev (c h : List Int) : Ev (fun k => impl_IsValidTally.f k c h) (tallyOk c h) := by
  by_cases h1 : c.length = 11
  · by_cases h2 : h.length = 11
    · have := allb_ev (fun k i => impl_IsValidTally.l0 k c (c.length : Int) (i : Int) c h) 11 (fun i => inb (c.getD i 0) 0 1000 && inb (h.getD i 0) 0 (c.getD i 0))
        (fun i r hi hp hh => ev_step (fun k => by
          rw [Bool.and_eq_true] at hp
          simp only [impl_IsValidTally.l0, within_is, Option.bind_some, rd_nat]
          rw [if_pos (by omega), if_pos (by omega), if_pos (by omega), if_pos hp.1, if_pos (by omega), if_pos hp.2, w64 (by omega) (by omega)]
          rfl) hh)
        (fun i hi hp => ev_step (f := fun _ => some false) (fun k => by
          simp only [impl_IsValidTally.l0, within_is, Option.bind_some, rd_nat]
          rw [if_pos (by omega), if_pos (by omega), if_pos (by omega)]
          cases e : inb (c.getD i 0) 0 1000 with
          | false => simp
          | true =>
            rw [e, Bool.true_and] at hp
            simp only [hp, if_true]
            rw [if_pos (by omega)]
            simp) (ev_some _))
        (ev_step (f := fun _ => some true) (fun k => by
          simp only [impl_IsValidTally.l0]
          rw [if_neg (by omega)]) (ev_some _))
      have e : tallyOk c h = rall (fun i => inb (c.getD i 0) 0 1000 && inb (h.getD i 0) 0 (c.getD i 0)) 0 11 := by simp [tallyOk, h1, h2]
      rw [e]
      refine Ev.congr (f := fun k => impl_IsValidTally.j0 k false c h) (fun k => ?_) (ev_step (f := fun k => impl_IsValidTally.l0 k c (c.length : Int) 0 c h) (fun k => by simp [impl_IsValidTally.j0]) this)
      unfold impl_IsValidTally.f
      rw [if_pos (by omega)]
      simp [h2]
    · have e : tallyOk c h = false := by simp [tallyOk, h2]
      rw [e]
      refine Ev.congr (f := fun k => impl_IsValidTally.j0 k true c h) (fun k => ?_) (ev_step (f := fun k => some false) (fun k => by simp [impl_IsValidTally.j0]) (ev_some _))
      unfold impl_IsValidTally.f
      rw [if_pos (by omega), show ((h.length : Int) != 11) = true by rw [bne_iff_ne]; omega]
  · have e : tallyOk c h = false := by simp [tallyOk, h1]
    rw [e]
    refine Ev.congr (f := fun k => impl_IsValidTally.j0 k true c h) (fun k => ?_) (ev_step (f := fun k => some false) (fun k => by simp [impl_IsValidTally.j0]) (ev_some _))
    unfold impl_IsValidTally.f
    rw [if_neg (by omega)]

theorem toTally_ev (c h : List Int) (hc : c.length ≤ 35184372088832) (hh : h.length ≤ 35184372088832) : Ev (fun k => laws_toTally.f k c h) (c, h) :=
  ev_bind (toIntS_ev c hc) (ev_bind (toIntS_ev h hh) (ev_some _))
theorem eqTally_ev (c h c' h' : List Int) (hc : c.length ≤ 9223372036854775806) (hh : h.length ≤ 9223372036854775806) : Ev (fun k => laws_eqTally.f k c h c' h') (decide (c = c') && decide (h = h')) := by
  unfold laws_eqTally.f
  refine ev_bind (eqIntS_ev c c' hc) ?_
  by_cases e : c = c'
  · rw [decide_eq_true e, Bool.true_and]
    refine ev_ifp rfl (ev_bind (eqIntS_ev h h' hh) ?_)
    by_cases e' : h = h'
    · rw [decide_eq_true e']; exact ev_ifp rfl (ev_some _)
    · rw [decide_eq_false e']; exact ev_ifn (by simp) (ev_some _)
  · rw [decide_eq_false e, Bool.false_and]
    exact ev_ifn (by simp) (ev_some _)
theorem eqTally_self (c h : List Int) (hc : c.length ≤ 9223372036854775806) (hh : h.length ≤ 9223372036854775806) : Ev (fun k => laws_eqTally.f k c h c h) true := by
  have := eqTally_ev c h c h hc hh
  simpa using this

theorem szIntS_is (l : List Int) (a : Int) (ha : 0 ≤ a) (ha2 : a ≤ 1048576) (hl : l.length ≤ 9223372036854775807) : laws_szIntS.f l a = some (if a < l.length then -1 else a - l.length) := by
  unfold laws_szIntS.f
  rw [w64 (by omega) (by omega)]
  split
  · rw [if_pos (by omega)]
  · rw [if_neg (by omega)]
/-- The law's guard on a tally's size: too large, or both lists short. -/
theorem szTally_is (c h : List Int) (hc : c.length ≤ 9223372036854775807) (hh : h.length ≤ 9223372036854775807) :
    (∃ r, laws_szTally.f c h 1048576 = some r ∧ r < 0) ∨ ∃ r, laws_szTally.f c h 1048576 = some r ∧ ¬ r < 0 ∧ c.length ≤ 1048576 ∧ h.length ≤ 1048576 := by
  unfold laws_szTally.f
  rw [szIntS_is c _ (by omega) (by omega) hc]
  by_cases h1 : (1048576 : Int) < c.length
  · rw [if_pos h1]
    exact .inl ⟨-1, by simp, by omega⟩
  · rw [if_neg h1, Option.bind_some, if_neg (by omega), szIntS_is h _ (by omega) (by omega) hh]
    by_cases h2 : (1048576 : Int) - c.length < h.length
    · rw [if_pos h2]
      exact .inl ⟨-1, by simp, by omega⟩
    · rw [if_neg h2, Option.bind_some, if_neg (by omega)]
      exact .inr ⟨_, rfl, by omega, by omega, by omega⟩
end Go.Proofs.Ytfiijdiccjapiaa.Pure
/- A case added to a tally; two tallies added up: one answer in the program and in the reference. No conditions but that the lists are no longer than a machine allows. -/
namespace Go.Proofs.Ytfiijdiccjapiaa.Pure
set_option linter.unusedVariables false
set_option linter.unusedSimpArgs false
open Go.RowKit Go.Proofs.Ytfiijdiccjapiaa.P Go.Proofs.YtfiijdiccjapiaaW.PrintWords Go.Proofs.YtfiijdiccjapiaaW.PrintLast
theorem l1Own_is (l : List Int) (h : l.length < 17592186044416) : spec_l1Own.f l = some l := by
  unfold spec_l1Own.f
  simp [h]
theorem clone_is (l : List Int) (h : l.length < 17592186044416) : slices_Clone_int_int.f l = some l := by
  unfold slices_Clone_int_int.f
  rw [if_pos h]
theorem l10Own_is (c h : List Int) (hc : c.length < 17592186044416) (hh : h.length < 17592186044416) : spec_l10Own.f c h = some (c, h) := by
  unfold spec_l10Own.f
  rw [l1Own_is c hc, Option.bind_some, l1Own_is h hh, Option.bind_some]
theorem cloneTally_is (c h : List Int) (hc : c.length < 17592186044416) (hh : h.length < 17592186044416) : impl_cloneTally.f c h = some (c, h) := by
  unfold impl_cloneTally.f
  rw [clone_is c hc, Option.bind_some, clone_is h hh, Option.bind_some]
/-- A tally, if it is valid. -/
def checked (c h : List Int) : List Int × List Int × Bool := if tallyOk c h = true then (c, h, true) else ([], [], false)
theorem checkedTally_ev (c h : List Int) : Ev (fun k => impl_checkedTally.f k c h) (checked c h) :=
  ev_bind (isValidTally_ev c h) (ev_ite (fun _ => ev_some _) (fun _ => ev_some _))
theorem checked_len (c h : List Int) (n : Nat) (hc : c.length ≤ n) (hh : h.length ≤ n) : (checked c h).1.length ≤ n ∧ (checked c h).2.1.length ≤ n := by
  unfold checked
  split <;> simp [hc, hh]
def addCase (c h : List Int) (x : Int) (b : Bool) : List Int × List Int × Bool :=
  if tallyOk c h = true then (if inb x 0 10 = true then checked (c.set x.toNat (wrap64 (rd c x + 1))) (if b = true then h.set x.toNat (wrap64 (rd h x + 1)) else h) else ([], [], false)) else ([], [], false)
theorem addCase_len (c h : List Int) (x : Int) (b : Bool) (n : Nat) (hc : c.length ≤ n) (hh : h.length ≤ n) : (addCase c h x b).1.length ≤ n ∧ (addCase c h x b).2.1.length ≤ n := by
  unfold addCase
  split
  · split
    · exact checked_len _ _ n (by simpa using hc) (by split <;> simp [hh])
    · simp
  · simp
theorem addCase_impl (c h : List Int) (x : Int) (b : Bool) : Ev (fun k => impl_AddCase.f k c h x b) (addCase c h x b) := by
  have no : Ev (fun k => impl_AddCase.j0 k x b true c h) ([], [], false) := ev_step (fun k => impl_AddCase.j0.eq_2 _ _ _ _ _ k) (ev_ifp rfl (ev_some _))
  unfold impl_AddCase.f addCase
  refine ev_bind (isValidTally_ev c h) (ev_ite (fun ok => ?_) (fun _ => no))
  refine ev_bind (ev_const (within_is x 0 10)) ?_
  obtain ⟨hc, hh, _⟩ := tallyOk_iff.1 ok
  cases e : inb x 0 10 with
  | false => exact no
  | true =>
    rw [inb_iff] at e
    rw [if_pos rfl]
    refine ev_step (fun k => impl_AddCase.j0.eq_2 _ _ _ _ _ k) (ev_ifn (by simp) ?_)
    refine ev_bind (ev_const (cloneTally_is c h (by omega) (by omega))) ?_
    refine ev_ifp (by omega) (ev_ifp (by show x < (c.length : Int); omega) (ev_bind (ev_some _) ?_))
    cases b with
    | true => exact ev_ifp rfl (ev_ifp (by show x < (h.length : Int); omega) (ev_bind (checkedTally_ev _ _) (ev_some _)))
    | false => exact ev_ifn (by simp) (ev_bind (checkedTally_ev _ _) (ev_some _))
theorem addCase_spec (c h : List Int) (x : Int) (b : Bool) : Ev (fun k => spec_AddCase.f k c h x b) (addCase c h x b) := by
  have no : Ev (fun k => spec_AddCase.j0 k x b true c h) ([], [], false) := ev_step (fun k => spec_AddCase.j0.eq_2 _ _ _ _ _ k) (ev_ifp rfl (ev_some _))
  unfold spec_AddCase.f addCase
  refine ev_bind (l10Good_ev c h) (ev_ite (fun ok => ?_) (fun _ => no))
  refine ev_bind (ev_const (show spec_l10Class.f x = some (inb x 0 10) by unfold spec_l10Class.f; rw [l1In_is]; rfl)) ?_
  obtain ⟨hc, hh, _⟩ := tallyOk_iff.1 ok
  cases e : inb x 0 10 with
  | false => exact no
  | true =>
    rw [inb_iff] at e
    rw [if_pos rfl]
    refine ev_step (fun k => spec_AddCase.j0.eq_2 _ _ _ _ _ k) (ev_ifn (by simp) ?_)
    refine ev_bind (ev_const (l10Own_is c h (by omega) (by omega))) ?_
    refine ev_ifp (by omega) (ev_ifp (by show x < (c.length : Int); omega) (ev_bind (ev_some _) ?_))
    cases b with
    | true => exact ev_ifp rfl (ev_ifp (by show x < (h.length : Int); omega) (ev_bind (ev_some _) (ev_bind (l10Good_ev _ _) (ev_ite (fun _ => ev_some _) (fun _ => ev_some _)))))
    | false => exact ev_ifn (by simp) (ev_bind (l10Good_ev _ _) (ev_ite (fun _ => ev_some _) (fun _ => ev_some _)))
theorem addCase_both (c h : List Int) (x : Int) (b : Bool) (n : Nat) (hc : c.length ≤ n) (hh : h.length ≤ n) :
    ∃ r, Ev (fun k => spec_AddCase.f k c h x b) r ∧ Ev (fun k => impl_AddCase.f k c h x b) r ∧ r.1.length ≤ n ∧ r.2.1.length ≤ n :=
  ⟨_, addCase_spec c h x b, addCase_impl c h x b, addCase_len c h x b n hc hh⟩
end Go.Proofs.Ytfiijdiccjapiaa.Pure
/- What the laws' marks come to: a row that is written with numbers rising from a is held by the same count. No conditions. -/
namespace Go.Proofs.Ytfiijdiccjapiaa.Pure
set_option linter.unusedVariables false
set_option linter.unusedSimpArgs false
open Go.RowKit Go.Proofs.Ytfiijdiccjapiaa.P Go.Proofs.YtfiijdiccjapiaaW.PrintWords Go.Proofs.YtfiijdiccjapiaaW.PrintLast
/-- n numbers rising from a. -/
def cnt (a : Int) (n : Nat) : List Int := (List.range n).map (fun i : Nat => a + (i : Int))
theorem cnt_length (a : Int) (n : Nat) : (cnt a n).length = n := by simp [cnt]
theorem cnt_getD (a : Int) (n i : Nat) (h : i < n) : (cnt a n).getD i 0 = a + i := by simp [cnt, List.getD, h]
theorem markIntS_ev (l : List Int) (a : Int) (h0 : 0 ≤ a) (h1 : a + l.length ≤ 9223372036854775806) : Ev (fun k => laws_markIntS.f k l a) (a + l.length, cnt a l.length) := by
  have h := loop_ev (fun k s i => laws_markIntS.l0 k s (a + (i : Int)) (i : Int)) l.length (fun i s => s.set i (a + i)) (fun s => (a + (l.length : Int), s))
    (fun i s => s.length = l.length ∧ ∀ j, j < i → s.getD j 0 = a + j)
    (fun i s r hI hi h => ev_step (fun k => by
      show laws_markIntS.l0 (k + 1) s (a + (i : Int)) (i : Int) = laws_markIntS.l0 k (s.set i (a + i)) (a + ((i + 1 : Nat) : Int)) ((i + 1 : Nat) : Int)
      have := hI.1
      simp only [laws_markIntS.l0]
      rw [if_pos (by omega), if_pos (by omega), w64 (by omega) (by omega), w64 (by omega) (by omega)]
      simp [Int.add_assoc]) h)
    (fun i s hI hi => ⟨by simp [hI.1], fun j hj => by
      by_cases e : j = i
      · subst e
        have := hI.1
        simp [List.getD, List.getElem?_set_self (show j < s.length by omega)]
      · have := hI.2 j (by omega)
        rw [← this]
        simp [List.getD, List.getElem?_set_ne (Ne.symm e)]⟩)
    (fun s hI => ev_step (f := fun _ => some (a + (l.length : Int), s)) (fun k => by
      have := hI.1
      simp only [laws_markIntS.l0]
      rw [if_neg (by omega)]) (ev_some _)) 0 l (Nat.zero_le _) ⟨rfl, fun j hj => by omega⟩
  have e : iter (fun i (s : List Int) => s.set i (a + i)) 0 (l.length - 0) l = cnt a l.length := by
    have hi := iter_inv (fun i (s : List Int) => s.set i (a + i)) (fun i s => s.length = l.length ∧ ∀ j, j < i → s.getD j 0 = a + j) l.length
      (fun i s hI hi => ⟨by simp [hI.1], fun j hj => by
        by_cases e : j = i
        · subst e
          have := hI.1
          simp [List.getD, List.getElem?_set_self (show j < s.length by omega)]
        · have := hI.2 j (by omega)
          rw [← this]
          simp [List.getD, List.getElem?_set_ne (Ne.symm e)]⟩) (l.length - 0) 0 l (by omega) ⟨rfl, fun j hj => by omega⟩
    exact eq_index 0 (by rw [hi.1, cnt_length]) (fun j hj => by rw [hi.2 j (by have := hi.1; omega), cnt_getD a _ j (by have := hi.1; omega)])
  rw [e] at h
  refine Ev.congr (fun k => ?_) h
  unfold laws_markIntS.f
  simp
theorem heldIntS_ev (a : Int) (n : Nat) (h0 : 0 ≤ a) (h1 : a + n ≤ 9223372036854775806) : Ev (fun k => laws_heldIntS.f k (cnt a n) a) (a + n) := by
  have h := loop_ev (σ := Unit) (fun k _ i => laws_heldIntS.l0 k (cnt a n) (a + (i : Int)) (i : Int)) n (fun _ _ => ()) (fun _ => a + (n : Int)) (fun _ _ => True)
    (fun i s r _ hi h => ev_step (fun k => by
      show laws_heldIntS.l0 (k + 1) (cnt a n) (a + (i : Int)) (i : Int) = laws_heldIntS.l0 k (cnt a n) (a + ((i + 1 : Nat) : Int)) ((i + 1 : Nat) : Int)
      simp only [laws_heldIntS.l0, cnt_length, rd_nat, cnt_getD a n i hi]
      rw [if_pos (by omega), if_pos (by omega), if_pos trivial, w64 (by omega) (by omega), w64 (by omega) (by omega)]
      simp [Int.add_assoc]) h)
    (fun _ _ _ _ => trivial)
    (fun _ _ => ev_step (f := fun _ => some (a + (n : Int))) (fun k => by
      simp only [laws_heldIntS.l0, cnt_length]
      rw [if_neg (by omega)]) (ev_some _)) 0 () (Nat.zero_le _) trivial
  refine Ev.congr (fun k => ?_) h
  unfold laws_heldIntS.f
  simp
end Go.Proofs.Ytfiijdiccjapiaa.Pure
/- The marks of a tally's rows. No conditions. -/
namespace Go.Proofs.Ytfiijdiccjapiaa.Pure
set_option linter.unusedVariables false
set_option linter.unusedSimpArgs false
open Go.RowKit Go.Proofs.Ytfiijdiccjapiaa.P Go.Proofs.YtfiijdiccjapiaaW.PrintWords Go.Proofs.YtfiijdiccjapiaaW.PrintLast
theorem markTally_ev (c h : List Int) (a : Int) (h0 : 0 ≤ a) (h1 : a + c.length + h.length ≤ 9223372036854775806) : Ev (fun k => laws_markTally.f k c h a) (a + c.length + h.length, cnt a c.length, cnt (a + c.length) h.length) :=
  ev_bind (markIntS_ev c a h0 (by omega)) (ev_bind (markIntS_ev h (a + c.length) (by omega) (by omega)) (ev_some _))
theorem heldTally_ev (n m : Nat) (a : Int) (h0 : 0 ≤ a) (h1 : a + n + m ≤ 9223372036854775806) : Ev (fun k => laws_heldTally.f k (cnt a n) (cnt (a + n) m) a) (a + n + m) :=
  ev_bind (heldIntS_ev a n h0 (by omega)) (ev_ifn (by omega) (ev_bind (heldIntS_ev (a + n) m (by omega) (by omega)) (ev_ifn (by omega) (ev_some _))))
theorem szTally_go (c h : List Int) (s : Int) (hs : 0 ≤ s) (hs2 : s ≤ 1048576) (hl : c.length ≤ 9223372036854775807 ∧ h.length ≤ 9223372036854775807) :
    (∃ r, laws_szTally.f c h s = some r ∧ r < 0) ∨ ∃ r, laws_szTally.f c h s = some r ∧ ¬ r < 0 ∧ 0 ≤ r ∧ r ≤ s ∧ (c.length : Int) + h.length ≤ s := by
  unfold laws_szTally.f
  rw [szIntS_is c _ hs hs2 hl.1]
  by_cases h1 : s < c.length
  · rw [if_pos h1]
    exact .inl ⟨-1, by simp, by omega⟩
  · rw [if_neg h1, Option.bind_some, if_neg (by omega), szIntS_is h _ (by omega) (by omega) hl.2]
    by_cases h2 : s - c.length < h.length
    · rw [if_pos h2]
      exact .inl ⟨-1, by simp, by omega⟩
    · rw [if_neg h2, Option.bind_some, if_neg (by omega)]
      exact .inr ⟨_, rfl, by omega, by omega, by omega, by omega⟩
end Go.Proofs.Ytfiijdiccjapiaa.Pure
/- The program's AddCase returns what the reference's AddCase returns, for all arguments; no conditions. -/
namespace Go.Proofs.Ytfiijdiccjapiaa.Pure
set_option linter.unusedVariables false
set_option linter.unusedSimpArgs false
open Go.RowKit Go.Proofs.Ytfiijdiccjapiaa.P Go.Proofs.YtfiijdiccjapiaaW.PrintWords Go.Proofs.YtfiijdiccjapiaaW.PrintLast
theorem FnExactAddCase : laws_FnExactAddCase.Pure := by
  intro c h x b hl hm hx
  refine Ev.rounds ?_
  unfold laws_FnExactAddCase.f
  rcases szTally_go c h 1048576 (by first | omega | (dsimp only; omega) | (simp; omega)) (by first | omega | (dsimp only; omega) | (simp; omega)) (⟨hl.1, hm.1⟩) with ⟨rz1, ez1, hz1⟩ | ⟨rz1, ez1, hz1, hza1, hzb1, hlz1⟩
  · exact ev_bind (ev_const ez1) (ev_ifp hz1 (ev_some _))
  refine ev_bind (ev_const ez1) ?_
  refine ev_ifn hz1 ?_
  obtain ⟨⟨rc, rh, g⟩, hs, hi, hlen1, hlen2⟩ := addCase_both c h x b 1048576 (by omega) (by omega); simp only at hlen1 hlen2
  refine ev_bind (toTally_ev _ _ (by first | omega | (dsimp only; omega) | (simp; omega)) (by first | omega | (dsimp only; omega) | (simp; omega))) ?_
  refine ev_bind hs ?_
  refine ev_bind (toTally_ev _ _ (by first | omega | (dsimp only; omega) | (simp; omega)) (by first | omega | (dsimp only; omega) | (simp; omega))) ?_
  refine ev_bind hi ?_
  refine ev_bind (eqTally_self _ _ (by first | omega | (dsimp only; omega) | (simp; omega)) (by first | omega | (dsimp only; omega) | (simp; omega))) ?_
  refine ev_ifp rfl ?_
  refine ev_step (fun k => laws_FnExactAddCase.j0.eq_2 _ _ _ _ _ _ _ _ _ _ _ _ _ k) ?_
  refine ev_ifn (by simp) ?_
  refine ev_bind (toTally_ev _ _ (by first | omega | (dsimp only; omega) | (simp; omega)) (by first | omega | (dsimp only; omega) | (simp; omega))) ?_
  refine ev_bind (eqTally_self _ _ (by first | omega | (dsimp only; omega) | (simp; omega)) (by first | omega | (dsimp only; omega) | (simp; omega))) ?_
  refine ev_ifp rfl ?_
  refine ev_bind (markTally_ev _ _ _ (by first | omega | (dsimp only; omega) | (simp; omega)) (by first | omega | (dsimp only; omega) | (simp; omega))) ?_
  refine ev_ifn (by first | (simp; done) | (simp; omega) | omega) ?_
  refine ev_bind (eqTally_self _ _ (by first | omega | (dsimp only; omega) | (simp; omega)) (by first | omega | (dsimp only; omega) | (simp; omega))) ?_
  refine ev_ifp rfl ?_
  refine ev_step (fun k => laws_FnExactAddCase.j1.eq_2 _ _ _ _ _ _ _ _ _ _ k) ?_
  refine ev_ifn (by simp) ?_
  refine ev_bind (markTally_ev _ _ _ (by first | omega | (dsimp only; omega) | (simp; omega)) (by first | omega | (dsimp only; omega) | (simp; omega))) ?_
  refine ev_bind (heldTally_ev _ _ _ (by first | omega | (dsimp only; omega) | (simp; omega)) (by first | omega | (dsimp only; omega) | (simp; omega))) ?_
  refine ev_ifn (by first | (simp; done) | (simp; omega) | omega) ?_
  refine ev_ifp (by first | rfl | (simp; done)) ?_
  refine ev_bind (toTally_ev _ _ (by first | omega | (dsimp only; omega) | (simp; omega)) (by first | omega | (dsimp only; omega) | (simp; omega))) ?_
  refine ev_bind hi ?_
  refine ev_bind (eqTally_self _ _ (by first | omega | (dsimp only; omega) | (simp; omega)) (by first | omega | (dsimp only; omega) | (simp; omega))) ?_
  refine ev_ifp rfl ?_
  refine ev_step (fun k => laws_FnExactAddCase.j2.eq_2 _ _ _ _ k) ?_
  refine ev_ifn (by simp) ?_
  refine ev_bind (heldTally_ev _ _ _ (by first | omega | (dsimp only; omega) | (simp; omega)) (by first | omega | (dsimp only; omega) | (simp; omega))) ?_
  refine ev_ifn (by first | (simp; done) | (simp; omega) | omega) ?_
  refine ev_ifp (by first | rfl | (simp; done)) ?_
  exact ev_some _
end Go.Proofs.Ytfiijdiccjapiaa.Pure
/- The law FnExactAddCase answers true whatever its arguments are; no conditions. (Written by mp.py out of the plain law and the walk.) -/
namespace Go.Proofs.Ytfiijdiccjapiaa.fnExactAddCase
open Go.ChangeShapes Go.WideShapes Go.ChangeAt Go.RowKit Go.Proofs.Ytfiijdiccjapiaa.Open Go.Proofs.Ytfiijdiccjapiaa.P Go.Proofs.YtfiijdiccjapiaaW.PrintWords
open Go.ChangeMaps (open_string shut_string)
set_option linter.unusedVariables false
theorem own : ownKnob Try.prog.godebug = none := by kernel_rfl
theorem laidOut : laidOutB Try.prog = true := by kernel_rfl
set_option maxRecDepth 100000 in
theorem lifted (os : Os) (started : os.Started) (H : Type) (enc : TypeId × Value → H) :
    ReturnsInHanded {} Try.checked os 8 .any (Rows.fnExactAddCaseSpec.pre6 enc Try.prog Try.f8 Rows.fnExactAddCaseRow.domain false) (Rows.fnExactAddCaseSpec.post enc Try.prog Try.f8 false true false false) := by
  refine returnsInHanded_of_change_sized (C := Try.checked) own started (by kernel_rfl) Try.func8
    (ChangeSpec.witness6 (enc := enc) (C := Try.checked) false ⟨#[], #[.agg #[.slice none 0 0, .slice none 0 0], .int .i64 0, .bool false], []⟩ 8 (by kernel_rfl) (by kernel_rfl) (by kernel_rfl) (by kernel_rfl)) ?_
  intro W base args ds gs before hval0 hW hcnd hsz0 _
  have hsz : (DataW.weightsEach Try.prog (Try.f8.params.toList ++ Rows.fnExactAddCaseSpec.plain.varTypes Try.prog) (ds ++ gs)).all (· ≤ reachBytes) = true := hsz0
  have hval : ∀ (j : Nat) t v, Try.f8.params[j]? = some t → args[j]? = some v → Value.okWide Try.prog W .any base t v := hval0
  have hW' := hW
  obtain ⟨p, q, hA0, hV, rfl, hfz, hnd⟩ := hW
  have hA : DataW.TrodAll enc Try.prog W 0 (fun _ => true) true Try.f8.params.toList args.toList ds p := hA0
  rw [Try.params8] at hA hval hsz
  obtain ⟨v0, vs0, d0, ds0, p0, q0, hargs, rfl, rfl, h0, r0⟩ := trodAll_cons hA
  obtain ⟨v1, vs1, d1, ds1, p1, q1, rfl, rfl, rfl, h1, r1⟩ := trodAll_cons r0
  obtain ⟨v2, vs2, d2, ds2, p2, q2, rfl, rfl, rfl, h2, r2⟩ := trodAll_cons r1
  obtain ⟨rfl, rfl, rfl⟩ := trodAll_nil r2
  obtain rfl : args = #[v0, v1, v2] := by cases args; simp_all
  obtain ⟨rfl, rfl⟩ := trodVars_none hV
  have k0 := h0
  have lt0 : ∀ x ∈ p0, x.block < W.heap.size := by obtain ⟨m, hm⟩ := k0; exact DataW.trod_lt m _ _ _ hm
  obtain ⟨u0_0, u0_1, b0_0, b0_1, rfl, K0_0, w0_0, K0_1, w0_1⟩ := agg2_at Try.underlying59 (by kernel_rfl) (by kernel_rfl) (opens_slice Try.underlying22 (by kernel_rfl) (opens_int Try.underlying3)) (opens_slice Try.underlying22 (by kernel_rfl) (opens_int Try.underlying3)) (hval 0 59 v0 rfl rfl) h0
  obtain ⟨A0_0, c0_0, rfl, hc0_0, hr0_0⟩ := slice_cell K0_0
  obtain ⟨A0_1, c0_1, rfl, hc0_1, hr0_1⟩ := slice_cell K0_1
  obtain ⟨a1, rfl, rfl, rfl, w1⟩ := open_int Try.underlying3 (hval 1 3 v1 rfl rfl) h1
  obtain ⟨a2, rfl, rfl, rfl⟩ := open_bool Try.underlying4 (hval 2 4 v2 rfl rfl) h2
  clear hA0 hval0 hsz0 hsz
  obtain ⟨k, hp⟩ := Pure.FnExactAddCase b0_0 b0_1 a1 a2 w0_0 w0_1 w1
  refine (laws_FnExactAddCase.calls k A0_0 c0_0 b0_0 A0_1 c0_1 b0_1 a1 a2 true W hr0_0 hc0_0 hr0_1 hc0_1 hp).mono fun e W' ⟨he, bel0⟩ => ?_
  have bel : Below W.heap.size W W' := bel0
  subst he
  exact ⟨_, rfl, _, _, _, [], _, [], hW', trodAll_mk1 (shut_bool Try.underlying4 _), (trodAll_cons_mk (Below.trod laidOut (by kernel_rfl) (of_decide_eq_true (by kernel_rfl)) k0 bel lt0) (trodAll_cons_mk (shut_int Try.underlying3 w1) (trodAll_cons_mk (shut_bool Try.underlying4 _) trodAll_mk0))), rfl, bel.frame _, fun h => by cases h⟩
theorem over : Rows.fnExactAddCaseRow.holds Try.pinned (OpenSpec.ofChange Rows.fnExactAddCaseSpec) :=
  OpenClaim.holds_of_wide 8 Try.f8 rfl rfl rfl rfl rfl rfl rfl ⟨rfl, rfl, rfl, rfl, rfl⟩ rfl rfl rfl rfl rfl (by kernel_rfl) Try.func8 (by kernel_rfl)
    (of_decide_eq_true (by kernel_rfl)) (by unfold Func.isWrapper; first | (rw [if_pos (by decide +kernel)]; kernel_rfl) | (rw [if_neg (by decide +kernel)]; exact ⟨rfl, rfl⟩))
    (fun os started H enc _ => lifted os started H enc)
theorem proved : Rows.FnExactAddCaseSaid := over
#print axioms proved
end Go.Proofs.Ytfiijdiccjapiaa.fnExactAddCase
namespace Go.Proofs.Ytfiijdiccjapiaa
/-- The row, under a short name, for the claim. -/
theorem fnExactAddCase_holds : Rows.FnExactAddCaseSaid := fnExactAddCase.proved
end Go.Proofs.Ytfiijdiccjapiaa
