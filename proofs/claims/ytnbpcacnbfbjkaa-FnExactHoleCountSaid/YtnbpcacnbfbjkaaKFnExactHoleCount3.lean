/- Texts of the claim FnExactHoleCount, merged: part 3 of 10: the program's and the reference's functions as Lean functions, the walks that show it, and plain lemmas; no conditions. -/
import Derived.Test.YtnbpcacnbfbjkaaKFnExactHoleCount1
import Derived.Test.YtnbpcacnbfbjkaaKFnExactHoleCount2
import Derived.WalkKit
import Derived.Test.YtnbpcacnbfbjkaaProg
import Derived.Below
import Derived.Deep.Draws
import Derived.Deep.AppendLies
import Derived.Maps.AppendAt
import Derived.OwnWalk
import Derived.Laws.BytesArg
import Derived.Laws.MakeOwn
import Derived.Laws.OwnMore
import Derived.Deep.OwnRows
import Derived.Tactics
import Derived.Lib.ConvBytes
import Derived.Laws.Slices
import Derived.KernelRfl
import Derived.RowKit3
import Derived.Deep.LoopGhost
import Derived.Deep.QuietTactic
import Derived.BigQuiet
import Derived.WideLaws
import Derived.Deep.DeepCutAuto
import Derived.Deep.CutBlock
import Derived.Deep.RegionHeld3
import Derived.Laws.Rows
import Derived.Lib.AppendStr
import Derived.ArgAppend
import Derived.Laws.IdiomCopy
import Derived.OrdersHeld
import Derived.Laws.BitsLemmas
import Derived.RowKit
namespace Go.Proofs.Ytnbpcacnbfbjkaa.P
open Go.RowKit Go.Proofs.YtnbpcacnbfbjkaaW.PrintWords Go.Proofs.YtnbpcacnbfbjkaaW.PrintLast Go.Proofs.YtnbpcacnbfbjkaaW.PrintMore
class Pl (W : World) (w : outParam World) : Prop where
  bel : Below w.heap.size w W
instance (priority := low) Pl.base (W : World) : Pl W W := ⟨Below.refl _ _⟩
instance Pl.drew1 (W w : World) [h : Pl W w] : Pl W.drew w := ⟨below_drew1 h.bel⟩
instance Pl.drews (W w : World) (n : Nat) [h : Pl W w] : Pl (W.drewN n) w := ⟨pw_below_drewN h.bel n⟩
instance Pl.new1 (W w : World) (o : Obj) [h : Pl W w] : Pl (W.alloc o) w := ⟨below_alloc h.bel o⟩
theorem bk {W w : World} [p : Pl W w] {g : Nat} {o : Obj} (h : w.heap[g]? = some o) : W.heap[g]? = some o := blk_below h p.bel
theorem pC {α : Type} {d : Kd α} {w W : World} {A : Option Addr} {n : Nat} {xs : List α} (h : d.C w A n xs)
    (step : d.C w A n xs → d.C W A n xs := by intro h_; (with_reducible repeat (first | refine Kd.C_alloc ?_ _ | refine Kd.C_drewN ?_ _ | refine Kd.C_drew ?_)); exact h_) : d.C W A n xs := step h
theorem pT {w W0 W : World} (h : Below w.heap.size w W0)
    (step : Below w.heap.size w W0 → Below w.heap.size w W := by intro h_; repeat (first | (with_reducible first | exact h_ | apply below_alloc | apply pw_below_drewN | apply below_drew1 | refine below_set ?_ (Aside0.out (by assumption))) | exact h_)) : Below w.heap.size w W := step h
theorem sP : (∀ (a : Act) (N : Tmp) (v : Value), Act.put a (some N) v = { a with tmps := a.tmps.setIfInBounds N v }) ∧ (∀ (a : Act) (v : Value), Act.put a none v = a) ∧ (∀ (l : List Value) (i : Nat) (a : Value), l.toArray.setIfInBounds i a = (l.set i a).toArray) ∧ (∀ (x : Value) (xs : List Value) (a : Value), (x :: xs).set 0 a = a :: xs) ∧ (∀ (x : Value) (xs : List Value) (n : Nat) (a : Value), (x :: xs).set (n + 1) a = x :: xs.set n a) ∧ (∀ n : Int, IntKind.i64.wrap n = Go.RowKit.wrap64 n) ∧ (∀ n : Int, IntKind.i32.wrap n = Go.RowKit.wrap32 n) :=
  ⟨fun _ _ _ => rfl, fun _ _ => rfl, fun _ _ _ => List.setIfInBounds_toArray _ _ _, fun _ _ _ => rfl, fun _ _ _ _ => rfl, i64_w, i32_w⟩
theorem aR {α : Type} {d : Kd α} {e B : Nat} {W w1 : World} {base : Nat} {ok : Nat → Prop} {v : Value} {xs : List α} (_hb : Below B W w1) (h : d.R e W base ok v xs) : Aside0 (d.R e W base ok v xs) := ⟨h⟩
section
variable {P : Program} {ops : Array Oper} {rest : List Oper} {o : Oper} {a : Act} {Q : Exit → Act → World → Prop}
theorem bxe {W : World} {cs : Array Value} {t : TypeId} (h : ∀ g, g = W.heap.size → ∀ w1, w1.heap[g]? = some (.cells cs t (0, 0)) → Below W.heap.size W w1 → wpList P ops Q rest (a.put o.dst (.pointer (some ⟨g, 0, none⟩))) w1)
    (hgd : o.guard = none := by rfl) (hrun : (execOp a.eval o).run P W = .ok (.value (.pointer (some ⟨W.heap.size, 0, none⟩))) (W.alloc (.cells cs t (0, 0))) := by first | (go_simp; done) | (go_simp; rfl)) : wpList P ops Q (o :: rest) a W :=
  Kd.event_run hgd hrun (h _ rfl _ (blk_new W _) (below_alloc (Below.refl _ _) _))
theorem gl {w : World} (N : Option Tmp) {f : FuncId} {fn : Func} {as_ : Array Operand} {ts : Array TypeId} (hf : P.funcs[f]? = some fn) (args : Array Value)
    (h : Calls P f args w fun e w' => ∃ v, e = .returned v ∧ wpList P ops Q rest (a.put N v) w') (hd : o.dst = N := by rfl) (hg : o.guard = none := by rfl)
    (hname : (fn.name == "runtime.NumGoroutine") = false := by kernel_rfl) (hb : fn.body.isSome = true := by rfl) (hop : o.op = .call { callee := .value (.func f), args := as_, argTypes := ts } := by exact rfl)
    (hargs : as_.map a.eval = args := by (try simp only [List.map_toArray, List.map_cons, List.map_nil]); first | done | rfl | (simp only [List.length_drop, List.length_take]; rfl)) : wpList P ops Q (o :: rest) a w :=
  goesL_ N hd hg hf hname hb args hop hargs h
end
theorem bc1 {W : World} {g : Nat} {a_ : Value} {t : TypeId} (h : W.heap[g]? = some (.cells #[a_] t (0, 0))) : W.cell? ⟨g, 0, none⟩ = some a_ ∧ W.frozen? ⟨g, 0, none⟩ = false := ⟨(blk_cell h 0).trans rfl, blk_frozen h 0⟩
theorem bc2 {W : World} {g : Nat} {a_ b_ : Value} {t : TypeId} (h : W.heap[g]? = some (.cells #[a_, b_] t (0, 0))) : W.cell? ⟨g, 0, none⟩ = some a_ ∧ W.cell? ⟨g, 1, none⟩ = some b_ ∧ W.frozen? ⟨g, 0, none⟩ = false ∧ W.frozen? ⟨g, 1, none⟩ = false := ⟨(blk_cell h 0).trans rfl, (blk_cell h 1).trans rfl, blk_frozen h 0, blk_frozen h 1⟩
theorem bc3 {W : World} {g : Nat} {a_ b_ c_ : Value} {t : TypeId} (h : W.heap[g]? = some (.cells #[a_, b_, c_] t (0, 0))) : W.cell? ⟨g, 0, none⟩ = some a_ ∧ W.cell? ⟨g, 1, none⟩ = some b_ ∧ W.cell? ⟨g, 2, none⟩ = some c_ ∧ W.frozen? ⟨g, 0, none⟩ = false ∧ W.frozen? ⟨g, 1, none⟩ = false ∧ W.frozen? ⟨g, 2, none⟩ = false := ⟨(blk_cell h 0).trans rfl, (blk_cell h 1).trans rfl, (blk_cell h 2).trans rfl, blk_frozen h 0, blk_frozen h 1, blk_frozen h 2⟩
theorem bc4 {W : World} {g : Nat} {a_ b_ c_ d_ : Value} {t : TypeId} (h : W.heap[g]? = some (.cells #[a_, b_, c_, d_] t (0, 0))) : W.cell? ⟨g, 0, none⟩ = some a_ ∧ W.cell? ⟨g, 1, none⟩ = some b_ ∧ W.cell? ⟨g, 2, none⟩ = some c_ ∧ W.cell? ⟨g, 3, none⟩ = some d_ ∧ W.frozen? ⟨g, 0, none⟩ = false ∧ W.frozen? ⟨g, 1, none⟩ = false ∧ W.frozen? ⟨g, 2, none⟩ = false ∧ W.frozen? ⟨g, 3, none⟩ = false := ⟨(blk_cell h 0).trans rfl, (blk_cell h 1).trans rfl, (blk_cell h 2).trans rfl, (blk_cell h 3).trans rfl, blk_frozen h 0, blk_frozen h 1, blk_frozen h 2, blk_frozen h 3⟩
theorem bc5 {W : World} {g : Nat} {a_ b_ c_ d_ e_ : Value} {t : TypeId} (h : W.heap[g]? = some (.cells #[a_, b_, c_, d_, e_] t (0, 0))) : W.cell? ⟨g, 0, none⟩ = some a_ ∧ W.cell? ⟨g, 1, none⟩ = some b_ ∧ W.cell? ⟨g, 2, none⟩ = some c_ ∧ W.cell? ⟨g, 3, none⟩ = some d_ ∧ W.cell? ⟨g, 4, none⟩ = some e_ ∧ W.frozen? ⟨g, 0, none⟩ = false ∧ W.frozen? ⟨g, 1, none⟩ = false ∧ W.frozen? ⟨g, 2, none⟩ = false ∧ W.frozen? ⟨g, 3, none⟩ = false ∧ W.frozen? ⟨g, 4, none⟩ = false := ⟨(blk_cell h 0).trans rfl, (blk_cell h 1).trans rfl, (blk_cell h 2).trans rfl, (blk_cell h 3).trans rfl, (blk_cell h 4).trans rfl, blk_frozen h 0, blk_frozen h 1, blk_frozen h 2, blk_frozen h 3, blk_frozen h 4⟩
end Go.Proofs.Ytnbpcacnbfbjkaa.P
namespace Go.Proofs.Ytnbpcacnbfbjkaa.P
open Go.RowKit Go.Proofs.YtnbpcacnbfbjkaaW.PrintWords Go.Proofs.YtnbpcacnbfbjkaaW.PrintLast Go.Proofs.YtnbpcacnbfbjkaaW.PrintMore
attribute [local go_sem] max2_int min2_int max_two min_two max_three min_three max_four min_four
set_option linter.unusedVariables false
set_option linter.unusedSimpArgs false
def errW : Option Int → Value
  | none => .nilIface
  | some c => .iface 0 (.int .i64 c)
theorem errW_none : errW none = .nilIface := rfl
theorem errW_some (c : Int) : errW (some c) = .iface 0 (.int .i64 c) := rfl
theorem info3 : (Try.prog.info? 3).map (fun i => (i.zero, i.size, i.bytes)) = some (some (.int .i64 0), 1, 8) := by kernel_rfl
theorem info4 : (Try.prog.info? 4).map (fun i => (i.zero, i.size, i.bytes)) = some (some (.bool false), 1, 1) := by kernel_rfl
theorem info36 : (Try.prog.info? 36).map (fun i => (i.zero, i.size, i.bytes)) = some (some (.slice none 0 0), 1, 24) := by kernel_rfl
theorem info48 : (Try.prog.info? 48).map (fun i => (i.zero, i.size, i.bytes)) = some (some (.agg #[(.int .i64 0), (.int .i64 0)]), 2, 16) := by kernel_rfl
theorem info54 : (Try.prog.info? 54).map (fun i => (i.zero, i.size, i.bytes)) = some (some (.agg #[(.int .i64 0), (.int .i64 0), (.int .i64 0), (.int .i64 0), (.int .i64 0)]), 5, 40) := by kernel_rfl
theorem info64 : (Try.prog.info? 64).map (fun i => (i.zero, i.size, i.bytes)) = some (some (.agg #[(.int .i64 0), (.int .i64 0), (.int .i64 0)]), 3, 24) := by kernel_rfl
structure S48 where
  f0 : Int
  f1 : Int
def z48 : S48 := ⟨(0 : Int), (0 : Int)⟩
def k48 : Kd S48 := Kd.iso (Kd.pair (Kd.int .i64) (Kd.int .i64)) (fun x : S48 => (x.f0, x.f1))
theorem k48_open {w : World} {x : S48} {cs : List Value} (h : k48.K w x cs) : cs = [.int .i64 x.f0, .int .i64 x.f1] := by
  obtain ⟨_, _, rfl, rfl, rfl⟩ := h
  exact rfl
theorem k48_mkM (w : World) (base : Nat) (ok : Nat → Prop) (x : S48)  : k48.M w base ok x [.int .i64 x.f0, .int .i64 x.f1] := ⟨[.int .i64 x.f0], [.int .i64 x.f1], rfl, rfl, rfl⟩
def rd_T48 (xs : List S48) (i : Int) : S48 := xs.getD i.toNat z48
theorem at_T48 {w : World} {A : Option Addr} {n : Nat} {xs : List S48} (h : Kd.C k48 w A n xs) (i : Int) (h0 : 0 ≤ i) (h1 : i < n) : ∃ ad , A = some ad ∧ w.cell? (ad.add (i.toNat * 2)) = some (.int .i64 (rd_T48 xs i).f0) ∧ w.cell? ⟨(ad.add (i.toNat * 2)).block, (ad.add (i.toNat * 2)).off + 1, none⟩ = some (.int .i64 (rd_T48 xs i).f1) := by
  obtain ⟨ad, c, e, _, hK, hc0⟩ := Kd.C_get h z48 i h0 h1
  have hc : ∀ j u, c[j]? = some u → w.cell? (ad.add (i.toNat * 2 + j)) = some u := hc0
  obtain rfl := k48_open hK
  exact ⟨ad, e, hc 0 _ rfl, by rw [← add_field _ _ 1 (by omega)]; exact hc 1 _ rfl⟩
def rd_L3 (xs : List (List S48)) (i : Int) : (List S48) := xs.getD i.toNat ([] : List S48)
theorem at_L3 {w : World} {A : Option Addr} {n : Nat} {xs : List (List S48)} (h : Kd.C (Kd.slice 48 k48) w A n xs) (i : Int) (h0 : 0 ≤ i) (h1 : i < n) : ∃ ad A0 c0, A = some ad ∧ w.cell? (ad.add i.toNat) = some (.slice A0 (rd_L3 xs i).length c0) ∧ (rd_L3 xs i).length ≤ c0 ∧ k48.C w A0 (rd_L3 xs i).length (rd_L3 xs i) := by
  obtain ⟨ad, c, e, _, hK, hc0⟩ := Kd.C_get h ([] : List S48) i h0 h1
  have hc : ∀ j u, c[j]? = some u → w.cell? (ad.add (i.toNat * 1 + j)) = some u := hc0
  obtain ⟨A0, c0, rfl, l0, g0⟩ := hK
  exact ⟨ad, A0, c0, e, by have hq := hc 0 _ rfl; rwa [Nat.mul_one, Nat.add_zero] at hq, l0, g0⟩
structure S64 where
  f0 : Int
  f1 : Int
  f2 : Int
def z64 : S64 := ⟨(0 : Int), (0 : Int), (0 : Int)⟩
def k64 : Kd S64 := Kd.iso (Kd.pair (Kd.int .i64) (Kd.pair (Kd.int .i64) (Kd.int .i64))) (fun x : S64 => (x.f0, x.f1, x.f2))
theorem k64_open {w : World} {x : S64} {cs : List Value} (h : k64.K w x cs) : cs = [.int .i64 x.f0, .int .i64 x.f1, .int .i64 x.f2] := by
  obtain ⟨_, _, rfl, rfl, ⟨_, _, rfl, rfl, rfl⟩⟩ := h
  exact rfl
theorem k64_mkM (w : World) (base : Nat) (ok : Nat → Prop) (x : S64)  : k64.M w base ok x [.int .i64 x.f0, .int .i64 x.f1, .int .i64 x.f2] := ⟨[.int .i64 x.f0], [.int .i64 x.f1, .int .i64 x.f2], rfl, rfl, ⟨[.int .i64 x.f1], [.int .i64 x.f2], rfl, rfl, rfl⟩⟩
def rd_T64 (xs : List S64) (i : Int) : S64 := xs.getD i.toNat z64
theorem at_T64 {w : World} {A : Option Addr} {n : Nat} {xs : List S64} (h : Kd.C k64 w A n xs) (i : Int) (h0 : 0 ≤ i) (h1 : i < n) : ∃ ad , A = some ad ∧ w.cell? (ad.add (i.toNat * 3)) = some (.int .i64 (rd_T64 xs i).f0) ∧ w.cell? ⟨(ad.add (i.toNat * 3)).block, (ad.add (i.toNat * 3)).off + 1, none⟩ = some (.int .i64 (rd_T64 xs i).f1) ∧ w.cell? ⟨(ad.add (i.toNat * 3)).block, (ad.add (i.toNat * 3)).off + 2, none⟩ = some (.int .i64 (rd_T64 xs i).f2) := by
  obtain ⟨ad, c, e, _, hK, hc0⟩ := Kd.C_get h z64 i h0 h1
  have hc : ∀ j u, c[j]? = some u → w.cell? (ad.add (i.toNat * 3 + j)) = some u := hc0
  obtain rfl := k64_open hK
  exact ⟨ad, e, hc 0 _ rfl, by rw [← add_field _ _ 1 (by omega)]; exact hc 1 _ rfl, by rw [← add_field _ _ 2 (by omega)]; exact hc 2 _ rfl⟩
structure S54 where
  f0 : Int
  f1 : S48
  f2 : S48
def z54 : S54 := ⟨(0 : Int), z48, z48⟩
def k54 : Kd S54 := Kd.iso (Kd.pair (Kd.int .i64) (Kd.pair k48 k48)) (fun x : S54 => (x.f0, x.f1, x.f2))
theorem k54_open {w : World} {x : S54} {cs : List Value} (h : k54.K w x cs) : cs = [.int .i64 x.f0, .int .i64 x.f1.f0, .int .i64 x.f1.f1, .int .i64 x.f2.f0, .int .i64 x.f2.f1] := by
  obtain ⟨_, _, rfl, rfl, ⟨_, _, rfl, s1, s3⟩⟩ := h
  obtain rfl := k48_open s1
  obtain rfl := k48_open s3
  exact rfl
theorem k54_mkM (w : World) (base : Nat) (ok : Nat → Prop) (x : S54)  : k54.M w base ok x [.int .i64 x.f0, .int .i64 x.f1.f0, .int .i64 x.f1.f1, .int .i64 x.f2.f0, .int .i64 x.f2.f1] := ⟨[.int .i64 x.f0], [.int .i64 x.f1.f0, .int .i64 x.f1.f1, .int .i64 x.f2.f0, .int .i64 x.f2.f1], rfl, rfl, ⟨[.int .i64 x.f1.f0, .int .i64 x.f1.f1], [.int .i64 x.f2.f0, .int .i64 x.f2.f1], rfl, (k48_mkM w base ok x.f1 ), (k48_mkM w base ok x.f2 )⟩⟩
def rd_T54 (xs : List S54) (i : Int) : S54 := xs.getD i.toNat z54
theorem at_T54 {w : World} {A : Option Addr} {n : Nat} {xs : List S54} (h : Kd.C k54 w A n xs) (i : Int) (h0 : 0 ≤ i) (h1 : i < n) : ∃ ad , A = some ad ∧ w.cell? (ad.add (i.toNat * 5)) = some (.int .i64 (rd_T54 xs i).f0) ∧ w.cell? ⟨(ad.add (i.toNat * 5)).block, (ad.add (i.toNat * 5)).off + 1, none⟩ = some (.int .i64 (rd_T54 xs i).f1.f0) ∧ w.cell? ⟨(ad.add (i.toNat * 5)).block, (ad.add (i.toNat * 5)).off + 2, none⟩ = some (.int .i64 (rd_T54 xs i).f1.f1) ∧ w.cell? ⟨(ad.add (i.toNat * 5)).block, (ad.add (i.toNat * 5)).off + 3, none⟩ = some (.int .i64 (rd_T54 xs i).f2.f0) ∧ w.cell? ⟨(ad.add (i.toNat * 5)).block, (ad.add (i.toNat * 5)).off + 4, none⟩ = some (.int .i64 (rd_T54 xs i).f2.f1) := by
  obtain ⟨ad, c, e, _, hK, hc0⟩ := Kd.C_get h z54 i h0 h1
  have hc : ∀ j u, c[j]? = some u → w.cell? (ad.add (i.toNat * 5 + j)) = some u := hc0
  obtain rfl := k54_open hK
  exact ⟨ad, e, hc 0 _ rfl, by rw [← add_field _ _ 1 (by omega)]; exact hc 1 _ rfl, by rw [← add_field _ _ 2 (by omega)]; exact hc 2 _ rfl, by rw [← add_field _ _ 3 (by omega)]; exact hc 3 _ rfl, by rw [← add_field _ _ 4 (by omega)]; exact hc 4 _ rfl⟩
end Go.Proofs.Ytnbpcacnbfbjkaa.P
namespace Go.Proofs.Ytnbpcacnbfbjkaa.P
open Go.RowKit Go.Proofs.YtnbpcacnbfbjkaaW.PrintWords Go.Proofs.YtnbpcacnbfbjkaaW.PrintLast Go.Proofs.YtnbpcacnbfbjkaaW.PrintMore
theorem aK {p : Prop} (h : p) : Aside0 p := ⟨h⟩
theorem nL {W : World} {a b : Nat} {o : Obj} (hg : b = W.heap.size) (h : W.heap[a]? = some o) : a ≠ b := by
  rw [hg]
  exact Nat.ne_of_lt (blk_lt h)
theorem nG {W : World} {a b : Nat} {o : Obj} (hg : b = W.heap.size) (h : W.heap[a]? = some o) : b ≠ a := by
  rw [hg]
  exact Nat.ne_of_gt (blk_lt h)
theorem gE {w W : World} {g : Nat} (hg : g = W.heap.size) (h : Below w.heap.size w W) : w.heap.size ≤ g := by
  rw [hg]
  exact below_size h
theorem bB {w W w2 : World} {g : Nat} {o : Obj} (h : Aside0 (w.heap[g]? = some o)) (hb : Below W.heap.size W w2)
    (step : w.heap[g]? = some o → W.heap[g]? = some o := by intro h_; (with_reducible repeat (first | refine blk_drewN ?_ _ | refine blk_drew ?_ | refine blk_alloc ?_ _)); exact h_) : Aside0 (w2.heap[g]? = some o) := ⟨blk_below (step h.out) hb⟩
theorem bS {w W0 W w2 : World} (h : Aside0 (Below w.heap.size w W0)) (hb : Below W.heap.size W w2)
    (step : Below w.heap.size w W0 → Below w.heap.size w W := by intro h_; repeat (first | (with_reducible first | exact h_ | apply below_alloc | apply pw_below_drewN | apply below_drew1 | refine below_set ?_ (Aside0.out (by assumption))) | exact h_)) : Aside0 (Below w.heap.size w w2) := ⟨below_step (step h.out) hb⟩
section
variable {α β γ δ ε : Type} {d : Kd α} {d1 : Kd β} {d2 : Kd γ} {d3 : Kd δ} {d4 : Kd ε} {e e1 e2 e3 e4 base b1 b2 b3 b4 g t : Nat} {ok ok' ok1 ok2 ok3 ok4 : Nat → Prop} {w W w1 w2 : World} {u v v1 v2 v3 v4 : Value} {xs : List α} {ys1 : List β} {ys2 : List γ} {ys3 : List δ} {ys4 : List ε} {cells : Array Value}
theorem nw1 (h : d.R e w1 W.heap.size ok v xs) (a : d1.R e1 W b1 ok1 v1 ys1) : d.R e w1 W.heap.size (fun k => ok k ∧ some k ≠ v1.ownBlock) v xs := Kd.R_new' h (Kd.R_lt a)
theorem rP (h : d.R e w base ok v xs) (hok : ∀ k, ok k → ok' k := by intro _ h_; (try simp only [and_assoc] at h_); first | exact h_ | (simp only [h_, ne_eq, not_false_eq_true, and_self, and_true]; done) | (simp only [ne_eq] at h_ ⊢; simp only [h_, not_false_eq_true, and_self]; done)) : d.R e w base ok' v xs := Kd.R_mono h hok
end
theorem sI {A B : Option Addr} {n m c k : Nat} (h : Value.slice A n c = .slice B m k) : B = A ∧ k = c := by injection h with a b c; exact ⟨a.symm, c.symm⟩
section
variable {W : World} {g : Nat} {a_ b_ c_ d_ e_ : Value} {t : TypeId} {P : Prop}
theorem cz2 (h : W.heap[g]? = some (.cells #[a_, b_] t (0, 0))) : W.cell? ⟨g, 0, none⟩ = some a_ ∧ W.cell? ⟨g, 1, none⟩ = some b_ := ⟨(blk_cell h 0).trans rfl, (blk_cell h 1).trans rfl⟩
theorem cj2 (h : W.heap[g]? = some (.cells #[a_, b_] t (0, 0))) (p : P) : W.cell? ⟨g, 0, none⟩ = some a_ ∧ W.cell? ⟨g, 1, none⟩ = some b_ ∧ P := ⟨(cz2 h).1, (cz2 h).2, p⟩
end
section
variable {P : Program} {ops : Array Oper} {Q : Exit → Act → World → Prop}
theorem gs {oi : Oper} {N : Option Tmp} {a : Act} {w : World} {K : Act → World → Prop} {f : FuncId} {fn : Func} {as_ : Array Operand} {ts : Array TypeId} (hf : P.funcs[f]? = some fn) (args : Array Value)
    (h : Calls P f args w fun e w' => ∃ v, e = .returned v ∧ K (a.put N v) w') (hw : Region.wanted oi (yielded ops a.tmps) = true := by rfl) (hN : oi.dst = N := by rfl)
    (hname : (fn.name == "runtime.NumGoroutine") = false := by kernel_rfl) (hb : fn.body.isSome = true := by rfl) (hop : oi.op = .call { callee := .value (.func f), args := as_, argTypes := ts } := by exact rfl)
    (hargs : as_.map a.eval = args := by (try simp only [List.map_toArray, List.map_cons, List.map_nil]); first | done | rfl | (simp only [List.length_drop, List.length_take]; rfl)) :
    if Region.wanted oi (yielded ops a.tmps) = true then Oper.wp P oi a w K Q else K (a.put N undef) w := goes_ hf hname hb args hw hN hop hargs h
end
theorem nb {W : World} {a b : Nat} {o : Obj} (hg : b = W.heap.size) (h : W.heap[a]? = some o) : Aside0 (a ≠ b) ∧ Aside0 (b ≠ a) := ⟨⟨nL hg h⟩, ⟨nG hg h⟩⟩
theorem er {α : Type} {a b : α} (h : a = b := by first | rfl | (simp [errW_none, errW_some] <;> rfl) | (simp [*, errW_none, errW_some] <;> rfl)) : a = b := h
def bz (l : List Nat) : Array Bool := ⟨(l.foldr (fun n p => (List.replicate n (!p.2) ++ p.1, !p.2)) ([], true)).1⟩
section
variable {P : Program} {ops : Array Oper} {Q : Exit → Act → World → Prop} {md : Region.Mode} {S : World → Prop} {ds : List Nat} {T : Bool × List (List Nat × List Nat)}
theorem pz (i n : Nat) {oi : Oper} {v : Value} {fuel : Nat} {l : Array Bool} {a : Act} {w : World} (b : List Nat) (hT : Aside0 (rtab md ops = T)) {a' : Act}
    (h : wpAnyLast P md ops Q S ds fuel (bz b) a' w) (hi : ops[i]? = some oi := by exact rfl) (hN : oi.dst = some n := by exact rfl) (hc : anyT T l.toList (bz b).toList i = true := by kernel_rfl) (hy : Yields P ops oi v a := by exact Or.inl ⟨by rfl, by intro w'; go_simp; with_reducible rfl⟩)
    (ha : a.put (some n) v = a' := by first | (simp only [sP]; rfl) | (show Act.put _ _ _ = _; simp only [sP]; rfl)) (hQ : ∀ c a w, Q (.panic c) (a.put oi.dst v) w → Q (.panic c) a w := by exact fun _ _ _ h => h) : wpAnyLast P md ops Q S ds (fuel + 1) l a w :=
  pure_ (bz b) hi hN (any_of hT.out hc) hQ hy ha h
end
theorem nB {a b : Nat} (h : Aside0 (a ≠ b)) : a ≠ b ∧ b ≠ a := ⟨h.out, fun e => h.out e.symm⟩
section
variable {W : World} {p q r a : Addr} {u v w : Value} {x : Option Value}
theorem cf (h : Aside0 (a.block ≠ p.block)) (e : W.cell? a = x) : (W.setCell p u).cell? a = x := (cell_far h.out _).trans e
end
section
variable {P : Program} {ops : Array Oper} {Q : Exit → Act → World → Prop} {md : Region.Mode} {S : World → Prop} {ds : List Nat} {T : Bool × List (List Nat × List Nat)}
theorem nm (n : Nat) {fuel : Nat} {l : Array Bool} {a a' b : Act} {v : Value} {w : World} (h : wpAnyLast P md ops Q S ds fuel l a' w) (e : a = b.put (some n) v := by exact rfl) (ha : b.put (some n) v = a' := by simp only [sP]; rfl) : wpAnyLast P md ops Q S ds fuel l a w := norm_ (e.trans ha) h
theorem oz (i n : Nat) {oi : Oper} {fuel : Nat} {l : Array Bool} {a : Act} {w : World} (b : List Nat) (hT : Aside0 (rtab md ops = T))
    (h : ∀ K : Act → World → Prop, Shut (∀ a' w', S w' → (S w' → wpAnyLast P md ops Q S ds fuel (bz b) a' w') → K a' w') → if Region.wanted oi (yielded ops a.tmps) = true then Oper.wp P oi a w K Q else K (a.put (some n) undef) w)
    (hi : ops[i]? = some oi := by exact rfl) (hN : oi.dst = some n := by exact rfl) (hc : (readyT T.2 l.toList == [i] && l.toList.set i true == (bz b).toList) = true := by kernel_rfl) (hd : i ∉ ds := by decide) : wpAnyLast P md ops Q S ds (fuel + 1) l a w := one_ (bz b) hi hN (one_of hT.out hc) hd h
theorem tz (i n : Nat) {oi : Oper} {v : Value} {fuel : Nat} {l : Array Bool} {a : Act} {w : World} {B : List Nat} (b : List Nat) (hT : Aside0 (rtab md ops = T)) (hB : Aside0 (waitsOk T.2 B = true)) (hi : ops[i]? = some oi) (hy : ∀ w, S w → (execOp a.eval oi).run P w = .ok (.value v) w) (hS : S w) {a' : Act}
    (h : wpAnyLast P md ops Q S ds fuel (bz b) a' w) (hN : oi.dst = some n := by exact rfl) (hc : takeW T B ds l.toList (bz b).toList i = true := by kernel_rfl) (hw : Region.wanted oi (yielded ops a.tmps) = true := by rfl)
    (ha : a.put (some n) v = a' := by first | (simp only [sP]; rfl) | (show Act.put _ _ _ = _; simp only [sP]; rfl)) (hQ : ∀ c a w, Q (.panic c) (a.put oi.dst v) w → Q (.panic c) a w := by exact fun _ _ _ h => h) : wpAnyLast P md ops Q S ds (fuel + 1) l a w :=
  take_ (bz b) hi hN (take_ofW hT.out hB.out hc) hQ (Or.inl ⟨hw, hy⟩) hS ha h
end
section
variable {α : Type} {d : Kd α} {e base : Nat} {ok : Nat → Prop} {w W w1 w2 : World} {g g' : Nat} {o : Obj} {v : Value}
theorem pW {xs : List α} (h : d.V e w base ok v xs) (step : d.V e w base ok v xs → d.V e W base ok v xs := by intro h_; (with_reducible repeat (first | apply Kd.V_alloc | apply Kd.V_drewN | apply Kd.V_drew)); exact h_) : d.V e W base ok v xs := step h
theorem pY {xs : List α} (h : d.S e w base ok v xs) (step : d.S e w base ok v xs → d.S e W base ok v xs := by intro h_; (with_reducible repeat (first | apply Kd.S_alloc | apply Kd.S_drewN | apply Kd.S_drew)); exact h_) : d.S e W base ok v xs := step h
theorem dA {p : Prop} [Decidable p] (h : decide p = true := by first | (with_reducible assumption) | assumption) : p := of_decide_eq_true h
theorem hs {p : Addr} {v : Value} (hb : Below W.heap.size W w1) (h : W.cell? p = some v) : w1.cell? p = some v := (hb.cell (World.block_lt_of_cell? _ _ h)).trans h
theorem oS {α β : Type} {a : α} {f : α → Option β} {r : Option β} (h : (some a).bind f = r) : f a = r := (Option.bind_some _ _).symm.trans h
theorem bD (h : Aside0 (w.heap[g]? = some o)) : Aside0 (w.drew.heap[g]? = some o) := ⟨blk_drew h.out⟩
theorem oB {α β : Type} {a : Option α} {f : α → Option β} {r : β} (h : a.bind f = some r) : ∃ x, a = some x ∧ f x = some r := Option.bind_eq_some_iff.mp h
end
section
variable {α : Type} {d : Kd α} {e base : Nat} {ok : Nat → Prop} {w W w1 w2 : World} {g g' : Nat} {o : Obj} {v u : Value} {t : TypeId} {cs cs' : Array Value} {A : Option Addr} {n : Nat}
theorem rb {xs : List α} (h : Aside0 (d.R e w base ok v xs)) (hb : Below W.heap.size W w1) (step : d.R e w base ok v xs → d.R e W base ok v xs := by intro h_; (with_reducible repeat (first | apply Kd.R_alloc | apply Kd.R_drewN | apply Kd.R_drew)); exact h_) : Aside0 (d.R e w1 base ok v xs) := ⟨Kd.R_below (step h.out) hb⟩
theorem rdw {xs : List α} (h : Aside0 (d.R e w base ok v xs)) : Aside0 (d.R e w.drew base ok v xs) := ⟨Kd.R_drew h.out⟩
theorem vb {xs : List α} (h : Aside0 (d.V e w base ok v xs)) (hb : Below W.heap.size W w1) (step : d.V e w base ok v xs → d.V e W base ok v xs := by intro h_; (with_reducible repeat (first | apply Kd.V_alloc | apply Kd.V_drewN | apply Kd.V_drew)); exact h_) : Aside0 (d.V e w1 base ok v xs) := ⟨Kd.V_below (step h.out) hb⟩
theorem sb {xs : List α} (h : Aside0 (d.S e w base ok v xs)) (hb : Below W.heap.size W w1) (step : d.S e w base ok v xs → d.S e W base ok v xs := by intro h_; (with_reducible repeat (first | apply Kd.S_alloc | apply Kd.S_drewN | apply Kd.S_drew)); exact h_) : Aside0 (d.S e w1 base ok v xs) := ⟨Kd.S_below (step h.out) hb⟩
theorem cB {xs : List α} (h : Aside0 (d.C w A n xs)) (hb : Aside0 (Below w.heap.size w w1)) (step : d.C w1 A n xs → d.C W A n xs := by intro h_; (with_reducible repeat (first | refine Kd.C_alloc ?_ _ | refine Kd.C_drewN ?_ _ | refine Kd.C_drew ?_)); exact h_) : d.C W A n xs := step (Kd.C_below h.out hb.out)
theorem bg {p : Addr} (hp : Aside0 (g ≠ p.block)) (h : w.heap[g]? = some (.cells cs t (0, 0))) [q : Pl W (w.setCell p u)] : W.heap[g]? = some (.cells cs t (0, 0)) := bk (blk_far h hp.out _)
theorem bq (cs : Array Value) (i : Nat) (h : w.heap[g]? = some (.cells cs t (0, 0))) [q : Pl W (w.setCell ⟨g, i, none⟩ u)] (e : cs.setIfInBounds i u = cs' := by rfl) : W.heap[g]? = some (.cells cs' t (0, 0)) := bk (blk_put h i _ e)
theorem oA {α β : Type} {a : Option α} {f : α → Option β} {r : β} (h : a.bind f = some r) : ∃ x, Aside0 (a = some x) ∧ f x = some r := let ⟨x, h1, h2⟩ := Option.bind_eq_some_iff.mp h; ⟨x, ⟨h1⟩, h2⟩
end
section
variable {P : Program} {ops : Array Oper} {rest : List Oper} {o : Oper} {a : Act} {Q : Exit → Act → World → Prop} {W : World}
theorem ga (N : Tmp) (_hN : o.dst = some N) (h : wpList P ops Q (o :: rest) a W) : wpList P ops Q (o :: rest) a W := h
theorem gc (f : FuncId) {as_ : Array Operand} {ts : Array TypeId} (_ho : o.op = .call { callee := .value (.func f), args := as_, argTypes := ts }) (h : wpList P ops Q (o :: rest) a W) : wpList P ops Q (o :: rest) a W := h
theorem bxa (cs : Array Value) (t : TypeId) (h : ∀ g, g = W.heap.size → ∀ w1, Aside0 (w1.heap[g]? = some (.cells cs t (0, 0))) → Below W.heap.size W w1 → wpList P ops Q rest (a.put o.dst (.pointer (some ⟨g, 0, none⟩))) w1)
    (hgd : o.guard = none := by rfl) (hrun : (execOp a.eval o).run P W = .ok (.value (.pointer (some ⟨W.heap.size, 0, none⟩))) (W.alloc (.cells cs t (0, 0))) := by first | (go_simp; done) | (go_simp; rfl)) : wpList P ops Q (o :: rest) a W := bxe (fun g hg w1 hb => h g hg w1 ⟨hb⟩) hgd hrun
end
theorem na {w W : World} {a b : Nat} {o : Obj} (hg : b = W.heap.size) (h : Aside0 (w.heap[a]? = some o)) (step : w.heap[a]? = some o → W.heap[a]? = some o := by intro h_; (with_reducible repeat (first | refine blk_drewN ?_ _ | refine blk_drew ?_ | refine blk_alloc ?_ _)); exact h_) : Aside0 (a ≠ b) ∧ Aside0 (b ≠ a) := nb hg (step h.out)
theorem gA {w W0 W : World} {g : Nat} (hg : g = W.heap.size) (h : Aside0 (Below w.heap.size w W0)) (step : Below w.heap.size w W0 → Below w.heap.size w W := by intro h_; repeat (first | (with_reducible first | exact h_ | apply below_alloc | apply pw_below_drewN | apply below_drew1 | refine below_set ?_ (Aside0.out (by assumption))) | exact h_)) : Aside0 (w.heap.size ≤ g) := ⟨gE hg (step h.out)⟩
theorem pR {α : Type} {d : Kd α} {e : Nat} {w W : World} {base : Nat} {ok : Nat → Prop} {v : Value} {xs : List α} (h : d.R e w base ok v xs)
    (step : d.R e w base ok v xs → d.R e W base ok v xs := by intro h_; (with_reducible repeat (first | apply Kd.R_alloc | apply Kd.R_drewN | apply Kd.R_drew)); exact h_) : d.R e W base ok v xs := step h
theorem pB {w W : World} {g : Nat} {o : Obj} (h : w.heap[g]? = some o)
    (step : w.heap[g]? = some o → W.heap[g]? = some o := by intro h_; (with_reducible repeat (first | refine blk_drewN ?_ _ | refine blk_drew ?_ | refine blk_alloc ?_ _)); exact h_) : W.heap[g]? = some o := step h
theorem pS {w W0 W : World} (h : Below w.heap.size w W0)
    (step : Below w.heap.size w W0 → Below w.heap.size w W := by intro h_; repeat (first | (with_reducible first | exact h_ | apply below_alloc | apply pw_below_drewN | apply below_drew1 | refine below_set ?_ (Aside0.out (by assumption))) | exact h_)) : Below w.heap.size w W := step h
end Go.Proofs.Ytnbpcacnbfbjkaa.P
namespace Go.Proofs.Ytnbpcacnbfbjkaa.P
open Go.RowKit Go.Proofs.YtnbpcacnbfbjkaaW.PrintWords Go.Proofs.YtnbpcacnbfbjkaaW.PrintLast Go.Proofs.YtnbpcacnbfbjkaaW.PrintMore
attribute [local go_sem] max2_int min2_int max_two min_two max_three min_three max_four min_four
set_option linter.unusedVariables false
set_option linter.unusedSimpArgs false
set_option maxHeartbeats 8000000
set_option maxRecDepth 100000
def spec_l1In.f (a0 : Int) (a1 : Int) (a2 : Int) : Option (Bool) := if a0 ≥ a1 then (some (decide (a0 ≤ a2))) else (some false)
theorem spec_l1In.calls (a0 : Int) (a1 : Int) (a2 : Int) (r : Bool) (w : World) (h : spec_l1In.f a0 a1 a2 = some r) :
  Calls Try.prog 41 #[.int .i64 a0, .int .i64 a1, .int .i64 a2] w fun e w' => e = .returned (.bool r) ∧ Drawn0 w w' := by
 have H : (if a0 ≥ a1 then (some (decide (a0 ≤ a2))) else (some false)) = some r := h
 clear h
 by_cases c4 : a0 ≥ a1
 ·
  rw [if_pos c4] at H
  have c4b0 : decide (a1 ≤ a0) = true := decide_eq_true c4
  clear c4
  obtain rfl := Option.some.inj H
  go_enter Try.func41, Try.ntmps41
  go_wp2
  go_ret
  exact ⟨by first | rfl | (simp; done) | (simp [*]; done), by repeat (first | exact Drawn0.refl _ | apply Drawn0.step)⟩
 rw [if_neg c4] at H
 have c4b0 : decide (a1 ≤ a0) = false := decide_eq_false c4
 clear c4
 obtain rfl := Option.some.inj H
 go_enter Try.func41, Try.ntmps41
 go_wp2
 go_ret
 exact ⟨by first | rfl | (simp; done) | (simp [*]; done), by repeat (first | exact Drawn0.refl _ | apply Drawn0.step)⟩
def spec_l2Shape.f (a0 : Int) (a1 : Int) : Option (Bool) := (spec_l1In.f a0 1 8).bind fun t101 => (if t101 = true then ((spec_l1In.f a1 1 8).bind fun t102 => (some t102)) else (some false))
theorem spec_l2Shape.calls (a0 : Int) (a1 : Int) (r : Bool) (w : World) (h : spec_l2Shape.f a0 a1 = some r) :
  Calls Try.prog 24 #[.int .i64 a0, .int .i64 a1] w fun e w' => e = .returned (.bool r) ∧ Drawn0 w w' := by
 have H : ((spec_l1In.f a0 1 8).bind fun t101 => (if t101 = true then ((spec_l1In.f a1 1 8).bind fun t102 => (some t102)) else (some false))) = some r := h
 clear h
 replace H := oA H
 obtain ⟨t101, A3, H⟩ := H
 replace H : (if t101 = true then ((spec_l1In.f a1 1 8).bind fun t102 => (some t102)) else (some false)) = some r := H
 by_cases c4 : t101 = true
 ·
  subst c4
  have H1 : ((spec_l1In.f a1 1 8).bind fun t102 => (some t102)) = some r := by rw [if_pos rfl] at H; exact H
  clear H; have H := H1; clear H1; replace H := oA H; obtain ⟨t102, A5, H⟩ := H
  replace H : (some t102) = some r := H
  obtain rfl := Option.some.inj H
  go_enter Try.func24, Try.ntmps24
  go_wp2_with (first | ((with_reducible refine gc 41 rfl ?_); refine gl (some 6) Try.func41 #[.int .i64 a0, .int .i64 1, .int .i64 8] ?_; (with_reducible refine (spec_l1In.calls a0 1 8 true _ A3.out).mono ?_); rintro e w' ⟨rfl, ⟨nd, rfl⟩⟩; refine ⟨_, rfl, ?_⟩) | (go_at_call 41; (with_reducible refine (spec_l1In.calls a1 1 8 t102 _ A5.out).mono ?_); rintro e w' ⟨rfl, ⟨nd, rfl⟩⟩))
  go_ret
  exact ⟨by first | rfl | (simp; done) | (simp [*]; done), by repeat (first | exact Drawn0.refl _ | apply Drawn0.step)⟩
 replace c4 := Bool.eq_false_iff.mpr c4
 subst c4
 have H1 : (some false) = some r := by rw [if_neg (show ¬ (false = true) by decide)] at H; exact H
 clear H
 have H := H1
 clear H1
 obtain rfl := Option.some.inj H
 go_enter Try.func24, Try.ntmps24
 go_wp2_with (first | ((with_reducible refine gc 41 rfl ?_); refine gl (some 6) Try.func41 #[.int .i64 a0, .int .i64 1, .int .i64 8] ?_; (with_reducible refine (spec_l1In.calls a0 1 8 false _ A3.out).mono ?_); rintro e w' ⟨rfl, ⟨nd, rfl⟩⟩; refine ⟨_, rfl, ?_⟩))
 go_ret
 exact ⟨by first | rfl | (simp; done) | (simp [*]; done), by repeat (first | exact Drawn0.refl _ | apply Drawn0.step)⟩
def spec_l1Rising.l0 : Nat → List Int → Int → Int → Int → Option (Bool)
 | 0, _, _, _, _ => none
 | k + 1, x0, x1, x2, x7 => if x7 < (x0.length : Int) then (if 0 ≤ x7 then ((spec_l1In.f (rd x0 x7) x1 x2).bind fun t102 => (if t102 = true then (if x7 > 0 then (if 0 ≤ (wrap64 (x7 - 1)) then (if (wrap64 (x7 - 1)) < (x0.length : Int) then (if (rd x0 (wrap64 (x7 - 1))) ≥ (rd x0 x7) then (some false) else (spec_l1Rising.l0 k x0 x1 x2 (wrap64 (x7 + 1)))) else (none)) else (none)) else (spec_l1Rising.l0 k x0 x1 x2 (wrap64 (x7 + 1)))) else (some false))) else (none)) else (some true)
def spec_l1Rising.f (k : Nat) (l0 : List Int) (a1 : Int) (a2 : Int) : Option (Bool) := spec_l1Rising.l0 k l0 a1 a2 0
theorem spec_l1Rising.calls (k : Nat) (A0 : Option Addr) (c0 : Nat) (l0 : List Int) (a1 : Int) (a2 : Int) (r : Bool) (w : World) (hr0 : Kd.C (Kd.int .i64) w A0 l0.length l0) (hc0 : l0.length ≤ c0) (h : spec_l1Rising.f k l0 a1 a2 = some r) :
  Calls Try.prog 25 #[.slice A0 l0.length c0, .int .i64 a1, .int .i64 a2] w fun e w' => e = .returned (.bool r) ∧ Drawn0 w w' := by
 have HR0 := aK hr0
 have HC0 := aK hc0
 clear hr0 hc0
 have H : (spec_l1Rising.l0 k l0 a1 a2 0) = some r := h
 clear h
 have H' := aK H
 clear H
 go_enter Try.func25, Try.ntmps25
 go_wp2
 repeat (go_quiet (fail); try go_wp2)
 go_loopg [7] k (fun kq v7 w' => ∃ (x7_1 : Int), v7 = .int .i64 x7_1 ∧ Aside0 (spec_l1Rising.l0 kq l0 a1 a2 x7_1 = some r) ∧ Aside0 (kq ≤ k) ∧ Drawn0 w w')
 case atStart => exact ⟨(0), (by first | rfl | (simp; done) | (simp [*]; done)), H', ⟨Nat.le_refl _⟩, by repeat (first | exact Drawn0.refl _ | apply Drawn0.step)⟩
 case round =>
 clear H'
 try clear c2
 try clear p2
 obtain ⟨x7_1, rfl, HA, HK1, ⟨m1, rfl⟩⟩ := hrel
 cases gk with
 | zero => exact absurd HA.out (by simp [spec_l1Rising.l0])
 | succ k1 =>
 have H := HA.out
 clear HA
 simp only [spec_l1Rising.l0] at H
 by_cases c4 : x7_1 < (l0.length : Int)
 rotate_left
 ·
  rw [if_neg c4] at H
  have c4b0 : decide (x7_1 < (l0.length : Int)) = false := decide_eq_false c4
  clear c4
  obtain rfl := Option.some.inj H
  go_wp2
  repeat (go_quiet (fail); try go_wp2)
  go_ret
  exact ⟨by first | rfl | (simp; done) | (simp [*]; done), by repeat (first | exact Drawn0.refl _ | apply Drawn0.step)⟩
 rw [if_pos c4] at H
 have c4b0 : decide (x7_1 < (l0.length : Int)) = true := decide_eq_true c4
 clear c4
 by_cases c5 : 0 ≤ x7_1
 rotate_left
 ·
  rw [if_neg c5] at H
  exact absurd H (by simp)
 rw [if_pos c5] at H
 have c5b0 : decide (0 ≤ x7_1) = true := decide_eq_true c5
 clear c5
 replace H := oA H
 obtain ⟨t102, A6, H⟩ := H
 replace H : (if t102 = true then (if x7_1 > 0 then (if 0 ≤ (wrap64 (x7_1 - 1)) then (if (wrap64 (x7_1 - 1)) < (l0.length : Int) then (if (rd l0 (wrap64 (x7_1 - 1))) ≥ (rd l0 x7_1) then (some false) else (spec_l1Rising.l0 k1 l0 a1 a2 (wrap64 (x7_1 + 1)))) else (none)) else (none)) else (spec_l1Rising.l0 k1 l0 a1 a2 (wrap64 (x7_1 + 1)))) else (some false)) = some r := H
 by_cases c7 : t102 = true
 rotate_left
 ·
  replace c7 := Bool.eq_false_iff.mpr c7; subst c7
  have H1 : (some false) = some r := by rw [if_neg (show ¬ (false = true) by decide)] at H; exact H
  clear H; have H := H1; clear H1
  obtain rfl := Option.some.inj H
  have p101 : 0 ≤ (x7_1 : Int) := dA
  have q101 : x7_1 < (l0.length : Int) := dA
  obtain ⟨ad101, e101, hx101_0⟩ := Kd.at_int HR0.out x7_1 p101 q101; cases e101; replace p101 := eq_true p101; replace q101 := eq_true q101
  go_wp2_with (first | (go_at_call 41; (with_reducible refine (spec_l1In.calls (rd l0 x7_1) a1 a2 false _ A6.out).mono ?_); rintro e w' ⟨rfl, ⟨nd, rfl⟩⟩; (try first | exact ⟨rfl, _, World.drewN_drewN _ _ _⟩ | exact ⟨rfl, _, Eq.trans (World.drewN_drewN _ _ _) (congrArg (World.drewN _) (Nat.add_assoc _ _ _))⟩)))
  repeat (go_quiet (first | (go_at_call 41; (with_reducible refine (spec_l1In.calls (rd l0 x7_1) a1 a2 false _ A6.out).mono ?_); rintro e w' ⟨rfl, ⟨nd, rfl⟩⟩; (try first | exact ⟨rfl, _, World.drewN_drewN _ _ _⟩ | exact ⟨rfl, _, Eq.trans (World.drewN_drewN _ _ _) (congrArg (World.drewN _) (Nat.add_assoc _ _ _))⟩))); try go_wp2_with (first | (go_at_call 41; (with_reducible refine (spec_l1In.calls (rd l0 x7_1) a1 a2 false _ A6.out).mono ?_); rintro e w' ⟨rfl, ⟨nd, rfl⟩⟩; (try first | exact ⟨rfl, _, World.drewN_drewN _ _ _⟩ | exact ⟨rfl, _, Eq.trans (World.drewN_drewN _ _ _) (congrArg (World.drewN _) (Nat.add_assoc _ _ _))⟩))))
  go_ret
  exact ⟨by first | rfl | (simp; done) | (simp [*]; done), by repeat (first | exact Drawn0.refl _ | apply Drawn0.step)⟩
 subst c7
 have H1 : (if x7_1 > 0 then (if 0 ≤ (wrap64 (x7_1 - 1)) then (if (wrap64 (x7_1 - 1)) < (l0.length : Int) then (if (rd l0 (wrap64 (x7_1 - 1))) ≥ (rd l0 x7_1) then (some false) else (spec_l1Rising.l0 k1 l0 a1 a2 (wrap64 (x7_1 + 1)))) else (none)) else (none)) else (spec_l1Rising.l0 k1 l0 a1 a2 (wrap64 (x7_1 + 1)))) = some r := by rw [if_pos rfl] at H; exact H
 clear H
 have H := H1
 clear H1
 by_cases c8 : x7_1 > 0
 rotate_left
 ·
  rw [if_neg c8] at H
  have c8b0 : decide (0 < x7_1) = false := decide_eq_false c8
  clear c8; have H' := aK H; clear H
  have p101 : 0 ≤ (x7_1 : Int) := dA
  have q101 : x7_1 < (l0.length : Int) := dA
  obtain ⟨ad101, e101, hx101_0⟩ := Kd.at_int HR0.out x7_1 p101 q101; cases e101; replace p101 := eq_true p101; replace q101 := eq_true q101
  go_wp2_with (first | (go_at_call 41; (with_reducible refine (spec_l1In.calls (rd l0 x7_1) a1 a2 true _ A6.out).mono ?_); rintro e w' ⟨rfl, ⟨nd, rfl⟩⟩; (try first | exact ⟨rfl, _, World.drewN_drewN _ _ _⟩ | exact ⟨rfl, _, Eq.trans (World.drewN_drewN _ _ _) (congrArg (World.drewN _) (Nat.add_assoc _ _ _))⟩)))
  repeat (go_quiet (first | (go_at_call 41; (with_reducible refine (spec_l1In.calls (rd l0 x7_1) a1 a2 true _ A6.out).mono ?_); rintro e w' ⟨rfl, ⟨nd, rfl⟩⟩; (try first | exact ⟨rfl, _, World.drewN_drewN _ _ _⟩ | exact ⟨rfl, _, Eq.trans (World.drewN_drewN _ _ _) (congrArg (World.drewN _) (Nat.add_assoc _ _ _))⟩))); try go_wp2_with (first | (go_at_call 41; (with_reducible refine (spec_l1In.calls (rd l0 x7_1) a1 a2 true _ A6.out).mono ?_); rintro e w' ⟨rfl, ⟨nd, rfl⟩⟩; (try first | exact ⟨rfl, _, World.drewN_drewN _ _ _⟩ | exact ⟨rfl, _, Eq.trans (World.drewN_drewN _ _ _) (congrArg (World.drewN _) (Nat.add_assoc _ _ _))⟩))))
  go_roundg k1
  case measure => have := HK1.out; omega
  case rel => exact ⟨(wrap64 (x7_1 + 1)), (by first | rfl | (simp; done) | (simp [*]; done)), H', ⟨by have := HK1.out; omega⟩, by repeat (first | exact Drawn0.refl _ | apply Drawn0.step)⟩
 rw [if_pos c8] at H
 have c8b0 : decide (0 < x7_1) = true := decide_eq_true c8
 clear c8
 obtain ⟨ji9, hji9⟩ : ∃ j_ : Int, (wrap64 (x7_1 - 1)) = j_ := ⟨_, rfl⟩
 replace H : (if 0 ≤ (ji9) then (if (ji9) < (l0.length : Int) then (if (rd l0 (ji9)) ≥ (rd l0 x7_1) then (some false) else (spec_l1Rising.l0 k1 l0 a1 a2 (wrap64 (x7_1 + 1)))) else (none)) else (none)) = some r := by first | (rw [hji9] at H; exact H) | (simp only [hji9] at H ⊢; exact H)
 (try rw [hji9] at A6)
 have hji9w : (IntKind.i64.wrap (x7_1 - 1)) = ji9 := (i64_w _).trans hji9
 by_cases c10 : 0 ≤ (ji9)
 rotate_left
 ·
  rw [if_neg c10] at H
  exact absurd H (by simp)
 rw [if_pos c10] at H
 have c10b0 : decide (0 ≤ (ji9)) = true := decide_eq_true c10
 clear c10
 by_cases c11 : (ji9) < (l0.length : Int)
 rotate_left
 ·
  rw [if_neg c11] at H
  exact absurd H (by simp)
 rw [if_pos c11] at H
 have c11b0 : decide ((ji9) < (l0.length : Int)) = true := decide_eq_true c11
 clear c11
 by_cases c12 : (rd l0 (ji9)) ≥ (rd l0 x7_1)
 ·
  rw [if_pos c12] at H
  have c12b0 : decide ((rd l0 x7_1) ≤ (rd l0 (ji9))) = true := decide_eq_true c12
  clear c12
  obtain rfl := Option.some.inj H
  have p101 : 0 ≤ (x7_1 : Int) := dA
  have q101 : x7_1 < (l0.length : Int) := dA
  obtain ⟨ad101, e101, hx101_0⟩ := Kd.at_int HR0.out x7_1 p101 q101; cases e101; replace p101 := eq_true p101; replace q101 := eq_true q101
  go_wp2_with (first | (go_at_call 41; (with_reducible refine (spec_l1In.calls (rd l0 x7_1) a1 a2 true _ A6.out).mono ?_); rintro e w' ⟨rfl, ⟨nd, rfl⟩⟩; (try first | exact ⟨rfl, _, World.drewN_drewN _ _ _⟩ | exact ⟨rfl, _, Eq.trans (World.drewN_drewN _ _ _) (congrArg (World.drewN _) (Nat.add_assoc _ _ _))⟩); have p103 : 0 ≤ ((ji9) : Int) := dA; have q103 : (ji9) < (l0.length : Int) := dA; obtain ⟨ad103, e103, hx103_0⟩ := Kd.at_int HR0.out (ji9) p103 q103; obtain rfl : ad101 = ad103 := (by injection e103); replace p103 := eq_true p103; replace q103 := eq_true q103; have p104 : 0 ≤ (x7_1 : Int) := dA; have q104 : x7_1 < (l0.length : Int) := dA; obtain ⟨ad104, e104, hx104_0⟩ := Kd.at_int HR0.out x7_1 p104 q104; obtain rfl : ad101 = ad104 := (by injection e104); replace p104 := eq_true p104; replace q104 := eq_true q104))
  repeat (go_quiet (first | (go_at_call 41; (with_reducible refine (spec_l1In.calls (rd l0 x7_1) a1 a2 true _ A6.out).mono ?_); rintro e w' ⟨rfl, ⟨nd, rfl⟩⟩; (try first | exact ⟨rfl, _, World.drewN_drewN _ _ _⟩ | exact ⟨rfl, _, Eq.trans (World.drewN_drewN _ _ _) (congrArg (World.drewN _) (Nat.add_assoc _ _ _))⟩); have p103 : 0 ≤ ((ji9) : Int) := dA; have q103 : (ji9) < (l0.length : Int) := dA; obtain ⟨ad103, e103, hx103_0⟩ := Kd.at_int HR0.out (ji9) p103 q103; obtain rfl : ad101 = ad103 := (by injection e103); replace p103 := eq_true p103; replace q103 := eq_true q103; have p104 : 0 ≤ (x7_1 : Int) := dA; have q104 : x7_1 < (l0.length : Int) := dA; obtain ⟨ad104, e104, hx104_0⟩ := Kd.at_int HR0.out x7_1 p104 q104; obtain rfl : ad101 = ad104 := (by injection e104); replace p104 := eq_true p104; replace q104 := eq_true q104)); try go_wp2_with (first | (go_at_call 41; (with_reducible refine (spec_l1In.calls (rd l0 x7_1) a1 a2 true _ A6.out).mono ?_); rintro e w' ⟨rfl, ⟨nd, rfl⟩⟩; (try first | exact ⟨rfl, _, World.drewN_drewN _ _ _⟩ | exact ⟨rfl, _, Eq.trans (World.drewN_drewN _ _ _) (congrArg (World.drewN _) (Nat.add_assoc _ _ _))⟩); have p103 : 0 ≤ ((ji9) : Int) := dA; have q103 : (ji9) < (l0.length : Int) := dA; obtain ⟨ad103, e103, hx103_0⟩ := Kd.at_int HR0.out (ji9) p103 q103; obtain rfl : ad101 = ad103 := (by injection e103); replace p103 := eq_true p103; replace q103 := eq_true q103; have p104 : 0 ≤ (x7_1 : Int) := dA; have q104 : x7_1 < (l0.length : Int) := dA; obtain ⟨ad104, e104, hx104_0⟩ := Kd.at_int HR0.out x7_1 p104 q104; obtain rfl : ad101 = ad104 := (by injection e104); replace p104 := eq_true p104; replace q104 := eq_true q104)))
  go_ret
  exact ⟨by first | rfl | (simp; done) | (simp only [← hji9] <;> (first | rfl | simp)) | (simp [*]; done), by repeat (first | exact Drawn0.refl _ | apply Drawn0.step)⟩
 rw [if_neg c12] at H
 have c12b0 : decide ((rd l0 x7_1) ≤ (rd l0 (ji9))) = false := decide_eq_false c12
 clear c12
 have H' := aK H
 clear H
 have p101 : 0 ≤ (x7_1 : Int) := dA
 have q101 : x7_1 < (l0.length : Int) := dA
 obtain ⟨ad101, e101, hx101_0⟩ := Kd.at_int HR0.out x7_1 p101 q101
 cases e101
 replace p101 := eq_true p101
 replace q101 := eq_true q101
 go_wp2_with (first | (go_at_call 41; (with_reducible refine (spec_l1In.calls (rd l0 x7_1) a1 a2 true _ A6.out).mono ?_); rintro e w' ⟨rfl, ⟨nd, rfl⟩⟩; (try first | exact ⟨rfl, _, World.drewN_drewN _ _ _⟩ | exact ⟨rfl, _, Eq.trans (World.drewN_drewN _ _ _) (congrArg (World.drewN _) (Nat.add_assoc _ _ _))⟩); have p103 : 0 ≤ ((ji9) : Int) := dA; have q103 : (ji9) < (l0.length : Int) := dA; obtain ⟨ad103, e103, hx103_0⟩ := Kd.at_int HR0.out (ji9) p103 q103; obtain rfl : ad101 = ad103 := (by injection e103); replace p103 := eq_true p103; replace q103 := eq_true q103; have p104 : 0 ≤ (x7_1 : Int) := dA; have q104 : x7_1 < (l0.length : Int) := dA; obtain ⟨ad104, e104, hx104_0⟩ := Kd.at_int HR0.out x7_1 p104 q104; obtain rfl : ad101 = ad104 := (by injection e104); replace p104 := eq_true p104; replace q104 := eq_true q104))
 repeat (go_quiet (first | (go_at_call 41; (with_reducible refine (spec_l1In.calls (rd l0 x7_1) a1 a2 true _ A6.out).mono ?_); rintro e w' ⟨rfl, ⟨nd, rfl⟩⟩; (try first | exact ⟨rfl, _, World.drewN_drewN _ _ _⟩ | exact ⟨rfl, _, Eq.trans (World.drewN_drewN _ _ _) (congrArg (World.drewN _) (Nat.add_assoc _ _ _))⟩); have p103 : 0 ≤ ((ji9) : Int) := dA; have q103 : (ji9) < (l0.length : Int) := dA; obtain ⟨ad103, e103, hx103_0⟩ := Kd.at_int HR0.out (ji9) p103 q103; obtain rfl : ad101 = ad103 := (by injection e103); replace p103 := eq_true p103; replace q103 := eq_true q103; have p104 : 0 ≤ (x7_1 : Int) := dA; have q104 : x7_1 < (l0.length : Int) := dA; obtain ⟨ad104, e104, hx104_0⟩ := Kd.at_int HR0.out x7_1 p104 q104; obtain rfl : ad101 = ad104 := (by injection e104); replace p104 := eq_true p104; replace q104 := eq_true q104)); try go_wp2_with (first | (go_at_call 41; (with_reducible refine (spec_l1In.calls (rd l0 x7_1) a1 a2 true _ A6.out).mono ?_); rintro e w' ⟨rfl, ⟨nd, rfl⟩⟩; (try first | exact ⟨rfl, _, World.drewN_drewN _ _ _⟩ | exact ⟨rfl, _, Eq.trans (World.drewN_drewN _ _ _) (congrArg (World.drewN _) (Nat.add_assoc _ _ _))⟩); have p103 : 0 ≤ ((ji9) : Int) := dA; have q103 : (ji9) < (l0.length : Int) := dA; obtain ⟨ad103, e103, hx103_0⟩ := Kd.at_int HR0.out (ji9) p103 q103; obtain rfl : ad101 = ad103 := (by injection e103); replace p103 := eq_true p103; replace q103 := eq_true q103; have p104 : 0 ≤ (x7_1 : Int) := dA; have q104 : x7_1 < (l0.length : Int) := dA; obtain ⟨ad104, e104, hx104_0⟩ := Kd.at_int HR0.out x7_1 p104 q104; obtain rfl : ad101 = ad104 := (by injection e104); replace p104 := eq_true p104; replace q104 := eq_true q104)))
 go_roundg k1
 case measure => have := HK1.out; omega
 case rel => exact ⟨(wrap64 (x7_1 + 1)), (by first | rfl | (simp; done) | (simp [*]; done)), H', ⟨by have := HK1.out; omega⟩, by repeat (first | exact Drawn0.refl _ | apply Drawn0.step)⟩
def spec_l8Region.f (k : Nat) (a0 : Int) (a1 : Int) (l2 : List Int) : Option (Bool) := (spec_l2Shape.f a0 a1).bind fun t101 => (if t101 = true then ((spec_l1Rising.f k l2 0 (wrap64 ((wrap64 (a0 * a1)) - 1))).bind fun t102 => (some t102)) else (some false))
theorem spec_l8Region.calls (k : Nat) (a0 : Int) (a1 : Int) (A2 : Option Addr) (c2 : Nat) (l2 : List Int) (r : Bool) (w : World) (hr2 : Kd.C (Kd.int .i64) w A2 l2.length l2) (hc2 : l2.length ≤ c2) (h : spec_l8Region.f k a0 a1 l2 = some r) :
  Calls Try.prog 15 #[.int .i64 a0, .int .i64 a1, .slice A2 l2.length c2] w fun e w' => e = .returned (.bool r) ∧ Drawn0 w w' := by
 have HR2 := aK hr2
 have HC2 := aK hc2
 clear hr2 hc2
 have H : ((spec_l2Shape.f a0 a1).bind fun t101 => (if t101 = true then ((spec_l1Rising.f k l2 0 (wrap64 ((wrap64 (a0 * a1)) - 1))).bind fun t102 => (some t102)) else (some false))) = some r := h
 clear h
 replace H := oA H
 obtain ⟨t101, A4, H⟩ := H
 replace H : (if t101 = true then ((spec_l1Rising.f k l2 0 (wrap64 ((wrap64 (a0 * a1)) - 1))).bind fun t102 => (some t102)) else (some false)) = some r := H
 by_cases c5 : t101 = true
 ·
  subst c5
  have H1 : ((spec_l1Rising.f k l2 0 (wrap64 ((wrap64 (a0 * a1)) - 1))).bind fun t102 => (some t102)) = some r := by rw [if_pos rfl] at H; exact H
  clear H; have H := H1; clear H1; replace H := oA H; obtain ⟨t102, A6, H⟩ := H
  replace H : (some t102) = some r := H
  obtain rfl := Option.some.inj H
  go_enter Try.func15, Try.ntmps15
  go_wp2_with (first | ((with_reducible refine gc 24 rfl ?_); refine gl (some 9) Try.func24 #[.int .i64 a0, .int .i64 a1] ?_; (with_reducible refine (spec_l2Shape.calls a0 a1 true _ A4.out).mono ?_); rintro e w' ⟨rfl, ⟨nd, rfl⟩⟩; refine ⟨_, rfl, ?_⟩) | (go_at_call 25; (with_reducible refine (spec_l1Rising.calls k _ _ l2 0 (wrap64 ((wrap64 (a0 * a1)) - 1)) t102 _ ?side1 ?side2 A6.out).mono ?_); (case side1 => exact pC HR2.out); (case side2 => exact HC2.out); rintro e w' ⟨rfl, ⟨nd, rfl⟩⟩))
  go_ret
  exact ⟨by first | rfl | (simp; done) | (simp [*]; done), by repeat (first | exact Drawn0.refl _ | apply Drawn0.step)⟩
 replace c5 := Bool.eq_false_iff.mpr c5
 subst c5
 have H1 : (some false) = some r := by rw [if_neg (show ¬ (false = true) by decide)] at H; exact H
 clear H
 have H := H1
 clear H1
 obtain rfl := Option.some.inj H
 go_enter Try.func15, Try.ntmps15
 go_wp2_with (first | ((with_reducible refine gc 24 rfl ?_); refine gl (some 9) Try.func24 #[.int .i64 a0, .int .i64 a1] ?_; (with_reducible refine (spec_l2Shape.calls a0 a1 false _ A4.out).mono ?_); rintro e w' ⟨rfl, ⟨nd, rfl⟩⟩; refine ⟨_, rfl, ?_⟩))
 go_ret
 exact ⟨by first | rfl | (simp; done) | (simp [*]; done), by repeat (first | exact Drawn0.refl _ | apply Drawn0.step)⟩
def spec_l1Has.l0 : Nat → List Int → Int → Int → Option (Bool)
 | 0, _, _, _ => none
 | k + 1, x0, x1, x5 => if x5 < (x0.length : Int) then (if 0 ≤ x5 then (if (rd x0 x5) = x1 then (some true) else (spec_l1Has.l0 k x0 x1 (wrap64 (x5 + 1)))) else (none)) else (some false)
def spec_l1Has.f (k : Nat) (l0 : List Int) (a1 : Int) : Option (Bool) := spec_l1Has.l0 k l0 a1 0
theorem spec_l1Has.calls (k : Nat) (A0 : Option Addr) (c0 : Nat) (l0 : List Int) (a1 : Int) (r : Bool) (w : World) (hr0 : Kd.C (Kd.int .i64) w A0 l0.length l0) (hc0 : l0.length ≤ c0) (h : spec_l1Has.f k l0 a1 = some r) :
  Calls Try.prog 50 #[.slice A0 l0.length c0, .int .i64 a1] w fun e w' => e = .returned (.bool r) ∧ Drawn0 w w' := by
 have HR0 := aK hr0
 have HC0 := aK hc0
 clear hr0 hc0
 have H : (spec_l1Has.l0 k l0 a1 0) = some r := h
 clear h
 have H' := aK H
 clear H
 go_enter Try.func50, Try.ntmps50
 go_wp2
 go_loopg [5] k (fun kq v5 w' => ∃ (x5_1 : Int), v5 = .int .i64 x5_1 ∧ Aside0 (spec_l1Has.l0 kq l0 a1 x5_1 = some r) ∧ Aside0 (kq ≤ k) ∧ Drawn0 w w')
 case atStart => exact ⟨(0), (by first | rfl | (simp; done) | (simp [*]; done)), H', ⟨Nat.le_refl _⟩, by repeat (first | exact Drawn0.refl _ | apply Drawn0.step)⟩
 case round =>
 clear H'
 try clear p2
 obtain ⟨x5_1, rfl, HA, HK1, ⟨m1, rfl⟩⟩ := hrel
 cases gk with
 | zero => exact absurd HA.out (by simp [spec_l1Has.l0])
 | succ k1 =>
 have H := HA.out
 clear HA
 simp only [spec_l1Has.l0] at H
 by_cases c3 : x5_1 < (l0.length : Int)
 rotate_left
 ·
  rw [if_neg c3] at H
  have c3b0 : decide (x5_1 < (l0.length : Int)) = false := decide_eq_false c3
  clear c3
  obtain rfl := Option.some.inj H
  go_wp2
  go_ret
  exact ⟨by first | rfl | (simp; done) | (simp [*]; done), by repeat (first | exact Drawn0.refl _ | apply Drawn0.step)⟩
 rw [if_pos c3] at H
 have c3b0 : decide (x5_1 < (l0.length : Int)) = true := decide_eq_true c3
 clear c3
 by_cases c4 : 0 ≤ x5_1
 rotate_left
 ·
  rw [if_neg c4] at H
  exact absurd H (by simp)
 rw [if_pos c4] at H
 have c4b0 : decide (0 ≤ x5_1) = true := decide_eq_true c4
 clear c4
 by_cases c5 : (rd l0 x5_1) = a1
 ·
  rw [if_pos c5] at H
  have c5b0 : ((rd l0 x5_1) == a1) = true := beq_iff_eq.mpr c5
  have c5b1 : ((rd l0 x5_1) != a1) = false := bne_eq_false_iff_eq.mpr c5
  clear c5
  obtain rfl := Option.some.inj H
  have p101 : 0 ≤ (x5_1 : Int) := dA
  have q101 : x5_1 < (l0.length : Int) := dA
  obtain ⟨ad101, e101, hx101_0⟩ := Kd.at_int HR0.out x5_1 p101 q101; cases e101; replace p101 := eq_true p101; replace q101 := eq_true q101
  go_wp2
  go_ret
  exact ⟨by first | rfl | (simp; done) | (simp [*]; done), by repeat (first | exact Drawn0.refl _ | apply Drawn0.step)⟩
 rw [if_neg c5] at H
 have c5b0 : ((rd l0 x5_1) == a1) = false := beq_eq_false_iff_ne.mpr c5
 have c5b1 : ((rd l0 x5_1) != a1) = true := bne_iff_ne.mpr c5
 have H' := aK H
 clear H
 have p101 : 0 ≤ (x5_1 : Int) := dA
 have q101 : x5_1 < (l0.length : Int) := dA
 obtain ⟨ad101, e101, hx101_0⟩ := Kd.at_int HR0.out x5_1 p101 q101
 cases e101
 replace p101 := eq_true p101
 replace q101 := eq_true q101
 go_wp2
 go_roundg k1
 case measure => have := HK1.out; omega
 case rel => exact ⟨(wrap64 (x5_1 + 1)), (by first | rfl | (simp; done) | (simp [*]; done)), H', ⟨by have := HK1.out; omega⟩, by repeat (first | exact Drawn0.refl _ | apply Drawn0.step)⟩
def spec_l8Has.f (k : Nat) (a0 : Int) (a1 : Int) (l2 : List Int) (a3 : Int) (a4 : Int) : Option (Bool) := (spec_l1In.f a3 0 (wrap64 (a0 - 1))).bind fun t101 => (if t101 = true then ((spec_l1In.f a4 0 (wrap64 (a1 - 1))).bind fun t102 => (if t102 = true then ((spec_l1Has.f k l2 (wrap64 ((wrap64 (a4 * a0)) + a3))).bind fun t103 => (some t103)) else (some false))) else (some false))
theorem spec_l8Has.calls (k : Nat) (a0 : Int) (a1 : Int) (A2 : Option Addr) (c2 : Nat) (l2 : List Int) (a3 : Int) (a4 : Int) (r : Bool) (w : World) (hr2 : Kd.C (Kd.int .i64) w A2 l2.length l2) (hc2 : l2.length ≤ c2) (h : spec_l8Has.f k a0 a1 l2 a3 a4 = some r) :
  Calls Try.prog 42 #[.int .i64 a0, .int .i64 a1, .slice A2 l2.length c2, .int .i64 a3, .int .i64 a4] w fun e w' => e = .returned (.bool r) ∧ Drawn0 w w' := by
 have HR2 := aK hr2
 have HC2 := aK hc2
 clear hr2 hc2
 have H : ((spec_l1In.f a3 0 (wrap64 (a0 - 1))).bind fun t101 => (if t101 = true then ((spec_l1In.f a4 0 (wrap64 (a1 - 1))).bind fun t102 => (if t102 = true then ((spec_l1Has.f k l2 (wrap64 ((wrap64 (a4 * a0)) + a3))).bind fun t103 => (some t103)) else (some false))) else (some false))) = some r := h
 clear h
 replace H := oA H
 obtain ⟨t101, A6, H⟩ := H
 replace H : (if t101 = true then ((spec_l1In.f a4 0 (wrap64 (a1 - 1))).bind fun t102 => (if t102 = true then ((spec_l1Has.f k l2 (wrap64 ((wrap64 (a4 * a0)) + a3))).bind fun t103 => (some t103)) else (some false))) else (some false)) = some r := H
 by_cases c7 : t101 = true
 rotate_left
 ·
  replace c7 := Bool.eq_false_iff.mpr c7; subst c7
  have H1 : (some false) = some r := by rw [if_neg (show ¬ (false = true) by decide)] at H; exact H
  clear H; have H := H1; clear H1
  obtain rfl := Option.some.inj H
  go_enter Try.func42, Try.ntmps42
  go_wp2_with (first | ((with_reducible refine gc 41 rfl ?_); refine gl (some 14) Try.func41 #[.int .i64 a3, .int .i64 0, .int .i64 (wrap64 (a0 - 1))] ?_; (with_reducible refine (spec_l1In.calls a3 0 (wrap64 (a0 - 1)) false _ A6.out).mono ?_); rintro e w' ⟨rfl, ⟨nd, rfl⟩⟩; refine ⟨_, rfl, ?_⟩))
  go_ret
  exact ⟨by first | rfl | (simp; done) | (simp [*]; done), by repeat (first | exact Drawn0.refl _ | apply Drawn0.step)⟩
 subst c7
 have H1 : ((spec_l1In.f a4 0 (wrap64 (a1 - 1))).bind fun t102 => (if t102 = true then ((spec_l1Has.f k l2 (wrap64 ((wrap64 (a4 * a0)) + a3))).bind fun t103 => (some t103)) else (some false))) = some r := by rw [if_pos rfl] at H; exact H
 clear H
 have H := H1
 clear H1
 replace H := oA H
 obtain ⟨t102, A8, H⟩ := H
 replace H : (if t102 = true then ((spec_l1Has.f k l2 (wrap64 ((wrap64 (a4 * a0)) + a3))).bind fun t103 => (some t103)) else (some false)) = some r := H
 by_cases c9 : t102 = true
 ·
  subst c9
  have H1 : ((spec_l1Has.f k l2 (wrap64 ((wrap64 (a4 * a0)) + a3))).bind fun t103 => (some t103)) = some r := by rw [if_pos rfl] at H; exact H
  clear H; have H := H1; clear H1; replace H := oA H; obtain ⟨t103, A10, H⟩ := H
  replace H : (some t103) = some r := H
  obtain rfl := Option.some.inj H
  go_enter Try.func42, Try.ntmps42
  go_wp2_with (first | ((with_reducible refine gc 41 rfl ?_); refine gl (some 14) Try.func41 #[.int .i64 a3, .int .i64 0, .int .i64 (wrap64 (a0 - 1))] ?_; (with_reducible refine (spec_l1In.calls a3 0 (wrap64 (a0 - 1)) true _ A6.out).mono ?_); rintro e w' ⟨rfl, ⟨nd, rfl⟩⟩; refine ⟨_, rfl, ?_⟩) | (go_at_call 41; (with_reducible refine (spec_l1In.calls a4 0 (wrap64 (a1 - 1)) true _ A8.out).mono ?_); rintro e w' ⟨rfl, ⟨nd, rfl⟩⟩) | (go_at_call 50; (with_reducible refine (spec_l1Has.calls k _ _ l2 (wrap64 ((wrap64 (a4 * a0)) + a3)) t103 _ ?side1 ?side2 A10.out).mono ?_); (case side1 => exact pC HR2.out); (case side2 => exact HC2.out); rintro e w' ⟨rfl, ⟨nd, rfl⟩⟩))
  go_ret
  exact ⟨by first | rfl | (simp; done) | (simp [*]; done), by repeat (first | exact Drawn0.refl _ | apply Drawn0.step)⟩
 replace c9 := Bool.eq_false_iff.mpr c9
 subst c9
 have H1 : (some false) = some r := by rw [if_neg (show ¬ (false = true) by decide)] at H; exact H
 clear H
 have H := H1
 clear H1
 obtain rfl := Option.some.inj H
 go_enter Try.func42, Try.ntmps42
 go_wp2_with (first | ((with_reducible refine gc 41 rfl ?_); refine gl (some 14) Try.func41 #[.int .i64 a3, .int .i64 0, .int .i64 (wrap64 (a0 - 1))] ?_; (with_reducible refine (spec_l1In.calls a3 0 (wrap64 (a0 - 1)) true _ A6.out).mono ?_); rintro e w' ⟨rfl, ⟨nd, rfl⟩⟩; refine ⟨_, rfl, ?_⟩) | (go_at_call 41; (with_reducible refine (spec_l1In.calls a4 0 (wrap64 (a1 - 1)) false _ A8.out).mono ?_); rintro e w' ⟨rfl, ⟨nd, rfl⟩⟩))
 go_ret
 exact ⟨by first | rfl | (simp; done) | (simp [*]; done), by repeat (first | exact Drawn0.refl _ | apply Drawn0.step)⟩
mutual
def spec_l8Sides.l0 : Nat → Int → Int → List Int → List (S64) → Int → Option ((List (S64)))
 | 0, _, _, _, _, _ => none
 | k + 1, x0, x1, x2, x7, x8 => if x8 < (x2.length : Int) then (if 0 ≤ x8 then (if x0 = 0 then (none) else ((spec_l8Has.f k x0 x1 x2 (Int.tmod (rd x2 x8) x0) (wrap64 ((wrap64 (Int.tdiv (rd x2 x8) x0)) - 1))).bind fun t106 => (if t106 = true then (spec_l8Sides.j1 k x0 x1 x2 x7 x8 (Int.tmod (rd x2 x8) x0) (wrap64 (Int.tdiv (rd x2 x8) x0))) else (if x7.length < 5864062014805 then (spec_l8Sides.j1 k x0 x1 x2 (x7 ++ [(⟨Int.tmod (rd x2 x8) x0, wrap64 (Int.tdiv (rd x2 x8) x0), 0⟩ : S64)]) x8 (Int.tmod (rd x2 x8) x0) (wrap64 (Int.tdiv (rd x2 x8) x0))) else (none))))) else (none)) else (some x7)
def spec_l8Sides.j1 : Nat → Int → Int → List Int → List (S64) → Int → Int → Int → Option ((List (S64)))
 | 0, _, _, _, _, _, _, _ => none
 | k + 1, x0, x1, x2, x7, x8, x9, x10 => (spec_l8Has.f k x0 x1 x2 (wrap64 (x9 + 1)) x10).bind fun t110 => (if t110 = true then (spec_l8Sides.j2 k x0 x1 x2 x7 x8 x9 x10) else (if x7.length < 5864062014805 then (spec_l8Sides.j2 k x0 x1 x2 (x7 ++ [(⟨wrap64 (x9 + 1), x10, 1⟩ : S64)]) x8 x9 x10) else (none)))
def spec_l8Sides.j2 : Nat → Int → Int → List Int → List (S64) → Int → Int → Int → Option ((List (S64)))
 | 0, _, _, _, _, _, _, _ => none
 | k + 1, x0, x1, x2, x7, x8, x9, x10 => (spec_l8Has.f k x0 x1 x2 x9 (wrap64 (x10 + 1))).bind fun t114 => (if t114 = true then ((spec_l8Has.f k x0 x1 x2 (wrap64 (x9 - 1)) x10).bind fun t115 => (if t115 = true then (spec_l8Sides.l0 k x0 x1 x2 x7 (wrap64 (x8 + 1))) else (if x7.length < 5864062014805 then (spec_l8Sides.l0 k x0 x1 x2 (x7 ++ [(⟨x9, wrap64 (x10 + 1), 3⟩ : S64)]) (wrap64 (x8 + 1))) else (none)))) else (if x7.length < 5864062014805 then ((some (x7 ++ [(⟨wrap64 (x9 + 1), wrap64 (x10 + 1), 2⟩ : S64)] : List (S64))).bind fun y119 => ((spec_l8Has.f k x0 x1 x2 (wrap64 (x9 - 1)) x10).bind fun t122 => (if t122 = true then (spec_l8Sides.l0 k x0 x1 x2 y119 (wrap64 (x8 + 1))) else (if y119.length < 5864062014805 then (spec_l8Sides.l0 k x0 x1 x2 (y119 ++ [(⟨x9, wrap64 (x10 + 1), 3⟩ : S64)]) (wrap64 (x8 + 1))) else (none))))) else (none)))
end
def spec_l8Sides.f (k : Nat) (a0 : Int) (a1 : Int) (l2 : List Int) : Option ((List (S64))) := spec_l8Sides.l0 k a0 a1 l2 (([] : List (S64))) 0
theorem spec_l8Sides.calls (k : Nat) (a0 : Int) (a1 : Int) (A2 : Option Addr) (c2 : Nat) (l2 : List Int) (r : List (S64)) (w : World) (hr2 : Kd.C (Kd.int .i64) w A2 l2.length l2) (hc2 : l2.length ≤ c2) (h : spec_l8Sides.f k a0 a1 l2 = some r) :
  Calls Try.prog 26 #[.int .i64 a0, .int .i64 a1, .slice A2 l2.length c2] w fun e w' => ∃ v0_ : Value, e = .returned (v0_) ∧ Kd.R k64 64 w' w.heap.size (fun _ => True) v0_ r ∧ Below w.heap.size w w' := by
 have hu64 := Try.underlying64
 have HR2 := aK hr2
 have HC2 := aK hc2
 clear hr2 hc2
 have HB := aK (Below.refl w.heap.size w)
 have H : (spec_l8Sides.l0 k a0 a1 l2 (([] : List (S64))) 0) = some r := h
 clear h
 obtain ⟨y101, hy101⟩ : ∃ y_ : List (S64), y_ = (([] : List (S64))) := ⟨_, rfl⟩
 replace H : (spec_l8Sides.l0 k a0 a1 l2 y101 0) = some r := by first | (rw [hy101]; first | with_reducible exact H | with_reducible exact (oS H :)) | with_reducible exact (oS H :) | with_reducible exact H | exact H
 have Ny101 := aK hy101
 clear hy101
 have H' := aK H
 clear H
 go_enter Try.func26, Try.ntmps26
 go_wp2_with (first | ((with_reducible refine ga 11 rfl ?_); refine Kd.R_lit k64 _ 64 ?hg (N := 11) ?hd (xs := ([] : List (S64))) (inner := []) (ok := fun _ => True) (okp := fun _ => True) ?hr ?hp (fun _ hk => hk) trivial (Below.refl _ _) (Nat.le_refl _) (by simp) ?_; (case hd => rfl); (case hg => rfl); (case hr => first | (go_simp; done) | (go_simp; rfl)); (case hp => exact (Reps.none _ _)); intro v102 w4 ho5 hb hg_ hnew_; clear hg_ hnew_; (first | rw [← Ny101.out] at ho5 | (simp only [Int.reduceToNat] at ho5; rw [← Ny101.out] at ho5)); have HO103 := aK (Kd.R_lower ho5 (below_size (pS HB.out))); replace HB := bS HB hb; clear hb ho5))
 repeat (go_quiet (first | ((with_reducible refine ga 11 rfl ?_); refine Kd.R_lit k64 _ 64 ?hg (N := 11) ?hd (xs := ([] : List (S64))) (inner := []) (ok := fun _ => True) (okp := fun _ => True) ?hr ?hp (fun _ hk => hk) trivial (Below.refl _ _) (Nat.le_refl _) (by simp) ?_; (case hd => rfl); (case hg => rfl); (case hr => first | (go_simp; done) | (go_simp; rfl)); (case hp => exact (Reps.none _ _)); intro v102 w4 ho5 hb hg_ hnew_; clear hg_ hnew_; (first | rw [← Ny101.out] at ho5 | (simp only [Int.reduceToNat] at ho5; rw [← Ny101.out] at ho5)); have HO103 := aK (Kd.R_lower ho5 (below_size (pS HB.out))); replace HB := bS HB hb; clear hb ho5)); try go_wp2_with (first | ((with_reducible refine ga 11 rfl ?_); refine Kd.R_lit k64 _ 64 ?hg (N := 11) ?hd (xs := ([] : List (S64))) (inner := []) (ok := fun _ => True) (okp := fun _ => True) ?hr ?hp (fun _ hk => hk) trivial (Below.refl _ _) (Nat.le_refl _) (by simp) ?_; (case hd => rfl); (case hg => rfl); (case hr => first | (go_simp; done) | (go_simp; rfl)); (case hp => exact (Reps.none _ _)); intro v102 w4 ho5 hb hg_ hnew_; clear hg_ hnew_; (first | rw [← Ny101.out] at ho5 | (simp only [Int.reduceToNat] at ho5; rw [← Ny101.out] at ho5)); have HO103 := aK (Kd.R_lower ho5 (below_size (pS HB.out))); replace HB := bS HB hb; clear hb ho5)))
 go_loopg [7, 8] k (fun kq v7 v8 w' => ∃ (x7_1 : List (S64)) (x8_1 : Int), v8 = .int .i64 x8_1 ∧ Aside0 (spec_l8Sides.l0 kq a0 a1 l2 x7_1 x8_1 = some r) ∧ Aside0 (kq ≤ k) ∧ Aside0 (Kd.R k64 64 w' w.heap.size (fun _ => True) v7 x7_1) ∧ Aside0 (Below w.heap.size w w'))
 case atStart => exact ⟨(y101), (0), (by first | rfl | (simp; done) | (simp [*]; done)), H', ⟨Nat.le_refl _⟩, ⟨pR HO103.out⟩, ⟨pT HB.out⟩⟩
 case round =>
 clear H'
 try clear c2
 try clear p2
 obtain ⟨x7_1, x8_1, rfl, HA, HK1, HO_7, HB⟩ := hrel
 cases gk with
 | zero => exact absurd HA.out (by simp [spec_l8Sides.l0])
 | succ k1 =>
 have H := HA.out
 clear HA
 simp only [spec_l8Sides.l0] at H
 by_cases c6 : x8_1 < (l2.length : Int)
 rotate_left
 ·
  rw [if_neg c6] at H
  have c6b0 : decide (x8_1 < (l2.length : Int)) = false := decide_eq_false c6
  clear c6
  obtain rfl := Option.some.inj H
  go_wp2
  repeat (go_quiet (fail); try go_wp2)
  go_ret
  exact ⟨_, er, by (with_reducible repeat (first | apply Kd.R_alloc | apply Kd.R_drewN | apply Kd.R_drew)); exact HO_7.out, pT HB.out⟩
 rw [if_pos c6] at H
 have c6b0 : decide (x8_1 < (l2.length : Int)) = true := decide_eq_true c6
 clear c6
 by_cases c7 : 0 ≤ x8_1
 rotate_left
 ·
  rw [if_neg c7] at H
  exact absurd H (by simp)
 rw [if_pos c7] at H
 have c7b0 : decide (0 ≤ x8_1) = true := decide_eq_true c7
 clear c7
 by_cases c8 : a0 = 0
 ·
  rw [if_pos c8] at H
  exact absurd H (by simp)
 rw [if_neg c8] at H
 have c8b0 : (a0 == 0) = false := beq_eq_false_iff_ne.mpr c8
 have c8b1 : (a0 != 0) = true := bne_iff_ne.mpr c8
 replace H := oA H
 obtain ⟨t106, A9, H⟩ := H
 replace H : (if t106 = true then (spec_l8Sides.j1 k1 a0 a1 l2 x7_1 x8_1 (Int.tmod (rd l2 x8_1) a0) (wrap64 (Int.tdiv (rd l2 x8_1) a0))) else (if x7_1.length < 5864062014805 then (spec_l8Sides.j1 k1 a0 a1 l2 (x7_1 ++ [(⟨Int.tmod (rd l2 x8_1) a0, wrap64 (Int.tdiv (rd l2 x8_1) a0), 0⟩ : S64)]) x8_1 (Int.tmod (rd l2 x8_1) a0) (wrap64 (Int.tdiv (rd l2 x8_1) a0))) else (none))) = some r := H
 have HC10 := aK H
 clear H
 have p104 : 0 ≤ (x8_1 : Int) := dA
 have q104 : x8_1 < (l2.length : Int) := dA
 obtain ⟨ad104, e104, hx104_0⟩ := Kd.at_int HR2.out x8_1 p104 q104
 cases e104
 replace hx104_0 := (HB.out.cell (World.block_lt_of_cell? w _ hx104_0)).trans hx104_0
 replace p104 := eq_true p104
 replace q104 := eq_true q104
 have p105 : 0 ≤ (x8_1 : Int) := dA
 have q105 : x8_1 < (l2.length : Int) := dA
 obtain ⟨ad105, e105, hx105_0⟩ := Kd.at_int HR2.out x8_1 p105 q105
 obtain rfl : ad104 = ad105 := (by injection e105)
 replace hx105_0 := (HB.out.cell (World.block_lt_of_cell? w _ hx105_0)).trans hx105_0
 replace p105 := eq_true p105
 replace q105 := eq_true q105
 go_upto_if 37 with (first | (go_at_call 42; (with_reducible refine (spec_l8Has.calls k1 a0 a1 _ _ l2 (Int.tmod (rd l2 x8_1) a0) (wrap64 ((wrap64 (Int.tdiv (rd l2 x8_1) a0)) - 1)) t106 _ ?side1 ?side2 A9.out).mono ?_); (case side1 => exact cB HR2 HB); (case side2 => exact HC2.out); rintro e w' ⟨rfl, ⟨nd, rfl⟩⟩; (try first | exact ⟨rfl, _, World.drewN_drewN _ _ _⟩ | exact ⟨rfl, _, Eq.trans (World.drewN_drewN _ _ _) (congrArg (World.drewN _) (Nat.add_assoc _ _ _))⟩)))
 repeat (go_quiet (first | (go_at_call 42; (with_reducible refine (spec_l8Has.calls k1 a0 a1 _ _ l2 (Int.tmod (rd l2 x8_1) a0) (wrap64 ((wrap64 (Int.tdiv (rd l2 x8_1) a0)) - 1)) t106 _ ?side1 ?side2 A9.out).mono ?_); (case side1 => exact cB HR2 HB); (case side2 => exact HC2.out); rintro e w' ⟨rfl, ⟨nd, rfl⟩⟩; (try first | exact ⟨rfl, _, World.drewN_drewN _ _ _⟩ | exact ⟨rfl, _, Eq.trans (World.drewN_drewN _ _ _) (congrArg (World.drewN _) (Nat.add_assoc _ _ _))⟩))); go_upto_if 37 with (first | (go_at_call 42; (with_reducible refine (spec_l8Has.calls k1 a0 a1 _ _ l2 (Int.tmod (rd l2 x8_1) a0) (wrap64 ((wrap64 (Int.tdiv (rd l2 x8_1) a0)) - 1)) t106 _ ?side1 ?side2 A9.out).mono ?_); (case side1 => exact cB HR2 HB); (case side2 => exact HC2.out); rintro e w' ⟨rfl, ⟨nd, rfl⟩⟩; (try first | exact ⟨rfl, _, World.drewN_drewN _ _ _⟩ | exact ⟨rfl, _, Eq.trans (World.drewN_drewN _ _ _) (congrArg (World.drewN _) (Nat.add_assoc _ _ _))⟩))))
 (try simp only [Act.put, List.setIfInBounds_toArray, List.set_cons_zero, List.set_cons_succ])
 go_cut [7] (fun v7 wc => ∃ (kq : Nat) (x7_9 : List (S64)), Aside0 (spec_l8Sides.j1 kq a0 a1 l2 x7_9 x8_1 (Int.tmod (rd l2 x8_1) a0) (wrap64 (Int.tdiv (rd l2 x8_1) a0)) = some r) ∧ Aside0 (kq ≤ k1) ∧ Aside0 (Kd.R k64 64 wc w.heap.size (fun _ => True) v7 x7_9) ∧ Aside0 (Below w.heap.size w wc))
 case first =>
  have H := HC10.out; clear HC10
  by_cases c11 : t106 = true
  ·
   subst c11
   have H1 : (spec_l8Sides.j1 k1 a0 a1 l2 x7_1 x8_1 (Int.tmod (rd l2 x8_1) a0) (wrap64 (Int.tdiv (rd l2 x8_1) a0))) = some r := by rw [if_pos rfl] at H; exact H
   clear H; have H := H1; clear H1; have H' := aK H; clear H
   go_wp2
   repeat (go_quiet (fail); try go_wp2)
   go_meet
   case rel => exact ⟨_, (x7_1), H', ⟨by have := HK1.out; first | omega | exact Nat.le_refl _⟩, ⟨pR HO_7.out⟩, ⟨pT HB.out⟩⟩
  replace c11 := Bool.eq_false_iff.mpr c11; subst c11
  have H1 : (if x7_1.length < 5864062014805 then (spec_l8Sides.j1 k1 a0 a1 l2 (x7_1 ++ [(⟨Int.tmod (rd l2 x8_1) a0, wrap64 (Int.tdiv (rd l2 x8_1) a0), 0⟩ : S64)]) x8_1 (Int.tmod (rd l2 x8_1) a0) (wrap64 (Int.tdiv (rd l2 x8_1) a0))) else (none)) = some r := by rw [if_neg (show ¬ (false = true) by decide)] at H; exact H
  clear H; have H := H1; clear H1
  by_cases c12 : x7_1.length < 5864062014805
  rotate_left
  ·
   rw [if_neg c12] at H
   exact absurd H (by simp)
  rw [if_pos c12] at H; have LMc12 := aK c12; clear c12
  obtain ⟨y107, hy107⟩ : ∃ y_ : List (S64), y_ = (x7_1 ++ [(⟨Int.tmod (rd l2 x8_1) a0, wrap64 (Int.tdiv (rd l2 x8_1) a0), 0⟩ : S64)]) := ⟨_, rfl⟩
  replace H : (spec_l8Sides.j1 k1 a0 a1 l2 y107 x8_1 (Int.tmod (rd l2 x8_1) a0) (wrap64 (Int.tdiv (rd l2 x8_1) a0))) = some r := by first | (rw [hy107]; first | with_reducible exact H | with_reducible exact (oS H :)) | with_reducible exact (oS H :) | with_reducible exact H | exact H
  have Ny107 := aK hy107; clear hy107; have H' := aK H; clear H
  go_wp2_with (first | ((with_reducible refine gate_builtin (b := .append) (xs := #[.tmp 38, .tmp 42]) rfl ?_); at_builtin; refine Kd.R_append k64 (w0 := w) w.heap.size rfl (.tmp 38) (.tmp 42) 42 64 (.agg #[(.int .i64 0), (.int .i64 0), (.int .i64 0)]) 24 rfl Try.underlying42 info64 rfl (by decide) (by omega) u7 x7_1 (⟨Int.tmod (rd l2 x8_1) a0, wrap64 (Int.tdiv (rd l2 x8_1) a0), 0⟩ : S64) [.int .i64 (Int.tmod (rd l2 x8_1) a0), .int .i64 (wrap64 (Int.tdiv (rd l2 x8_1) a0)), .int .i64 0] (fun _ => True) (fun _ => False) rfl rfl ?aP (fun _ hk => hk.elim) ?aF ?aO ?aB ?aS ?aL ?_; (case aP => exact k64_mkM _ _ _ (⟨Int.tmod (rd l2 x8_1) a0, wrap64 (Int.tdiv (rd l2 x8_1) a0), 0⟩ : S64)); (case aB => exact (pS HB.out)); (case aF => exact (fun _ _ => trivial)); (case aO => exact (pR HO_7.out)); (case aS => exact (below_size (pS HB.out))); (case aL => have := LMc12.out; omega); intro v108 w13 ho hb hg hat; rw [← Ny107.out] at ho; replace HB := aK (hb); have HO109 := aK (ho); clear HO_7; clear ho hb hg hat))
  repeat (go_quiet (first | ((with_reducible refine gate_builtin (b := .append) (xs := #[.tmp 38, .tmp 42]) rfl ?_); at_builtin; refine Kd.R_append k64 (w0 := w) w.heap.size rfl (.tmp 38) (.tmp 42) 42 64 (.agg #[(.int .i64 0), (.int .i64 0), (.int .i64 0)]) 24 rfl Try.underlying42 info64 rfl (by decide) (by omega) u7 x7_1 (⟨Int.tmod (rd l2 x8_1) a0, wrap64 (Int.tdiv (rd l2 x8_1) a0), 0⟩ : S64) [.int .i64 (Int.tmod (rd l2 x8_1) a0), .int .i64 (wrap64 (Int.tdiv (rd l2 x8_1) a0)), .int .i64 0] (fun _ => True) (fun _ => False) rfl rfl ?aP (fun _ hk => hk.elim) ?aF ?aO ?aB ?aS ?aL ?_; (case aP => exact k64_mkM _ _ _ (⟨Int.tmod (rd l2 x8_1) a0, wrap64 (Int.tdiv (rd l2 x8_1) a0), 0⟩ : S64)); (case aB => exact (pS HB.out)); (case aF => exact (fun _ _ => trivial)); (case aO => exact (pR HO_7.out)); (case aS => exact (below_size (pS HB.out))); (case aL => have := LMc12.out; omega); intro v108 w13 ho hb hg hat; rw [← Ny107.out] at ho; replace HB := aK (hb); have HO109 := aK (ho); clear HO_7; clear ho hb hg hat)); try go_wp2_with (first | ((with_reducible refine gate_builtin (b := .append) (xs := #[.tmp 38, .tmp 42]) rfl ?_); at_builtin; refine Kd.R_append k64 (w0 := w) w.heap.size rfl (.tmp 38) (.tmp 42) 42 64 (.agg #[(.int .i64 0), (.int .i64 0), (.int .i64 0)]) 24 rfl Try.underlying42 info64 rfl (by decide) (by omega) u7 x7_1 (⟨Int.tmod (rd l2 x8_1) a0, wrap64 (Int.tdiv (rd l2 x8_1) a0), 0⟩ : S64) [.int .i64 (Int.tmod (rd l2 x8_1) a0), .int .i64 (wrap64 (Int.tdiv (rd l2 x8_1) a0)), .int .i64 0] (fun _ => True) (fun _ => False) rfl rfl ?aP (fun _ hk => hk.elim) ?aF ?aO ?aB ?aS ?aL ?_; (case aP => exact k64_mkM _ _ _ (⟨Int.tmod (rd l2 x8_1) a0, wrap64 (Int.tdiv (rd l2 x8_1) a0), 0⟩ : S64)); (case aB => exact (pS HB.out)); (case aF => exact (fun _ _ => trivial)); (case aO => exact (pR HO_7.out)); (case aS => exact (below_size (pS HB.out))); (case aL => have := LMc12.out; omega); intro v108 w13 ho hb hg hat; rw [← Ny107.out] at ho; replace HB := aK (hb); have HO109 := aK (ho); clear HO_7; clear ho hb hg hat)))
  go_meet
  case rel => exact ⟨_, (y107), H', ⟨by have := HK1.out; first | omega | exact Nat.le_refl _⟩, ⟨pR HO109.out⟩, ⟨pT HB.out⟩⟩
 case rest =>
 clear HC10
 try clear c1
 try clear p1
 try clear q1
 try clear hx1
 try clear c2
 try clear p2
 try clear c6
 try clear c6b0
 try clear p6
 try clear c7
 try clear c7b0
 try clear c8
 try clear c8b0
 try clear c8b1
 try clear p10
 try clear q10
 try clear hx10
 try clear c11
 try clear c12
 try clear hx104_0
 try clear hx105_0
 try clear p104
 try clear p105
 try clear p2
 try clear q104
 try clear q105
 obtain ⟨kq, x7_9, HA, HJ9, HO_7, HB⟩ := hcut
 cases kq with
 | zero => exact absurd HA.out (by simp [spec_l8Sides.j1])
 | succ kj9 =>
 have H := HA.out
 clear HA
 simp only [spec_l8Sides.j1] at H
 replace H := oA H
 obtain ⟨t110, A14, H⟩ := H
 replace H : (if t110 = true then (spec_l8Sides.j2 kj9 a0 a1 l2 x7_9 x8_1 (Int.tmod (rd l2 x8_1) a0) (wrap64 (Int.tdiv (rd l2 x8_1) a0))) else (if x7_9.length < 5864062014805 then (spec_l8Sides.j2 kj9 a0 a1 l2 (x7_9 ++ [(⟨wrap64 ((Int.tmod (rd l2 x8_1) a0) + 1), (wrap64 (Int.tdiv (rd l2 x8_1) a0)), 1⟩ : S64)]) x8_1 (Int.tmod (rd l2 x8_1) a0) (wrap64 (Int.tdiv (rd l2 x8_1) a0))) else (none))) = some r := H
 have HC15 := aK H
 clear H
 go_upto_if 51 with (first | (go_at_call 42; (with_reducible refine (spec_l8Has.calls kj9 a0 a1 _ _ l2 (wrap64 ((Int.tmod (rd l2 x8_1) a0) + 1)) (wrap64 (Int.tdiv (rd l2 x8_1) a0)) t110 _ ?side1 ?side2 A14.out).mono ?_); (case side1 => exact cB HR2 HB); (case side2 => exact HC2.out); rintro e w' ⟨rfl, ⟨nd, rfl⟩⟩; (try first | exact ⟨rfl, _, World.drewN_drewN _ _ _⟩ | exact ⟨rfl, _, Eq.trans (World.drewN_drewN _ _ _) (congrArg (World.drewN _) (Nat.add_assoc _ _ _))⟩)))
 repeat (go_quiet (first | (go_at_call 42; (with_reducible refine (spec_l8Has.calls kj9 a0 a1 _ _ l2 (wrap64 ((Int.tmod (rd l2 x8_1) a0) + 1)) (wrap64 (Int.tdiv (rd l2 x8_1) a0)) t110 _ ?side1 ?side2 A14.out).mono ?_); (case side1 => exact cB HR2 HB); (case side2 => exact HC2.out); rintro e w' ⟨rfl, ⟨nd, rfl⟩⟩; (try first | exact ⟨rfl, _, World.drewN_drewN _ _ _⟩ | exact ⟨rfl, _, Eq.trans (World.drewN_drewN _ _ _) (congrArg (World.drewN _) (Nat.add_assoc _ _ _))⟩))); go_upto_if 51 with (first | (go_at_call 42; (with_reducible refine (spec_l8Has.calls kj9 a0 a1 _ _ l2 (wrap64 ((Int.tmod (rd l2 x8_1) a0) + 1)) (wrap64 (Int.tdiv (rd l2 x8_1) a0)) t110 _ ?side1 ?side2 A14.out).mono ?_); (case side1 => exact cB HR2 HB); (case side2 => exact HC2.out); rintro e w' ⟨rfl, ⟨nd, rfl⟩⟩; (try first | exact ⟨rfl, _, World.drewN_drewN _ _ _⟩ | exact ⟨rfl, _, Eq.trans (World.drewN_drewN _ _ _) (congrArg (World.drewN _) (Nat.add_assoc _ _ _))⟩))))
 (try simp only [Act.put, List.setIfInBounds_toArray, List.set_cons_zero, List.set_cons_succ])
 go_cut [7] (fun v7 wc => ∃ (kq : Nat) (x7_14 : List (S64)), Aside0 (spec_l8Sides.j2 kq a0 a1 l2 x7_14 x8_1 (Int.tmod (rd l2 x8_1) a0) (wrap64 (Int.tdiv (rd l2 x8_1) a0)) = some r) ∧ Aside0 (kq ≤ kj9) ∧ Aside0 (Kd.R k64 64 wc w.heap.size (fun _ => True) v7 x7_14) ∧ Aside0 (Below w.heap.size w wc))
 case first =>
  have H := HC15.out; clear HC15
  by_cases c16 : t110 = true
  ·
   subst c16
   have H1 : (spec_l8Sides.j2 kj9 a0 a1 l2 x7_9 x8_1 (Int.tmod (rd l2 x8_1) a0) (wrap64 (Int.tdiv (rd l2 x8_1) a0))) = some r := by rw [if_pos rfl] at H; exact H
   clear H; have H := H1; clear H1; have H' := aK H; clear H
   go_wp2
   repeat (go_quiet (fail); try go_wp2)
   go_meet
   case rel => exact ⟨_, (x7_9), H', ⟨by have := HK1.out; have := HJ9.out; first | omega | exact Nat.le_refl _⟩, ⟨pR HO_7.out⟩, ⟨pT HB.out⟩⟩
  replace c16 := Bool.eq_false_iff.mpr c16; subst c16
  have H1 : (if x7_9.length < 5864062014805 then (spec_l8Sides.j2 kj9 a0 a1 l2 (x7_9 ++ [(⟨wrap64 ((Int.tmod (rd l2 x8_1) a0) + 1), (wrap64 (Int.tdiv (rd l2 x8_1) a0)), 1⟩ : S64)]) x8_1 (Int.tmod (rd l2 x8_1) a0) (wrap64 (Int.tdiv (rd l2 x8_1) a0))) else (none)) = some r := by rw [if_neg (show ¬ (false = true) by decide)] at H; exact H
  clear H; have H := H1; clear H1
  by_cases c17 : x7_9.length < 5864062014805
  rotate_left
  ·
   rw [if_neg c17] at H
   exact absurd H (by simp)
  rw [if_pos c17] at H; have LMc17 := aK c17; clear c17
  obtain ⟨y111, hy111⟩ : ∃ y_ : List (S64), y_ = (x7_9 ++ [(⟨wrap64 ((Int.tmod (rd l2 x8_1) a0) + 1), (wrap64 (Int.tdiv (rd l2 x8_1) a0)), 1⟩ : S64)]) := ⟨_, rfl⟩
  replace H : (spec_l8Sides.j2 kj9 a0 a1 l2 y111 x8_1 (Int.tmod (rd l2 x8_1) a0) (wrap64 (Int.tdiv (rd l2 x8_1) a0))) = some r := by first | (rw [hy111]; first | with_reducible exact H | with_reducible exact (oS H :)) | with_reducible exact (oS H :) | with_reducible exact H | exact H
  have Ny111 := aK hy111; clear hy111; have H' := aK H; clear H
  go_wp2_with (first | ((with_reducible refine gate_builtin (b := .append) (xs := #[.tmp 52, .tmp 57]) rfl ?_); at_builtin; refine Kd.R_append k64 (w0 := w) w.heap.size rfl (.tmp 52) (.tmp 57) 42 64 (.agg #[(.int .i64 0), (.int .i64 0), (.int .i64 0)]) 24 rfl Try.underlying42 info64 rfl (by decide) (by omega) u7 x7_9 (⟨wrap64 ((Int.tmod (rd l2 x8_1) a0) + 1), (wrap64 (Int.tdiv (rd l2 x8_1) a0)), 1⟩ : S64) [.int .i64 (wrap64 ((Int.tmod (rd l2 x8_1) a0) + 1)), .int .i64 (wrap64 (Int.tdiv (rd l2 x8_1) a0)), .int .i64 1] (fun _ => True) (fun _ => False) rfl rfl ?aP (fun _ hk => hk.elim) ?aF ?aO ?aB ?aS ?aL ?_; (case aP => exact k64_mkM _ _ _ (⟨wrap64 ((Int.tmod (rd l2 x8_1) a0) + 1), (wrap64 (Int.tdiv (rd l2 x8_1) a0)), 1⟩ : S64)); (case aB => exact (pS HB.out)); (case aF => exact (fun _ _ => trivial)); (case aO => exact (pR HO_7.out)); (case aS => exact (below_size (pS HB.out))); (case aL => have := LMc17.out; omega); intro v112 w18 ho hb hg hat; rw [← Ny111.out] at ho; replace HB := aK (hb); have HO113 := aK (ho); clear HO_7; clear ho hb hg hat))
  repeat (go_quiet (first | ((with_reducible refine gate_builtin (b := .append) (xs := #[.tmp 52, .tmp 57]) rfl ?_); at_builtin; refine Kd.R_append k64 (w0 := w) w.heap.size rfl (.tmp 52) (.tmp 57) 42 64 (.agg #[(.int .i64 0), (.int .i64 0), (.int .i64 0)]) 24 rfl Try.underlying42 info64 rfl (by decide) (by omega) u7 x7_9 (⟨wrap64 ((Int.tmod (rd l2 x8_1) a0) + 1), (wrap64 (Int.tdiv (rd l2 x8_1) a0)), 1⟩ : S64) [.int .i64 (wrap64 ((Int.tmod (rd l2 x8_1) a0) + 1)), .int .i64 (wrap64 (Int.tdiv (rd l2 x8_1) a0)), .int .i64 1] (fun _ => True) (fun _ => False) rfl rfl ?aP (fun _ hk => hk.elim) ?aF ?aO ?aB ?aS ?aL ?_; (case aP => exact k64_mkM _ _ _ (⟨wrap64 ((Int.tmod (rd l2 x8_1) a0) + 1), (wrap64 (Int.tdiv (rd l2 x8_1) a0)), 1⟩ : S64)); (case aB => exact (pS HB.out)); (case aF => exact (fun _ _ => trivial)); (case aO => exact (pR HO_7.out)); (case aS => exact (below_size (pS HB.out))); (case aL => have := LMc17.out; omega); intro v112 w18 ho hb hg hat; rw [← Ny111.out] at ho; replace HB := aK (hb); have HO113 := aK (ho); clear HO_7; clear ho hb hg hat)); try go_wp2_with (first | ((with_reducible refine gate_builtin (b := .append) (xs := #[.tmp 52, .tmp 57]) rfl ?_); at_builtin; refine Kd.R_append k64 (w0 := w) w.heap.size rfl (.tmp 52) (.tmp 57) 42 64 (.agg #[(.int .i64 0), (.int .i64 0), (.int .i64 0)]) 24 rfl Try.underlying42 info64 rfl (by decide) (by omega) u7 x7_9 (⟨wrap64 ((Int.tmod (rd l2 x8_1) a0) + 1), (wrap64 (Int.tdiv (rd l2 x8_1) a0)), 1⟩ : S64) [.int .i64 (wrap64 ((Int.tmod (rd l2 x8_1) a0) + 1)), .int .i64 (wrap64 (Int.tdiv (rd l2 x8_1) a0)), .int .i64 1] (fun _ => True) (fun _ => False) rfl rfl ?aP (fun _ hk => hk.elim) ?aF ?aO ?aB ?aS ?aL ?_; (case aP => exact k64_mkM _ _ _ (⟨wrap64 ((Int.tmod (rd l2 x8_1) a0) + 1), (wrap64 (Int.tdiv (rd l2 x8_1) a0)), 1⟩ : S64)); (case aB => exact (pS HB.out)); (case aF => exact (fun _ _ => trivial)); (case aO => exact (pR HO_7.out)); (case aS => exact (below_size (pS HB.out))); (case aL => have := LMc17.out; omega); intro v112 w18 ho hb hg hat; rw [← Ny111.out] at ho; replace HB := aK (hb); have HO113 := aK (ho); clear HO_7; clear ho hb hg hat)))
  go_meet
  case rel => exact ⟨_, (y111), H', ⟨by have := HK1.out; have := HJ9.out; first | omega | exact Nat.le_refl _⟩, ⟨pR HO113.out⟩, ⟨pT HB.out⟩⟩
 case rest =>
 clear HC15
 try clear c1
 try clear p1
 try clear q1
 try clear hx1
 try clear c2
 try clear p2
 try clear c6
 try clear c6b0
 try clear p6
 try clear c7
 try clear c7b0
 try clear c8
 try clear c8b0
 try clear c8b1
 try clear p10
 try clear q10
 try clear hx10
 try clear c11
 try clear c12
 try clear c16
 try clear c17
 try clear hx104_0
 try clear hx105_0
 try clear p1
 try clear p10
 try clear p104
 try clear p105
 try clear p2
 try clear p6
 try clear q1
 try clear q10
 try clear q104
 try clear q105
 obtain ⟨kq, x7_14, HA, HJ14, HO_7, HB⟩ := hcut
 cases kq with
 | zero => exact absurd HA.out (by simp [spec_l8Sides.j2])
 | succ kj14 =>
 have H := HA.out
 clear HA
 simp only [spec_l8Sides.j2] at H
 replace H := oA H
 obtain ⟨t114, A19, H⟩ := H
 replace H : (if t114 = true then ((spec_l8Has.f kj14 a0 a1 l2 (wrap64 ((Int.tmod (rd l2 x8_1) a0) - 1)) (wrap64 (Int.tdiv (rd l2 x8_1) a0))).bind fun t115 => (if t115 = true then (spec_l8Sides.l0 kj14 a0 a1 l2 x7_14 (wrap64 (x8_1 + 1))) else (if x7_14.length < 5864062014805 then (spec_l8Sides.l0 kj14 a0 a1 l2 (x7_14 ++ [(⟨(Int.tmod (rd l2 x8_1) a0), wrap64 ((wrap64 (Int.tdiv (rd l2 x8_1) a0)) + 1), 3⟩ : S64)]) (wrap64 (x8_1 + 1))) else (none)))) else (if x7_14.length < 5864062014805 then ((some (x7_14 ++ [(⟨wrap64 ((Int.tmod (rd l2 x8_1) a0) + 1), wrap64 ((wrap64 (Int.tdiv (rd l2 x8_1) a0)) + 1), 2⟩ : S64)] : List (S64))).bind fun y119 => ((spec_l8Has.f kj14 a0 a1 l2 (wrap64 ((Int.tmod (rd l2 x8_1) a0) - 1)) (wrap64 (Int.tdiv (rd l2 x8_1) a0))).bind fun t122 => (if t122 = true then (spec_l8Sides.l0 kj14 a0 a1 l2 y119 (wrap64 (x8_1 + 1))) else (if y119.length < 5864062014805 then (spec_l8Sides.l0 kj14 a0 a1 l2 (y119 ++ [(⟨(Int.tmod (rd l2 x8_1) a0), wrap64 ((wrap64 (Int.tdiv (rd l2 x8_1) a0)) + 1), 3⟩ : S64)]) (wrap64 (x8_1 + 1))) else (none))))) else (none))) = some r := H
 by_cases c20 : t114 = true
 ·
  subst c20
  have H1 : ((spec_l8Has.f kj14 a0 a1 l2 (wrap64 ((Int.tmod (rd l2 x8_1) a0) - 1)) (wrap64 (Int.tdiv (rd l2 x8_1) a0))).bind fun t115 => (if t115 = true then (spec_l8Sides.l0 kj14 a0 a1 l2 x7_14 (wrap64 (x8_1 + 1))) else (if x7_14.length < 5864062014805 then (spec_l8Sides.l0 kj14 a0 a1 l2 (x7_14 ++ [(⟨(Int.tmod (rd l2 x8_1) a0), wrap64 ((wrap64 (Int.tdiv (rd l2 x8_1) a0)) + 1), 3⟩ : S64)]) (wrap64 (x8_1 + 1))) else (none)))) = some r := by rw [if_pos rfl] at H; exact H
  clear H; have H := H1; clear H1; replace H := oA H; obtain ⟨t115, A21, H⟩ := H
  replace H : (if t115 = true then (spec_l8Sides.l0 kj14 a0 a1 l2 x7_14 (wrap64 (x8_1 + 1))) else (if x7_14.length < 5864062014805 then (spec_l8Sides.l0 kj14 a0 a1 l2 (x7_14 ++ [(⟨(Int.tmod (rd l2 x8_1) a0), wrap64 ((wrap64 (Int.tdiv (rd l2 x8_1) a0)) + 1), 3⟩ : S64)]) (wrap64 (x8_1 + 1))) else (none))) = some r := H
  by_cases c22 : t115 = true
  ·
   subst c22
   have H1 : (spec_l8Sides.l0 kj14 a0 a1 l2 x7_14 (wrap64 (x8_1 + 1))) = some r := by rw [if_pos rfl] at H; exact H
   clear H; have H := H1; clear H1; have H' := aK H; clear H
   go_wp2_with (first | (go_at_call 42; (with_reducible refine (spec_l8Has.calls kj14 a0 a1 _ _ l2 (Int.tmod (rd l2 x8_1) a0) (wrap64 ((wrap64 (Int.tdiv (rd l2 x8_1) a0)) + 1)) true _ ?side1 ?side2 A19.out).mono ?_); (case side1 => exact cB HR2 HB); (case side2 => exact HC2.out); rintro e w' ⟨rfl, ⟨nd, rfl⟩⟩; (try first | exact ⟨rfl, _, World.drewN_drewN _ _ _⟩ | exact ⟨rfl, _, Eq.trans (World.drewN_drewN _ _ _) (congrArg (World.drewN _) (Nat.add_assoc _ _ _))⟩)) | (go_at_call 42; (with_reducible refine (spec_l8Has.calls kj14 a0 a1 _ _ l2 (wrap64 ((Int.tmod (rd l2 x8_1) a0) - 1)) (wrap64 (Int.tdiv (rd l2 x8_1) a0)) true _ ?side1 ?side2 A21.out).mono ?_); (case side1 => exact pC (Kd.C_below HR2.out (pS HB.out))); (case side2 => exact HC2.out); rintro e w' ⟨rfl, ⟨nd, rfl⟩⟩; (try first | exact ⟨rfl, _, World.drewN_drewN _ _ _⟩ | exact ⟨rfl, _, Eq.trans (World.drewN_drewN _ _ _) (congrArg (World.drewN _) (Nat.add_assoc _ _ _))⟩)))
   repeat (go_quiet (first | (go_at_call 42; (with_reducible refine (spec_l8Has.calls kj14 a0 a1 _ _ l2 (Int.tmod (rd l2 x8_1) a0) (wrap64 ((wrap64 (Int.tdiv (rd l2 x8_1) a0)) + 1)) true _ ?side1 ?side2 A19.out).mono ?_); (case side1 => exact cB HR2 HB); (case side2 => exact HC2.out); rintro e w' ⟨rfl, ⟨nd, rfl⟩⟩; (try first | exact ⟨rfl, _, World.drewN_drewN _ _ _⟩ | exact ⟨rfl, _, Eq.trans (World.drewN_drewN _ _ _) (congrArg (World.drewN _) (Nat.add_assoc _ _ _))⟩)) | (go_at_call 42; (with_reducible refine (spec_l8Has.calls kj14 a0 a1 _ _ l2 (wrap64 ((Int.tmod (rd l2 x8_1) a0) - 1)) (wrap64 (Int.tdiv (rd l2 x8_1) a0)) true _ ?side1 ?side2 A21.out).mono ?_); (case side1 => exact pC (Kd.C_below HR2.out (pS HB.out))); (case side2 => exact HC2.out); rintro e w' ⟨rfl, ⟨nd, rfl⟩⟩; (try first | exact ⟨rfl, _, World.drewN_drewN _ _ _⟩ | exact ⟨rfl, _, Eq.trans (World.drewN_drewN _ _ _) (congrArg (World.drewN _) (Nat.add_assoc _ _ _))⟩))); try go_wp2_with (first | (go_at_call 42; (with_reducible refine (spec_l8Has.calls kj14 a0 a1 _ _ l2 (Int.tmod (rd l2 x8_1) a0) (wrap64 ((wrap64 (Int.tdiv (rd l2 x8_1) a0)) + 1)) true _ ?side1 ?side2 A19.out).mono ?_); (case side1 => exact cB HR2 HB); (case side2 => exact HC2.out); rintro e w' ⟨rfl, ⟨nd, rfl⟩⟩; (try first | exact ⟨rfl, _, World.drewN_drewN _ _ _⟩ | exact ⟨rfl, _, Eq.trans (World.drewN_drewN _ _ _) (congrArg (World.drewN _) (Nat.add_assoc _ _ _))⟩)) | (go_at_call 42; (with_reducible refine (spec_l8Has.calls kj14 a0 a1 _ _ l2 (wrap64 ((Int.tmod (rd l2 x8_1) a0) - 1)) (wrap64 (Int.tdiv (rd l2 x8_1) a0)) true _ ?side1 ?side2 A21.out).mono ?_); (case side1 => exact pC (Kd.C_below HR2.out (pS HB.out))); (case side2 => exact HC2.out); rintro e w' ⟨rfl, ⟨nd, rfl⟩⟩; (try first | exact ⟨rfl, _, World.drewN_drewN _ _ _⟩ | exact ⟨rfl, _, Eq.trans (World.drewN_drewN _ _ _) (congrArg (World.drewN _) (Nat.add_assoc _ _ _))⟩))))
   go_roundg kj14
   case measure => have := HK1.out; have := HJ9.out; have := HJ14.out; omega
   case rel => exact ⟨(x7_14), (wrap64 (x8_1 + 1)), (by first | rfl | (simp; done) | (simp [*]; done)), H', ⟨by have := HK1.out; have := HJ9.out; have := HJ14.out; omega⟩, ⟨pR HO_7.out⟩, ⟨pT HB.out⟩⟩
  replace c22 := Bool.eq_false_iff.mpr c22; subst c22
  have H1 : (if x7_14.length < 5864062014805 then (spec_l8Sides.l0 kj14 a0 a1 l2 (x7_14 ++ [(⟨(Int.tmod (rd l2 x8_1) a0), wrap64 ((wrap64 (Int.tdiv (rd l2 x8_1) a0)) + 1), 3⟩ : S64)]) (wrap64 (x8_1 + 1))) else (none)) = some r := by rw [if_neg (show ¬ (false = true) by decide)] at H; exact H
  clear H; have H := H1; clear H1
  by_cases c23 : x7_14.length < 5864062014805
  rotate_left
  ·
   rw [if_neg c23] at H
   exact absurd H (by simp)
  rw [if_pos c23] at H; have LMc23 := aK c23; clear c23
  obtain ⟨y116, hy116⟩ : ∃ y_ : List (S64), y_ = (x7_14 ++ [(⟨(Int.tmod (rd l2 x8_1) a0), wrap64 ((wrap64 (Int.tdiv (rd l2 x8_1) a0)) + 1), 3⟩ : S64)]) := ⟨_, rfl⟩
  replace H : (spec_l8Sides.l0 kj14 a0 a1 l2 y116 (wrap64 (x8_1 + 1))) = some r := by first | (rw [hy116]; first | with_reducible exact H | with_reducible exact (oS H :)) | with_reducible exact (oS H :) | with_reducible exact H | exact H
  have Ny116 := aK hy116; clear hy116; have H' := aK H; clear H
  go_wp2_with (first | (go_at_call 42; (with_reducible refine (spec_l8Has.calls kj14 a0 a1 _ _ l2 (Int.tmod (rd l2 x8_1) a0) (wrap64 ((wrap64 (Int.tdiv (rd l2 x8_1) a0)) + 1)) true _ ?side1 ?side2 A19.out).mono ?_); (case side1 => exact cB HR2 HB); (case side2 => exact HC2.out); rintro e w' ⟨rfl, ⟨nd, rfl⟩⟩; (try first | exact ⟨rfl, _, World.drewN_drewN _ _ _⟩ | exact ⟨rfl, _, Eq.trans (World.drewN_drewN _ _ _) (congrArg (World.drewN _) (Nat.add_assoc _ _ _))⟩)) | (go_at_call 42; (with_reducible refine (spec_l8Has.calls kj14 a0 a1 _ _ l2 (wrap64 ((Int.tmod (rd l2 x8_1) a0) - 1)) (wrap64 (Int.tdiv (rd l2 x8_1) a0)) false _ ?side1 ?side2 A21.out).mono ?_); (case side1 => exact pC (Kd.C_below HR2.out (pS HB.out))); (case side2 => exact HC2.out); rintro e w' ⟨rfl, ⟨nd, rfl⟩⟩; (try first | exact ⟨rfl, _, World.drewN_drewN _ _ _⟩ | exact ⟨rfl, _, Eq.trans (World.drewN_drewN _ _ _) (congrArg (World.drewN _) (Nat.add_assoc _ _ _))⟩)) | ((with_reducible refine gate_builtin (b := .append) (xs := #[.tmp 83, .tmp 88]) rfl ?_); at_builtin; refine Kd.R_append k64 (w0 := w) w.heap.size rfl (.tmp 83) (.tmp 88) 42 64 (.agg #[(.int .i64 0), (.int .i64 0), (.int .i64 0)]) 24 rfl Try.underlying42 info64 rfl (by decide) (by omega) u7 x7_14 (⟨(Int.tmod (rd l2 x8_1) a0), wrap64 ((wrap64 (Int.tdiv (rd l2 x8_1) a0)) + 1), 3⟩ : S64) [.int .i64 (Int.tmod (rd l2 x8_1) a0), .int .i64 (wrap64 ((wrap64 (Int.tdiv (rd l2 x8_1) a0)) + 1)), .int .i64 3] (fun _ => True) (fun _ => False) rfl rfl ?aP (fun _ hk => hk.elim) ?aF ?aO ?aB ?aS ?aL ?_; (case aP => exact k64_mkM _ _ _ (⟨(Int.tmod (rd l2 x8_1) a0), wrap64 ((wrap64 (Int.tdiv (rd l2 x8_1) a0)) + 1), 3⟩ : S64)); (case aB => exact (pS HB.out)); (case aF => exact (fun _ _ => trivial)); (case aO => exact (pR HO_7.out)); (case aS => exact (below_size (pS HB.out))); (case aL => have := LMc23.out; omega); intro v117 w24 ho hb hg hat; rw [← Ny116.out] at ho; replace HB := aK (hb); have HO118 := aK (ho); clear HO_7; clear ho hb hg hat))
  repeat (go_quiet (first | (go_at_call 42; (with_reducible refine (spec_l8Has.calls kj14 a0 a1 _ _ l2 (Int.tmod (rd l2 x8_1) a0) (wrap64 ((wrap64 (Int.tdiv (rd l2 x8_1) a0)) + 1)) true _ ?side1 ?side2 A19.out).mono ?_); (case side1 => exact cB HR2 HB); (case side2 => exact HC2.out); rintro e w' ⟨rfl, ⟨nd, rfl⟩⟩; (try first | exact ⟨rfl, _, World.drewN_drewN _ _ _⟩ | exact ⟨rfl, _, Eq.trans (World.drewN_drewN _ _ _) (congrArg (World.drewN _) (Nat.add_assoc _ _ _))⟩)) | (go_at_call 42; (with_reducible refine (spec_l8Has.calls kj14 a0 a1 _ _ l2 (wrap64 ((Int.tmod (rd l2 x8_1) a0) - 1)) (wrap64 (Int.tdiv (rd l2 x8_1) a0)) false _ ?side1 ?side2 A21.out).mono ?_); (case side1 => exact pC (Kd.C_below HR2.out (pS HB.out))); (case side2 => exact HC2.out); rintro e w' ⟨rfl, ⟨nd, rfl⟩⟩; (try first | exact ⟨rfl, _, World.drewN_drewN _ _ _⟩ | exact ⟨rfl, _, Eq.trans (World.drewN_drewN _ _ _) (congrArg (World.drewN _) (Nat.add_assoc _ _ _))⟩)) | ((with_reducible refine gate_builtin (b := .append) (xs := #[.tmp 83, .tmp 88]) rfl ?_); at_builtin; refine Kd.R_append k64 (w0 := w) w.heap.size rfl (.tmp 83) (.tmp 88) 42 64 (.agg #[(.int .i64 0), (.int .i64 0), (.int .i64 0)]) 24 rfl Try.underlying42 info64 rfl (by decide) (by omega) u7 x7_14 (⟨(Int.tmod (rd l2 x8_1) a0), wrap64 ((wrap64 (Int.tdiv (rd l2 x8_1) a0)) + 1), 3⟩ : S64) [.int .i64 (Int.tmod (rd l2 x8_1) a0), .int .i64 (wrap64 ((wrap64 (Int.tdiv (rd l2 x8_1) a0)) + 1)), .int .i64 3] (fun _ => True) (fun _ => False) rfl rfl ?aP (fun _ hk => hk.elim) ?aF ?aO ?aB ?aS ?aL ?_; (case aP => exact k64_mkM _ _ _ (⟨(Int.tmod (rd l2 x8_1) a0), wrap64 ((wrap64 (Int.tdiv (rd l2 x8_1) a0)) + 1), 3⟩ : S64)); (case aB => exact (pS HB.out)); (case aF => exact (fun _ _ => trivial)); (case aO => exact (pR HO_7.out)); (case aS => exact (below_size (pS HB.out))); (case aL => have := LMc23.out; omega); intro v117 w24 ho hb hg hat; rw [← Ny116.out] at ho; replace HB := aK (hb); have HO118 := aK (ho); clear HO_7; clear ho hb hg hat)); try go_wp2_with (first | (go_at_call 42; (with_reducible refine (spec_l8Has.calls kj14 a0 a1 _ _ l2 (Int.tmod (rd l2 x8_1) a0) (wrap64 ((wrap64 (Int.tdiv (rd l2 x8_1) a0)) + 1)) true _ ?side1 ?side2 A19.out).mono ?_); (case side1 => exact cB HR2 HB); (case side2 => exact HC2.out); rintro e w' ⟨rfl, ⟨nd, rfl⟩⟩; (try first | exact ⟨rfl, _, World.drewN_drewN _ _ _⟩ | exact ⟨rfl, _, Eq.trans (World.drewN_drewN _ _ _) (congrArg (World.drewN _) (Nat.add_assoc _ _ _))⟩)) | (go_at_call 42; (with_reducible refine (spec_l8Has.calls kj14 a0 a1 _ _ l2 (wrap64 ((Int.tmod (rd l2 x8_1) a0) - 1)) (wrap64 (Int.tdiv (rd l2 x8_1) a0)) false _ ?side1 ?side2 A21.out).mono ?_); (case side1 => exact pC (Kd.C_below HR2.out (pS HB.out))); (case side2 => exact HC2.out); rintro e w' ⟨rfl, ⟨nd, rfl⟩⟩; (try first | exact ⟨rfl, _, World.drewN_drewN _ _ _⟩ | exact ⟨rfl, _, Eq.trans (World.drewN_drewN _ _ _) (congrArg (World.drewN _) (Nat.add_assoc _ _ _))⟩)) | ((with_reducible refine gate_builtin (b := .append) (xs := #[.tmp 83, .tmp 88]) rfl ?_); at_builtin; refine Kd.R_append k64 (w0 := w) w.heap.size rfl (.tmp 83) (.tmp 88) 42 64 (.agg #[(.int .i64 0), (.int .i64 0), (.int .i64 0)]) 24 rfl Try.underlying42 info64 rfl (by decide) (by omega) u7 x7_14 (⟨(Int.tmod (rd l2 x8_1) a0), wrap64 ((wrap64 (Int.tdiv (rd l2 x8_1) a0)) + 1), 3⟩ : S64) [.int .i64 (Int.tmod (rd l2 x8_1) a0), .int .i64 (wrap64 ((wrap64 (Int.tdiv (rd l2 x8_1) a0)) + 1)), .int .i64 3] (fun _ => True) (fun _ => False) rfl rfl ?aP (fun _ hk => hk.elim) ?aF ?aO ?aB ?aS ?aL ?_; (case aP => exact k64_mkM _ _ _ (⟨(Int.tmod (rd l2 x8_1) a0), wrap64 ((wrap64 (Int.tdiv (rd l2 x8_1) a0)) + 1), 3⟩ : S64)); (case aB => exact (pS HB.out)); (case aF => exact (fun _ _ => trivial)); (case aO => exact (pR HO_7.out)); (case aS => exact (below_size (pS HB.out))); (case aL => have := LMc23.out; omega); intro v117 w24 ho hb hg hat; rw [← Ny116.out] at ho; replace HB := aK (hb); have HO118 := aK (ho); clear HO_7; clear ho hb hg hat)))
  go_roundg kj14
  case measure => have := HK1.out; have := HJ9.out; have := HJ14.out; omega
  case rel => exact ⟨(y116), (wrap64 (x8_1 + 1)), (by first | rfl | (simp; done) | (simp [*]; done)), H', ⟨by have := HK1.out; have := HJ9.out; have := HJ14.out; omega⟩, ⟨pR HO118.out⟩, ⟨pT HB.out⟩⟩
 replace c20 := Bool.eq_false_iff.mpr c20
 subst c20
 have H1 : (if x7_14.length < 5864062014805 then ((some (x7_14 ++ [(⟨wrap64 ((Int.tmod (rd l2 x8_1) a0) + 1), wrap64 ((wrap64 (Int.tdiv (rd l2 x8_1) a0)) + 1), 2⟩ : S64)] : List (S64))).bind fun y119 => ((spec_l8Has.f kj14 a0 a1 l2 (wrap64 ((Int.tmod (rd l2 x8_1) a0) - 1)) (wrap64 (Int.tdiv (rd l2 x8_1) a0))).bind fun t122 => (if t122 = true then (spec_l8Sides.l0 kj14 a0 a1 l2 y119 (wrap64 (x8_1 + 1))) else (if y119.length < 5864062014805 then (spec_l8Sides.l0 kj14 a0 a1 l2 (y119 ++ [(⟨(Int.tmod (rd l2 x8_1) a0), wrap64 ((wrap64 (Int.tdiv (rd l2 x8_1) a0)) + 1), 3⟩ : S64)]) (wrap64 (x8_1 + 1))) else (none))))) else (none)) = some r := by rw [if_neg (show ¬ (false = true) by decide)] at H; exact H
 clear H
 have H := H1
 clear H1
 by_cases c25 : x7_14.length < 5864062014805
 rotate_left
 ·
  rw [if_neg c25] at H
  exact absurd H (by simp)
 rw [if_pos c25] at H
 have LMc25 := aK c25
 clear c25
 obtain ⟨y119, hy119⟩ : ∃ y_ : List (S64), y_ = (x7_14 ++ [(⟨wrap64 ((Int.tmod (rd l2 x8_1) a0) + 1), wrap64 ((wrap64 (Int.tdiv (rd l2 x8_1) a0)) + 1), 2⟩ : S64)]) := ⟨_, rfl⟩
 replace H : ((spec_l8Has.f kj14 a0 a1 l2 (wrap64 ((Int.tmod (rd l2 x8_1) a0) - 1)) (wrap64 (Int.tdiv (rd l2 x8_1) a0))).bind fun t122 => (if t122 = true then (spec_l8Sides.l0 kj14 a0 a1 l2 y119 (wrap64 (x8_1 + 1))) else (if y119.length < 5864062014805 then (spec_l8Sides.l0 kj14 a0 a1 l2 (y119 ++ [(⟨(Int.tmod (rd l2 x8_1) a0), wrap64 ((wrap64 (Int.tdiv (rd l2 x8_1) a0)) + 1), 3⟩ : S64)]) (wrap64 (x8_1 + 1))) else (none)))) = some r := by first | (rw [hy119]; first | with_reducible exact H | with_reducible exact (oS H :)) | with_reducible exact (oS H :) | with_reducible exact H | exact H
 have Ny119 := aK hy119
 clear hy119
 replace H := oA H
 obtain ⟨t122, A26, H⟩ := H
 replace H : (if t122 = true then (spec_l8Sides.l0 kj14 a0 a1 l2 y119 (wrap64 (x8_1 + 1))) else (if y119.length < 5864062014805 then (spec_l8Sides.l0 kj14 a0 a1 l2 (y119 ++ [(⟨(Int.tmod (rd l2 x8_1) a0), wrap64 ((wrap64 (Int.tdiv (rd l2 x8_1) a0)) + 1), 3⟩ : S64)]) (wrap64 (x8_1 + 1))) else (none))) = some r := H
 by_cases c27 : t122 = true
 ·
  subst c27
  have H1 : (spec_l8Sides.l0 kj14 a0 a1 l2 y119 (wrap64 (x8_1 + 1))) = some r := by rw [if_pos rfl] at H; exact H
  clear H; have H := H1; clear H1; have H' := aK H; clear H
  go_wp2_with (first | (go_at_call 42; (with_reducible refine (spec_l8Has.calls kj14 a0 a1 _ _ l2 (Int.tmod (rd l2 x8_1) a0) (wrap64 ((wrap64 (Int.tdiv (rd l2 x8_1) a0)) + 1)) false _ ?side1 ?side2 A19.out).mono ?_); (case side1 => exact cB HR2 HB); (case side2 => exact HC2.out); rintro e w' ⟨rfl, ⟨nd, rfl⟩⟩; (try first | exact ⟨rfl, _, World.drewN_drewN _ _ _⟩ | exact ⟨rfl, _, Eq.trans (World.drewN_drewN _ _ _) (congrArg (World.drewN _) (Nat.add_assoc _ _ _))⟩)) | ((with_reducible refine gate_builtin (b := .append) (xs := #[.tmp 67, .tmp 73]) rfl ?_); at_builtin; refine Kd.R_append k64 (w0 := w) w.heap.size rfl (.tmp 67) (.tmp 73) 42 64 (.agg #[(.int .i64 0), (.int .i64 0), (.int .i64 0)]) 24 rfl Try.underlying42 info64 rfl (by decide) (by omega) u7 x7_14 (⟨wrap64 ((Int.tmod (rd l2 x8_1) a0) + 1), wrap64 ((wrap64 (Int.tdiv (rd l2 x8_1) a0)) + 1), 2⟩ : S64) [.int .i64 (wrap64 ((Int.tmod (rd l2 x8_1) a0) + 1)), .int .i64 (wrap64 ((wrap64 (Int.tdiv (rd l2 x8_1) a0)) + 1)), .int .i64 2] (fun _ => True) (fun _ => False) rfl rfl ?aP (fun _ hk => hk.elim) ?aF ?aO ?aB ?aS ?aL ?_; (case aP => exact k64_mkM _ _ _ (⟨wrap64 ((Int.tmod (rd l2 x8_1) a0) + 1), wrap64 ((wrap64 (Int.tdiv (rd l2 x8_1) a0)) + 1), 2⟩ : S64)); (case aB => exact (pS HB.out)); (case aF => exact (fun _ _ => trivial)); (case aO => exact (pR HO_7.out)); (case aS => exact (below_size (pS HB.out))); (case aL => have := LMc25.out; omega); intro v120 w28 ho hb hg hat; rw [← Ny119.out] at ho; replace HB := aK (hb); have HO121 := aK (ho); clear HO_7; clear ho hb hg hat) | (go_at_call 42; (with_reducible refine (spec_l8Has.calls kj14 a0 a1 _ _ l2 (wrap64 ((Int.tmod (rd l2 x8_1) a0) - 1)) (wrap64 (Int.tdiv (rd l2 x8_1) a0)) true _ ?side1 ?side2 A26.out).mono ?_); (case side1 => exact cB HR2 HB); (case side2 => exact HC2.out); rintro e w' ⟨rfl, ⟨nd, rfl⟩⟩; (try first | exact ⟨rfl, _, World.drewN_drewN _ _ _⟩ | exact ⟨rfl, _, Eq.trans (World.drewN_drewN _ _ _) (congrArg (World.drewN _) (Nat.add_assoc _ _ _))⟩)))
  repeat (go_quiet (first | (go_at_call 42; (with_reducible refine (spec_l8Has.calls kj14 a0 a1 _ _ l2 (Int.tmod (rd l2 x8_1) a0) (wrap64 ((wrap64 (Int.tdiv (rd l2 x8_1) a0)) + 1)) false _ ?side1 ?side2 A19.out).mono ?_); (case side1 => exact cB HR2 HB); (case side2 => exact HC2.out); rintro e w' ⟨rfl, ⟨nd, rfl⟩⟩; (try first | exact ⟨rfl, _, World.drewN_drewN _ _ _⟩ | exact ⟨rfl, _, Eq.trans (World.drewN_drewN _ _ _) (congrArg (World.drewN _) (Nat.add_assoc _ _ _))⟩)) | ((with_reducible refine gate_builtin (b := .append) (xs := #[.tmp 67, .tmp 73]) rfl ?_); at_builtin; refine Kd.R_append k64 (w0 := w) w.heap.size rfl (.tmp 67) (.tmp 73) 42 64 (.agg #[(.int .i64 0), (.int .i64 0), (.int .i64 0)]) 24 rfl Try.underlying42 info64 rfl (by decide) (by omega) u7 x7_14 (⟨wrap64 ((Int.tmod (rd l2 x8_1) a0) + 1), wrap64 ((wrap64 (Int.tdiv (rd l2 x8_1) a0)) + 1), 2⟩ : S64) [.int .i64 (wrap64 ((Int.tmod (rd l2 x8_1) a0) + 1)), .int .i64 (wrap64 ((wrap64 (Int.tdiv (rd l2 x8_1) a0)) + 1)), .int .i64 2] (fun _ => True) (fun _ => False) rfl rfl ?aP (fun _ hk => hk.elim) ?aF ?aO ?aB ?aS ?aL ?_; (case aP => exact k64_mkM _ _ _ (⟨wrap64 ((Int.tmod (rd l2 x8_1) a0) + 1), wrap64 ((wrap64 (Int.tdiv (rd l2 x8_1) a0)) + 1), 2⟩ : S64)); (case aB => exact (pS HB.out)); (case aF => exact (fun _ _ => trivial)); (case aO => exact (pR HO_7.out)); (case aS => exact (below_size (pS HB.out))); (case aL => have := LMc25.out; omega); intro v120 w28 ho hb hg hat; rw [← Ny119.out] at ho; replace HB := aK (hb); have HO121 := aK (ho); clear HO_7; clear ho hb hg hat) | (go_at_call 42; (with_reducible refine (spec_l8Has.calls kj14 a0 a1 _ _ l2 (wrap64 ((Int.tmod (rd l2 x8_1) a0) - 1)) (wrap64 (Int.tdiv (rd l2 x8_1) a0)) true _ ?side1 ?side2 A26.out).mono ?_); (case side1 => exact cB HR2 HB); (case side2 => exact HC2.out); rintro e w' ⟨rfl, ⟨nd, rfl⟩⟩; (try first | exact ⟨rfl, _, World.drewN_drewN _ _ _⟩ | exact ⟨rfl, _, Eq.trans (World.drewN_drewN _ _ _) (congrArg (World.drewN _) (Nat.add_assoc _ _ _))⟩))); try go_wp2_with (first | (go_at_call 42; (with_reducible refine (spec_l8Has.calls kj14 a0 a1 _ _ l2 (Int.tmod (rd l2 x8_1) a0) (wrap64 ((wrap64 (Int.tdiv (rd l2 x8_1) a0)) + 1)) false _ ?side1 ?side2 A19.out).mono ?_); (case side1 => exact cB HR2 HB); (case side2 => exact HC2.out); rintro e w' ⟨rfl, ⟨nd, rfl⟩⟩; (try first | exact ⟨rfl, _, World.drewN_drewN _ _ _⟩ | exact ⟨rfl, _, Eq.trans (World.drewN_drewN _ _ _) (congrArg (World.drewN _) (Nat.add_assoc _ _ _))⟩)) | ((with_reducible refine gate_builtin (b := .append) (xs := #[.tmp 67, .tmp 73]) rfl ?_); at_builtin; refine Kd.R_append k64 (w0 := w) w.heap.size rfl (.tmp 67) (.tmp 73) 42 64 (.agg #[(.int .i64 0), (.int .i64 0), (.int .i64 0)]) 24 rfl Try.underlying42 info64 rfl (by decide) (by omega) u7 x7_14 (⟨wrap64 ((Int.tmod (rd l2 x8_1) a0) + 1), wrap64 ((wrap64 (Int.tdiv (rd l2 x8_1) a0)) + 1), 2⟩ : S64) [.int .i64 (wrap64 ((Int.tmod (rd l2 x8_1) a0) + 1)), .int .i64 (wrap64 ((wrap64 (Int.tdiv (rd l2 x8_1) a0)) + 1)), .int .i64 2] (fun _ => True) (fun _ => False) rfl rfl ?aP (fun _ hk => hk.elim) ?aF ?aO ?aB ?aS ?aL ?_; (case aP => exact k64_mkM _ _ _ (⟨wrap64 ((Int.tmod (rd l2 x8_1) a0) + 1), wrap64 ((wrap64 (Int.tdiv (rd l2 x8_1) a0)) + 1), 2⟩ : S64)); (case aB => exact (pS HB.out)); (case aF => exact (fun _ _ => trivial)); (case aO => exact (pR HO_7.out)); (case aS => exact (below_size (pS HB.out))); (case aL => have := LMc25.out; omega); intro v120 w28 ho hb hg hat; rw [← Ny119.out] at ho; replace HB := aK (hb); have HO121 := aK (ho); clear HO_7; clear ho hb hg hat) | (go_at_call 42; (with_reducible refine (spec_l8Has.calls kj14 a0 a1 _ _ l2 (wrap64 ((Int.tmod (rd l2 x8_1) a0) - 1)) (wrap64 (Int.tdiv (rd l2 x8_1) a0)) true _ ?side1 ?side2 A26.out).mono ?_); (case side1 => exact cB HR2 HB); (case side2 => exact HC2.out); rintro e w' ⟨rfl, ⟨nd, rfl⟩⟩; (try first | exact ⟨rfl, _, World.drewN_drewN _ _ _⟩ | exact ⟨rfl, _, Eq.trans (World.drewN_drewN _ _ _) (congrArg (World.drewN _) (Nat.add_assoc _ _ _))⟩))))
  go_roundg kj14
  case measure => have := HK1.out; have := HJ9.out; have := HJ14.out; omega
  case rel => exact ⟨(y119), (wrap64 (x8_1 + 1)), (by first | rfl | (simp; done) | (simp [*]; done)), H', ⟨by have := HK1.out; have := HJ9.out; have := HJ14.out; omega⟩, ⟨pR HO121.out⟩, ⟨pT HB.out⟩⟩
 replace c27 := Bool.eq_false_iff.mpr c27
 subst c27
 have H1 : (if y119.length < 5864062014805 then (spec_l8Sides.l0 kj14 a0 a1 l2 (y119 ++ [(⟨(Int.tmod (rd l2 x8_1) a0), wrap64 ((wrap64 (Int.tdiv (rd l2 x8_1) a0)) + 1), 3⟩ : S64)]) (wrap64 (x8_1 + 1))) else (none)) = some r := by rw [if_neg (show ¬ (false = true) by decide)] at H; exact H
 clear H
 have H := H1
 clear H1
 by_cases c29 : y119.length < 5864062014805
 rotate_left
 ·
  rw [if_neg c29] at H
  exact absurd H (by simp)
 rw [if_pos c29] at H
 have LMc29 := aK c29
 clear c29
 obtain ⟨y123, hy123⟩ : ∃ y_ : List (S64), y_ = (y119 ++ [(⟨(Int.tmod (rd l2 x8_1) a0), wrap64 ((wrap64 (Int.tdiv (rd l2 x8_1) a0)) + 1), 3⟩ : S64)]) := ⟨_, rfl⟩
 replace H : (spec_l8Sides.l0 kj14 a0 a1 l2 y123 (wrap64 (x8_1 + 1))) = some r := by first | (rw [hy123]; first | with_reducible exact H | with_reducible exact (oS H :)) | with_reducible exact (oS H :) | with_reducible exact H | exact H
 have Ny123 := aK hy123
 clear hy123
 have H' := aK H
 clear H
 go_wp2_with (first | (go_at_call 42; (with_reducible refine (spec_l8Has.calls kj14 a0 a1 _ _ l2 (Int.tmod (rd l2 x8_1) a0) (wrap64 ((wrap64 (Int.tdiv (rd l2 x8_1) a0)) + 1)) false _ ?side1 ?side2 A19.out).mono ?_); (case side1 => exact cB HR2 HB); (case side2 => exact HC2.out); rintro e w' ⟨rfl, ⟨nd, rfl⟩⟩; (try first | exact ⟨rfl, _, World.drewN_drewN _ _ _⟩ | exact ⟨rfl, _, Eq.trans (World.drewN_drewN _ _ _) (congrArg (World.drewN _) (Nat.add_assoc _ _ _))⟩)) | ((with_reducible refine gate_builtin (b := .append) (xs := #[.tmp 67, .tmp 73]) rfl ?_); at_builtin; refine Kd.R_append k64 (w0 := w) w.heap.size rfl (.tmp 67) (.tmp 73) 42 64 (.agg #[(.int .i64 0), (.int .i64 0), (.int .i64 0)]) 24 rfl Try.underlying42 info64 rfl (by decide) (by omega) u7 x7_14 (⟨wrap64 ((Int.tmod (rd l2 x8_1) a0) + 1), wrap64 ((wrap64 (Int.tdiv (rd l2 x8_1) a0)) + 1), 2⟩ : S64) [.int .i64 (wrap64 ((Int.tmod (rd l2 x8_1) a0) + 1)), .int .i64 (wrap64 ((wrap64 (Int.tdiv (rd l2 x8_1) a0)) + 1)), .int .i64 2] (fun _ => True) (fun _ => False) rfl rfl ?aP (fun _ hk => hk.elim) ?aF ?aO ?aB ?aS ?aL ?_; (case aP => exact k64_mkM _ _ _ (⟨wrap64 ((Int.tmod (rd l2 x8_1) a0) + 1), wrap64 ((wrap64 (Int.tdiv (rd l2 x8_1) a0)) + 1), 2⟩ : S64)); (case aB => exact (pS HB.out)); (case aF => exact (fun _ _ => trivial)); (case aO => exact (pR HO_7.out)); (case aS => exact (below_size (pS HB.out))); (case aL => have := LMc25.out; omega); intro v120 w30 ho hb hg hat; rw [← Ny119.out] at ho; replace HB := aK (hb); have HO121 := aK (ho); clear HO_7; clear ho hb hg hat) | (go_at_call 42; (with_reducible refine (spec_l8Has.calls kj14 a0 a1 _ _ l2 (wrap64 ((Int.tmod (rd l2 x8_1) a0) - 1)) (wrap64 (Int.tdiv (rd l2 x8_1) a0)) false _ ?side1 ?side2 A26.out).mono ?_); (case side1 => exact cB HR2 HB); (case side2 => exact HC2.out); rintro e w' ⟨rfl, ⟨nd, rfl⟩⟩; (try first | exact ⟨rfl, _, World.drewN_drewN _ _ _⟩ | exact ⟨rfl, _, Eq.trans (World.drewN_drewN _ _ _) (congrArg (World.drewN _) (Nat.add_assoc _ _ _))⟩)) | ((with_reducible refine gate_builtin (b := .append) (xs := #[.tmp 83, .tmp 88]) rfl ?_); at_builtin; refine Kd.R_append k64 (w0 := w) w.heap.size rfl (.tmp 83) (.tmp 88) 42 64 (.agg #[(.int .i64 0), (.int .i64 0), (.int .i64 0)]) 24 rfl Try.underlying42 info64 rfl (by decide) (by omega) v120 y119 (⟨(Int.tmod (rd l2 x8_1) a0), wrap64 ((wrap64 (Int.tdiv (rd l2 x8_1) a0)) + 1), 3⟩ : S64) [.int .i64 (Int.tmod (rd l2 x8_1) a0), .int .i64 (wrap64 ((wrap64 (Int.tdiv (rd l2 x8_1) a0)) + 1)), .int .i64 3] (fun _ => True) (fun _ => False) rfl rfl ?aP (fun _ hk => hk.elim) ?aF ?aO ?aB ?aS ?aL ?_; (case aP => exact k64_mkM _ _ _ (⟨(Int.tmod (rd l2 x8_1) a0), wrap64 ((wrap64 (Int.tdiv (rd l2 x8_1) a0)) + 1), 3⟩ : S64)); (case aB => exact (pS HB.out)); (case aF => exact (fun _ _ => trivial)); (case aO => exact (pR HO121.out)); (case aS => exact (below_size (pS HB.out))); (case aL => have := LMc29.out; omega); intro v124 w31 ho hb hg hat; rw [← Ny123.out] at ho; replace HB := aK (hb); have HO125 := aK (ho); clear HO121; clear ho hb hg hat))
 repeat (go_quiet (first | (go_at_call 42; (with_reducible refine (spec_l8Has.calls kj14 a0 a1 _ _ l2 (Int.tmod (rd l2 x8_1) a0) (wrap64 ((wrap64 (Int.tdiv (rd l2 x8_1) a0)) + 1)) false _ ?side1 ?side2 A19.out).mono ?_); (case side1 => exact cB HR2 HB); (case side2 => exact HC2.out); rintro e w' ⟨rfl, ⟨nd, rfl⟩⟩; (try first | exact ⟨rfl, _, World.drewN_drewN _ _ _⟩ | exact ⟨rfl, _, Eq.trans (World.drewN_drewN _ _ _) (congrArg (World.drewN _) (Nat.add_assoc _ _ _))⟩)) | ((with_reducible refine gate_builtin (b := .append) (xs := #[.tmp 67, .tmp 73]) rfl ?_); at_builtin; refine Kd.R_append k64 (w0 := w) w.heap.size rfl (.tmp 67) (.tmp 73) 42 64 (.agg #[(.int .i64 0), (.int .i64 0), (.int .i64 0)]) 24 rfl Try.underlying42 info64 rfl (by decide) (by omega) u7 x7_14 (⟨wrap64 ((Int.tmod (rd l2 x8_1) a0) + 1), wrap64 ((wrap64 (Int.tdiv (rd l2 x8_1) a0)) + 1), 2⟩ : S64) [.int .i64 (wrap64 ((Int.tmod (rd l2 x8_1) a0) + 1)), .int .i64 (wrap64 ((wrap64 (Int.tdiv (rd l2 x8_1) a0)) + 1)), .int .i64 2] (fun _ => True) (fun _ => False) rfl rfl ?aP (fun _ hk => hk.elim) ?aF ?aO ?aB ?aS ?aL ?_; (case aP => exact k64_mkM _ _ _ (⟨wrap64 ((Int.tmod (rd l2 x8_1) a0) + 1), wrap64 ((wrap64 (Int.tdiv (rd l2 x8_1) a0)) + 1), 2⟩ : S64)); (case aB => exact (pS HB.out)); (case aF => exact (fun _ _ => trivial)); (case aO => exact (pR HO_7.out)); (case aS => exact (below_size (pS HB.out))); (case aL => have := LMc25.out; omega); intro v120 w30 ho hb hg hat; rw [← Ny119.out] at ho; replace HB := aK (hb); have HO121 := aK (ho); clear HO_7; clear ho hb hg hat) | (go_at_call 42; (with_reducible refine (spec_l8Has.calls kj14 a0 a1 _ _ l2 (wrap64 ((Int.tmod (rd l2 x8_1) a0) - 1)) (wrap64 (Int.tdiv (rd l2 x8_1) a0)) false _ ?side1 ?side2 A26.out).mono ?_); (case side1 => exact cB HR2 HB); (case side2 => exact HC2.out); rintro e w' ⟨rfl, ⟨nd, rfl⟩⟩; (try first | exact ⟨rfl, _, World.drewN_drewN _ _ _⟩ | exact ⟨rfl, _, Eq.trans (World.drewN_drewN _ _ _) (congrArg (World.drewN _) (Nat.add_assoc _ _ _))⟩)) | ((with_reducible refine gate_builtin (b := .append) (xs := #[.tmp 83, .tmp 88]) rfl ?_); at_builtin; refine Kd.R_append k64 (w0 := w) w.heap.size rfl (.tmp 83) (.tmp 88) 42 64 (.agg #[(.int .i64 0), (.int .i64 0), (.int .i64 0)]) 24 rfl Try.underlying42 info64 rfl (by decide) (by omega) v120 y119 (⟨(Int.tmod (rd l2 x8_1) a0), wrap64 ((wrap64 (Int.tdiv (rd l2 x8_1) a0)) + 1), 3⟩ : S64) [.int .i64 (Int.tmod (rd l2 x8_1) a0), .int .i64 (wrap64 ((wrap64 (Int.tdiv (rd l2 x8_1) a0)) + 1)), .int .i64 3] (fun _ => True) (fun _ => False) rfl rfl ?aP (fun _ hk => hk.elim) ?aF ?aO ?aB ?aS ?aL ?_; (case aP => exact k64_mkM _ _ _ (⟨(Int.tmod (rd l2 x8_1) a0), wrap64 ((wrap64 (Int.tdiv (rd l2 x8_1) a0)) + 1), 3⟩ : S64)); (case aB => exact (pS HB.out)); (case aF => exact (fun _ _ => trivial)); (case aO => exact (pR HO121.out)); (case aS => exact (below_size (pS HB.out))); (case aL => have := LMc29.out; omega); intro v124 w31 ho hb hg hat; rw [← Ny123.out] at ho; replace HB := aK (hb); have HO125 := aK (ho); clear HO121; clear ho hb hg hat)); try go_wp2_with (first | (go_at_call 42; (with_reducible refine (spec_l8Has.calls kj14 a0 a1 _ _ l2 (Int.tmod (rd l2 x8_1) a0) (wrap64 ((wrap64 (Int.tdiv (rd l2 x8_1) a0)) + 1)) false _ ?side1 ?side2 A19.out).mono ?_); (case side1 => exact cB HR2 HB); (case side2 => exact HC2.out); rintro e w' ⟨rfl, ⟨nd, rfl⟩⟩; (try first | exact ⟨rfl, _, World.drewN_drewN _ _ _⟩ | exact ⟨rfl, _, Eq.trans (World.drewN_drewN _ _ _) (congrArg (World.drewN _) (Nat.add_assoc _ _ _))⟩)) | ((with_reducible refine gate_builtin (b := .append) (xs := #[.tmp 67, .tmp 73]) rfl ?_); at_builtin; refine Kd.R_append k64 (w0 := w) w.heap.size rfl (.tmp 67) (.tmp 73) 42 64 (.agg #[(.int .i64 0), (.int .i64 0), (.int .i64 0)]) 24 rfl Try.underlying42 info64 rfl (by decide) (by omega) u7 x7_14 (⟨wrap64 ((Int.tmod (rd l2 x8_1) a0) + 1), wrap64 ((wrap64 (Int.tdiv (rd l2 x8_1) a0)) + 1), 2⟩ : S64) [.int .i64 (wrap64 ((Int.tmod (rd l2 x8_1) a0) + 1)), .int .i64 (wrap64 ((wrap64 (Int.tdiv (rd l2 x8_1) a0)) + 1)), .int .i64 2] (fun _ => True) (fun _ => False) rfl rfl ?aP (fun _ hk => hk.elim) ?aF ?aO ?aB ?aS ?aL ?_; (case aP => exact k64_mkM _ _ _ (⟨wrap64 ((Int.tmod (rd l2 x8_1) a0) + 1), wrap64 ((wrap64 (Int.tdiv (rd l2 x8_1) a0)) + 1), 2⟩ : S64)); (case aB => exact (pS HB.out)); (case aF => exact (fun _ _ => trivial)); (case aO => exact (pR HO_7.out)); (case aS => exact (below_size (pS HB.out))); (case aL => have := LMc25.out; omega); intro v120 w30 ho hb hg hat; rw [← Ny119.out] at ho; replace HB := aK (hb); have HO121 := aK (ho); clear HO_7; clear ho hb hg hat) | (go_at_call 42; (with_reducible refine (spec_l8Has.calls kj14 a0 a1 _ _ l2 (wrap64 ((Int.tmod (rd l2 x8_1) a0) - 1)) (wrap64 (Int.tdiv (rd l2 x8_1) a0)) false _ ?side1 ?side2 A26.out).mono ?_); (case side1 => exact cB HR2 HB); (case side2 => exact HC2.out); rintro e w' ⟨rfl, ⟨nd, rfl⟩⟩; (try first | exact ⟨rfl, _, World.drewN_drewN _ _ _⟩ | exact ⟨rfl, _, Eq.trans (World.drewN_drewN _ _ _) (congrArg (World.drewN _) (Nat.add_assoc _ _ _))⟩)) | ((with_reducible refine gate_builtin (b := .append) (xs := #[.tmp 83, .tmp 88]) rfl ?_); at_builtin; refine Kd.R_append k64 (w0 := w) w.heap.size rfl (.tmp 83) (.tmp 88) 42 64 (.agg #[(.int .i64 0), (.int .i64 0), (.int .i64 0)]) 24 rfl Try.underlying42 info64 rfl (by decide) (by omega) v120 y119 (⟨(Int.tmod (rd l2 x8_1) a0), wrap64 ((wrap64 (Int.tdiv (rd l2 x8_1) a0)) + 1), 3⟩ : S64) [.int .i64 (Int.tmod (rd l2 x8_1) a0), .int .i64 (wrap64 ((wrap64 (Int.tdiv (rd l2 x8_1) a0)) + 1)), .int .i64 3] (fun _ => True) (fun _ => False) rfl rfl ?aP (fun _ hk => hk.elim) ?aF ?aO ?aB ?aS ?aL ?_; (case aP => exact k64_mkM _ _ _ (⟨(Int.tmod (rd l2 x8_1) a0), wrap64 ((wrap64 (Int.tdiv (rd l2 x8_1) a0)) + 1), 3⟩ : S64)); (case aB => exact (pS HB.out)); (case aF => exact (fun _ _ => trivial)); (case aO => exact (pR HO121.out)); (case aS => exact (below_size (pS HB.out))); (case aL => have := LMc29.out; omega); intro v124 w31 ho hb hg hat; rw [← Ny123.out] at ho; replace HB := aK (hb); have HO125 := aK (ho); clear HO121; clear ho hb hg hat)))
 go_roundg kj14
 case measure => have := HK1.out; have := HJ9.out; have := HJ14.out; omega
 case rel => exact ⟨(y123), (wrap64 (x8_1 + 1)), (by first | rfl | (simp; done) | (simp [*]; done)), H', ⟨by have := HK1.out; have := HJ9.out; have := HJ14.out; omega⟩, ⟨pR HO125.out⟩, ⟨pT HB.out⟩⟩
def spec_l8Before.f (a0_0 : Int) (a0_1 : Int) (a1_0 : Int) (a1_1 : Int) : Option (Bool) := if a0_1 < a1_1 then (some true) else (if a0_1 = a1_1 then (some (decide (a0_0 < a1_0))) else (some false))
theorem spec_l8Before.calls (a0_0 : Int) (a0_1 : Int) (a1_0 : Int) (a1_1 : Int) (r : Bool) (w : World) (h : spec_l8Before.f a0_0 a0_1 a1_0 a1_1 = some r) :
  Calls Try.prog 28 #[.agg #[.int .i64 a0_0, .int .i64 a0_1], .agg #[.int .i64 a1_0, .int .i64 a1_1]] w fun e w' => e = .returned (.bool r) ∧ Below w.heap.size w w' := by
 have hu48 := Try.underlying48
 have HB := aK (Below.refl w.heap.size w)
 have H : (if a0_1 < a1_1 then (some true) else (if a0_1 = a1_1 then (some (decide (a0_0 < a1_0))) else (some false))) = some r := h
 clear h
 by_cases c3 : a0_1 < a1_1
 ·
  rw [if_pos c3] at H
  have c3b0 : decide (a0_1 < a1_1) = true := decide_eq_true c3
  clear c3
  obtain rfl := Option.some.inj H
  go_enter Try.func28, Try.ntmps28
  go_wp2_with (first | ((with_reducible refine ga 2 rfl ?_); refine bxa #[.int .i64 a0_0, .int .i64 a0_1] 48 ?_; intro g101 hg w4 B101 hb; have GW101 := gA hg HB; replace HB := bS HB hb; clear hb hg) | ((with_reducible refine ga 3 rfl ?_); refine bxa #[.int .i64 a1_0, .int .i64 a1_1] 48 ?_; intro g102 hg w5 B102 hb; have GW102 := gA hg HB; obtain ⟨N101_102, N102_101⟩ := na hg B101; replace B101 := bB B101 hb; replace HB := bS HB hb; clear hb hg; obtain ⟨_, _⟩ := nB N101_102; obtain ⟨_, _, _, _⟩ := bc2 B101.out; obtain ⟨_, _, _, _⟩ := bc2 B102.out))
  go_ret
  exact ⟨er, pT HB.out⟩
 rw [if_neg c3] at H
 have c3b0 : decide (a0_1 < a1_1) = false := decide_eq_false c3
 clear c3
 by_cases c9 : a0_1 = a1_1
 ·
  rw [if_pos c9] at H
  have c9b0 : (a0_1 == a1_1) = true := beq_iff_eq.mpr c9
  have c9b1 : (a0_1 != a1_1) = false := bne_eq_false_iff_eq.mpr c9
  clear c9
  obtain rfl := Option.some.inj H
  go_enter Try.func28, Try.ntmps28
  go_wp2_with (first | ((with_reducible refine ga 2 rfl ?_); refine bxa #[.int .i64 a0_0, .int .i64 a0_1] 48 ?_; intro g101 hg w10 B101 hb; have GW101 := gA hg HB; replace HB := bS HB hb; clear hb hg) | ((with_reducible refine ga 3 rfl ?_); refine bxa #[.int .i64 a1_0, .int .i64 a1_1] 48 ?_; intro g102 hg w11 B102 hb; have GW102 := gA hg HB; obtain ⟨N101_102, N102_101⟩ := na hg B101; replace B101 := bB B101 hb; replace HB := bS HB hb; clear hb hg; obtain ⟨_, _⟩ := nB N101_102; obtain ⟨_, _, _, _⟩ := bc2 B101.out; obtain ⟨_, _, _, _⟩ := bc2 B102.out))
  go_ret
  exact ⟨er, pT HB.out⟩
 rw [if_neg c9] at H
 have c9b0 : (a0_1 == a1_1) = false := beq_eq_false_iff_ne.mpr c9
 have c9b1 : (a0_1 != a1_1) = true := bne_iff_ne.mpr c9
 obtain rfl := Option.some.inj H
 go_enter Try.func28, Try.ntmps28
 go_wp2_with (first | ((with_reducible refine ga 2 rfl ?_); refine bxa #[.int .i64 a0_0, .int .i64 a0_1] 48 ?_; intro g101 hg w15 B101 hb; have GW101 := gA hg HB; replace HB := bS HB hb; clear hb hg) | ((with_reducible refine ga 3 rfl ?_); refine bxa #[.int .i64 a1_0, .int .i64 a1_1] 48 ?_; intro g102 hg w16 B102 hb; have GW102 := gA hg HB; obtain ⟨N101_102, N102_101⟩ := na hg B101; replace B101 := bB B101 hb; replace HB := bS HB hb; clear hb hg; obtain ⟨_, _⟩ := nB N101_102; obtain ⟨_, _, _, _⟩ := bc2 B101.out; obtain ⟨_, _, _, _⟩ := bc2 B102.out))
 go_ret
 exact ⟨er, pT HB.out⟩
def spec_l8End.f (a0_0 : Int) (a0_1 : Int) (a0_2 : Int) : Option (Int × Int) := if a0_2 = 0 then (some (wrap64 (a0_0 + 1), a0_1)) else (if a0_2 = 1 then (some (a0_0, wrap64 (a0_1 + 1))) else (if a0_2 = 2 then (some (wrap64 (a0_0 - 1), a0_1)) else (some (a0_0, wrap64 (a0_1 - 1)))))
theorem spec_l8End.calls (a0_0 : Int) (a0_1 : Int) (a0_2 : Int) (r1 : Int) (r2 : Int) (w : World) (h : spec_l8End.f a0_0 a0_1 a0_2 = some (r1, r2)) :
  Calls Try.prog 51 #[.agg #[.int .i64 a0_0, .int .i64 a0_1, .int .i64 a0_2]] w fun e w' => e = .returned (.agg #[.int .i64 r1, .int .i64 r2]) ∧ Below w.heap.size w w' := by
 have hu64 := Try.underlying64
 have hu48 := Try.underlying48
 have HB := aK (Below.refl w.heap.size w)
 have H : (if a0_2 = 0 then (some (wrap64 (a0_0 + 1), a0_1)) else (if a0_2 = 1 then (some (a0_0, wrap64 (a0_1 + 1))) else (if a0_2 = 2 then (some (wrap64 (a0_0 - 1), a0_1)) else (some (a0_0, wrap64 (a0_1 - 1)))))) = some (r1, r2) := h
 clear h
 by_cases c2 : a0_2 = 0
 ·
  rw [if_pos c2] at H
  have c2b0 : (a0_2 == 0) = true := beq_iff_eq.mpr c2
  have c2b1 : (a0_2 != 0) = false := bne_eq_false_iff_eq.mpr c2
  clear c2
  simp only [Option.some.injEq, Prod.mk.injEq] at H
  obtain ⟨rfl, rfl⟩ := H
  go_enter Try.func51, Try.ntmps51
  go_wp2_with (first | ((with_reducible refine ga 1 rfl ?_); refine bxa #[.int .i64 a0_0, .int .i64 a0_1, .int .i64 a0_2] 64 ?_; intro g101 hg w3 B101 hb; have GW101 := gA hg HB; replace HB := bS HB hb; clear hb hg) | ((with_reducible refine ga 2 rfl ?_); refine bxa #[.int .i64 0, .int .i64 0] 48 ?_; intro g102 hg w4 B102 hb; have GW102 := gA hg HB; obtain ⟨N101_102, N102_101⟩ := na hg B101; replace B101 := bB B101 hb; replace HB := bS HB hb; clear hb hg; obtain ⟨_, _⟩ := nB N101_102; obtain ⟨_, _, _, _, _, _⟩ := bc3 B101.out; obtain ⟨_, _, _, _⟩ := bc2 B102.out))
  refine bodyPost_ret (results_cell_row rfl _ _ g102 48 #[.int .i64 (wrap64 (a0_0 + 1)), .int .i64 a0_1] (0, 0) _ rfl (by refine bq #[.int .i64 (wrap64 (a0_0 + 1)), .int .i64 0] 1 ?_; refine bq #[.int .i64 0, .int .i64 0] 0 ?_; refine bk ?_; exact B102.out) Try.underlying48 rfl (by kernel_rfl)) rfl ?_
  exact ⟨er, pT HB.out⟩
 rw [if_neg c2] at H
 have c2b0 : (a0_2 == 0) = false := beq_eq_false_iff_ne.mpr c2
 have c2b1 : (a0_2 != 0) = true := bne_iff_ne.mpr c2
 by_cases c8 : a0_2 = 1
 ·
  rw [if_pos c8] at H
  have c8b0 : (a0_2 == 1) = true := beq_iff_eq.mpr c8
  have c8b1 : (a0_2 != 1) = false := bne_eq_false_iff_eq.mpr c8
  clear c8
  simp only [Option.some.injEq, Prod.mk.injEq] at H
  obtain ⟨rfl, rfl⟩ := H
  go_enter Try.func51, Try.ntmps51
  go_wp2_with (first | ((with_reducible refine ga 1 rfl ?_); refine bxa #[.int .i64 a0_0, .int .i64 a0_1, .int .i64 a0_2] 64 ?_; intro g101 hg w9 B101 hb; have GW101 := gA hg HB; replace HB := bS HB hb; clear hb hg) | ((with_reducible refine ga 2 rfl ?_); refine bxa #[.int .i64 0, .int .i64 0] 48 ?_; intro g102 hg w10 B102 hb; have GW102 := gA hg HB; obtain ⟨N101_102, N102_101⟩ := na hg B101; replace B101 := bB B101 hb; replace HB := bS HB hb; clear hb hg; obtain ⟨_, _⟩ := nB N101_102; obtain ⟨_, _, _, _, _, _⟩ := bc3 B101.out; obtain ⟨_, _, _, _⟩ := bc2 B102.out))
  refine bodyPost_ret (results_cell_row rfl _ _ g102 48 #[.int .i64 a0_0, .int .i64 (wrap64 (a0_1 + 1))] (0, 0) _ rfl (by refine bq #[.int .i64 a0_0, .int .i64 0] 1 ?_; refine bq #[.int .i64 0, .int .i64 0] 0 ?_; refine bk ?_; exact B102.out) Try.underlying48 rfl (by kernel_rfl)) rfl ?_
  exact ⟨er, pT HB.out⟩
 rw [if_neg c8] at H
 have c8b0 : (a0_2 == 1) = false := beq_eq_false_iff_ne.mpr c8
 have c8b1 : (a0_2 != 1) = true := bne_iff_ne.mpr c8
 by_cases c14 : a0_2 = 2
 ·
  rw [if_pos c14] at H
  have c14b0 : (a0_2 == 2) = true := beq_iff_eq.mpr c14
  have c14b1 : (a0_2 != 2) = false := bne_eq_false_iff_eq.mpr c14
  clear c14
  simp only [Option.some.injEq, Prod.mk.injEq] at H
  obtain ⟨rfl, rfl⟩ := H
  go_enter Try.func51, Try.ntmps51
  go_wp2_with (first | ((with_reducible refine ga 1 rfl ?_); refine bxa #[.int .i64 a0_0, .int .i64 a0_1, .int .i64 a0_2] 64 ?_; intro g101 hg w15 B101 hb; have GW101 := gA hg HB; replace HB := bS HB hb; clear hb hg) | ((with_reducible refine ga 2 rfl ?_); refine bxa #[.int .i64 0, .int .i64 0] 48 ?_; intro g102 hg w16 B102 hb; have GW102 := gA hg HB; obtain ⟨N101_102, N102_101⟩ := na hg B101; replace B101 := bB B101 hb; replace HB := bS HB hb; clear hb hg; obtain ⟨_, _⟩ := nB N101_102; obtain ⟨_, _, _, _, _, _⟩ := bc3 B101.out; obtain ⟨_, _, _, _⟩ := bc2 B102.out))
  refine bodyPost_ret (results_cell_row rfl _ _ g102 48 #[.int .i64 (wrap64 (a0_0 - 1)), .int .i64 a0_1] (0, 0) _ rfl (by refine bq #[.int .i64 (wrap64 (a0_0 - 1)), .int .i64 0] 1 ?_; refine bq #[.int .i64 0, .int .i64 0] 0 ?_; refine bk ?_; exact B102.out) Try.underlying48 rfl (by kernel_rfl)) rfl ?_
  exact ⟨er, pT HB.out⟩
 rw [if_neg c14] at H
 have c14b0 : (a0_2 == 2) = false := beq_eq_false_iff_ne.mpr c14
 have c14b1 : (a0_2 != 2) = true := bne_iff_ne.mpr c14
 simp only [Option.some.injEq, Prod.mk.injEq] at H
 obtain ⟨rfl, rfl⟩ := H
 go_enter Try.func51, Try.ntmps51
 go_wp2_with (first | ((with_reducible refine ga 1 rfl ?_); refine bxa #[.int .i64 a0_0, .int .i64 a0_1, .int .i64 a0_2] 64 ?_; intro g101 hg w20 B101 hb; have GW101 := gA hg HB; replace HB := bS HB hb; clear hb hg) | ((with_reducible refine ga 2 rfl ?_); refine bxa #[.int .i64 0, .int .i64 0] 48 ?_; intro g102 hg w21 B102 hb; have GW102 := gA hg HB; obtain ⟨N101_102, N102_101⟩ := na hg B101; replace B101 := bB B101 hb; replace HB := bS HB hb; clear hb hg; obtain ⟨_, _⟩ := nB N101_102; obtain ⟨_, _, _, _, _, _⟩ := bc3 B101.out; obtain ⟨_, _, _, _⟩ := bc2 B102.out))
 refine bodyPost_ret (results_cell_row rfl _ _ g102 48 #[.int .i64 a0_0, .int .i64 (wrap64 (a0_1 - 1))] (0, 0) _ rfl (by refine bq #[.int .i64 a0_0, .int .i64 0] 1 ?_; refine bq #[.int .i64 0, .int .i64 0] 0 ?_; refine bk ?_; exact B102.out) Try.underlying48 rfl (by kernel_rfl)) rfl ?_
 exact ⟨er, pT HB.out⟩
end Go.Proofs.Ytnbpcacnbfbjkaa.P
