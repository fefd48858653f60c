/- Texts of the claim FnEnsembles, merged: part 3 of 11: the program's and the reference's functions as Lean functions, the walks that show it, and plain lemmas; no conditions. -/
import Derived.Test.YtpggcolcabmdeaaKFnEnsembles1
import Derived.Test.YtpggcolcabmdeaaKFnEnsembles2
import Derived.WalkKit
import Derived.Test.YtpggcolcabmdeaaProg
import Derived.Below
import Derived.Deep.Draws
import Derived.Deep.AppendLies
import Derived.Maps.AppendAt
import Derived.OwnWalk
import Derived.Laws.BytesArg
import Derived.Laws.MakeOwn
import Derived.Laws.OwnMore
import Derived.Deep.OwnRows
import Derived.Tactics
import Derived.Lib.ConvBytes
import Derived.Laws.Slices
import Derived.KernelRfl
import Derived.RowKit3
import Derived.Deep.LoopGhost
import Derived.Deep.QuietTactic
import Derived.BigQuiet
import Derived.WideLaws
import Derived.Deep.DeepCutAuto
import Derived.Deep.CutBlock
import Derived.Deep.RegionHeld3
import Derived.Laws.Rows
import Derived.Lib.AppendStr
import Derived.ArgAppend
import Derived.Laws.IdiomCopy
import Derived.OrdersHeld
import Derived.Laws.BitsLemmas
import Derived.RowKit
import Derived.Laws.CopyOwn
import Derived.Deep.RegionLaw
import Derived.Shelf.RegionOpenPlain
import Derived.RangeFuncRecord
import Derived.Deep.DeepMust
namespace Go.Proofs.Ytpggcolcabmdeaa.P
open Go.RowKit Go.Proofs.YtpggcolcabmdeaaW.PrintWords Go.Proofs.YtpggcolcabmdeaaW.PrintLast Go.Proofs.YtpggcolcabmdeaaW.PrintMore
class Pl (W : World) (w : outParam World) : Prop where
  bel : Below w.heap.size w W
instance (priority := low) Pl.base (W : World) : Pl W W := ⟨Below.refl _ _⟩
instance Pl.drew1 (W w : World) [h : Pl W w] : Pl W.drew w := ⟨below_drew1 h.bel⟩
instance Pl.drews (W w : World) (n : Nat) [h : Pl W w] : Pl (W.drewN n) w := ⟨pw_below_drewN h.bel n⟩
instance Pl.new1 (W w : World) (o : Obj) [h : Pl W w] : Pl (W.alloc o) w := ⟨below_alloc h.bel o⟩
theorem bk {W w : World} [p : Pl W w] {g : Nat} {o : Obj} (h : w.heap[g]? = some o) : W.heap[g]? = some o := blk_below h p.bel
theorem pC {α : Type} {d : Kd α} {w W : World} {A : Option Addr} {n : Nat} {xs : List α} (h : d.C w A n xs)
    (step : d.C w A n xs → d.C W A n xs := by intro h_; (with_reducible repeat (first | refine Kd.C_alloc ?_ _ | refine Kd.C_drewN ?_ _ | refine Kd.C_drew ?_)); exact h_) : d.C W A n xs := step h
theorem pT {w W0 W : World} (h : Below w.heap.size w W0)
    (step : Below w.heap.size w W0 → Below w.heap.size w W := by intro h_; repeat (first | (with_reducible first | exact h_ | apply below_alloc | apply pw_below_drewN | apply below_drew1 | refine below_set ?_ (Aside0.out (by assumption))) | exact h_)) : Below w.heap.size w W := step h
theorem sP : (∀ (a : Act) (N : Tmp) (v : Value), Act.put a (some N) v = { a with tmps := a.tmps.setIfInBounds N v }) ∧ (∀ (a : Act) (v : Value), Act.put a none v = a) ∧ (∀ (l : List Value) (i : Nat) (a : Value), l.toArray.setIfInBounds i a = (l.set i a).toArray) ∧ (∀ (x : Value) (xs : List Value) (a : Value), (x :: xs).set 0 a = a :: xs) ∧ (∀ (x : Value) (xs : List Value) (n : Nat) (a : Value), (x :: xs).set (n + 1) a = x :: xs.set n a) ∧ (∀ n : Int, IntKind.i64.wrap n = Go.RowKit.wrap64 n) ∧ (∀ n : Int, IntKind.i32.wrap n = Go.RowKit.wrap32 n) :=
  ⟨fun _ _ _ => rfl, fun _ _ => rfl, fun _ _ _ => List.setIfInBounds_toArray _ _ _, fun _ _ _ => rfl, fun _ _ _ _ => rfl, i64_w, i32_w⟩
theorem pK {w W0 W : World} {g : Nat} {row : Option Nat} (h : KeepBut w W0 g row)
    (step : KeepBut w W0 g row → KeepBut w W g row := by intro h_; repeat (first | (with_reducible first | exact h_ | apply KeepBut.set_ | apply keep_drewN | apply keep_drew | apply keep_alloc | refine keep_far ?_ (Aside0.out (by assumption)) _) | exact h_)) : KeepBut w W g row := step h
theorem aR {α : Type} {d : Kd α} {e B : Nat} {W w1 : World} {base : Nat} {ok : Nat → Prop} {v : Value} {xs : List α} (_hb : Below B W w1) (h : d.R e W base ok v xs) : Aside0 (d.R e W base ok v xs) := ⟨h⟩
section
variable {P : Program} {ops : Array Oper} {rest : List Oper} {o : Oper} {a : Act} {Q : Exit → Act → World → Prop}
theorem bxe {W : World} {cs : Array Value} {t : TypeId} (h : ∀ g, g = W.heap.size → ∀ w1, w1.heap[g]? = some (.cells cs t (0, 0)) → Below W.heap.size W w1 → wpList P ops Q rest (a.put o.dst (.pointer (some ⟨g, 0, none⟩))) w1)
    (hgd : o.guard = none := by rfl) (hrun : (execOp a.eval o).run P W = .ok (.value (.pointer (some ⟨W.heap.size, 0, none⟩))) (W.alloc (.cells cs t (0, 0))) := by first | (go_simp; done) | (go_simp; rfl)) : wpList P ops Q (o :: rest) a W :=
  Kd.event_run hgd hrun (h _ rfl _ (blk_new W _) (below_alloc (Below.refl _ _) _))
theorem gl {w : World} (N : Option Tmp) {f : FuncId} {fn : Func} {as_ : Array Operand} {ts : Array TypeId} (hf : P.funcs[f]? = some fn) (args : Array Value)
    (h : Calls P f args w fun e w' => ∃ v, e = .returned v ∧ wpList P ops Q rest (a.put N v) w') (hd : o.dst = N := by rfl) (hg : o.guard = none := by rfl)
    (hname : (fn.name == "runtime.NumGoroutine") = false := by kernel_rfl) (hb : fn.body.isSome = true := by rfl) (hop : o.op = .call { callee := .value (.func f), args := as_, argTypes := ts } := by exact rfl)
    (hargs : as_.map a.eval = args := by (try simp only [List.map_toArray, List.map_cons, List.map_nil]); first | done | rfl | (simp only [List.length_drop, List.length_take]; rfl)) : wpList P ops Q (o :: rest) a w :=
  goesL_ N hd hg hf hname hb args hop hargs h
end
theorem bc1 {W : World} {g : Nat} {a_ : Value} {t : TypeId} (h : W.heap[g]? = some (.cells #[a_] t (0, 0))) : W.cell? ⟨g, 0, none⟩ = some a_ ∧ W.frozen? ⟨g, 0, none⟩ = false := ⟨(blk_cell h 0).trans rfl, blk_frozen h 0⟩
theorem bc3 {W : World} {g : Nat} {a_ b_ c_ : Value} {t : TypeId} (h : W.heap[g]? = some (.cells #[a_, b_, c_] t (0, 0))) : W.cell? ⟨g, 0, none⟩ = some a_ ∧ W.cell? ⟨g, 1, none⟩ = some b_ ∧ W.cell? ⟨g, 2, none⟩ = some c_ ∧ W.frozen? ⟨g, 0, none⟩ = false ∧ W.frozen? ⟨g, 1, none⟩ = false ∧ W.frozen? ⟨g, 2, none⟩ = false := ⟨(blk_cell h 0).trans rfl, (blk_cell h 1).trans rfl, (blk_cell h 2).trans rfl, blk_frozen h 0, blk_frozen h 1, blk_frozen h 2⟩
end Go.Proofs.Ytpggcolcabmdeaa.P
namespace Go.Proofs.Ytpggcolcabmdeaa.P
open Go.RowKit Go.Proofs.YtpggcolcabmdeaaW.PrintWords Go.Proofs.YtpggcolcabmdeaaW.PrintLast Go.Proofs.YtpggcolcabmdeaaW.PrintMore
attribute [local go_sem] max2_int min2_int max_two min_two max_three min_three max_four min_four
set_option linter.unusedVariables false
set_option linter.unusedSimpArgs false
def errW : Option Int → Value
  | none => .nilIface
  | some c => .iface 0 (.int .i64 c)
theorem errW_none : errW none = .nilIface := rfl
theorem errW_some (c : Int) : errW (some c) = .iface 0 (.int .i64 c) := rfl
theorem info3 : (Try.prog.info? 3).map (fun i => (i.zero, i.size, i.bytes)) = some (some (.int .i64 0), 1, 8) := by kernel_rfl
theorem info29 : (Try.prog.info? 29).map (fun i => (i.zero, i.size, i.bytes)) = some (some (.agg #[(.int .i64 0), (.int .i64 0), (.slice none 0 0)]), 3, 40) := by kernel_rfl
structure S29 where
  f0 : Int
  f1 : Int
  f2 : (List Int)
def z29 : S29 := ⟨(0 : Int), (0 : Int), ([] : List Int)⟩
def k29 : Kd S29 := Kd.iso (Kd.pair (Kd.int .i64) (Kd.pair (Kd.int .i64) (Kd.slice 3 (Kd.int .i64)))) (fun x : S29 => (x.f0, x.f1, x.f2))
theorem k29_open {w : World} {x : S29} {cs : List Value} (h : k29.K w x cs) : ∃ A2 c2, cs = [.int .i64 x.f0, .int .i64 x.f1, .slice A2 x.f2.length c2] ∧ x.f2.length ≤ c2 ∧ (Kd.int .i64).C w A2 x.f2.length x.f2 := by
  obtain ⟨_, _, rfl, rfl, ⟨_, _, rfl, rfl, ⟨A2, c2, rfl, l2, g2⟩⟩⟩ := h
  exact ⟨A2, c2, rfl, l2, g2⟩
theorem k29_openM {w : World} {base : Nat} {ok : Nat → Prop} {x : S29} {cs : List Value} (h : k29.M w base ok x cs) : ∃ v2, cs = [.int .i64 x.f0, .int .i64 x.f1, v2] ∧ (Kd.int .i64).R 3 w base ok v2 x.f2 := by
  obtain ⟨_, _, rfl, rfl, ⟨_, _, rfl, rfl, ⟨v2, rfl, g2⟩⟩⟩ := h
  exact ⟨v2, rfl, g2⟩
theorem k29_mk (w : World) (x : S29) {A2 : Option Addr} {c2 : Nat} (l2 : x.f2.length ≤ c2) (g2 : (Kd.int .i64).C w A2 x.f2.length x.f2) : k29.K w x [.int .i64 x.f0, .int .i64 x.f1, .slice A2 x.f2.length c2] := ⟨[.int .i64 x.f0], [.int .i64 x.f1, .slice A2 x.f2.length c2], rfl, rfl, ⟨[.int .i64 x.f1], [.slice A2 x.f2.length c2], rfl, rfl, ⟨A2, c2, rfl, l2, g2⟩⟩⟩
theorem k29_mkM (w : World) (base : Nat) (ok : Nat → Prop) (x : S29) {v2 : Value} (g2 : (Kd.int .i64).R 3 w base ok v2 x.f2) : k29.M w base ok x [.int .i64 x.f0, .int .i64 x.f1, v2] := ⟨[.int .i64 x.f0], [.int .i64 x.f1, v2], rfl, rfl, ⟨[.int .i64 x.f1], [v2], rfl, rfl, ⟨v2, rfl, g2⟩⟩⟩
theorem k29_mkF (W : World) (ok : Nat → Prop) (x : S29) {A2 : Option Addr} {c2 : Nat} (l2 : x.f2.length ≤ c2) (g2 : Kd.F (Kd.int .i64) W ok A2 x.f2.length x.f2) : Kd.FK k29 W ok x [.int .i64 x.f0, .int .i64 x.f1, .slice A2 x.f2.length c2] := fun W2 hW => k29_mk W2 x l2 (g2 W2 hW)
def rd_T29 (xs : List S29) (i : Int) : S29 := xs.getD i.toNat z29
theorem at_T29 {w : World} {A : Option Addr} {n : Nat} {xs : List S29} (h : Kd.C k29 w A n xs) (i : Int) (h0 : 0 ≤ i) (h1 : i < n) : ∃ ad A2 c2, A = some ad ∧ w.cell? (ad.add (i.toNat * 3)) = some (.int .i64 (rd_T29 xs i).f0) ∧ w.cell? ⟨(ad.add (i.toNat * 3)).block, (ad.add (i.toNat * 3)).off + 1, none⟩ = some (.int .i64 (rd_T29 xs i).f1) ∧ w.cell? ⟨(ad.add (i.toNat * 3)).block, (ad.add (i.toNat * 3)).off + 2, none⟩ = some (.slice A2 (rd_T29 xs i).f2.length c2) ∧ (rd_T29 xs i).f2.length ≤ c2 ∧ (Kd.int .i64).C w A2 (rd_T29 xs i).f2.length (rd_T29 xs i).f2 := by
  obtain ⟨ad, c, e, _, hK, hc0⟩ := Kd.C_get h z29 i h0 h1
  have hc : ∀ j u, c[j]? = some u → w.cell? (ad.add (i.toNat * 3 + j)) = some u := hc0
  obtain ⟨A2, c2, rfl, l2, g2⟩ := k29_open hK
  exact ⟨ad, A2, c2, e, hc 0 _ rfl, by rw [← add_field _ _ 1 (by omega)]; exact hc 1 _ rfl, by rw [← add_field _ _ 2 (by omega)]; exact hc 2 _ rfl, l2, g2⟩
end Go.Proofs.Ytpggcolcabmdeaa.P
namespace Go.Proofs.Ytpggcolcabmdeaa.P
open Go.RowKit Go.Proofs.YtpggcolcabmdeaaW.PrintWords Go.Proofs.YtpggcolcabmdeaaW.PrintLast Go.Proofs.YtpggcolcabmdeaaW.PrintMore
theorem aK {p : Prop} (h : p) : Aside0 p := ⟨h⟩
theorem nL {W : World} {a b : Nat} {o : Obj} (hg : b = W.heap.size) (h : W.heap[a]? = some o) : a ≠ b := by
  rw [hg]
  exact Nat.ne_of_lt (blk_lt h)
theorem nG {W : World} {a b : Nat} {o : Obj} (hg : b = W.heap.size) (h : W.heap[a]? = some o) : b ≠ a := by
  rw [hg]
  exact Nat.ne_of_gt (blk_lt h)
theorem gE {w W : World} {g : Nat} (hg : g = W.heap.size) (h : Below w.heap.size w W) : w.heap.size ≤ g := by
  rw [hg]
  exact below_size h
theorem bB {w W w2 : World} {g : Nat} {o : Obj} (h : Aside0 (w.heap[g]? = some o)) (hb : Below W.heap.size W w2)
    (step : w.heap[g]? = some o → W.heap[g]? = some o := by intro h_; (with_reducible repeat (first | refine blk_drewN ?_ _ | refine blk_drew ?_ | refine blk_alloc ?_ _)); exact h_) : Aside0 (w2.heap[g]? = some o) := ⟨blk_below (step h.out) hb⟩
theorem bS {w W0 W w2 : World} (h : Aside0 (Below w.heap.size w W0)) (hb : Below W.heap.size W w2)
    (step : Below w.heap.size w W0 → Below w.heap.size w W := by intro h_; repeat (first | (with_reducible first | exact h_ | apply below_alloc | apply pw_below_drewN | apply below_drew1 | refine below_set ?_ (Aside0.out (by assumption))) | exact h_)) : Aside0 (Below w.heap.size w w2) := ⟨below_step (step h.out) hb⟩
section
variable {α β γ δ ε : Type} {d : Kd α} {d1 : Kd β} {d2 : Kd γ} {d3 : Kd δ} {d4 : Kd ε} {e e1 e2 e3 e4 base b1 b2 b3 b4 g t : Nat} {ok ok' ok1 ok2 ok3 ok4 : Nat → Prop} {w W w1 w2 : World} {u v v1 v2 v3 v4 : Value} {xs : List α} {ys1 : List β} {ys2 : List γ} {ys3 : List δ} {ys4 : List ε} {cells : Array Value}
theorem nw1 (h : d.R e w1 W.heap.size ok v xs) (a : d1.R e1 W b1 ok1 v1 ys1) : d.R e w1 W.heap.size (fun k => ok k ∧ some k ≠ v1.ownBlock) v xs := Kd.R_new' h (Kd.R_lt a)
theorem nw2 (h : d.R e w1 W.heap.size ok v xs) (a : d1.R e1 W b1 ok1 v1 ys1) (b : d2.R e2 W b2 ok2 v2 ys2) : d.R e w1 W.heap.size (fun k => (ok k ∧ some k ≠ v1.ownBlock) ∧ some k ≠ v2.ownBlock) v xs := nw1 (nw1 h a) b
theorem nw4 (h : d.R e w1 W.heap.size ok v xs) (a : d1.R e1 W b1 ok1 v1 ys1) (b : d2.R e2 W b2 ok2 v2 ys2) (c : d3.R e3 W b3 ok3 v3 ys3) (f : d4.R e4 W b4 ok4 v4 ys4) :
    d.R e w1 W.heap.size (fun k => (((ok k ∧ some k ≠ v1.ownBlock) ∧ some k ≠ v2.ownBlock) ∧ some k ≠ v3.ownBlock) ∧ some k ≠ v4.ownBlock) v xs := nw2 (nw2 h a b) c f
theorem rF3 (h : d.R e w base ok v xs) (hb : w.heap[g]? = some (.cells cells t (0, 0))) (a b c : Value) (ht : ∀ q, q ∈ e :: d.E → q ≠ t := by decide) : d.R e (((w.setCell ⟨g, 0, none⟩ a).setCell ⟨g, 1, none⟩ b).setCell ⟨g, 2, none⟩ c) base ok v xs :=
  Kd.R_mono (Kd.R_far (p := ⟨g, 2, none⟩) (Kd.R_far (p := ⟨g, 1, none⟩) (Kd.R_far (p := ⟨g, 0, none⟩) (Kd.R_types h hb ht) (fun _ hk => hk.2) a) (fun _ hk => hk.2) b) (fun _ hk => hk.2) c) (fun _ h_ => h_.1)
theorem rP (h : d.R e w base ok v xs) (hok : ∀ k, ok k → ok' k := by intro _ h_; (try simp only [and_assoc] at h_); first | exact h_ | (simp only [h_, ne_eq, not_false_eq_true, and_self, and_true]; done) | (simp only [ne_eq] at h_ ⊢; simp only [h_, not_false_eq_true, and_self]; done)) : d.R e w base ok' v xs := Kd.R_mono h hok
theorem rC {A : Option Addr} {n c : Nat} (h : d.R e w base ok (.slice A n c) xs) : d.C w A xs.length xs := (Kd.R_reads' h).2.2
end
theorem sI {A B : Option Addr} {n m c k : Nat} (h : Value.slice A n c = .slice B m k) : B = A ∧ k = c := by injection h with a b c; exact ⟨a.symm, c.symm⟩
section
variable {W : World} {g : Nat} {a_ b_ c_ d_ e_ : Value} {t : TypeId} {P : Prop}
theorem cz3 (h : W.heap[g]? = some (.cells #[a_, b_, c_] t (0, 0))) : W.cell? ⟨g, 0, none⟩ = some a_ ∧ W.cell? ⟨g, 1, none⟩ = some b_ ∧ W.cell? ⟨g, 2, none⟩ = some c_ := ⟨(blk_cell h 0).trans rfl, (blk_cell h 1).trans rfl, (blk_cell h 2).trans rfl⟩
theorem cj3 (h : W.heap[g]? = some (.cells #[a_, b_, c_] t (0, 0))) (p : P) : W.cell? ⟨g, 0, none⟩ = some a_ ∧ W.cell? ⟨g, 1, none⟩ = some b_ ∧ W.cell? ⟨g, 2, none⟩ = some c_ ∧ P := ⟨(cz3 h).1, (cz3 h).2.1, (cz3 h).2.2, p⟩
end
section
variable {P : Program} {ops : Array Oper} {Q : Exit → Act → World → Prop}
theorem gs {oi : Oper} {N : Option Tmp} {a : Act} {w : World} {K : Act → World → Prop} {f : FuncId} {fn : Func} {as_ : Array Operand} {ts : Array TypeId} (hf : P.funcs[f]? = some fn) (args : Array Value)
    (h : Calls P f args w fun e w' => ∃ v, e = .returned v ∧ K (a.put N v) w') (hw : Region.wanted oi (yielded ops a.tmps) = true := by rfl) (hN : oi.dst = N := by rfl)
    (hname : (fn.name == "runtime.NumGoroutine") = false := by kernel_rfl) (hb : fn.body.isSome = true := by rfl) (hop : oi.op = .call { callee := .value (.func f), args := as_, argTypes := ts } := by exact rfl)
    (hargs : as_.map a.eval = args := by (try simp only [List.map_toArray, List.map_cons, List.map_nil]); first | done | rfl | (simp only [List.length_drop, List.length_take]; rfl)) :
    if Region.wanted oi (yielded ops a.tmps) = true then Oper.wp P oi a w K Q else K (a.put N undef) w := goes_ hf hname hb args hw hN hop hargs h
end
theorem nb {W : World} {a b : Nat} {o : Obj} (hg : b = W.heap.size) (h : W.heap[a]? = some o) : Aside0 (a ≠ b) ∧ Aside0 (b ≠ a) := ⟨⟨nL hg h⟩, ⟨nG hg h⟩⟩
theorem er {α : Type} {a b : α} (h : a = b := by first | rfl | (simp [errW_none, errW_some] <;> rfl) | (simp [*, errW_none, errW_some] <;> rfl)) : a = b := h
theorem pV {w W0 W : World} {gb : Nat} (h : Below w.heap.size w W0) (g : w.heap.size ≤ gb)
    (step : w.heap.size ≤ gb → Below w.heap.size w W0 → Below w.heap.size w W := by intro g_ h_; repeat (first | (with_reducible first | exact h_ | apply below_alloc | apply pw_below_drewN | apply below_drew1 | refine below_set ?_ g_ | refine below_set ?_ (Aside0.out (by assumption))) | exact h_)) : Below w.heap.size w W := step g h
def bz (l : List Nat) : Array Bool := ⟨(l.foldr (fun n p => (List.replicate n (!p.2) ++ p.1, !p.2)) ([], true)).1⟩
section
variable {P : Program} {ops : Array Oper} {Q : Exit → Act → World → Prop} {md : Region.Mode} {S : World → Prop} {ds : List Nat} {T : Bool × List (List Nat × List Nat)}
theorem pz (i n : Nat) {oi : Oper} {v : Value} {fuel : Nat} {l : Array Bool} {a : Act} {w : World} (b : List Nat) (hT : Aside0 (rtab md ops = T)) {a' : Act}
    (h : wpAnyLast P md ops Q S ds fuel (bz b) a' w) (hi : ops[i]? = some oi := by exact rfl) (hN : oi.dst = some n := by exact rfl) (hc : anyT T l.toList (bz b).toList i = true := by kernel_rfl) (hy : Yields P ops oi v a := by exact Or.inl ⟨by rfl, by intro w'; go_simp; with_reducible rfl⟩)
    (ha : a.put (some n) v = a' := by first | (simp only [sP]; rfl) | (show Act.put _ _ _ = _; simp only [sP]; rfl)) (hQ : ∀ c a w, Q (.panic c) (a.put oi.dst v) w → Q (.panic c) a w := by exact fun _ _ _ h => h) : wpAnyLast P md ops Q S ds (fuel + 1) l a w :=
  pure_ (bz b) hi hN (any_of hT.out hc) hQ hy ha h
theorem pd (i n : Nat) {oi : Oper} {fuel : Nat} {l : Array Bool} {a : Act} {w : World} (b : List Nat) (hT : Aside0 (rtab md ops = T)) {a' : Act}
    (h : wpAnyLast P md ops Q S ds fuel (bz b) a' w) (hi : ops[i]? = some oi := by exact rfl) (hN : oi.dst = some n := by exact rfl) (hc : anyT T l.toList (bz b).toList i = true := by kernel_rfl) (hy : Region.wanted oi (yielded ops a.tmps) = false := by rfl)
    (ha : a.put (some n) undef = a' := by first | (simp only [sP]; rfl) | (show Act.put _ _ _ = _; simp only [sP]; rfl)) (hQ : ∀ c a w, Q (.panic c) (a.put oi.dst undef) w → Q (.panic c) a w := by exact fun _ _ _ h => h) : wpAnyLast P md ops Q S ds (fuel + 1) l a w :=
  pure_ (bz b) hi hN (any_of hT.out hc) hQ (Or.inr ⟨hy, rfl⟩) ha h
end
theorem nB {a b : Nat} (h : Aside0 (a ≠ b)) : a ≠ b ∧ b ≠ a := ⟨h.out, fun e => h.out e.symm⟩
section
variable {W : World} {p q r a : Addr} {u v w : Value} {x : Option Value}
theorem cf (h : Aside0 (a.block ≠ p.block)) (e : W.cell? a = x) : (W.setCell p u).cell? a = x := (cell_far h.out _).trans e
theorem cf2 (h : Aside0 (a.block ≠ p.block)) (e : W.cell? a = x) (hq : p.block = q.block := by exact rfl) : ((W.setCell p u).setCell q v).cell? a = x := cf ⟨hq ▸ h.out⟩ (cf h e)
theorem cf3 (h : Aside0 (a.block ≠ p.block)) (e : W.cell? a = x) (hq : p.block = q.block := by exact rfl) (hr : p.block = r.block := by exact rfl) : (((W.setCell p u).setCell q v).setCell r w).cell? a = x := cf ⟨hr ▸ h.out⟩ (cf2 h e hq)
end
section
variable {P : Program} {ops : Array Oper} {Q : Exit → Act → World → Prop} {md : Region.Mode} {S : World → Prop} {ds : List Nat} {T : Bool × List (List Nat × List Nat)}
theorem nm (n : Nat) {fuel : Nat} {l : Array Bool} {a a' b : Act} {v : Value} {w : World} (h : wpAnyLast P md ops Q S ds fuel l a' w) (e : a = b.put (some n) v := by exact rfl) (ha : b.put (some n) v = a' := by simp only [sP]; rfl) : wpAnyLast P md ops Q S ds fuel l a w := norm_ (e.trans ha) h
theorem oz (i n : Nat) {oi : Oper} {fuel : Nat} {l : Array Bool} {a : Act} {w : World} (b : List Nat) (hT : Aside0 (rtab md ops = T))
    (h : ∀ K : Act → World → Prop, Shut (∀ a' w', S w' → (S w' → wpAnyLast P md ops Q S ds fuel (bz b) a' w') → K a' w') → if Region.wanted oi (yielded ops a.tmps) = true then Oper.wp P oi a w K Q else K (a.put (some n) undef) w)
    (hi : ops[i]? = some oi := by exact rfl) (hN : oi.dst = some n := by exact rfl) (hc : (readyT T.2 l.toList == [i] && l.toList.set i true == (bz b).toList) = true := by kernel_rfl) (hd : i ∉ ds := by decide) : wpAnyLast P md ops Q S ds (fuel + 1) l a w := one_ (bz b) hi hN (one_of hT.out hc) hd h
theorem tz (i n : Nat) {oi : Oper} {v : Value} {fuel : Nat} {l : Array Bool} {a : Act} {w : World} {B : List Nat} (b : List Nat) (hT : Aside0 (rtab md ops = T)) (hB : Aside0 (waitsOk T.2 B = true)) (hi : ops[i]? = some oi) (hy : ∀ w, S w → (execOp a.eval oi).run P w = .ok (.value v) w) (hS : S w) {a' : Act}
    (h : wpAnyLast P md ops Q S ds fuel (bz b) a' w) (hN : oi.dst = some n := by exact rfl) (hc : takeW T B ds l.toList (bz b).toList i = true := by kernel_rfl) (hw : Region.wanted oi (yielded ops a.tmps) = true := by rfl)
    (ha : a.put (some n) v = a' := by first | (simp only [sP]; rfl) | (show Act.put _ _ _ = _; simp only [sP]; rfl)) (hQ : ∀ c a w, Q (.panic c) (a.put oi.dst v) w → Q (.panic c) a w := by exact fun _ _ _ h => h) : wpAnyLast P md ops Q S ds (fuel + 1) l a w :=
  take_ (bz b) hi hN (take_ofW hT.out hB.out hc) hQ (Or.inl ⟨hw, hy⟩) hS ha h
end
section
variable {α : Type} {d : Kd α} {e base : Nat} {ok : Nat → Prop} {w W w1 w2 : World} {g g' : Nat} {o : Obj} {v : Value}
theorem pW {xs : List α} (h : d.V e w base ok v xs) (step : d.V e w base ok v xs → d.V e W base ok v xs := by intro h_; (with_reducible repeat (first | apply Kd.V_alloc | apply Kd.V_drewN | apply Kd.V_drew)); exact h_) : d.V e W base ok v xs := step h
theorem pY {xs : List α} (h : d.S e w base ok v xs) (step : d.S e w base ok v xs → d.S e W base ok v xs := by intro h_; (with_reducible repeat (first | apply Kd.S_alloc | apply Kd.S_drewN | apply Kd.S_drew)); exact h_) : d.S e W base ok v xs := step h
theorem dA {p : Prop} [Decidable p] (h : decide p = true := by first | (with_reducible assumption) | assumption) : p := of_decide_eq_true h
theorem kB {row : Option Nat} (hk : KeepBut W w1 g row) (hb : Aside0 (w.heap[g']? = some o)) (hg : Aside0 (g' ≠ g)) (step : w.heap[g']? = some o → W.heap[g']? = some o := by intro h_; (with_reducible repeat (first | refine blk_drewN ?_ _ | refine blk_drew ?_ | refine blk_alloc ?_ _)); exact h_)
    (hr : some g' ≠ row := by simp) : Aside0 (w1.heap[g']? = some o) := ⟨KeepBut.blk hk (step hb.out) hg.out hr⟩
theorem hs {p : Addr} {v : Value} (hb : Below W.heap.size W w1) (h : W.cell? p = some v) : w1.cell? p = some v := (hb.cell (World.block_lt_of_cell? _ _ h)).trans h
theorem oS {α β : Type} {a : α} {f : α → Option β} {r : Option β} (h : (some a).bind f = r) : f a = r := (Option.bind_some _ _).symm.trans h
theorem bD (h : Aside0 (w.heap[g]? = some o)) : Aside0 (w.drew.heap[g]? = some o) := ⟨blk_drew h.out⟩
end
section
variable {α : Type} {d : Kd α} {e base : Nat} {ok : Nat → Prop} {w W w1 w2 : World} {g g' : Nat} {o : Obj} {v u : Value} {t : TypeId} {cs cs' : Array Value} {A : Option Addr} {n : Nat}
theorem rb {xs : List α} (h : Aside0 (d.R e w base ok v xs)) (hb : Below W.heap.size W w1) (step : d.R e w base ok v xs → d.R e W base ok v xs := by intro h_; (with_reducible repeat (first | apply Kd.R_alloc | apply Kd.R_drewN | apply Kd.R_drew)); exact h_) : Aside0 (d.R e w1 base ok v xs) := ⟨Kd.R_below (step h.out) hb⟩
theorem rdw {xs : List α} (h : Aside0 (d.R e w base ok v xs)) : Aside0 (d.R e w.drew base ok v xs) := ⟨Kd.R_drew h.out⟩
theorem vb {xs : List α} (h : Aside0 (d.V e w base ok v xs)) (hb : Below W.heap.size W w1) (step : d.V e w base ok v xs → d.V e W base ok v xs := by intro h_; (with_reducible repeat (first | apply Kd.V_alloc | apply Kd.V_drewN | apply Kd.V_drew)); exact h_) : Aside0 (d.V e w1 base ok v xs) := ⟨Kd.V_below (step h.out) hb⟩
theorem vdw {xs : List α} (h : Aside0 (d.V e w base ok v xs)) : Aside0 (d.V e w.drew base ok v xs) := ⟨Kd.V_drew h.out⟩
theorem sdw {xs : List α} (h : Aside0 (d.S e w base ok v xs)) : Aside0 (d.S e w.drew base ok v xs) := ⟨Kd.S_drew h.out⟩
theorem cB {xs : List α} (h : Aside0 (d.C w A n xs)) (hb : Aside0 (Below w.heap.size w w1)) (step : d.C w1 A n xs → d.C W A n xs := by intro h_; (with_reducible repeat (first | refine Kd.C_alloc ?_ _ | refine Kd.C_drewN ?_ _ | refine Kd.C_drew ?_)); exact h_) : d.C W A n xs := step (Kd.C_below h.out hb.out)
theorem bg {p : Addr} (hp : Aside0 (g ≠ p.block)) (h : w.heap[g]? = some (.cells cs t (0, 0))) [q : Pl W (w.setCell p u)] : W.heap[g]? = some (.cells cs t (0, 0)) := bk (blk_far h hp.out _)
theorem bq (cs : Array Value) (i : Nat) (h : w.heap[g]? = some (.cells cs t (0, 0))) [q : Pl W (w.setCell ⟨g, i, none⟩ u)] (e : cs.setIfInBounds i u = cs' := by rfl) : W.heap[g]? = some (.cells cs' t (0, 0)) := bk (blk_put h i _ e)
theorem oA {α β : Type} {a : Option α} {f : α → Option β} {r : β} (h : a.bind f = some r) : ∃ x, Aside0 (a = some x) ∧ f x = some r := let ⟨x, h1, h2⟩ := Option.bind_eq_some_iff.mp h; ⟨x, ⟨h1⟩, h2⟩
end
section
variable {P : Program} {ops : Array Oper} {rest : List Oper} {o : Oper} {a : Act} {Q : Exit → Act → World → Prop} {W : World}
theorem ga (N : Tmp) (_hN : o.dst = some N) (h : wpList P ops Q (o :: rest) a W) : wpList P ops Q (o :: rest) a W := h
theorem gc (f : FuncId) {as_ : Array Operand} {ts : Array TypeId} (_ho : o.op = .call { callee := .value (.func f), args := as_, argTypes := ts }) (h : wpList P ops Q (o :: rest) a W) : wpList P ops Q (o :: rest) a W := h
theorem bxa (cs : Array Value) (t : TypeId) (h : ∀ g, g = W.heap.size → ∀ w1, Aside0 (w1.heap[g]? = some (.cells cs t (0, 0))) → Below W.heap.size W w1 → wpList P ops Q rest (a.put o.dst (.pointer (some ⟨g, 0, none⟩))) w1)
    (hgd : o.guard = none := by rfl) (hrun : (execOp a.eval o).run P W = .ok (.value (.pointer (some ⟨W.heap.size, 0, none⟩))) (W.alloc (.cells cs t (0, 0))) := by first | (go_simp; done) | (go_simp; rfl)) : wpList P ops Q (o :: rest) a W := bxe (fun g hg w1 hb => h g hg w1 ⟨hb⟩) hgd hrun
end
theorem na {w W : World} {a b : Nat} {o : Obj} (hg : b = W.heap.size) (h : Aside0 (w.heap[a]? = some o)) (step : w.heap[a]? = some o → W.heap[a]? = some o := by intro h_; (with_reducible repeat (first | refine blk_drewN ?_ _ | refine blk_drew ?_ | refine blk_alloc ?_ _)); exact h_) : Aside0 (a ≠ b) ∧ Aside0 (b ≠ a) := nb hg (step h.out)
theorem gA {w W0 W : World} {g : Nat} (hg : g = W.heap.size) (h : Aside0 (Below w.heap.size w W0)) (step : Below w.heap.size w W0 → Below w.heap.size w W := by intro h_; repeat (first | (with_reducible first | exact h_ | apply below_alloc | apply pw_below_drewN | apply below_drew1 | refine below_set ?_ (Aside0.out (by assumption))) | exact h_)) : Aside0 (w.heap.size ≤ g) := ⟨gE hg (step h.out)⟩
theorem aI {k : IntKind} {e base : Nat} {ok : Nat → Prop} {w : World} {A : Option Addr} {n c : Nat} {xs : List Int} (h : Aside0 ((Kd.int k).R e w base ok (.slice A n c) xs)) (x : Int) (p : decide (0 ≤ x) = true := by first | (with_reducible assumption) | assumption)
    (q : decide (x < (xs.length : Int)) = true := by first | (with_reducible assumption) | assumption) : ∃ ad, A = some ad ∧ w.cell? (ad.add x.toNat) = some (.int k (rd xs x)) ∧ (0 ≤ x) = True ∧ (x < (xs.length : Int)) = True :=
  let ⟨ad, h1, h2⟩ := Kd.at_int (Kd.R_reads' h.out).2.2 x (of_decide_eq_true p) (of_decide_eq_true q); ⟨ad, h1, h2, eq_true (of_decide_eq_true p), eq_true (of_decide_eq_true q)⟩
theorem pR {α : Type} {d : Kd α} {e : Nat} {w W : World} {base : Nat} {ok : Nat → Prop} {v : Value} {xs : List α} (h : d.R e w base ok v xs)
    (step : d.R e w base ok v xs → d.R e W base ok v xs := by intro h_; (with_reducible repeat (first | apply Kd.R_alloc | apply Kd.R_drewN | apply Kd.R_drew)); exact h_) : d.R e W base ok v xs := step h
theorem pB {w W : World} {g : Nat} {o : Obj} (h : w.heap[g]? = some o)
    (step : w.heap[g]? = some o → W.heap[g]? = some o := by intro h_; (with_reducible repeat (first | refine blk_drewN ?_ _ | refine blk_drew ?_ | refine blk_alloc ?_ _)); exact h_) : W.heap[g]? = some o := step h
theorem pS {w W0 W : World} (h : Below w.heap.size w W0)
    (step : Below w.heap.size w W0 → Below w.heap.size w W := by intro h_; repeat (first | (with_reducible first | exact h_ | apply below_alloc | apply pw_below_drewN | apply below_drew1 | refine below_set ?_ (Aside0.out (by assumption))) | exact h_)) : Below w.heap.size w W := step h
def FnOwn (P : Program) (g : Nat) (lb : Array Value) (p : List Int → Option Int) (t : Nat) (w : World) : Prop :=
  ∀ (P_ : Nat → Prop) (u : Value) (l : List Int) (r : Int) (w0 W : World), Below w.heap.size w W → w.heap.size ≤ w0.heap.size → Below w0.heap.size w0 W → Kd.R (Kd.int .i64) t W w0.heap.size P_ u l → p l = some r →
    Calls P g (#[u] ++ lb) W fun e W' => e = .returned (.int .i64 r) ∧ Below w0.heap.size w0 W' ∧ Kept W W' (fun k_ => P_ k_)
theorem FnOwn.below {P : Program} {g : Nat} {lb : Array Value} {p : List Int → Option Int} {t : Nat} {w W : World} (h : FnOwn P g lb p t w) (hb : Below w.heap.size w W) : FnOwn P g lb p t W :=
  fun P_ u l r w0 W2 hb2 hle hB ho hp => h P_ u l r w0 W2 (below_step hb hb2) (Nat.le_trans hb.size hle) hB ho hp
theorem FnOwn.of_read {P : Program} {g : Nat} {lb : Array Value} {p : List Int → Option Int} {t : Nat} {w : World}
    (h : ∀ (A : Option Addr) (c : Nat) (l : List Int) (r : Int) (W : World), p l = some r → Below w.heap.size w W → Kd.C (Kd.int .i64) W A l.length l → l.length ≤ c →
      Calls P g (#[.slice A l.length c] ++ lb) W fun e W' => e = .returned (.int .i64 r) ∧ Below W.heap.size W W') : FnOwn P g lb p t w := by
  intro P_ u l r w0 W hb _ hB ho hp
  obtain ⟨A, c, rfl⟩ := Kd.R_slice ho
  obtain ⟨_, hc, hC⟩ := Kd.R_reads' ho
  refine (h A c l r W hp hb hC hc).mono ?_
  rintro e W' ⟨rfl, hw⟩
  exact ⟨rfl, below_step hB hw, Kept.of_below hw _⟩
theorem mp_goesA {P : Program} {ops : Array Oper} {Q : Exit → Act → World → Prop} {oi : Oper} {N : Option Tmp} {a : Act} {w : World} {K : Act → World → Prop} {g : FuncId} {lb : Array Value} {c : Operand} {aa : Array Operand} {ts : Array TypeId}
    (eg : ∀ args w, (callFunc g args).run P w = .ok (.enter g args) w) (args : Array Value) (hw : Region.wanted oi (yielded ops a.tmps) = true) (hN : oi.dst = N) (hop : oi.op = .call { callee := .value c, args := aa, argTypes := ts })
    (hc : a.eval c = .func (.func g) #[] lb) (hargs : aa.map a.eval = args) (h : Calls P g (args ++ lb) w fun e w' => ∃ v, e = .returned v ∧ K (a.put N v) w') : if Region.wanted oi (yielded ops a.tmps) = true then Oper.wp P oi a w K Q else K (a.put N undef) w := by
  refine call_ g (args ++ lb) hw hN ?_ h
  unfold execOp
  simp [hop, hc, resolve, Deferred.ofValue, invoke, hargs, eg]
end Go.Proofs.Ytpggcolcabmdeaa.P
namespace Go.Proofs.Ytpggcolcabmdeaa.P
open Go.RowKit Go.Proofs.YtpggcolcabmdeaaW.PrintWords Go.Proofs.YtpggcolcabmdeaaW.PrintLast Go.Proofs.YtpggcolcabmdeaaW.PrintMore
attribute [local go_sem] max2_int min2_int max_two min_two max_three min_three max_four min_four
set_option linter.unusedVariables false
set_option linter.unusedSimpArgs false
set_option maxHeartbeats 8000000
set_option maxRecDepth 100000
def impl_within.f (a0 : Int) (a1 : Int) (a2 : Int) : Option (Bool) := if a0 ≥ a1 then (some (decide (a0 ≤ a2))) else (some false)
theorem impl_within.calls (a0 : Int) (a1 : Int) (a2 : Int) (r : Bool) (w : World) (h : impl_within.f a0 a1 a2 = some r) :
  Calls Try.prog 20 #[.int .i64 a0, .int .i64 a1, .int .i64 a2] w fun e w' => e = .returned (.bool r) ∧ Drawn0 w w' := by
 have H : (if a0 ≥ a1 then (some (decide (a0 ≤ a2))) else (some false)) = some r := h
 clear h
 by_cases c4 : a0 ≥ a1
 ·
  rw [if_pos c4] at H
  have c4b0 : decide (a1 ≤ a0) = true := decide_eq_true c4
  clear c4
  obtain rfl := Option.some.inj H
  go_enter Try.func20, Try.ntmps20
  go_wp2
  go_ret
  exact ⟨by first | rfl | (simp; done) | (simp [*]; done), by repeat (first | exact Drawn0.refl _ | apply Drawn0.step)⟩
 rw [if_neg c4] at H
 have c4b0 : decide (a1 ≤ a0) = false := decide_eq_false c4
 clear c4
 obtain rfl := Option.some.inj H
 go_enter Try.func20, Try.ntmps20
 go_wp2
 go_ret
 exact ⟨by first | rfl | (simp; done) | (simp [*]; done), by repeat (first | exact Drawn0.refl _ | apply Drawn0.step)⟩
end Go.Proofs.Ytpggcolcabmdeaa.P
namespace Go.Proofs.Ytpggcolcabmdeaa.P
open Go.RowKit Go.Proofs.YtpggcolcabmdeaaW.PrintWords Go.Proofs.YtpggcolcabmdeaaW.PrintLast Go.Proofs.YtpggcolcabmdeaaW.PrintMore
attribute [local go_sem] max2_int min2_int max_two min_two max_three min_three max_four min_four
set_option linter.unusedVariables false
set_option linter.unusedSimpArgs false
def PredOK {α : Type} (g : Nat) (lb : Array Value) (enc : α → Value) (p : α → Bool) (w : World) : Prop :=
  ∀ (x : α) (W : World), Below w.heap.size w W → Calls Try.prog g (#[enc x] ++ lb) W fun e W' => e = .returned (.bool (p x)) ∧ Below W.heap.size W W'
def idxFrom {α : Type} (p : α → Bool) : Nat → List α → Int
  | _, [] => -1
  | i, x :: xs => if p x = true then (i : Int) else idxFrom p (i + 1) xs
theorem idxFrom_hit {α : Type} (p : α → Bool) (z : α) : ∀ (xs : List α) (i k : Nat), k < xs.length → p (xs.getD k z) = true → (∀ j, j < k → p (xs.getD j z) = false) → idxFrom p i xs = ((i + k : Nat) : Int)
  | [], _, k, h, _, _ => by simp at h
  | x :: xs, i, 0, _, h, _ => by simp only [List.getD_cons_zero] at h; simp [idxFrom, h]
  | x :: xs, i, k + 1, hk, h, hb => by
    have h0 : p x = false := by simpa using hb 0 (by omega)
    simp only [idxFrom, h0, Bool.false_eq_true, if_false]
    rw [idxFrom_hit p z xs (i + 1) k (by simpa using hk) (by simpa using h) (fun j hj => by simpa using hb (j + 1) (by omega))]
    congr 1
    omega
theorem idxFrom_miss {α : Type} (p : α → Bool) (z : α) : ∀ (xs : List α) (i : Nat), (∀ j, j < xs.length → p (xs.getD j z) = false) → idxFrom p i xs = -1
  | [], _, _ => rfl
  | x :: xs, i, hb => by
    have h0 : p x = false := by simpa using hb 0 (by simp)
    simp only [idxFrom, h0, Bool.false_eq_true, if_false]
    exact idxFrom_miss p z xs (i + 1) (fun j hj => by simpa using hb (j + 1) (by simpa using hj))
theorem idxFrom_any {α : Type} (p : α → Bool) : ∀ (xs : List α) (i : Nat), decide (idxFrom p i xs ≥ 0) = xs.any p
  | [], _ => rfl
  | x :: xs, i => by
    simp only [idxFrom, List.any_cons]
    by_cases h : p x = true
    · simp [h]
    · rw [Bool.not_eq_true] at h
      simp only [h, Bool.false_eq_true, if_false, Bool.false_or]
      exact idxFrom_any p xs (i + 1)
set_option maxHeartbeats 2000000 in
set_option maxRecDepth 100000 in
theorem indexFunc_int (g : Nat) (lb : Array Value) (p : Int → Bool) (eg : ∀ args w, (callFunc g args).run Try.prog w = .ok (.enter g args) w) (A : Option Addr) (c : Nat) (xs : List Int) (w : World)
    (hr : Kd.C (Kd.int .i64) w A xs.length xs) (hp : PredOK g lb (Value.int .i64) p w) :
    Calls Try.prog 85 #[.slice A xs.length c, .func (.func g) #[] lb] w fun e w' => e = .returned (.int .i64 (idxFrom p 0 xs)) ∧ Below w.heap.size w w' := by
 have hn : xs.length ≤ 9223372036854775807 := hr.2.1
 have HR := aK hr
 clear hr
 go_enter Try.func85, Try.ntmps85
 go_wp2
 go_loopg [5, 8] xs.length (fun gg _ s8 wr => ∃ x : Int, s8 = .int .i64 x ∧ Aside0 (0 ≤ x ∧ x ≤ (xs.length : Int) ∧ (xs.length : Int) - x ≤ (gg : Int) ∧ ∀ j : Nat, (j : Int) < x → p (xs.getD j 0) = false) ∧ Below w.heap.size w wr)
 case atStart => exact ⟨0, rfl, ⟨by omega, by omega, by omega, fun j hj => by omega⟩, Below.refl _ _⟩
 case round =>
 obtain ⟨x, rfl, AA, hb⟩ := hrel
 have HB := aK hb
 clear hb
 by_cases hlt : x < (xs.length : Int)
 rotate_left
 ·
  have c4b0 : decide (x < (xs.length : Int)) = false := decide_eq_false hlt
  have LT := aK hlt; clear hlt
  go_wp2_with fail
  go_ret
  have hA := AA.out; have hl := LT.out
  refine ⟨?_, HB.out⟩
  rw [idxFrom_miss p 0 xs 0 (fun j hj => hA.2.2.2 j (by omega))]
  rfl
 have c4b0 : decide (x < (xs.length : Int)) = true := decide_eq_true hlt
 obtain ⟨ad, e0, hcell⟩ := Kd.at_int (Kd.C_below HR.out HB.out) x AA.out.1 hlt
 cases e0
 have hcall := hp (rd xs x) _ HB.out
 have BB : Aside0 (xs.getD x.toNat 0 = rd xs x) := ⟨rfl⟩
 have p101 := eq_true AA.out.1
 have q101 := eq_true hlt
 have LT := aK hlt
 clear hlt
 cases hq : p (rd xs x) with
 | true =>
  rw [hq] at hcall; have HC := aK hcall; have HQ := aK hq; clear hcall hq
  go_wp2_with fail
  refine HC.out.mono ?_
  rintro e w' ⟨rfl, hb'⟩
  have HB2 := aK hb'; clear hb'
  go_wp2_with fail
  go_ret
  have hA := AA.out; have hl := LT.out
  refine ⟨?_, below_then HB.out HB.out.size HB2.out⟩
  rw [idxFrom_hit p 0 xs 0 x.toNat (by omega) (by rw [BB.out]; exact HQ.out) (fun j hj => hA.2.2.2 j (by omega))]
  rw [show ((0 + x.toNat : Nat) : Int) = x by omega]
  rfl
 | false =>
 rw [hq] at hcall
 have HC := aK hcall
 have HQ := aK hq
 clear hcall hq
 go_wp2_with fail
 refine HC.out.mono ?_
 rintro e w' ⟨rfl, hb'⟩
 have HB2 := aK hb'
 clear hb'
 go_wp2_with fail
 go_roundg (xs.length - (x.toNat + 1))
 case measure => have hA := AA.out; have hl := LT.out; omega
 case rel =>
 have hA := AA.out
 have hl := LT.out
 refine ⟨x + 1, by (first | rfl | (congr 1; unfold wrap64; omega)), ⟨by omega, by omega, by omega, fun j hj => ?_⟩, below_then HB.out HB.out.size HB2.out⟩
 by_cases e : (j : Int) = x
 ·
  have e2 : j = x.toNat := by omega
  rw [e2, BB.out]; exact HQ.out
 exact hA.2.2.2 j (by omega)
set_option maxHeartbeats 2000000 in
set_option maxRecDepth 100000 in
theorem containsFunc_int (g : Nat) (lb : Array Value) (p : Int → Bool) (eg : ∀ args w, (callFunc g args).run Try.prog w = .ok (.enter g args) w) (A : Option Addr) (c : Nat) (xs : List Int) (w : World)
    (hr : Kd.C (Kd.int .i64) w A xs.length xs) (hp : PredOK g lb (Value.int .i64) p w) :
    Calls Try.prog 73 #[.slice A xs.length c, .func (.func g) #[] lb] w fun e w' => e = .returned (.bool (xs.any p)) ∧ Below w.heap.size w w' := by
 rw [← idxFrom_any p xs 0]
 go_enter Try.func73, Try.ntmps73
 go_wp2_with (go_at_call 85; refine (indexFunc_int g lb p eg A c xs _ hr hp).mono ?_; rintro e w' ⟨rfl, hb'⟩)
 go_ret
 exact ⟨rfl, by assumption⟩
end Go.Proofs.Ytpggcolcabmdeaa.P
namespace Go.Proofs.Ytpggcolcabmdeaa.P
open Go.RowKit Go.Proofs.YtpggcolcabmdeaaW.PrintWords Go.Proofs.YtpggcolcabmdeaaW.PrintLast Go.Proofs.YtpggcolcabmdeaaW.PrintMore
attribute [local go_sem] max2_int min2_int max_two min_two max_three min_three max_four min_four
set_option linter.unusedVariables false
set_option linter.unusedSimpArgs false
set_option maxHeartbeats 8000000
set_option maxRecDepth 100000
def impl_isCell.f (a0 : Int) : Option (Bool) := if a0 = (-9999) then (some true) else ((impl_within.f a0 (-9000) 9000).bind fun t101 => (some t101))
theorem impl_isCell.calls (a0 : Int) (r : Bool) (w : World) (h : impl_isCell.f a0 = some r) :
  Calls Try.prog 75 #[.int .i64 a0] w fun e w' => e = .returned (.bool r) ∧ Drawn0 w w' := by
 have H : (if a0 = (-9999) then (some true) else ((impl_within.f a0 (-9000) 9000).bind fun t101 => (some t101))) = some r := h
 clear h
 by_cases c2 : a0 = (-9999)
 ·
  rw [if_pos c2] at H
  have c2b0 : (a0 == (-9999)) = true := beq_iff_eq.mpr c2
  have c2b1 : (a0 != (-9999)) = false := bne_eq_false_iff_eq.mpr c2
  clear c2
  obtain rfl := Option.some.inj H
  go_enter Try.func75, Try.ntmps75
  go_wp2
  go_ret
  exact ⟨by first | rfl | (simp; done) | (simp [*]; done), by repeat (first | exact Drawn0.refl _ | apply Drawn0.step)⟩
 rw [if_neg c2] at H
 have c2b0 : (a0 == (-9999)) = false := beq_eq_false_iff_ne.mpr c2
 have c2b1 : (a0 != (-9999)) = true := bne_iff_ne.mpr c2
 replace H := oA H
 obtain ⟨t101, A3, H⟩ := H
 replace H : (some t101) = some r := H
 obtain rfl := Option.some.inj H
 go_enter Try.func75, Try.ntmps75
 go_wp2_with (first | (go_at_call 20; (with_reducible refine (impl_within.calls a0 (-9000) 9000 t101 _ A3.out).mono ?_); rintro e w' ⟨rfl, ⟨nd, rfl⟩⟩))
 go_ret
 exact ⟨by first | rfl | (simp; done) | (simp [*]; done), by repeat (first | exact Drawn0.refl _ | apply Drawn0.step)⟩
def impl_IsValidField_1.f (a0 : Int) : Option (Bool) := (impl_isCell.f a0).bind fun t101 => (some (!t101))
theorem impl_IsValidField_1.calls (a0 : Int) (r : Bool) (w : World) (h : impl_IsValidField_1.f a0 = some r) :
  Calls Try.prog 74 #[.int .i64 a0] w fun e w' => e = .returned (.bool r) ∧ Drawn0 w w' := by
 have H : ((impl_isCell.f a0).bind fun t101 => (some (!t101))) = some r := h
 clear h
 replace H := oA H
 obtain ⟨t101, A2, H⟩ := H
 replace H : (some (!t101)) = some r := H
 obtain rfl := Option.some.inj H
 go_enter Try.func74, Try.ntmps74
 go_wp2_with (first | ((with_reducible refine gc 75 rfl ?_); refine gl (some 4) Try.func75 #[.int .i64 a0] ?_; (with_reducible refine (impl_isCell.calls a0 t101 _ A2.out).mono ?_); rintro e w' ⟨rfl, ⟨nd, rfl⟩⟩; refine ⟨_, rfl, ?_⟩))
 go_ret
 exact ⟨by first | rfl | (simp; done) | (simp [*]; done), by repeat (first | exact Drawn0.refl _ | apply Drawn0.step)⟩
end Go.Proofs.Ytpggcolcabmdeaa.P
namespace Go.Proofs.Ytpggcolcabmdeaa.P
open Go.RowKit Go.Proofs.YtpggcolcabmdeaaW.PrintWords Go.Proofs.YtpggcolcabmdeaaW.PrintLast Go.Proofs.YtpggcolcabmdeaaW.PrintMore
attribute [local go_sem] max2_int min2_int max_two min_two max_three min_three max_four min_four
set_option linter.unusedVariables false
set_option linter.unusedSimpArgs false
def slices_ContainsFunc_int_at_impl_IsValidField_1.p (x : Int) : Bool := !(decide (x = -9999) || (decide (-9000 ≤ x) && decide (x ≤ 9000)))
def slices_ContainsFunc_int_at_impl_IsValidField_1.f (l0 : List Int) : Option Bool := some (l0.any slices_ContainsFunc_int_at_impl_IsValidField_1.p)
theorem slices_ContainsFunc_int_at_impl_IsValidField_1.one (x : Int) : impl_IsValidField_1.f x = some (slices_ContainsFunc_int_at_impl_IsValidField_1.p x) := by
 unfold impl_IsValidField_1.f impl_isCell.f impl_within.f slices_ContainsFunc_int_at_impl_IsValidField_1.p
 by_cases h : x = -9999
 ·
  simp [h]
 by_cases h1 : -9000 ≤ x <;> simp [h, h1]
theorem slices_ContainsFunc_int_at_impl_IsValidField_1.calls (A0 : Option Addr) (c0 : Nat) (l0 : List Int) (r : Bool) (w : World) (hr0 : Kd.C (Kd.int .i64) w A0 l0.length l0) (_hc0 : l0.length ≤ c0) (h : slices_ContainsFunc_int_at_impl_IsValidField_1.f l0 = some r) :
    Calls Try.prog 73 #[.slice A0 l0.length c0, .func (.func 74) #[] #[]] w fun e w' => e = .returned (.bool r) ∧ Below w.heap.size w w' := by
 obtain rfl := Option.some.inj h
 refine containsFunc_int 74 #[] _ (fun args w => enters_ Try.func74 (by kernel_rfl) rfl args w) A0 c0 l0 w hr0 (fun x W _ => ?_)
 refine (impl_IsValidField_1.calls x _ W (slices_ContainsFunc_int_at_impl_IsValidField_1.one x)).mono ?_
 rintro e w' ⟨rfl, hd⟩
 exact ⟨rfl, hd.below⟩
end Go.Proofs.Ytpggcolcabmdeaa.P
namespace Go.Proofs.Ytpggcolcabmdeaa.P
open Go.RowKit Go.Proofs.YtpggcolcabmdeaaW.PrintWords Go.Proofs.YtpggcolcabmdeaaW.PrintLast Go.Proofs.YtpggcolcabmdeaaW.PrintMore
attribute [local go_sem] max2_int min2_int max_two min_two max_three min_three max_four min_four
set_option linter.unusedVariables false
set_option linter.unusedSimpArgs false
set_option maxHeartbeats 8000000
set_option maxRecDepth 100000
def impl_IsValidField.f (a0_0 : Int) (a0_1 : Int) (l0_2 : List Int) : Option (Bool) := (impl_within.f a0_0 1 8).bind fun t102 => (if t102 = true then ((impl_within.f a0_1 1 8).bind fun t103 => (if t103 = true then (if (l0_2.length : Int) = (wrap64 (a0_0 * a0_1)) then ((slices_ContainsFunc_int_at_impl_IsValidField_1.f l0_2).bind fun t104 => (some (!t104))) else (some false)) else (some false))) else (some false))
theorem impl_IsValidField.calls (a0_0 : Int) (a0_1 : Int) (A0_2 : Option Addr) (c0_2 : Nat) (l0_2 : List Int) (r : Bool) (w : World) (hr0_2 : Kd.C (Kd.int .i64) w A0_2 l0_2.length l0_2) (hc0_2 : l0_2.length ≤ c0_2) (h : impl_IsValidField.f a0_0 a0_1 l0_2 = some r) :
  Calls Try.prog 51 #[.agg #[.int .i64 a0_0, .int .i64 a0_1, .slice A0_2 l0_2.length c0_2]] w fun e w' => e = .returned (.bool r) ∧ Below w.heap.size w w' := by
 have hu29 := Try.underlying29
 have HR0_2 := aK hr0_2
 have HC0_2 := aK hc0_2
 clear hr0_2 hc0_2
 have HB := aK (Below.refl w.heap.size w)
 have H : ((impl_within.f a0_0 1 8).bind fun t102 => (if t102 = true then ((impl_within.f a0_1 1 8).bind fun t103 => (if t103 = true then (if (l0_2.length : Int) = (wrap64 (a0_0 * a0_1)) then ((slices_ContainsFunc_int_at_impl_IsValidField_1.f l0_2).bind fun t104 => (some (!t104))) else (some false)) else (some false))) else (some false))) = some r := h
 clear h
 replace H := oA H
 obtain ⟨t102, A2, H⟩ := H
 replace H : (if t102 = true then ((impl_within.f a0_1 1 8).bind fun t103 => (if t103 = true then (if (l0_2.length : Int) = (wrap64 (a0_0 * a0_1)) then ((slices_ContainsFunc_int_at_impl_IsValidField_1.f l0_2).bind fun t104 => (some (!t104))) else (some false)) else (some false))) else (some false)) = some r := H
 by_cases c3 : t102 = true
 rotate_left
 ·
  replace c3 := Bool.eq_false_iff.mpr c3; subst c3
  have H1 : (some false) = some r := by rw [if_neg (show ¬ (false = true) by decide)] at H; exact H
  clear H; have H := H1; clear H1
  obtain rfl := Option.some.inj H
  go_enter Try.func51, Try.ntmps51
  go_wp2_with (first | ((with_reducible refine ga 1 rfl ?_); (try (refine gate_guard (by rfl) ?_; dsimp only)); refine bxa #[.int .i64 a0_0, .int .i64 a0_1, .slice A0_2 l0_2.length c0_2] 29 ?_; intro g101 hg w15 B101 hb; have GW101 := gA hg HB; replace HB := bS HB hb; clear hb hg; obtain ⟨_, _, _, _, _, _⟩ := bc3 B101.out) | ((with_reducible refine gc 20 rfl ?_); refine gl (some 5) Try.func20 #[.int .i64 a0_0, .int .i64 1, .int .i64 8] ?_; (with_reducible refine (impl_within.calls a0_0 1 8 false _ A2.out).mono ?_); rintro e w' ⟨rfl, ⟨nd, rfl⟩⟩; refine ⟨_, rfl, ?_⟩))
  go_ret
  exact ⟨er, pT HB.out⟩
 subst c3
 have H1 : ((impl_within.f a0_1 1 8).bind fun t103 => (if t103 = true then (if (l0_2.length : Int) = (wrap64 (a0_0 * a0_1)) then ((slices_ContainsFunc_int_at_impl_IsValidField_1.f l0_2).bind fun t104 => (some (!t104))) else (some false)) else (some false))) = some r := by rw [if_pos rfl] at H; exact H
 clear H
 have H := H1
 clear H1
 replace H := oA H
 obtain ⟨t103, A4, H⟩ := H
 replace H : (if t103 = true then (if (l0_2.length : Int) = (wrap64 (a0_0 * a0_1)) then ((slices_ContainsFunc_int_at_impl_IsValidField_1.f l0_2).bind fun t104 => (some (!t104))) else (some false)) else (some false)) = some r := H
 by_cases c5 : t103 = true
 rotate_left
 ·
  replace c5 := Bool.eq_false_iff.mpr c5; subst c5
  have H1 : (some false) = some r := by rw [if_neg (show ¬ (false = true) by decide)] at H; exact H
  clear H; have H := H1; clear H1
  obtain rfl := Option.some.inj H
  go_enter Try.func51, Try.ntmps51
  go_wp2_with (first | ((with_reducible refine ga 1 rfl ?_); (try (refine gate_guard (by rfl) ?_; dsimp only)); refine bxa #[.int .i64 a0_0, .int .i64 a0_1, .slice A0_2 l0_2.length c0_2] 29 ?_; intro g101 hg w13 B101 hb; have GW101 := gA hg HB; replace HB := bS HB hb; clear hb hg; obtain ⟨_, _, _, _, _, _⟩ := bc3 B101.out) | ((with_reducible refine gc 20 rfl ?_); refine gl (some 5) Try.func20 #[.int .i64 a0_0, .int .i64 1, .int .i64 8] ?_; (with_reducible refine (impl_within.calls a0_0 1 8 true _ A2.out).mono ?_); rintro e w' ⟨rfl, ⟨nd, rfl⟩⟩; refine ⟨_, rfl, ?_⟩) | (go_at_call 20; (with_reducible refine (impl_within.calls a0_1 1 8 false _ A4.out).mono ?_); rintro e w' ⟨rfl, ⟨nd, rfl⟩⟩))
  go_ret
  exact ⟨er, pT HB.out⟩
 subst c5
 have H1 : (if (l0_2.length : Int) = (wrap64 (a0_0 * a0_1)) then ((slices_ContainsFunc_int_at_impl_IsValidField_1.f l0_2).bind fun t104 => (some (!t104))) else (some false)) = some r := by rw [if_pos rfl] at H; exact H
 clear H
 have H := H1
 clear H1
 by_cases c6 : (l0_2.length : Int) = (wrap64 (a0_0 * a0_1))
 ·
  rw [if_pos c6] at H
  have c6b0 : ((l0_2.length : Int) == (wrap64 (a0_0 * a0_1))) = true := beq_iff_eq.mpr c6
  have c6b1 : ((l0_2.length : Int) != (wrap64 (a0_0 * a0_1))) = false := bne_eq_false_iff_eq.mpr c6
  clear c6; replace H := oA H; obtain ⟨t104, A7, H⟩ := H
  replace H : (some (!t104)) = some r := H
  obtain rfl := Option.some.inj H
  go_enter Try.func51, Try.ntmps51
  go_wp2_with (first | ((with_reducible refine ga 1 rfl ?_); (try (refine gate_guard (by rfl) ?_; dsimp only)); refine bxa #[.int .i64 a0_0, .int .i64 a0_1, .slice A0_2 l0_2.length c0_2] 29 ?_; intro g101 hg w8 B101 hb; have GW101 := gA hg HB; replace HB := bS HB hb; clear hb hg; obtain ⟨_, _, _, _, _, _⟩ := bc3 B101.out) | ((with_reducible refine gc 20 rfl ?_); refine gl (some 5) Try.func20 #[.int .i64 a0_0, .int .i64 1, .int .i64 8] ?_; (with_reducible refine (impl_within.calls a0_0 1 8 true _ A2.out).mono ?_); rintro e w' ⟨rfl, ⟨nd, rfl⟩⟩; refine ⟨_, rfl, ?_⟩) | (go_at_call 20; (with_reducible refine (impl_within.calls a0_1 1 8 true _ A4.out).mono ?_); rintro e w' ⟨rfl, ⟨nd, rfl⟩⟩) | (go_at_call 73; (with_reducible refine (slices_ContainsFunc_int_at_impl_IsValidField_1.calls _ _ l0_2 t104 _ ?side1 ?side2 A7.out).mono ?_); (case side1 => exact pC (Kd.C_below HR0_2.out (pS HB.out))); (case side2 => exact HC0_2.out); rintro e w10 ⟨rfl, hb⟩; replace B101 := bB B101 hb; replace HB := bS HB hb; (try clear hb)))
  go_ret
  exact ⟨er, pT HB.out⟩
 rw [if_neg c6] at H
 have c6b0 : ((l0_2.length : Int) == (wrap64 (a0_0 * a0_1))) = false := beq_eq_false_iff_ne.mpr c6
 have c6b1 : ((l0_2.length : Int) != (wrap64 (a0_0 * a0_1))) = true := bne_iff_ne.mpr c6
 obtain rfl := Option.some.inj H
 go_enter Try.func51, Try.ntmps51
 go_wp2_with (first | ((with_reducible refine ga 1 rfl ?_); (try (refine gate_guard (by rfl) ?_; dsimp only)); refine bxa #[.int .i64 a0_0, .int .i64 a0_1, .slice A0_2 l0_2.length c0_2] 29 ?_; intro g101 hg w11 B101 hb; have GW101 := gA hg HB; replace HB := bS HB hb; clear hb hg; obtain ⟨_, _, _, _, _, _⟩ := bc3 B101.out) | ((with_reducible refine gc 20 rfl ?_); refine gl (some 5) Try.func20 #[.int .i64 a0_0, .int .i64 1, .int .i64 8] ?_; (with_reducible refine (impl_within.calls a0_0 1 8 true _ A2.out).mono ?_); rintro e w' ⟨rfl, ⟨nd, rfl⟩⟩; refine ⟨_, rfl, ?_⟩) | (go_at_call 20; (with_reducible refine (impl_within.calls a0_1 1 8 true _ A4.out).mono ?_); rintro e w' ⟨rfl, ⟨nd, rfl⟩⟩))
 go_ret
 exact ⟨er, pT HB.out⟩
def impl_sameShape.f (a0_0 : Int) (a0_1 : Int) (l0_2 : List Int) (a1_0 : Int) (a1_1 : Int) (l1_2 : List Int) : Option (Bool) := if a0_0 = a1_0 then (some (a0_1 == a1_1)) else (some false)
theorem impl_sameShape.calls (a0_0 : Int) (a0_1 : Int) (A0_2 : Option Addr) (c0_2 : Nat) (l0_2 : List Int) (a1_0 : Int) (a1_1 : Int) (A1_2 : Option Addr) (c1_2 : Nat) (l1_2 : List Int) (r : Bool) (w : World) (hr0_2 : Kd.C (Kd.int .i64) w A0_2 l0_2.length l0_2) (hc0_2 : l0_2.length ≤ c0_2) (hr1_2 : Kd.C (Kd.int .i64) w A1_2 l1_2.length l1_2) (hc1_2 : l1_2.length ≤ c1_2) (h : impl_sameShape.f a0_0 a0_1 l0_2 a1_0 a1_1 l1_2 = some r) :
  Calls Try.prog 52 #[.agg #[.int .i64 a0_0, .int .i64 a0_1, .slice A0_2 l0_2.length c0_2], .agg #[.int .i64 a1_0, .int .i64 a1_1, .slice A1_2 l1_2.length c1_2]] w fun e w' => e = .returned (.bool r) ∧ Below w.heap.size w w' := by
 have hu29 := Try.underlying29
 have HR0_2 := aK hr0_2
 have HC0_2 := aK hc0_2
 clear hr0_2 hc0_2
 have HR1_2 := aK hr1_2
 have HC1_2 := aK hc1_2
 clear hr1_2 hc1_2
 have HB := aK (Below.refl w.heap.size w)
 have H : (if a0_0 = a1_0 then (some (a0_1 == a1_1)) else (some false)) = some r := h
 clear h
 by_cases c3 : a0_0 = a1_0
 ·
  rw [if_pos c3] at H
  have c3b0 : (a0_0 == a1_0) = true := beq_iff_eq.mpr c3
  have c3b1 : (a0_0 != a1_0) = false := bne_eq_false_iff_eq.mpr c3
  clear c3
  obtain rfl := Option.some.inj H
  go_enter Try.func52, Try.ntmps52
  go_wp2_with (first | ((with_reducible refine ga 2 rfl ?_); refine bxa #[.int .i64 a0_0, .int .i64 a0_1, .slice A0_2 l0_2.length c0_2] 29 ?_; intro g101 hg w4 B101 hb; have GW101 := gA hg HB; replace HB := bS HB hb; clear hb hg) | ((with_reducible refine ga 3 rfl ?_); refine bxa #[.int .i64 a1_0, .int .i64 a1_1, .slice A1_2 l1_2.length c1_2] 29 ?_; intro g102 hg w5 B102 hb; have GW102 := gA hg HB; obtain ⟨N101_102, N102_101⟩ := na hg B101; replace B101 := bB B101 hb; replace HB := bS HB hb; clear hb hg; obtain ⟨_, _⟩ := nB N101_102; obtain ⟨_, _, _, _, _, _⟩ := bc3 B101.out; obtain ⟨_, _, _, _, _, _⟩ := bc3 B102.out))
  go_ret
  exact ⟨er, pT HB.out⟩
 rw [if_neg c3] at H
 have c3b0 : (a0_0 == a1_0) = false := beq_eq_false_iff_ne.mpr c3
 have c3b1 : (a0_0 != a1_0) = true := bne_iff_ne.mpr c3
 obtain rfl := Option.some.inj H
 go_enter Try.func52, Try.ntmps52
 go_wp2_with (first | ((with_reducible refine ga 2 rfl ?_); refine bxa #[.int .i64 a0_0, .int .i64 a0_1, .slice A0_2 l0_2.length c0_2] 29 ?_; intro g101 hg w9 B101 hb; have GW101 := gA hg HB; replace HB := bS HB hb; clear hb hg) | ((with_reducible refine ga 3 rfl ?_); refine bxa #[.int .i64 a1_0, .int .i64 a1_1, .slice A1_2 l1_2.length c1_2] 29 ?_; intro g102 hg w10 B102 hb; have GW102 := gA hg HB; obtain ⟨N101_102, N102_101⟩ := na hg B101; replace B101 := bB B101 hb; replace HB := bS HB hb; clear hb hg; obtain ⟨_, _⟩ := nB N101_102; obtain ⟨_, _, _, _, _, _⟩ := bc3 B101.out; obtain ⟨_, _, _, _, _, _⟩ := bc3 B102.out))
 go_ret
 exact ⟨er, pT HB.out⟩
def impl_areAlike.l0 : Nat → List (S29) → List (S29) → Int → Int → Option (Bool)
 | 0, _, _, _, _ => none
 | k + 1, x0, x5, x6, x7 => if x7 < x6 then (if 0 ≤ x7 then (if x7 < (x5.length : Int) then ((impl_IsValidField.f ((rd_T29 x5 x7).f0) ((rd_T29 x5 x7).f1) ((rd_T29 x5 x7).f2)).bind fun t103 => (if t103 = true then (if 0 < (x0.length : Int) then ((impl_sameShape.f ((rd_T29 x5 x7).f0) ((rd_T29 x5 x7).f1) ((rd_T29 x5 x7).f2) ((rd_T29 x0 0).f0) ((rd_T29 x0 0).f1) ((rd_T29 x0 0).f2)).bind fun t105 => (if t105 = true then (impl_areAlike.l0 k x0 x5 x6 (wrap64 (x7 + 1))) else (some false))) else (none)) else (some false))) else (none)) else (none)) else (some true)
def impl_areAlike.f (k : Nat) (l0 : List (S29)) : Option (Bool) := impl_areAlike.l0 k l0 l0 (l0.length : Int) 0
def impl_areAlike.T4 : Bool × List (List Nat × List Nat) := (true, [([], []), ([0], [0]), ([1], [1]), ([2, 1], [2]), ([3], [3]), ([3], [3]), ([5, 3], [3, 5]), ([6, 3], [3, 6]), ([4, 7, 3, 3], [3, 4, 7]), ([8, 3], [3, 8]), ([3, 9], [3, 9])])
def impl_areAlike.B4 : List Nat := [0, 1, 3, 7, 15, 15, 47, 111, 255, 511, 1023]
theorem impl_areAlike.tab4 : rtab .any (opsOf Try.f35 4) = impl_areAlike.T4 := by kernel_rfl
theorem impl_areAlike.bits4 : waitsOk impl_areAlike.T4.2 impl_areAlike.B4 = true := by kernel_rfl
theorem impl_areAlike.calls (k : Nat) (A0 : Option Addr) (c0 : Nat) (l0 : List (S29)) (r : Bool) (w : World) (hr0 : Kd.C k29 w A0 l0.length l0) (hc0 : l0.length ≤ c0) (h : impl_areAlike.f k l0 = some r) :
  Calls Try.prog 35 #[.slice A0 l0.length c0] w fun e w' => e = .returned (.bool r) ∧ Below w.heap.size w w' := by
 have hu29 := Try.underlying29
 have HR0 := aK hr0
 have HC0 := aK hc0
 clear hr0 hc0
 have HB := aK (Below.refl w.heap.size w)
 have H : (impl_areAlike.l0 k l0 l0 (l0.length : Int) 0) = some r := h
 clear h
 have H' := aK H
 clear H
 go_enter Try.func35, Try.ntmps35
 go_wp2
 go_loopg [7] k (fun kq v7 w' => ∃ (x7_1 : Int), v7 = .int .i64 x7_1 ∧ Aside0 (impl_areAlike.l0 kq l0 l0 (l0.length : Int) x7_1 = some r) ∧ Aside0 (kq ≤ k) ∧ Aside0 (Below w.heap.size w w'))
 case atStart => exact ⟨(0), (by first | rfl | (simp; done) | (simp [*]; done)), H', ⟨Nat.le_refl _⟩, ⟨pT HB.out⟩⟩
 case round =>
 clear H'
 obtain ⟨x7_1, rfl, HA, HK1, HB⟩ := hrel
 cases gk with
 | zero => exact absurd HA.out (by simp [impl_areAlike.l0])
 | succ k1 =>
 have H := HA.out
 clear HA
 simp only [impl_areAlike.l0] at H
 by_cases c2 : x7_1 < (l0.length : Int)
 rotate_left
 ·
  rw [if_neg c2] at H
  have c2b0 : decide (x7_1 < (l0.length : Int)) = false := decide_eq_false c2
  clear c2
  obtain rfl := Option.some.inj H
  go_wp2
  go_ret
  exact ⟨er, pT HB.out⟩
 rw [if_pos c2] at H
 have c2b0 : decide (x7_1 < (l0.length : Int)) = true := decide_eq_true c2
 clear c2
 by_cases c3 : 0 ≤ x7_1
 rotate_left
 ·
  rw [if_neg c3] at H
  exact absurd H (by simp)
 rw [if_pos c3] at H
 have c3b0 : decide (0 ≤ x7_1) = true := decide_eq_true c3
 clear c3
 by_cases c4 : x7_1 < (l0.length : Int)
 rotate_left
 ·
  rw [if_neg c4] at H
  exact absurd H (by simp)
 rw [if_pos c4] at H
 have c4b0 : decide (x7_1 < (l0.length : Int)) = true := decide_eq_true c4
 clear c4
 replace H := oA H
 obtain ⟨t103, A5, H⟩ := H
 replace H : (if t103 = true then (if 0 < (l0.length : Int) then ((impl_sameShape.f ((rd_T29 l0 x7_1).f0) ((rd_T29 l0 x7_1).f1) ((rd_T29 l0 x7_1).f2) ((rd_T29 l0 0).f0) ((rd_T29 l0 0).f1) ((rd_T29 l0 0).f2)).bind fun t105 => (if t105 = true then (impl_areAlike.l0 k1 l0 l0 (l0.length : Int) (wrap64 (x7_1 + 1))) else (some false))) else (none)) else (some false)) = some r := H
 by_cases c6 : t103 = true
 rotate_left
 ·
  replace c6 := Bool.eq_false_iff.mpr c6; subst c6
  have H1 : (some false) = some r := by rw [if_neg (show ¬ (false = true) by decide)] at H; exact H
  clear H; have H := H1; clear H1
  obtain rfl := Option.some.inj H
  have p101 : 0 ≤ (x7_1 : Int) := dA
  have q101 : x7_1 < (l0.length : Int) := dA
  obtain ⟨ad101, A101_2, c101_2, e101, hx101_0, hx101_1, hx101_2, hl101_2, hi101_2⟩ := at_T29 HR0.out x7_1 p101 q101; cases e101; replace hx101_0 := (HB.out.cell (World.block_lt_of_cell? w _ hx101_0)).trans hx101_0; replace hx101_1 := (HB.out.cell (World.block_lt_of_cell? w _ hx101_1)).trans hx101_1; replace hx101_2 := (HB.out.cell (World.block_lt_of_cell? w _ hx101_2)).trans hx101_2; have HR101_2 := aK hi101_2; have HC101_2 := aK hl101_2; clear hi101_2 hl101_2; replace p101 := eq_true p101; replace q101 := eq_true q101
  try go_wp2_with (first | ((with_reducible refine ga 4 rfl ?_); refine bxa #[.int .i64 0, .int .i64 0, .slice none 0 0] 29 ?_; intro g102 hg w22 B102 hb; have GW102 := gA hg HB; replace HB := bS HB hb; clear hb hg; obtain ⟨_, _, _, _, _, _⟩ := bc3 B102.out))
  obtain ⟨w24, e_⟩ : ∃ w_, w_ = ((w22.setCell ⟨g102, 0, none⟩ (.int .i64 ((rd_T29 l0 x7_1).f0))).setCell ⟨g102, 1, none⟩ (.int .i64 ((rd_T29 l0 x7_1).f1))).setCell ⟨g102, 2, none⟩ (.slice A101_2 ((rd_T29 l0 x7_1).f2).length c101_2) := ⟨_, rfl⟩
  have n0_ : Aside0 (w24.heap[g102]? = some (.cells #[.int .i64 ((rd_T29 l0 x7_1).f0), .int .i64 ((rd_T29 l0 x7_1).f1), .slice A101_2 ((rd_T29 l0 x7_1).f2).length c101_2] 29 (0, 0))) := ⟨by rw [e_]; refine bq #[.int .i64 ((rd_T29 l0 x7_1).f0), .int .i64 ((rd_T29 l0 x7_1).f1), .slice none 0 0] 2 ?_; refine bq #[.int .i64 ((rd_T29 l0 x7_1).f0), .int .i64 0, .slice none 0 0] 1 ?_; refine bq #[.int .i64 0, .int .i64 0, .slice none 0 0] 0 ?_; refine bk ?_; exact B102.out⟩
  have n1_ : Aside0 (Below w.heap.size w w24) := ⟨by rw [e_]; exact pT HB.out⟩
  (try clear B102)
  (try clear HB)
  (try rw [← e_]); clear e_
  have B102 := n0_; have HB := n1_; clear n0_ n1_; replace B102 := bD B102; replace HB := aK (below_drew1 HB.out)
  refine start_ (n := 11) (S := fun w' => w'.cell? ⟨g102, 0, none⟩ = some (.int .i64 ((rd_T29 l0 x7_1).f0)) ∧ w'.cell? ⟨g102, 1, none⟩ = some (.int .i64 ((rd_T29 l0 x7_1).f1)) ∧ w'.cell? ⟨g102, 2, none⟩ = some (.slice A101_2 ((rd_T29 l0 x7_1).f2).length c101_2)) (ds := []) (bz [0, 11]) (by kernel_rfl) rfl rfl (cz3 B102.out) (fun hHeld => ?_); refine with_tabW impl_areAlike.tab4 impl_areAlike.bits4 (fun HT_ HW_ => ?_)
  generalize w24.drew = w25 at B102 HB hHeld ⊢
  refine tz 0 11 [1, 10] HT_ HW_ rfl (by rintro w' ⟨s0, s1, s2⟩; go_simp; with_reducible rfl) hHeld ?_
  refine oz 1 12 [2, 9] HT_ fun K hK => ?_
  refine gs Try.func51 #[.agg #[.int .i64 ((rd_T29 l0 x7_1).f0), .int .i64 ((rd_T29 l0 x7_1).f1), .slice A101_2 ((rd_T29 l0 x7_1).f2).length c101_2]] ?_
  with_reducible refine (impl_IsValidField.calls ((rd_T29 l0 x7_1).f0) ((rd_T29 l0 x7_1).f1) _ _ ((rd_T29 l0 x7_1).f2) false _ ?side1 ?side2 A5.out).mono ?_
  (case side1 => exact cB HR101_2 HB)
  (case side2 => exact HC101_2.out)
  rintro e w26 ⟨rfl, hb⟩
  refine ⟨_, rfl, ?_⟩
  replace B102 := bB B102 hb; replace HB := bS HB hb
  (try clear hb)
  (try clear hb2)
  (try clear hk)
  (try clear hi)
  refine hK.out _ _ (cz3 B102.out) (fun hHeld => ?_)
  clear hK K
  refine nm 12 ?_
  refine pz 2 13 [3, 8] HT_ ?_
  refine pz 3 14 [4, 7] HT_ ?_
  refine pd 4 15 [5, 6] HT_ ?_
  refine pd 5 16 [6, 5] HT_ ?_
  refine pd 6 17 [7, 4] HT_ ?_
  refine pd 7 18 [8, 3] HT_ ?_
  refine pd 8 19 [9, 2] HT_ ?_
  refine pd 9 20 [10, 1] HT_ ?_
  refine pz 10 21 [11, 0] HT_ ?_
  refine done_ (done_of HT_.out (by kernel_rfl)) ?_
  try go_wp2
  go_ret
  exact ⟨er, pT HB.out⟩
 subst c6
 have H1 : (if 0 < (l0.length : Int) then ((impl_sameShape.f ((rd_T29 l0 x7_1).f0) ((rd_T29 l0 x7_1).f1) ((rd_T29 l0 x7_1).f2) ((rd_T29 l0 0).f0) ((rd_T29 l0 0).f1) ((rd_T29 l0 0).f2)).bind fun t105 => (if t105 = true then (impl_areAlike.l0 k1 l0 l0 (l0.length : Int) (wrap64 (x7_1 + 1))) else (some false))) else (none)) = some r := by rw [if_pos rfl] at H; exact H
 clear H
 have H := H1
 clear H1
 by_cases c7 : 0 < (l0.length : Int)
 rotate_left
 ·
  rw [if_neg c7] at H
  exact absurd H (by simp)
 rw [if_pos c7] at H
 have c7b0 : decide (0 < (l0.length : Int)) = true := decide_eq_true c7
 have c7b1 : decide (0 < l0.length) = true := decide_eq_true (by omega)
 clear c7
 replace H := oA H
 obtain ⟨t105, A8, H⟩ := H
 replace H : (if t105 = true then (impl_areAlike.l0 k1 l0 l0 (l0.length : Int) (wrap64 (x7_1 + 1))) else (some false)) = some r := H
 by_cases c9 : t105 = true
 ·
  subst c9
  have H1 : (impl_areAlike.l0 k1 l0 l0 (l0.length : Int) (wrap64 (x7_1 + 1))) = some r := by rw [if_pos rfl] at H; exact H
  clear H; have H := H1; clear H1; have H' := aK H; clear H
  have p101 : 0 ≤ (x7_1 : Int) := dA
  have q101 : x7_1 < (l0.length : Int) := dA
  obtain ⟨ad101, A101_2, c101_2, e101, hx101_0, hx101_1, hx101_2, hl101_2, hi101_2⟩ := at_T29 HR0.out x7_1 p101 q101; cases e101; replace hx101_0 := (HB.out.cell (World.block_lt_of_cell? w _ hx101_0)).trans hx101_0; replace hx101_1 := (HB.out.cell (World.block_lt_of_cell? w _ hx101_1)).trans hx101_1; replace hx101_2 := (HB.out.cell (World.block_lt_of_cell? w _ hx101_2)).trans hx101_2; have HR101_2 := aK hi101_2; have HC101_2 := aK hl101_2; clear hi101_2 hl101_2; replace p101 := eq_true p101; replace q101 := eq_true q101
  try go_wp2_with (first | ((with_reducible refine ga 4 rfl ?_); refine bxa #[.int .i64 0, .int .i64 0, .slice none 0 0] 29 ?_; intro g102 hg w10 B102 hb; have GW102 := gA hg HB; replace HB := bS HB hb; clear hb hg; obtain ⟨_, _, _, _, _, _⟩ := bc3 B102.out))
  obtain ⟨w12, e_⟩ : ∃ w_, w_ = ((w10.setCell ⟨g102, 0, none⟩ (.int .i64 ((rd_T29 l0 x7_1).f0))).setCell ⟨g102, 1, none⟩ (.int .i64 ((rd_T29 l0 x7_1).f1))).setCell ⟨g102, 2, none⟩ (.slice A101_2 ((rd_T29 l0 x7_1).f2).length c101_2) := ⟨_, rfl⟩
  have n0_ : Aside0 (w12.heap[g102]? = some (.cells #[.int .i64 ((rd_T29 l0 x7_1).f0), .int .i64 ((rd_T29 l0 x7_1).f1), .slice A101_2 ((rd_T29 l0 x7_1).f2).length c101_2] 29 (0, 0))) := ⟨by rw [e_]; refine bq #[.int .i64 ((rd_T29 l0 x7_1).f0), .int .i64 ((rd_T29 l0 x7_1).f1), .slice none 0 0] 2 ?_; refine bq #[.int .i64 ((rd_T29 l0 x7_1).f0), .int .i64 0, .slice none 0 0] 1 ?_; refine bq #[.int .i64 0, .int .i64 0, .slice none 0 0] 0 ?_; refine bk ?_; exact B102.out⟩
  have n1_ : Aside0 (Below w.heap.size w w12) := ⟨by rw [e_]; exact pT HB.out⟩
  (try clear B102)
  (try clear HB)
  (try rw [← e_]); clear e_
  have B102 := n0_; have HB := n1_; clear n0_ n1_; replace B102 := bD B102; replace HB := aK (below_drew1 HB.out)
  have p104 : 0 ≤ (0 : Int) := (by omega)
  have q104 : 0 < (l0.length : Int) := dA
  obtain ⟨ad104, A104_2, c104_2, e104, hx104_0, hx104_1, hx104_2, hl104_2, hi104_2⟩ := at_T29 HR0.out 0 p104 q104; have hw104_2 := hx104_2
  (try rw [show ((0 : Int)).toNat = 0 from rfl] at hw104_2)
  (try rw [show 0 * 3 = 0 from rfl] at hw104_2)
  (try rw [Addr.add_zero'] at hw104_2)
  have hw104_1 := hx104_1
  (try rw [show ((0 : Int)).toNat = 0 from rfl] at hw104_1)
  (try rw [show 0 * 3 = 0 from rfl] at hw104_1)
  (try rw [Addr.add_zero'] at hw104_1)
  have hw104_0 := hx104_0
  (try rw [show ((0 : Int)).toNat = 0 from rfl] at hw104_0)
  (try rw [show 0 * 3 = 0 from rfl] at hw104_0)
  (try rw [Addr.add_zero'] at hw104_0)
  obtain rfl : ad101 = ad104 := (by injection e104)
  have qi104 : (0 < l0.length) = True := eq_true (by omega)
  (try rw [show ((0 : Int)).toNat = 0 from rfl] at hx104_0)
  (try rw [show 0 * 3 = 0 from rfl] at hx104_0)
  (try rw [Addr.add_zero'] at hx104_0)
  (try rw [show ((0 : Int)).toNat = 0 from rfl] at hx104_1)
  (try rw [show 0 * 3 = 0 from rfl] at hx104_1)
  (try rw [Addr.add_zero'] at hx104_1)
  (try rw [show ((0 : Int)).toNat = 0 from rfl] at hx104_2)
  (try rw [show 0 * 3 = 0 from rfl] at hx104_2)
  (try rw [Addr.add_zero'] at hx104_2)
  replace hx104_0 := (HB.out.cell (World.block_lt_of_cell? w _ hx104_0)).trans hx104_0; replace hx104_1 := (HB.out.cell (World.block_lt_of_cell? w _ hx104_1)).trans hx104_1; replace hx104_2 := (HB.out.cell (World.block_lt_of_cell? w _ hx104_2)).trans hx104_2; have HR104_2 := aK hi104_2; have HC104_2 := aK hl104_2; clear hi104_2 hl104_2; replace p104 := eq_true p104; replace q104 := eq_true q104
  refine start_ (n := 11) (S := fun w' => w'.cell? ⟨g102, 0, none⟩ = some (.int .i64 ((rd_T29 l0 x7_1).f0)) ∧ w'.cell? ⟨g102, 1, none⟩ = some (.int .i64 ((rd_T29 l0 x7_1).f1)) ∧ w'.cell? ⟨g102, 2, none⟩ = some (.slice A101_2 ((rd_T29 l0 x7_1).f2).length c101_2) ∧ w'.cell? ad101 = some (.int .i64 ((rd_T29 l0 0).f0)) ∧ w'.cell? ⟨ad101.block, ad101.off + 1, none⟩ = some (.int .i64 ((rd_T29 l0 0).f1)) ∧ w'.cell? ⟨ad101.block, ad101.off + 2, none⟩ = some (.slice A104_2 ((rd_T29 l0 0).f2).length c104_2)) (ds := []) (bz [0, 11]) (by kernel_rfl) rfl rfl (cj3 B102.out ⟨((HB.out.cell (World.block_lt_of_cell? w _ hw104_0)).trans hw104_0), ((HB.out.cell (World.block_lt_of_cell? w _ hw104_1)).trans hw104_1), ((HB.out.cell (World.block_lt_of_cell? w _ hw104_2)).trans hw104_2)⟩) (fun hHeld => ?_); refine with_tabW impl_areAlike.tab4 impl_areAlike.bits4 (fun HT_ HW_ => ?_)
  generalize w12.drew = w13 at B102 HB HR104_2 hx104_0 hx104_1 hx104_2 hHeld ⊢
  refine tz 0 11 [1, 10] HT_ HW_ rfl (by rintro w' ⟨s0, s1, s2, s3, s4, s5⟩; go_simp; with_reducible rfl) hHeld ?_
  refine oz 1 12 [2, 9] HT_ fun K hK => ?_
  refine gs Try.func51 #[.agg #[.int .i64 ((rd_T29 l0 x7_1).f0), .int .i64 ((rd_T29 l0 x7_1).f1), .slice A101_2 ((rd_T29 l0 x7_1).f2).length c101_2]] ?_
  with_reducible refine (impl_IsValidField.calls ((rd_T29 l0 x7_1).f0) ((rd_T29 l0 x7_1).f1) _ _ ((rd_T29 l0 x7_1).f2) true _ ?side1 ?side2 A5.out).mono ?_
  (case side1 => exact cB HR101_2 HB)
  (case side2 => exact HC101_2.out)
  rintro e w14 ⟨rfl, hb⟩
  refine ⟨_, rfl, ?_⟩
  replace B102 := bB B102 hb; replace HB := bS HB hb
  (try clear hb)
  (try clear hb2)
  (try clear hk)
  (try clear hi)
  refine hK.out _ _ (cj3 B102.out ⟨((HB.out.cell (World.block_lt_of_cell? w _ hw104_0)).trans hw104_0), ((HB.out.cell (World.block_lt_of_cell? w _ hw104_1)).trans hw104_1), ((HB.out.cell (World.block_lt_of_cell? w _ hw104_2)).trans hw104_2)⟩) (fun hHeld => ?_)
  clear hK K
  refine nm 12 ?_
  refine pz 2 13 [3, 8] HT_ ?_
  refine pz 3 14 [4, 7] HT_ ?_
  refine pz 5 16 [4, 1, 1, 5] HT_ ?_
  refine pz 6 17 [4, 1, 2, 4] HT_ ?_
  refine tz 4 15 [7, 4] HT_ HW_ rfl (by rintro w' ⟨s0, s1, s2, s3, s4, s5⟩; go_simp; with_reducible rfl) hHeld ?_
  refine tz 7 18 [8, 3] HT_ HW_ rfl (by rintro w' ⟨s0, s1, s2, s3, s4, s5⟩; go_simp; with_reducible rfl) hHeld ?_
  refine oz 8 19 [9, 2] HT_ fun K hK => ?_
  refine gs Try.func52 #[.agg #[.int .i64 ((rd_T29 l0 x7_1).f0), .int .i64 ((rd_T29 l0 x7_1).f1), .slice A101_2 ((rd_T29 l0 x7_1).f2).length c101_2], .agg #[.int .i64 ((rd_T29 l0 0).f0), .int .i64 ((rd_T29 l0 0).f1), .slice A104_2 ((rd_T29 l0 0).f2).length c104_2]] ?_
  with_reducible refine (impl_sameShape.calls ((rd_T29 l0 x7_1).f0) ((rd_T29 l0 x7_1).f1) _ _ ((rd_T29 l0 x7_1).f2) ((rd_T29 l0 0).f0) ((rd_T29 l0 0).f1) _ _ ((rd_T29 l0 0).f2) true _ ?side1 ?side2 ?side3 ?side4 A8.out).mono ?_
  (case side1 => exact cB HR101_2 HB)
  (case side2 => exact HC101_2.out)
  (case side3 => exact cB HR104_2 HB)
  (case side4 => exact HC104_2.out)
  rintro e w15 ⟨rfl, hb⟩
  refine ⟨_, rfl, ?_⟩
  replace B102 := bB B102 hb; replace HB := bS HB hb
  (try clear hb)
  (try clear hb2)
  (try clear hk)
  (try clear hi)
  refine hK.out _ _ (cj3 B102.out ⟨((HB.out.cell (World.block_lt_of_cell? w _ hw104_0)).trans hw104_0), ((HB.out.cell (World.block_lt_of_cell? w _ hw104_1)).trans hw104_1), ((HB.out.cell (World.block_lt_of_cell? w _ hw104_2)).trans hw104_2)⟩) (fun hHeld => ?_)
  clear hK K
  refine nm 19 ?_
  refine pz 9 20 [10, 1] HT_ ?_
  refine pz 10 21 [11, 0] HT_ ?_
  refine done_ (done_of HT_.out (by kernel_rfl)) ?_
  try go_wp2
  go_roundg k1
  case measure => have := HK1.out; omega
  case rel => exact ⟨(wrap64 (x7_1 + 1)), (by first | rfl | (simp; done) | (simp [*]; done)), H', ⟨by have := HK1.out; omega⟩, ⟨pT HB.out⟩⟩
 replace c9 := Bool.eq_false_iff.mpr c9
 subst c9
 have H1 : (some false) = some r := by rw [if_neg (show ¬ (false = true) by decide)] at H; exact H
 clear H
 have H := H1
 clear H1
 obtain rfl := Option.some.inj H
 have p101 : 0 ≤ (x7_1 : Int) := dA
 have q101 : x7_1 < (l0.length : Int) := dA
 obtain ⟨ad101, A101_2, c101_2, e101, hx101_0, hx101_1, hx101_2, hl101_2, hi101_2⟩ := at_T29 HR0.out x7_1 p101 q101
 cases e101
 replace hx101_0 := (HB.out.cell (World.block_lt_of_cell? w _ hx101_0)).trans hx101_0
 replace hx101_1 := (HB.out.cell (World.block_lt_of_cell? w _ hx101_1)).trans hx101_1
 replace hx101_2 := (HB.out.cell (World.block_lt_of_cell? w _ hx101_2)).trans hx101_2
 have HR101_2 := aK hi101_2
 have HC101_2 := aK hl101_2
 clear hi101_2 hl101_2
 replace p101 := eq_true p101
 replace q101 := eq_true q101
 try go_wp2_with (first | ((with_reducible refine ga 4 rfl ?_); refine bxa #[.int .i64 0, .int .i64 0, .slice none 0 0] 29 ?_; intro g102 hg w16 B102 hb; have GW102 := gA hg HB; replace HB := bS HB hb; clear hb hg; obtain ⟨_, _, _, _, _, _⟩ := bc3 B102.out))
 obtain ⟨w18, e_⟩ : ∃ w_, w_ = ((w16.setCell ⟨g102, 0, none⟩ (.int .i64 ((rd_T29 l0 x7_1).f0))).setCell ⟨g102, 1, none⟩ (.int .i64 ((rd_T29 l0 x7_1).f1))).setCell ⟨g102, 2, none⟩ (.slice A101_2 ((rd_T29 l0 x7_1).f2).length c101_2) := ⟨_, rfl⟩
 have n0_ : Aside0 (w18.heap[g102]? = some (.cells #[.int .i64 ((rd_T29 l0 x7_1).f0), .int .i64 ((rd_T29 l0 x7_1).f1), .slice A101_2 ((rd_T29 l0 x7_1).f2).length c101_2] 29 (0, 0))) := ⟨by rw [e_]; refine bq #[.int .i64 ((rd_T29 l0 x7_1).f0), .int .i64 ((rd_T29 l0 x7_1).f1), .slice none 0 0] 2 ?_; refine bq #[.int .i64 ((rd_T29 l0 x7_1).f0), .int .i64 0, .slice none 0 0] 1 ?_; refine bq #[.int .i64 0, .int .i64 0, .slice none 0 0] 0 ?_; refine bk ?_; exact B102.out⟩
 have n1_ : Aside0 (Below w.heap.size w w18) := ⟨by rw [e_]; exact pT HB.out⟩
 (try clear B102)
 (try clear HB)
 (try rw [← e_]); clear e_
 have B102 := n0_
 have HB := n1_
 clear n0_ n1_
 replace B102 := bD B102
 replace HB := aK (below_drew1 HB.out)
 have p104 : 0 ≤ (0 : Int) := (by omega)
 have q104 : 0 < (l0.length : Int) := dA
 obtain ⟨ad104, A104_2, c104_2, e104, hx104_0, hx104_1, hx104_2, hl104_2, hi104_2⟩ := at_T29 HR0.out 0 p104 q104
 have hw104_2 := hx104_2
 (try rw [show ((0 : Int)).toNat = 0 from rfl] at hw104_2)
 (try rw [show 0 * 3 = 0 from rfl] at hw104_2)
 (try rw [Addr.add_zero'] at hw104_2)
 have hw104_1 := hx104_1
 (try rw [show ((0 : Int)).toNat = 0 from rfl] at hw104_1)
 (try rw [show 0 * 3 = 0 from rfl] at hw104_1)
 (try rw [Addr.add_zero'] at hw104_1)
 have hw104_0 := hx104_0
 (try rw [show ((0 : Int)).toNat = 0 from rfl] at hw104_0)
 (try rw [show 0 * 3 = 0 from rfl] at hw104_0)
 (try rw [Addr.add_zero'] at hw104_0)
 obtain rfl : ad101 = ad104 := (by injection e104)
 have qi104 : (0 < l0.length) = True := eq_true (by omega)
 (try rw [show ((0 : Int)).toNat = 0 from rfl] at hx104_0)
 (try rw [show 0 * 3 = 0 from rfl] at hx104_0)
 (try rw [Addr.add_zero'] at hx104_0)
 (try rw [show ((0 : Int)).toNat = 0 from rfl] at hx104_1)
 (try rw [show 0 * 3 = 0 from rfl] at hx104_1)
 (try rw [Addr.add_zero'] at hx104_1)
 (try rw [show ((0 : Int)).toNat = 0 from rfl] at hx104_2)
 (try rw [show 0 * 3 = 0 from rfl] at hx104_2)
 (try rw [Addr.add_zero'] at hx104_2)
 replace hx104_0 := (HB.out.cell (World.block_lt_of_cell? w _ hx104_0)).trans hx104_0
 replace hx104_1 := (HB.out.cell (World.block_lt_of_cell? w _ hx104_1)).trans hx104_1
 replace hx104_2 := (HB.out.cell (World.block_lt_of_cell? w _ hx104_2)).trans hx104_2
 have HR104_2 := aK hi104_2
 have HC104_2 := aK hl104_2
 clear hi104_2 hl104_2
 replace p104 := eq_true p104
 replace q104 := eq_true q104
 refine start_ (n := 11) (S := fun w' => w'.cell? ⟨g102, 0, none⟩ = some (.int .i64 ((rd_T29 l0 x7_1).f0)) ∧ w'.cell? ⟨g102, 1, none⟩ = some (.int .i64 ((rd_T29 l0 x7_1).f1)) ∧ w'.cell? ⟨g102, 2, none⟩ = some (.slice A101_2 ((rd_T29 l0 x7_1).f2).length c101_2) ∧ w'.cell? ad101 = some (.int .i64 ((rd_T29 l0 0).f0)) ∧ w'.cell? ⟨ad101.block, ad101.off + 1, none⟩ = some (.int .i64 ((rd_T29 l0 0).f1)) ∧ w'.cell? ⟨ad101.block, ad101.off + 2, none⟩ = some (.slice A104_2 ((rd_T29 l0 0).f2).length c104_2)) (ds := []) (bz [0, 11]) (by kernel_rfl) rfl rfl (cj3 B102.out ⟨((HB.out.cell (World.block_lt_of_cell? w _ hw104_0)).trans hw104_0), ((HB.out.cell (World.block_lt_of_cell? w _ hw104_1)).trans hw104_1), ((HB.out.cell (World.block_lt_of_cell? w _ hw104_2)).trans hw104_2)⟩) (fun hHeld => ?_); refine with_tabW impl_areAlike.tab4 impl_areAlike.bits4 (fun HT_ HW_ => ?_)
 generalize w18.drew = w19 at B102 HB HR104_2 hx104_0 hx104_1 hx104_2 hHeld ⊢
 refine tz 0 11 [1, 10] HT_ HW_ rfl (by rintro w' ⟨s0, s1, s2, s3, s4, s5⟩; go_simp; with_reducible rfl) hHeld ?_
 refine oz 1 12 [2, 9] HT_ fun K hK => ?_
 refine gs Try.func51 #[.agg #[.int .i64 ((rd_T29 l0 x7_1).f0), .int .i64 ((rd_T29 l0 x7_1).f1), .slice A101_2 ((rd_T29 l0 x7_1).f2).length c101_2]] ?_
 with_reducible refine (impl_IsValidField.calls ((rd_T29 l0 x7_1).f0) ((rd_T29 l0 x7_1).f1) _ _ ((rd_T29 l0 x7_1).f2) true _ ?side1 ?side2 A5.out).mono ?_
 (case side1 => exact cB HR101_2 HB)
 (case side2 => exact HC101_2.out)
 rintro e w20 ⟨rfl, hb⟩
 refine ⟨_, rfl, ?_⟩
 replace B102 := bB B102 hb
 replace HB := bS HB hb
 (try clear hb)
 (try clear hb2)
 (try clear hk)
 (try clear hi)
 refine hK.out _ _ (cj3 B102.out ⟨((HB.out.cell (World.block_lt_of_cell? w _ hw104_0)).trans hw104_0), ((HB.out.cell (World.block_lt_of_cell? w _ hw104_1)).trans hw104_1), ((HB.out.cell (World.block_lt_of_cell? w _ hw104_2)).trans hw104_2)⟩) (fun hHeld => ?_)
 clear hK K
 refine nm 12 ?_
 refine pz 2 13 [3, 8] HT_ ?_
 refine pz 3 14 [4, 7] HT_ ?_
 refine pz 5 16 [4, 1, 1, 5] HT_ ?_
 refine pz 6 17 [4, 1, 2, 4] HT_ ?_
 refine tz 4 15 [7, 4] HT_ HW_ rfl (by rintro w' ⟨s0, s1, s2, s3, s4, s5⟩; go_simp; with_reducible rfl) hHeld ?_
 refine tz 7 18 [8, 3] HT_ HW_ rfl (by rintro w' ⟨s0, s1, s2, s3, s4, s5⟩; go_simp; with_reducible rfl) hHeld ?_
 refine oz 8 19 [9, 2] HT_ fun K hK => ?_
 refine gs Try.func52 #[.agg #[.int .i64 ((rd_T29 l0 x7_1).f0), .int .i64 ((rd_T29 l0 x7_1).f1), .slice A101_2 ((rd_T29 l0 x7_1).f2).length c101_2], .agg #[.int .i64 ((rd_T29 l0 0).f0), .int .i64 ((rd_T29 l0 0).f1), .slice A104_2 ((rd_T29 l0 0).f2).length c104_2]] ?_
 with_reducible refine (impl_sameShape.calls ((rd_T29 l0 x7_1).f0) ((rd_T29 l0 x7_1).f1) _ _ ((rd_T29 l0 x7_1).f2) ((rd_T29 l0 0).f0) ((rd_T29 l0 0).f1) _ _ ((rd_T29 l0 0).f2) false _ ?side1 ?side2 ?side3 ?side4 A8.out).mono ?_
 (case side1 => exact cB HR101_2 HB)
 (case side2 => exact HC101_2.out)
 (case side3 => exact cB HR104_2 HB)
 (case side4 => exact HC104_2.out)
 rintro e w21 ⟨rfl, hb⟩
 refine ⟨_, rfl, ?_⟩
 replace B102 := bB B102 hb
 replace HB := bS HB hb
 (try clear hb)
 (try clear hb2)
 (try clear hk)
 (try clear hi)
 refine hK.out _ _ (cj3 B102.out ⟨((HB.out.cell (World.block_lt_of_cell? w _ hw104_0)).trans hw104_0), ((HB.out.cell (World.block_lt_of_cell? w _ hw104_1)).trans hw104_1), ((HB.out.cell (World.block_lt_of_cell? w _ hw104_2)).trans hw104_2)⟩) (fun hHeld => ?_)
 clear hK K
 refine nm 19 ?_
 refine pz 9 20 [10, 1] HT_ ?_
 refine pz 10 21 [11, 0] HT_ ?_
 refine done_ (done_of HT_.out (by kernel_rfl)) ?_
 try go_wp2
 go_ret
 exact ⟨er, pT HB.out⟩
def impl_IsValidEnsemble.f (k : Nat) (l0 : List (S29)) : Option (Bool) := (impl_within.f (l0.length : Int) 1 8).bind fun t101 => (if t101 = true then ((impl_areAlike.f k l0).bind fun t102 => (some t102)) else (some false))
theorem impl_IsValidEnsemble.calls (k : Nat) (A0 : Option Addr) (c0 : Nat) (l0 : List (S29)) (r : Bool) (w : World) (hr0 : Kd.C k29 w A0 l0.length l0) (hc0 : l0.length ≤ c0) (h : impl_IsValidEnsemble.f k l0 = some r) :
  Calls Try.prog 11 #[.slice A0 l0.length c0] w fun e w' => e = .returned (.bool r) ∧ Below w.heap.size w w' := by
 have HR0 := aK hr0
 have HC0 := aK hc0
 clear hr0 hc0
 have HB := aK (Below.refl w.heap.size w)
 have H : ((impl_within.f (l0.length : Int) 1 8).bind fun t101 => (if t101 = true then ((impl_areAlike.f k l0).bind fun t102 => (some t102)) else (some false))) = some r := h
 clear h
 replace H := oA H
 obtain ⟨t101, A2, H⟩ := H
 replace H : (if t101 = true then ((impl_areAlike.f k l0).bind fun t102 => (some t102)) else (some false)) = some r := H
 by_cases c3 : t101 = true
 ·
  subst c3
  have H1 : ((impl_areAlike.f k l0).bind fun t102 => (some t102)) = some r := by rw [if_pos rfl] at H; exact H
  clear H; have H := H1; clear H1; replace H := oA H; obtain ⟨t102, A4, H⟩ := H
  replace H : (some t102) = some r := H
  obtain rfl := Option.some.inj H
  go_enter Try.func11, Try.ntmps11
  go_wp2_with (first | ((with_reducible refine gc 20 rfl ?_); refine gl (some 5) Try.func20 #[.int .i64 (l0.length : Int), .int .i64 1, .int .i64 8] ?_; (with_reducible refine (impl_within.calls (l0.length : Int) 1 8 true _ A2.out).mono ?_); rintro e w' ⟨rfl, ⟨nd, rfl⟩⟩; refine ⟨_, rfl, ?_⟩) | (go_at_call 35; (with_reducible refine (impl_areAlike.calls k _ _ l0 t102 _ ?side1 ?side2 A4.out).mono ?_); (case side1 => exact pC HR0.out); (case side2 => exact HC0.out); rintro e w5 ⟨rfl, hb⟩; replace HB := bS HB hb; (try clear hb)))
  go_ret
  exact ⟨er, pT HB.out⟩
 replace c3 := Bool.eq_false_iff.mpr c3
 subst c3
 have H1 : (some false) = some r := by rw [if_neg (show ¬ (false = true) by decide)] at H; exact H
 clear H
 have H := H1
 clear H1
 obtain rfl := Option.some.inj H
 go_enter Try.func11, Try.ntmps11
 go_wp2_with (first | ((with_reducible refine gc 20 rfl ?_); refine gl (some 5) Try.func20 #[.int .i64 (l0.length : Int), .int .i64 1, .int .i64 8] ?_; (with_reducible refine (impl_within.calls (l0.length : Int) 1 8 false _ A2.out).mono ?_); rintro e w' ⟨rfl, ⟨nd, rfl⟩⟩; refine ⟨_, rfl, ?_⟩))
 go_ret
 exact ⟨er, pT HB.out⟩
def impl_memberValues.l0 : Nat → Int → List Int → List (S29) → Int → Int → Option (List Int)
 | 0, _, _, _, _, _ => none
 | k + 1, x1, x5, x9, x10, x11 => if x11 < x10 then (if 0 ≤ x11 then (if x11 < (x9.length : Int) then (if 0 ≤ x1 then (if x1 < (((rd_T29 x9 x11).f2).length : Int) then (if (rd ((rd_T29 x9 x11).f2) x1) = (-9999) then (impl_memberValues.l0 k x1 x5 x9 x10 (wrap64 (x11 + 1))) else (if x5.length < 17592186044416 then (impl_memberValues.l0 k x1 (x5 ++ [rd ((rd_T29 x9 x11).f2) x1]) x9 x10 (wrap64 (x11 + 1))) else (none))) else (none)) else (none)) else (none)) else (none)) else (some x5)
def impl_memberValues.f (k : Nat) (l0 : List (S29)) (a1 : Int) : Option (List Int) := impl_memberValues.l0 k a1 ([] : List Int) l0 (l0.length : Int) 0
theorem impl_memberValues.calls (k : Nat) (A0 : Option Addr) (c0 : Nat) (l0 : List (S29)) (a1 : Int) (r : List Int) (w : World) (hr0 : Kd.C k29 w A0 l0.length l0) (hc0 : l0.length ≤ c0) (h : impl_memberValues.f k l0 a1 = some r) :
  Calls Try.prog 37 #[.slice A0 l0.length c0, .int .i64 a1] w fun e w' => ∃ v0_ : Value, e = .returned (v0_) ∧ Kd.R (Kd.int .i64) 3 w' w.heap.size (fun _ => True) v0_ r ∧ Below w.heap.size w w' := by
 have hu29 := Try.underlying29
 have HR0 := aK hr0
 have HC0 := aK hc0
 clear hr0 hc0
 have HB := aK (Below.refl w.heap.size w)
 have H : (impl_memberValues.l0 k a1 ([] : List Int) l0 (l0.length : Int) 0) = some r := h
 clear h
 have H' := aK H
 clear H
 go_enter Try.func37, Try.ntmps37
 go_wp2
 go_loopg [5, 11] k (fun kq v5 v11 w' => ∃ (x5_1 : List Int) (x11_1 : Int), v11 = .int .i64 x11_1 ∧ Aside0 (impl_memberValues.l0 kq a1 x5_1 l0 (l0.length : Int) x11_1 = some r) ∧ Aside0 (kq ≤ k) ∧ Aside0 (Kd.R (Kd.int .i64) 3 w' w.heap.size (fun _ => True) v5 x5_1) ∧ Aside0 (Below w.heap.size w w'))
 case atStart => exact ⟨(([] : List Int)), (0), (by first | rfl | (simp; done) | (simp [*]; done)), H', ⟨Nat.le_refl _⟩, ⟨by first | exact Kd.R_nil _ _ _ _ _ | exact Kd.N_nil _ _ _ _ _ | exact Kd.V_nil _ _ _ _ _ | exact Kd.Q_nil _ _ _ _ _ | exact Kd.S_nil _ _ _ _ _⟩, ⟨pT HB.out⟩⟩
 case round =>
 clear H'
 try clear p2
 obtain ⟨x5_1, x11_1, rfl, HA, HK1, HO_5, HB⟩ := hrel
 cases gk with
 | zero => exact absurd HA.out (by simp [impl_memberValues.l0])
 | succ k1 =>
 have H := HA.out
 clear HA
 simp only [impl_memberValues.l0] at H
 by_cases c3 : x11_1 < (l0.length : Int)
 rotate_left
 ·
  rw [if_neg c3] at H
  have c3b0 : decide (x11_1 < (l0.length : Int)) = false := decide_eq_false c3
  clear c3
  obtain rfl := Option.some.inj H
  go_wp2
  go_ret
  exact ⟨_, er, by (with_reducible repeat (first | apply Kd.R_alloc | apply Kd.R_drewN | apply Kd.R_drew)); exact HO_5.out, pT HB.out⟩
 rw [if_pos c3] at H
 have c3b0 : decide (x11_1 < (l0.length : Int)) = true := decide_eq_true c3
 clear c3
 by_cases c4 : 0 ≤ x11_1
 rotate_left
 ·
  rw [if_neg c4] at H
  exact absurd H (by simp)
 rw [if_pos c4] at H
 have c4b0 : decide (0 ≤ x11_1) = true := decide_eq_true c4
 clear c4
 by_cases c5 : x11_1 < (l0.length : Int)
 rotate_left
 ·
  rw [if_neg c5] at H
  exact absurd H (by simp)
 rw [if_pos c5] at H
 have c5b0 : decide (x11_1 < (l0.length : Int)) = true := decide_eq_true c5
 clear c5
 by_cases c6 : 0 ≤ a1
 rotate_left
 ·
  rw [if_neg c6] at H
  exact absurd H (by simp)
 rw [if_pos c6] at H
 have c6b0 : decide (0 ≤ a1) = true := decide_eq_true c6
 clear c6
 by_cases c7 : a1 < (((rd_T29 l0 x11_1).f2).length : Int)
 rotate_left
 ·
  rw [if_neg c7] at H
  exact absurd H (by simp)
 rw [if_pos c7] at H
 have c7b0 : decide (a1 < (((rd_T29 l0 x11_1).f2).length : Int)) = true := decide_eq_true c7
 clear c7
 by_cases c8 : (rd ((rd_T29 l0 x11_1).f2) a1) = (-9999)
 ·
  rw [if_pos c8] at H
  have c8b0 : ((rd ((rd_T29 l0 x11_1).f2) a1) == (-9999)) = true := beq_iff_eq.mpr c8
  have c8b1 : ((rd ((rd_T29 l0 x11_1).f2) a1) != (-9999)) = false := bne_eq_false_iff_eq.mpr c8
  clear c8; have H' := aK H; clear H
  have p101 : 0 ≤ (x11_1 : Int) := dA
  have q101 : x11_1 < (l0.length : Int) := dA
  obtain ⟨ad101, A101_2, c101_2, e101, hx101_0, hx101_1, hx101_2, hl101_2, hi101_2⟩ := at_T29 HR0.out x11_1 p101 q101; cases e101; replace hx101_0 := (HB.out.cell (World.block_lt_of_cell? w _ hx101_0)).trans hx101_0; replace hx101_1 := (HB.out.cell (World.block_lt_of_cell? w _ hx101_1)).trans hx101_1; replace hx101_2 := (HB.out.cell (World.block_lt_of_cell? w _ hx101_2)).trans hx101_2; have HR101_2 := aK hi101_2; have HC101_2 := aK hl101_2; clear hi101_2 hl101_2; replace p101 := eq_true p101; replace q101 := eq_true q101
  go_wp2_with (first | ((with_reducible refine ga 7 rfl ?_); refine bxa #[.int .i64 0, .int .i64 0, .slice none 0 0] 29 ?_; intro g102 hg w9 B102 hb; replace HO_5 := rb HO_5 hb; have GW102 := gA hg HB; replace HB := bS HB hb; clear hb hg; obtain ⟨_, _, _, _, _, _⟩ := bc3 B102.out; have p103 : 0 ≤ (a1 : Int) := dA; have q103 : a1 < (((rd_T29 l0 x11_1).f2).length : Int) := dA; obtain ⟨ad103, e103, hx103_0⟩ := Kd.at_int HR101_2.out a1 p103 q103; cases e103; have hn103_0 : ad103.block ≠ g102 := Nat.ne_of_lt (Nat.lt_of_lt_of_le (by have := World.block_lt_of_cell? _ _ hx103_0; first | rwa [add_block] at this | exact this) GW102.out); have hn103_1 : ad103.block ≠ g102 := Nat.ne_of_lt (Nat.lt_of_lt_of_le (by have := World.block_lt_of_cell? _ _ hx103_0; first | rwa [add_block] at this | exact this) GW102.out); have hn103_2 : ad103.block ≠ g102 := Nat.ne_of_lt (Nat.lt_of_lt_of_le (by have := World.block_lt_of_cell? _ _ hx103_0; first | rwa [add_block] at this | exact this) GW102.out); replace hx103_0 := (HB.out.cell (World.block_lt_of_cell? w _ hx103_0)).trans hx103_0; replace hx103_0 := (cell_far (p := ⟨g102, 0, none⟩) (by first | (rw [add_block]; exact hn103_0) | (show (Addr.add _ _).block ≠ _; rw [add_block]; exact hn103_0) | exact hn103_0) (.int .i64 ((rd_T29 l0 x11_1).f0))).trans hx103_0; replace hx103_0 := (cell_far (p := ⟨g102, 1, none⟩) (by first | (rw [add_block]; exact hn103_1) | (show (Addr.add _ _).block ≠ _; rw [add_block]; exact hn103_1) | exact hn103_1) (.int .i64 ((rd_T29 l0 x11_1).f1))).trans hx103_0; replace hx103_0 := (cell_far (p := ⟨g102, 2, none⟩) (by first | (rw [add_block]; exact hn103_2) | (show (Addr.add _ _).block ≠ _; rw [add_block]; exact hn103_2) | exact hn103_2) (.slice (some ad103) ((rd_T29 l0 x11_1).f2).length c101_2)).trans hx103_0; clear hn103_0 hn103_1 hn103_2; replace p103 := eq_true p103; replace q103 := eq_true q103))
  go_roundg k1
  case measure => have := HK1.out; omega
  case rel => exact ⟨(x5_1), (wrap64 (x11_1 + 1)), (by first | rfl | (simp; done) | (simp [*]; done)), H', ⟨by have := HK1.out; omega⟩, ⟨pR (Kd.R_mono (rF3 HO_5.out B102.out (.int .i64 ((rd_T29 l0 x11_1).f0)) (.int .i64 ((rd_T29 l0 x11_1).f1)) (.slice (some ad103) ((rd_T29 l0 x11_1).f2).length c101_2)) (fun _ h => trivial))⟩, ⟨pT HB.out⟩⟩
 rw [if_neg c8] at H
 have c8b0 : ((rd ((rd_T29 l0 x11_1).f2) a1) == (-9999)) = false := beq_eq_false_iff_ne.mpr c8
 have c8b1 : ((rd ((rd_T29 l0 x11_1).f2) a1) != (-9999)) = true := bne_iff_ne.mpr c8
 by_cases c11 : x5_1.length < 17592186044416
 rotate_left
 ·
  rw [if_neg c11] at H
  exact absurd H (by simp)
 rw [if_pos c11] at H
 have LMc11 := aK c11
 clear c11
 obtain ⟨y104, hy104⟩ : ∃ y_ : List Int, y_ = (x5_1 ++ [rd ((rd_T29 l0 x11_1).f2) a1]) := ⟨_, rfl⟩
 replace H : (impl_memberValues.l0 k1 a1 y104 l0 (l0.length : Int) (wrap64 (x11_1 + 1))) = some r := by first | (rw [hy104]; first | with_reducible exact H | with_reducible exact (oS H :)) | with_reducible exact (oS H :) | with_reducible exact H | exact H
 have Ny104 := aK hy104
 clear hy104
 have H' := aK H
 clear H
 have p101 : 0 ≤ (x11_1 : Int) := dA
 have q101 : x11_1 < (l0.length : Int) := dA
 obtain ⟨ad101, A101_2, c101_2, e101, hx101_0, hx101_1, hx101_2, hl101_2, hi101_2⟩ := at_T29 HR0.out x11_1 p101 q101
 cases e101
 replace hx101_0 := (HB.out.cell (World.block_lt_of_cell? w _ hx101_0)).trans hx101_0
 replace hx101_1 := (HB.out.cell (World.block_lt_of_cell? w _ hx101_1)).trans hx101_1
 replace hx101_2 := (HB.out.cell (World.block_lt_of_cell? w _ hx101_2)).trans hx101_2
 have HR101_2 := aK hi101_2
 have HC101_2 := aK hl101_2
 clear hi101_2 hl101_2
 replace p101 := eq_true p101
 replace q101 := eq_true q101
 go_wp2_with (first | ((with_reducible refine ga 7 rfl ?_); refine bxa #[.int .i64 0, .int .i64 0, .slice none 0 0] 29 ?_; intro g102 hg w12 B102 hb; replace HO_5 := rb HO_5 hb; have GW102 := gA hg HB; replace HB := bS HB hb; clear hb hg; obtain ⟨_, _, _, _, _, _⟩ := bc3 B102.out; have p103 : 0 ≤ (a1 : Int) := dA; have q103 : a1 < (((rd_T29 l0 x11_1).f2).length : Int) := dA; obtain ⟨ad103, e103, hx103_0⟩ := Kd.at_int HR101_2.out a1 p103 q103; cases e103; have hn103_0 : ad103.block ≠ g102 := Nat.ne_of_lt (Nat.lt_of_lt_of_le (by have := World.block_lt_of_cell? _ _ hx103_0; first | rwa [add_block] at this | exact this) GW102.out); have hn103_1 : ad103.block ≠ g102 := Nat.ne_of_lt (Nat.lt_of_lt_of_le (by have := World.block_lt_of_cell? _ _ hx103_0; first | rwa [add_block] at this | exact this) GW102.out); have hn103_2 : ad103.block ≠ g102 := Nat.ne_of_lt (Nat.lt_of_lt_of_le (by have := World.block_lt_of_cell? _ _ hx103_0; first | rwa [add_block] at this | exact this) GW102.out); replace hx103_0 := (HB.out.cell (World.block_lt_of_cell? w _ hx103_0)).trans hx103_0; replace hx103_0 := (cell_far (p := ⟨g102, 0, none⟩) (by first | (rw [add_block]; exact hn103_0) | (show (Addr.add _ _).block ≠ _; rw [add_block]; exact hn103_0) | exact hn103_0) (.int .i64 ((rd_T29 l0 x11_1).f0))).trans hx103_0; replace hx103_0 := (cell_far (p := ⟨g102, 1, none⟩) (by first | (rw [add_block]; exact hn103_1) | (show (Addr.add _ _).block ≠ _; rw [add_block]; exact hn103_1) | exact hn103_1) (.int .i64 ((rd_T29 l0 x11_1).f1))).trans hx103_0; replace hx103_0 := (cell_far (p := ⟨g102, 2, none⟩) (by first | (rw [add_block]; exact hn103_2) | (show (Addr.add _ _).block ≠ _; rw [add_block]; exact hn103_2) | exact hn103_2) (.slice (some ad103) ((rd_T29 l0 x11_1).f2).length c101_2)).trans hx103_0; clear hn103_0 hn103_1 hn103_2; replace p103 := eq_true p103; replace q103 := eq_true q103) | ((with_reducible refine gate_builtin (b := .append) (xs := #[.tmp 22, .tmp 24]) rfl ?_); at_builtin; refine Kd.R_append (Kd.int .i64) (w0 := w) w.heap.size rfl (.tmp 22) (.tmp 24) 27 3 (.int .i64 0) 8 rfl Try.underlying27 info3 rfl (by decide) (by omega) u5 x5_1 (rd ((rd_T29 l0 x11_1).f2) a1) [.int .i64 (rd ((rd_T29 l0 x11_1).f2) a1)] (fun _ => True) (fun _ => False) rfl (by first | (go_simp; done) | (go_simp; rfl)) ?aP (fun _ hk => hk.elim) ?aF ?aO ?aB ?aS ?aL ?_; (case aP => exact rfl); (case aB => exact (pS HB.out)); (case aF => exact (fun _ _ => trivial)); (case aO => exact (pR (Kd.R_mono (rF3 HO_5.out B102.out (.int .i64 ((rd_T29 l0 x11_1).f0)) (.int .i64 ((rd_T29 l0 x11_1).f1)) (.slice (some ad103) ((rd_T29 l0 x11_1).f2).length c101_2)) (fun _ h => trivial)))); (case aS => exact (below_size (pS HB.out))); (case aL => have := LMc11.out; omega); intro v105 w14 ho hb hg hat; rw [← Ny104.out] at ho; replace B102 := aK (blk_grown (g := g102) (o := .cells #[.int .i64 ((rd_T29 l0 x11_1).f0), .int .i64 ((rd_T29 l0 x11_1).f1), .slice (some ad103) ((rd_T29 l0 x11_1).f2).length c101_2] 29 (0, 0)) (by refine bq #[.int .i64 ((rd_T29 l0 x11_1).f0), .int .i64 ((rd_T29 l0 x11_1).f1), .slice none 0 0] 2 ?_; refine bq #[.int .i64 ((rd_T29 l0 x11_1).f0), .int .i64 0, .slice none 0 0] 1 ?_; refine bq #[.int .i64 0, .int .i64 0, .slice none 0 0] 0 ?_; refine bk ?_; exact B102.out) hg (Kd.R_ne HO_5.out B102.out (by decide))); replace HB := aK (hb); have HO106 := aK (ho); clear HO_5; clear ho hb hg hat))
 go_roundg k1
 case measure => have := HK1.out; omega
 case rel => exact ⟨(y104), (wrap64 (x11_1 + 1)), (by first | rfl | (simp; done) | (simp [*]; done)), H', ⟨by have := HK1.out; omega⟩, ⟨pR HO106.out⟩, ⟨pT HB.out⟩⟩
def bits_Mul64.f (a0 : Int) (a1 : Int) : Option (Int × Int) := some (IntKind.u64.wrap ((IntKind.u64.wrap ((IntKind.u64.wrap ((a0 / 4294967296) * (a1 / 4294967296))) + ((IntKind.u64.wrap ((IntKind.u64.wrap ((a0 / 4294967296) * (Go.bits .and .u64 a1 4294967295))) + ((IntKind.u64.wrap ((Go.bits .and .u64 a0 4294967295) * (Go.bits .and .u64 a1 4294967295))) / 4294967296))) / 4294967296))) + ((IntKind.u64.wrap ((Go.bits .and .u64 (IntKind.u64.wrap ((IntKind.u64.wrap ((a0 / 4294967296) * (Go.bits .and .u64 a1 4294967295))) + ((IntKind.u64.wrap ((Go.bits .and .u64 a0 4294967295) * (Go.bits .and .u64 a1 4294967295))) / 4294967296))) 4294967295) + (IntKind.u64.wrap ((Go.bits .and .u64 a0 4294967295) * (a1 / 4294967296))))) / 4294967296)), IntKind.u64.wrap (a0 * a1))
theorem bits_Mul64.calls (a0 : Int) (a1 : Int) (r1 : Int) (r2 : Int) (w : World) (h : bits_Mul64.f a0 a1 = some (r1, r2)) :
  Calls Try.prog 87 #[.int .u64 a0, .int .u64 a1] w fun e w' => e = .returned (.tuple #[.int .u64 r1, .int .u64 r2]) ∧ Drawn0 w w' := by
 have H : (some (IntKind.u64.wrap ((IntKind.u64.wrap ((IntKind.u64.wrap ((a0 / 4294967296) * (a1 / 4294967296))) + ((IntKind.u64.wrap ((IntKind.u64.wrap ((a0 / 4294967296) * (Go.bits .and .u64 a1 4294967295))) + ((IntKind.u64.wrap ((Go.bits .and .u64 a0 4294967295) * (Go.bits .and .u64 a1 4294967295))) / 4294967296))) / 4294967296))) + ((IntKind.u64.wrap ((Go.bits .and .u64 (IntKind.u64.wrap ((IntKind.u64.wrap ((a0 / 4294967296) * (Go.bits .and .u64 a1 4294967295))) + ((IntKind.u64.wrap ((Go.bits .and .u64 a0 4294967295) * (Go.bits .and .u64 a1 4294967295))) / 4294967296))) 4294967295) + (IntKind.u64.wrap ((Go.bits .and .u64 a0 4294967295) * (a1 / 4294967296))))) / 4294967296)), IntKind.u64.wrap (a0 * a1))) = some (r1, r2) := h
 clear h
 simp only [Option.some.injEq, Prod.mk.injEq] at H
 obtain ⟨rfl, rfl⟩ := H
 go_enter Try.func87, Try.ntmps87
 go_wp2
 go_ret2
 exact ⟨by first | rfl | (simp; done) | (simp [*]; done), by repeat (first | exact Drawn0.refl _ | apply Drawn0.step)⟩
def bits_Mul.f (a0 : Int) (a1 : Int) : Option (Int × Int) := (bits_Mul64.f a0 a1).bind fun bt101 => (some (bt101.1, bt101.2))
theorem bits_Mul.calls (a0 : Int) (a1 : Int) (r1 : Int) (r2 : Int) (w : World) (h : bits_Mul.f a0 a1 = some (r1, r2)) :
  Calls Try.prog 78 #[.int .u64 a0, .int .u64 a1] w fun e w' => e = .returned (.tuple #[.int .u64 r1, .int .u64 r2]) ∧ Drawn0 w w' := by
 have H : ((bits_Mul64.f a0 a1).bind fun bt101 => (some (bt101.1, bt101.2))) = some (r1, r2) := h
 clear h
 replace H := oA H
 obtain ⟨⟨t101, t102⟩, A3, H⟩ := H
 replace H : (some (t101, t102)) = some (r1, r2) := H
 simp only [Option.some.injEq, Prod.mk.injEq] at H
 obtain ⟨rfl, rfl⟩ := H
 go_enter Try.func78, Try.ntmps78
 go_wp2_with (first | ((with_reducible refine gc 87 rfl ?_); refine gl (some 25) Try.func87 #[.int .u64 a0, .int .u64 a1] ?_; (with_reducible refine (bits_Mul64.calls a0 a1 t101 t102 _ A3.out).mono ?_); rintro e w' ⟨rfl, ⟨nd, rfl⟩⟩; refine ⟨_, rfl, ?_⟩))
 go_ret2
 exact ⟨by first | rfl | (simp; done) | (simp [*]; done), by repeat (first | exact Drawn0.refl _ | apply Drawn0.step)⟩
end Go.Proofs.Ytpggcolcabmdeaa.P
namespace Go.Proofs.Ytpggcolcabmdeaa.P
open Go.RowKit Go.Proofs.YtpggcolcabmdeaaW.PrintWords Go.Proofs.YtpggcolcabmdeaaW.PrintLast Go.Proofs.YtpggcolcabmdeaaW.PrintMore
attribute [local go_sem] max2_int min2_int max_two min_two max_three min_three max_four min_four
set_option linter.unusedVariables false
set_option linter.unusedSimpArgs false
def slices_Repeat_int_int.f (l0 : List Int) (a1 : Int) : Option (List Int) := if l0.length = 1 ∧ 0 ≤ a1 ∧ a1 ≤ 64 then some (List.replicate a1.toNat (rd l0 0)) else none
theorem repeat_mul : ∀ N : Fin 65, bits_Mul.f 1 (IntKind.u64.wrap ((N.val : Nat) : Int)) = some (0, ((N.val : Nat) : Int)) := by decide +kernel
def repRow (N m : Nat) (x : Int) : List Value := List.replicate m (.int .i64 x) ++ List.replicate (N - m) (.int .i64 0)
theorem repeat_first (N : Nat) (x : Int) : splice (List.replicate N (Value.int .i64 0)) 0 (List.replicate (min 1 N) (.int .i64 x)) = repRow N (min 1 N) x := by
 unfold splice repRow
 simp
theorem repeat_made (w : World) (N : Nat) : (w.alloc (.cells (madeCells #[Value.int .i64 0] N) 3)).heap[w.heap.size]? = some (.cells (List.replicate N (Value.int .i64 0)).toArray 3 (0, 0)) := by
 have e : madeCells #[Value.int .i64 0] N = (List.replicate N (Value.int .i64 0)).toArray := by
  apply Array.ext
  ·
   simp [madeCells]
  intro i h1 h2
  simp [madeCells, Nat.mod_one]
 rw [e]
 exact World.alloc_heap_new w _
theorem repeat_pos (w w1 : World) (N : Nat) (x : Int) (ad : Addr) (h : Kd.C (Kd.int .i64) w (some ad) 1 [x]) (hb : Below w.heap.size w w1) : 0 < (List.replicate (min 1 N) (Value.int .i64 x)).length →
    some (⟨w1.heap.size, 0, none⟩ : Addr) = some ⟨w1.heap.size, 0, none⟩ ∧ ∃ a, some ad = some a ∧ ∀ j v, (List.replicate (min 1 N) (Value.int .i64 x))[j]? = some v → (w1.alloc (.cells (madeCells #[Value.int .i64 0] N) 3)).cell? (a.add j) = some v := by
  intro _
  refine ⟨rfl, ad, rfl, fun j v hv => ?_⟩
  obtain ⟨hj, rfl⟩ := List.getElem?_eq_some_iff.1 hv
  have : j = 0 := by simp at hj; omega
  subst this
  rw [List.getElem_replicate]
  obtain ⟨ad2, e2, hcell⟩ := Kd.at_int (Kd.C_alloc (Kd.C_below h hb) (.cells (madeCells #[Value.int .i64 0] N) 3)) 0 (by omega) (by omega)
  cases e2
  exact hcell
theorem repeat_fit (N m : Nat) (x : Int) : m + (List.replicate (min m (N - m)) (Value.int .i64 x)).length ≤ (repRow N m x).length := by
 simp [repRow]; omega
theorem repeat_next (N m : Nat) (x : Int) (h : m < N) : splice (repRow N m x) m (List.replicate (min m (N - m)) (.int .i64 x)) = repRow N (m + min m (N - m)) x := by
 unfold splice repRow
 apply List.ext_getElem
 ·
  simp; omega
 intro i h1 h2
 simp [List.getElem_append, List.getElem_take, List.getElem_drop]
 split <;> split <;> (try split) <;> (try split) <;> first | rfl | omega
theorem repeat_pos2 (W : World) (g N m : Nat) (x : Int) (h : W.heap[g]? = some (.cells (repRow N m x).toArray 3 (0, 0))) : 0 < (List.replicate (min m (N - m)) (Value.int .i64 x)).length →
    some (⟨g, m, none⟩ : Addr) = some ⟨g, m, none⟩ ∧ ∃ a, some (⟨g, 0, none⟩ : Addr) = some a ∧ ∀ j v, (List.replicate (min m (N - m)) (Value.int .i64 x))[j]? = some v → W.cell? (a.add j) = some v := by
  intro _
  refine ⟨rfl, _, rfl, fun j v hv => ?_⟩
  obtain ⟨hj, rfl⟩ := List.getElem?_eq_some_iff.1 hv
  rw [List.getElem_replicate]
  have hjm : j < m := by simp at hj; omega
  have e : (⟨g, 0, none⟩ : Addr).add j = ⟨g, j, none⟩ := by rw [add_plain]
  rw [e, World.cell?, h]
  simp [repRow, List.getElem?_append, hjm]
theorem repeat_row (w wr : World) (g N : Nat) (x : Int) (h : wr.heap[g]? = some (.cells (repRow N N x).toArray 3 (0, 0))) (hs : w.heap.size ≤ g) (hN : N ≤ 64) :
    Kd.R (Kd.int .i64) 3 wr w.heap.size (fun _ => True) (.slice (some ⟨g, 0, none⟩) N N) (List.replicate N (rd [x] 0)) := by
  have e : rd [x] 0 = x := rfl
  rw [e]
  have es : (Kd.int .i64).sz = 1 := rfl
  refine ⟨fun _ _ => trivial, encs (Value.int .i64) (List.replicate N x), ⟨by rw [es]; simp [encs], .inr ⟨g, N, (repRow N N x).toArray, by rw [List.length_replicate], hs, h, by simp, by unfold maxLen; omega, by rw [es]; simp [repRow], by rw [es]; simp [repRow, encs]⟩⟩, Kd.reps_scalar _⟩
set_option maxHeartbeats 2000000 in
set_option maxRecDepth 100000 in
theorem slices_Repeat_int_int.calls (A0 : Option Addr) (c0 : Nat) (l0 : List Int) (a1 : Int) (r : List Int) (w : World) (hr0 : Kd.C (Kd.int .i64) w A0 l0.length l0) (hc0 : l0.length ≤ c0) (h : slices_Repeat_int_int.f l0 a1 = some r) :
    Calls Try.prog 59 #[.slice A0 l0.length c0, .int .i64 a1] w fun e w' => ∃ v0_ : Value, e = .returned (v0_) ∧ Kd.R (Kd.int .i64) 3 w' w.heap.size (fun _ => True) v0_ r ∧ Below w.heap.size w w' := by
 unfold slices_Repeat_int_int.f at h
 by_cases hg : l0.length = 1 ∧ 0 ≤ a1 ∧ a1 ≤ 64
 case neg => rw [if_neg hg] at h; exact absurd h (by simp)
 rw [if_pos hg] at h
 obtain rfl := Option.some.inj h
 obtain ⟨h1, h2, h3⟩ := hg
 obtain ⟨N, rfl⟩ := Int.eq_ofNat_of_zero_le h2
 obtain ⟨x, rfl⟩ : ∃ x, l0 = [x] := List.length_eq_one_iff.1 h1
 have hN : N ≤ 64 := by omega
 obtain ⟨ad, e0, hcell⟩ := Kd.at_int hr0 0 (by omega) (by simp)
 cases e0
 have HM : Aside0 (bits_Mul.f 1 (IntKind.u64.wrap (N : Int)) = some (0, (N : Int))) := ⟨repeat_mul ⟨N, by omega⟩⟩
 have HN := aK hN
 have HC : Aside0 (Kd.C (Kd.int .i64) w (some ad) 1 [x]) := ⟨hr0⟩
 have HB := aK (Below.refl w.heap.size w)
 obtain ⟨i0, hi0, hz0, hsz0, hb0⟩ := info_parts info3
 have t2 : decide (9223372036854775807 < (N : Int)) = false := decide_eq_false (by omega)
 have HW : Aside0 (wrap64 (N : Int) = (N : Int)) := ⟨by unfold wrap64; omega⟩
 have hszm : (Try.prog.info? 3).map (·.size) = some 1 := by rw [hi0]; simp [hsz0]
 have mixed : Try.prog.follows .mixedOrders = true := by kernel_rfl
 have t1 : decide ((N : Int) < 0) = false := by simp
 clear hr0 h1 h2 h3 h hcell hN
 go_enter Try.func59, Try.ntmps59
 go_wp2_with (first
  | (go_at_call 78; refine (bits_Mul.calls 1 (IntKind.u64.wrap (N : Int)) 0 (N : Int) _ HM.out).mono ?_; rintro e w1 ⟨rfl, hd⟩; have HD := aK hd.below; clear hd)
  | ((with_reducible refine ga 30 rfl ?_); go_must (refine wpList_make_row _ rfl (.tmp 29) (.tmp 29) 27 rfl 3 i0 (.int .i64 0) Try.underlying27 hi0 hz0 hsz0 rfl .i64 .i64 N (congrArg (Value.int .i64) HW.out) (congrArg (Value.int .i64) HW.out) (by have := HN.out; rw [hb0]; omega) (by have := HN.out; omega) ?_))
  | ((with_reducible refine gate_builtin (b := .copy) (xs := #[.tmp 31, .tmp 32]) rfl ?_); go_must (refine wpList_copy_splice rfl (.tmp 31) (.tmp 32) 27 27 rfl 3 Try.underlying27 hszm (some ⟨w1.heap.size, 0, none⟩) (some ad) N N 1 c0 rfl rfl w1.heap.size 0 (List.replicate N (.int .i64 0)) 3 (repeat_made w1 N) (List.replicate (min 1 N) (.int .i64 x)) ?hn ?hpos ?hfit ?h1 w.heap.size w ?hb HD.out.size ?_; (case hn => simp); (case hfit => simp; omega); (case h1 => intro v hv; rw [List.eq_of_mem_replicate hv]; rfl); (case hb => exact below_alloc HD.out _); (case hpos => exact repeat_pos w w1 N x ad HC.out HD.out)); intro w3 hg3 hb3; rw [repeat_first] at hg3; have HG := aK hg3; have HB3 := aK hb3; clear hg3 hb3))
 have HS : Aside0 (w.heap.size ≤ w1.heap.size) := ⟨HD.out.size⟩
 generalize w1.heap.size = g at *
 go_loopg [8] N (fun gg s8 wr => ∃ m : Nat, s8 = .int .i64 (m : Int) ∧ Aside0 (min 1 N ≤ m ∧ m ≤ N ∧ N - m ≤ gg) ∧ Aside0 (wr.heap[g]? = some (.cells (repRow N m x).toArray 3 (0, 0))) ∧ Below w.heap.size w wr)
 case atStart => exact ⟨min 1 N, rfl, ⟨Nat.le_refl _, Nat.min_le_right _ _, by omega⟩, ⟨HG.out⟩, HB3.out⟩
 case round =>
 obtain ⟨m, rfl, AA, HG2, hb⟩ := hrel
 have HB := aK hb
 clear hb
 by_cases hlt : (m : Int) < (N : Int)
 rotate_left
 ·
  have c4b0 : (m < N) = False := eq_false (by omega)
  have HE : Aside0 (m = N) := ⟨by have := AA.out; omega⟩
  clear hlt
  go_wp2_with fail
  go_ret
  refine ⟨_, rfl, ?_, HB.out⟩
  obtain rfl := HE.out
  exact repeat_row _ _ _ _ _ HG2.out HS.out HN.out
 have c4b0 : (m < N) = True := eq_true (by omega)
 have hm := AA.out
 have hmN : m < N := by omega
 have hcut1 : ∀ W : World, (Instr.slice 27 (.slice (some ⟨g, 0, none⟩) N N) (some (.int .i64 (m : Int))) none none).run Try.prog W = .ok (.slice (some ⟨g, m, none⟩) (N - m) (N - m)) W := by
  intro W
  have h := cut_from (P := Try.prog) 27 3 .i64 Try.underlying27 hi0 1 hsz0 (some ⟨g, 0, none⟩) N N (m : Int) (by omega) (by omega) W
  rw [Int.toNat_natCast, if_neg (by omega)] at h
  have ea : (⟨g, 0, none⟩ : Addr).add (m * 1) = ⟨g, m, none⟩ := by rw [add_plain]; simp
  rw [Option.map_some, ea] at h
  exact h
 have hcut2 : ∀ W : World, (Instr.slice 27 (.slice (some ⟨g, 0, none⟩) N N) none (some (.int .i64 (m : Int))) none).run Try.prog W = .ok (.slice (some ⟨g, 0, none⟩) m N) W := by
  intro W
  have h := cut_to (P := Try.prog) 27 3 .i64 Try.underlying27 hi0 (some ⟨g, 0, none⟩) N N (m : Int) (by omega) (by omega) (Nat.le_refl _) W
  rw [Int.toNat_natCast] at h
  exact h
 have HMN := aK hmN
 clear hm hmN hlt
 go_wp2_with fail
 go_region_law_o (refine step_copy_splice rfl (.tmp 41) (.tmp 44) 27 27 rfl 3 Try.underlying27 hszm (some ⟨g, m, none⟩) (some ⟨g, 0, none⟩) (N - m) (N - m) m N (by simp [Act.eval, Act.put]) (by simp [Act.eval, Act.put]) g m (repRow N m x) 3 HG2.out (List.replicate (min m (N - m)) (.int .i64 x)) ?hn ?hpos ?hfit ?h1 w.heap.size w ?hb HS.out ?_; (case hn => simp; done); (case hfit => exact repeat_fit N m x); (case h1 => intro v hv; rw [List.eq_of_mem_replicate hv]; rfl); (case hb => exact below_drew1 HB.out); (case hpos => exact repeat_pos2 _ g N m x HG2.out); intro w4 hg4 hb4; rw [repeat_next N m x HMN.out] at hg4; have HG4 := aK hg4; have HB4 := aK hb4; clear hg4 hb4)
 go_wp2_with fail
 go_roundg (N - (m + min m (N - m)))
 case measure => have h1 := AA.out; have h2 := HMN.out; omega
 case rel =>
 have h1 := AA.out
 have h2 := HMN.out
 have h3 := HN.out
 refine ⟨m + min m (N - m), ?_, ⟨by omega, by omega, by omega⟩, ⟨HG4.out⟩, HB4.out⟩
 rw [show ((m : Int) + ((min m (N - m) : Nat) : Int)) = ((m + min m (N - m) : Nat) : Int) by omega, IntWalk.i64_in _ ⟨by omega, by omega⟩]
end Go.Proofs.Ytpggcolcabmdeaa.P
namespace Go.Proofs.Ytpggcolcabmdeaa.P
open Go.RowKit Go.Proofs.YtpggcolcabmdeaaW.PrintWords Go.Proofs.YtpggcolcabmdeaaW.PrintLast Go.Proofs.YtpggcolcabmdeaaW.PrintMore
attribute [local go_sem] max2_int min2_int max_two min_two max_three min_three max_four min_four
set_option linter.unusedVariables false
set_option linter.unusedSimpArgs false
set_option maxHeartbeats 8000000
set_option maxRecDepth 100000
def impl_filled.f (a0 : Int) (a1 : Int) (a2 : Int) : Option (Int × Int × List Int) := (slices_Repeat_int_int.f (([a2] : List Int)) (wrap64 (a0 * a1))).bind fun t105 => (some (a0, a1, t105))
theorem impl_filled.calls (a0 : Int) (a1 : Int) (a2 : Int) (r1 : Int) (r2 : Int) (r3 : List Int) (w : World) (h : impl_filled.f a0 a1 a2 = some (r1, r2, r3)) :
  Calls Try.prog 46 #[.int .i64 a0, .int .i64 a1, .int .i64 a2] w fun e w' => ∃ v2_ : Value, e = .returned (.agg #[.int .i64 r1, .int .i64 r2, v2_]) ∧ Kd.R (Kd.int .i64) 3 w' w.heap.size (fun _ => True) v2_ r3 ∧ Below w.heap.size w w' := by
 have hu29 := Try.underlying29
 have HB := aK (Below.refl w.heap.size w)
 have H : ((slices_Repeat_int_int.f (([a2] : List Int)) (wrap64 (a0 * a1))).bind fun t105 => (some (a0, a1, t105))) = some (r1, r2, r3) := h
 clear h
 obtain ⟨y102, hy102⟩ : ∃ y_ : List Int, y_ = (([a2] : List Int)) := ⟨_, rfl⟩
 replace H : ((slices_Repeat_int_int.f y102 (wrap64 (a0 * a1))).bind fun t105 => (some (a0, a1, t105))) = some (r1, r2, r3) := by first | (rw [hy102]; first | with_reducible exact H | with_reducible exact (oS H :)) | with_reducible exact (oS H :) | with_reducible exact H | exact H
 have Ny102 := aK hy102
 clear hy102
 replace H := oA H
 obtain ⟨t105, A4, H⟩ := H
 replace H : (some (a0, a1, t105)) = some (r1, r2, r3) := H
 simp only [Option.some.injEq, Prod.mk.injEq] at H
 obtain ⟨rfl, rfl, rfl⟩ := H
 go_enter Try.func46, Try.ntmps46
 go_wp2_with (first | ((with_reducible refine ga 6 rfl ?_); refine bxa #[.int .i64 0, .int .i64 0, .slice none 0 0] 29 ?_; intro g101 hg w5 B101 hb; have GW101 := gA hg HB; replace HB := bS HB hb; clear hb hg) | ((with_reducible refine ga 10 rfl ?_); refine Kd.R_lit (Kd.int .i64) _ 3 ?hg (N := 10) ?hd (xs := ([a2] : List Int)) (inner := [.int .i64 a2]) (ok := fun _ => True) (okp := fun _ => True) ?hr ?hp (fun _ hk => hk) trivial (Below.refl _ _) (Nat.le_refl _) (by simp) ?_; (case hd => rfl); (case hg => rfl); (case hr => first | (go_simp; done) | (go_simp; rfl)); (case hp => exact (Reps.one (show Kd.M (Kd.int .i64) _ _ _ a2 [.int .i64 a2] from rfl) (Reps.none _ _))); intro v103 w6 ho7 hb hg_ hnew_; clear hg_ hnew_; (first | rw [← Ny102.out] at ho7 | (simp only [Int.reduceToNat] at ho7; rw [← Ny102.out] at ho7)); have HO104 := aK (Kd.R_lower ho7 (below_size (pS HB.out))); replace B101 := bB B101 hb; replace HB := bS HB hb; clear hb ho7; obtain ⟨Ao8, co8, eo8⟩ := Kd.R_slice HO104.out; subst eo8) | ((with_reducible refine gc 59 rfl ?_); refine gl (some 14) Try.func59 #[.slice Ao8 y102.length co8, .int .i64 (wrap64 (a0 * a1))] ?_; (with_reducible refine (slices_Repeat_int_int.calls _ _ y102 (wrap64 (a0 * a1)) t105 _ ?side1 ?side2 A4.out).mono ?_); (case side1 => exact pC (Kd.R_reads' HO104.out).2.2); (case side2 => exact (Kd.R_reads' HO104.out).2.1); rintro e w9 ⟨v106, rfl, ho0, hb⟩; refine ⟨_, rfl, ?_⟩; have n0_ := aK (Kd.R_elder' (pR HO104.out) (Kd.R_base ho0) hb); have HO107 := aK (Kd.R_lower (nw1 ho0 (pR HO104.out)) (below_size (pS HB.out))); replace B101 := bB B101 hb; replace HB := bS HB hb; clear HO104; have HO104 := n0_; clear n0_; (try clear hb); (try clear ho0); obtain ⟨Ao10, co10, eo10⟩ := Kd.R_slice HO107.out; subst eo10; obtain ⟨_, _, _, _, _, _⟩ := bc3 B101.out))
 refine bodyPost_ret (results_cell_row rfl _ _ g101 29 #[.int .i64 a0, .int .i64 a1, .slice Ao10 t105.length co10] (0, 0) _ rfl (by refine bq #[.int .i64 a0, .int .i64 a1, .slice none 0 0] 2 ?_; refine bq #[.int .i64 a0, .int .i64 0, .slice none 0 0] 1 ?_; refine bq #[.int .i64 0, .int .i64 0, .slice none 0 0] 0 ?_; refine bk ?_; exact B101.out) Try.underlying29 rfl (by kernel_rfl)) rfl ?_
 exact ⟨_, er, by (with_reducible repeat (first | apply Kd.R_alloc | apply Kd.R_drewN | apply Kd.R_drew)); exact Kd.R_mono (rF3 HO107.out B101.out (.int .i64 a0) (.int .i64 a1) (.slice Ao10 t105.length co10)) (fun _ h => trivial), pT HB.out⟩
end Go.Proofs.Ytpggcolcabmdeaa.P
