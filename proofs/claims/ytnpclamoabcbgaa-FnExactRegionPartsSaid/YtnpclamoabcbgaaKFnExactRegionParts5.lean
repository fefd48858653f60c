/- Texts of the claim FnExactRegionParts, merged: part 5 of 6: the program's and the reference's functions as Lean functions, the walks that show it, and plain lemmas; no conditions. -/
import Derived.Test.YtnpclamoabcbgaaKFnExactRegionParts4
import Derived.Shelf.Sort.Plain
import Derived.Shelf.Slices.In.SortNone
import Derived.Ground.Names2Prog
import Derived.Test.YtnpclamoabcbgaaProg
import Derived.Test.YtnpclamoabcbgaaKFnExactRegionParts1
import Derived.Sort.OwnSortedInts
import Derived.Test.YtnpclamoabcbgaaKFnExactRegionParts2
import Derived.Lib.SliceRun
import Derived.ProofKit
import Derived.OpenShut
import Derived.Deep.Slices
import Derived.Deep.Strs
import Derived.Deep.Fields
import Derived.Lib.SmallJoins
namespace Go.Proofs.Ytnpclamoabcbgaa.P
open Go.RowKit Go.Proofs.YtnpclamoabcbgaaW.PrintWords Go.Proofs.YtnpclamoabcbgaaW.PrintLast Go.Proofs.YtnpclamoabcbgaaW.PrintMore
set_option linter.unusedVariables false
set_option linter.unusedSimpArgs false
def LeftAt (gL o : Nat) (W : World) (cs : List Int) : Prop := cs.length ≤ 1000000 ∧ ∃ arr, W.heap[gL]? = some (.cells arr 3 (0, 0)) ∧ ∀ m, m < cs.length → arr[o + m]? = some (.int .i64 (cs.getD m 0))
theorem add_at (g o k : Nat) : (⟨g, o, none⟩ : Addr).add k = ⟨g, o + k, none⟩ := by unfold Addr.add; simp
theorem LeftAt.row {gL o : Nat} {W : World} {cs : List Int} (h : LeftAt gL o W cs) : Kd.C (Kd.int .i64) W (some ⟨gL, o, none⟩) cs.length cs := by
  obtain ⟨hl, arr, hb, ha⟩ := h
  refine ⟨rfl, by omega, fun _ => ⟨_, rfl, fun j p hp => ⟨[.int .i64 p], rfl, rfl, fun i u hu => ?_⟩⟩⟩
  obtain ⟨hj, ej⟩ := List.getElem?_eq_some_iff.1 hp
  cases i with
  | zero =>
    simp only [List.getElem?_cons_zero, Option.some.injEq] at hu
    subst hu
    have := ha j hj
    rw [List.getD_eq_getElem?_getD, hp, Option.getD_some] at this
    rw [add_at, blk_cell hb, show o + (j * (Kd.int .i64).sz + 0) = o + j by show o + (j * 1 + 0) = o + j; omega]
    exact this
  | succ i => simp at hu
theorem LeftAt.fz {gL o : Nat} {W : World} {cs : List Int} (h : LeftAt gL o W cs) (i : Nat) : W.frozen? ((⟨gL, o, none⟩ : Addr).add i) = false := by
  obtain ⟨hl, arr, hb, ha⟩ := h
  rw [add_at]
  exact blk_frozen hb _
theorem LeftAt.set {gL o : Nat} {W : World} {cs : List Int} (h : LeftAt gL o W cs) (i : Nat) (v : Int) (hi : i < cs.length) : LeftAt gL o (W.setCell ((⟨gL, o, none⟩ : Addr).add i) (.int .i64 v)) (cs.set i v) := by
  obtain ⟨hl, arr, hb, ha⟩ := h
  rw [add_at]
  refine ⟨by rw [List.length_set]; exact hl, _, blk_put hb (o + i) _ rfl, fun m hm => ?_⟩
  rw [List.length_set] at hm
  have hsz : o + i < arr.size := by
    have := ha i hi
    obtain ⟨h1, _⟩ := Array.getElem?_eq_some_iff.1 this
    exact h1
  by_cases e : m = i
  · subst e
    rw [Array.getElem?_setIfInBounds_self_of_lt hsz, List.getD_eq_getElem?_getD, List.getElem?_set_self hi]
    rfl
  · rw [Array.getElem?_setIfInBounds_ne (by omega), List.getD_eq_getElem?_getD, List.getElem?_set_ne (by omega), ← List.getD_eq_getElem?_getD]
    exact ha m hm
theorem LeftAt.keep {gL o : Nat} {W W' : World} {cs : List Int} (h : LeftAt gL o W cs) (e : W'.heap[gL]? = W.heap[gL]?) : LeftAt gL o W' cs := by
  obtain ⟨hl, arr, hb, ha⟩ := h
  exact ⟨hl, arr, e.trans hb, ha⟩
structure JR (gW gP gI gL o : Nat) (wide i : Int) (part0 : List Int) (base : Nat) (w1 : World) (v1 : Value) (cs acc : List Int) (W : World) : Prop where
  bW : W.heap[gW]? = some (.cells #[.int .i64 wide] 3 (0, 0))
  bI : W.heap[gI]? = some (.cells #[.int .i64 i] 3 (0, 0))
  part : ∃ v, W.heap[gP]? = some (.cells #[v] 22 (0, 0)) ∧ Kd.R (Kd.int .i64) 3 W base (fun k => k ≠ gL ∧ k ≠ gW ∧ k ≠ gI) v (part0 ++ acc) ∧ (v.ownBlock = v1.ownBlock ∨ ∃ b, v.ownBlock = some b ∧ w1.heap.size ≤ b)
  left : LeftAt gL o W cs
  size : w1.heap.size ≤ W.heap.size
  low : Below 0 w1 W
  keep : ∀ k, k < w1.heap.size → k ≠ gP → k ≠ gL → some k ≠ v1.ownBlock → W.heap[k]? = w1.heap[k]?
def nearP (wide i : Int) (part0 : List Int) (x : Int) : Bool := (impl_areConnected.f wide (rd part0 i) x).getD false
theorem connected_some {wide a b : Int} (h : wide ≠ 0) : ∃ r, impl_areConnected.f wide a b = some r := by
  unfold impl_areConnected.f
  rw [if_neg h]
  have k : ∀ d, ∃ r, impl_absOf.f d = some r := fun d => by
    unfold impl_absOf.f
    split
    · exact ⟨_, rfl⟩
    · exact ⟨_, rfl⟩
  obtain ⟨r1, e1⟩ := k (wrap64 ((Int.tmod a wide) - (Int.tmod b wide)))
  obtain ⟨r2, e2⟩ := k (wrap64 ((wrap64 (Int.tdiv a wide)) - (wrap64 (Int.tdiv b wide))))
  rw [e1, Option.bind_some, e2, Option.bind_some]
  exact ⟨_, rfl⟩
section
variable {gW gP gI gL o base : Nat} {wide i : Int} {part0 : List Int} {w1 : World} {v1 : Value} (h12 : gW ≠ gP) (h13 : gW ≠ gI) (h23 : gP ≠ gI) (hLW : gL ≠ gW) (hLP : gL ≠ gP) (hLI : gL ≠ gI)
  (lW : gW < w1.heap.size) (lI : gI < w1.heap.size) (lL : gL < w1.heap.size) (hb : base ≤ w1.heap.size) (hlen : part0.length < 400) (h0 : 0 ≤ i) (h1 : i < part0.length) (hw : wide ≠ 0)
include h12 h13 h23 hLW hLP hLI lW lI lL hb hlen h0 h1 hw in
theorem jr_ok : StOK 46 #[.pointer (some ⟨gW, 0, none⟩), .pointer (some ⟨gP, 0, none⟩), .pointer (some ⟨gI, 0, none⟩)] (nearP wide i part0) (some ⟨gL, o, none⟩) (JR gW gP gI gL o wide i part0 base w1 v1) 500 := by
  refine ⟨fun h => h.left.row, fun x cs acc W h ha => ?_⟩
  obtain ⟨v, bP, hR, hv⟩ := h.part
  have hs := h.size
  obtain ⟨r, er⟩ := connected_some (a := rd part0 i) (b := x) hw
  have ep : nearP wide i part0 x = r := by unfold nearP; rw [er]; rfl
  have ei : rd (part0 ++ acc) i = rd part0 i := by
    unfold rd
    rw [List.getD_eq_getElem?_getD, List.getElem?_append_left (by omega), ← List.getD_eq_getElem?_getD]
  rw [ep]
  refine (rp1_calls x wide i gW gP gI v (part0 ++ acc) r W base (fun k => k ≠ gL ∧ k ≠ gW ∧ k ≠ gI) h.bW bP h.bI h12 h13 h23 hR (by omega) (fun k hk => ⟨by omega, by omega, by omega⟩) (by rw [List.length_append]; omega) h0 (by rw [List.length_append]; omega) (by rw [ei]; exact er)).mono ?_
  rintro e W' ⟨rfl, v', hR', bP', hk, hv', hlow⟩
  have own : ∀ k, (k = gL ∨ k = gW ∨ k = gI) → some k ≠ v.ownBlock := fun k hk2 e => by
    have := hR.1 k e.symm
    rcases hk2 with rfl | rfl | rfl
    · exact this.1 rfl
    · exact this.2.1 rfl
    · exact this.2.2 rfl
  refine ⟨rfl, (hk.2 gW (by omega) h12 (own _ (.inr (.inl rfl)))).trans h.bW, (hk.2 gI (by omega) (Ne.symm h23) (own _ (.inr (.inr rfl)))).trans h.bI, ⟨v', bP', ?_, ?_⟩, h.left.keep (hk.2 gL (by omega) hLP (own _ (.inl rfl))), Nat.le_trans hs hk.1, h.low.trans hlow, fun k k1 k2 k3 k4 => ?_⟩
  · cases r with
    | true => rw [if_pos rfl] at hR' ⊢; rw [← List.append_assoc]; exact hR'
    | false => exact hR'
  · rcases hv' with e | ⟨b, e, hb2⟩
    · rw [e]; exact hv
    · exact .inr ⟨b, e, by omega⟩
  · refine (hk.2 k (by omega) k2 (fun e => ?_)).trans (h.keep k k1 k2 k3 k4)
    rcases hv with e2 | ⟨b, e2, hb2⟩
    · exact k4 (e.trans e2)
    · rw [e2] at e
      cases e
      omega
include hLW hLP hLI in
theorem jr_w : StW ⟨gL, o, none⟩ (JR gW gP gI gL o wide i part0 base w1 v1) := by
  refine ⟨fun k v h hk => ?_, fun k h hk => h.left.fz k⟩
  obtain ⟨v', bP, hR, hv⟩ := h.part
  have far : ∀ q, q ≠ gL → ∀ W : World, (W.setCell ((⟨gL, o, none⟩ : Addr).add k) (.int .i64 v)).heap[q]? = W.heap[q]? := fun q hq W => by
    rw [add_at]
    exact Below.heap_setCell W _ _ q hq
  exact ⟨(far gW (Ne.symm hLW) _).trans h.bW, (far gI (Ne.symm hLI) _).trans h.bI, ⟨v', (far gP (Ne.symm hLP) _).trans bP, Kd.R_far hR (fun q hq => by rw [add_at]; exact hq.1) _, hv⟩, h.left.set k v hk, by have := h.size; simpa [World.setCell] using this, h.low.setCell (Nat.zero_le _) _, fun q q1 q2 q3 q4 => (far q q3 _).trans (h.keep q q1 q2 q3 q4)⟩
end
theorem LeftAt.pre {gL o : Nat} {W : World} {cs xs : List Int} (h : LeftAt gL o W cs) (e : cs.take xs.length = xs) : LeftAt gL o W xs := by
  obtain ⟨hl, arr, hb, ha⟩ := h
  have hlen : xs.length ≤ cs.length := by have := congrArg List.length e; rw [List.length_take] at this; omega
  refine ⟨by omega, arr, hb, fun m hm => ?_⟩
  have := ha m (by omega)
  rw [this, ← e]
  congr 2
  rw [List.getD_eq_getElem?_getD, List.getD_eq_getElem?_getD, List.getElem?_take_of_lt (by omega)]
theorem del_call {gW gP gI gL o base : Nat} {wide i : Int} {part0 left : List Int} {w1 : World} {v1 : Value} (c : Nat) (h12 : gW ≠ gP) (h13 : gW ≠ gI) (h23 : gP ≠ gI) (hLW : gL ≠ gW) (hLP : gL ≠ gP) (hLI : gL ≠ gI)
    (lW : gW < w1.heap.size) (lI : gI < w1.heap.size) (lL : gL < w1.heap.size) (hb : base ≤ w1.heap.size) (hlen : part0.length < 400) (h0 : 0 ≤ i) (h1 : i < part0.length) (hw : wide ≠ 0) (hll : left.length < 400) (hlc : left.length ≤ c)
    (bW : w1.heap[gW]? = some (.cells #[.int .i64 wide] 3 (0, 0))) (bI : w1.heap[gI]? = some (.cells #[.int .i64 i] 3 (0, 0))) (bP : w1.heap[gP]? = some (.cells #[v1] 22 (0, 0)))
    (hR : Kd.R (Kd.int .i64) 3 w1 base (fun k => k ≠ gL ∧ k ≠ gW ∧ k ≠ gI) v1 part0) (hL : LeftAt gL o w1 left) :
    Calls Try.prog 45 #[.slice (some ⟨gL, o, none⟩) left.length c, .func (.func 46) #[] #[.pointer (some ⟨gW, 0, none⟩), .pointer (some ⟨gP, 0, none⟩), .pointer (some ⟨gI, 0, none⟩)]] w1 fun e W =>
      e = .returned (.slice (some ⟨gL, o, none⟩) (left.filter (fun x => !nearP wide i part0 x)).length c) ∧ LeftAt gL o W (left.filter (fun x => !nearP wide i part0 x)) ∧
      W.heap[gW]? = some (.cells #[.int .i64 wide] 3 (0, 0)) ∧ W.heap[gI]? = some (.cells #[.int .i64 i] 3 (0, 0)) ∧
      (∃ v, W.heap[gP]? = some (.cells #[v] 22 (0, 0)) ∧ Kd.R (Kd.int .i64) 3 W base (fun k => k ≠ gL ∧ k ≠ gW ∧ k ≠ gI) v (part0 ++ left.filter (nearP wide i part0)) ∧ (v.ownBlock = v1.ownBlock ∨ ∃ b, v.ownBlock = some b ∧ w1.heap.size ≤ b)) ∧
      w1.heap.size ≤ W.heap.size ∧ Below 0 w1 W ∧ (∀ k, k < w1.heap.size → k ≠ gP → k ≠ gL → some k ≠ v1.ownBlock → W.heap[k]? = w1.heap[k]?) := by
  have S := jr_ok (o := o) (v1 := v1) (base := base) h12 h13 h23 hLW hLP hLI lW lI lL hb hlen h0 h1 hw
  have SW := jr_w (o := o) (v1 := v1) (base := base) (wide := wide) (i := i) (part0 := part0) (w1 := w1) hLW hLP hLI
  refine (deleteFunc_st 46 _ (nearP wide i part0) (JR gW gP gI gL o wide i part0 base w1 v1) (fun args_ w_ => enters_ Try.func46 (by kernel_rfl) rfl args_ w_) ⟨gL, o, none⟩ c left [] w1 500 S (by simp only [List.length_nil]; omega) SW hlc
    ⟨bW, bI, ⟨v1, bP, by rw [List.append_nil]; exact hR, .inl rfl⟩, hL, Nat.le_refl _, Below.refl _ _, fun _ _ _ _ _ => rfl⟩).mono ?_
  rintro e W ⟨cs, rfl, h2, h3⟩
  rw [List.nil_append] at h3
  exact ⟨rfl, h3.left.pre h2, h3.bW, h3.bI, h3.part, h3.size, h3.low, h3.keep⟩
theorem LeftAt.lt {gL o : Nat} {W : World} {cs : List Int} (h : LeftAt gL o W cs) : gL < W.heap.size := by
  obtain ⟨_, arr, hb, _⟩ := h
  exact blk_lt hb
theorem LeftAt.tail {gL o : Nat} {W : World} {s : Int} {cs : List Int} (h : LeftAt gL o W (s :: cs)) : LeftAt gL (o + 1) W cs := by
  obtain ⟨hl, arr, hb, ha⟩ := h
  refine ⟨by simp only [List.length_cons] at hl; omega, arr, hb, fun m hm => ?_⟩
  have := ha (m + 1) (by simp only [List.length_cons]; omega)
  rw [show o + 1 + m = o + (m + 1) by omega, this]
  rfl
theorem LeftAt.none_ {gL o : Nat} {W : World} {cs : List Int} (h : LeftAt gL o W cs) (o2 : Nat) : LeftAt gL o2 W [] := by
  obtain ⟨hl, arr, hb, ha⟩ := h
  exact ⟨by simp, arr, hb, fun m hm => absurd hm (by simp)⟩
theorem rd_nat' (xs : List Int) (i : Nat) : rd xs (i : Int) = xs.getD i 0 := by simp [rd]
def nrP (wide a b : Int) : Bool := (impl_areConnected.f wide a b).getD false
theorem nearP_is (wide : Int) (i : Nat) (part : List Int) : nearP wide (i : Int) part = nrP wide (part.getD i 0) := by
  funext x
  unfold nearP nrP
  rw [rd_nat']
theorem filt_len (p : Int → Bool) : ∀ l : List Int, (l.filter p).length + (l.filter (fun x => !p x)).length = l.length
  | [] => rfl
  | x :: l => by
    have := filt_len p l
    rw [List.filter_cons, List.filter_cons]
    cases h : p x <;> simp [h] <;> omega
structure InR (gb gL gP : Nat) (wide : Int) (wr W : World) (i : Nat) (part lf : List Int) (o2 gI : Nat) (v : Value) : Prop where
  gbL : gL ≠ gb
  gbr : gb < wr.heap.size
  gLr : gL < wr.heap.size
  gPr : wr.heap.size ≤ gP
  gIr : wr.heap.size ≤ gI
  gIP : gI ≠ gP
  bW : W.heap[gb]? = some (.cells #[.int .i64 wide] 3 (0, 0))
  bI : W.heap[gI]? = some (.cells #[.int .i64 (i : Int)] 3 (0, 0))
  bP : W.heap[gP]? = some (.cells #[v] 22 (0, 0))
  row : Kd.R (Kd.int .i64) 3 W wr.heap.size (fun k => k ≠ gL ∧ k ≠ gb ∧ k ≠ gI) v part
  left : LeftAt gL o2 W lf
  low : Below 0 wr W
  keep : ∀ k, k < wr.heap.size → k ≠ gL → W.heap[k]? = wr.heap[k]?
section
variable {gb gL gP o2 gI i : Nat} {wide : Int} {w wr W : World} {part lf : List Int} {v : Value}
theorem InR.call (h : InR gb gL gP wide wr W i part lf o2 gI v) (c : Nat) (hc : lf.length ≤ c) (hi : i < part.length) (hp : part.length < 400) (hl : lf.length < 400) (hw : wide ≠ 0) :
    Calls Try.prog 45 #[.slice (some ⟨gL, o2, none⟩) lf.length c, .func (.func 46) #[] #[.pointer (some ⟨gb, 0, none⟩), .pointer (some ⟨gP, 0, none⟩), .pointer (some ⟨gI, 0, none⟩)]] W fun e W' =>
      ∃ v', e = .returned (.slice (some ⟨gL, o2, none⟩) (lf.filter (fun x => !nrP wide (part.getD i 0) x)).length c) ∧ InR gb gL gP wide wr W' i (part ++ lf.filter (nrP wide (part.getD i 0))) (lf.filter (fun x => !nrP wide (part.getD i 0) x)) o2 gI v' := by
  have e1 := h.gbr
  have e2 := h.gLr
  have e3 := h.gPr
  have e4 := h.gIr
  have e5 := h.low.size
  refine (del_call (base := wr.heap.size) (i := (i : Int)) (part0 := part) (left := lf) (v1 := v) c (by omega) (by omega) h.gIP.symm h.gbL (by omega) (by omega) (blk_lt h.bW) (blk_lt h.bI) h.left.lt e5 hp (by omega) (by omega) hw hl hc h.bW h.bI h.bP h.row h.left).mono ?_
  rintro e W' ⟨rfl, hL, hbW, hbI, ⟨v', hbP, hR, hv⟩, hs, hlow, hk⟩
  rw [nearP_is] at hL hR
  refine ⟨v', by rw [nearP_is], h.gbL, h.gbr, h.gLr, h.gPr, h.gIr, h.gIP, hbW, hbI, hbP, hR, hL, h.low.trans hlow, fun k k1 k2 => ?_⟩
  refine (hk k (by omega) (by omega) k2 (fun e => ?_)).trans (h.keep k k1 k2)
  have := Kd.R_base h.row k e.symm
  omega
theorem InR.anew (h : InR gb gL gP wide wr W i part lf o2 gI v) (hi : i ≤ 100000) :
    InR gb gL gP wide wr (W.alloc (.cells #[.int .i64 (wrap64 ((i : Int) + 1))] 3)) (i + 1) part lf o2 W.heap.size v := by
  have e5 := h.low.size
  have s1 := blk_lt h.bW
  have s2 := blk_lt h.bP
  have s3 := h.left.lt
  have hw : wrap64 ((i : Int) + 1) = ((i + 1 : Nat) : Int) := by unfold wrap64; omega
  rw [hw]
  have far : ∀ q, q < W.heap.size → (W.alloc (.cells #[.int .i64 ((i + 1 : Nat) : Int)] 3)).heap[q]? = W.heap[q]? := fun q hq => Below.heap_alloc _ _ q hq
  refine ⟨h.gbL, h.gbr, h.gLr, h.gPr, e5, by omega, (far gb s1).trans h.bW, ?_, (far gP s2).trans h.bP, ?_, h.left.keep (far gL s3), h.low.alloc (Nat.zero_le _) _, fun k k1 k2 => (far k (by omega)).trans (h.keep k k1 k2)⟩
  · show (W.heap.push _)[W.heap.size]? = _
    rw [Array.getElem?_push, if_pos rfl]
  · exact Kd.R_mono (Kd.R_step (Kd.R_bound h.row) (fun k _ hk => far k hk)) (fun k hk => ⟨hk.1.1, hk.1.2.1, by have := hk.2.2.1; omega⟩)
theorem InR.start {w17 wgP wg : World} (hR : Kd.R (Kd.int .i64) 3 w17 wr.heap.size (fun _ => True) v part) (b1 : Below wr.heap.size wr w17) (b2 : Below w17.heap.size w17 wgP) (hgP : w17.heap.size ≤ gP)
    (bP : wgP.heap[gP]? = some (.cells #[.slice none 0 0] 22 (0, 0))) (b3 : Below (wgP.setCell ⟨gP, 0, none⟩ v).heap.size (wgP.setCell ⟨gP, 0, none⟩ v) wg) (hgI : (wgP.setCell ⟨gP, 0, none⟩ v).heap.size ≤ gI)
    (bI : wg.heap[gI]? = some (.cells #[.int .i64 0] 3 (0, 0))) (hL : LeftAt gL o2 wr lf) (hgb : wr.heap[gb]? = some (.cells #[.int .i64 wide] 3 (0, 0))) (gbL : gL ≠ gb) :
    InR gb gL gP wide wr (wg.setCell ⟨gI, 0, none⟩ (.int .i64 0)) 0 part lf o2 gI v := by
  have hone : v.oneCell' = true := (Kd.R_val hR).2
  have e1 := b1.size
  have e2 := b2.size
  have e3 := b3.size
  have es : (wgP.setCell ⟨gP, 0, none⟩ v).heap.size = wgP.heap.size := by simp [World.setCell]
  have hP2 := blk_lt bP
  have far0 : ∀ q, q < wgP.heap.size → q ≠ gP → (wg.setCell ⟨gI, 0, none⟩ (.int .i64 0)).heap[q]? = wgP.heap[q]? := fun q hq hne =>
    (Below.heap_setCell _ _ _ q (by show q ≠ gI; omega)).trans ((b3.block q (by omega)).trans (Below.heap_setCell _ _ _ q hne))
  have far : ∀ q, q < w17.heap.size → (wg.setCell ⟨gI, 0, none⟩ (.int .i64 0)).heap[q]? = w17.heap[q]? := fun q hq => (far0 q (by omega) (by omega)).trans (b2.block q hq)
  have farr : ∀ q, q < wr.heap.size → (wg.setCell ⟨gI, 0, none⟩ (.int .i64 0)).heap[q]? = wr.heap[q]? := fun q hq => (far q (by omega)).trans (b1.block q hq)
  have sb := blk_lt hgb
  have sL := hL.lt
  refine ⟨gbL, sb, sL, by omega, by omega, by omega, (farr gb sb).trans hgb, blk_put bI 0 _ rfl, ?_, ?_, hL.keep (farr gL sL), ?_, fun k k1 _ => farr k k1⟩
  · refine (Below.heap_setCell _ _ _ gP (by show gP ≠ gI; omega)).trans ((b3.block gP (by omega)).trans ?_)
    exact blk_put bP 0 _ rfl
  · exact Kd.R_mono (Kd.R_step (Kd.R_bound hR) (fun k _ hk => far k hk)) (fun k hk => ⟨by have := hk.2.1; omega, by have := hk.2.1; omega, by have := hk.2.2.1; omega⟩)
  · exact ((((b1.mono (Nat.zero_le _)).trans (b2.mono (Nat.zero_le _))).setCell (Nat.zero_le _) _).trans (b3.mono (Nat.zero_le _))).setCell (Nat.zero_le _) _
theorem InR.below (h : InR gb gL gP wide wr W i part lf o2 gI v) (HB : Below w.heap.size w wr) (g1 : w.heap.size ≤ gL) : Below w.heap.size w W := by
  have e := HB.size
  exact ⟨h.low.os.trans HB.os, h.low.tape.trans HB.tape, h.low.output.trans HB.output, Nat.le_trans e h.low.size, fun k hk => (h.keep k (by omega) (by omega)).trans (HB.block k hk)⟩
structure DoneR (gb gL gP base : Nat) (wide : Int) (W : World) (u5 : Value) (out : List (List Int)) (part lf : List Int) (o2 : Nat) (v : Value) : Prop where
  bW : W.heap[gb]? = some (.cells #[.int .i64 wide] 3 (0, 0))
  bP : W.heap[gP]? = some (.cells #[v] 22 (0, 0))
  row : Kd.R (Kd.int .i64) 3 W base (fun k => some k = v.ownBlock) v part
  out_ : Kd.S (Kd.slice 3 (Kd.int .i64)) 22 W base (fun k => (k ≠ gb ∧ k ≠ gL) ∧ ¬ some k = v.ownBlock) u5 out
  apart : ∀ k, some k = v.ownBlock → (k ≠ gb ∧ k ≠ gL) ∧ some k ≠ u5.ownBlock
  left : LeftAt gL o2 W lf
theorem InR.done {W2 : World} {u5 : Value} {out : List (List Int)} {sp : List Int} (h : InR gb gL gP wide wr W i part lf o2 gI v) (HS : Kd.S (Kd.slice 3 (Kd.int .i64)) 22 wr w.heap.size (fun k => k ≠ gb ∧ k ≠ gL) u5 out) (HB : Below w.heap.size w wr)
    (hR : Kd.R (Kd.int .i64) 3 W2 w.heap.size (fun k => some k = v.ownBlock ∨ W.heap.size ≤ k) v sp) (hK : Kept W W2 (fun k => some k = v.ownBlock)) : DoneR gb gL gP w.heap.size wide W2 u5 out sp lf o2 v := by
  have hown := Kd.R_base h.row
  have e5 := h.low.size
  have e1 := h.gbr
  have e2 := h.gLr
  refine ⟨blk_kept h.bW hK (fun e => ?_), blk_kept h.bP hK (fun e => ?_), Kd.R_tight rfl hR, ?_, fun k hk => ?_, h.left.keep (hK.2 gL h.left.lt (fun e => ?_))⟩
  · have := hown _ e.symm; omega
  · exact Kd.R_ne h.row h.bP (by decide) e
  · refine Kd.S_mono (Kd.S_step (Kd.S_bound HS) (fun k hk hlt => ?_)) (fun k hk => ⟨hk.1, fun e => by have := hown _ e.symm; have := hk.2.2.1; omega⟩)
    exact (hK.2 k (by omega) (fun e => by have := hown _ e.symm; omega)).trans (h.keep k hlt hk.1.2)
  · have := hown _ hk.symm
    exact ⟨⟨by omega, by omega⟩, fun e => by have := Kd.S_lt HS k e.symm; omega⟩
  · have := hown _ e.symm; omega
theorem DoneR.after {base : Nat} {W W2 : World} {u5 : Value} {out : List (List Int)} (h : DoneR gb gL gP base wide W u5 out part lf o2 v) (hg : W.grownBy W2 u5.ownBlock) : W2.heap[gb]? = some (.cells #[.int .i64 wide] 3 (0, 0)) ∧ LeftAt gL o2 W2 lf := by
  have a1 : some gb ≠ u5.ownBlock := Kd.S_away h.out_ (fun k hk => hk.1.1)
  have a2 : some gL ≠ u5.ownBlock := Kd.S_away h.out_ (fun k hk => hk.1.2)
  exact ⟨(hg.block gb (blk_lt h.bW) a1).trans h.bW, h.left.keep (hg.block gL h.left.lt a2)⟩
end
end Go.Proofs.Ytnpclamoabcbgaa.P
namespace Go.Proofs
open Go.Shelf
def Try.lays189_ren : Go.Shelf.Ren := ⟨fun | 189 => 35 | 125 => 57 | 257 => 56 | 128 => 70 | 129 => 71 | 294 => 61 | 295 => 62 | 296 => 63 | 297 => 64 | 298 => 65 | 299 => 66 | 216 => 67 | 300 => 68 | 301 => 69 | 328 => 74 | 329 => 75 | 330 => 76 | 331 => 77 | 332 => 78 | 215 => 79 | 343 => 80 | n => n, fun | 28 => 22 | 3 => 3 | 46 => 67 | 0 => 0 | 51 => 79 | 53 => 46 | 4 => 4 | 183 => 73 | 182 => 72 | 131 => 76 | 5 => 5 | 9 => 9 | 218 => 85 | 222 => 89 | 228 => 91 | 229 => 92 | n => n, fun | n => n⟩
theorem Try.lays189 : Go.Proofs.Lays.n189 Try.prog Try.lays189_ren := {
  mixed := by kernel_rfl
  f125 := Try.func57.trans (congrArg some (by kernel_rfl))
  f128 := Try.func70.trans (congrArg some (by kernel_rfl))
  f129 := Try.func71.trans (congrArg some (by kernel_rfl))
  f189 := Try.func35.trans (congrArg some (by kernel_rfl))
  f215 := Try.func79.trans (congrArg some (by kernel_rfl))
  f216 := Try.func67.trans (congrArg some (by kernel_rfl))
  f257 := Try.func56.trans (congrArg some (by kernel_rfl))
  f294 := Try.func61.trans (congrArg some (by kernel_rfl))
  f295 := Try.func62.trans (congrArg some (by kernel_rfl))
  f296 := Try.func63.trans (congrArg some (by kernel_rfl))
  f297 := Try.func64.trans (congrArg some (by kernel_rfl))
  f298 := Try.func65.trans (congrArg some (by kernel_rfl))
  f299 := Try.func66.trans (congrArg some (by kernel_rfl))
  f300 := Try.func68.trans (congrArg some (by kernel_rfl))
  f301 := Try.func69.trans (congrArg some (by kernel_rfl))
  f328 := Try.func74.trans (congrArg some (by kernel_rfl))
  f329 := Try.func75.trans (congrArg some (by kernel_rfl))
  f330 := Try.func76.trans (congrArg some (by kernel_rfl))
  f331 := Try.func77.trans (congrArg some (by kernel_rfl))
  f332 := Try.func78.trans (congrArg some (by kernel_rfl))
  f343 := Try.func80.trans (congrArg some (by kernel_rfl))
  t0 := Try.underlying0
  a0 := Try.isAgg0
  z0 := Try.sizeOf0
  v0 := Try.zeroValue0
  t3 := Try.underlying3
  a3 := Try.isAgg3
  z3 := Try.sizeOf3
  v3 := Try.zeroValue3
  t4 := Try.underlying4
  a4 := Try.isAgg4
  z4 := Try.sizeOf4
  v4 := Try.zeroValue4
  t5 := Try.underlying5
  a5 := Try.isAgg5
  z5 := Try.sizeOf5
  v5 := Try.zeroValue5
  t9 := Try.underlying9
  a9 := Try.isAgg9
  z9 := Try.sizeOf9
  v9 := Try.zeroValue9
  t28 := Try.underlying22
  a28 := Try.isAgg22
  z28 := Try.sizeOf22
  v28 := Try.zeroValue22
  t46 := Try.underlying67
  a46 := Try.isAgg67
  z46 := Try.sizeOf67
  v46 := Try.zeroValue67
  t51 := Try.underlying79
  a51 := Try.isAgg79
  z51 := Try.sizeOf79
  v51 := Try.zeroValue79
  t53 := Try.underlying46
  a53 := Try.isAgg46
  z53 := Try.sizeOf46
  v53 := Try.zeroValue46
  t131 := Try.underlying76
  a131 := Try.isAgg76
  z131 := Try.sizeOf76
  v131 := Try.zeroValue76
  t182 := Try.underlying72
  a182 := Try.isAgg72
  z182 := Try.sizeOf72
  v182 := Try.zeroValue72
  t183 := Try.underlying73
  a183 := Try.isAgg73
  z183 := Try.sizeOf73
  v183 := Try.zeroValue73
  t218 := Try.underlying85
  a218 := Try.isAgg85
  z218 := Try.sizeOf85
  v218 := Try.zeroValue85
  t222 := Try.underlying89
  a222 := Try.isAgg89
  z222 := Try.sizeOf89
  v222 := Try.zeroValue89
  t228 := Try.underlying91
  a228 := Try.isAgg91
  z228 := Try.sizeOf91
  v228 := Try.zeroValue91
  t229 := Try.underlying92
  a229 := Try.isAgg92
  z229 := Try.sizeOf92
  v229 := Try.zeroValue92 }
open Go.Sort Go.RowKit in
theorem Try.slices_Sort_int (blk off cap : Nat) (zs : List Int) (w : World) (hH : Holds (Value.int .i64) w blk off zs.toArray) (hblk : blk < w.heap.size) (hsz : zs.length < 4611686018427387904) :
    Calls Try.prog 35 #[.slice (some ⟨blk, off, none⟩) zs.length cap] w fun e w' =>
      e = .returned (.tuple #[]) ∧ ∃ n os, w' = grow (putRow (Value.int .i64) (Sort.ahead w n) blk off (zs.mergeSort fun x y => decide (x ≤ y)).toArray) os := Any.slices_Sort_int Try.lays189 blk off cap zs w hH hblk hsz
open Go.Sort Go.RowKit in
theorem Try.slices_Sort_int_none (p : Option Addr) (cap : Nat) (w : World) :
    Calls Try.prog 35 #[.slice p 0 cap] w fun e w' => e = .returned (.tuple #[]) ∧ w' = w := Any.slices_Sort_int_none Try.lays189 p cap w
end Go.Proofs
namespace Go.Proofs.Ytnpclamoabcbgaa.P
open Go.RowKit Go.Sort Go.Proofs.YtnpclamoabcbgaaW.PrintWords Go.Proofs.YtnpclamoabcbgaaW.PrintLast Go.Proofs.YtnpclamoabcbgaaW.PrintMore
def srt (l : List Int) : List Int := l.mergeSort fun x y => decide (x ≤ y)
theorem srt_len (l : List Int) : (srt l).length = l.length := List.length_mergeSort _
theorem encs_map : ∀ l : List Int, encs (Value.int .i64) l = l.map (Value.int .i64) := fun _ => rfl
theorem sort_own {W : World} {base g cap : Nat} {ok : Nat → Prop} {l : List Int} (h : Kd.R (Kd.int .i64) 3 W base ok (.slice (some ⟨g, 0, none⟩) l.length cap) l) (hsmall : l.length < 4611686018427387904) :
    Calls Try.prog 35 #[.slice (some ⟨g, 0, none⟩) l.length cap] W fun e W' =>
      e = .returned (.tuple #[]) ∧ Kd.R (Kd.int .i64) 3 W' base ok (.slice (some ⟨g, 0, none⟩) l.length cap) (srt l) ∧ W.grownBy W' (some g) := by
  have hown := Kd.own_of_R h
  rcases hown.2 with ⟨hn, _⟩ | ⟨g', cap', cur, hv, hg, hb, hn, hcap, hsz, htk⟩
  · cases hn
  cases hv
  have hgs : g < W.heap.size := (Array.getElem?_eq_some_iff.1 hb).1
  have hH : Holds (Value.int .i64) W g 0 l.toArray := holds_of_blockI hb (by rw [Nat.mul_one] at htk; exact htk.trans (encs_map l))
  refine (Go.Proofs.Try.slices_Sort_int g 0 cap l W hH hgs hsmall).mono ?_
  rintro e W' ⟨rfl, n, os, rfl⟩
  refine ⟨rfl, Kd.R_of_own ?_ h.1, grownBy_sortedI _⟩
  have := ownsRow_sortedI (w := W) (base := base) (g := g) (cap := cap) (n := n) (e := 3) (os := os) (cur := cur) (ss := l) (ts := srt l) (srt_len l) hg hb hn hcap hsz
  rw [srt_len]
  exact this
end Go.Proofs.Ytnpclamoabcbgaa.P
namespace Go.Proofs.Ytnpclamoabcbgaa.P
open Go.RowKit Go.Proofs.YtnpclamoabcbgaaW.PrintWords Go.Proofs.YtnpclamoabcbgaaW.PrintLast Go.Proofs.YtnpclamoabcbgaaW.PrintMore
attribute [local go_sem] max2_int min2_int max_two min_two max_three min_three max_four min_four
set_option linter.unusedVariables false
set_option linter.unusedSimpArgs false
def slices_Sort_int_int.f (l0 : List Int) : Option (List Int) := if l0.length < 4611686018427387904 then some (srt l0) else none
theorem slices_Sort_int_int.calls (P0_ : Nat → Prop) (u9000_ : Value) (l0 : List Int) (r1 : List Int) (w0 w : World) (hB : Below w0.heap.size w0 w) (ho0 : Kd.R (Kd.int .i64) 3 w w0.heap.size P0_ u9000_ l0) (h : slices_Sort_int_int.f l0 = some r1) :
    Calls Try.prog 35 #[u9000_] w fun e w' => e = .returned (.tuple #[]) ∧ Kd.R (Kd.int .i64) 3 w' w0.heap.size (fun k_ => (P0_ k_ ∨ w.heap.size ≤ k_)) u9000_ r1 ∧ Below w0.heap.size w0 w' ∧ Kept w w' (fun k_ => P0_ k_) := by
 unfold slices_Sort_int_int.f at h
 by_cases hg : l0.length < 4611686018427387904
 case neg => rw [if_neg hg] at h; exact absurd h (by simp)
 rw [if_pos hg] at h
 obtain rfl := Option.some.inj h
 by_cases h0 : 0 < l0.length
 ·
  obtain ⟨g, cap, rfl, hgb, hgs, _⟩ := Kd.R_form ho0 h0
  have hP : P0_ g := ho0.1 g rfl
  refine (sort_own ho0 (by omega)).mono ?_
  rintro e w1 ⟨rfl, hR, hg1⟩
  exact ⟨rfl, Kd.R_mono hR (fun k hk => .inl hk), pw_below_grown hB (some g) hB.size hg1 (fun k hk => by cases hk; exact hgb), Kept.of_grown hg1 (Kept.refl w _) (fun k hk => by cases hk; exact .inl hP)⟩
 obtain rfl := List.length_eq_zero_iff.1 (show l0.length = 0 by omega)
 obtain ⟨A, c, rfl⟩ := Kd.R_slice ho0
 refine (Go.Proofs.Try.slices_Sort_int_none A c w).mono ?_
 rintro e w1 ⟨rfl, rfl⟩
 have e0 : srt [] = [] := List.length_eq_zero_iff.1 (srt_len [])
 rw [e0]
 exact ⟨rfl, Kd.R_mono ho0 (fun k hk => .inl hk), hB, Kept.refl _ _⟩
def slices_Clone_int_int.f (l0 : List Int) : Option (List Int) := if l0.length < 17592186044416 then some l0 else none
set_option maxHeartbeats 2000000 in
set_option maxRecDepth 100000 in
theorem slices_Clone_int_int.calls (A0 : Option Addr) (c0 : Nat) (l0 : List Int) (r : List Int) (w : World) (hr0 : Kd.C (Kd.int .i64) w A0 l0.length l0) (hc0 : l0.length ≤ c0) (h : slices_Clone_int_int.f l0 = some r) :
    Calls Try.prog 31 #[.slice A0 l0.length c0] w fun e w' => ∃ v0_ : Value, e = .returned (v0_) ∧ Kd.R (Kd.int .i64) 3 w' w.heap.size (fun _ => True) v0_ r ∧ Below w.heap.size w w' := by
 unfold slices_Clone_int_int.f at h
 by_cases c2 : l0.length < 17592186044416
 case neg => rw [if_neg c2] at h; exact absurd h (by simp)
 rw [if_pos c2] at h
 obtain rfl := Option.some.inj h
 have HR0 := Aside0.mk hr0
 have HC0 := Aside0.mk hc0
 have LMc2 := Aside0.mk c2
 clear hr0 hc0 c2 h
 have HB := Aside0.mk (Below.refl w.heap.size w)
 have q22 : ∀ (w : World) (a : Option Addr) (n c n' c' : Nat), (binOp .eql 22 (.slice a n c) (.slice none n' c')).run Try.prog w = .ok (.bool a.isNone) w := fun w a n c n' c' => Lib.run_eql_slice_nil w _ _ a n c n' c' Try.underlying22
 cases A0 with
 | none =>
  have hl0 : l0 = [] := by
   cases l0 with
   | nil => rfl
   | cons a t => obtain ⟨ad, e, _⟩ := Kd.at_int HR0.out 0 (by omega) (by simp <;> omega); cases e
  subst hl0
  go_enter Try.func31, Try.ntmps31
  go_wp2_with fail
  go_ret
  exact ⟨_, rfl, Kd.R_nil _ _ _ _ _, Below.refl _ _⟩
 | some ad =>
  obtain ⟨y101, hy101⟩ : ∃ y_ : List Int, y_ = (([] : List Int)) := ⟨_, rfl⟩
  obtain ⟨y104, hy104⟩ : ∃ y_ : List Int, y_ = (y101 ++ l0) := ⟨_, rfl⟩
  have HL := Aside0.mk (show y104 = l0 by rw [hy104, hy101, List.nil_append])
  replace LMc2 := Aside0.mk (show y101.length + l0.length < 17592186044416 by rw [hy101]; simpa using LMc2.out)
  have Ny101 := Aside0.mk hy101
  have Ny104 := Aside0.mk hy104
  clear hy101 hy104
  go_enter Try.func31, Try.ntmps31
  go_wp2_with (first | ((with_reducible refine gate_dst (N := 5) rfl ?_); refine Kd.R_lit (Kd.int .i64) _ 3 ?hg (N := 5) ?hd (xs := ([] : List Int)) (inner := []) (ok := fun _ => True) (okp := fun _ => True) ?hr ?hp (fun _ hk => hk) trivial (Below.refl _ _) (Nat.le_refl _) (by simp) ?_; (case hd => rfl); (case hg => rfl); (case hr => first | (go_simp; done) | (go_simp; rfl)); (case hp => exact (Reps.none _ _)); intro v102 w3 ho4 hb hg_ hnew_; clear hg_ hnew_; (first | rw [← Ny101.out] at ho4 | (simp only [Int.reduceToNat] at ho4; rw [← Ny101.out] at ho4)); have n0_ := Aside0.mk (Kd.R_lower ho4 (below_size (pT HB.out))); have n1_ := Aside0.mk (below_step (pT HB.out) hb); clear HB; have HO103 := n0_; have HB := n1_; clear n0_ n1_; clear hb ho4) | ((with_reducible refine gate_builtin (b := .append) (xs := #[.tmp 5, .tmp 6]) rfl ?_); at_builtin; refine Kd.R_append_rows (Kd.int .i64) (w0 := w) w.heap.size rfl (.tmp 5) (.tmp 6) 22 3 (.int .i64 0) 8 rfl Try.underlying22 info3 rfl (by decide) (by omega) v102 y101 l0 _ _ _ (fun _ => True) (fun _ => False) rfl rfl ?aO ?aR (fun _ _ h => h) (fun _ h => h.elim) ?aF ?aB ?aS ?aL ?_; (case aR => exact pC (Kd.C_below HR0.out HB.out)); (case aB => exact (pT HB.out)); (case aF => exact (fun _ _ => trivial)); (case aO => exact (pR HO103.out)); (case aS => exact (below_size (pT HB.out))); (case aL => have := LMc2.out; omega); intro v105 w5 ho hb hg hat; rw [← Ny104.out] at ho; have n0_ := Aside0.mk (hb); have n1_ := Aside0.mk (ho); clear HB; clear HO103; have HB := n0_; have HO106 := n1_; clear n0_ n1_; clear ho hb hg hat))
  go_ret
  exact ⟨_, rfl, by rw [← HL.out]; exact HO106.out, HB.out⟩
end Go.Proofs.Ytnpclamoabcbgaa.P
namespace Go.Proofs.Ytnpclamoabcbgaa.P
open Go.RowKit Go.Proofs.YtnpclamoabcbgaaW.PrintWords Go.Proofs.YtnpclamoabcbgaaW.PrintLast Go.Proofs.YtnpclamoabcbgaaW.PrintMore
set_option linter.unusedVariables false
set_option linter.unusedSimpArgs false
def grP (wide : Int) : Nat → Nat → List Int → List Int → List Int × List Int
  | 0, _, p, r => (p, r)
  | k + 1, j, p, r => if j < p.length then grP wide k (j + 1) (p ++ r.filter (nrP wide (p.getD j 0))) (r.filter (fun c => !nrP wide (p.getD j 0) c)) else (p, r)
def ptP (wide : Int) (n : Nat) : Nat → List Int → List (List Int) → List (List Int)
  | 0, _, out => out
  | k + 1, r, out => match r with
    | [] => out
    | s :: r => ptP wide n k (grP wide n 0 [s] r).2 (out ++ [(grP wide n 0 [s] r).1.mergeSort fun x y => decide (x ≤ y)])
def partsP (wide : Int) (l : List Int) : List (List Int) := ptP wide (l.length + 1) (l.length + 1) l []
set_option maxHeartbeats 4000000 in
set_option maxRecDepth 100000 in
theorem regionParts_calls (wide : Int) (A1 : Option Addr) (c1 : Nat) (l : List Int) (w : World) (hr1 : Kd.C (Kd.int .i64) w A1 l.length l) (hc1 : l.length ≤ c1) (hw : wide ≠ 0) (hl : l.length ≤ 64) :
    Calls Try.prog 25 #[.int .i64 wide, .slice A1 l.length c1] w fun e w' => ∃ v0_ : Value, e = .returned (v0_) ∧ Kd.S (Kd.slice 3 (Kd.int .i64)) 22 w' w.heap.size (fun _ => True) v0_ (partsP wide l) ∧ Below w.heap.size w w' := by
  have HR2 := aK hr1
  have HC2 := aK hc1
  clear hr1 hc1
  have HB := aK (Below.refl w.heap.size w)
  have hcl : slices_Clone_int_int.f l = some l := by
    unfold slices_Clone_int_int.f
    rw [if_pos (by omega)]
  have A6 := aK hcl
  clear hcl
  go_enter Try.func25, Try.ntmps25
  go_wp2_with (first | ((with_reducible refine gate_dst (N := 2) rfl ?_); refine box_event ?hg (N := 2) ?hd (cs := #[.int .i64 wide]) (t := 3) ?hr ?_; (case hd => rfl); (case hg => rfl); (case hr => first | (go_simp; done) | (go_simp; rfl)); intro gb101 hg w7 hbox hb; have BK101 := aK (hbox); have GW101 := aK (gE hg (pS HB.out)); have GE101 := aK (gE hg (pS HB.out)); replace HB := bS HB hb; clear hb hbox hg) | ((with_reducible refine gate_callee (f := 31) rfl ?_); refine goesL_ (some 10) rfl rfl Try.func31 (by kernel_rfl) rfl #[.slice A1 l.length c1] rfl (by (try simp only [List.map_toArray, List.map_cons, List.map_nil]); first | done | rfl | (simp only [List.length_drop, List.length_take]; rfl)) ?_; (with_reducible refine (slices_Clone_int_int.calls _ _ l l _ ?side1 ?side2 A6.out).mono ?_); (case side1 => repeat (first | exact (Kd.C_below HR2.out (pS HB.out)) | (with_reducible refine Kd.C_alloc ?_ _) | (with_reducible refine Kd.C_drewN ?_ _) | (with_reducible refine Kd.C_drew ?_))); (case side2 => exact HC2.out); rintro e w9 ⟨v104, rfl, ho0, hb⟩; refine ⟨_, rfl, ?_⟩; have HO105 := aK (Kd.R_lower (Kd.R_newB ho0 (g := gb101) (o := .cells #[.int .i64 wide] 3 (0, 0)) (pB BK101.out)) (below_size (pS HB.out))); replace BK101 := bB BK101 hb; replace HB := bS HB hb; (try clear hb); (try clear ho0)))
  go_loopg [5, 6, 7, 8] (l.length + 1) (fun gg s5 s6 _ _ wr => ∃ (out : List (List Int)) (left : List Int) (A6 : Option Addr) (c6 : Nat), s6 = .slice A6 left.length c6 ∧
    Aside0 (left.length < gg ∧ left.length ≤ c6 ∧ left.length + out.length ≤ l.length ∧ ptP wide (l.length + 1) gg left out = partsP wide l) ∧
    Aside0 (left = [] ∨ ∃ gL o, A6 = some ⟨gL, o, none⟩ ∧ w.heap.size ≤ gL ∧ gL ≠ gb101 ∧ LeftAt gL o wr left ∧ Kd.S (Kd.slice 3 (Kd.int .i64)) 22 wr w.heap.size (fun k => k ≠ gb101 ∧ k ≠ gL) s5 out) ∧
    Aside0 (left = [] → Kd.S (Kd.slice 3 (Kd.int .i64)) 22 wr w.heap.size (fun k => k ≠ gb101) s5 out) ∧
    Aside0 (wr.heap[gb101]? = some (.cells #[.int .i64 wide] 3 (0, 0))) ∧ Aside0 (Below w.heap.size w wr))
  case atStart =>
    obtain ⟨A6, c6, e6⟩ := Kd.R_slice HO105.out
    subst e6
    have hR := HO105.out
    have hcap := (Kd.R_reads' hR).2.1
    refine ⟨[], l, A6, c6, rfl, ⟨by omega, hcap, by simp, rfl⟩, ⟨?_⟩, ⟨fun _ => Kd.S_nil _ _ _ _ _⟩, BK101, HB⟩
    by_cases h0 : 0 < l.length
    · obtain ⟨g, cap, eg, hgb, hgs, arr, hc⟩ := Kd.R_form hR h0
      injection eg with e1 _ e3
      subst e1
      refine .inr ⟨g, 0, rfl, hgb, Kd.R_away (g := gb101) hR (fun _ hk => hk.2) |> fun h e => h (by rw [e]; rfl), ⟨by omega, arr, hc, fun m hm => ?_⟩, Kd.S_nil _ _ _ _ _⟩
      obtain ⟨ad, e4, hx⟩ := Kd.at_int (Kd.R_reads' hR).2.2 (m : Int) (by omega) (by omega)
      cases e4
      rw [Int.toNat_natCast, add_at, blk_cell hc, rd_nat'] at hx
      exact hx
    · exact .inl (List.length_eq_zero_iff.1 (by omega))
  case round =>
    obtain ⟨out, left, A6, c6, rfl, AA, LL, EE, BK, HB⟩ := hrel
    cases left with
    | nil =>
      have c4b0 : decide ((0 : Int) < (([] : List Int).length : Int)) = false := rfl
      go_wp2
      go_ret
      have e := AA.out.2.2.2
      have e2 : ptP wide (l.length + 1) gk [] out = out := by cases gk <;> rfl
      rw [e2] at e
      rw [← e]
      exact ⟨_, rfl, Kd.S_mono (EE.out trivial) (fun _ _ => trivial), HB.out⟩
    | cons s left =>
      obtain ⟨wo, rfl⟩ : ∃ x, x = wr := ⟨_, rfl⟩
      cases gk with
      | zero => exact absurd AA.out.1 (by simp)
      | succ k1 =>
        obtain ⟨gL, o, rfl, g1, g2, hL, hS⟩ := LL.out.resolve_left (by simp)
        have c4b0 : decide ((0 : Int) < ((s :: left).length : Int)) = true := decide_eq_true (by simp)
        obtain ⟨ad, e0, hcell⟩ := Kd.at_int hL.row 0 (by omega) (by simp)
        cases e0
        rw [show ((0 : Int)).toNat = 0 from rfl, add_at, Nat.add_zero] at hcell
        have SL := aK hL
        have SS := aK hS
        have BK0 := BK
        have HB0 := HB
        have HL := aK hL
        have HS := aK hS
        have hcc := AA.out.2.1
        clear hL hS LL EE
        go_wp2_with (first | ((with_reducible refine gate_dst (N := 17) rfl ?_); refine Kd.R_lit (Kd.int .i64) _ 3 ?hg (N := 17) ?hd (xs := ([s] : List Int)) (inner := [.int .i64 s]) (ok := fun _ => True) (okp := fun _ => True) ?hr ?hp (fun _ hk => hk) trivial (Below.refl _ _) (Nat.le_refl _) (by simp) ?_; (case hd => rfl); (case hg => rfl); (case hr => first | (go_simp; done) | (go_simp; rfl)); (case hp => exact (Reps.one (show Kd.M (Kd.int .i64) _ _ _ s [.int .i64 s] from rfl) (Reps.none _ _))); intro v17 w17 hp17 hb hg_ hnew_; clear hg_ hnew_; obtain ⟨Ap, cp, ep⟩ := Kd.R_slice hp17; subst ep; have HP := aK hp17; have B1 := aK hb; have HL2 := aK (HL.out.keep (hb.block gL (LeftAt.lt HL.out))); have HS2 := aK (Kd.S_below HS.out hb); replace BK := bB BK hb; replace HB := bS HB hb; clear HL HS hp17 hb) | ((with_reducible refine gate_dst (N := 7) rfl ?_); refine box_event ?hg (N := 7) ?hd (cs := #[.slice none 0 0]) (t := 22) ?hr ?_; (case hd => rfl); (case hg => rfl); (case hr => first | (go_simp; done) | (go_simp; rfl)); intro gP hggP wgP hbox hb; have BgP := aK hbox; have GP1 : Aside0 (w17.heap.size ≤ gP) := ⟨Nat.le_of_eq hggP.symm⟩; have GP2 : Aside0 (gP < wgP.heap.size) := ⟨blk_lt hbox⟩; have B2 := aK hb; clear hggP; have HL3 := aK (HL2.out.keep (hb.block gL (LeftAt.lt HL2.out))); have HS3 := aK (Kd.S_below HS2.out hb); replace BK := bB BK hb; have cgP := (blk_cell BgP.out 0).trans rfl; have fgP := blk_frozen BgP.out 0; replace HB := bS HB hb; clear hb hbox) | ((with_reducible refine gate_dst (N := 8) rfl ?_); refine box_event ?hg (N := 8) ?hd (cs := #[.int .i64 0]) (t := 3) ?hr ?_; (case hd => rfl); (case hg => rfl); (case hr => first | (go_simp; done) | (go_simp; rfl)); intro gI hggI wgI hbox hb; have BgI := aK hbox; have GI1 := aK (Nat.le_of_eq hggI.symm); have B3 := aK hb; have cgI := (blk_cell BgI.out 0).trans rfl; have fgI := blk_frozen BgI.out 0; clear hggI hb hbox))
        all_goals
          go_loopg [6, 8] (l.length + 1) (fun gg s6 s8 wi => ∃ (i : Nat) (part lf : List Int) (o2 c7 gI : Nat) (v : Value), s6 = .slice (some ⟨gL, o2, none⟩) lf.length c7 ∧ s8 = .pointer (some ⟨gI, 0, none⟩) ∧
            Aside0 (part.length + lf.length = left.length + 1 ∧ part.length + lf.length < i + gg ∧ 0 < part.length ∧ lf.length ≤ c7 ∧ grP wide gg i part lf = grP wide (l.length + 1) 0 [s] left) ∧ Aside0 (InR gb101 gL gP wide wo wi i part lf o2 gI v))
          case atStart =>
            have hA := AA.out
            simp only [List.length_cons] at hA hcc
            refine ⟨0, [s], left, _, _, gI, _, rfl, rfl, ⟨by simp; omega, by simp; omega, by simp, by omega, rfl⟩, ⟨InR.start HP.out B1.out B2.out GP1.out BgP.out B3.out GI1.out BgI.out ?_ BK0.out g2⟩⟩
            first
            | exact SL.out.tail
            | (have hz : left = [] := List.length_eq_zero_iff.1 (by omega)
               rw [hz]
               exact SL.out.none_ _)
          case round =>
            clear HP B1 HL2 HS2 BgP GP1 GP2 B2 HL3 HS3 BK cgP fgP HB BgI GI1 B3 cgI fgI
            obtain ⟨i, part, lf, o2, c7, gI2, v, rfl, rfl, AI, HI⟩ := hrel
            obtain ⟨Av, cv, ev⟩ := Kd.R_slice HI.out.row
            subst ev
            have cP := (blk_cell HI.out.bP 0).trans rfl
            have cI := (blk_cell HI.out.bI 0).trans rfl
            have fI := blk_frozen HI.out.bI 0
            have hA := AI.out
            have hAA := AA.out
            simp only [List.length_cons] at hAA
            by_cases hlt : i < part.length
            · have c4b1 : decide ((i : Int) < (part.length : Int)) = true := decide_eq_true (by omega)
              have c4b2 : decide (i < part.length) = true := decide_eq_true hlt
              cases gk with
              | zero => omega
              | succ k2 =>
                have hcall := HI.out.call c7 hA.2.2.2.1 hlt (by omega) (by omega) hw
                have HC := aK hcall
                have LT := aK hlt
                clear hcall hlt hA hAA
                go_wp2_with (first | (go_at_call 45; (with_reducible refine HC.out.mono ?_); rintro e w' ⟨v', rfl, hi'⟩; have HI2 := aK hi'; have cI2 := (blk_cell HI2.out.bI 0).trans rfl; clear hi' cP cI fI))
                go_roundg k2
                case measure => have hA := AI.out; omega
                case rel =>
                  have hA := AI.out
                  have hLT := LT.out
                  have hAA := AA.out
                  simp only [List.length_cons] at hAA
                  have hf := filt_len (nrP wide (part.getD i 0)) lf
                  refine ⟨i + 1, part ++ lf.filter (nrP wide (part.getD i 0)), lf.filter (fun x => !nrP wide (part.getD i 0) x), o2, c7, _, v', rfl, rfl, ⟨by rw [List.length_append]; omega, by rw [List.length_append]; omega, by rw [List.length_append]; omega, by omega, ?_⟩, ⟨HI2.out.anew (by omega)⟩⟩
                  have e := hA.2.2.2.2
                  rw [grP, if_pos hLT] at e
                  exact e
            · have c4b1 : decide ((i : Int) < (part.length : Int)) = false := decide_eq_false (by omega)
              have c4b2 : decide (i < part.length) = false := decide_eq_false hlt
              have LT := aK hlt
              have hsf : slices_Sort_int_int.f part = some (srt part) := by unfold slices_Sort_int_int.f; rw [if_pos (by omega)]
              have HF := aK hsf
              have HBW := aK (HI.out.below HB0.out g1)
              have HRT := aK (Kd.R_tight rfl (Kd.R_lower HI.out.row (HB0.out.size)))
              clear hlt hA hAA hsf
              go_wp2_with (first | (go_at_call 35; (with_reducible refine (slices_Sort_int_int.calls (fun k_ => some k_ = (Value.slice Av part.length cv).ownBlock) _ part (srt part) w _ HBW.out HRT.out HF.out).mono ?_); rintro e w' ⟨rfl, hR', hB', hK'⟩; have DN := aK (HI.out.done SS.out HB0.out hR' hK'); have HB3 := aK hB'; have cP2 := (blk_cell DN.out.bP 0).trans rfl; clear hR' hB' hK' cP cI fI) | ((with_reducible refine gate_builtin (b := .append) (xs := #[.tmp 32, .tmp 34]) rfl ?_); at_builtin; refine Kd.S_append (Kd.slice 3 (Kd.int .i64)) (w0 := w) w.heap.size rfl (.tmp 32) (.tmp 34) 23 22 (.slice none 0 0) 24 rfl Try.underlying23 info22 rfl (by decide) (by omega) u5 out (srt part) [.slice Av part.length cv] (fun k_ => k_ ≠ gb101 ∧ k_ ≠ gL) (fun k_ => some k_ = (Value.slice Av part.length cv).ownBlock) rfl rfl ?aP DN.out.apart ?aF ?aO ?aB ?aS ?aL ?_; (case aP => exact Kd.M_row DN.out.row); (case aB => exact HB3.out); (case aF => exact (fun k_ hk => ⟨by have := blk_lt DN.out.bW; omega, by have := DN.out.left.lt; omega⟩)); (case aO => exact DN.out.out_); (case aS => exact HB3.out.size); (case aL => have hAA := AA.out; omega); intro v133 w41 ho hb hg hat; have HO := aK ho; have HB4 := aK hb; have AF := aK (DN.out.after hg); clear ho hb hg hat cP2))
              go_roundg k1
              case measure => omega
              case rel =>
                have hA := AI.out
                have hAA := AA.out
                have hLT := LT.out
                simp only [List.length_cons] at hAA
                refine ⟨out ++ [srt part], lf, some ⟨gL, o2, none⟩, c7, rfl, ⟨by omega, hA.2.2.2.1, by rw [List.length_append, List.length_singleton]; omega, ?_⟩, ⟨.inr ⟨gL, o2, rfl, g1, g2, AF.out.2, HO.out⟩⟩, ⟨fun _ => Kd.S_mono HO.out (fun _ hk => hk.1)⟩, ⟨AF.out.1⟩, ⟨HB4.out⟩⟩
                have e := hAA.2.2.2
                have e2 := hA.2.2.2.2
                have e3 : grP wide gk i part lf = (part, lf) := by
                  cases gk with
                  | zero => rfl
                  | succ k => rw [grP, if_neg hLT]
                rw [ptP, ← e2, e3] at e
                exact e
end Go.Proofs.Ytnpclamoabcbgaa.P
namespace Go.Proofs.Ytnpclamoabcbgaa.P
open Go.RowKit Go.Proofs.YtnpclamoabcbgaaW.PrintWords Go.Proofs.YtnpclamoabcbgaaW.PrintLast Go.Proofs.YtnpclamoabcbgaaW.PrintMore
attribute [local go_sem] max2_int min2_int max_two min_two max_three min_three max_four min_four
set_option linter.unusedVariables false
set_option linter.unusedSimpArgs false
def impl_regionParts.f (a0 : Int) (l1 : List Int) : Option (List (List Int)) := if a0 ≠ 0 ∧ l1.length ≤ 64 then some (partsP a0 l1) else none
theorem impl_regionParts.calls (a0 : Int) (A1 : Option Addr) (c1 : Nat) (l1 : List Int) (r : List (List Int)) (w : World) (hr1 : Kd.C (Kd.int .i64) w A1 l1.length l1) (hc1 : l1.length ≤ c1) (h : impl_regionParts.f a0 l1 = some r) :
    Calls Try.prog 25 #[.int .i64 a0, .slice A1 l1.length c1] w fun e w' => ∃ v0_ : Value, e = .returned (v0_) ∧ Kd.S (Kd.slice 3 (Kd.int .i64)) 22 w' w.heap.size (fun _ => True) v0_ r ∧ Below w.heap.size w w' := by
 unfold impl_regionParts.f at h
 by_cases c2 : a0 ≠ 0 ∧ l1.length ≤ 64
 case neg => rw [if_neg c2] at h; exact absurd h (by simp)
 rw [if_pos c2] at h
 obtain rfl := Option.some.inj h
 exact regionParts_calls a0 A1 c1 l1 w hr1 hc1 c2.1 c2.2
end Go.Proofs.Ytnpclamoabcbgaa.P
namespace Go.Proofs.Ytnpclamoabcbgaa.P
open Go.RowKit Go.Proofs.YtnpclamoabcbgaaW.PrintWords Go.Proofs.YtnpclamoabcbgaaW.PrintLast Go.Proofs.YtnpclamoabcbgaaW.PrintMore
attribute [local go_sem] max2_int min2_int max_two min_two max_three min_three max_four min_four
set_option linter.unusedVariables false
set_option linter.unusedSimpArgs false
set_option maxHeartbeats 8000000
set_option maxRecDepth 100000
def impl_RegionParts.f (k : Nat) (a0 : Int) (a1 : Int) (l2 : List Int) : Option ((List (List Int)) × Bool) := (impl_isRegion.f k a0 a1 l2).bind fun t101 => (if t101 = true then ((impl_regionParts.f a0 l2).bind fun t102 => (some (t102, true))) else (some (([] : List (List Int)), false)))
theorem impl_RegionParts.calls (k : Nat) (a0 : Int) (a1 : Int) (A2 : Option Addr) (c2 : Nat) (l2 : List Int) (r1 : List (List Int)) (r2 : Bool) (w : World) (hr2 : Kd.C (Kd.int .i64) w A2 l2.length l2) (hc2 : l2.length ≤ c2) (h : impl_RegionParts.f k a0 a1 l2 = some (r1, r2)) :
  Calls Try.prog 7 #[.int .i64 a0, .int .i64 a1, .slice A2 l2.length c2] w fun e w' => ∃ v0_ : Value, e = .returned (.tuple #[v0_, .bool r2]) ∧ Kd.S (Kd.slice 3 (Kd.int .i64)) 22 w' w.heap.size (fun _ => True) v0_ r1 ∧ Below w.heap.size w w' := by
 have HR2 := Aside0.mk hr2
 have HC2 := Aside0.mk hc2
 clear hr2 hc2
 have HB := aK (Below.refl w.heap.size w)
 have H : ((impl_isRegion.f k a0 a1 l2).bind fun t101 => (if t101 = true then ((impl_regionParts.f a0 l2).bind fun t102 => (some (t102, true))) else (some (([] : List (List Int)), false)))) = some (r1, r2) := h
 clear h
 replace H := Option.bind_eq_some_iff.mp H
 obtain ⟨t101, A40, H⟩ := H
 replace H : (if t101 = true then ((impl_regionParts.f a0 l2).bind fun t102 => (some (t102, true))) else (some (([] : List (List Int)), false))) = some (r1, r2) := H
 have A4 := Aside0.mk A40
 clear A40
 by_cases c5 : t101 = true
 ·
  subst c5
  have H1 : ((impl_regionParts.f a0 l2).bind fun t102 => (some (t102, true))) = some (r1, r2) := by rw [if_pos rfl] at H; exact H
  clear H
  have H := H1
  clear H1
  replace H := Option.bind_eq_some_iff.mp H
  obtain ⟨t102, A60, H⟩ := H
  replace H : (some (t102, true)) = some (r1, r2) := H
  have A6 := Aside0.mk A60
  clear A60
  simp only [Option.some.injEq, Prod.mk.injEq] at H
  obtain ⟨rfl, rfl⟩ := H
  go_enter Try.func7, Try.ntmps7
  go_wp2_with (first | ((with_reducible refine gate_callee (f := 24) rfl ?_); refine gl (some 11) Try.func24 #[.int .i64 a0, .int .i64 a1, .slice A2 l2.length c2] ?_; (with_reducible refine (impl_isRegion.calls k a0 a1 _ _ l2 true _ ?side1 ?side2 A4.out).mono ?_); (case side1 => exact pC HR2.out); (case side2 => exact HC2.out); rintro e w' ⟨rfl, ⟨nd, rfl⟩⟩; refine ⟨_, rfl, ?_⟩) | ((with_reducible refine gate_callee (f := 25) rfl ?_); refine gl (some 15) Try.func25 #[.int .i64 a0, .slice A2 l2.length c2] ?_; (with_reducible refine (impl_regionParts.calls a0 _ _ l2 t102 _ ?side1 ?side2 A6.out).mono ?_); (case side1 => exact pC HR2.out); (case side2 => exact HC2.out); rintro e w7 ⟨v103, rfl, ho0, hb⟩; refine ⟨_, rfl, ?_⟩; have HO104 := aK (Kd.S_lower ho0 (below_size (pS HB.out))); replace HB := bS HB hb; (try clear hb); (try clear hb2); (try clear hk); (try clear hi); (try clear ho0)))
  go_ret2
  exact ⟨_, er, by (with_reducible repeat (first | apply Kd.S_alloc | apply Kd.S_drewN | apply Kd.S_drew)); exact HO104.out, pT HB.out⟩
 replace c5 := Bool.eq_false_iff.mpr c5
 subst c5
 have H1 : (some (([] : List (List Int)), false)) = some (r1, r2) := by rw [if_neg (show ¬ (false = true) by decide)] at H; exact H
 clear H
 have H := H1
 clear H1
 simp only [Option.some.injEq, Prod.mk.injEq] at H
 obtain ⟨rfl, rfl⟩ := H
 go_enter Try.func7, Try.ntmps7
 go_wp2_with (first | ((with_reducible refine gate_callee (f := 24) rfl ?_); refine gl (some 11) Try.func24 #[.int .i64 a0, .int .i64 a1, .slice A2 l2.length c2] ?_; (with_reducible refine (impl_isRegion.calls k a0 a1 _ _ l2 false _ ?side1 ?side2 A4.out).mono ?_); (case side1 => exact pC HR2.out); (case side2 => exact HC2.out); rintro e w' ⟨rfl, ⟨nd, rfl⟩⟩; refine ⟨_, rfl, ?_⟩))
 go_ret2
 exact ⟨_, er, by first | exact Kd.S_nil _ _ _ _ _ | exact Kd.N_nil _ _ _ _ _ | exact Kd.V_nil _ _ _ _ _ | exact Kd.Q_nil _ _ _ _ _ | exact Kd.R_nil _ _ _ _ _, pT HB.out⟩
def laws_eqIntS.l0 : Nat → List Int → List Int → Int → Option (Bool)
 | 0, _, _, _ => none
 | k + 1, x0, x1, x5 => if x5 < (x0.length : Int) then (if 0 ≤ x5 then (if x5 < (x1.length : Int) then (if (rd x0 x5) = (rd x1 x5) then (laws_eqIntS.l0 k x0 x1 (wrap64 (x5 + 1))) else (some false)) else (none)) else (none)) else (some true)
def laws_eqIntS.f (k : Nat) (l0 : List Int) (l1 : List Int) : Option (Bool) := if (l0.length : Int) = (l1.length : Int) then (laws_eqIntS.l0 k l0 l1 0) else (some false)
theorem laws_eqIntS.calls (k : Nat) (A0 : Option Addr) (c0 : Nat) (l0 : List Int) (A1 : Option Addr) (c1 : Nat) (l1 : List Int) (r : Bool) (w : World) (hr0 : Kd.C (Kd.int .i64) w A0 l0.length l0) (hc0 : l0.length ≤ c0) (hr1 : Kd.C (Kd.int .i64) w A1 l1.length l1) (hc1 : l1.length ≤ c1) (h : laws_eqIntS.f k l0 l1 = some r) :
  Calls Try.prog 9 #[.slice A0 l0.length c0, .slice A1 l1.length c1] w fun e w' => e = .returned (.bool r) ∧ Drawn0 w w' := by
 have HR0 := Aside0.mk hr0
 have HC0 := Aside0.mk hc0
 clear hr0 hc0
 have HR1 := Aside0.mk hr1
 have HC1 := Aside0.mk hc1
 clear hr1 hc1
 have H : (if (l0.length : Int) = (l1.length : Int) then (laws_eqIntS.l0 k l0 l1 0) else (some false)) = some r := h
 clear h
 by_cases c3 : (l0.length : Int) = (l1.length : Int)
 ·
  rw [if_pos c3] at H
  have c3b0 : ((l0.length : Int) == (l1.length : Int)) = true := beq_iff_eq.mpr c3
  have c3b1 : ((l0.length : Int) != (l1.length : Int)) = false := bne_eq_false_iff_eq.mpr c3
  have c3b2 : (l0.length == l1.length) = true := by first | simpa using c3 | (simp at c3 ⊢; omega)
  clear c3
  have H' := Aside0.mk H
  clear H
  go_enter Try.func9, Try.ntmps9
  go_wp2
  repeat (go_quiet (fail); try go_wp2)
  go_loopg [5] k (fun kq v5 w' => ∃ (x5_1 : Int), v5 = .int .i64 x5_1 ∧ Aside0 (laws_eqIntS.l0 kq l0 l1 x5_1 = some r) ∧ Aside0 (kq ≤ k) ∧ Drawn0 w w')
  case atStart => exact ⟨(0), (by first | rfl | (simp; done) | (simp [*]; done)), H', ⟨Nat.le_refl _⟩, by repeat (first | exact Drawn0.refl _ | apply Drawn0.step)⟩
  case round =>
   clear H'
   try clear c1
   try clear p2
   try clear c3
   try clear c3b0
   try clear c3b1
   try clear c3b2
   obtain ⟨x5_1, rfl, HA, HK1, ⟨m1, rfl⟩⟩ := hrel
   cases gk with
   | zero => exact absurd HA.out (by simp [laws_eqIntS.l0])
   | succ k1 =>
    have H := HA.out
    clear HA
    simp only [laws_eqIntS.l0] at H
    by_cases c4 : x5_1 < (l0.length : Int)
    ·
     rw [if_pos c4] at H
     have c4b0 : decide (x5_1 < (l0.length : Int)) = true := decide_eq_true c4
     clear c4
     by_cases c5 : 0 ≤ x5_1
     ·
      rw [if_pos c5] at H
      have c5b0 : decide (0 ≤ x5_1) = true := decide_eq_true c5
      clear c5
      by_cases c6 : x5_1 < (l1.length : Int)
      ·
       rw [if_pos c6] at H
       have c6b0 : decide (x5_1 < (l1.length : Int)) = true := decide_eq_true c6
       clear c6
       by_cases c7 : (rd l0 x5_1) = (rd l1 x5_1)
       ·
        rw [if_pos c7] at H
        have c7b0 : ((rd l0 x5_1) == (rd l1 x5_1)) = true := beq_iff_eq.mpr c7
        have c7b1 : ((rd l0 x5_1) != (rd l1 x5_1)) = false := bne_eq_false_iff_eq.mpr c7
        clear c7
        have H' := Aside0.mk H
        clear H
        have p101 : 0 ≤ (x5_1 : Int) := of_decide_eq_true (by first | (with_reducible assumption) | assumption)
        have q101 : x5_1 < (l0.length : Int) := of_decide_eq_true (by first | (with_reducible assumption) | assumption)
        obtain ⟨ad101, e101, hx101_0⟩ := Kd.at_int HR0.out x5_1 p101 q101
        cases e101
        replace p101 := eq_true p101
        replace q101 := eq_true q101
        have p102 : 0 ≤ (x5_1 : Int) := of_decide_eq_true (by first | (with_reducible assumption) | assumption)
        have q102 : x5_1 < (l1.length : Int) := of_decide_eq_true (by first | (with_reducible assumption) | assumption)
        obtain ⟨ad102, e102, hx102_0⟩ := Kd.at_int HR1.out x5_1 p102 q102
        cases e102
        replace p102 := eq_true p102
        replace q102 := eq_true q102
        go_wp2
        repeat (go_quiet (fail); try go_wp2)
        go_roundg k1
        case measure => have := HK1.out; omega
        case rel => exact ⟨(wrap64 (x5_1 + 1)), (by first | rfl | (simp; done) | (simp [*]; done)), H', ⟨by have := HK1.out; omega⟩, by repeat (first | exact Drawn0.refl _ | apply Drawn0.step)⟩
       rw [if_neg c7] at H
       have c7b0 : ((rd l0 x5_1) == (rd l1 x5_1)) = false := beq_eq_false_iff_ne.mpr c7
       have c7b1 : ((rd l0 x5_1) != (rd l1 x5_1)) = true := bne_iff_ne.mpr c7
       obtain rfl := Option.some.inj H
       have p101 : 0 ≤ (x5_1 : Int) := of_decide_eq_true (by first | (with_reducible assumption) | assumption)
       have q101 : x5_1 < (l0.length : Int) := of_decide_eq_true (by first | (with_reducible assumption) | assumption)
       obtain ⟨ad101, e101, hx101_0⟩ := Kd.at_int HR0.out x5_1 p101 q101
       cases e101
       replace p101 := eq_true p101
       replace q101 := eq_true q101
       have p102 : 0 ≤ (x5_1 : Int) := of_decide_eq_true (by first | (with_reducible assumption) | assumption)
       have q102 : x5_1 < (l1.length : Int) := of_decide_eq_true (by first | (with_reducible assumption) | assumption)
       obtain ⟨ad102, e102, hx102_0⟩ := Kd.at_int HR1.out x5_1 p102 q102
       cases e102
       replace p102 := eq_true p102
       replace q102 := eq_true q102
       go_wp2
       repeat (go_quiet (fail); try go_wp2)
       go_ret
       exact ⟨by first | rfl | (simp; done) | (simp [*]; done), by repeat (first | exact Drawn0.refl _ | apply Drawn0.step)⟩
      rw [if_neg c6] at H
      exact absurd H (by simp)
     rw [if_neg c5] at H
     exact absurd H (by simp)
    rw [if_neg c4] at H
    have c4b0 : decide (x5_1 < (l0.length : Int)) = false := decide_eq_false c4
    clear c4
    obtain rfl := Option.some.inj H
    go_wp2
    repeat (go_quiet (fail); try go_wp2)
    go_ret
    exact ⟨by first | rfl | (simp; done) | (simp [*]; done), by repeat (first | exact Drawn0.refl _ | apply Drawn0.step)⟩
 rw [if_neg c3] at H
 have c3b0 : ((l0.length : Int) == (l1.length : Int)) = false := beq_eq_false_iff_ne.mpr c3
 have c3b1 : ((l0.length : Int) != (l1.length : Int)) = true := bne_iff_ne.mpr c3
 have c3b2 : (l0.length == l1.length) = false := by first | simpa using c3 | (simp at c3 ⊢; omega)
 obtain rfl := Option.some.inj H
 go_enter Try.func9, Try.ntmps9
 go_wp2
 repeat (go_quiet (fail); try go_wp2)
 go_ret
 exact ⟨by first | rfl | (simp; done) | (simp [*]; done), by repeat (first | exact Drawn0.refl _ | apply Drawn0.step)⟩
def laws_eqIntSS.l0 : Nat → List (List Int) → List (List Int) → Int → Option (Bool)
 | 0, _, _, _ => none
 | k + 1, x0, x1, x5 => if x5 < (x0.length : Int) then (if 0 ≤ x5 then (if x5 < (x1.length : Int) then ((laws_eqIntS.f k (rd_L1 x0 x5) (rd_L1 x1 x5)).bind fun t103 => (if t103 = true then (laws_eqIntSS.l0 k x0 x1 (wrap64 (x5 + 1))) else (some false))) else (none)) else (none)) else (some true)
def laws_eqIntSS.f (k : Nat) (l0 : List (List Int)) (l1 : List (List Int)) : Option (Bool) := if (l0.length : Int) = (l1.length : Int) then (laws_eqIntSS.l0 k l0 l1 0) else (some false)
theorem laws_eqIntSS.calls (k : Nat) (A0 : Option Addr) (c0 : Nat) (l0 : List (List Int)) (A1 : Option Addr) (c1 : Nat) (l1 : List (List Int)) (r : Bool) (w : World) (hr0 : Kd.C (Kd.slice 3 (Kd.int .i64)) w A0 l0.length l0) (hc0 : l0.length ≤ c0) (hr1 : Kd.C (Kd.slice 3 (Kd.int .i64)) w A1 l1.length l1) (hc1 : l1.length ≤ c1) (h : laws_eqIntSS.f k l0 l1 = some r) :
  Calls Try.prog 8 #[.slice A0 l0.length c0, .slice A1 l1.length c1] w fun e w' => e = .returned (.bool r) ∧ Drawn0 w w' := by
 have HR0 := Aside0.mk hr0
 have HC0 := Aside0.mk hc0
 clear hr0 hc0
 have HR1 := Aside0.mk hr1
 have HC1 := Aside0.mk hc1
 clear hr1 hc1
 have H : (if (l0.length : Int) = (l1.length : Int) then (laws_eqIntSS.l0 k l0 l1 0) else (some false)) = some r := h
 clear h
 by_cases c3 : (l0.length : Int) = (l1.length : Int)
 ·
  rw [if_pos c3] at H
  have c3b0 : ((l0.length : Int) == (l1.length : Int)) = true := beq_iff_eq.mpr c3
  have c3b1 : ((l0.length : Int) != (l1.length : Int)) = false := bne_eq_false_iff_eq.mpr c3
  have c3b2 : (l0.length == l1.length) = true := by first | simpa using c3 | (simp at c3 ⊢; omega)
  clear c3
  have H' := Aside0.mk H
  clear H
  go_enter Try.func8, Try.ntmps8
  go_wp2
  repeat (go_quiet (fail); try go_wp2)
  go_loopg [5] k (fun kq v5 w' => ∃ (x5_1 : Int), v5 = .int .i64 x5_1 ∧ Aside0 (laws_eqIntSS.l0 kq l0 l1 x5_1 = some r) ∧ Aside0 (kq ≤ k) ∧ Drawn0 w w')
  case atStart => exact ⟨(0), (by first | rfl | (simp; done) | (simp [*]; done)), H', ⟨Nat.le_refl _⟩, by repeat (first | exact Drawn0.refl _ | apply Drawn0.step)⟩
  case round =>
   clear H'
   try clear c1
   try clear p2
   try clear c3
   try clear c3b0
   try clear c3b1
   try clear c3b2
   obtain ⟨x5_1, rfl, HA, HK1, ⟨m1, rfl⟩⟩ := hrel
   cases gk with
   | zero => exact absurd HA.out (by simp [laws_eqIntSS.l0])
   | succ k1 =>
    have H := HA.out
    clear HA
    simp only [laws_eqIntSS.l0] at H
    by_cases c4 : x5_1 < (l0.length : Int)
    ·
     rw [if_pos c4] at H
     have c4b0 : decide (x5_1 < (l0.length : Int)) = true := decide_eq_true c4
     clear c4
     by_cases c5 : 0 ≤ x5_1
     ·
      rw [if_pos c5] at H
      have c5b0 : decide (0 ≤ x5_1) = true := decide_eq_true c5
      clear c5
      by_cases c6 : x5_1 < (l1.length : Int)
      ·
       rw [if_pos c6] at H
       have c6b0 : decide (x5_1 < (l1.length : Int)) = true := decide_eq_true c6
       clear c6
       replace H := Option.bind_eq_some_iff.mp H
       obtain ⟨t103, A70, H⟩ := H
       replace H : (if t103 = true then (laws_eqIntSS.l0 k1 l0 l1 (wrap64 (x5_1 + 1))) else (some false)) = some r := H
       have A7 := Aside0.mk A70
       clear A70
       by_cases c8 : t103 = true
       ·
        subst c8
        have H1 : (laws_eqIntSS.l0 k1 l0 l1 (wrap64 (x5_1 + 1))) = some r := by rw [if_pos rfl] at H; exact H
        clear H
        have H := H1
        clear H1
        have H' := Aside0.mk H
        clear H
        have p101 : 0 ≤ (x5_1 : Int) := of_decide_eq_true (by first | (with_reducible assumption) | assumption)
        have q101 : x5_1 < (l0.length : Int) := of_decide_eq_true (by first | (with_reducible assumption) | assumption)
        obtain ⟨ad101, A101_0, c101_0, e101, hx101_0, hl101_0, hi101_0⟩ := at_L1 HR0.out x5_1 p101 q101
        cases e101
        have HR101_0 := Aside0.mk hi101_0
        have HC101_0 := Aside0.mk hl101_0
        clear hi101_0 hl101_0
        replace p101 := eq_true p101
        replace q101 := eq_true q101
        have p102 : 0 ≤ (x5_1 : Int) := of_decide_eq_true (by first | (with_reducible assumption) | assumption)
        have q102 : x5_1 < (l1.length : Int) := of_decide_eq_true (by first | (with_reducible assumption) | assumption)
        obtain ⟨ad102, A102_0, c102_0, e102, hx102_0, hl102_0, hi102_0⟩ := at_L1 HR1.out x5_1 p102 q102
        cases e102
        have HR102_0 := Aside0.mk hi102_0
        have HC102_0 := Aside0.mk hl102_0
        clear hi102_0 hl102_0
        replace p102 := eq_true p102
        replace q102 := eq_true q102
        go_wp2_with (first | (go_at_call 9; (with_reducible refine (laws_eqIntS.calls k1 _ _ (rd_L1 l0 x5_1) _ _ (rd_L1 l1 x5_1) true _ ?side1 ?side2 ?side3 ?side4 A7.out).mono ?_); (case side1 => exact pC HR101_0.out); (case side2 => exact HC101_0.out); (case side3 => exact pC HR102_0.out); (case side4 => exact HC102_0.out); rintro e w' ⟨rfl, ⟨nd, rfl⟩⟩; (try first | exact ⟨rfl, _, World.drewN_drewN _ _ _⟩ | exact ⟨rfl, _, Eq.trans (World.drewN_drewN _ _ _) (congrArg (World.drewN _) (Nat.add_assoc _ _ _))⟩)))
        repeat (go_quiet (first | (go_at_call 9; (with_reducible refine (laws_eqIntS.calls k1 _ _ (rd_L1 l0 x5_1) _ _ (rd_L1 l1 x5_1) true _ ?side1 ?side2 ?side3 ?side4 A7.out).mono ?_); (case side1 => exact pC HR101_0.out); (case side2 => exact HC101_0.out); (case side3 => exact pC HR102_0.out); (case side4 => exact HC102_0.out); rintro e w' ⟨rfl, ⟨nd, rfl⟩⟩; (try first | exact ⟨rfl, _, World.drewN_drewN _ _ _⟩ | exact ⟨rfl, _, Eq.trans (World.drewN_drewN _ _ _) (congrArg (World.drewN _) (Nat.add_assoc _ _ _))⟩))); try go_wp2_with (first | (go_at_call 9; (with_reducible refine (laws_eqIntS.calls k1 _ _ (rd_L1 l0 x5_1) _ _ (rd_L1 l1 x5_1) true _ ?side1 ?side2 ?side3 ?side4 A7.out).mono ?_); (case side1 => exact pC HR101_0.out); (case side2 => exact HC101_0.out); (case side3 => exact pC HR102_0.out); (case side4 => exact HC102_0.out); rintro e w' ⟨rfl, ⟨nd, rfl⟩⟩; (try first | exact ⟨rfl, _, World.drewN_drewN _ _ _⟩ | exact ⟨rfl, _, Eq.trans (World.drewN_drewN _ _ _) (congrArg (World.drewN _) (Nat.add_assoc _ _ _))⟩))))
        go_roundg k1
        case measure => have := HK1.out; omega
        case rel => exact ⟨(wrap64 (x5_1 + 1)), (by first | rfl | (simp; done) | (simp [*]; done)), H', ⟨by have := HK1.out; omega⟩, by repeat (first | exact Drawn0.refl _ | apply Drawn0.step)⟩
       replace c8 := Bool.eq_false_iff.mpr c8
       subst c8
       have H1 : (some false) = some r := by rw [if_neg (show ¬ (false = true) by decide)] at H; exact H
       clear H
       have H := H1
       clear H1
       obtain rfl := Option.some.inj H
       have p101 : 0 ≤ (x5_1 : Int) := of_decide_eq_true (by first | (with_reducible assumption) | assumption)
       have q101 : x5_1 < (l0.length : Int) := of_decide_eq_true (by first | (with_reducible assumption) | assumption)
       obtain ⟨ad101, A101_0, c101_0, e101, hx101_0, hl101_0, hi101_0⟩ := at_L1 HR0.out x5_1 p101 q101
       cases e101
       have HR101_0 := Aside0.mk hi101_0
       have HC101_0 := Aside0.mk hl101_0
       clear hi101_0 hl101_0
       replace p101 := eq_true p101
       replace q101 := eq_true q101
       have p102 : 0 ≤ (x5_1 : Int) := of_decide_eq_true (by first | (with_reducible assumption) | assumption)
       have q102 : x5_1 < (l1.length : Int) := of_decide_eq_true (by first | (with_reducible assumption) | assumption)
       obtain ⟨ad102, A102_0, c102_0, e102, hx102_0, hl102_0, hi102_0⟩ := at_L1 HR1.out x5_1 p102 q102
       cases e102
       have HR102_0 := Aside0.mk hi102_0
       have HC102_0 := Aside0.mk hl102_0
       clear hi102_0 hl102_0
       replace p102 := eq_true p102
       replace q102 := eq_true q102
       go_wp2_with (first | (go_at_call 9; (with_reducible refine (laws_eqIntS.calls k1 _ _ (rd_L1 l0 x5_1) _ _ (rd_L1 l1 x5_1) false _ ?side1 ?side2 ?side3 ?side4 A7.out).mono ?_); (case side1 => exact pC HR101_0.out); (case side2 => exact HC101_0.out); (case side3 => exact pC HR102_0.out); (case side4 => exact HC102_0.out); rintro e w' ⟨rfl, ⟨nd, rfl⟩⟩; (try first | exact ⟨rfl, _, World.drewN_drewN _ _ _⟩ | exact ⟨rfl, _, Eq.trans (World.drewN_drewN _ _ _) (congrArg (World.drewN _) (Nat.add_assoc _ _ _))⟩)))
       repeat (go_quiet (first | (go_at_call 9; (with_reducible refine (laws_eqIntS.calls k1 _ _ (rd_L1 l0 x5_1) _ _ (rd_L1 l1 x5_1) false _ ?side1 ?side2 ?side3 ?side4 A7.out).mono ?_); (case side1 => exact pC HR101_0.out); (case side2 => exact HC101_0.out); (case side3 => exact pC HR102_0.out); (case side4 => exact HC102_0.out); rintro e w' ⟨rfl, ⟨nd, rfl⟩⟩; (try first | exact ⟨rfl, _, World.drewN_drewN _ _ _⟩ | exact ⟨rfl, _, Eq.trans (World.drewN_drewN _ _ _) (congrArg (World.drewN _) (Nat.add_assoc _ _ _))⟩))); try go_wp2_with (first | (go_at_call 9; (with_reducible refine (laws_eqIntS.calls k1 _ _ (rd_L1 l0 x5_1) _ _ (rd_L1 l1 x5_1) false _ ?side1 ?side2 ?side3 ?side4 A7.out).mono ?_); (case side1 => exact pC HR101_0.out); (case side2 => exact HC101_0.out); (case side3 => exact pC HR102_0.out); (case side4 => exact HC102_0.out); rintro e w' ⟨rfl, ⟨nd, rfl⟩⟩; (try first | exact ⟨rfl, _, World.drewN_drewN _ _ _⟩ | exact ⟨rfl, _, Eq.trans (World.drewN_drewN _ _ _) (congrArg (World.drewN _) (Nat.add_assoc _ _ _))⟩))))
       go_ret
       exact ⟨by first | rfl | (simp; done) | (simp [*]; done), by repeat (first | exact Drawn0.refl _ | apply Drawn0.step)⟩
      rw [if_neg c6] at H
      exact absurd H (by simp)
     rw [if_neg c5] at H
     exact absurd H (by simp)
    rw [if_neg c4] at H
    have c4b0 : decide (x5_1 < (l0.length : Int)) = false := decide_eq_false c4
    clear c4
    obtain rfl := Option.some.inj H
    go_wp2
    repeat (go_quiet (fail); try go_wp2)
    go_ret
    exact ⟨by first | rfl | (simp; done) | (simp [*]; done), by repeat (first | exact Drawn0.refl _ | apply Drawn0.step)⟩
 rw [if_neg c3] at H
 have c3b0 : ((l0.length : Int) == (l1.length : Int)) = false := beq_eq_false_iff_ne.mpr c3
 have c3b1 : ((l0.length : Int) != (l1.length : Int)) = true := bne_iff_ne.mpr c3
 have c3b2 : (l0.length == l1.length) = false := by first | simpa using c3 | (simp at c3 ⊢; omega)
 obtain rfl := Option.some.inj H
 go_enter Try.func8, Try.ntmps8
 go_wp2
 repeat (go_quiet (fail); try go_wp2)
 go_ret
 exact ⟨by first | rfl | (simp; done) | (simp [*]; done), by repeat (first | exact Drawn0.refl _ | apply Drawn0.step)⟩
mutual
def laws_FnExactRegionParts.j0 : Nat → Int → Int → List Int → List (List Int) → Bool → List Int → List (List Int) → Bool → Bool → Option (Bool)
 | 0, _, _, _, _, _, _, _, _, _ => none
 | k + 1, x0, x1, x2, x7, x8, x9, x10, x11, x45 => if x45 = true then (some false) else ((laws_toIntS.f k x2).bind fun t116 => ((laws_eqIntS.f k x9 t116).bind fun t119 => (if t119 = true then ((laws_markIntS.f k x9 1).bind fun bt120 => (if bt120.1 < 0 then (laws_FnExactRegionParts.j1 k x0 x1 x2 x7 x8 x10 true) else ((laws_eqIntSS.f k x10 x7).bind fun t122 => (if t122 = true then (laws_FnExactRegionParts.j1 k x0 x1 x2 x7 x8 x10 (x11 != x8)) else (laws_FnExactRegionParts.j1 k x0 x1 x2 x7 x8 x10 true))))) else (some false))))
def laws_FnExactRegionParts.j1 : Nat → Int → Int → List Int → List (List Int) → Bool → List (List Int) → Bool → Option (Bool)
 | 0, _, _, _, _, _, _, _ => none
 | k + 1, x0, x1, x2, x7, x8, x10, x66 => if x66 = true then (some false) else ((laws_markIntSS.f k x10 1).bind fun bt123 => ((laws_heldIntSS.f k bt123.2 1).bind fun t125 => (if t125 < 0 then (some false) else (if t125 = bt123.1 then ((laws_toIntS.f k x2).bind fun t126 => ((impl_RegionParts.f k x0 x1 t126).bind fun bt129 => ((laws_eqIntSS.f k bt129.1 x7).bind fun t133 => (if t133 = true then (laws_FnExactRegionParts.j2 k bt123.2 bt123.1 (bt129.2 != x8)) else (laws_FnExactRegionParts.j2 k bt123.2 bt123.1 true))))) else (some false)))))
def laws_FnExactRegionParts.j2 : Nat → List (List Int) → Int → Bool → Option (Bool)
 | 0, _, _, _ => none
 | k + 1, x10, x13, x94 => if x94 = true then (some false) else ((laws_heldIntSS.f k x10 1).bind fun t134 => (if t134 < 0 then (some false) else (if t134 = x13 then (some true) else (some false))))
end
def laws_FnExactRegionParts.f (k : Nat) (a0 : Int) (a1 : Int) (l2 : List Int) : Option (Bool) := if (l2.length : Int) > 1048576 then (some true) else ((laws_toIntS.f k l2).bind fun t101 => ((spec_RegionParts.f k a0 a1 t101).bind fun bt104 => ((laws_toIntS.f k l2).bind fun t108 => ((impl_RegionParts.f k a0 a1 t108).bind fun bt111 => ((laws_eqIntSS.f k bt111.1 bt104.1).bind fun t115 => (if t115 = true then (laws_FnExactRegionParts.j0 k a0 a1 l2 bt104.1 bt104.2 t108 bt111.1 bt111.2 (bt111.2 != bt104.2)) else (laws_FnExactRegionParts.j0 k a0 a1 l2 bt104.1 bt104.2 t108 bt111.1 bt111.2 true)))))))
theorem laws_FnExactRegionParts.calls (k : Nat) (a0 : Int) (a1 : Int) (A2 : Option Addr) (c2 : Nat) (l2 : List Int) (r : Bool) (w : World) (hr2 : Kd.C (Kd.int .i64) w A2 l2.length l2) (hc2 : l2.length ≤ c2) (h : laws_FnExactRegionParts.f k a0 a1 l2 = some r) :
  Calls Try.prog 3 #[.int .i64 a0, .int .i64 a1, .slice A2 l2.length c2] w fun e w' => e = .returned (.bool r) ∧ Below w.heap.size w w' := by
 have HR2 := Aside0.mk hr2
 have HC2 := Aside0.mk hc2
 clear hr2 hc2
 have HB := aK (Below.refl w.heap.size w)
 have H : (if (l2.length : Int) > 1048576 then (some true) else ((laws_toIntS.f k l2).bind fun t101 => ((spec_RegionParts.f k a0 a1 t101).bind fun bt104 => ((laws_toIntS.f k l2).bind fun t108 => ((impl_RegionParts.f k a0 a1 t108).bind fun bt111 => ((laws_eqIntSS.f k bt111.1 bt104.1).bind fun t115 => (if t115 = true then (laws_FnExactRegionParts.j0 k a0 a1 l2 bt104.1 bt104.2 t108 bt111.1 bt111.2 (bt111.2 != bt104.2)) else (laws_FnExactRegionParts.j0 k a0 a1 l2 bt104.1 bt104.2 t108 bt111.1 bt111.2 true)))))))) = some r := h
 clear h
 by_cases c4 : (l2.length : Int) > 1048576
 ·
  rw [if_pos c4] at H
  have c4b0 : decide (1048576 < (l2.length : Int)) = true := decide_eq_true c4
  have c4b1 : decide (1048576 < l2.length) = true := decide_eq_true (by omega)
  clear c4
  obtain rfl := Option.some.inj H
  go_enter Try.func3, Try.ntmps3
  go_wp2
  go_ret
  exact ⟨er, pT HB.out⟩
 rw [if_neg c4] at H
 have c4b0 : decide (1048576 < (l2.length : Int)) = false := decide_eq_false c4
 have c4b1 : decide (1048576 < l2.length) = false := decide_eq_false (by omega)
 clear c4
 replace H := Option.bind_eq_some_iff.mp H
 obtain ⟨t101, A50, H⟩ := H
 replace H : ((spec_RegionParts.f k a0 a1 t101).bind fun bt104 => ((laws_toIntS.f k l2).bind fun t108 => ((impl_RegionParts.f k a0 a1 t108).bind fun bt111 => ((laws_eqIntSS.f k bt111.1 bt104.1).bind fun t115 => (if t115 = true then (laws_FnExactRegionParts.j0 k a0 a1 l2 bt104.1 bt104.2 t108 bt111.1 bt111.2 (bt111.2 != bt104.2)) else (laws_FnExactRegionParts.j0 k a0 a1 l2 bt104.1 bt104.2 t108 bt111.1 bt111.2 true)))))) = some r := H
 have A5 := Aside0.mk A50
 clear A50
 replace H := Option.bind_eq_some_iff.mp H
 obtain ⟨⟨t104, t105⟩, A60, H⟩ := H
 replace H : ((laws_toIntS.f k l2).bind fun t108 => ((impl_RegionParts.f k a0 a1 t108).bind fun bt111 => ((laws_eqIntSS.f k bt111.1 t104).bind fun t115 => (if t115 = true then (laws_FnExactRegionParts.j0 k a0 a1 l2 t104 t105 t108 bt111.1 bt111.2 (bt111.2 != t105)) else (laws_FnExactRegionParts.j0 k a0 a1 l2 t104 t105 t108 bt111.1 bt111.2 true))))) = some r := H
 have A6 := Aside0.mk A60
 clear A60
 replace H := Option.bind_eq_some_iff.mp H
 obtain ⟨t108, A70, H⟩ := H
 replace H : ((impl_RegionParts.f k a0 a1 t108).bind fun bt111 => ((laws_eqIntSS.f k bt111.1 t104).bind fun t115 => (if t115 = true then (laws_FnExactRegionParts.j0 k a0 a1 l2 t104 t105 t108 bt111.1 bt111.2 (bt111.2 != t105)) else (laws_FnExactRegionParts.j0 k a0 a1 l2 t104 t105 t108 bt111.1 bt111.2 true)))) = some r := H
 have A7 := Aside0.mk A70
 clear A70
 replace H := Option.bind_eq_some_iff.mp H
 obtain ⟨⟨t111, t112⟩, A80, H⟩ := H
 replace H : ((laws_eqIntSS.f k t111 t104).bind fun t115 => (if t115 = true then (laws_FnExactRegionParts.j0 k a0 a1 l2 t104 t105 t108 t111 t112 (t112 != t105)) else (laws_FnExactRegionParts.j0 k a0 a1 l2 t104 t105 t108 t111 t112 true))) = some r := H
 have A8 := Aside0.mk A80
 clear A80
 have HC9 := Aside0.mk H
 clear H
 go_enter Try.func3, Try.ntmps3
 go_upto_region 6 with (first | ((with_reducible refine gate_callee (f := 6) rfl ?_); refine gl (some 24) Try.func6 #[.slice A2 l2.length c2] ?_; (with_reducible refine (laws_toIntS.calls k _ _ l2 t101 _ ?side1 ?side2 A5.out).mono ?_); (case side1 => exact pC HR2.out); (case side2 => exact HC2.out); rintro e w10 ⟨v102, rfl, ho0, hb⟩; refine ⟨_, rfl, ?_⟩; have HO103 := aK (Kd.R_lower ho0 (below_size (pS HB.out))); replace HB := bS HB hb; (try clear hb); (try clear hb2); (try clear hk); (try clear hi); (try clear ho0); obtain ⟨Ao11, co11, eo11⟩ := Kd.R_slice HO103.out; subst eo11) | ((with_reducible refine gate_callee (f := 5) rfl ?_); refine gl (some 25) Try.func5 #[.int .i64 a0, .int .i64 a1, .slice Ao11 t101.length co11] ?_; (with_reducible refine (spec_RegionParts.calls k a0 a1 _ _ t101 t104 t105 _ ?side1 ?side2 A6.out).mono ?_); (case side1 => exact pC (Kd.R_reads' HO103.out).2.2); (case side2 => exact (Kd.R_reads' HO103.out).2.1); rintro e w12 ⟨v106, rfl, ho0, hb⟩; refine ⟨_, rfl, ?_⟩; obtain ⟨sz1, hsz1⟩ := mpM hb; have n0_ := aK (Kd.R_below (pR HO103.out) hb); have HO107 := aK (Kd.S_lower (Kd.S_new' (mpN ho0 hsz1) (Kd.R_lt (pR HO103.out))) (below_size (pS HB.out))); replace HB := bS HB hb; clear HO103; have HO103 := n0_; clear n0_; (try clear hb); (try clear hb2); (try clear hk); (try clear hi); (try clear ho0)) | ((with_reducible refine gate_callee (f := 6) rfl ?_); refine gl (some 29) Try.func6 #[.slice A2 l2.length c2] ?_; (with_reducible refine (laws_toIntS.calls k _ _ l2 t108 _ ?side1 ?side2 A7.out).mono ?_); (case side1 => exact pC (Kd.C_below HR2.out HB.out)); (case side2 => exact HC2.out); rintro e w13 ⟨v109, rfl, ho0, hb⟩; refine ⟨_, rfl, ?_⟩; have n0_ := aK (Kd.R_elder' (pR HO103.out) (Kd.R_base ho0) hb); have n1_ := aK (Kd.S_elder' (by (with_reducible repeat (first | apply Kd.S_alloc | apply Kd.S_drewN | apply Kd.S_drew)); exact HO107.out) (Kd.R_base ho0) hb); have HO110 := aK (Kd.R_lower (nw1 ho0 (pR HO103.out)) (below_size (pS HB.out))); replace HB := bS HB hb; clear HO103 HO107; have HO103 := n0_; have HO107 := n1_; clear n0_ n1_; (try clear hb); (try clear hb2); (try clear hk); (try clear hi); (try clear ho0); obtain ⟨Ao14, co14, eo14⟩ := Kd.R_slice HO110.out; subst eo14) | ((with_reducible refine gate_callee (f := 7) rfl ?_); refine gl (some 34) Try.func7 #[.int .i64 a0, .int .i64 a1, .slice Ao14 t108.length co14] ?_; (with_reducible refine (impl_RegionParts.calls k a0 a1 _ _ t108 t111 t112 _ ?side1 ?side2 A8.out).mono ?_); (case side1 => exact pC (Kd.R_reads' HO110.out).2.2); (case side2 => exact (Kd.R_reads' HO110.out).2.1); rintro e w15 ⟨v113, rfl, ho0, hb⟩; refine ⟨_, rfl, ?_⟩; obtain ⟨sz2, hsz2⟩ := mpM hb; have n0_ := aK (Kd.R_below (pR HO103.out) hb); have n1_ := aK (mpE2 (by (with_reducible repeat (first | apply Kd.S_alloc | apply Kd.S_drewN | apply Kd.S_drew)); exact HO107.out) hb hsz2 (Kd.S_base ho0)); have n2_ := aK (Kd.R_below (pR HO110.out) hb); have HO114 := aK (Kd.S_lower (Kd.S_new' (Kd.S_new' (Kd.S_new' (mpN ho0 hsz2) (Kd.R_lt (pR HO103.out))) (Kd.S_lt (by (with_reducible repeat (first | apply Kd.S_alloc | apply Kd.S_drewN | apply Kd.S_drew)); exact HO107.out))) (Kd.R_lt (pR HO110.out))) (below_size (pS HB.out))); replace HB := bS HB hb; clear HO103 HO107 HO110; have HO103 := n0_; have HO107 := n1_; have HO110 := n2_; clear n0_ n1_ n2_; (try clear hb); (try clear hb2); (try clear hk); (try clear hi); (try clear ho0)))
 (try simp only [Act.put, List.setIfInBounds_toArray, List.set_cons_zero, List.set_cons_succ])
 go_cut [45] (fun v45 wc => ∃ (kq : Nat) (x45_8 : Bool), v45 = .bool x45_8 ∧ Aside0 (laws_FnExactRegionParts.j0 kq a0 a1 l2 t104 t105 t108 t111 t112 x45_8 = some r) ∧ Aside0 (kq ≤ k) ∧ Aside0 (Kd.S (Kd.slice 3 (Kd.int .i64)) 22 wc w.heap.size (fun k_ => some k_ ≠ ((.slice Ao14 t108.length co14) : Value).ownBlock ∧ some k_ ≠ (v113 : Value).ownBlock ∧ k_ < sz2 ∧ sz1 ≤ k_) v106 t104) ∧ Aside0 (Kd.R (Kd.int .i64) 3 wc w.heap.size (fun _ => True) (.slice Ao14 t108.length co14) t108) ∧ Aside0 (Kd.S (Kd.slice 3 (Kd.int .i64)) 22 wc w.heap.size (fun k_ => some k_ ≠ (v106 : Value).ownBlock ∧ some k_ ≠ ((.slice Ao14 t108.length co14) : Value).ownBlock ∧ sz2 ≤ k_) v113 t111) ∧ Aside0 (Below w.heap.size w wc))
 case first =>
  have H := HC9.out
  clear HC9
  replace H := Option.bind_eq_some_iff.mp H
  obtain ⟨t115, A160, H⟩ := H
  replace H : (if t115 = true then (laws_FnExactRegionParts.j0 k a0 a1 l2 t104 t105 t108 t111 t112 (t112 != t105)) else (laws_FnExactRegionParts.j0 k a0 a1 l2 t104 t105 t108 t111 t112 true)) = some r := H
  have A16 := Aside0.mk A160
  clear A160
  by_cases c17 : t115 = true
  ·
   subst c17
   have H1 : (laws_FnExactRegionParts.j0 k a0 a1 l2 t104 t105 t108 t111 t112 (t112 != t105)) = some r := by rw [if_pos rfl] at H; exact H
   clear H
   have H := H1
   clear H1
   have H' := Aside0.mk H
   clear H
   obtain ⟨Ao18, co18, eo18⟩ := Kd.S_slice HO114.out
   subst eo18
   obtain ⟨Ao19, co19, eo19⟩ := Kd.S_slice HO107.out
   subst eo19
   go_wp2_with (first | ((with_reducible refine gate_callee (f := 8) rfl ?_); refine gl (some 39) Try.func8 #[.slice Ao18 t111.length co18, .slice Ao19 t104.length co19] ?_; (with_reducible refine (laws_eqIntSS.calls k _ _ t111 _ _ t104 true _ ?side1 ?side2 ?side3 ?side4 A16.out).mono ?_); (case side1 => exact pC (Kd.S_reads' HO114.out).2.2); (case side2 => exact (Kd.S_reads' HO114.out).2.1); (case side3 => exact pC (Kd.S_reads' HO107.out).2.2); (case side4 => exact (Kd.S_reads' HO107.out).2.1); rintro e w' ⟨rfl, ⟨nd, rfl⟩⟩; refine ⟨_, rfl, ?_⟩))
   go_meet
   case rel => exact ⟨_, ((t112 != t105)), (by first | rfl | (simp; done) | (simp [*]; done)), H', ⟨by first | omega | exact Nat.le_refl _⟩, ⟨by (with_reducible repeat (first | apply Kd.S_alloc | apply Kd.S_drewN | apply Kd.S_drew)); exact Kd.S_mono HO107.out (fun _ hk => ⟨hk.1.1.2, ⟨hk.2, ⟨hk.1.2, hk.1.1.1.1⟩⟩⟩)⟩, ⟨pR (Kd.R_mono HO110.out (fun _ hk => trivial))⟩, ⟨by (with_reducible repeat (first | apply Kd.S_alloc | apply Kd.S_drewN | apply Kd.S_drew)); exact Kd.S_mono HO114.out (fun _ hk => ⟨hk.1.2, ⟨hk.2, hk.1.1.1⟩⟩)⟩, ⟨pT HB.out⟩⟩
  replace c17 := Bool.eq_false_iff.mpr c17
  subst c17
  have H1 : (laws_FnExactRegionParts.j0 k a0 a1 l2 t104 t105 t108 t111 t112 true) = some r := by rw [if_neg (show ¬ (false = true) by decide)] at H; exact H
  clear H
  have H := H1
  clear H1
  have H' := Aside0.mk H
  clear H
  obtain ⟨Ao20, co20, eo20⟩ := Kd.S_slice HO114.out
  subst eo20
  obtain ⟨Ao21, co21, eo21⟩ := Kd.S_slice HO107.out
  subst eo21
  go_wp2_with (first | ((with_reducible refine gate_callee (f := 8) rfl ?_); refine gl (some 39) Try.func8 #[.slice Ao20 t111.length co20, .slice Ao21 t104.length co21] ?_; (with_reducible refine (laws_eqIntSS.calls k _ _ t111 _ _ t104 false _ ?side1 ?side2 ?side3 ?side4 A16.out).mono ?_); (case side1 => exact pC (Kd.S_reads' HO114.out).2.2); (case side2 => exact (Kd.S_reads' HO114.out).2.1); (case side3 => exact pC (Kd.S_reads' HO107.out).2.2); (case side4 => exact (Kd.S_reads' HO107.out).2.1); rintro e w' ⟨rfl, ⟨nd, rfl⟩⟩; refine ⟨_, rfl, ?_⟩))
  go_meet
  case rel => exact ⟨_, (true), (by first | rfl | (simp; done) | (simp [*]; done)), H', ⟨by first | omega | exact Nat.le_refl _⟩, ⟨by (with_reducible repeat (first | apply Kd.S_alloc | apply Kd.S_drewN | apply Kd.S_drew)); exact Kd.S_mono HO107.out (fun _ hk => ⟨hk.1.1.2, ⟨hk.2, ⟨hk.1.2, hk.1.1.1.1⟩⟩⟩)⟩, ⟨pR (Kd.R_mono HO110.out (fun _ hk => trivial))⟩, ⟨by (with_reducible repeat (first | apply Kd.S_alloc | apply Kd.S_drewN | apply Kd.S_drew)); exact Kd.S_mono HO114.out (fun _ hk => ⟨hk.1.2, ⟨hk.2, hk.1.1.1⟩⟩)⟩, ⟨pT HB.out⟩⟩
 case rest =>
  clear HC9
  try clear c1
  try clear c2
  try clear p2
  try clear c3
  try clear c4
  try clear c4b0
  try clear c4b1
  try clear c5
  try clear c6
  try clear c7
  try clear c8
  try clear c17
  obtain ⟨kq, x45_8, rfl, HA, HJ8, HO_7, HO_9, HO_10, HB⟩ := hcut
  cases kq with
  | zero => exact absurd HA.out (by simp [laws_FnExactRegionParts.j0])
  | succ kj8 =>
   have H := HA.out
   clear HA
   simp only [laws_FnExactRegionParts.j0] at H
   by_cases c22 : x45_8 = true
   ·
    subst c22
    have H1 : (some false) = some r := by rw [if_pos rfl] at H; exact H
    clear H
    have H := H1
    clear H1
    obtain rfl := Option.some.inj H
    go_wp2
    go_ret
    exact ⟨er, pT HB.out⟩
   replace c22 := Bool.eq_false_iff.mpr c22
   subst c22
   have H1 : ((laws_toIntS.f kj8 l2).bind fun t116 => ((laws_eqIntS.f kj8 t108 t116).bind fun t119 => (if t119 = true then ((laws_markIntS.f kj8 t108 1).bind fun bt120 => (if bt120.1 < 0 then (laws_FnExactRegionParts.j1 kj8 a0 a1 l2 t104 t105 t111 true) else ((laws_eqIntSS.f kj8 t111 t104).bind fun t122 => (if t122 = true then (laws_FnExactRegionParts.j1 kj8 a0 a1 l2 t104 t105 t111 (t112 != t105)) else (laws_FnExactRegionParts.j1 kj8 a0 a1 l2 t104 t105 t111 true))))) else (some false)))) = some r := by rw [if_neg (show ¬ (false = true) by decide)] at H; exact H
   clear H
   have H := H1
   clear H1
   replace H := Option.bind_eq_some_iff.mp H
   obtain ⟨t116, A230, H⟩ := H
   replace H : ((laws_eqIntS.f kj8 t108 t116).bind fun t119 => (if t119 = true then ((laws_markIntS.f kj8 t108 1).bind fun bt120 => (if bt120.1 < 0 then (laws_FnExactRegionParts.j1 kj8 a0 a1 l2 t104 t105 t111 true) else ((laws_eqIntSS.f kj8 t111 t104).bind fun t122 => (if t122 = true then (laws_FnExactRegionParts.j1 kj8 a0 a1 l2 t104 t105 t111 (t112 != t105)) else (laws_FnExactRegionParts.j1 kj8 a0 a1 l2 t104 t105 t111 true))))) else (some false))) = some r := H
   have A23 := Aside0.mk A230
   clear A230
   replace H := Option.bind_eq_some_iff.mp H
   obtain ⟨t119, A240, H⟩ := H
   replace H : (if t119 = true then ((laws_markIntS.f kj8 t108 1).bind fun bt120 => (if bt120.1 < 0 then (laws_FnExactRegionParts.j1 kj8 a0 a1 l2 t104 t105 t111 true) else ((laws_eqIntSS.f kj8 t111 t104).bind fun t122 => (if t122 = true then (laws_FnExactRegionParts.j1 kj8 a0 a1 l2 t104 t105 t111 (t112 != t105)) else (laws_FnExactRegionParts.j1 kj8 a0 a1 l2 t104 t105 t111 true))))) else (some false)) = some r := H
   have A24 := Aside0.mk A240
   clear A240
   by_cases c25 : t119 = true
   ·
    subst c25
    have H1 : ((laws_markIntS.f kj8 t108 1).bind fun bt120 => (if bt120.1 < 0 then (laws_FnExactRegionParts.j1 kj8 a0 a1 l2 t104 t105 t111 true) else ((laws_eqIntSS.f kj8 t111 t104).bind fun t122 => (if t122 = true then (laws_FnExactRegionParts.j1 kj8 a0 a1 l2 t104 t105 t111 (t112 != t105)) else (laws_FnExactRegionParts.j1 kj8 a0 a1 l2 t104 t105 t111 true))))) = some r := by rw [if_pos rfl] at H; exact H
    clear H
    have H := H1
    clear H1
    replace H := Option.bind_eq_some_iff.mp H
    obtain ⟨⟨t120, t121⟩, A260, H⟩ := H
    replace H : (if t120 < 0 then (laws_FnExactRegionParts.j1 kj8 a0 a1 l2 t104 t105 t111 true) else ((laws_eqIntSS.f kj8 t111 t104).bind fun t122 => (if t122 = true then (laws_FnExactRegionParts.j1 kj8 a0 a1 l2 t104 t105 t111 (t112 != t105)) else (laws_FnExactRegionParts.j1 kj8 a0 a1 l2 t104 t105 t111 true)))) = some r := H
    have A26 := Aside0.mk A260
    clear A260
    have HC27 := Aside0.mk H
    clear H
    go_upto_region 12 with (first | ((with_reducible refine gate_callee (f := 6) rfl ?_); refine gl (some 48) Try.func6 #[.slice A2 l2.length c2] ?_; (with_reducible refine (laws_toIntS.calls kj8 _ _ l2 t116 _ ?side1 ?side2 A23.out).mono ?_); (case side1 => exact pC (Kd.C_below HR2.out HB.out)); (case side2 => exact HC2.out); rintro e w28 ⟨v117, rfl, ho0, hb⟩; refine ⟨_, rfl, ?_⟩; have n0_ := aK (Kd.S_elder' (by (with_reducible repeat (first | apply Kd.S_alloc | apply Kd.S_drewN | apply Kd.S_drew)); exact HO_7.out) (Kd.R_base ho0) hb); have n1_ := aK (Kd.R_elder' (pR HO_9.out) (Kd.R_base ho0) hb); have n2_ := aK (Kd.S_elder' (by (with_reducible repeat (first | apply Kd.S_alloc | apply Kd.S_drewN | apply Kd.S_drew)); exact HO_10.out) (Kd.R_base ho0) hb); have HO118 := aK (Kd.R_lower (nw1 ho0 (pR HO_9.out)) (below_size (pS HB.out))); replace HB := bS HB hb; clear HO_7 HO_9 HO_10; have HO_7 := n0_; have HO_9 := n1_; have HO_10 := n2_; clear n0_ n1_ n2_; (try clear hb); (try clear hb2); (try clear hk); (try clear hi); (try clear ho0); obtain ⟨Ao29, co29, eo29⟩ := Kd.R_slice HO118.out; subst eo29) | ((with_reducible refine gate_callee (f := 9) rfl ?_); refine gl (some 49) Try.func9 #[.slice Ao14 t108.length co14, .slice Ao29 t116.length co29] ?_; (with_reducible refine (laws_eqIntS.calls kj8 _ _ t108 _ _ t116 true _ ?side1 ?side2 ?side3 ?side4 A24.out).mono ?_); (case side1 => exact pC (Kd.R_reads' HO_9.out).2.2); (case side2 => exact (Kd.R_reads' HO_9.out).2.1); (case side3 => exact pC (Kd.R_reads' HO118.out).2.2); (case side4 => exact (Kd.R_reads' HO118.out).2.1); rintro e w' ⟨rfl, ⟨nd, rfl⟩⟩; refine ⟨_, rfl, ?_⟩) | ((with_reducible refine gate_callee (f := 10) rfl ?_); refine gl (some 53) Try.func10 #[.slice Ao14 t108.length co14, .int .i64 1] ?_; (with_reducible refine (laws_markIntS.calls kj8 (fun k_ => some k_ = (.slice Ao14 t108.length co14 : Value).ownBlock) (.slice Ao14 t108.length co14) t108 1 t120 t121 w _ ?side1 ?side2 A26.out).mono ?_); (case side1 => exact pT HB.out); (case side2 => exact Kd.R_tight rfl HO_9.out); rintro e w30 ⟨rfl, hy0, hb, hkp⟩; refine ⟨_, rfl, ?_⟩; have n0_ := aK (Kd.S_mono (ok' := fun k_ => some k_ ≠ (.slice Ao14 t108.length co14 : Value).ownBlock ∧ some k_ ≠ (v113 : Value).ownBlock ∧ some k_ ≠ (.slice Ao29 t116.length co29 : Value).ownBlock ∧ k_ < sz2 ∧ sz1 ≤ k_) (Kd.S_keptB (HO_7.out) hkp (fun k_ hk_ hs_ => (hk_.1.1) hs_)) (fun k_ hk_ => ⟨hk_.1.1.1, hk_.1.1.2.1, hk_.1.2, hk_.1.1.2.2.1, hk_.1.1.2.2.2⟩)); have n1_ := aK (Kd.R_reok rfl hy0 (fun k_ e_ => HO_9.out.1 k_ e_)); have n2_ := aK (Kd.S_mono (ok' := fun k_ => some k_ ≠ (v106 : Value).ownBlock ∧ some k_ ≠ (.slice Ao14 t108.length co14 : Value).ownBlock ∧ some k_ ≠ (.slice Ao29 t116.length co29 : Value).ownBlock ∧ sz2 ≤ k_) (Kd.S_keptB (HO_10.out) hkp (fun k_ hk_ hs_ => (hk_.1.2.1) hs_)) (fun k_ hk_ => ⟨hk_.1.1.1, hk_.1.1.2.1, hk_.1.2, hk_.1.1.2.2⟩)); have n3_ := aK (Kd.R_mono (ok' := fun k_ => some k_ ≠ (.slice Ao14 t108.length co14 : Value).ownBlock) (Kd.R_keptB (HO118.out) hkp (fun k_ hk_ hs_ => (hk_.2) hs_)) (fun k_ hk_ => hk_.1.2)); have n4_ := aK (hb); clear HO_7 HO_9 HO_10 HO118 HB; have HO_7 := n0_; have HO_9 := n1_; have HO_10 := n2_; have HO118 := n3_; have HB := n4_; clear n0_ n1_ n2_ n3_ n4_; (try clear hb); (try clear hkp); (try clear hy0)))
    (try simp only [Act.put, List.setIfInBounds_toArray, List.set_cons_zero, List.set_cons_succ])
    go_cut [66] (fun v66 wc => ∃ (kq : Nat) (x66_26 : Bool), v66 = .bool x66_26 ∧ Aside0 (laws_FnExactRegionParts.j1 kq a0 a1 l2 t104 t105 t111 x66_26 = some r) ∧ Aside0 (kq ≤ kj8) ∧ Aside0 (Kd.S (Kd.slice 3 (Kd.int .i64)) 22 wc w.heap.size (fun k_ => some k_ ≠ (v113 : Value).ownBlock ∧ k_ < sz2 ∧ sz1 ≤ k_) v106 t104) ∧ Aside0 (Kd.S (Kd.slice 3 (Kd.int .i64)) 22 wc w.heap.size (fun k_ => some k_ ≠ (v106 : Value).ownBlock ∧ sz2 ≤ k_) v113 t111) ∧ Aside0 (Below w.heap.size w wc))
    case first =>
     have H := HC27.out
     clear HC27
     by_cases c31 : t120 < 0
     ·
      rw [if_pos c31] at H
      have c31b0 : decide (t120 < 0) = true := decide_eq_true c31
      clear c31
      (first | rw [c31b0] | (simp only [i64_w, i32_w]; rw [c31b0]) | skip)
      have H' := Aside0.mk H
      clear H
      go_wp2
      go_meet
      case rel => exact ⟨_, (true), (by first | rfl | (simp; done) | (simp [*]; done)), H', ⟨by have := HJ8.out; first | omega | exact Nat.le_refl _⟩, ⟨by (with_reducible repeat (first | apply Kd.S_alloc | apply Kd.S_drewN | apply Kd.S_drew)); exact Kd.S_mono HO_7.out (fun _ hk => ⟨hk.2.1, ⟨hk.2.2.2.1, hk.2.2.2.2⟩⟩)⟩, ⟨by (with_reducible repeat (first | apply Kd.S_alloc | apply Kd.S_drewN | apply Kd.S_drew)); exact Kd.S_mono HO_10.out (fun _ hk => ⟨hk.1, hk.2.2.2⟩)⟩, ⟨pT HB.out⟩⟩
     rw [if_neg c31] at H
     have c31b0 : decide (t120 < 0) = false := decide_eq_false c31
     clear c31
     (first | rw [c31b0] | (simp only [i64_w, i32_w]; rw [c31b0]) | skip)
     replace H := Option.bind_eq_some_iff.mp H
     obtain ⟨t122, A320, H⟩ := H
     replace H : (if t122 = true then (laws_FnExactRegionParts.j1 kj8 a0 a1 l2 t104 t105 t111 (t112 != t105)) else (laws_FnExactRegionParts.j1 kj8 a0 a1 l2 t104 t105 t111 true)) = some r := H
     have A32 := Aside0.mk A320
     clear A320
     by_cases c33 : t122 = true
     ·
      subst c33
      have H1 : (laws_FnExactRegionParts.j1 kj8 a0 a1 l2 t104 t105 t111 (t112 != t105)) = some r := by rw [if_pos rfl] at H; exact H
      clear H
      have H := H1
      clear H1
      have H' := Aside0.mk H
      clear H
      obtain ⟨Ao34, co34, eo34⟩ := Kd.S_slice HO_10.out
      subst eo34
      obtain ⟨Ao35, co35, eo35⟩ := Kd.S_slice HO_7.out
      subst eo35
      go_wp2_with (first | (go_at_call 8; (with_reducible refine (laws_eqIntSS.calls kj8 _ _ t111 _ _ t104 true _ ?side1 ?side2 ?side3 ?side4 A32.out).mono ?_); (case side1 => exact pC (Kd.S_reads' HO_10.out).2.2); (case side2 => exact (Kd.S_reads' HO_10.out).2.1); (case side3 => exact pC (Kd.S_reads' HO_7.out).2.2); (case side4 => exact (Kd.S_reads' HO_7.out).2.1); rintro e w' ⟨rfl, ⟨nd, rfl⟩⟩))
      go_meet
      case rel => exact ⟨_, ((t112 != t105)), (by first | rfl | (simp; done) | (simp [*]; done)), H', ⟨by have := HJ8.out; first | omega | exact Nat.le_refl _⟩, ⟨by (with_reducible repeat (first | apply Kd.S_alloc | apply Kd.S_drewN | apply Kd.S_drew)); exact Kd.S_mono HO_7.out (fun _ hk => ⟨hk.2.1, ⟨hk.2.2.2.1, hk.2.2.2.2⟩⟩)⟩, ⟨by (with_reducible repeat (first | apply Kd.S_alloc | apply Kd.S_drewN | apply Kd.S_drew)); exact Kd.S_mono HO_10.out (fun _ hk => ⟨hk.1, hk.2.2.2⟩)⟩, ⟨pT HB.out⟩⟩
     replace c33 := Bool.eq_false_iff.mpr c33
     subst c33
     have H1 : (laws_FnExactRegionParts.j1 kj8 a0 a1 l2 t104 t105 t111 true) = some r := by rw [if_neg (show ¬ (false = true) by decide)] at H; exact H
     clear H
     have H := H1
     clear H1
     have H' := Aside0.mk H
     clear H
     obtain ⟨Ao36, co36, eo36⟩ := Kd.S_slice HO_10.out
     subst eo36
     obtain ⟨Ao37, co37, eo37⟩ := Kd.S_slice HO_7.out
     subst eo37
     go_wp2_with (first | (go_at_call 8; (with_reducible refine (laws_eqIntSS.calls kj8 _ _ t111 _ _ t104 false _ ?side1 ?side2 ?side3 ?side4 A32.out).mono ?_); (case side1 => exact pC (Kd.S_reads' HO_10.out).2.2); (case side2 => exact (Kd.S_reads' HO_10.out).2.1); (case side3 => exact pC (Kd.S_reads' HO_7.out).2.2); (case side4 => exact (Kd.S_reads' HO_7.out).2.1); rintro e w' ⟨rfl, ⟨nd, rfl⟩⟩))
     go_meet
     case rel => exact ⟨_, (true), (by first | rfl | (simp; done) | (simp [*]; done)), H', ⟨by have := HJ8.out; first | omega | exact Nat.le_refl _⟩, ⟨by (with_reducible repeat (first | apply Kd.S_alloc | apply Kd.S_drewN | apply Kd.S_drew)); exact Kd.S_mono HO_7.out (fun _ hk => ⟨hk.2.1, ⟨hk.2.2.2.1, hk.2.2.2.2⟩⟩)⟩, ⟨by (with_reducible repeat (first | apply Kd.S_alloc | apply Kd.S_drewN | apply Kd.S_drew)); exact Kd.S_mono HO_10.out (fun _ hk => ⟨hk.1, hk.2.2.2⟩)⟩, ⟨pT HB.out⟩⟩
    case rest =>
     clear HC27
     try clear c1
     try clear c2
     try clear p2
     try clear c3
     try clear c4
     try clear c4b0
     try clear c4b1
     try clear c5
     try clear c6
     try clear c7
     try clear c8
     try clear c9
     try clear c10
     try clear c17
     try clear c22
     try clear c25
     try clear c31
     try clear c31b0
     try clear c33
     try clear p2
     obtain ⟨kq, x66_26, rfl, HA, HJ26, HO_7, HO_10, HB⟩ := hcut
     cases kq with
     | zero => exact absurd HA.out (by simp [laws_FnExactRegionParts.j1])
     | succ kj26 =>
      have H := HA.out
      clear HA
      simp only [laws_FnExactRegionParts.j1] at H
      by_cases c38 : x66_26 = true
      ·
       subst c38
       have H1 : (some false) = some r := by rw [if_pos rfl] at H; exact H
       clear H
       have H := H1
       clear H1
       obtain rfl := Option.some.inj H
       go_wp2
       go_ret
       exact ⟨er, pT HB.out⟩
      replace c38 := Bool.eq_false_iff.mpr c38
      subst c38
      have H1 : ((laws_markIntSS.f kj26 t111 1).bind fun bt123 => ((laws_heldIntSS.f kj26 bt123.2 1).bind fun t125 => (if t125 < 0 then (some false) else (if t125 = bt123.1 then ((laws_toIntS.f kj26 l2).bind fun t126 => ((impl_RegionParts.f kj26 a0 a1 t126).bind fun bt129 => ((laws_eqIntSS.f kj26 bt129.1 t104).bind fun t133 => (if t133 = true then (laws_FnExactRegionParts.j2 kj26 bt123.2 bt123.1 (bt129.2 != t105)) else (laws_FnExactRegionParts.j2 kj26 bt123.2 bt123.1 true))))) else (some false))))) = some r := by rw [if_neg (show ¬ (false = true) by decide)] at H; exact H
      clear H
      have H := H1
      clear H1
      replace H := Option.bind_eq_some_iff.mp H
      obtain ⟨⟨t123, t124⟩, A390, H⟩ := H
      replace H : ((laws_heldIntSS.f kj26 t124 1).bind fun t125 => (if t125 < 0 then (some false) else (if t125 = t123 then ((laws_toIntS.f kj26 l2).bind fun t126 => ((impl_RegionParts.f kj26 a0 a1 t126).bind fun bt129 => ((laws_eqIntSS.f kj26 bt129.1 t104).bind fun t133 => (if t133 = true then (laws_FnExactRegionParts.j2 kj26 t124 t123 (bt129.2 != t105)) else (laws_FnExactRegionParts.j2 kj26 t124 t123 true))))) else (some false)))) = some r := H
      have A39 := Aside0.mk A390
      clear A390
      replace H := Option.bind_eq_some_iff.mp H
      obtain ⟨t125, A400, H⟩ := H
      replace H : (if t125 < 0 then (some false) else (if t125 = t123 then ((laws_toIntS.f kj26 l2).bind fun t126 => ((impl_RegionParts.f kj26 a0 a1 t126).bind fun bt129 => ((laws_eqIntSS.f kj26 bt129.1 t104).bind fun t133 => (if t133 = true then (laws_FnExactRegionParts.j2 kj26 t124 t123 (bt129.2 != t105)) else (laws_FnExactRegionParts.j2 kj26 t124 t123 true))))) else (some false))) = some r := H
      have A40 := Aside0.mk A400
      clear A400
      by_cases c41 : t125 < 0
      ·
       rw [if_pos c41] at H
       have c41b0 : decide (t125 < 0) = true := decide_eq_true c41
       clear c41
       obtain rfl := Option.some.inj H
       obtain ⟨Ao42, co42, eo42⟩ := Kd.S_slice HO_10.out
       subst eo42
       go_wp2_with (first | ((with_reducible refine gate_callee (f := 11) rfl ?_); refine gl (some 69) Try.func11 #[.slice Ao42 t111.length co42, .int .i64 1] ?_; (with_reducible refine (laws_markIntSS.calls kj26 (fun k_ => ((some k_ ≠ (v106 : Value).ownBlock ∧ sz2 ≤ k_) ∧ w.heap.size ≤ k_)) (.slice Ao42 t111.length co42) t111 1 t123 t124 w _ ?side1 ?side2 A39.out).mono ?_); (case side1 => exact pT HB.out); (case side2 => exact Kd.S_mono (Kd.S_bound (HO_10.out)) (fun k_ hk_ => ⟨hk_.1, hk_.2.1⟩)); rintro e w43 ⟨rfl, hy0, hb, hkp⟩; refine ⟨_, rfl, ?_⟩; have n0_ := aK (Kd.S_mono (ok' := fun k_ => some k_ ≠ (.slice Ao42 t111.length co42 : Value).ownBlock ∧ k_ < sz2 ∧ sz1 ≤ k_) (Kd.S_keptB ((Kd.S_mono (ok' := fun k_ => (some k_ ≠ (.slice Ao42 t111.length co42 : Value).ownBlock ∧ (k_ < sz2 ∧ sz1 ≤ k_)) ∧ ¬ ((some k_ ≠ (v106 : Value).ownBlock ∧ sz2 ≤ k_) ∧ w.heap.size ≤ k_)) HO_7.out (fun k_ hk => ⟨hk, fun hs_ => Nat.lt_irrefl _ (Nat.lt_of_lt_of_le (hk.2.1) (hs_.1.2))⟩))) hkp (fun k_ hk_ hs_ => (hk_.2) hs_)) (fun k_ hk_ => ⟨hk_.1.1.1, hk_.1.1.2.1, hk_.1.1.2.2⟩)); have n1_ := aK (Kd.S_mono (ok' := fun k_ => some k_ ≠ (v106 : Value).ownBlock) hy0 (fun k_ hk_ => Or.elim hk_ (fun h_ => h_.1.1) (fun h_ => (fun e_ => Nat.not_le.2 (Kd.S_lt HO_7.out k_ e_.symm) h_)))); have n2_ := aK (hb); clear HO_7 HO_10 HB; have HO_7 := n0_; have HO_10 := n1_; have HB := n2_; clear n0_ n1_ n2_; (try clear hb); (try clear hkp); (try clear hy0)) | ((with_reducible refine gate_callee (f := 12) rfl ?_); refine goesL_ (some 72) rfl rfl Try.func12 (by kernel_rfl) rfl #[.slice Ao42 t124.length co42, .int .i64 1] rfl (by (try simp only [List.map_toArray, List.map_cons, List.map_nil]); first | done | (rw [show t124.length = t111.length from (Kd.S_reads' HO_10.out).1.symm] <;> rfl) | rfl | (simp only [List.length_drop, List.length_take]; rfl)) ?_; (with_reducible refine (laws_heldIntSS.calls kj26 _ _ t124 1 t125 _ ?side1 ?side2 A40.out).mono ?_); (case side1 => exact pC (Kd.S_reads' HO_10.out).2.2); (case side2 => rw [show t124.length = t111.length from (Kd.S_reads' HO_10.out).1.symm]; exact (Kd.S_reads' HO_10.out).2.1); rintro e w' ⟨rfl, ⟨nd, rfl⟩⟩; refine ⟨_, rfl, ?_⟩))
       go_ret
       exact ⟨er, pT HB.out⟩
      rw [if_neg c41] at H
      have c41b0 : decide (t125 < 0) = false := decide_eq_false c41
      clear c41
      by_cases c44 : t125 = t123
      ·
       rw [if_pos c44] at H
       have c44b0 : (t125 == t123) = true := beq_iff_eq.mpr c44
       have c44b1 : (t125 != t123) = false := bne_eq_false_iff_eq.mpr c44
       clear c44
       replace H := Option.bind_eq_some_iff.mp H
       obtain ⟨t126, A450, H⟩ := H
       replace H : ((impl_RegionParts.f kj26 a0 a1 t126).bind fun bt129 => ((laws_eqIntSS.f kj26 bt129.1 t104).bind fun t133 => (if t133 = true then (laws_FnExactRegionParts.j2 kj26 t124 t123 (bt129.2 != t105)) else (laws_FnExactRegionParts.j2 kj26 t124 t123 true)))) = some r := H
       have A45 := Aside0.mk A450
       clear A450
       replace H := Option.bind_eq_some_iff.mp H
       obtain ⟨⟨t129, t130⟩, A460, H⟩ := H
       replace H : ((laws_eqIntSS.f kj26 t129 t104).bind fun t133 => (if t133 = true then (laws_FnExactRegionParts.j2 kj26 t124 t123 (t130 != t105)) else (laws_FnExactRegionParts.j2 kj26 t124 t123 true))) = some r := H
       have A46 := Aside0.mk A460
       clear A460
       have HC47 := Aside0.mk H
       clear H
       obtain ⟨Ao48, co48, eo48⟩ := Kd.S_slice HO_10.out
       subst eo48
       go_upto_region 23 with (first | ((with_reducible refine gate_callee (f := 11) rfl ?_); refine gl (some 69) Try.func11 #[.slice Ao48 t111.length co48, .int .i64 1] ?_; (with_reducible refine (laws_markIntSS.calls kj26 (fun k_ => ((some k_ ≠ (v106 : Value).ownBlock ∧ sz2 ≤ k_) ∧ w.heap.size ≤ k_)) (.slice Ao48 t111.length co48) t111 1 t123 t124 w _ ?side1 ?side2 A39.out).mono ?_); (case side1 => exact pT HB.out); (case side2 => exact Kd.S_mono (Kd.S_bound (HO_10.out)) (fun k_ hk_ => ⟨hk_.1, hk_.2.1⟩)); rintro e w49 ⟨rfl, hy0, hb, hkp⟩; refine ⟨_, rfl, ?_⟩; have n0_ := aK (Kd.S_mono (ok' := fun k_ => some k_ ≠ (.slice Ao48 t111.length co48 : Value).ownBlock ∧ k_ < sz2 ∧ sz1 ≤ k_) (Kd.S_keptB ((Kd.S_mono (ok' := fun k_ => (some k_ ≠ (.slice Ao48 t111.length co48 : Value).ownBlock ∧ (k_ < sz2 ∧ sz1 ≤ k_)) ∧ ¬ ((some k_ ≠ (v106 : Value).ownBlock ∧ sz2 ≤ k_) ∧ w.heap.size ≤ k_)) HO_7.out (fun k_ hk => ⟨hk, fun hs_ => Nat.lt_irrefl _ (Nat.lt_of_lt_of_le (hk.2.1) (hs_.1.2))⟩))) hkp (fun k_ hk_ hs_ => (hk_.2) hs_)) (fun k_ hk_ => ⟨hk_.1.1.1, hk_.1.1.2.1, hk_.1.1.2.2⟩)); have n1_ := aK (Kd.S_mono (ok' := fun k_ => some k_ ≠ (v106 : Value).ownBlock) hy0 (fun k_ hk_ => Or.elim hk_ (fun h_ => h_.1.1) (fun h_ => (fun e_ => Nat.not_le.2 (Kd.S_lt HO_7.out k_ e_.symm) h_)))); have n2_ := aK (hb); clear HO_7 HO_10 HB; have HO_7 := n0_; have HO_10 := n1_; have HB := n2_; clear n0_ n1_ n2_; (try clear hb); (try clear hkp); (try clear hy0)) | ((with_reducible refine gate_callee (f := 12) rfl ?_); refine goesL_ (some 72) rfl rfl Try.func12 (by kernel_rfl) rfl #[.slice Ao48 t124.length co48, .int .i64 1] rfl (by (try simp only [List.map_toArray, List.map_cons, List.map_nil]); first | done | (rw [show t124.length = t111.length from (Kd.S_reads' HO_10.out).1.symm] <;> rfl) | rfl | (simp only [List.length_drop, List.length_take]; rfl)) ?_; (with_reducible refine (laws_heldIntSS.calls kj26 _ _ t124 1 t125 _ ?side1 ?side2 A40.out).mono ?_); (case side1 => exact pC (Kd.S_reads' HO_10.out).2.2); (case side2 => rw [show t124.length = t111.length from (Kd.S_reads' HO_10.out).1.symm]; exact (Kd.S_reads' HO_10.out).2.1); rintro e w' ⟨rfl, ⟨nd, rfl⟩⟩; refine ⟨_, rfl, ?_⟩) | ((with_reducible refine gate_callee (f := 6) rfl ?_); refine gl (some 82) Try.func6 #[.slice A2 l2.length c2] ?_; (with_reducible refine (laws_toIntS.calls kj26 _ _ l2 t126 _ ?side1 ?side2 A45.out).mono ?_); (case side1 => exact pC (Kd.C_below HR2.out (pS HB.out))); (case side2 => exact HC2.out); rintro e w50 ⟨v127, rfl, ho0, hb⟩; refine ⟨_, rfl, ?_⟩; have n0_ := aK (Kd.S_elder' (by (with_reducible repeat (first | apply Kd.S_alloc | apply Kd.S_drewN | apply Kd.S_drew)); exact HO_7.out) (Kd.R_base ho0) hb); have n1_ := aK (Kd.S_elder' (by (with_reducible repeat (first | apply Kd.S_alloc | apply Kd.S_drewN | apply Kd.S_drew)); exact HO_10.out) (Kd.R_base ho0) hb); have HO128 := aK (Kd.R_lower ho0 (below_size (pS HB.out))); replace HB := bS HB hb; clear HO_7 HO_10; have HO_7 := n0_; have HO_10 := n1_; clear n0_ n1_; (try clear hb); (try clear hb2); (try clear hk); (try clear hi); (try clear ho0); obtain ⟨Ao51, co51, eo51⟩ := Kd.R_slice HO128.out; subst eo51) | ((with_reducible refine gate_callee (f := 7) rfl ?_); refine gl (some 83) Try.func7 #[.int .i64 a0, .int .i64 a1, .slice Ao51 t126.length co51] ?_; (with_reducible refine (impl_RegionParts.calls kj26 a0 a1 _ _ t126 t129 t130 _ ?side1 ?side2 A46.out).mono ?_); (case side1 => exact pC (Kd.R_reads' HO128.out).2.2); (case side2 => exact (Kd.R_reads' HO128.out).2.1); rintro e w52 ⟨v131, rfl, ho0, hb⟩; refine ⟨_, rfl, ?_⟩; obtain ⟨sz3, hsz3⟩ := mpM hb; have n0_ := aK (mpE2 (by (with_reducible repeat (first | apply Kd.S_alloc | apply Kd.S_drewN | apply Kd.S_drew)); exact HO_7.out) hb hsz3 (Kd.S_base ho0)); have n1_ := aK (mpE2 (by (with_reducible repeat (first | apply Kd.S_alloc | apply Kd.S_drewN | apply Kd.S_drew)); exact HO_10.out) hb hsz3 (Kd.S_base ho0)); have n2_ := aK (Kd.R_below (pR HO128.out) hb); have HO132 := aK (Kd.S_lower (Kd.S_new' (Kd.S_new' (Kd.S_new' (mpN ho0 hsz3) (Kd.S_lt (by (with_reducible repeat (first | apply Kd.S_alloc | apply Kd.S_drewN | apply Kd.S_drew)); exact HO_7.out))) (Kd.S_lt (by (with_reducible repeat (first | apply Kd.S_alloc | apply Kd.S_drewN | apply Kd.S_drew)); exact HO_10.out))) (Kd.R_lt (pR HO128.out))) (below_size (pS HB.out))); replace HB := bS HB hb; clear HO_7 HO_10 HO128; have HO_7 := n0_; have HO_10 := n1_; have HO128 := n2_; clear n0_ n1_ n2_; (try clear hb); (try clear hb2); (try clear hk); (try clear hi); (try clear ho0)))
       (try simp only [Act.put, List.setIfInBounds_toArray, List.set_cons_zero, List.set_cons_succ])
       go_cut [94] (fun v94 wc => ∃ (kq : Nat) (x94_46 : Bool), v94 = .bool x94_46 ∧ Aside0 (laws_FnExactRegionParts.j2 kq t124 t123 x94_46 = some r) ∧ Aside0 (kq ≤ kj26) ∧ Aside0 (Kd.S (Kd.slice 3 (Kd.int .i64)) 22 wc w.heap.size (fun k_ => k_ < sz3) (.slice Ao48 t111.length co48) t124) ∧ Aside0 (Below w.heap.size w wc))
       case first =>
        have H := HC47.out
        clear HC47
        replace H := Option.bind_eq_some_iff.mp H
        obtain ⟨t133, A530, H⟩ := H
        replace H : (if t133 = true then (laws_FnExactRegionParts.j2 kj26 t124 t123 (t130 != t105)) else (laws_FnExactRegionParts.j2 kj26 t124 t123 true)) = some r := H
        have A53 := Aside0.mk A530
        clear A530
        by_cases c54 : t133 = true
        ·
         subst c54
         have H1 : (laws_FnExactRegionParts.j2 kj26 t124 t123 (t130 != t105)) = some r := by rw [if_pos rfl] at H; exact H
         clear H
         have H := H1
         clear H1
         have H' := Aside0.mk H
         clear H
         obtain ⟨Ao55, co55, eo55⟩ := Kd.S_slice HO132.out
         subst eo55
         obtain ⟨Ao56, co56, eo56⟩ := Kd.S_slice HO_7.out
         subst eo56
         go_wp2_with (first | ((with_reducible refine gate_callee (f := 8) rfl ?_); refine gl (some 88) Try.func8 #[.slice Ao55 t129.length co55, .slice Ao56 t104.length co56] ?_; (with_reducible refine (laws_eqIntSS.calls kj26 _ _ t129 _ _ t104 true _ ?side1 ?side2 ?side3 ?side4 A53.out).mono ?_); (case side1 => exact pC (Kd.S_reads' HO132.out).2.2); (case side2 => exact (Kd.S_reads' HO132.out).2.1); (case side3 => exact pC (Kd.S_reads' HO_7.out).2.2); (case side4 => exact (Kd.S_reads' HO_7.out).2.1); rintro e w' ⟨rfl, ⟨nd, rfl⟩⟩; refine ⟨_, rfl, ?_⟩))
         go_meet
         case rel => exact ⟨_, ((t130 != t105)), (by first | rfl | (simp; done) | (simp [*]; done)), H', ⟨by have := HJ8.out; have := HJ26.out; first | omega | exact Nat.le_refl _⟩, ⟨by (with_reducible repeat (first | apply Kd.S_alloc | apply Kd.S_drewN | apply Kd.S_drew)); exact Kd.S_mono HO_10.out (fun _ hk => hk.1.2)⟩, ⟨pT HB.out⟩⟩
        replace c54 := Bool.eq_false_iff.mpr c54
        subst c54
        have H1 : (laws_FnExactRegionParts.j2 kj26 t124 t123 true) = some r := by rw [if_neg (show ¬ (false = true) by decide)] at H; exact H
        clear H
        have H := H1
        clear H1
        have H' := Aside0.mk H
        clear H
        obtain ⟨Ao57, co57, eo57⟩ := Kd.S_slice HO132.out
        subst eo57
        obtain ⟨Ao58, co58, eo58⟩ := Kd.S_slice HO_7.out
        subst eo58
        go_wp2_with (first | ((with_reducible refine gate_callee (f := 8) rfl ?_); refine gl (some 88) Try.func8 #[.slice Ao57 t129.length co57, .slice Ao58 t104.length co58] ?_; (with_reducible refine (laws_eqIntSS.calls kj26 _ _ t129 _ _ t104 false _ ?side1 ?side2 ?side3 ?side4 A53.out).mono ?_); (case side1 => exact pC (Kd.S_reads' HO132.out).2.2); (case side2 => exact (Kd.S_reads' HO132.out).2.1); (case side3 => exact pC (Kd.S_reads' HO_7.out).2.2); (case side4 => exact (Kd.S_reads' HO_7.out).2.1); rintro e w' ⟨rfl, ⟨nd, rfl⟩⟩; refine ⟨_, rfl, ?_⟩))
        go_meet
        case rel => exact ⟨_, (true), (by first | rfl | (simp; done) | (simp [*]; done)), H', ⟨by have := HJ8.out; have := HJ26.out; first | omega | exact Nat.le_refl _⟩, ⟨by (with_reducible repeat (first | apply Kd.S_alloc | apply Kd.S_drewN | apply Kd.S_drew)); exact Kd.S_mono HO_10.out (fun _ hk => hk.1.2)⟩, ⟨pT HB.out⟩⟩
       case rest =>
        clear HC47
        try clear c1
        try clear c2
        try clear p2
        try clear c3
        try clear c4
        try clear c4b0
        try clear c4b1
        try clear c5
        try clear c6
        try clear c7
        try clear c8
        try clear c9
        try clear c10
        try clear c11
        try clear c12
        try clear c17
        try clear c22
        try clear c25
        try clear c31
        try clear c31b0
        try clear c33
        try clear c38
        try clear c41
        try clear c41b0
        try clear c44
        try clear c44b0
        try clear c44b1
        try clear c54
        try clear p2
        obtain ⟨kq, x94_46, rfl, HA, HJ46, HO_10, HB⟩ := hcut
        have hl10_46 := (Kd.S_reads' HO_10.out).1
        rw [hl10_46] at HO_10
        (try simp only [hl10_46])
        cases kq with
        | zero => exact absurd HA.out (by simp [laws_FnExactRegionParts.j2])
        | succ kj46 =>
         have H := HA.out
         clear HA
         simp only [laws_FnExactRegionParts.j2] at H
         by_cases c59 : x94_46 = true
         ·
          subst c59
          have H1 : (some false) = some r := by rw [if_pos rfl] at H; exact H
          clear H
          have H := H1
          clear H1
          obtain rfl := Option.some.inj H
          go_wp2
          go_ret
          exact ⟨er, pT HB.out⟩
         replace c59 := Bool.eq_false_iff.mpr c59
         subst c59
         have H1 : ((laws_heldIntSS.f kj46 t124 1).bind fun t134 => (if t134 < 0 then (some false) else (if t134 = t123 then (some true) else (some false)))) = some r := by rw [if_neg (show ¬ (false = true) by decide)] at H; exact H
         clear H
         have H := H1
         clear H1
         replace H := Option.bind_eq_some_iff.mp H
         obtain ⟨t134, A600, H⟩ := H
         replace H : (if t134 < 0 then (some false) else (if t134 = t123 then (some true) else (some false))) = some r := H
         have A60 := Aside0.mk A600
         clear A600
         by_cases c61 : t134 < 0
         ·
          rw [if_pos c61] at H
          have c61b0 : decide (t134 < 0) = true := decide_eq_true c61
          clear c61
          obtain rfl := Option.some.inj H
          go_wp2_with (first | ((with_reducible refine gate_callee (f := 12) rfl ?_); refine gl (some 97) Try.func12 #[.slice Ao48 t124.length co48, .int .i64 1] ?_; (with_reducible refine (laws_heldIntSS.calls kj46 _ _ t124 1 t134 _ ?side1 ?side2 A60.out).mono ?_); (case side1 => exact pC (Kd.S_reads' HO_10.out).2.2); (case side2 => exact (Kd.S_reads' HO_10.out).2.1); rintro e w' ⟨rfl, ⟨nd, rfl⟩⟩; refine ⟨_, rfl, ?_⟩))
          go_ret
          exact ⟨er, pT HB.out⟩
         rw [if_neg c61] at H
         have c61b0 : decide (t134 < 0) = false := decide_eq_false c61
         clear c61
         by_cases c62 : t134 = t123
         ·
          rw [if_pos c62] at H
          have c62b0 : (t134 == t123) = true := beq_iff_eq.mpr c62
          have c62b1 : (t134 != t123) = false := bne_eq_false_iff_eq.mpr c62
          clear c62
          obtain rfl := Option.some.inj H
          go_wp2_with (first | ((with_reducible refine gate_callee (f := 12) rfl ?_); refine gl (some 97) Try.func12 #[.slice Ao48 t124.length co48, .int .i64 1] ?_; (with_reducible refine (laws_heldIntSS.calls kj46 _ _ t124 1 t134 _ ?side1 ?side2 A60.out).mono ?_); (case side1 => exact pC (Kd.S_reads' HO_10.out).2.2); (case side2 => exact (Kd.S_reads' HO_10.out).2.1); rintro e w' ⟨rfl, ⟨nd, rfl⟩⟩; refine ⟨_, rfl, ?_⟩))
          go_ret
          exact ⟨er, pT HB.out⟩
         rw [if_neg c62] at H
         have c62b0 : (t134 == t123) = false := beq_eq_false_iff_ne.mpr c62
         have c62b1 : (t134 != t123) = true := bne_iff_ne.mpr c62
         obtain rfl := Option.some.inj H
         go_wp2_with (first | ((with_reducible refine gate_callee (f := 12) rfl ?_); refine gl (some 97) Try.func12 #[.slice Ao48 t124.length co48, .int .i64 1] ?_; (with_reducible refine (laws_heldIntSS.calls kj46 _ _ t124 1 t134 _ ?side1 ?side2 A60.out).mono ?_); (case side1 => exact pC (Kd.S_reads' HO_10.out).2.2); (case side2 => exact (Kd.S_reads' HO_10.out).2.1); rintro e w' ⟨rfl, ⟨nd, rfl⟩⟩; refine ⟨_, rfl, ?_⟩))
         go_ret
         exact ⟨er, pT HB.out⟩
      rw [if_neg c44] at H
      have c44b0 : (t125 == t123) = false := beq_eq_false_iff_ne.mpr c44
      have c44b1 : (t125 != t123) = true := bne_iff_ne.mpr c44
      obtain rfl := Option.some.inj H
      obtain ⟨Ao63, co63, eo63⟩ := Kd.S_slice HO_10.out
      subst eo63
      go_wp2_with (first | ((with_reducible refine gate_callee (f := 11) rfl ?_); refine gl (some 69) Try.func11 #[.slice Ao63 t111.length co63, .int .i64 1] ?_; (with_reducible refine (laws_markIntSS.calls kj26 (fun k_ => ((some k_ ≠ (v106 : Value).ownBlock ∧ sz2 ≤ k_) ∧ w.heap.size ≤ k_)) (.slice Ao63 t111.length co63) t111 1 t123 t124 w _ ?side1 ?side2 A39.out).mono ?_); (case side1 => exact pT HB.out); (case side2 => exact Kd.S_mono (Kd.S_bound (HO_10.out)) (fun k_ hk_ => ⟨hk_.1, hk_.2.1⟩)); rintro e w64 ⟨rfl, hy0, hb, hkp⟩; refine ⟨_, rfl, ?_⟩; have n0_ := aK (Kd.S_mono (ok' := fun k_ => some k_ ≠ (.slice Ao63 t111.length co63 : Value).ownBlock ∧ k_ < sz2 ∧ sz1 ≤ k_) (Kd.S_keptB ((Kd.S_mono (ok' := fun k_ => (some k_ ≠ (.slice Ao63 t111.length co63 : Value).ownBlock ∧ (k_ < sz2 ∧ sz1 ≤ k_)) ∧ ¬ ((some k_ ≠ (v106 : Value).ownBlock ∧ sz2 ≤ k_) ∧ w.heap.size ≤ k_)) HO_7.out (fun k_ hk => ⟨hk, fun hs_ => Nat.lt_irrefl _ (Nat.lt_of_lt_of_le (hk.2.1) (hs_.1.2))⟩))) hkp (fun k_ hk_ hs_ => (hk_.2) hs_)) (fun k_ hk_ => ⟨hk_.1.1.1, hk_.1.1.2.1, hk_.1.1.2.2⟩)); have n1_ := aK (Kd.S_mono (ok' := fun k_ => some k_ ≠ (v106 : Value).ownBlock) hy0 (fun k_ hk_ => Or.elim hk_ (fun h_ => h_.1.1) (fun h_ => (fun e_ => Nat.not_le.2 (Kd.S_lt HO_7.out k_ e_.symm) h_)))); have n2_ := aK (hb); clear HO_7 HO_10 HB; have HO_7 := n0_; have HO_10 := n1_; have HB := n2_; clear n0_ n1_ n2_; (try clear hb); (try clear hkp); (try clear hy0)) | ((with_reducible refine gate_callee (f := 12) rfl ?_); refine goesL_ (some 72) rfl rfl Try.func12 (by kernel_rfl) rfl #[.slice Ao63 t124.length co63, .int .i64 1] rfl (by (try simp only [List.map_toArray, List.map_cons, List.map_nil]); first | done | (rw [show t124.length = t111.length from (Kd.S_reads' HO_10.out).1.symm] <;> rfl) | rfl | (simp only [List.length_drop, List.length_take]; rfl)) ?_; (with_reducible refine (laws_heldIntSS.calls kj26 _ _ t124 1 t125 _ ?side1 ?side2 A40.out).mono ?_); (case side1 => exact pC (Kd.S_reads' HO_10.out).2.2); (case side2 => rw [show t124.length = t111.length from (Kd.S_reads' HO_10.out).1.symm]; exact (Kd.S_reads' HO_10.out).2.1); rintro e w' ⟨rfl, ⟨nd, rfl⟩⟩; refine ⟨_, rfl, ?_⟩))
      go_ret
      exact ⟨er, pT HB.out⟩
   replace c25 := Bool.eq_false_iff.mpr c25
   subst c25
   have H1 : (some false) = some r := by rw [if_neg (show ¬ (false = true) by decide)] at H; exact H
   clear H
   have H := H1
   clear H1
   obtain rfl := Option.some.inj H
   go_wp2_with (first | ((with_reducible refine gate_callee (f := 6) rfl ?_); refine gl (some 48) Try.func6 #[.slice A2 l2.length c2] ?_; (with_reducible refine (laws_toIntS.calls kj8 _ _ l2 t116 _ ?side1 ?side2 A23.out).mono ?_); (case side1 => exact pC (Kd.C_below HR2.out HB.out)); (case side2 => exact HC2.out); rintro e w65 ⟨v117, rfl, ho0, hb⟩; refine ⟨_, rfl, ?_⟩; have n0_ := aK (Kd.S_elder' (by (with_reducible repeat (first | apply Kd.S_alloc | apply Kd.S_drewN | apply Kd.S_drew)); exact HO_7.out) (Kd.R_base ho0) hb); have n1_ := aK (Kd.R_elder' (pR HO_9.out) (Kd.R_base ho0) hb); have n2_ := aK (Kd.S_elder' (by (with_reducible repeat (first | apply Kd.S_alloc | apply Kd.S_drewN | apply Kd.S_drew)); exact HO_10.out) (Kd.R_base ho0) hb); have HO118 := aK (Kd.R_lower (nw1 ho0 (pR HO_9.out)) (below_size (pS HB.out))); replace HB := bS HB hb; clear HO_7 HO_9 HO_10; have HO_7 := n0_; have HO_9 := n1_; have HO_10 := n2_; clear n0_ n1_ n2_; (try clear hb); (try clear hb2); (try clear hk); (try clear hi); (try clear ho0); obtain ⟨Ao66, co66, eo66⟩ := Kd.R_slice HO118.out; subst eo66) | ((with_reducible refine gate_callee (f := 9) rfl ?_); refine gl (some 49) Try.func9 #[.slice Ao14 t108.length co14, .slice Ao66 t116.length co66] ?_; (with_reducible refine (laws_eqIntS.calls kj8 _ _ t108 _ _ t116 false _ ?side1 ?side2 ?side3 ?side4 A24.out).mono ?_); (case side1 => exact pC (Kd.R_reads' HO_9.out).2.2); (case side2 => exact (Kd.R_reads' HO_9.out).2.1); (case side3 => exact pC (Kd.R_reads' HO118.out).2.2); (case side4 => exact (Kd.R_reads' HO118.out).2.1); rintro e w' ⟨rfl, ⟨nd, rfl⟩⟩; refine ⟨_, rfl, ?_⟩))
   go_ret
   exact ⟨er, pT HB.out⟩
def laws_FnExactRegionParts.Pure : Prop := ∀ (a0 : Int) (a1 : Int) (l2 : List Int), (Lit.int .i64 a0).wf = true → (Lit.int .i64 a1).wf = true → (l2.length ≤ 9223372036854775807 ∧ ∀ z0 ∈ l2, (Lit.int .i64 z0).wf = true) → l2.length * 8 ≤ 140737488351232 → ∃ k, laws_FnExactRegionParts.f k a0 a1 l2 = some true
end Go.Proofs.Ytnpclamoabcbgaa.P
namespace Go.Proofs.Ytnpclamoabcbgaa.Open
open Go.ChangeShapes Go.WideShapes Go.RowKit Go.Deep Go.Joins Go.Proofs.YtnpclamoabcbgaaW.PrintWords
def Opens {α : Type} (P : Program) (t : TypeId) (d : Kd α) (wf : α → Prop) : Prop :=
  ∀ {H : Type} {enc : TypeId × Value → H} {W : World} {fuel : Nat} {cs : List Value} {x : DataW H × List MemPlace},
    DataW.trod enc P W 0 (fun _ => true) true fuel t cs = some x → ∃ y, d.K W y cs ∧ wf y
theorem opens_int {P : Program} {t : TypeId} {k : IntKind} (h : P.underlying t = some (.int k)) : Opens P t (Kd.int k) (fun n => (Lit.int k n).wf = true) := by
  intro H enc W fuel cs x hx
  obtain ⟨n, rfl, _, hw⟩ := DataW.trod_int h hx
  exact ⟨n, rfl, hw⟩
theorem list_of {α : Type} {p : Nat → α → Prop} : ∀ (n : Nat), (∀ i, i < n → ∃ y, p i y) → ∃ ys : List α, ys.length = n ∧ ∀ (i : Nat) (y : α), ys[i]? = some y → p i y
  | 0, _ => ⟨[], rfl, fun i y h => by simp at h⟩
  | n + 1, h => by
    obtain ⟨ys, hl, hy⟩ := list_of n (fun i hi => h i (by omega))
    obtain ⟨y, hp⟩ := h n (by omega)
    refine ⟨ys ++ [y], by simp [hl], fun i z hz => ?_⟩
    by_cases hi : i < n
    · rw [List.getElem?_append_left (by omega)] at hz
      exact hy i z hz
    · have hi2 : i = n := by
        have := (List.getElem?_eq_some_iff.1 hz).1
        simp [hl] at this
        omega
      subst hi2
      rw [List.getElem?_append_right (by omega), hl] at hz
      simp at hz
      subst hz
      exact hp
theorem opens_slice {α : Type} {P : Program} {t e : TypeId} {d : Kd α} {wf : α → Prop} (h : P.underlying t = some (.slice e)) (hc : P.cellsOf e = d.sz) (he : Opens P e d wf) :
    Opens P t (Kd.slice e d) (fun l => l.length ≤ 9223372036854775807 ∧ ∀ x ∈ l, wf x) := by
  intro H enc W fuel cs x hx
  rcases open_slice h hx with ⟨rfl, _⟩ | ⟨a, len, cap, m, n, D, Pl, rfl, _, hl, hm, hmm, _, hx⟩
  · exact ⟨[], ⟨none, 0, rfl, by simp, Kd.C_nil d W⟩, by simp, by simp⟩
  · obtain ⟨ys, hlen, hy⟩ := list_of (p := fun i y => ∃ cs', W.cells? 0 (a.add (i * P.cellsOf e)) (P.cellsOf e) = some cs' ∧ d.K W y cs' ∧ wf y) len (fun i hi => by
      obtain ⟨cs', h1, h2⟩ := hx i (by rw [hmm]; split <;> omega)
      obtain ⟨y, hK, hw⟩ := he h2
      exact ⟨y, cs', h1, hK, hw⟩)
    have hm' : cap ≤ 9223372036854775807 := by simpa [maxLen] using hm
    refine ⟨ys, ⟨some a, cap, by rw [hlen], by omega, ⟨rfl, by omega, fun _ => ⟨a, rfl, fun j y hj => ?_⟩⟩⟩, by omega, fun y hmem => ?_⟩
    · obtain ⟨cs', h1, hK, _⟩ := hy j y hj
      obtain ⟨_, hl2, hcell⟩ := World.cells?_some h1
      refine ⟨cs', d.K_len hK, hK, fun i u hu => ?_⟩
      have hi : i < P.cellsOf e := by
        have := (List.getElem?_eq_some_iff.1 hu).1
        omega
      rw [← hc, ← Go.Deep.add_add, hcell i hi]
      exact hu
    · obtain ⟨j, hj⟩ := List.getElem?_of_mem hmem
      obtain ⟨_, _, _, hw⟩ := hy j y hj
      exact hw
theorem sized_any {H : Type} {enc : TypeId × Value → H} {P : Program} {W : World} {base : Nat} {spare : Nat → Bool} {held : Bool} {t e : TypeId} {a : Option Addr} {len cap : Nat} {d : DataW H} {ps : List MemPlace} {ts : List TypeId} {ds : List (DataW H)} {j : Nat}
    (hsz : (DataW.weightsEach P ts ds).all (· ≤ reachBytes) = true) (ht : ts[j]? = some t) (hd : ds[j]? = some d) (hu : P.underlying t = some (.slice e)) {B : Nat} (hB : P.bytesOf e = B)
    (h : DataW.Trod enc P W base spare held t (.slice a len cap) d ps) : len * B ≤ 140737488351232 := by
  obtain ⟨fuel, hf⟩ := h
  rcases open_slice hu hf with ⟨hcs, _⟩ | ⟨x, l, c, m, n, D, Pl, hcs, _, hl, _, _, hx, _⟩
  · simp [Value.cells] at hcs
    obtain ⟨rfl, rfl, rfl⟩ := hcs
    simp
  · simp [Value.cells] at hcs
    obtain ⟨rfl, rfl, rfl⟩ := hcs
    obtain ⟨hx, _⟩ := Prod.mk.inj hx
    subst hx
    have z := sized_slice hsz ht hd hu
    rw [hB] at z
    refine Nat.le_trans (Nat.mul_le_mul_right _ ?_) z
    simp
theorem slice_at {α : Type} {P : Program} {W : World} {t e : TypeId} {d : Kd α} {wf : List α → Prop} {H : Type} {enc : TypeId × Value → H} {a : Option Addr} {len cap : Nat} {dd : DataW H} {ps : List MemPlace} (ho : Opens P t (Kd.slice e d) wf)
    (h : DataW.Trod enc P W 0 (fun _ => true) true t (.slice a len cap) dd ps) : ∃ l : List α, len = l.length ∧ l.length ≤ cap ∧ d.C W a l.length l ∧ wf l := by
  obtain ⟨fuel, hf⟩ := h
  obtain ⟨l, ⟨A, c, hcs, hl, hC⟩, hw⟩ := ho hf
  simp [Value.cells] at hcs
  obtain ⟨rfl, rfl, rfl⟩ := hcs
  exact ⟨l, rfl, hl, hC, hw⟩
section
variable {P : Program} {t : TypeId} {W : World} {H : Type} {enc : TypeId × Value → H} {r : Reach} {b0 : Nat} {v : Value} {d : DataW H} {p : List MemPlace}
end
end Go.Proofs.Ytnpclamoabcbgaa.Open
namespace Go.Proofs.Ytnpclamoabcbgaa.P
open Go.RowKit Go.Proofs.YtnpclamoabcbgaaW.PrintWords Go.Proofs.YtnpclamoabcbgaaW.PrintLast Go.Proofs.YtnpclamoabcbgaaW.PrintMore
attribute [local go_sem] max2_int min2_int max_two min_two max_three min_three max_four min_four
set_option linter.unusedVariables false
set_option linter.unusedSimpArgs false
open Go.Proofs.Ytnpclamoabcbgaa.Open
end Go.Proofs.Ytnpclamoabcbgaa.P
namespace Go.Proofs.Ytnpclamoabcbgaa.Pure
set_option linter.unusedVariables false
set_option linter.unusedSimpArgs false
open Go.RowKit Go.Proofs.YtnpclamoabcbgaaW.PrintWords Go.Proofs.YtnpclamoabcbgaaW.PrintLast Go.Proofs.YtnpclamoabcbgaaW.PrintMore
theorem w64 {x : Int} (h0 : -9223372036854775808 ≤ x) (h1 : x ≤ 9223372036854775807) : wrap64 x = x := by
  unfold wrap64
  omega
theorem w64n {n : Nat} (h : n ≤ 9223372036854775807) : wrap64 (n : Int) = (n : Int) := w64 (by omega) (by omega)
theorem rd_nat (xs : List Int) (i : Nat) : rd xs (i : Int) = xs.getD i 0 := by simp [rd]
section
variable {α β : Type} {f g : Nat → Option α} {r : α}
theorem ev_some (r : α) : Ev (fun _ => some r) r := ⟨0, fun _ _ => rfl⟩
theorem ev_ifp {c : Prop} [Decidable c] (h : c) (k : Ev f r) : Ev (fun n => if c then f n else g n) r := Ev.congr (fun _ => if_pos h) k
theorem ev_ifn {c : Prop} [Decidable c] (h : ¬ c) (k : Ev g r) : Ev (fun n => if c then f n else g n) r := Ev.congr (fun _ => if_neg h) k
theorem ev_bind {F : Nat → α → Option β} {q : β} (h : Ev g r) (k : Ev (fun n => F n r) q) : Ev (fun n => (g n).bind (fun x => F n x)) q := by
  obtain ⟨K1, h1⟩ := h
  obtain ⟨K2, h2⟩ := k
  exact ⟨K1 + K2, fun n hn => by show (g n).bind (fun x => F n x) = some q; rw [h1 n (by omega)]; exact h2 n (by omega)⟩
theorem ev_const {a : Option α} (h : a = some r) : Ev (fun _ => a) r := ⟨0, fun _ _ => h⟩
theorem ev_step (h : ∀ k, g (k + 1) = f k) (k : Ev f r) : Ev g r := by
  obtain ⟨K, h1⟩ := k
  refine ⟨K + 1, fun n hn => ?_⟩
  obtain ⟨m, rfl⟩ : ∃ m, n = m + 1 := ⟨n - 1, by omega⟩
  rw [h m]
  exact h1 m (by omega)
end
def iter {σ : Type} (g : Nat → σ → σ) : Nat → Nat → σ → σ
  | _, 0, s => s
  | i, d + 1, s => iter g (i + 1) d (g i s)
theorem loop_ev {σ ρ : Type} (F : Nat → σ → Nat → Option ρ) (n : Nat) (g : Nat → σ → σ) (fin : σ → ρ) (I : Nat → σ → Prop)
    (hs : ∀ i s r, I i s → i < n → Ev (fun k => F k (g i s) (i + 1)) r → Ev (fun k => F k s i) r) (hI : ∀ i s, I i s → i < n → I (i + 1) (g i s))
    (he : ∀ s, I n s → Ev (fun k => F k s n) (fin s)) : ∀ i s, i ≤ n → I i s → Ev (fun k => F k s i) (fin (iter g i (n - i) s)) := by
  have key : ∀ d i s, n - i = d → i ≤ n → I i s → Ev (fun k => F k s i) (fin (iter g i d s)) := by
    intro d
    induction d with
    | zero =>
      intro i s h0 h1 h2
      obtain rfl : i = n := by omega
      exact he s h2
    | succ d ih =>
      intro i s h0 h1 h2
      exact hs i s _ h2 (by omega) (ih (i + 1) (g i s) (by omega) (by omega) (hI i s h2 (by omega)))
  exact fun i s h1 h2 => key (n - i) i s rfl h1 h2
theorem iter_inv {σ : Type} (g : Nat → σ → σ) (I : Nat → σ → Prop) (n : Nat) (hI : ∀ i s, I i s → i < n → I (i + 1) (g i s)) : ∀ d i s, i + d = n → I i s → I n (iter g i d s) := by
  intro d
  induction d with
  | zero => intro i s h0 h1; obtain rfl : i = n := by omega
            exact h1
  | succ d ih => intro i s h0 h1; exact ih (i + 1) _ (by omega) (hI i s h1 (by omega))
theorem iter_foldl {σ α : Type} (f : σ → α → σ) (z : α) (xs : List α) : ∀ d i s, i + d = xs.length → iter (fun i s => f s (xs.getD i z)) i d s = (xs.drop i).foldl f s := by
  intro d
  induction d with
  | zero =>
    intro i s h
    rw [List.drop_of_length_le (by omega)]
    rfl
  | succ d ih =>
    intro i s h
    have hlt : i < xs.length := by omega
    rw [List.drop_eq_getElem_cons hlt]
    show iter _ (i + 1) d _ = _
    rw [ih (i + 1) _ (by omega), List.foldl_cons]
    simp [List.getD, List.getElem?_eq_getElem hlt]
def rall (p : Nat → Bool) : Nat → Nat → Bool
  | _, 0 => true
  | i, d + 1 => p i && rall p (i + 1) d
theorem rall_iff (p : Nat → Bool) : ∀ d i, rall p i d = true ↔ ∀ j, i ≤ j → j < i + d → p j = true
  | 0, i => ⟨fun _ j h1 h2 => by omega, fun _ => rfl⟩
  | d + 1, i => by
    show (p i && rall p (i + 1) d) = true ↔ _
    rw [Bool.and_eq_true, rall_iff p d (i + 1)]
    constructor
    · rintro ⟨h0, h1⟩ j h2 h3
      by_cases e : j = i
      · rw [e]; exact h0
      · exact h1 j (by omega) (by omega)
    · intro h
      exact ⟨h i (Nat.le_refl _) (by omega), fun j h2 h3 => h j (by omega) (by omega)⟩
theorem all_ev {ρ : Type} (F : Nat → Nat → Option ρ) (n : Nat) (p : Nat → Bool) (no yes : ρ) (hs : ∀ i r, i < n → p i = true → Ev (fun k => F k (i + 1)) r → Ev (fun k => F k i) r)
    (hn : ∀ i, i < n → p i = false → Ev (fun k => F k i) no) (he : Ev (fun k => F k n) yes) :
    ∀ i, i ≤ n → Ev (fun k => F k i) (if rall p i (n - i) = true then yes else no) := by
  have key : ∀ d i, n - i = d → i ≤ n → Ev (fun k => F k i) (if rall p i d = true then yes else no) := by
    intro d
    induction d with
    | zero =>
      intro i h0 h1
      obtain rfl : i = n := by omega
      rw [show rall p i 0 = true from rfl, if_pos rfl]
      exact he
    | succ d ih =>
      intro i h0 h1
      have h := ih (i + 1) (by omega) (by omega)
      have e : rall p i (d + 1) = (p i && rall p (i + 1) d) := rfl
      cases hp : p i with
      | true =>
        rw [e, hp, Bool.true_and]
        exact hs i _ (by omega) hp h
      | false =>
        rw [e, hp, Bool.false_and, if_neg (by simp)]
        exact hn i (by omega) hp
  exact fun i h1 => key (n - i) i rfl h1
theorem allb_ev (F : Nat → Nat → Option Bool) (n : Nat) (p : Nat → Bool) (hs : ∀ i r, i < n → p i = true → Ev (fun k => F k (i + 1)) r → Ev (fun k => F k i) r)
    (hn : ∀ i, i < n → p i = false → Ev (fun k => F k i) false) (he : Ev (fun k => F k n) true) : Ev (fun k => F k 0) (rall p 0 n) := by
  have h := all_ev F n p false true hs hn he 0 (Nat.zero_le _)
  rw [Nat.sub_zero] at h
  cases e : rall p 0 n <;> simpa [e] using h
theorem getD_eq_get {α : Type} {xs : List α} {i : Nat} (z : α) (h : i < xs.length) : xs.getD i z = xs[i] := by simp [List.getD, List.getElem?_eq_getElem h]
theorem rall_list {α : Type} (xs : List α) (z : α) (p : α → Bool) : rall (fun j => p (xs.getD j z)) 0 xs.length = xs.all p := by
  rw [Bool.eq_iff_iff, rall_iff, List.all_eq_true]
  constructor
  · intro h x hx
    obtain ⟨i, hi, rfl⟩ := List.getElem_of_mem hx
    rw [← getD_eq_get z hi]
    exact h i (Nat.zero_le _) (by omega)
  · intro h j _ hj
    rw [getD_eq_get z (by omega)]
    exact h _ (List.getElem_mem (by omega))
theorem eq_index {α : Type} {xs ys : List α} (z : α) (h : xs.length = ys.length) (hh : ∀ j, j < xs.length → xs.getD j z = ys.getD j z) : xs = ys := by
  refine List.ext_getElem h (fun i h1 h2 => ?_)
  rw [← getD_eq_get z h1, ← getD_eq_get z h2]
  exact hh i h1
theorem rall_eq {α : Type} [DecidableEq α] {xs ys : List α} (z : α) (h : xs.length = ys.length) : rall (fun j => decide (xs.getD j z = ys.getD j z)) 0 xs.length = decide (xs = ys) := by
  rw [Bool.eq_iff_iff, rall_iff, decide_eq_true_eq]
  constructor
  · exact fun hh => eq_index z h (fun j hj => by simpa using hh j (Nat.zero_le _) (by omega))
  · rintro rfl j _ _
    simp
end Go.Proofs.Ytnpclamoabcbgaa.Pure
namespace Go.Proofs.Ytnpclamoabcbgaa.Pure
set_option linter.unusedVariables false
set_option linter.unusedSimpArgs false
def passS (nr : Int → Int → Bool) (x : Int) (rs g : List Int) : List Int := rs.foldl (fun g c => if c ∈ g then g else if nr x c = true then g ++ [c] else g) g
theorem passS_is (nr : Int → Int → Bool) (x : Int) (g0 : List Int) : ∀ (rs add : List Int), rs.Nodup → (∀ c ∈ rs, c ∉ add) → passS nr x rs (g0 ++ add) = g0 ++ add ++ rs.filter (fun c => !decide (c ∈ g0) && nr x c)
  | [], add, _, _ => by simp [passS]
  | c :: rs, add, hn, ha => by
    rw [List.nodup_cons] at hn
    have hc := ha c (List.mem_cons_self ..)
    have hr : ∀ d ∈ rs, d ∉ add := fun d hd => ha d (List.mem_cons_of_mem _ hd)
    unfold passS
    rw [List.foldl_cons, List.filter_cons]
    by_cases h : c ∈ g0
    · rw [if_pos (by simp [h]), if_neg (by simp [h])]
      exact passS_is nr x g0 rs add hn.2 hr
    · rw [if_neg (by simp [h, hc])]
      by_cases hx : nr x c = true
      · rw [if_pos hx, if_pos (by simp [h, hx]), List.append_assoc g0]
        have := passS_is nr x g0 rs (add ++ [c]) hn.2 (fun d hd => by
          simp only [List.mem_append, List.mem_singleton, not_or]
          exact ⟨hr d hd, fun e => hn.1 (e ▸ hd)⟩)
        unfold passS at this
        rw [this]
        simp
      · rw [if_neg hx, if_neg (by simp [hx])]
        exact passS_is nr x g0 rs add hn.2 hr
def leftOf (l seen : List Int) : List Int := l.filter (fun c => !decide (c ∈ seen))
theorem mem_leftOf {l seen : List Int} {c : Int} : c ∈ leftOf l seen ↔ c ∈ l ∧ c ∉ seen := by simp [leftOf]
theorem pass_both (nr : Int → Int → Bool) (x : Int) (l seen g : List Int) (hn : l.Nodup) (hs : ∀ c ∈ l, c ∈ seen → nr x c = false) :
    passS nr x l g = g ++ (leftOf l (seen ++ g)).filter (nr x) ∧ leftOf l (seen ++ passS nr x l g) = (leftOf l (seen ++ g)).filter (fun c => !nr x c) := by
  have e := passS_is nr x g l [] hn (by simp)
  rw [List.append_nil] at e
  have e2 : l.filter (fun c => !decide (c ∈ g) && nr x c) = (leftOf l (seen ++ g)).filter (nr x) := by
    unfold leftOf
    rw [List.filter_filter]
    refine List.filter_congr (fun c hc => ?_)
    by_cases h : c ∈ seen
    · simp [hs c hc h]
    · simp [h, Bool.and_comm]
  refine ⟨by rw [e, e2], ?_⟩
  rw [e]
  unfold leftOf
  rw [List.filter_filter]
  refine List.filter_congr (fun c hc => ?_)
  by_cases h : c ∈ seen
  · simp [h]
  · by_cases h2 : c ∈ g
    · simp [h2]
    · cases hx : nr x c <;> simp [h, h2, hx, hc]
theorem passS_mem {nr : Int → Int → Bool} {x : Int} {l g : List Int} (hn : l.Nodup) {c : Int} : c ∈ passS nr x l g ↔ c ∈ g ∨ (c ∈ l ∧ nr x c = true) := by
  have e := passS_is nr x g l [] hn (by simp)
  rw [List.append_nil] at e
  rw [e]
  by_cases h : c ∈ g <;> simp [h]
theorem passS_nodup {nr : Int → Int → Bool} {x : Int} {l g : List Int} (hn : l.Nodup) (hg : g.Nodup) : (passS nr x l g).Nodup := by
  have e := passS_is nr x g l [] hn (by simp)
  rw [List.append_nil] at e
  rw [e, List.nodup_append]
  refine ⟨hg, hn.sublist List.filter_sublist, fun a ha b hb => ?_⟩
  simp only [List.mem_filter, Bool.and_eq_true, Bool.not_eq_true', decide_eq_false_iff_not] at hb
  exact fun h => hb.2.1 (h ▸ ha)
def growS (nr : Int → Int → Bool) (l : List Int) : Nat → Nat → List Int → List Int
  | 0, _, g => g
  | k + 1, j, g => if j < g.length then growS nr l k (j + 1) (passS nr (g.getD j 0) l g) else g
structure Grow (nr : Int → Int → Bool) (l seen g : List Int) (j : Nat) : Prop where
  nd : g.Nodup
  sub : ∀ c ∈ g, c ∈ l ∧ c ∉ seen
  done : ∀ i, i < j → i < g.length → ∀ c ∈ l, nr (g.getD i 0) c = true → c ∈ g
theorem Grow.step {nr : Int → Int → Bool} {l seen g : List Int} {j : Nat} (h : Grow nr l seen g j) (hn : l.Nodup) (hj : j < g.length) (hs : ∀ x ∈ l, x ∉ seen → ∀ c ∈ l, c ∈ seen → nr x c = false) :
    Grow nr l seen (passS nr (g.getD j 0) l g) (j + 1) := by
  have e := passS_is nr (g.getD j 0) g l [] hn (by simp)
  rw [List.append_nil] at e
  have hm : g.getD j 0 ∈ g := by rw [List.getD_eq_getElem?_getD, List.getElem?_eq_getElem hj]; exact List.getElem_mem hj
  have hx := h.sub _ hm
  refine ⟨passS_nodup hn h.nd, fun c hc => ?_, fun i hi hi2 c hc hnr => ?_⟩
  · rw [passS_mem hn] at hc
    rcases hc with hc | hc
    · exact h.sub c hc
    · refine ⟨hc.1, fun hsn => ?_⟩
      have := hs _ hx.1 hx.2 c hc.1 hsn
      rw [hc.2] at this
      exact absurd this (by simp)
  · rw [passS_mem hn]
    have hig : i < g.length := by omega
    have eg : (passS nr (g.getD j 0) l g).getD i 0 = g.getD i 0 := by rw [e, List.getD_eq_getElem?_getD, List.getElem?_append_left hig, ← List.getD_eq_getElem?_getD]
    rw [eg] at hnr
    by_cases hij : i = j
    · subst hij
      exact .inr ⟨hc, hnr⟩
    · exact .inl (h.done i (by omega) hig c hc hnr)
theorem nodup_leq : ∀ {g l : List Int}, g.Nodup → (∀ c ∈ g, c ∈ l) → g.length ≤ l.length
  | [], _, _, _ => by simp
  | a :: g, l, hg, hs => by
    rw [List.nodup_cons] at hg
    have ha := hs a (List.mem_cons_self ..)
    have h := nodup_leq (g := g) (l := l.erase a) hg.2 (fun c hc => (List.mem_erase_of_ne (fun e : c = a => hg.1 (e ▸ hc))).2 (hs c (List.mem_cons_of_mem _ hc)))
    rw [List.length_erase_of_mem ha] at h
    have := List.length_pos_of_mem ha
    simp only [List.length_cons]
    omega
def growI (nr : Int → Int → Bool) : Nat → Nat → List Int → List Int → List Int × List Int
  | 0, _, p, r => (p, r)
  | k + 1, j, p, r => if j < p.length then growI nr k (j + 1) (p ++ r.filter (nr (p.getD j 0))) (r.filter (fun c => !nr (p.getD j 0) c)) else (p, r)
theorem growth_both (nr : Int → Int → Bool) (l seen : List Int) (hn : l.Nodup) (hs : ∀ x ∈ l, x ∉ seen → ∀ c ∈ l, c ∈ seen → nr x c = false) : ∀ (k j : Nat) (g : List Int), Grow nr l seen g j → l.length < k + j →
    growI nr k j g (leftOf l (seen ++ g)) = (growS nr l k j g, leftOf l (seen ++ growS nr l k j g)) ∧ Grow nr l seen (growS nr l k j g) (growS nr l k j g).length ∧ (∀ c ∈ g, c ∈ growS nr l k j g)
  | 0, j, g, h, hk => by
    have := nodup_leq h.nd (fun c hc => (h.sub c hc).1)
    exact ⟨rfl, ⟨h.nd, h.sub, fun i hi hi2 => h.done i (by simp only [growS] at hi2; omega) hi2⟩, fun c hc => hc⟩
  | k + 1, j, g, h, hk => by
    unfold growI growS
    by_cases hj : j < g.length
    · rw [if_pos hj, if_pos hj]
      have hm : g.getD j 0 ∈ g := by rw [List.getD_eq_getElem?_getD, List.getElem?_eq_getElem hj]; exact List.getElem_mem hj
      have hx := h.sub _ hm
      obtain ⟨p1, p2⟩ := pass_both nr (g.getD j 0) l seen g hn (hs _ hx.1 hx.2)
      rw [← p1, ← p2]
      obtain ⟨r1, r2, r3⟩ := growth_both nr l seen hn hs k (j + 1) _ (h.step hn hj hs) (by omega)
      exact ⟨r1, r2, fun c hc => r3 c ((passS_mem hn).2 (.inl hc))⟩
    · rw [if_neg hj, if_neg hj]
      exact ⟨rfl, ⟨h.nd, h.sub, fun i hi hi2 => h.done i (by omega) hi2⟩, fun c hc => hc⟩
def Closed (nr : Int → Int → Bool) (l seen : List Int) : Prop := ∀ x ∈ l, x ∉ seen → ∀ c ∈ l, c ∈ seen → nr x c = false
theorem Closed.more {nr : Int → Int → Bool} {l seen g : List Int} (sym : ∀ a b, nr a b = nr b a) (h : Closed nr l seen) (hg : Grow nr l seen g g.length) : Closed nr l (seen ++ g) := by
  intro x hx hxs c hc hcs
  rw [List.mem_append, not_or] at hxs
  rw [List.mem_append] at hcs
  rcases hcs with hcs | hcs
  · exact h x hx hxs.1 c hc hcs
  · cases e : nr x c with
    | false => rfl
    | true =>
      obtain ⟨i, hi, ei⟩ := List.getElem_of_mem hcs
      have := hg.done i hi hi x hx (by rw [List.getD_eq_getElem?_getD, List.getElem?_eq_getElem hi, Option.getD_some, ei, sym]; exact e)
      exact absurd this hxs.2
theorem Grow.one {nr : Int → Int → Bool} {l seen : List Int} {x : Int} (hx : x ∈ l) (hs : x ∉ seen) : Grow nr l seen [x] 0 :=
  ⟨by simp, fun c hc => by rw [List.mem_singleton] at hc; exact hc ▸ ⟨hx, hs⟩, fun i hi => absurd hi (by omega)⟩
def partsS (nr : Int → Int → Bool) (f : List Int → List Int) (l : List Int) : Nat → Nat → List Int → List (List Int) → List (List Int)
  | 0, _, _, out => out
  | k + 1, i, seen, out => if i < l.length then (if l.getD i 0 ∈ seen then partsS nr f l k (i + 1) seen out else
      partsS nr f l k (i + 1) (seen ++ growS nr l (l.length + 1) 0 [l.getD i 0]) (out ++ [f (growS nr l (l.length + 1) 0 [l.getD i 0])])) else out
def partsI (nr : Int → Int → Bool) (f : List Int → List Int) (n : Nat) : Nat → List Int → List (List Int) → List (List Int)
  | 0, _, out => out
  | k + 1, r, out => match r with
    | [] => out
    | s :: r => partsI nr f n k (growI nr n 0 [s] r).2 (out ++ [f (growI nr n 0 [s] r).1])
theorem leftOf_skip {l seen : List Int} {i : Nat} (h : ∀ j, j < i → l.getD j 0 ∈ seen) : leftOf l seen = leftOf (l.drop i) seen := by
  induction i with
  | zero => rfl
  | succ i ih =>
    rw [ih (fun j hj => h j (by omega))]
    by_cases hi : i < l.length
    · have := h i (by omega)
      rw [List.getD_eq_getElem?_getD, List.getElem?_eq_getElem hi, Option.getD_some] at this
      unfold leftOf
      rw [List.drop_eq_getElem_cons hi, List.filter_cons, if_neg (by simp [this])]
    · rw [List.drop_eq_nil_of_le (by omega), List.drop_eq_nil_of_le (by omega)]
theorem leftOf_more {l seen : List Int} {x : Int} {r : List Int} (h : leftOf l seen = x :: r) (hn : l.Nodup) : r = leftOf l (seen ++ [x]) := by
  have hr : (x :: r).Nodup := h ▸ hn.sublist List.filter_sublist
  rw [List.nodup_cons] at hr
  have e : leftOf l (seen ++ [x]) = (leftOf l seen).filter (fun c => !decide (c = x)) := by
    unfold leftOf
    rw [List.filter_filter]
    refine List.filter_congr (fun c _ => ?_)
    by_cases h1 : c ∈ seen <;> by_cases h2 : c = x <;> simp [h1, h2]
  rw [e, h, List.filter_cons, if_neg (by simp)]
  exact (List.filter_eq_self.2 (fun c hc => by simp; exact fun e => hr.1 (e ▸ hc))).symm
theorem parts_both (nr : Int → Int → Bool) (f : List Int → List Int) (l : List Int) (hn : l.Nodup) (sym : ∀ a b, nr a b = nr b a) : ∀ (k i : Nat) (seen : List Int) (out : List (List Int)) (m : Nat), l.length < k + i → Closed nr l seen → (∀ j, j < i → j < l.length → l.getD j 0 ∈ seen) → (leftOf l seen).length < m →
    partsS nr f l k i seen out = partsI nr f (l.length + 1) m (leftOf l seen) out
  | 0, i, seen, out, m, hk, hc, hi, hm => by
    have e : leftOf l seen = [] := by
      unfold leftOf
      rw [List.filter_eq_nil_iff]
      intro c hc2
      obtain ⟨j, hj, ej⟩ := List.getElem_of_mem hc2
      have := hi j (by omega) hj
      rw [List.getD_eq_getElem?_getD, List.getElem?_eq_getElem hj, Option.getD_some, ej] at this
      simp [this]
    rw [e]
    cases m <;> rfl
  | k + 1, i, seen, out, m, hk, hc, hi, hm => by
    unfold partsS
    by_cases h : i < l.length
    · rw [if_pos h]
      by_cases hx : l.getD i 0 ∈ seen
      · rw [if_pos hx]
        exact parts_both nr f l hn sym k (i + 1) seen out m (by omega) hc (fun j hj hj2 => by
          by_cases e : j = i
          · exact e ▸ hx
          · exact hi j (by omega) hj2) hm
      · rw [if_neg hx]
        have hxl : l.getD i 0 ∈ l := by rw [List.getD_eq_getElem?_getD, List.getElem?_eq_getElem h]; exact List.getElem_mem h
        have e1 : leftOf l seen = l.getD i 0 :: leftOf (l.drop (i + 1)) seen := by
          rw [leftOf_skip (fun j hj => hi j hj (by omega)), List.drop_eq_getElem_cons h]
          have eg : l.getD i 0 = l[i] := by rw [List.getD_eq_getElem?_getD, List.getElem?_eq_getElem h, Option.getD_some]
          rw [eg] at hx ⊢
          unfold leftOf
          rw [List.filter_cons, if_pos (by simp [hx])]
        have e2 := leftOf_more e1 hn
        have g0 := Grow.one (nr := nr) hxl hx
        obtain ⟨r1, r2, r3⟩ := growth_both nr l seen hn hc (l.length + 1) 0 [l.getD i 0] g0 (by omega)
        cases m with
        | zero => omega
        | succ m =>
          rw [e1]
          show _ = partsI nr f (l.length + 1) m (growI nr (l.length + 1) 0 [l.getD i 0] (leftOf (l.drop (i + 1)) seen)).2 (out ++ [f (growI nr (l.length + 1) 0 [l.getD i 0] (leftOf (l.drop (i + 1)) seen)).1])
          rw [e2, r1]
          refine parts_both nr f l hn sym k (i + 1) _ _ m (by omega) (hc.more sym r2) (fun j hj hj2 => ?_) ?_
          · rw [List.mem_append]
            by_cases e : j = i
            · exact .inr (r3 _ (by rw [e]; simp))
            · exact .inl (hi j (by omega) hj2)
          · have hlen : (leftOf l (seen ++ growS nr l (l.length + 1) 0 [l.getD i 0])).length ≤ (leftOf l (seen ++ [l.getD i 0])).length := by
              refine nodup_leq (hn.sublist List.filter_sublist) (fun c hc2 => ?_)
              rw [mem_leftOf, List.mem_append, not_or] at hc2 ⊢
              exact ⟨hc2.1, hc2.2.1, fun h3 => hc2.2.2 (r3 c h3)⟩
            rw [e1, e2] at hm
            simp only [List.length_cons] at hm
            omega
    · rw [if_neg h]
      have e : leftOf l seen = [] := by
        unfold leftOf
        rw [List.filter_eq_nil_iff]
        intro c hc2
        obtain ⟨j, hj, ej⟩ := List.getElem_of_mem hc2
        have := hi j (by omega) hj
        rw [List.getD_eq_getElem?_getD, List.getElem?_eq_getElem hj, Option.getD_some, ej] at this
        simp [this]
      rw [e]
      cases m <;> rfl
end Go.Proofs.Ytnpclamoabcbgaa.Pure
namespace Go.Proofs.Ytnpclamoabcbgaa.Pure
set_option linter.unusedVariables false
set_option linter.unusedSimpArgs false
open Go.RowKit Go.Proofs.Ytnpclamoabcbgaa.P Go.Proofs.YtnpclamoabcbgaaW.PrintWords Go.Proofs.YtnpclamoabcbgaaW.PrintLast
def inb (x a b : Int) : Bool := decide (a ≤ x) && decide (x ≤ b)
theorem inb_iff {x a b : Int} : inb x a b = true ↔ a ≤ x ∧ x ≤ b := by simp [inb]
theorem l1In_is (x a b : Int) : spec_l1In.f x a b = some (inb x a b) := by
  unfold spec_l1In.f inb
  split
  · rename_i h; simp [show a ≤ x from h]
  · rename_i h; simp [show ¬ a ≤ x from h]
theorem within_is (x a b : Int) : impl_within.f x a b = some (inb x a b) := l1In_is x a b
theorem allWithin_ev (l : List Int) (a b : Int) (hl : l.length ≤ 9223372036854775806) : Ev (fun k => impl_allWithin.f k l a b) (rall (fun i => inb (l.getD i 0) a b) 0 l.length) :=
  allb_ev (fun k i => impl_allWithin.l0 k a b l (l.length : Int) (i : Int)) l.length (fun i => inb (l.getD i 0) a b)
    (fun i r hi hp h => ev_step (fun k => by
      simp only [impl_allWithin.l0, within_is, Option.bind_some, rd_nat]
      rw [if_pos (by omega), if_pos (by omega), if_pos (by omega), if_pos hp, w64 (by omega) (by omega)]
      rfl) h)
    (fun i hi hp => ev_step (f := fun _ => some false) (fun k => by
      simp only [impl_allWithin.l0, within_is, Option.bind_some, rd_nat]
      rw [if_pos (by omega), if_pos (by omega), if_pos (by omega), if_neg (by rw [hp]; decide)]) (ev_some _))
    (ev_step (f := fun _ => some true) (fun k => by
      simp only [impl_allWithin.l0]
      rw [if_neg (by omega)]) (ev_some _))
theorem mul_bd {a b : Int} (a1 : 1 ≤ a) (a8 : a ≤ 8) (b1 : 1 ≤ b) (b8 : b ≤ 8) : 1 ≤ a * b ∧ a * b ≤ 64 := by
  obtain h | h | h | h | h | h | h | h : a = 1 ∨ a = 2 ∨ a = 3 ∨ a = 4 ∨ a = 5 ∨ a = 6 ∨ a = 7 ∨ a = 8 := by omega
  all_goals subst h; omega
theorem l2Shape_is (a b : Int) : spec_l2Shape.f a b = some (inb a 1 8 && inb b 1 8) := by
  unfold spec_l2Shape.f
  rw [l1In_is, l1In_is]
  cases inb a 1 8 <;> simp
theorem shape_iff {a b : Int} : (inb a 1 8 && inb b 1 8) = true ↔ (1 ≤ a ∧ a ≤ 8) ∧ 1 ≤ b ∧ b ≤ 8 := by rw [Bool.and_eq_true, inb_iff, inb_iff]
end Go.Proofs.Ytnpclamoabcbgaa.Pure
