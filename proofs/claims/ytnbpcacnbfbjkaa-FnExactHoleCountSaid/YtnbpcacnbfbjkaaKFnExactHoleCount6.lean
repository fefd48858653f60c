/- Texts of the claim FnExactHoleCount, merged: part 6 of 10: the program's and the reference's functions as Lean functions, the walks that show it, and plain lemmas; no conditions. -/
import Derived.Test.YtnbpcacnbfbjkaaKFnExactHoleCount5
import Derived.Test.YtnbpcacnbfbjkaaKFnExactHoleCount3
import Derived.Test.YtnbpcacnbfbjkaaKFnExactHoleCount4
set_option linter.unusedVariables false
set_option linter.unusedSimpArgs false
open Go.RowKit Go.Proofs.YtnbpcacnbfbjkaaW.PrintWords Go.Proofs.YtnbpcacnbfbjkaaW.PrintLast Go.Proofs.YtnbpcacnbfbjkaaW.PrintMore
set_option maxHeartbeats 8000000
set_option maxRecDepth 100000
namespace Go.Proofs.Ytnbpcacnbfbjkaa.P
open Go.RowKit Go.Shelf Go.Lib Go.Sort Go.Proofs Go.Proofs.YtnbpcacnbfbjkaaW.PrintWords Go.Proofs.YtnbpcacnbfbjkaaW.PrintLast Go.Proofs.YtnbpcacnbfbjkaaW.PrintMore
set_option linter.unusedSectionVars false
def lpC (a b : Int) : Int := if a < b then -1 else if a > b then 1 else 0
theorem lp_cmp (a b : Int) : cmp_Compare_int.f a b = some (lpC a b) := by
  unfold cmp_Compare_int.f cmp_isNaN_int.f lpC
  simp only [Option.bind_some, bne_self_eq_false, Bool.false_eq_true, if_false]
  by_cases h1 : a < b
  · rw [if_pos h1, if_pos h1]
  · rw [if_neg h1, if_neg h1]
    by_cases h2 : a > b
    · rw [if_pos h2, if_pos h2]
    · rw [if_neg h2, if_neg h2]
theorem lp_or (a b : Int) : cmp_Or_int.f 4 [a, b] = some (if a ≠ 0 then a else b) := by
  have e1 : wrap64 (0 + 1) = 1 := by unfold wrap64; omega
  have e2 : wrap64 (1 + 1) = 2 := by unfold wrap64; omega
  have r0 : rd [a, b] 0 = a := rfl
  have r1 : rd [a, b] 1 = b := rfl
  have hl : (([a, b] : List Int).length : Int) = 2 := rfl
  unfold cmp_Or_int.f
  simp only [cmp_Or_int.l0, hl, e1, e2, r0, r1]
  by_cases h0 : a = 0
  · by_cases h1 : b = 0
    · simp [h0, h1]
    · simp [h0, h1]
  · simp [h0]
def lpX (l : List S48) : Int := (rd_T48 l 0).f0
def lpY (l : List S48) : Int := (rd_T48 l 0).f1
def lpLt (a b : List S48) : Bool := decide (lpY a < lpY b ∨ (lpY a = lpY b ∧ (lpX a < lpX b ∨ (lpX a = lpX b ∧ a.length < b.length))))
def lpCf (a b : List S48) : Int := if lpLt a b = true then -1 else if lpLt b a = true then 1 else 0
theorem lp_f {a b : List S48} (ha : a ≠ []) (hb : b ≠ []) : impl_outlines_1.f 4 a b = some (lpCf a b) := by
  have h1 : 0 < (a.length : Int) := by have := List.length_pos_iff.2 ha; omega
  have h2 : 0 < (b.length : Int) := by have := List.length_pos_iff.2 hb; omega
  unfold impl_outlines_1.f impl_comparePoints.f
  rw [if_pos h1, if_pos h2]
  simp only [Option.bind_some, lp_cmp, lp_or]
  unfold lpCf lpLt
  show _ = some (if decide (lpY a < lpY b ∨ (lpY a = lpY b ∧ (lpX a < lpX b ∨ (lpX a = lpX b ∧ a.length < b.length)))) = true then -1 else if decide (lpY b < lpY a ∨ (lpY b = lpY a ∧ (lpX b < lpX a ∨ (lpX b = lpX a ∧ b.length < a.length)))) = true then 1 else 0)
  have ex : (rd_T48 a 0).f0 = lpX a := rfl
  have ey : (rd_T48 a 0).f1 = lpY a := rfl
  have fx : (rd_T48 b 0).f0 = lpX b := rfl
  have fy : (rd_T48 b 0).f1 = lpY b := rfl
  rw [ex, ey, fx, fy]
  generalize lpX a = x1
  generalize lpY a = y1
  generalize lpX b = x2
  generalize lpY b = y2
  generalize a.length = n1
  generalize b.length = n2
  congr 1
  unfold lpC
  simp only [decide_eq_true_eq]
  rcases Int.lt_trichotomy y1 y2 with h | h | h
  · simp [h, show ¬ y2 < y1 by omega, show y1 ≠ y2 by omega]
  · subst h
    rcases Int.lt_trichotomy x1 x2 with h | h | h
    · simp [h, show ¬ x2 < x1 by omega, show x1 ≠ x2 by omega]
    · subst h
      rcases Nat.lt_trichotomy n1 n2 with h | h | h
      · simp [h, show ¬ n2 < n1 by omega]
      · subst h
        simp
      · simp [h, show ¬ n1 < n2 by omega]
    · simp [h, show ¬ x1 < x2 by omega, show x1 ≠ x2 by omega, show x2 ≠ x1 by omega]
  · simp [h, show ¬ y1 < y2 by omega, show y1 ≠ y2 by omega, show y2 ≠ y1 by omega]
theorem lp_ltOf (a b : List S48) : ltOf lpCf a b = lpLt a b := by
  unfold ltOf lpCf
  cases lpLt a b with
  | true => rfl
  | false => cases lpLt b a <;> rfl
theorem lpLt_iff {a b : List S48} : lpLt a b = true ↔ lpY a < lpY b ∨ (lpY a = lpY b ∧ (lpX a < lpX b ∨ (lpX a = lpX b ∧ a.length < b.length))) := decide_eq_true_iff
theorem lpLt_no {a b : List S48} : lpLt a b = false ↔ ¬ (lpY a < lpY b ∨ (lpY a = lpY b ∧ (lpX a < lpX b ∨ (lpX a = lpX b ∧ a.length < b.length)))) := decide_eq_false_iff_not
theorem below_grow {w w' : World} (hb : Go.RowKit.Below w.heap.size w w') (hd : w.drawn ≤ w'.drawn) : ∃ q os', w' = grow (w.drewN q) os' := by
  refine ⟨w'.drawn - w.drawn, w'.heap.extract w.heap.size w'.heap.size, ?_⟩
  have e1 : w.heap ++ w'.heap.extract w.heap.size w'.heap.size = w'.heap := by
    have hs := hb.size
    refine Array.ext_getElem? (fun i => ?_)
    by_cases hi : i < w.heap.size
    · rw [Array.getElem?_append_left hi]
      exact (hb.block i hi).symm
    · rw [Array.getElem?_append_right (by omega), Array.getElem?_extract]
      by_cases hj : i < w'.heap.size
      · rw [if_pos (by omega), show w.heap.size + (i - w.heap.size) = i by omega]
      · rw [if_neg (by omega), Array.getElem?_eq_none (by omega)]
  have e2 : w.drawn + (w'.drawn - w.drawn) = w'.drawn := by omega
  obtain ⟨h1, t1, d1, o1, u1⟩ := w'
  obtain ⟨h0, t0, d0, o0, u0⟩ := w
  obtain ⟨g1, g2, g3, _, _⟩ := hb
  simp only at g1 g2 g3 e1 e2
  subst g1
  subst g2
  subst g3
  unfold grow World.drewN
  simp only [e1, e2]
theorem sortWorld_old {α : Type} [Inhabited α] (enc : α → Value) (w : World) (g m : Nat) (d : Array α) (os : Array Obj) {k : Nat} (hk : k < w.heap.size) (hne : k ≠ g) : (sortWorld enc w g 0 m d os).heap[k]? = w.heap[k]? := by
  unfold sortWorld
  rw [heap_grow_old _ _ (by simpa using hk)]
  have : g ≠ k := fun e => hne e.symm
  simp [putRow, mapBlock, Sort.ahead, Array.getElem?_modify, this]
theorem sortWorld_row {α : Type} [Inhabited α] (enc : α → Value) {w : World} {g m : Nat} {os : Array Obj} {cur : Array Value} {e : TypeId} {fr : Nat × Nat} (d : Array α) (hb : w.heap[g]? = some (.cells cur e fr)) :
    (sortWorld enc w g 0 m d os).heap[g]? = some (.cells (putCells enc 0 d cur) e fr) := by
  have hg : g < w.heap.size := (Array.getElem?_eq_some_iff.1 hb).1
  unfold sortWorld
  rw [heap_grow_old _ _ (by simpa using hg)]
  simp [putRow, mapBlock, Sort.ahead, Array.getElem?_modify, hb, onCells]
theorem sortWorld_below {α : Type} [Inhabited α] (enc : α → Value) (w : World) (g m : Nat) (d : Array α) (os : Array Obj) : Go.RowKit.Below 0 w (sortWorld enc w g 0 m d os) := by
  refine ⟨rfl, rfl, rfl, ?_, fun k hk => absurd hk (Nat.not_lt_zero _)⟩
  unfold sortWorld
  simp
abbrev Num (n : Nat) : Type := { i : Nat // i < n }
section
variable {base cap n : Nat} {ok : Nat → Prop} {w : World} {xs : List (List S48)} {g : Nat} {f : Nat → Nat} {cur : Array Value} {inner : List Value}
theorem lp_lays (h : CellsOf (Kd.slice 48 k48) 36 w base g cap ok xs f cur inner) (hne : ∀ l ∈ xs, l ≠ []) [Inhabited (Num xs.length)] :
    CmpLays1 Try.prog 36 #[] (fun i : Num xs.length => inner.getD i.1 (.slice none 0 0)) (fun i j : Num xs.length => lpCf (xs.getD i.1 []) (xs.getD j.1 [])) g 0 xs.length w := by
  intro m os dk hs x y
  rw [Array.append_empty]
  have key : ∀ i : Num xs.length, ∃ A c, inner.getD i.1 (.slice none 0 0) = .slice A (xs.getD i.1 []).length c ∧ (xs.getD i.1 []).length ≤ c ∧ Kd.C k48 (sortWorld (fun i : Num xs.length => inner.getD i.1 (.slice none 0 0)) w g 0 m dk os) A (xs.getD i.1 []).length (xs.getD i.1 []) ∧ xs.getD i.1 [] ≠ [] := fun i => by
    have e0 : xs.getD i.1 [] = xs[i.1]'i.2 := by rw [List.getD_eq_getElem?_getD, List.getElem?_eq_getElem i.2]; rfl
    obtain ⟨v, hv, hR⟩ := h.elem i.1 i.2
    rw [List.cons.injEq] at hv
    rw [hv.1, e0]
    have hR2 := Kd.R_step (w1 := sortWorld (fun i : Num xs.length => inner.getD i.1 (.slice none 0 0)) w g 0 m dk os) hR (fun k hk hlt => sortWorld_old _ _ _ _ _ _ hlt hk.1.2)
    obtain ⟨A, c, rfl⟩ := Kd.R_slice hR2
    obtain ⟨r1, r2, r3⟩ := Kd.R_reads' hR2
    exact ⟨A, c, rfl, r2, r3, hne _ (List.getElem_mem i.2)⟩
  obtain ⟨A, c, e1, e2, e3, e4⟩ := key x
  obtain ⟨A', c', e1', e2', e3', e4'⟩ := key y
  simp only [e1, e1']
  refine (impl_outlines_1.lays 4 A c _ A' c' _ _ _ e3 e2 e3' e2' (lp_f e4 e4')).mono ?_
  rintro e w' ⟨rfl, hb, hd⟩
  exact ⟨rfl, below_grow hb hd⟩
end
theorem ext_all {β : Type} (d : Array β) {n : Nat} (h : d.size = n) : d.extract 0 n = d := by subst h; simp
theorem sortLoops {base : Nat} {ok : Nat → Prop} {w : World} {xs : List (List S48)} {v : Value} (hb0 : base ≤ w.heap.size) (hS : Kd.S (Kd.slice 48 k48) 36 w base ok v xs) (hne : ∀ l ∈ xs, l ≠ []) (hlen : xs.length < 1000000000) :
    Calls Try.prog 35 #[v, .func (.func 36) #[] #[]] w fun e w' => e = .returned (.tuple #[]) ∧ ∃ ys, ys.Perm xs ∧ ys.Pairwise (fun a b => lpLt b a = false) ∧ Kd.S (Kd.slice 48 k48) 36 w' base ok v ys ∧ Go.RowKit.Below 0 w w' ∧ ∀ k, k < w.heap.size → some k ≠ v.ownBlock → w'.heap[k]? = w.heap[k]? := by
  by_cases h0 : 0 < xs.length
  · obtain ⟨g, cap, rfl, hgb, hgs, _⟩ := Kd.S_form hS h0
    obtain ⟨f, cur, inner, hC⟩ := S_cells rfl hS
    have inh : Inhabited (Num xs.length) := ⟨⟨0, h0⟩⟩
    obtain ⟨d, hd, hdj⟩ : ∃ d : Array (Num xs.length), d.size = xs.length ∧ ∀ j (hj : j < xs.length), d[j]! = ⟨j, hj⟩ := by
      refine ⟨Array.ofFn (fun i : Fin xs.length => (⟨i.1, i.2⟩ : Num xs.length)), by simp, fun j hj => ?_⟩
      rw [getElem!_pos _ j (by simpa using hj)]
      simp
    have hone : OneCell (fun i : Num xs.length => inner.getD i.1 (.slice none 0 0)) := fun i => by
      obtain ⟨u, hu, hR⟩ := hC.elem i.1 i.2
      rw [List.cons.injEq] at hu
      show (inner.getD i.1 (.slice none 0 0)).oneCell' = true
      rw [hu.1]
      exact (Kd.R_val hR).2
    have hH : Holds (fun i : Num xs.length => inner.getD i.1 (.slice none 0 0)) w g 0 d := fun j hj => by
      have hj2 : j < xs.length := by omega
      rw [hdj j hj2, Nat.zero_add]
      refine ⟨?_, by simp [World.frozen?, hC.hb]⟩
      have h1 := congrArg (fun l => l[j]?) hC.take
      simp only [List.getElem?_take_of_lt hj2, Array.getElem?_toList] at h1
      simp only [World.cell?, hC.hb, Option.isSome_none, Bool.false_eq_true, if_false]
      rw [h1, List.getD_eq_getElem?_getD, List.getElem?_eq_getElem (by have := hC.len; omega)]
      rfl
    have W : SWO (ltOf (fun i j : Num xs.length => lpCf (xs.getD i.1 []) (xs.getD j.1 []))) := by
      refine ⟨fun x => ?_, fun x y z h1 h2 => ?_, fun x y z h1 h2 => ?_⟩
      · show ltOf lpCf _ _ = false
        rw [lp_ltOf, lpLt_no]
        omega
      · have h1 : ltOf lpCf (xs.getD x.1 []) (xs.getD y.1 []) = true := h1
        have h2 : ltOf lpCf (xs.getD y.1 []) (xs.getD z.1 []) = true := h2
        show ltOf lpCf _ _ = true
        rw [lp_ltOf, lpLt_iff] at *
        omega
      · have h1 : ltOf lpCf (xs.getD x.1 []) (xs.getD y.1 []) = false := h1
        have h2 : ltOf lpCf (xs.getD y.1 []) (xs.getD z.1 []) = false := h2
        show ltOf lpCf _ _ = false
        rw [lp_ltOf, lpLt_no] at *
        omega
    have hc := sortStable_s (fun i : Num xs.length => inner.getD i.1 (.slice none 0 0)) (fun i j : Num xs.length => lpCf (xs.getD i.1 []) (xs.getD j.1 [])) 36 #[] g 0 cap d w (fun args_ w_ => enters_ Try.func36 (by kernel_rfl) rfl args_ w_) (by rw [hd]; exact lp_lays hC hne) ⟨hone, hH, hgs⟩ W (by omega)
    rw [hd] at hc
    refine hc.mono ?_
    rintro e w' ⟨rfl, d', p, s, m, os, rfl⟩
    have hs' : d'.size = xs.length := p.1.trans hd
    have hp : (d'.toList.map (·.1)).Perm (List.range xs.length) := by
      have h1 := p.2.2
      have e1 : d'.extract 0 xs.length = d' := ext_all d' hs'
      have e2 : d.extract 0 xs.length = d := ext_all d hd
      rw [e1, e2] at h1
      refine (h1.map (·.1)).trans ?_
      have e3 : d.toList.map (·.1) = List.range xs.length := by
        refine List.ext_getElem (by simp [hd]) (fun j h2 h3 => ?_)
        have hj : j < xs.length := by simpa using h3
        have := hdj j hj
        rw [getElem!_pos d j (by omega)] at this
        simp [this]
      rw [e3]
    refine ⟨rfl, (d'.toList.map (·.1)).map (fun i => xs.getD i []), ?_, ?_, ?_, sortWorld_below _ _ _ _ _ _, fun k hk hne2 => sortWorld_old _ _ _ _ _ _ hk (fun e2 => hne2 (by rw [e2]; rfl))⟩
    · refine (hp.map _).trans ?_
      have e4 : (List.range xs.length).map (fun i => xs.getD i []) = xs := by
        refine List.ext_getElem (by simp) (fun j h2 h3 => ?_)
        simp [List.getD_eq_getElem?_getD, h3]
      rw [e4]
    · rw [List.map_map, List.pairwise_map]
      rw [List.pairwise_iff_getElem]
      intro i j hi hj hij
      have := s i j (Nat.zero_le _) hij (by simpa [hs'] using hj)
      rw [getElem!_pos d' i (by simpa using hi), getElem!_pos d' j (by simpa using hj)] at this
      have t2 : ltOf lpCf _ _ = false := this
      rw [lp_ltOf] at t2
      simpa using t2
    · refine S_reorder rfl hC hp [] (sortWorld_row _ d' hC.hb) (by simp [putCells, hC.size]) ?_ (fun k hk hlt => sortWorld_old _ _ _ _ _ _ hlt hk)
      refine List.ext_getElem? (fun j => ?_)
      by_cases hj : j < xs.length
      · have hc2 : j < cur.size := by have := hC.size; have := hC.le; omega
        rw [List.getElem?_take_of_lt hj, Array.getElem?_toList]
        simp [putCells, hj, hs', hc2]
      · rw [List.getElem?_take_eq_none (by omega), List.getElem?_eq_none (by simp; omega)]
  · obtain rfl := List.length_eq_zero_iff.1 (show xs.length = 0 by omega)
    obtain ⟨A, c, rfl⟩ := Kd.R_slice (Kd.S_R hS)
    refine (sortStable_none A c _ w).mono ?_
    rintro e w' ⟨rfl, rfl⟩
    exact ⟨rfl, [], List.Perm.refl _, List.Pairwise.nil, hS, Go.RowKit.Below.refl _ _, fun _ _ _ => rfl⟩
def lpOk (l : List (List S48)) : Bool := l.all (fun a => decide (0 < a.length)) && decide ((l.map (fun a => (lpX a, lpY a))).Nodup)
def lpSrt (l : List (List S48)) : List (List S48) := l.mergeSort (fun a b => !lpLt b a)
theorem lp_asym {a b : List S48} (h : lpLt a b = true) : lpLt b a = false := by
  rw [lpLt_iff] at h
  rw [lpLt_no]
  omega
theorem lp_unique : ∀ {s t : List (List S48)}, s.Pairwise (fun a b => lpLt a b = true) → t.Pairwise (fun a b => lpLt a b = true) → s.Perm t → s = t
  | [], t, _, _, hp => (List.nil_perm.1 hp).symm
  | a :: s, [], _, _, hp => absurd (List.perm_nil.1 hp) (by simp)
  | a :: s, b :: t, h1, h2, hp => by
    rw [List.pairwise_cons] at h1 h2
    have ha : a ∈ b :: t := hp.mem_iff.1 (List.mem_cons_self ..)
    have hb : b ∈ a :: s := hp.mem_iff.2 (List.mem_cons_self ..)
    have hab : a = b := by
      rcases List.mem_cons.1 ha with e | e
      · exact e
      · rcases List.mem_cons.1 hb with e2 | e2
        · exact e2.symm
        · have c1 := h1.1 b e2
          have c2 := lp_asym (h2.1 a e)
          rw [c1] at c2
          cases c2
    subst hab
    rw [lp_unique h1.2 h2.2 (List.perm_cons a |>.1 hp)]
theorem lp_strict {l : List (List S48)} (hn : (l.map (fun a => (lpX a, lpY a))).Nodup) (h : l.Pairwise (fun a b => lpLt b a = false)) : l.Pairwise (fun a b => lpLt a b = true) := by
  unfold List.Nodup at hn
  rw [List.pairwise_map] at hn
  refine List.Pairwise.imp ?_ (hn.and h)
  intro a b ⟨h1, h2⟩
  rw [lpLt_no] at h2
  rw [lpLt_iff]
  have h3 : ¬ (lpX a = lpX b ∧ lpY a = lpY b) := fun e => h1 (by rw [e.1, e.2])
  omega
theorem lpSrt_is {xs ys : List (List S48)} (hk : lpOk xs = true) (hp : ys.Perm xs) (hs : ys.Pairwise (fun a b => lpLt b a = false)) : ys = lpSrt xs := by
  unfold lpOk at hk
  rw [Bool.and_eq_true, decide_eq_true_eq] at hk
  have hm : (lpSrt xs).Perm xs := List.mergeSort_perm _ _
  have h1 := List.pairwise_mergeSort (le := fun a b : List S48 => !lpLt b a) (fun a b c h1 h2 => by
    simp only [Bool.not_eq_true'] at *
    rw [lpLt_no] at *
    omega) (fun a b => by
    cases e : lpLt b a with
    | false => rfl
    | true => rw [lp_asym e]; rfl) xs
  have h2 : (lpSrt xs).Pairwise (fun a b => lpLt b a = false) := h1.imp (fun h => by simpa using h)
  exact lp_unique (lp_strict ((hp.map _).nodup_iff.2 hk.2) hs) (lp_strict ((hm.map _).nodup_iff.2 hk.2) h2) (hp.trans hm.symm)
theorem sortLoops_given {P0_ : Nat → Prop} {u : Value} {l0 : List (List S48)} {w0 w : World} (hB : Go.RowKit.Below w0.heap.size w0 w) (hS : Kd.S (Kd.slice 48 k48) 36 w w0.heap.size P0_ u l0) (hk : lpOk l0 = true) (hl : l0.length < 1000000000) :
    Calls Try.prog 35 #[u, .func (.func 36) #[] #[]] w fun e w' => e = .returned (.tuple #[]) ∧ Kd.S (Kd.slice 48 k48) 36 w' w0.heap.size (fun k_ => (P0_ k_ ∨ w.heap.size ≤ k_)) u (lpSrt l0) ∧ Go.RowKit.Below w0.heap.size w0 w' ∧ Kept w w' (fun k_ => P0_ k_) := by
  have hk2 := hk
  unfold lpOk at hk2
  rw [Bool.and_eq_true, List.all_eq_true] at hk2
  refine (sortLoops hB.size hS (fun a ha => by have := of_decide_eq_true (hk2.1 a ha); intro e; rw [e] at this; exact absurd this (by simp)) hl).mono ?_
  rintro e w' ⟨rfl, ys, hp, hs, hS2, hlow, hkeep⟩
  rw [lpSrt_is hk hp hs] at hS2
  have own : ∀ k, u.ownBlock = some k → P0_ k ∧ w0.heap.size ≤ k := fun k hk => ⟨(Kd.S_R hS).1 k hk, Kd.S_base hS k hk⟩
  refine ⟨rfl, Kd.S_mono hS2 (fun k h => .inl h), ⟨hlow.os.trans hB.os, hlow.tape.trans hB.tape, hlow.output.trans hB.output, Nat.le_trans hB.size hlow.size, fun k hk3 => ?_⟩, hlow.size, fun k hk3 hn => hkeep k hk3 (fun e => hn (own k e.symm).1)⟩
  have hsz := hB.size
  exact (hkeep k (by omega) (fun e => by have := (own k e.symm).2; omega)).trans (hB.block k hk3)
end Go.Proofs.Ytnbpcacnbfbjkaa.P
namespace Go.Proofs.Ytnbpcacnbfbjkaa.P
attribute [local go_sem] max2_int min2_int max_two min_two max_three min_three max_four min_four
set_option maxHeartbeats 8000000 in
set_option maxRecDepth 100000 in
theorem spec_l8Before.lays (a0_0 : Int) (a0_1 : Int) (a1_0 : Int) (a1_1 : Int) (r : Bool) (w : World) (h : spec_l8Before.f a0_0 a0_1 a1_0 a1_1 = some r) :
  Calls Try.prog 28 #[.agg #[.int .i64 a0_0, .int .i64 a0_1], .agg #[.int .i64 a1_0, .int .i64 a1_1]] w fun e w' => e = .returned (.bool r) ∧ Below w.heap.size w w' ∧ w.drawn ≤ w'.drawn := by
 have hu48 := Try.underlying48
 have HB := aK (Below.refl w.heap.size w)
 have DR := aK (Nat.le_refl w.drawn)
 have H : (if a0_1 < a1_1 then (some true) else (if a0_1 = a1_1 then (some (decide (a0_0 < a1_0))) else (some false))) = some r := h
 clear h
 by_cases c3 : a0_1 < a1_1
 ·
  rw [if_pos c3] at H
  have c3b0 : decide (a0_1 < a1_1) = true := decide_eq_true c3
  clear c3
  obtain rfl := Option.some.inj H
  go_enter Try.func28, Try.ntmps28
  go_wp2_with (first | ((with_reducible refine gate_dst (N := 2) rfl ?_); refine box_eventD ?hg (N := 2) ?hd (cs := #[.int .i64 a0_0, .int .i64 a0_1]) (t := 48) ?hr ?_; (case hd => rfl); (case hg => rfl); (case hr => first | (go_simp; done) | (go_simp; rfl)); intro gb101 hg w4 hbox hb hd; replace DR := dD DR hd; have BK101 := aK (hbox); have GW101 := aK (gE hg (pS HB.out)); have GE101 := aK (gE hg (pS HB.out)); replace HB := bS HB hb; clear hb hd hbox hg) | ((with_reducible refine gate_dst (N := 3) rfl ?_); refine box_eventD ?hg (N := 3) ?hd (cs := #[.int .i64 a1_0, .int .i64 a1_1]) (t := 48) ?hr ?_; (case hd => rfl); (case hg => rfl); (case hr => first | (go_simp; done) | (go_simp; rfl)); intro gb102 hg w5 hbox hb hd; replace DR := dD DR hd; have BK102 := aK (hbox); have GW102 := aK (gE hg (pS HB.out)); have GE102 := aK (gE hg (pS HB.out)); have NB101_102 := aK (nL hg (pB BK101.out)); have NB102_101 := aK (nG hg (pB BK101.out)); replace BK101 := bB BK101 hb; replace HB := bS HB hb; clear hb hbox hg; have hnb6 := NB101_102.out; have hnc6 := NB102_101.out; have hcz7_0 : w5.cell? ⟨gb101, 0, none⟩ = some (.int .i64 a0_0) := (blk_cell BK101.out 0).trans rfl; have hcz7_1 : w5.cell? ⟨gb101, 1, none⟩ = some (.int .i64 a0_1) := (blk_cell BK101.out 1).trans rfl; have hfz7_0 := blk_frozen BK101.out 0; have hfz7_1 := blk_frozen BK101.out 1; have hcz8_0 : w5.cell? ⟨gb102, 0, none⟩ = some (.int .i64 a1_0) := (blk_cell BK102.out 0).trans rfl; have hcz8_1 : w5.cell? ⟨gb102, 1, none⟩ = some (.int .i64 a1_1) := (blk_cell BK102.out 1).trans rfl; have hfz8_0 := blk_frozen BK102.out 0; have hfz8_1 := blk_frozen BK102.out 1))
  go_ret
  exact ⟨by first | rfl | (simp [errW_none, errW_some] <;> rfl) | (simp [*, errW_none, errW_some] <;> rfl), by repeat (first | (with_reducible first | exact HB.out | apply below_alloc | apply pw_below_drewN | apply below_drew1 | refine below_set ?_ GE101.out | refine below_set ?_ GE102.out) | exact HB.out), (dS DR).out⟩
 ·
  rw [if_neg c3] at H
  have c3b0 : decide (a0_1 < a1_1) = false := decide_eq_false c3
  clear c3
  by_cases c9 : a0_1 = a1_1
  ·
   rw [if_pos c9] at H
   have c9b0 : (a0_1 == a1_1) = true := beq_iff_eq.mpr c9
   have c9b1 : (a0_1 != a1_1) = false := bne_eq_false_iff_eq.mpr c9
   clear c9
   obtain rfl := Option.some.inj H
   go_enter Try.func28, Try.ntmps28
   go_wp2_with (first | ((with_reducible refine gate_dst (N := 2) rfl ?_); refine box_eventD ?hg (N := 2) ?hd (cs := #[.int .i64 a0_0, .int .i64 a0_1]) (t := 48) ?hr ?_; (case hd => rfl); (case hg => rfl); (case hr => first | (go_simp; done) | (go_simp; rfl)); intro gb101 hg w10 hbox hb hd; replace DR := dD DR hd; have BK101 := aK (hbox); have GW101 := aK (gE hg (pS HB.out)); have GE101 := aK (gE hg (pS HB.out)); replace HB := bS HB hb; clear hb hd hbox hg) | ((with_reducible refine gate_dst (N := 3) rfl ?_); refine box_eventD ?hg (N := 3) ?hd (cs := #[.int .i64 a1_0, .int .i64 a1_1]) (t := 48) ?hr ?_; (case hd => rfl); (case hg => rfl); (case hr => first | (go_simp; done) | (go_simp; rfl)); intro gb102 hg w11 hbox hb hd; replace DR := dD DR hd; have BK102 := aK (hbox); have GW102 := aK (gE hg (pS HB.out)); have GE102 := aK (gE hg (pS HB.out)); have NB101_102 := aK (nL hg (pB BK101.out)); have NB102_101 := aK (nG hg (pB BK101.out)); replace BK101 := bB BK101 hb; replace HB := bS HB hb; clear hb hbox hg; have hnb12 := NB101_102.out; have hnc12 := NB102_101.out; have hcz13_0 : w11.cell? ⟨gb101, 0, none⟩ = some (.int .i64 a0_0) := (blk_cell BK101.out 0).trans rfl; have hcz13_1 : w11.cell? ⟨gb101, 1, none⟩ = some (.int .i64 a0_1) := (blk_cell BK101.out 1).trans rfl; have hfz13_0 := blk_frozen BK101.out 0; have hfz13_1 := blk_frozen BK101.out 1; have hcz14_0 : w11.cell? ⟨gb102, 0, none⟩ = some (.int .i64 a1_0) := (blk_cell BK102.out 0).trans rfl; have hcz14_1 : w11.cell? ⟨gb102, 1, none⟩ = some (.int .i64 a1_1) := (blk_cell BK102.out 1).trans rfl; have hfz14_0 := blk_frozen BK102.out 0; have hfz14_1 := blk_frozen BK102.out 1))
   go_ret
   exact ⟨by first | rfl | (simp [errW_none, errW_some] <;> rfl) | (simp [*, errW_none, errW_some] <;> rfl), by repeat (first | (with_reducible first | exact HB.out | apply below_alloc | apply pw_below_drewN | apply below_drew1 | refine below_set ?_ GE101.out | refine below_set ?_ GE102.out) | exact HB.out), (dS DR).out⟩
  ·
   rw [if_neg c9] at H
   have c9b0 : (a0_1 == a1_1) = false := beq_eq_false_iff_ne.mpr c9
   have c9b1 : (a0_1 != a1_1) = true := bne_iff_ne.mpr c9
   obtain rfl := Option.some.inj H
   go_enter Try.func28, Try.ntmps28
   go_wp2_with (first | ((with_reducible refine gate_dst (N := 2) rfl ?_); refine box_eventD ?hg (N := 2) ?hd (cs := #[.int .i64 a0_0, .int .i64 a0_1]) (t := 48) ?hr ?_; (case hd => rfl); (case hg => rfl); (case hr => first | (go_simp; done) | (go_simp; rfl)); intro gb101 hg w15 hbox hb hd; replace DR := dD DR hd; have BK101 := aK (hbox); have GW101 := aK (gE hg (pS HB.out)); have GE101 := aK (gE hg (pS HB.out)); replace HB := bS HB hb; clear hb hd hbox hg) | ((with_reducible refine gate_dst (N := 3) rfl ?_); refine box_eventD ?hg (N := 3) ?hd (cs := #[.int .i64 a1_0, .int .i64 a1_1]) (t := 48) ?hr ?_; (case hd => rfl); (case hg => rfl); (case hr => first | (go_simp; done) | (go_simp; rfl)); intro gb102 hg w16 hbox hb hd; replace DR := dD DR hd; have BK102 := aK (hbox); have GW102 := aK (gE hg (pS HB.out)); have GE102 := aK (gE hg (pS HB.out)); have NB101_102 := aK (nL hg (pB BK101.out)); have NB102_101 := aK (nG hg (pB BK101.out)); replace BK101 := bB BK101 hb; replace HB := bS HB hb; clear hb hbox hg; have hnb17 := NB101_102.out; have hnc17 := NB102_101.out; have hcz18_0 : w16.cell? ⟨gb101, 0, none⟩ = some (.int .i64 a0_0) := (blk_cell BK101.out 0).trans rfl; have hcz18_1 : w16.cell? ⟨gb101, 1, none⟩ = some (.int .i64 a0_1) := (blk_cell BK101.out 1).trans rfl; have hfz18_0 := blk_frozen BK101.out 0; have hfz18_1 := blk_frozen BK101.out 1; have hcz19_0 : w16.cell? ⟨gb102, 0, none⟩ = some (.int .i64 a1_0) := (blk_cell BK102.out 0).trans rfl; have hcz19_1 : w16.cell? ⟨gb102, 1, none⟩ = some (.int .i64 a1_1) := (blk_cell BK102.out 1).trans rfl; have hfz19_0 := blk_frozen BK102.out 0; have hfz19_1 := blk_frozen BK102.out 1))
   go_ret
   exact ⟨by first | rfl | (simp [errW_none, errW_some] <;> rfl) | (simp [*, errW_none, errW_some] <;> rfl), by repeat (first | (with_reducible first | exact HB.out | apply below_alloc | apply pw_below_drewN | apply below_drew1 | refine below_set ?_ GE101.out | refine below_set ?_ GE102.out) | exact HB.out), (dS DR).out⟩
theorem before_grown (a0_0 : Int) (a0_1 : Int) (a1_0 : Int) (a1_1 : Int) (r : Bool) (h : spec_l8Before.f a0_0 a0_1 a1_0 a1_1 = some r) (w : World) :
  Calls Try.prog 28 #[.agg #[.int .i64 a0_0, .int .i64 a0_1], .agg #[.int .i64 a1_0, .int .i64 a1_1]] w fun e w' => e = .returned (.bool r) ∧ ∃ q os', w' = Go.Sort.grow (w.drewN q) os' := by
  refine (spec_l8Before.lays a0_0 a0_1 a1_0 a1_1 r w h).mono ?_
  rintro e w' ⟨rfl, hb, hd⟩
  exact ⟨rfl, below_grow hb hd⟩
theorem eqA48 (d : Nat) (w : World) (x0 y0 : Int) (x1 y1 : Int) :
    (Op.equalIn (d + 2) 48 (.agg #[.int .i64 x0, .int .i64 x1]) (.agg #[.int .i64 y0, .int .i64 y1])).run Try.prog w = .ok (x0 == y0 && (x1 == y1)) w := by
  refine eqA_of Try.underlying48 (by kernel_rfl) ?_
  refine eqf_cons (by rfl) (by go_simp; rfl) (by go_simp; rfl) (by go_simp) ?_
  exact eqf_last (by rfl) (by go_simp; rfl) (by go_simp; rfl) (by go_simp)
end Go.Proofs.Ytnbpcacnbfbjkaa.P
namespace Go.Proofs.Ytnbpcacnbfbjkaa.P
attribute [local go_sem] max2_int min2_int max_two min_two max_three min_three max_four min_four
attribute [local go_sem high] eqA48
def spec_l8Loops.kl : Nat → List (List (S48)) → List (S48) → Int → Option Int
 | 0, _, _, _ => none
 | k + 1, x7, x11, x12 => if x12 > 0 then (if 0 < (x11.length : Int) then (if 0 ≤ (wrap64 (x12 - 1)) then (if (wrap64 (x12 - 1)) < (x7.length : Int) then (if 0 < ((rd_L3 x7 (wrap64 (x12 - 1))).length : Int) then ((spec_l8Before.f ((rd_T48 x11 0).f0) ((rd_T48 x11 0).f1) ((rd_T48 (rd_L3 x7 (wrap64 (x12 - 1))) 0).f0) ((rd_T48 (rd_L3 x7 (wrap64 (x12 - 1))) 0).f1)).bind fun t118 => (if t118 = true then (spec_l8Loops.kl k x7 x11 (wrap64 (x12 - 1))) else (if (((rd_T48 x11 0).f0) == ((rd_T48 (rd_L3 x7 (wrap64 (x12 - 1))) 0).f0) && (((rd_T48 x11 0).f1) == ((rd_T48 (rd_L3 x7 (wrap64 (x12 - 1))) 0).f1))) = true then (if (x11.length : Int) < ((rd_L3 x7 (wrap64 (x12 - 1))).length : Int) then (spec_l8Loops.kl k x7 x11 (wrap64 (x12 - 1))) else (some x12)) else (some x12)))) else (none)) else (none)) else (none)) else (none)) else (some x12)
def spec_l8Loops.l0 : Nat → List (List (S48)) → List (S64) → List Bool → Int → Option ((List (List (S48))))
 | 0, _, _, _, _ => none
 | k + 1, x7, x8, x9, x10 => if x10 < (x8.length : Int) then (if 0 ≤ x10 then (if x10 < (x9.length : Int) then (if rdOf false x9 x10 = true then (spec_l8Loops.l0 k x7 x8 x9 (wrap64 (x10 + 1))) else ((spec_l8Loop.f k x8 x10 x9).bind fun bt111 => ((spec_l8Loops.kl k x7 bt111.1 (x7.length : Int)).bind fun k2 => ((some (([] : List (List (S48))) : List (List (S48)))).bind fun y115 => (if 0 ≤ k2 then (if k2 ≤ (x7.length : Int) then ((some (x7.take (k2 : Int).toNat : List (List (S48)))).bind fun y118 => (if y115.length + y118.length < 5864062014805 then ((some (y115 ++ y118 : List (List (S48)))).bind fun y123 => ((some (([bt111.1] : List (List (S48))) : List (List (S48)))).bind fun y126 => (if y123.length + y126.length < 5864062014805 then ((some (y123 ++ y126 : List (List (S48)))).bind fun y129 => ((some (x7.drop (k2 : Int).toNat : List (List (S48)))).bind fun y132 => (if y129.length + y132.length < 5864062014805 then (spec_l8Loops.l0 k (y129 ++ y132) x8 bt111.2 (wrap64 (x10 + 1))) else (none)))) else (none)))) else (none))) else (none)) else (none)))))) else (none)) else (none)) else (some x7)
def spec_l8Loops.f (k : Nat) (a0 : Int) (a1 : Int) (l2 : List Int) : Option ((List (List (S48)))) := (spec_l8Sides.f k a0 a1 l2).bind fun t104 => (if 0 ≤ (t104.length : Int) then (if ((t104.length : Int) : Int).toNat ≤ 281474976710656 then (spec_l8Loops.l0 k (([] : List (List (S48)))) t104 (List.replicate ((t104.length : Int) : Int).toNat false) 0) else (none)) else (none))
def spec_l8Loops.T12 : Bool × List (List Nat × List Nat) := (true, [([], []), ([], []), ([], []), ([1, 2], [1, 2]), ([0, 3], [0, 3]), ([], []), ([5], [5]), ([4, 6, 4], [4, 6]), ([], []), ([], []), ([8, 9], [8, 9]), ([7, 10, 7], [7, 10]), ([11, 11, 0, 1, 2, 3, 4, 5, 6, 7, 8, 9, 10, 11], [1, 8, 11])])
def spec_l8Loops.B12 : List Nat := [0, 0, 0, 6, 15, 0, 32, 127, 0, 0, 768, 2047, 4095]
theorem spec_l8Loops.tab12 : rtab .any (opsOf Try.f16 12) = spec_l8Loops.T12 := by kernel_rfl
theorem spec_l8Loops.bits12 : waitsOk spec_l8Loops.T12.2 spec_l8Loops.B12 = true := by kernel_rfl
theorem cgw {w1 w2 : World} (hb : Below w1.heap.size w1 w2) {a : Addr} {v : Value} (h : w1.cell? a = some v) : ∀ n os, (Go.Sort.grow (w2.drewN n) os).cell? a = some v := fun n os =>
  have h2 := (hb.cell (World.block_lt_of_cell? w1 a h)).trans h
  Go.cell_grown (World.block_lt_of_cell? w2 a h2) h2 n os
theorem bgw {w1 w2 : World} (hb : Below w1.heap.size w1 w2) (n : Nat) (os : Array Obj) : Below w1.heap.size w1 (Go.Sort.grow (w2.drewN n) os) := by
 refine ⟨hb.os, hb.tape, hb.output, ?_, fun k hk => ?_⟩
 ·
  show w1.heap.size ≤ (w2.heap ++ os).size
  rw [Array.size_append]
  exact Nat.le_trans hb.size (Nat.le_add_right _ _)
 exact (Go.Sort.heap_grow_old (w2.drewN n) os (Nat.lt_of_lt_of_le hk hb.size)).trans (hb.block k hk)
open Go.Shelf Go.Sort BigFrame in
theorem spec_l8Loops.calls (k : Nat) (a0 : Int) (a1 : Int) (A2 : Option Addr) (c2 : Nat) (l2 : List Int) (r : List (List (S48))) (w : World) (hr2 : Kd.C (Kd.int .i64) w A2 l2.length l2) (hc2 : l2.length ≤ c2) (h : spec_l8Loops.f k a0 a1 l2 = some r) :
  Calls Try.prog 16 #[.int .i64 a0, .int .i64 a1, .slice A2 l2.length c2] w fun e w' => ∃ v0_ : Value, e = .returned (v0_) ∧ Kd.N (Kd.slice 48 k48) 36 w' w.heap.size (fun k_ => (w.heap.size ≤ k_)) v0_ r ∧ Below w.heap.size w w' := by
 have HR2 := aK hr2
 have HC2 := aK hc2
 clear hr2 hc2
 have HB := aK (Below.refl w.heap.size w)
 have H : ((spec_l8Sides.f k a0 a1 l2).bind fun t104 => (if 0 ≤ (t104.length : Int) then (if ((t104.length : Int) : Int).toNat ≤ 281474976710656 then (spec_l8Loops.l0 k (([] : List (List (S48)))) t104 (List.replicate ((t104.length : Int) : Int).toNat false) 0) else (none)) else (none))) = some r := h
 clear h
 obtain ⟨y101, hy101⟩ : ∃ y_ : List (List (S48)), y_ = (([] : List (List (S48)))) := ⟨_, rfl⟩
 replace H : ((spec_l8Sides.f k a0 a1 l2).bind fun t104 => (if 0 ≤ (t104.length : Int) then (if ((t104.length : Int) : Int).toNat ≤ 281474976710656 then (spec_l8Loops.l0 k y101 t104 (List.replicate ((t104.length : Int) : Int).toNat false) 0) else (none)) else (none))) = some r := by first | (rw [hy101]; first | with_reducible exact H | with_reducible exact (oS H :)) | with_reducible exact (oS H :) | with_reducible exact H | exact H
 have Ny101 := aK hy101
 clear hy101
 replace H := oA H
 obtain ⟨t104, A4, H⟩ := H
 replace H : (if 0 ≤ (t104.length : Int) then (if ((t104.length : Int) : Int).toNat ≤ 281474976710656 then (spec_l8Loops.l0 k y101 t104 (List.replicate ((t104.length : Int) : Int).toNat false) 0) else (none)) else (none)) = some r := H
 by_cases c5 : 0 ≤ (t104.length : Int)
 rotate_left
 ·
  rw [if_neg c5] at H
  exact absurd H (by simp)
 rw [if_pos c5] at H
 have c5b0 := eq_true c5
 have c5b1 : decide (0 ≤ (t104.length : Int)) = true := decide_eq_true c5
 clear c5
 by_cases c6 : ((t104.length : Int) : Int).toNat ≤ 281474976710656
 rotate_left
 ·
  rw [if_neg c6] at H
  exact absurd H (by simp)
 rw [if_pos c6] at H
 have c6b0 := eq_true c6
 have c6b1 : decide (((t104.length : Int) : Int).toNat ≤ 281474976710656) = true := decide_eq_true c6
 clear c6
 obtain ⟨y107, hy107⟩ : ∃ y_ : List Bool, y_ = (List.replicate ((t104.length : Int) : Int).toNat false) := ⟨_, rfl⟩
 replace H : (spec_l8Loops.l0 k y101 t104 y107 0) = some r := by first | (rw [hy107]; first | with_reducible exact H | with_reducible exact (oS H :)) | with_reducible exact (oS H :) | with_reducible exact H | exact H
 have Ny107 := aK hy107
 clear hy107
 have H' := aK H
 clear H
 go_enter Try.func16, Try.ntmps16
 go_wp2_with (first | ((with_reducible refine ga 13 rfl ?_); refine Kd.N_lit (Kd.slice 48 k48) _ 36 ?hg (N' := 13) ?hd (xs := ([] : List (List (S48)))) (inner := []) (ok := (fun k_ => (w.heap.size ≤ k_))) (okp := (fun k_ => (w.heap.size ≤ k_))) ?hr ?hp (fun _ hk => hk) ((show ∀ k_, w.heap.size ≤ k_ → (fun k_ => (w.heap.size ≤ k_)) k_ from fun k_ hk => (Nat.le_trans (below_size (pS HB.out)) hk)) _ (Nat.le_refl _)) (Below.refl _ _) (Nat.le_refl _) (by simp) ?_; (case hd => rfl); (case hg => rfl); (case hr => first | (go_simp; done) | (go_simp; rfl)); (case hp => exact (Reps.none _ _)); intro v102 w7 ho8 hb hg_ hnew_; clear hg_ hnew_; (first | rw [← Ny101.out] at ho8 | (simp only [Int.reduceToNat] at ho8; rw [← Ny101.out] at ho8)); have HO103 := aK (Kd.N_lower ho8 (below_size (pS HB.out))); replace HB := bS HB hb; clear hb ho8) | ((with_reducible refine gc 26 rfl ?_); refine gl (some 17) Try.func26 #[.int .i64 a0, .int .i64 a1, .slice A2 l2.length c2] ?_; (with_reducible refine (spec_l8Sides.calls k a0 a1 _ _ l2 t104 _ ?side1 ?side2 A4.out).mono ?_); (case side1 => exact cB HR2 HB); (case side2 => exact HC2.out); rintro e w9 ⟨v105, rfl, ho0, hb⟩; refine ⟨_, rfl, ?_⟩; replace HO103 := aK (Kd.N_elder' (by (with_reducible repeat (first | apply Kd.N_alloc | apply Kd.N_drewN | apply Kd.N_drew)); exact HO103.out) (Kd.R_base ho0) hb); have HO106 := aK (Kd.R_lower (Kd.R_newM (M := fun k_ => (w.heap.size ≤ k_)) ho0 (below_size (pS HB.out)) (fun k_ h_ => h_)) (below_size (pS HB.out))); replace HB := bS HB hb; (try clear hb); (try clear ho0); obtain ⟨Ao10, co10, eo10⟩ := Kd.R_slice HO106.out; subst eo10) | ((with_reducible refine ga 20 rfl ?_); refine Kd.R_make Kd.bool _ 4 rfl (N := 20) rfl 44 _ _ rfl (t104.length : Int) rfl rfl Try.underlying44 (.bool false) 1 info4 rfl (by decide) (by omega) false (ok := fun _ => True) (okp := fun _ => True) rfl (fun _ hk => hk) trivial (dA) (Nat.le_trans (Nat.mul_le_mul_right _ (dA : (t104.length : Int).toNat ≤ 281474976710656)) (by omega)) (Below.refl _ _) (Nat.le_refl _) ?_; intro v108 w11 ho12 hb hg_ hnew_; clear hg_ hnew_; (first | rw [← Ny107.out] at ho12 | (simp only [Int.reduceToNat] at ho12; rw [← Ny107.out] at ho12)); replace HO103 := aK (Kd.N_elder' (by (with_reducible repeat (first | apply Kd.N_alloc | apply Kd.N_drewN | apply Kd.N_drew)); exact HO103.out) (Kd.R_base ho12) hb); replace HO106 := rb HO106 hb; have HO109 := aK (Kd.R_lower (Kd.R_newM (M := fun k_ => (w.heap.size ≤ k_)) ho12 (below_size (pS HB.out)) (fun k_ h_ => h_)) (below_size (pS HB.out))); replace HB := bS HB hb; clear hb ho12))
 go_loopg [7, 10] k (fun kq v7 v10 w' => ∃ (x7_1 : List (List (S48))) (x9_1 : List Bool) (x10_1 : Int), v10 = .int .i64 x10_1 ∧ Aside0 (spec_l8Loops.l0 kq x7_1 t104 x9_1 x10_1 = some r) ∧ Aside0 (kq ≤ k) ∧ Aside0 (Kd.N (Kd.slice 48 k48) 36 w' w.heap.size (fun k_ => (w.heap.size ≤ k_) ∧ some k_ ≠ ((.slice Ao10 t104.length co10) : Value).ownBlock ∧ some k_ ≠ (v108 : Value).ownBlock) v7 x7_1) ∧ Aside0 (Kd.R k64 64 w' w.heap.size (fun k_ => (w.heap.size ≤ k_)) (.slice Ao10 t104.length co10) t104) ∧ Aside0 (Kd.R Kd.bool 4 w' w.heap.size (fun k_ => (w.heap.size ≤ k_)) v108 x9_1) ∧ Aside0 (Below w.heap.size w w'))
 case atStart => exact ⟨(y101), (y107), (0), (by first | rfl | (simp; done) | (simp [*]; done)), H', ⟨Nat.le_refl _⟩, ⟨by (with_reducible repeat (first | apply Kd.N_alloc | apply Kd.N_drewN | apply Kd.N_drew)); exact Kd.N_mono HO103.out (fun _ hk => ⟨hk.1.1, ⟨hk.1.2, hk.2⟩⟩)⟩, ⟨pR (Kd.R_mono HO106.out (fun _ hk => hk.1))⟩, ⟨pR (Kd.R_mono HO109.out (fun _ hk => hk.1))⟩, ⟨pT HB.out⟩⟩
 case round =>
 clear H'
 try clear c1
 try clear c2
 try clear p2
 try clear c5
 try clear c5b0
 try clear c5b1
 try clear c6
 try clear c6b0
 try clear c6b1
 obtain ⟨x7_1, x9_1, x10_1, rfl, HA, HK1, HO_7, HO_8, HO_9, HB⟩ := hrel
 cases gk with
 | zero => exact absurd HA.out (by simp [spec_l8Loops.l0])
 | succ k1 =>
 have H := HA.out
 clear HA
 simp only [spec_l8Loops.l0] at H
 by_cases c13 : x10_1 < (t104.length : Int)
 rotate_left
 ·
  rw [if_neg c13] at H
  have c13b0 : decide (x10_1 < (t104.length : Int)) = false := decide_eq_false c13
  clear c13
  obtain rfl := Option.some.inj H
  go_wp2
  go_ret
  exact ⟨_, er, by (with_reducible repeat (first | apply Kd.N_alloc | apply Kd.N_drewN | apply Kd.N_drew)); exact Kd.N_mono HO_7.out (fun _ hk => hk.1), pT HB.out⟩
 rw [if_pos c13] at H
 have c13b0 : decide (x10_1 < (t104.length : Int)) = true := decide_eq_true c13
 clear c13
 by_cases c14 : 0 ≤ x10_1
 rotate_left
 ·
  rw [if_neg c14] at H
  exact absurd H (by simp)
 rw [if_pos c14] at H
 have c14b0 : decide (0 ≤ x10_1) = true := decide_eq_true c14
 clear c14
 by_cases c15 : x10_1 < (x9_1.length : Int)
 rotate_left
 ·
  rw [if_neg c15] at H
  exact absurd H (by simp)
 rw [if_pos c15] at H
 have c15b0 : decide (x10_1 < (x9_1.length : Int)) = true := decide_eq_true c15
 clear c15
 obtain ⟨bq16, hbq16⟩ : ∃ b_ : Bool, b_ = (rdOf false x9_1 x10_1) := ⟨_, rfl⟩
 replace H : (if bq16 = true then (spec_l8Loops.l0 k1 x7_1 t104 x9_1 (wrap64 (x10_1 + 1))) else ((spec_l8Loop.f k1 t104 x10_1 x9_1).bind fun bt111 => ((spec_l8Loops.kl k1 x7_1 bt111.1 (x7_1.length : Int)).bind fun k2 => ((some (([] : List (List (S48))) : List (List (S48)))).bind fun y115 => (if 0 ≤ k2 then (if k2 ≤ (x7_1.length : Int) then ((some (x7_1.take (k2 : Int).toNat : List (List (S48)))).bind fun y118 => (if y115.length + y118.length < 5864062014805 then ((some (y115 ++ y118 : List (List (S48)))).bind fun y123 => ((some (([bt111.1] : List (List (S48))) : List (List (S48)))).bind fun y126 => (if y123.length + y126.length < 5864062014805 then ((some (y123 ++ y126 : List (List (S48)))).bind fun y129 => ((some (x7_1.drop (k2 : Int).toNat : List (List (S48)))).bind fun y132 => (if y129.length + y132.length < 5864062014805 then (spec_l8Loops.l0 k1 (y129 ++ y132) t104 bt111.2 (wrap64 (x10_1 + 1))) else (none)))) else (none)))) else (none))) else (none)) else (none)))))) = some r := by rw [← hbq16] at H; exact H
 have Nbq16 := aK hbq16
 clear hbq16
 by_cases c17 : bq16 = true
 ·
  subst c17
  have H1 : (spec_l8Loops.l0 k1 x7_1 t104 x9_1 (wrap64 (x10_1 + 1))) = some r := by rw [if_pos rfl] at H; exact H
  clear H; have H := H1; clear H1; have H' := aK H; clear H; obtain ⟨Ao18, co18, eo18⟩ := Kd.R_slice HO_9.out; subst eo18
  have p110 : 0 ≤ (x10_1 : Int) := dA
  have q110 : x10_1 < (x9_1.length : Int) := dA
  obtain ⟨ad110, e110, hx110_0⟩ := Kd.at_bool (Kd.R_reads' HO_9.out).2.2 x10_1 p110 q110
  (try rw [← Nbq16.out] at hx110_0)
  cases e110; replace p110 := eq_true p110; replace q110 := eq_true q110
  go_wp2
  go_roundg k1
  case measure => have := HK1.out; omega
  case rel => exact ⟨(x7_1), (x9_1), (wrap64 (x10_1 + 1)), (by first | rfl | (simp; done) | (simp [*]; done)), H', ⟨by have := HK1.out; omega⟩, ⟨by (with_reducible repeat (first | apply Kd.N_alloc | apply Kd.N_drewN | apply Kd.N_drew)); exact HO_7.out⟩, ⟨pR HO_8.out⟩, ⟨pR HO_9.out⟩, ⟨pT HB.out⟩⟩
 replace c17 := Bool.eq_false_iff.mpr c17
 subst c17
 have H1 : ((spec_l8Loop.f k1 t104 x10_1 x9_1).bind fun bt111 => ((spec_l8Loops.kl k1 x7_1 bt111.1 (x7_1.length : Int)).bind fun k2 => ((some (([] : List (List (S48))) : List (List (S48)))).bind fun y115 => (if 0 ≤ k2 then (if k2 ≤ (x7_1.length : Int) then ((some (x7_1.take (k2 : Int).toNat : List (List (S48)))).bind fun y118 => (if y115.length + y118.length < 5864062014805 then ((some (y115 ++ y118 : List (List (S48)))).bind fun y123 => ((some (([bt111.1] : List (List (S48))) : List (List (S48)))).bind fun y126 => (if y123.length + y126.length < 5864062014805 then ((some (y123 ++ y126 : List (List (S48)))).bind fun y129 => ((some (x7_1.drop (k2 : Int).toNat : List (List (S48)))).bind fun y132 => (if y129.length + y132.length < 5864062014805 then (spec_l8Loops.l0 k1 (y129 ++ y132) t104 bt111.2 (wrap64 (x10_1 + 1))) else (none)))) else (none)))) else (none))) else (none)) else (none))))) = some r := by rw [if_neg (show ¬ (false = true) by decide)] at H; exact H
 clear H
 have H := H1
 clear H1
 replace H := oA H
 obtain ⟨⟨t111, t114⟩, A19, H⟩ := H
 obtain ⟨ji20, KL0, H⟩ := oB H
 have KL := aK KL0
 clear KL0
 replace H : ((some (([] : List (List (S48))) : List (List (S48)))).bind fun y115 => (if 0 ≤ ji20 then (if ji20 ≤ (x7_1.length : Int) then ((some (x7_1.take (ji20 : Int).toNat : List (List (S48)))).bind fun y118 => (if y115.length + y118.length < 5864062014805 then ((some (y115 ++ y118 : List (List (S48)))).bind fun y123 => ((some (([t111] : List (List (S48))) : List (List (S48)))).bind fun y126 => (if y123.length + y126.length < 5864062014805 then ((some (y123 ++ y126 : List (List (S48)))).bind fun y129 => ((some (x7_1.drop (ji20 : Int).toNat : List (List (S48)))).bind fun y132 => (if y129.length + y132.length < 5864062014805 then (spec_l8Loops.l0 k1 (y129 ++ y132) t104 t114 (wrap64 (x10_1 + 1))) else (none)))) else (none)))) else (none))) else (none)) else (none))) = some r := H
 obtain ⟨y115, hy115⟩ : ∃ y_ : List (List (S48)), y_ = (([] : List (List (S48)))) := ⟨_, rfl⟩
 replace H : (if 0 ≤ ji20 then (if ji20 ≤ (x7_1.length : Int) then ((some (x7_1.take (ji20 : Int).toNat : List (List (S48)))).bind fun y118 => (if y115.length + y118.length < 5864062014805 then ((some (y115 ++ y118 : List (List (S48)))).bind fun y123 => ((some (([t111] : List (List (S48))) : List (List (S48)))).bind fun y126 => (if y123.length + y126.length < 5864062014805 then ((some (y123 ++ y126 : List (List (S48)))).bind fun y129 => ((some (x7_1.drop (ji20 : Int).toNat : List (List (S48)))).bind fun y132 => (if y129.length + y132.length < 5864062014805 then (spec_l8Loops.l0 k1 (y129 ++ y132) t104 t114 (wrap64 (x10_1 + 1))) else (none)))) else (none)))) else (none))) else (none)) else (none)) = some r := by first | (rw [hy115]; first | with_reducible exact H | with_reducible exact (oS H :)) | with_reducible exact (oS H :) | with_reducible exact H | exact H
 have Ny115 := aK hy115
 clear hy115
 by_cases c21 : 0 ≤ (ji20)
 rotate_left
 ·
  rw [if_neg c21] at H
  exact absurd H (by simp)
 rw [if_pos c21] at H
 have c21b0 := eq_true c21
 have c21b1 : decide (0 ≤ (ji20)) = true := decide_eq_true c21
 clear c21
 by_cases c22 : (ji20) ≤ (x7_1.length : Int)
 rotate_left
 ·
  rw [if_neg c22] at H
  exact absurd H (by simp)
 rw [if_pos c22] at H
 have c22b0 := eq_true c22
 have c22b1 : decide ((ji20) ≤ (x7_1.length : Int)) = true := decide_eq_true c22
 clear c22
 obtain ⟨y118, hy118⟩ : ∃ y_ : List (List (S48)), y_ = (x7_1.take ((ji20) : Int).toNat) := ⟨_, rfl⟩
 replace H : (if y115.length + y118.length < 5864062014805 then ((some (y115 ++ y118 : List (List (S48)))).bind fun y123 => ((some (([t111] : List (List (S48))) : List (List (S48)))).bind fun y126 => (if y123.length + y126.length < 5864062014805 then ((some (y123 ++ y126 : List (List (S48)))).bind fun y129 => ((some (x7_1.drop ((ji20) : Int).toNat : List (List (S48)))).bind fun y132 => (if y129.length + y132.length < 5864062014805 then (spec_l8Loops.l0 k1 (y129 ++ y132) t104 t114 (wrap64 (x10_1 + 1))) else (none)))) else (none)))) else (none)) = some r := by first | (rw [hy118]; first | with_reducible exact H | with_reducible exact (oS H :)) | with_reducible exact (oS H :) | with_reducible exact H | exact H
 have Ny118 := aK hy118
 clear hy118
 by_cases c23 : y115.length + y118.length < 5864062014805
 rotate_left
 ·
  rw [if_neg c23] at H
  exact absurd H (by simp)
 rw [if_pos c23] at H
 have LMc23 := aK c23
 clear c23
 obtain ⟨y123, hy123⟩ : ∃ y_ : List (List (S48)), y_ = (y115 ++ y118) := ⟨_, rfl⟩
 replace H : ((some (([t111] : List (List (S48))) : List (List (S48)))).bind fun y126 => (if y123.length + y126.length < 5864062014805 then ((some (y123 ++ y126 : List (List (S48)))).bind fun y129 => ((some (x7_1.drop ((ji20) : Int).toNat : List (List (S48)))).bind fun y132 => (if y129.length + y132.length < 5864062014805 then (spec_l8Loops.l0 k1 (y129 ++ y132) t104 t114 (wrap64 (x10_1 + 1))) else (none)))) else (none))) = some r := by first | (rw [hy123]; first | with_reducible exact H | with_reducible exact (oS H :)) | with_reducible exact (oS H :) | with_reducible exact H | exact H
 have Ny123 := aK hy123
 clear hy123
 obtain ⟨y126, hy126⟩ : ∃ y_ : List (List (S48)), y_ = (([t111] : List (List (S48)))) := ⟨_, rfl⟩
 replace H : (if y123.length + y126.length < 5864062014805 then ((some (y123 ++ y126 : List (List (S48)))).bind fun y129 => ((some (x7_1.drop ((ji20) : Int).toNat : List (List (S48)))).bind fun y132 => (if y129.length + y132.length < 5864062014805 then (spec_l8Loops.l0 k1 (y129 ++ y132) t104 t114 (wrap64 (x10_1 + 1))) else (none)))) else (none)) = some r := by first | (rw [hy126]; first | with_reducible exact H | with_reducible exact (oS H :)) | with_reducible exact (oS H :) | with_reducible exact H | exact H
 have Ny126 := aK hy126
 clear hy126
 by_cases c24 : y123.length + y126.length < 5864062014805
 rotate_left
 ·
  rw [if_neg c24] at H
  exact absurd H (by simp)
 rw [if_pos c24] at H
 have LMc24 := aK c24
 clear c24
 obtain ⟨y129, hy129⟩ : ∃ y_ : List (List (S48)), y_ = (y123 ++ y126) := ⟨_, rfl⟩
 replace H : ((some (x7_1.drop ((ji20) : Int).toNat : List (List (S48)))).bind fun y132 => (if y129.length + y132.length < 5864062014805 then (spec_l8Loops.l0 k1 (y129 ++ y132) t104 t114 (wrap64 (x10_1 + 1))) else (none))) = some r := by first | (rw [hy129]; first | with_reducible exact H | with_reducible exact (oS H :)) | with_reducible exact (oS H :) | with_reducible exact H | exact H
 have Ny129 := aK hy129
 clear hy129
 have c25b0 := eq_true (dA : 0 ≤ (ji20))
 have c26b0 := eq_true (dA : (ji20) ≤ (x7_1.length : Int))
 obtain ⟨y132, hy132⟩ : ∃ y_ : List (List (S48)), y_ = (x7_1.drop ((ji20) : Int).toNat) := ⟨_, rfl⟩
 replace H : (if y129.length + y132.length < 5864062014805 then (spec_l8Loops.l0 k1 (y129 ++ y132) t104 t114 (wrap64 (x10_1 + 1))) else (none)) = some r := by first | (rw [hy132]; first | with_reducible exact H | with_reducible exact (oS H :)) | with_reducible exact (oS H :) | with_reducible exact H | exact H
 have Ny132 := aK hy132
 clear hy132
 by_cases c27 : y129.length + y132.length < 5864062014805
 rotate_left
 ·
  rw [if_neg c27] at H
  exact absurd H (by simp)
 rw [if_pos c27] at H
 have LMc27 := aK c27
 clear c27
 obtain ⟨y137, hy137⟩ : ∃ y_ : List (List (S48)), y_ = (y129 ++ y132) := ⟨_, rfl⟩
 replace H : (spec_l8Loops.l0 k1 y137 t104 t114 (wrap64 (x10_1 + 1))) = some r := by first | (rw [hy137]; first | with_reducible exact H | with_reducible exact (oS H :)) | with_reducible exact (oS H :) | with_reducible exact H | exact H
 have Ny137 := aK hy137
 clear hy137
 have H' := aK H
 clear H
 obtain ⟨Ao28, co28, eo28⟩ := Kd.R_slice HO_9.out
 subst eo28
 have p110 : 0 ≤ (x10_1 : Int) := dA
 have q110 : x10_1 < (x9_1.length : Int) := dA
 obtain ⟨ad110, e110, hx110_0⟩ := Kd.at_bool (Kd.R_reads' HO_9.out).2.2 x10_1 p110 q110
 (try rw [← Nbq16.out] at hx110_0)
 cases e110
 replace p110 := eq_true p110
 replace q110 := eq_true q110
 go_upto_block 2 with (first | ((with_reducible refine gc 27 rfl ?_); refine gl (some 34) Try.func27 #[.slice Ao10 t104.length co10, .int .i64 x10_1, .slice (some ad110) x9_1.length co28] ?_; (with_reducible refine (spec_l8Loop.calls k1 _ _ t104 x10_1 (fun k_ => some k_ = (.slice (some ad110) x9_1.length co28 : Value).ownBlock) (.slice (some ad110) x9_1.length co28) x9_1 t111 t114 w _ ?side1 ?side2 ?side3 ?side4 A19.out).mono ?_); (case side1 => exact pT HB.out); (case side2 => exact Kd.C_kept_own ((Kd.R_apart' HO_8.out (Kd.R_typed HO_9.out) (by decide))) (fun k_ hk_ hs_ => (hk_.2) hs_)); (case side3 => exact (Kd.R_reads' HO_8.out).2.1); (case side4 => exact Kd.R_tight rfl HO_9.out); rintro e w29 ⟨v112, rfl, ho0, hy0, hb, hkp⟩; refine ⟨_, rfl, ?_⟩; replace HO_7 := aK (Kd.N_mono (ok' := fun k_ => (w.heap.size ≤ k_) ∧ some k_ ≠ (.slice Ao10 t104.length co10 : Value).ownBlock ∧ some k_ ≠ (.slice (some ad110) x9_1.length co28 : Value).ownBlock ∧ some k_ ≠ (v112 : Value).ownBlock) (Kd.N_keptB (HO_7.out) hkp (fun k_ hk_ hs_ => (hk_.2.2) hs_)) (fun k_ hk_ => ⟨hk_.1.1, hk_.1.2.1, hk_.1.2.2, fun e_ => Or.elim (ho0.1 k_ e_.symm) (fun hs_ => hk_.2.1 hs_) (fun hn_ => Nat.not_le.2 hk_.2.2 hn_)⟩)); replace HO_8 := aK (Kd.R_mono (ok' := fun k_ => (w.heap.size ≤ k_)) (Kd.R_keptB ((Kd.R_apart' HO_8.out (Kd.R_typed HO_9.out) (by decide))) hkp (fun k_ hk_ hs_ => (hk_.2) hs_)) (fun k_ hk_ => hk_.1.1)); have n2_ := aK (Kd.R_reok rfl hy0 (fun k_ e_ => HO_9.out.1 k_ e_)); have HO113 := aK (Kd.R_mono (ok' := fun k_ => (w.heap.size ≤ k_)) ho0 (fun k_ hk_ => Or.elim hk_ (fun hs_ => (HO_9.out.1 k_ (hs_).symm)) (fun hn_ => (Nat.le_trans (below_size (pS HB.out)) hn_)))); replace HB := aK (hb); clear HO_9; have HO_9 := n2_; clear n2_; (try clear hb); (try clear hkp); (try clear ho0); (try clear hy0); obtain ⟨Ao30, co30, eo30⟩ := Kd.N_slice HO_7.out; subst eo30))
 go_cut [12] (fun v12 wq => v12 = .int .i64 ji20 ∧ Aside0 (Below w29.heap.size w29 wq))
 case first =>
  obtain ⟨Ao32, co32, eo32⟩ := Kd.R_slice HO113.out; subst eo32
  go_wp2
  go_loopg [12] k1 (fun kq v12 w' => ∃ (x12_2 : Int), v12 = .int .i64 x12_2 ∧ Aside0 (spec_l8Loops.kl kq x7_1 t111 x12_2 = some ji20) ∧ Aside0 (kq ≤ k1) ∧ Aside0 (Below w29.heap.size w29 w'))
  case atStart => exact ⟨(x7_1.length : Int), rfl, KL, ⟨Nat.le_refl _⟩, ⟨Below.refl _ _⟩⟩
  case round =>
  obtain ⟨x12_2, rfl, HA, HK2, HBr⟩ := hrel
  cases gk with
  | zero => exact absurd HA.out (by simp [spec_l8Loops.kl])
  | succ k2 =>
  have H := HA.out; clear HA KL
  simp only [spec_l8Loops.kl] at H
  have mixed : Try.prog.follows Departure.mixedOrders = true := by kernel_rfl
  by_cases c23 : x12_2 > 0
  rotate_left
  ·
   rw [if_neg c23] at H
   have c23b0 : decide (0 < x12_2) = false := decide_eq_false c23
   clear c23; have H' := aK (Option.some.inj H); clear H
   go_wp2_with fail
   refine wp_region_quiet_grown (by assumption) (by kernel_rfl) ?_
   repeat (go_big_quiet_step (first | (go_at_call 28; refine Calls.grown_of (hc _))))
   refine wpQuiet_nil ?_
   intro _ hw'
   obtain ⟨⟨nq, osq⟩, hw''⟩ := hw'
   subst hw''
   have HB2 := aK (bgw HBr.out nq osq); clear HBr
   generalize Go.Sort.grow (wr.drewN nq) osq = w2 at HB2 ⊢
   clear nq osq
   go_wp2
   go_meet
   exact ⟨congrArg _ H'.out, HB2⟩
  rw [if_pos c23] at H
  have c23b0 : decide (0 < x12_2) = true := decide_eq_true c23
  clear c23
  by_cases c24 : 0 < (t111.length : Int)
  case neg => rw [if_neg c24] at H; exact absurd H (by simp)
  rw [if_pos c24] at H
  have c24b0 : decide (0 < (t111.length : Int)) = true := decide_eq_true c24
  have c24b1 : decide (0 < t111.length) = true := decide_eq_true (by omega)
  clear c24
  obtain ⟨ji25, hji25⟩ : ∃ j_ : Int, (wrap64 (x12_2 - 1)) = j_ := ⟨_, rfl⟩
  rw [hji25] at H
  have hji25w : (IntKind.i64.wrap (x12_2 - 1)) = ji25 := (i64_w _).trans hji25
  by_cases c26 : 0 ≤ (ji25)
  case neg => rw [if_neg c26] at H; exact absurd H (by simp)
  rw [if_pos c26] at H
  have c26b0 : decide (0 ≤ (ji25)) = true := decide_eq_true c26
  by_cases c27 : (ji25) < (x7_1.length : Int)
  case neg => rw [if_neg c27] at H; exact absurd H (by simp)
  rw [if_pos c27] at H
  have c27b0 : decide ((ji25) < (x7_1.length : Int)) = true := decide_eq_true c27
  by_cases c28 : 0 < ((rd_L3 x7_1 (ji25)).length : Int)
  case neg => rw [if_neg c28] at H; exact absurd H (by simp)
  rw [if_pos c28] at H
  have c28b0 : decide (0 < ((rd_L3 x7_1 (ji25)).length : Int)) = true := decide_eq_true c28
  have c28b1 : decide (0 < (rd_L3 x7_1 (ji25)).length) = true := decide_eq_true (by omega)
  clear c28; obtain ⟨t118, A290, H⟩ := oB H; have hc := before_grown _ _ _ _ t118 A290; clear A290
  have p115 : 0 ≤ (0 : Int) := (by omega)
  have q115 : 0 < (t111.length : Int) := dA
  obtain ⟨ad115, e115, hx115_0, hx115_1⟩ := at_T48 (Kd.R_reads' HO113.out).2.2 0 p115 q115; cases e115
  have qi115 : (0 < t111.length) = True := eq_true (by omega)
  (try rw [show ((0 : Int)).toNat = 0 from rfl] at hx115_0)
  (try rw [show 0 * 2 = 0 from rfl] at hx115_0)
  (try rw [Addr.add_zero'] at hx115_0)
  (try rw [show ((0 : Int)).toNat = 0 from rfl] at hx115_1)
  (try rw [show 0 * 2 = 0 from rfl] at hx115_1)
  (try rw [Addr.add_zero'] at hx115_1)
  obtain ⟨ad116, A116_0, c116_0, e116, hx116_0, hl116_0, hi116_0⟩ := at_L3 (Kd.N_reads' HO_7.out).2.2 (ji25) c26 c27; cases e116
  have q117 : 0 < ((rd_L3 x7_1 (ji25)).length : Int) := dA
  obtain ⟨ad117, e117, hx117_0, hx117_1⟩ := at_T48 hi116_0 0 p115 q117; cases e117
  have qi117 : (0 < (rd_L3 x7_1 (ji25)).length) = True := eq_true (by omega)
  (try rw [show ((0 : Int)).toNat = 0 from rfl] at hx117_0)
  (try rw [show 0 * 2 = 0 from rfl] at hx117_0)
  (try rw [Addr.add_zero'] at hx117_0)
  (try rw [show ((0 : Int)).toNat = 0 from rfl] at hx117_1)
  (try rw [show 0 * 2 = 0 from rfl] at hx117_1)
  (try rw [Addr.add_zero'] at hx117_1)
  have g115_0 := cgw HBr.out hx115_0; have g115_1 := cgw HBr.out hx115_1; have g116_0 := cgw HBr.out hx116_0; have g117_0 := cgw HBr.out hx117_0; have g117_1 := cgw HBr.out hx117_1; clear hx115_0 hx115_1 hx116_0 hx117_0 hx117_1 hi116_0 hl116_0 hji25 p115 q115 q117; replace c26 := eq_true c26; replace c27 := eq_true c27
  cases t118 with
  | true =>
   rw [if_pos rfl] at H; have H' := aK H; clear H
   go_wp2_with fail
   refine wp_region_quiet_grown (by assumption) (by kernel_rfl) ?_
   repeat (go_big_quiet_step (first | (go_at_call 28; refine Calls.grown_of (hc _))))
   refine wpQuiet_nil ?_
   intro _ hw'
   obtain ⟨⟨nq, osq⟩, hw''⟩ := hw'
   subst hw''
   have HB2 := aK (bgw HBr.out nq osq); clear HBr hc g115_0 g115_1 g116_0 g117_0 g117_1
   generalize Go.Sort.grow (wr.drewN nq) osq = w2 at HB2 ⊢
   clear nq osq
   go_wp2
   go_roundg k2
   case measure => have := HK2.out; omega
   case rel => exact ⟨ji25, by first | rfl | go_num, H', ⟨by have := HK2.out; omega⟩, HB2⟩
  | false =>
  rw [if_neg (by simp)] at H
  cases hE : (((rd_T48 t111 0).f0) == ((rd_T48 (rd_L3 x7_1 ji25) 0).f0) && (((rd_T48 t111 0).f1) == ((rd_T48 (rd_L3 x7_1 ji25) 0).f1))) with
  | true =>
   rw [if_pos hE] at H
   by_cases c31 : (t111.length : Int) < ((rd_L3 x7_1 ji25).length : Int)
   ·
    rw [if_pos c31] at H
    have c31b0 : decide ((t111.length : Int) < ((rd_L3 x7_1 ji25).length : Int)) = true := decide_eq_true c31
    have c31b1 : decide (t111.length < (rd_L3 x7_1 ji25).length) = true := decide_eq_true (by omega)
    clear c31; have H' := aK H; clear H
    go_wp2_with fail
    refine wp_region_quiet_grown (by assumption) (by kernel_rfl) ?_
    repeat (go_big_quiet_step (first | (go_at_call 28; refine Calls.grown_of (hc _))))
    refine wpQuiet_nil ?_
    intro _ hw'
    obtain ⟨⟨nq, osq⟩, hw''⟩ := hw'
    subst hw''
    have HB2 := aK (bgw HBr.out nq osq); clear HBr hc g115_0 g115_1 g116_0 g117_0 g117_1
    generalize Go.Sort.grow (wr.drewN nq) osq = w2 at HB2 ⊢
    clear nq osq
    go_wp2
    go_roundg k2
    case measure => have := HK2.out; omega
    case rel => exact ⟨ji25, by first | rfl | go_num, H', ⟨by have := HK2.out; omega⟩, HB2⟩
   rw [if_neg c31] at H
   have c31b0 : decide ((t111.length : Int) < ((rd_L3 x7_1 ji25).length : Int)) = false := decide_eq_false c31
   have c31b1 : decide (t111.length < (rd_L3 x7_1 ji25).length) = false := decide_eq_false (by omega)
   clear c31; have H' := aK (Option.some.inj H); clear H
   go_wp2_with fail
   refine wp_region_quiet_grown (by assumption) (by kernel_rfl) ?_
   repeat (go_big_quiet_step (first | (go_at_call 28; refine Calls.grown_of (hc _))))
   refine wpQuiet_nil ?_
   intro _ hw'
   obtain ⟨⟨nq, osq⟩, hw''⟩ := hw'
   subst hw''
   have HB2 := aK (bgw HBr.out nq osq); clear HBr hc g115_0 g115_1 g116_0 g117_0 g117_1
   generalize Go.Sort.grow (wr.drewN nq) osq = w2 at HB2 ⊢
   clear nq osq
   go_wp2
   go_meet
   exact ⟨congrArg _ H'.out, HB2⟩
  | false =>
  rw [if_neg (by rw [hE]; simp)] at H
  have H' := aK (Option.some.inj H); clear H
  go_wp2_with fail
  refine wp_region_quiet_grown (by assumption) (by kernel_rfl) ?_
  repeat (go_big_quiet_step (first | (go_at_call 28; refine Calls.grown_of (hc _))))
  refine wpQuiet_nil ?_
  intro _ hw'
  obtain ⟨⟨nq, osq⟩, hw''⟩ := hw'
  subst hw''
  have HB2 := aK (bgw HBr.out nq osq); clear HBr hc g115_0 g115_1 g116_0 g117_0 g117_1
  generalize Go.Sort.grow (wr.drewN nq) osq = w2 at HB2 ⊢
  clear nq osq
  go_wp2
  go_meet
  exact ⟨congrArg _ H'.out, HB2⟩
 obtain ⟨rfl, HQ⟩ := hcut
 replace HO_7 := aK (Kd.N_below HO_7.out HQ.out)
 replace HO_8 := aK (Kd.R_below HO_8.out HQ.out)
 replace HO_9 := aK (Kd.R_below HO_9.out HQ.out)
 replace HO113 := aK (Kd.R_below HO113.out HQ.out)
 replace HB := bS HB HQ.out
 clear HQ
 go_upto_region 12 with fail
 replace HO_7 := aK (Kd.N_drew HO_7.out)
 replace HO_8 := rdw HO_8
 replace HO_9 := rdw HO_9
 replace HO113 := rdw HO113
 replace HB := aK (below_drew1 HB.out)
 have q32 : ((ji20) : Int) ≤ ((x7_1.length : Int) : Int) := dA
 obtain ⟨i032, hi032, _, hsz32, _⟩ := info_parts info36
 have hroom32 : x7_1.length ≤ co30 := (Kd.N_reads' HO_7.out).2.1
 have hC32 : Kd.F (Kd.slice 48 k48) _ _ Ao30 x7_1.length x7_1 := (Kd.V_at (base := w.heap.size) (Kd.N_V HO_7.out)).2.2
 have hcut32 := cut_to (P := Try.prog) 28 36 .i64 Try.underlying28 hi032 Ao30 x7_1.length co30 (ji20) (dA) q32 hroom32
 have hr32 := Kd.F_take (m := ((ji20) : Int).toNat) hC32 (by omega)
 have hy32 : y118.length = ((ji20) : Int).toNat := (by rw [Ny118.out, List.length_take]; omega)
 rw [← Ny118.out] at hr32
 rw [← hy32] at hcut32
 have HO122 := aK (show Kd.V (Kd.slice 48 k48) 36 _ w.heap.size _ (.slice Ao30 y118.length co30) y118 from Kd.V_mk (by omega) hr32)
 have HC122 := aK (show y118.length ≤ co30 from by omega)
 clear hr32 hC32 hroom32 hi032 hsz32
 have KY32 := aK hy32
 clear hy32
 replace q32 := eq_true q32
 have q33 : ((ji20) : Int) ≤ ((x7_1.length : Int) : Int) := dA
 obtain ⟨i033, hi033, _, hsz33, _⟩ := info_parts info36
 have hroom33 : x7_1.length ≤ co30 := (Kd.N_reads' HO_7.out).2.1
 have hC33 : Kd.F (Kd.slice 48 k48) _ _ Ao30 x7_1.length x7_1 := (Kd.V_at (base := w.heap.size) (Kd.N_V HO_7.out)).2.2
 have q033 : (0 : Int) ≤ ((ji20) : Int) := dA
 have hcut33 := cut_from (P := Try.prog) 28 36 .i64 Try.underlying28 hi033 1 hsz33 Ao30 x7_1.length co30 (ji20) q033 q33
 have hr33 := Kd.F_cut (m := ((ji20) : Int).toNat) (c := co30) hC33 (by omega) hroom33
 obtain ⟨A33, hA33⟩ : ∃ A1, A1 = (if co30 = ((ji20) : Int).toNat then Ao30 else (Ao30 : Option Addr).map (·.add (((ji20) : Int).toNat * 1))) := ⟨_, rfl⟩
 obtain ⟨c33, hc33⟩ : ∃ c1, c1 = co30 - ((ji20) : Int).toNat := ⟨_, rfl⟩
 have hy33 : y132.length = x7_1.length - ((ji20) : Int).toNat := (by rw [Ny132.out, List.length_drop] <;> omega)
 rw [show (x7_1).drop ((ji20) : Int).toNat = y132 from Ny132.out.symm] at hr33
 replace hr33 : Kd.F (Kd.slice 48 k48) _ _ A33 y132.length y132 := (by rw [hA33]; exact hr33)
 rw [← hy33, ← hA33, ← hc33] at hcut33
 have HO136 := aK (show Kd.V (Kd.slice 48 k48) 36 _ w.heap.size _ (.slice A33 y132.length c33) y132 from Kd.V_mk (by rw [hy33, hc33]; exact Nat.sub_le_sub_right hroom33 _) hr33)
 have HC136 := aK (show y132.length ≤ c33 from by rw [hy33, hc33]; exact Nat.sub_le_sub_right hroom33 _)
 clear hr33 hC33 hroom33 hi033 hsz33 hc33
 have KY33 := aK hy33
 have KA33 := aK hA33
 clear hy33 hA33
 replace q33 := eq_true q33
 refine start_ (n := 13) (S := fun w' => True) (ds := []) (bz [0, 13]) (by kernel_rfl) rfl rfl trivial (fun hHeld => ?_); refine with_tabW spec_l8Loops.tab12 spec_l8Loops.bits12 (fun HT_ HW_ => ?_)
 generalize wc.drew = w31 at HO_7 HO_8 HO_9 HO113 HB HO122 HO136 hHeld ⊢
 refine pz 1 79 [0, 1, 1, 11] HT_ ?_
 refine pz 2 80 [0, 1, 2, 10] HT_ ?_
 refine pz 3 81 [0, 1, 3, 9] HT_ ?_
 refine pz 5 83 [0, 1, 3, 1, 1, 7] HT_ ?_
 refine pz 8 86 [0, 1, 3, 1, 1, 2, 1, 4] HT_ ?_
 refine pz 9 87 [0, 1, 3, 1, 1, 2, 2, 3] HT_ ?_
 refine pz 10 88 [0, 1, 3, 1, 1, 2, 3, 2] HT_ ?_
 refine join_ (σ := Value × Value × Value) 3 (bz [7, 1, 3, 2]) (fun s_ => [(78, s_.1), (82, s_.2.1), (84, s_.2.2)]) (fun s_ w' => (Kd.V (Kd.slice 48 k48) 36 w' w.heap.size (fun k_ => (w.heap.size ≤ k_) ∧ some k_ ≠ (s_.2.1 : Value).ownBlock ∧ some k_ ≠ (s_.2.2 : Value).ownBlock ∧ some k_ ≠ (.slice Ao10 t104.length co10 : Value).ownBlock ∧ some k_ ≠ (.slice (some ad110) x9_1.length co28 : Value).ownBlock) (.slice Ao30 y118.length co30) y118) ∧ (Kd.N (Kd.slice 48 k48) 36 w' w.heap.size (fun k_ => (w.heap.size ≤ k_) ∧ some k_ ≠ (s_.2.2 : Value).ownBlock ∧ some k_ ≠ (.slice Ao10 t104.length co10 : Value).ownBlock ∧ some k_ ≠ (.slice (some ad110) x9_1.length co28 : Value).ownBlock) s_.2.1 y123) ∧ (Kd.N (Kd.slice 48 k48) 36 w' w.heap.size (fun k_ => (w.heap.size ≤ k_) ∧ some k_ ≠ (s_.2.1 : Value).ownBlock ∧ some k_ ≠ (.slice Ao30 x7_1.length co30 : Value).ownBlock ∧ some k_ ≠ (.slice Ao10 t104.length co10 : Value).ownBlock ∧ some k_ ≠ (.slice (some ad110) x9_1.length co28 : Value).ownBlock) s_.2.2 y126) ∧ (Kd.V (Kd.slice 48 k48) 36 w' w.heap.size (fun k_ => (w.heap.size ≤ k_) ∧ some k_ ≠ (s_.2.1 : Value).ownBlock ∧ some k_ ≠ (s_.2.2 : Value).ownBlock ∧ some k_ ≠ (.slice Ao10 t104.length co10 : Value).ownBlock ∧ some k_ ≠ (.slice (some ad110) x9_1.length co28 : Value).ownBlock) (.slice A33 y132.length c33) y132) ∧ (Kd.N (Kd.slice 48 k48) 36 w' w.heap.size (fun k_ => (w.heap.size ≤ k_) ∧ some k_ ≠ (s_.2.1 : Value).ownBlock ∧ some k_ ≠ (s_.2.2 : Value).ownBlock ∧ some k_ ≠ (.slice Ao10 t104.length co10 : Value).ownBlock ∧ some k_ ≠ (.slice (some ad110) x9_1.length co28 : Value).ownBlock) (.slice Ao30 x7_1.length co30) x7_1) ∧ (Kd.R k64 64 w' w.heap.size (fun k_ => (w.heap.size ≤ k_)) (.slice Ao10 t104.length co10) t104) ∧ (Kd.R Kd.bool 4 w' w.heap.size (fun k_ => (w.heap.size ≤ k_)) (.slice (some ad110) x9_1.length co28) t114) ∧ (Below w.heap.size w w')) ?_ ?_
 rotate_left
 ·
  intro hCont
  refine two_ (i := 0) (j := 6) (Ni := some 78) (Nj := some 84) (bz [4, 1, 1, 2, 3, 2]) (bz [0, 1, 3, 1, 2, 1, 3, 2]) rfl rfl rfl rfl (two_of HT_.out (by kernel_rfl)) (by decide) (by decide) (fun K hK => ?_) (fun K hK => ?_)
  ·
   skip
   refine Kd.N_lit_step (Kd.slice 48 k48) _ 36 ?hg (N' := 78) ?hd (xs := ([] : List (List (S48)))) (inner := []) (ok := (fun k_ => (w.heap.size ≤ k_) ∧ some k_ ≠ (.slice Ao30 x7_1.length co30 : Value).ownBlock ∧ some k_ ≠ (.slice Ao10 t104.length co10 : Value).ownBlock ∧ some k_ ≠ (.slice (some ad110) x9_1.length co28 : Value).ownBlock ∧ some k_ ≠ (v112 : Value).ownBlock)) (okp := (fun k_ => (w.heap.size ≤ k_) ∧ some k_ ≠ (.slice Ao30 x7_1.length co30 : Value).ownBlock ∧ some k_ ≠ (.slice Ao10 t104.length co10 : Value).ownBlock ∧ some k_ ≠ (.slice (some ad110) x9_1.length co28 : Value).ownBlock ∧ some k_ ≠ (v112 : Value).ownBlock)) ?hr ?hp (fun _ hk => hk) ((show ∀ k_, w31.heap.size ≤ k_ → (fun k_ => (w.heap.size ≤ k_) ∧ some k_ ≠ (.slice Ao30 x7_1.length co30 : Value).ownBlock ∧ some k_ ≠ (.slice Ao10 t104.length co10 : Value).ownBlock ∧ some k_ ≠ (.slice (some ad110) x9_1.length co28 : Value).ownBlock ∧ some k_ ≠ (v112 : Value).ownBlock) k_ from fun k_ hk => ⟨(Nat.le_trans (below_size (pS HB.out)) hk), Kd.fresh' (Kd.N_lt (by (with_reducible repeat (first | apply Kd.N_alloc | apply Kd.N_drewN | apply Kd.N_drew)); exact HO_7.out)) k_ hk, Kd.fresh' (Kd.R_lt (pR HO_8.out)) k_ hk, Kd.fresh' (Kd.R_lt (pR HO_9.out)) k_ hk, Kd.fresh' (Kd.R_lt (pR HO113.out)) k_ hk⟩) _ (Nat.le_refl _)) (Below.refl _ _) (Nat.le_refl _) (by simp) ?_; (case hd => rfl); (case hg => rfl); (case hr => first | (go_simp; done) | (go_simp; rfl)); (case hp => exact (Reps.none _ _))
   intro v116 w34 ho35 hb hg_ hnew_
   clear hg_ hnew_
   (first | rw [← Ny115.out] at ho35 | (simp only [Int.reduceToNat] at ho35; rw [← Ny115.out] at ho35))
   replace HO_7 := aK (Kd.N_elder' (by (with_reducible repeat (first | apply Kd.N_alloc | apply Kd.N_drewN | apply Kd.N_drew)); exact HO_7.out) (Kd.N_base ho35) hb)
   replace HO_8 := rb HO_8 hb; replace HO_9 := rb HO_9 hb; replace HO113 := rb HO113 hb; replace HO122 := aK (Kd.V_elder' (pW HO122.out) (Kd.N_base ho35) hb); replace HO136 := aK (Kd.V_elder' (pW HO136.out) (Kd.N_base ho35) hb); have HO117 := aK (Kd.N_lower ho35 (below_size (pS HB.out))); replace HB := bS HB hb; clear hb ho35
   refine hK.out _ _ trivial (fun hHeld => ?_)
   clear hK K
   refine nm 78 ?_
   refine two_ (i := 4) (j := 6) (Ni := some 82) (Nj := some 84) (bz [6, 2, 3, 2]) (bz [4, 1, 2, 1, 3, 2]) rfl rfl rfl rfl (two_of HT_.out (by kernel_rfl)) (by decide) (by decide) (fun K hK => ?_) (fun K hK => ?_)
   ·
    skip
    refine Kd.N_append_rows_step (Kd.slice 48 k48) (w0 := w) w.heap.size (by rfl) (.tmp 78) (.tmp 81) 28 36 (.slice none 0 0) 24 rfl Try.underlying28 info36 rfl (by decide) (by omega) v116 y115 y118 _ _ _ (fun k_ => (w.heap.size ≤ k_) ∧ some k_ ≠ (.slice Ao10 t104.length co10 : Value).ownBlock ∧ some k_ ≠ (.slice (some ad110) x9_1.length co28 : Value).ownBlock ∧ some k_ ≠ (v112 : Value).ownBlock) (fun k_ => ((fun k_ => (w.heap.size ≤ k_) ∧ some k_ ≠ (.slice Ao10 t104.length co10 : Value).ownBlock ∧ some k_ ≠ (.slice (some ad110) x9_1.length co28 : Value).ownBlock ∧ some k_ ≠ (v112 : Value).ownBlock)) k_ ∧ some k_ ≠ (v116 : Value).ownBlock) rfl rfl ?aO ?aR (fun _ hk => hk) ?aF ?aB ?aS ?aL ?_
    (case aR => exact (by skip; exact Kd.V_F (Kd.V_mono (ok' := (fun k_ => ((fun k_ => (w.heap.size ≤ k_) ∧ some k_ ≠ (.slice Ao10 t104.length co10 : Value).ownBlock ∧ some k_ ≠ (.slice (some ad110) x9_1.length co28 : Value).ownBlock ∧ some k_ ≠ (v112 : Value).ownBlock)) k_ ∧ some k_ ≠ (v116 : Value).ownBlock)) (HO122.out) (fun k_ hk => ⟨⟨hk.1.1, ⟨hk.1.2.1, ⟨hk.1.2.2.1, hk.1.2.2.2⟩⟩⟩, hk.2⟩))))
    (case aB => exact (pS HB.out))
    (case aF => exact (fun k_ hk => ⟨(Nat.le_trans (below_size (pS HB.out)) hk), Kd.fresh' (Kd.R_lt (pR HO_8.out)) k_ hk, Kd.fresh' (Kd.R_lt (pR HO_9.out)) k_ hk, Kd.fresh' (Kd.R_lt (pR HO113.out)) k_ hk⟩))
    (case aO => exact (by (with_reducible repeat (first | apply Kd.N_alloc | apply Kd.N_drewN | apply Kd.N_drew)); exact Kd.N_mono HO117.out (fun _ hk => ⟨hk.1, ⟨hk.2.2.1, ⟨hk.2.2.2.1, hk.2.2.2.2⟩⟩⟩)))
    (case aS => exact (below_size (pS HB.out)))
    (case aL => have := LMc23.out; omega)
    intro v124 w36 ho hb hg hat
    rw [← Ny123.out] at ho
    replace HO_7 := aK (Kd.N_afterv (ok := (fun k_ => (w.heap.size ≤ k_) ∧ some k_ ≠ (.slice Ao10 t104.length co10 : Value).ownBlock ∧ some k_ ≠ (.slice (some ad110) x9_1.length co28 : Value).ownBlock ∧ some k_ ≠ (v112 : Value).ownBlock)) (by (with_reducible repeat (first | apply Kd.N_alloc | apply Kd.N_drewN | apply Kd.N_drew)); exact HO_7.out) hg hat)
    replace HO_8 := aK (Kd.R_over' (pR HO_8.out) (Kd.N_typed (by (with_reducible repeat (first | apply Kd.N_alloc | apply Kd.N_drewN | apply Kd.N_drew)); exact HO117.out)) (by decide) hg)
    replace HO_9 := aK (Kd.R_over' (pR HO_9.out) (Kd.N_typed (by (with_reducible repeat (first | apply Kd.N_alloc | apply Kd.N_drewN | apply Kd.N_drew)); exact HO117.out)) (by decide) hg)
    replace HO113 := aK (Kd.R_over' (pR HO113.out) (Kd.N_typed (by (with_reducible repeat (first | apply Kd.N_alloc | apply Kd.N_drewN | apply Kd.N_drew)); exact HO117.out)) (by decide) hg)
    replace HO122 := aK (Kd.V_afterv (ok := (fun k_ => (w.heap.size ≤ k_) ∧ some k_ ≠ (.slice Ao10 t104.length co10 : Value).ownBlock ∧ some k_ ≠ (.slice (some ad110) x9_1.length co28 : Value).ownBlock ∧ some k_ ≠ (v112 : Value).ownBlock)) (pW HO122.out) hg hat)
    replace HO136 := aK (Kd.V_afterv (ok := (fun k_ => (w.heap.size ≤ k_) ∧ some k_ ≠ (.slice Ao10 t104.length co10 : Value).ownBlock ∧ some k_ ≠ (.slice (some ad110) x9_1.length co28 : Value).ownBlock ∧ some k_ ≠ (v112 : Value).ownBlock)) (pW HO136.out) hg hat)
    replace HB := aK (hb); have HO125 := aK (ho); clear HO117; clear ho hb hg hat; obtain ⟨Ao37, co37, eo37⟩ := Kd.R_slice HO113.out
    (first | subst eo37 | (obtain ⟨f4_, f5_⟩ := sI eo37; subst f4_; subst f5_))
    refine hK.out _ _ trivial (fun hHeld => ?_)
    clear hK K
    refine nm 82 ?_
    refine oz 6 84 [7, 1, 3, 2] HT_ fun K hK => ?_
    refine Kd.N_lit_step (Kd.slice 48 k48) _ 36 ?hg (N' := 84) ?hd (xs := ([t111] : List (List (S48)))) (inner := [.slice Ao37 t111.length co37]) (ok := (fun k_ => (w.heap.size ≤ k_) ∧ some k_ ≠ (.slice Ao30 x7_1.length co30 : Value).ownBlock ∧ some k_ ≠ (.slice Ao10 t104.length co10 : Value).ownBlock ∧ some k_ ≠ (.slice (some ad110) x9_1.length co28 : Value).ownBlock ∧ some k_ ≠ (v124 : Value).ownBlock)) (okp := (fun k_ => (w.heap.size ≤ k_) ∧ some k_ ≠ (.slice Ao30 x7_1.length co30 : Value).ownBlock ∧ some k_ ≠ (.slice Ao10 t104.length co10 : Value).ownBlock ∧ some k_ ≠ (.slice (some ad110) x9_1.length co28 : Value).ownBlock ∧ some k_ ≠ (v124 : Value).ownBlock)) ?hr ?hp (fun _ hk => hk) ((show ∀ k_, w36.heap.size ≤ k_ → (fun k_ => (w.heap.size ≤ k_) ∧ some k_ ≠ (.slice Ao30 x7_1.length co30 : Value).ownBlock ∧ some k_ ≠ (.slice Ao10 t104.length co10 : Value).ownBlock ∧ some k_ ≠ (.slice (some ad110) x9_1.length co28 : Value).ownBlock ∧ some k_ ≠ (v124 : Value).ownBlock) k_ from fun k_ hk => ⟨(Nat.le_trans (below_size (pS HB.out)) hk), Kd.fresh' (Kd.N_lt (by (with_reducible repeat (first | apply Kd.N_alloc | apply Kd.N_drewN | apply Kd.N_drew)); exact HO_7.out)) k_ hk, Kd.fresh' (Kd.R_lt (pR HO_8.out)) k_ hk, Kd.fresh' (Kd.R_lt (pR HO_9.out)) k_ hk, Kd.fresh' (Kd.N_lt (by (with_reducible repeat (first | apply Kd.N_alloc | apply Kd.N_drewN | apply Kd.N_drew)); exact HO125.out)) k_ hk⟩) _ (Nat.le_refl _)) (Below.refl _ _) (Nat.le_refl _) (by simp) ?_; (case hd => rfl); (case hg => rfl); (case hr => first | (go_simp; done) | (go_simp; rfl)); (case hp => exact (Reps.one (show Kd.FK (Kd.slice 48 k48) _ _ t111 [.slice Ao37 t111.length co37] from (Kd.FK_slice_mk (Kd.R_reads' (Kd.R_mono (ok' := (fun k_ => (w.heap.size ≤ k_) ∧ some k_ ≠ (.slice Ao30 x7_1.length co30 : Value).ownBlock ∧ some k_ ≠ (.slice Ao10 t104.length co10 : Value).ownBlock ∧ some k_ ≠ (.slice (some ad110) x9_1.length co28 : Value).ownBlock ∧ some k_ ≠ (v124 : Value).ownBlock)) (Kd.R_apart' (Kd.R_apart' (Kd.R_apart' (Kd.R_apart' (HO113.out) (Kd.N_typed HO_7.out) (by decide)) (Kd.R_typed HO_8.out) (by decide)) (Kd.R_typed HO_9.out) (by decide)) (Kd.N_typed HO125.out) (by decide)) (fun k_ hk => ⟨hk.1.1.1.1, ⟨hk.1.1.1.2, ⟨hk.1.1.2, ⟨hk.1.2, hk.2⟩⟩⟩⟩))).2.1 (Kd.R_F (Kd.R_mono (ok' := (fun k_ => (w.heap.size ≤ k_) ∧ some k_ ≠ (.slice Ao30 x7_1.length co30 : Value).ownBlock ∧ some k_ ≠ (.slice Ao10 t104.length co10 : Value).ownBlock ∧ some k_ ≠ (.slice (some ad110) x9_1.length co28 : Value).ownBlock ∧ some k_ ≠ (v124 : Value).ownBlock)) (Kd.R_apart' (Kd.R_apart' (Kd.R_apart' (Kd.R_apart' (HO113.out) (Kd.N_typed HO_7.out) (by decide)) (Kd.R_typed HO_8.out) (by decide)) (Kd.R_typed HO_9.out) (by decide)) (Kd.N_typed HO125.out) (by decide)) (fun k_ hk => ⟨hk.1.1.1.1, ⟨hk.1.1.1.2, ⟨hk.1.1.2, ⟨hk.1.2, hk.2⟩⟩⟩⟩))))) (Reps.none _ _)))
    intro v127 w38 ho39 hb hg_ hnew_
    clear hg_ hnew_
    (first | rw [← Ny126.out] at ho39 | (simp only [Int.reduceToNat] at ho39; rw [← Ny126.out] at ho39))
    replace HO_7 := aK (Kd.N_elder' (by (with_reducible repeat (first | apply Kd.N_alloc | apply Kd.N_drewN | apply Kd.N_drew)); exact HO_7.out) (Kd.N_base ho39) hb)
    replace HO_8 := rb HO_8 hb; replace HO_9 := rb HO_9 hb; replace HO122 := aK (Kd.V_elder' (pW HO122.out) (Kd.N_base ho39) hb); replace HO136 := aK (Kd.V_elder' (pW HO136.out) (Kd.N_base ho39) hb)
    replace HO125 := aK (Kd.N_elder' (by (with_reducible repeat (first | apply Kd.N_alloc | apply Kd.N_drewN | apply Kd.N_drew)); exact HO125.out) (Kd.N_base ho39) hb)
    have HO128 := aK (Kd.N_lower ho39 (below_size (pS HB.out))); replace HB := bS HB hb; clear HO113; clear hb ho39
    refine hK.out _ _ trivial (fun hHeld => ?_)
    clear hK K
    refine nm 84 ?_
    exact norm_ (by simp only [putAll, Act.put, List.setIfInBounds_toArray, List.set_cons_zero, List.set_cons_succ]) (hCont (v116, v124, v127) _ ⟨(pW (Kd.V_mono HO122.out (fun _ hk => ⟨hk.1.1.1, ⟨hk.1.2, ⟨hk.2, ⟨hk.1.1.2.1, hk.1.1.2.2.1⟩⟩⟩⟩))), (by (with_reducible repeat (first | apply Kd.N_alloc | apply Kd.N_drewN | apply Kd.N_drew)); exact Kd.N_mono HO125.out (fun _ hk => ⟨hk.1.1, ⟨hk.2, ⟨hk.1.2.1, hk.1.2.2.1⟩⟩⟩)), (by (with_reducible repeat (first | apply Kd.N_alloc | apply Kd.N_drewN | apply Kd.N_drew)); exact Kd.N_mono HO128.out (fun _ hk => ⟨hk.1, ⟨hk.2.2.2.2, ⟨hk.2.1, ⟨hk.2.2.1, hk.2.2.2.1⟩⟩⟩⟩)), (pW (Kd.V_mono HO136.out (fun _ hk => ⟨hk.1.1.1, ⟨hk.1.2, ⟨hk.2, ⟨hk.1.1.2.1, hk.1.1.2.2.1⟩⟩⟩⟩))), (by (with_reducible repeat (first | apply Kd.N_alloc | apply Kd.N_drewN | apply Kd.N_drew)); exact Kd.N_mono HO_7.out (fun _ hk => ⟨hk.1.1.1, ⟨hk.1.2, ⟨hk.2, ⟨hk.1.1.2.1, hk.1.1.2.2.1⟩⟩⟩⟩)), (pR HO_8.out), (pR HO_9.out), (pS HB.out)⟩)
   skip
   obtain ⟨Ao36, co36, eo36⟩ := Kd.R_slice HO113.out; subst eo36
   refine Kd.N_lit_step (Kd.slice 48 k48) _ 36 ?hg (N' := 84) ?hd (xs := ([t111] : List (List (S48)))) (inner := [.slice Ao36 t111.length co36]) (ok := (fun k_ => (w.heap.size ≤ k_) ∧ some k_ ≠ (.slice Ao30 x7_1.length co30 : Value).ownBlock ∧ some k_ ≠ (.slice Ao10 t104.length co10 : Value).ownBlock ∧ some k_ ≠ (.slice (some ad110) x9_1.length co28 : Value).ownBlock ∧ some k_ ≠ (v116 : Value).ownBlock)) (okp := (fun k_ => (w.heap.size ≤ k_) ∧ some k_ ≠ (.slice Ao30 x7_1.length co30 : Value).ownBlock ∧ some k_ ≠ (.slice Ao10 t104.length co10 : Value).ownBlock ∧ some k_ ≠ (.slice (some ad110) x9_1.length co28 : Value).ownBlock ∧ some k_ ≠ (v116 : Value).ownBlock)) ?hr ?hp (fun _ hk => hk) ((show ∀ k_, w34.heap.size ≤ k_ → (fun k_ => (w.heap.size ≤ k_) ∧ some k_ ≠ (.slice Ao30 x7_1.length co30 : Value).ownBlock ∧ some k_ ≠ (.slice Ao10 t104.length co10 : Value).ownBlock ∧ some k_ ≠ (.slice (some ad110) x9_1.length co28 : Value).ownBlock ∧ some k_ ≠ (v116 : Value).ownBlock) k_ from fun k_ hk => ⟨(Nat.le_trans (below_size (pS HB.out)) hk), Kd.fresh' (Kd.N_lt (by (with_reducible repeat (first | apply Kd.N_alloc | apply Kd.N_drewN | apply Kd.N_drew)); exact HO_7.out)) k_ hk, Kd.fresh' (Kd.R_lt (pR HO_8.out)) k_ hk, Kd.fresh' (Kd.R_lt (pR HO_9.out)) k_ hk, Kd.fresh' (Kd.N_lt (by (with_reducible repeat (first | apply Kd.N_alloc | apply Kd.N_drewN | apply Kd.N_drew)); exact HO117.out)) k_ hk⟩) _ (Nat.le_refl _)) (Below.refl _ _) (Nat.le_refl _) (by simp) ?_; (case hd => rfl); (case hg => rfl); (case hr => first | (go_simp; done) | (go_simp; rfl)); (case hp => exact (Reps.one (show Kd.FK (Kd.slice 48 k48) _ _ t111 [.slice Ao36 t111.length co36] from (Kd.FK_slice_mk (Kd.R_reads' (Kd.R_mono (ok' := (fun k_ => (w.heap.size ≤ k_) ∧ some k_ ≠ (.slice Ao30 x7_1.length co30 : Value).ownBlock ∧ some k_ ≠ (.slice Ao10 t104.length co10 : Value).ownBlock ∧ some k_ ≠ (.slice (some ad110) x9_1.length co28 : Value).ownBlock ∧ some k_ ≠ (v116 : Value).ownBlock)) (Kd.R_apart' (Kd.R_apart' (Kd.R_apart' (Kd.R_apart' (HO113.out) (Kd.N_typed HO_7.out) (by decide)) (Kd.R_typed HO_8.out) (by decide)) (Kd.R_typed HO_9.out) (by decide)) (Kd.N_typed HO117.out) (by decide)) (fun k_ hk => ⟨hk.1.1.1.1, ⟨hk.1.1.1.2, ⟨hk.1.1.2, ⟨hk.1.2, hk.2⟩⟩⟩⟩))).2.1 (Kd.R_F (Kd.R_mono (ok' := (fun k_ => (w.heap.size ≤ k_) ∧ some k_ ≠ (.slice Ao30 x7_1.length co30 : Value).ownBlock ∧ some k_ ≠ (.slice Ao10 t104.length co10 : Value).ownBlock ∧ some k_ ≠ (.slice (some ad110) x9_1.length co28 : Value).ownBlock ∧ some k_ ≠ (v116 : Value).ownBlock)) (Kd.R_apart' (Kd.R_apart' (Kd.R_apart' (Kd.R_apart' (HO113.out) (Kd.N_typed HO_7.out) (by decide)) (Kd.R_typed HO_8.out) (by decide)) (Kd.R_typed HO_9.out) (by decide)) (Kd.N_typed HO117.out) (by decide)) (fun k_ hk => ⟨hk.1.1.1.1, ⟨hk.1.1.1.2, ⟨hk.1.1.2, ⟨hk.1.2, hk.2⟩⟩⟩⟩))))) (Reps.none _ _)))
   intro v127 w37 ho38 hb hg_ hnew_
   clear hg_ hnew_
   (first | rw [← Ny126.out] at ho38 | (simp only [Int.reduceToNat] at ho38; rw [← Ny126.out] at ho38))
   replace HO_7 := aK (Kd.N_elder' (by (with_reducible repeat (first | apply Kd.N_alloc | apply Kd.N_drewN | apply Kd.N_drew)); exact HO_7.out) (Kd.N_base ho38) hb)
   replace HO_8 := rb HO_8 hb; replace HO_9 := rb HO_9 hb; replace HO122 := aK (Kd.V_elder' (pW HO122.out) (Kd.N_base ho38) hb); replace HO136 := aK (Kd.V_elder' (pW HO136.out) (Kd.N_base ho38) hb)
   replace HO117 := aK (Kd.N_elder' (by (with_reducible repeat (first | apply Kd.N_alloc | apply Kd.N_drewN | apply Kd.N_drew)); exact HO117.out) (Kd.N_base ho38) hb)
   have HO128 := aK (Kd.N_lower ho38 (below_size (pS HB.out))); replace HB := bS HB hb; clear HO113; clear hb ho38
   refine hK.out _ _ trivial (fun hHeld => ?_)
   clear hK K
   refine nm 84 ?_
   refine oz 4 82 [7, 1, 3, 2] HT_ fun K hK => ?_
   refine Kd.N_append_rows_step (Kd.slice 48 k48) (w0 := w) w.heap.size (by rfl) (.tmp 78) (.tmp 81) 28 36 (.slice none 0 0) 24 rfl Try.underlying28 info36 rfl (by decide) (by omega) v116 y115 y118 _ _ _ (fun k_ => (w.heap.size ≤ k_) ∧ some k_ ≠ (.slice Ao10 t104.length co10 : Value).ownBlock ∧ some k_ ≠ (.slice (some ad110) x9_1.length co28 : Value).ownBlock ∧ some k_ ≠ (v127 : Value).ownBlock) (fun k_ => ((fun k_ => (w.heap.size ≤ k_) ∧ some k_ ≠ (.slice Ao10 t104.length co10 : Value).ownBlock ∧ some k_ ≠ (.slice (some ad110) x9_1.length co28 : Value).ownBlock ∧ some k_ ≠ (v127 : Value).ownBlock)) k_ ∧ some k_ ≠ (v116 : Value).ownBlock) rfl rfl ?aO ?aR (fun _ hk => hk) ?aF ?aB ?aS ?aL ?_
   (case aR => exact (by skip; exact Kd.V_F (Kd.V_mono (ok' := (fun k_ => ((fun k_ => (w.heap.size ≤ k_) ∧ some k_ ≠ (.slice Ao10 t104.length co10 : Value).ownBlock ∧ some k_ ≠ (.slice (some ad110) x9_1.length co28 : Value).ownBlock ∧ some k_ ≠ (v127 : Value).ownBlock)) k_ ∧ some k_ ≠ (v116 : Value).ownBlock)) (HO122.out) (fun k_ hk => ⟨⟨hk.1.1.1, ⟨hk.1.1.2.1, ⟨hk.1.1.2.2.1, hk.2⟩⟩⟩, hk.1.2⟩))))
   (case aB => exact (pS HB.out))
   (case aF => exact (fun k_ hk => ⟨(Nat.le_trans (below_size (pS HB.out)) hk), Kd.fresh' (Kd.R_lt (pR HO_8.out)) k_ hk, Kd.fresh' (Kd.R_lt (pR HO_9.out)) k_ hk, Kd.fresh' (Kd.N_lt (by (with_reducible repeat (first | apply Kd.N_alloc | apply Kd.N_drewN | apply Kd.N_drew)); exact HO128.out)) k_ hk⟩))
   (case aO => exact (by (with_reducible repeat (first | apply Kd.N_alloc | apply Kd.N_drewN | apply Kd.N_drew)); exact Kd.N_mono HO117.out (fun _ hk => ⟨hk.1.1, ⟨hk.1.2.2.1, ⟨hk.1.2.2.2.1, hk.2⟩⟩⟩)))
   (case aS => exact (below_size (pS HB.out)))
   (case aL => have := LMc23.out; omega)
   intro v124 w39 ho hb hg hat
   rw [← Ny123.out] at ho
   replace HO_7 := aK (Kd.N_afterv (ok := (fun k_ => (w.heap.size ≤ k_) ∧ some k_ ≠ (.slice Ao10 t104.length co10 : Value).ownBlock ∧ some k_ ≠ (.slice (some ad110) x9_1.length co28 : Value).ownBlock ∧ some k_ ≠ (v127 : Value).ownBlock)) (by (with_reducible repeat (first | apply Kd.N_alloc | apply Kd.N_drewN | apply Kd.N_drew)); exact Kd.N_mono HO_7.out (fun _ hk => ⟨⟨hk.1.1.1, ⟨hk.1.1.2.1, ⟨hk.1.1.2.2.1, hk.2⟩⟩⟩, hk.1.2⟩)) hg hat)
   replace HO_8 := aK (Kd.R_over' (pR HO_8.out) (Kd.N_typed (by (with_reducible repeat (first | apply Kd.N_alloc | apply Kd.N_drewN | apply Kd.N_drew)); exact HO117.out)) (by decide) hg)
   replace HO_9 := aK (Kd.R_over' (pR HO_9.out) (Kd.N_typed (by (with_reducible repeat (first | apply Kd.N_alloc | apply Kd.N_drewN | apply Kd.N_drew)); exact HO117.out)) (by decide) hg)
   replace HO122 := aK (Kd.V_afterv (ok := (fun k_ => (w.heap.size ≤ k_) ∧ some k_ ≠ (.slice Ao10 t104.length co10 : Value).ownBlock ∧ some k_ ≠ (.slice (some ad110) x9_1.length co28 : Value).ownBlock ∧ some k_ ≠ (v127 : Value).ownBlock)) (pW (Kd.V_mono HO122.out (fun _ hk => ⟨⟨hk.1.1.1, ⟨hk.1.1.2.1, ⟨hk.1.1.2.2.1, hk.2⟩⟩⟩, hk.1.2⟩))) hg hat)
   replace HO136 := aK (Kd.V_afterv (ok := (fun k_ => (w.heap.size ≤ k_) ∧ some k_ ≠ (.slice Ao10 t104.length co10 : Value).ownBlock ∧ some k_ ≠ (.slice (some ad110) x9_1.length co28 : Value).ownBlock ∧ some k_ ≠ (v127 : Value).ownBlock)) (pW (Kd.V_mono HO136.out (fun _ hk => ⟨⟨hk.1.1.1, ⟨hk.1.1.2.1, ⟨hk.1.1.2.2.1, hk.2⟩⟩⟩, hk.1.2⟩))) hg hat)
   replace HO128 := aK (Kd.N_afterv (ok := (fun k_ => (w.heap.size ≤ k_) ∧ some k_ ≠ (.slice Ao30 x7_1.length co30 : Value).ownBlock ∧ some k_ ≠ (.slice Ao10 t104.length co10 : Value).ownBlock ∧ some k_ ≠ (.slice (some ad110) x9_1.length co28 : Value).ownBlock)) (by (with_reducible repeat (first | apply Kd.N_alloc | apply Kd.N_drewN | apply Kd.N_drew)); exact Kd.N_mono HO128.out (fun _ hk => ⟨⟨hk.1, ⟨hk.2.1, ⟨hk.2.2.1, hk.2.2.2.1⟩⟩⟩, hk.2.2.2.2⟩)) hg hat)
   replace HB := aK (hb); have HO125 := aK (ho); clear HO117; clear ho hb hg hat
   refine hK.out _ _ trivial (fun hHeld => ?_)
   clear hK K
   refine nm 82 ?_
   exact norm_ (by simp only [putAll, Act.put, List.setIfInBounds_toArray, List.set_cons_zero, List.set_cons_succ]) (hCont (v116, v124, v127) _ ⟨(pW (Kd.V_mono HO122.out (fun _ hk => ⟨hk.1.1, ⟨hk.2, ⟨hk.1.2.2.2, ⟨hk.1.2.1, hk.1.2.2.1⟩⟩⟩⟩))), (by (with_reducible repeat (first | apply Kd.N_alloc | apply Kd.N_drewN | apply Kd.N_drew)); exact Kd.N_mono HO125.out (fun _ hk => ⟨hk.1, ⟨hk.2.2.2, ⟨hk.2.1, hk.2.2.1⟩⟩⟩)), (by (with_reducible repeat (first | apply Kd.N_alloc | apply Kd.N_drewN | apply Kd.N_drew)); exact Kd.N_mono HO128.out (fun _ hk => ⟨hk.1.1, ⟨hk.2, ⟨hk.1.2.1, ⟨hk.1.2.2.1, hk.1.2.2.2⟩⟩⟩⟩)), (pW (Kd.V_mono HO136.out (fun _ hk => ⟨hk.1.1, ⟨hk.2, ⟨hk.1.2.2.2, ⟨hk.1.2.1, hk.1.2.2.1⟩⟩⟩⟩))), (by (with_reducible repeat (first | apply Kd.N_alloc | apply Kd.N_drewN | apply Kd.N_drew)); exact Kd.N_mono HO_7.out (fun _ hk => ⟨hk.1.1, ⟨hk.2, ⟨hk.1.2.2.2, ⟨hk.1.2.1, hk.1.2.2.1⟩⟩⟩⟩)), (pR HO_8.out), (pR HO_9.out), (pS HB.out)⟩)
  skip
  obtain ⟨Ao34, co34, eo36⟩ := Kd.R_slice HO113.out; subst eo36
  refine Kd.N_lit_step (Kd.slice 48 k48) _ 36 ?hg (N' := 84) ?hd (xs := ([t111] : List (List (S48)))) (inner := [.slice Ao34 t111.length co34]) (ok := (fun k_ => (w.heap.size ≤ k_) ∧ some k_ ≠ (.slice Ao30 x7_1.length co30 : Value).ownBlock ∧ some k_ ≠ (.slice Ao10 t104.length co10 : Value).ownBlock ∧ some k_ ≠ (.slice (some ad110) x9_1.length co28 : Value).ownBlock)) (okp := (fun k_ => (w.heap.size ≤ k_) ∧ some k_ ≠ (.slice Ao30 x7_1.length co30 : Value).ownBlock ∧ some k_ ≠ (.slice Ao10 t104.length co10 : Value).ownBlock ∧ some k_ ≠ (.slice (some ad110) x9_1.length co28 : Value).ownBlock)) ?hr ?hp (fun _ hk => hk) ((show ∀ k_, w31.heap.size ≤ k_ → (fun k_ => (w.heap.size ≤ k_) ∧ some k_ ≠ (.slice Ao30 x7_1.length co30 : Value).ownBlock ∧ some k_ ≠ (.slice Ao10 t104.length co10 : Value).ownBlock ∧ some k_ ≠ (.slice (some ad110) x9_1.length co28 : Value).ownBlock) k_ from fun k_ hk => ⟨(Nat.le_trans (below_size (pS HB.out)) hk), Kd.fresh' (Kd.N_lt (by (with_reducible repeat (first | apply Kd.N_alloc | apply Kd.N_drewN | apply Kd.N_drew)); exact HO_7.out)) k_ hk, Kd.fresh' (Kd.R_lt (pR HO_8.out)) k_ hk, Kd.fresh' (Kd.R_lt (pR HO_9.out)) k_ hk⟩) _ (Nat.le_refl _)) (Below.refl _ _) (Nat.le_refl _) (by simp) ?_; (case hd => rfl); (case hg => rfl); (case hr => first | (go_simp; done) | (go_simp; rfl)); (case hp => exact (Reps.one (show Kd.FK (Kd.slice 48 k48) _ _ t111 [.slice Ao34 t111.length co34] from (Kd.FK_slice_mk (Kd.R_reads' (Kd.R_mono (ok' := (fun k_ => (w.heap.size ≤ k_) ∧ some k_ ≠ (.slice Ao30 x7_1.length co30 : Value).ownBlock ∧ some k_ ≠ (.slice Ao10 t104.length co10 : Value).ownBlock ∧ some k_ ≠ (.slice (some ad110) x9_1.length co28 : Value).ownBlock)) (Kd.R_apart' (Kd.R_apart' (Kd.R_apart' (HO113.out) (Kd.N_typed HO_7.out) (by decide)) (Kd.R_typed HO_8.out) (by decide)) (Kd.R_typed HO_9.out) (by decide)) (fun k_ hk => ⟨hk.1.1.1, ⟨hk.1.1.2, ⟨hk.1.2, hk.2⟩⟩⟩))).2.1 (Kd.R_F (Kd.R_mono (ok' := (fun k_ => (w.heap.size ≤ k_) ∧ some k_ ≠ (.slice Ao30 x7_1.length co30 : Value).ownBlock ∧ some k_ ≠ (.slice Ao10 t104.length co10 : Value).ownBlock ∧ some k_ ≠ (.slice (some ad110) x9_1.length co28 : Value).ownBlock)) (Kd.R_apart' (Kd.R_apart' (Kd.R_apart' (HO113.out) (Kd.N_typed HO_7.out) (by decide)) (Kd.R_typed HO_8.out) (by decide)) (Kd.R_typed HO_9.out) (by decide)) (fun k_ hk => ⟨hk.1.1.1, ⟨hk.1.1.2, ⟨hk.1.2, hk.2⟩⟩⟩))))) (Reps.none _ _)))
  intro v127 w35 ho36 hb hg_ hnew_
  clear hg_ hnew_
  (first | rw [← Ny126.out] at ho36 | (simp only [Int.reduceToNat] at ho36; rw [← Ny126.out] at ho36))
  replace HO_7 := aK (Kd.N_elder' (by (with_reducible repeat (first | apply Kd.N_alloc | apply Kd.N_drewN | apply Kd.N_drew)); exact HO_7.out) (Kd.N_base ho36) hb)
  replace HO_8 := rb HO_8 hb; replace HO_9 := rb HO_9 hb; replace HO122 := aK (Kd.V_elder' (pW HO122.out) (Kd.N_base ho36) hb); replace HO136 := aK (Kd.V_elder' (pW HO136.out) (Kd.N_base ho36) hb); have HO128 := aK (Kd.N_lower ho36 (below_size (pS HB.out))); replace HB := bS HB hb; clear HO113; clear hb ho36
  refine hK.out _ _ trivial (fun hHeld => ?_)
  clear hK K
  refine nm 84 ?_
  refine oz 0 78 [4, 1, 2, 1, 3, 2] HT_ fun K hK => ?_
  refine Kd.N_lit_step (Kd.slice 48 k48) _ 36 ?hg (N' := 78) ?hd (xs := ([] : List (List (S48)))) (inner := []) (ok := (fun k_ => (w.heap.size ≤ k_) ∧ some k_ ≠ (.slice Ao30 x7_1.length co30 : Value).ownBlock ∧ some k_ ≠ (.slice Ao10 t104.length co10 : Value).ownBlock ∧ some k_ ≠ (.slice (some ad110) x9_1.length co28 : Value).ownBlock ∧ some k_ ≠ (v127 : Value).ownBlock)) (okp := (fun k_ => (w.heap.size ≤ k_) ∧ some k_ ≠ (.slice Ao30 x7_1.length co30 : Value).ownBlock ∧ some k_ ≠ (.slice Ao10 t104.length co10 : Value).ownBlock ∧ some k_ ≠ (.slice (some ad110) x9_1.length co28 : Value).ownBlock ∧ some k_ ≠ (v127 : Value).ownBlock)) ?hr ?hp (fun _ hk => hk) ((show ∀ k_, w35.heap.size ≤ k_ → (fun k_ => (w.heap.size ≤ k_) ∧ some k_ ≠ (.slice Ao30 x7_1.length co30 : Value).ownBlock ∧ some k_ ≠ (.slice Ao10 t104.length co10 : Value).ownBlock ∧ some k_ ≠ (.slice (some ad110) x9_1.length co28 : Value).ownBlock ∧ some k_ ≠ (v127 : Value).ownBlock) k_ from fun k_ hk => ⟨(Nat.le_trans (below_size (pS HB.out)) hk), Kd.fresh' (Kd.N_lt (by (with_reducible repeat (first | apply Kd.N_alloc | apply Kd.N_drewN | apply Kd.N_drew)); exact HO_7.out)) k_ hk, Kd.fresh' (Kd.R_lt (pR HO_8.out)) k_ hk, Kd.fresh' (Kd.R_lt (pR HO_9.out)) k_ hk, Kd.fresh' (Kd.N_lt (by (with_reducible repeat (first | apply Kd.N_alloc | apply Kd.N_drewN | apply Kd.N_drew)); exact HO128.out)) k_ hk⟩) _ (Nat.le_refl _)) (Below.refl _ _) (Nat.le_refl _) (by simp) ?_; (case hd => rfl); (case hg => rfl); (case hr => first | (go_simp; done) | (go_simp; rfl)); (case hp => exact (Reps.none _ _))
  intro v116 w37 ho38 hb hg_ hnew_
  clear hg_ hnew_
  (first | rw [← Ny115.out] at ho38 | (simp only [Int.reduceToNat] at ho38; rw [← Ny115.out] at ho38))
  replace HO_7 := aK (Kd.N_elder' (by (with_reducible repeat (first | apply Kd.N_alloc | apply Kd.N_drewN | apply Kd.N_drew)); exact HO_7.out) (Kd.N_base ho38) hb)
  replace HO_8 := rb HO_8 hb; replace HO_9 := rb HO_9 hb; replace HO122 := aK (Kd.V_elder' (pW HO122.out) (Kd.N_base ho38) hb); replace HO136 := aK (Kd.V_elder' (pW HO136.out) (Kd.N_base ho38) hb)
  replace HO128 := aK (Kd.N_elder' (by (with_reducible repeat (first | apply Kd.N_alloc | apply Kd.N_drewN | apply Kd.N_drew)); exact HO128.out) (Kd.N_base ho38) hb)
  have HO117 := aK (Kd.N_lower ho38 (below_size (pS HB.out))); replace HB := bS HB hb; clear hb ho38
  refine hK.out _ _ trivial (fun hHeld => ?_)
  clear hK K
  refine nm 78 ?_
  refine oz 4 82 [7, 1, 3, 2] HT_ fun K hK => ?_
  refine Kd.N_append_rows_step (Kd.slice 48 k48) (w0 := w) w.heap.size (by rfl) (.tmp 78) (.tmp 81) 28 36 (.slice none 0 0) 24 rfl Try.underlying28 info36 rfl (by decide) (by omega) v116 y115 y118 _ _ _ (fun k_ => (w.heap.size ≤ k_) ∧ some k_ ≠ (.slice Ao10 t104.length co10 : Value).ownBlock ∧ some k_ ≠ (.slice (some ad110) x9_1.length co28 : Value).ownBlock ∧ some k_ ≠ (v127 : Value).ownBlock) (fun k_ => ((fun k_ => (w.heap.size ≤ k_) ∧ some k_ ≠ (.slice Ao10 t104.length co10 : Value).ownBlock ∧ some k_ ≠ (.slice (some ad110) x9_1.length co28 : Value).ownBlock ∧ some k_ ≠ (v127 : Value).ownBlock)) k_ ∧ some k_ ≠ (v116 : Value).ownBlock) rfl rfl ?aO ?aR (fun _ hk => hk) ?aF ?aB ?aS ?aL ?_
  (case aR => exact (by skip; exact Kd.V_F (Kd.V_mono (ok' := (fun k_ => ((fun k_ => (w.heap.size ≤ k_) ∧ some k_ ≠ (.slice Ao10 t104.length co10 : Value).ownBlock ∧ some k_ ≠ (.slice (some ad110) x9_1.length co28 : Value).ownBlock ∧ some k_ ≠ (v127 : Value).ownBlock)) k_ ∧ some k_ ≠ (v116 : Value).ownBlock)) (HO122.out) (fun k_ hk => ⟨⟨hk.1.1.1, ⟨hk.1.1.2.1, ⟨hk.1.1.2.2.1, hk.1.2⟩⟩⟩, hk.2⟩))))
  (case aB => exact (pS HB.out))
  (case aF => exact (fun k_ hk => ⟨(Nat.le_trans (below_size (pS HB.out)) hk), Kd.fresh' (Kd.R_lt (pR HO_8.out)) k_ hk, Kd.fresh' (Kd.R_lt (pR HO_9.out)) k_ hk, Kd.fresh' (Kd.N_lt (by (with_reducible repeat (first | apply Kd.N_alloc | apply Kd.N_drewN | apply Kd.N_drew)); exact HO128.out)) k_ hk⟩))
  (case aO => exact (by (with_reducible repeat (first | apply Kd.N_alloc | apply Kd.N_drewN | apply Kd.N_drew)); exact Kd.N_mono HO117.out (fun _ hk => ⟨hk.1, ⟨hk.2.2.1, ⟨hk.2.2.2.1, hk.2.2.2.2⟩⟩⟩)))
  (case aS => exact (below_size (pS HB.out)))
  (case aL => have := LMc23.out; omega)
  intro v124 w39 ho hb hg hat
  rw [← Ny123.out] at ho
  replace HO_7 := aK (Kd.N_afterv (ok := (fun k_ => (w.heap.size ≤ k_) ∧ some k_ ≠ (.slice Ao10 t104.length co10 : Value).ownBlock ∧ some k_ ≠ (.slice (some ad110) x9_1.length co28 : Value).ownBlock ∧ some k_ ≠ (v127 : Value).ownBlock)) (by (with_reducible repeat (first | apply Kd.N_alloc | apply Kd.N_drewN | apply Kd.N_drew)); exact Kd.N_mono HO_7.out (fun _ hk => ⟨⟨hk.1.1.1, ⟨hk.1.1.2.1, ⟨hk.1.1.2.2.1, hk.1.2⟩⟩⟩, hk.2⟩)) hg hat)
  replace HO_8 := aK (Kd.R_over' (pR HO_8.out) (Kd.N_typed (by (with_reducible repeat (first | apply Kd.N_alloc | apply Kd.N_drewN | apply Kd.N_drew)); exact HO117.out)) (by decide) hg)
  replace HO_9 := aK (Kd.R_over' (pR HO_9.out) (Kd.N_typed (by (with_reducible repeat (first | apply Kd.N_alloc | apply Kd.N_drewN | apply Kd.N_drew)); exact HO117.out)) (by decide) hg)
  replace HO122 := aK (Kd.V_afterv (ok := (fun k_ => (w.heap.size ≤ k_) ∧ some k_ ≠ (.slice Ao10 t104.length co10 : Value).ownBlock ∧ some k_ ≠ (.slice (some ad110) x9_1.length co28 : Value).ownBlock ∧ some k_ ≠ (v127 : Value).ownBlock)) (pW (Kd.V_mono HO122.out (fun _ hk => ⟨⟨hk.1.1.1, ⟨hk.1.1.2.1, ⟨hk.1.1.2.2.1, hk.1.2⟩⟩⟩, hk.2⟩))) hg hat)
  replace HO136 := aK (Kd.V_afterv (ok := (fun k_ => (w.heap.size ≤ k_) ∧ some k_ ≠ (.slice Ao10 t104.length co10 : Value).ownBlock ∧ some k_ ≠ (.slice (some ad110) x9_1.length co28 : Value).ownBlock ∧ some k_ ≠ (v127 : Value).ownBlock)) (pW (Kd.V_mono HO136.out (fun _ hk => ⟨⟨hk.1.1.1, ⟨hk.1.1.2.1, ⟨hk.1.1.2.2.1, hk.1.2⟩⟩⟩, hk.2⟩))) hg hat)
  replace HO128 := aK (Kd.N_afterv (ok := (fun k_ => (w.heap.size ≤ k_) ∧ some k_ ≠ (.slice Ao30 x7_1.length co30 : Value).ownBlock ∧ some k_ ≠ (.slice Ao10 t104.length co10 : Value).ownBlock ∧ some k_ ≠ (.slice (some ad110) x9_1.length co28 : Value).ownBlock)) (by (with_reducible repeat (first | apply Kd.N_alloc | apply Kd.N_drewN | apply Kd.N_drew)); exact HO128.out) hg hat)
  replace HB := aK (hb); have HO125 := aK (ho); clear HO117; clear ho hb hg hat
  refine hK.out _ _ trivial (fun hHeld => ?_)
  clear hK K
  refine nm 82 ?_
  exact norm_ (by simp only [putAll, Act.put, List.setIfInBounds_toArray, List.set_cons_zero, List.set_cons_succ]) (hCont (v116, v124, v127) _ ⟨(pW (Kd.V_mono HO122.out (fun _ hk => ⟨hk.1.1, ⟨hk.2, ⟨hk.1.2.2.2, ⟨hk.1.2.1, hk.1.2.2.1⟩⟩⟩⟩))), (by (with_reducible repeat (first | apply Kd.N_alloc | apply Kd.N_drewN | apply Kd.N_drew)); exact Kd.N_mono HO125.out (fun _ hk => ⟨hk.1, ⟨hk.2.2.2, ⟨hk.2.1, hk.2.2.1⟩⟩⟩)), (by (with_reducible repeat (first | apply Kd.N_alloc | apply Kd.N_drewN | apply Kd.N_drew)); exact Kd.N_mono HO128.out (fun _ hk => ⟨hk.1.1, ⟨hk.2, ⟨hk.1.2.1, ⟨hk.1.2.2.1, hk.1.2.2.2⟩⟩⟩⟩)), (pW (Kd.V_mono HO136.out (fun _ hk => ⟨hk.1.1, ⟨hk.2, ⟨hk.1.2.2.2, ⟨hk.1.2.1, hk.1.2.2.1⟩⟩⟩⟩))), (by (with_reducible repeat (first | apply Kd.N_alloc | apply Kd.N_drewN | apply Kd.N_drew)); exact Kd.N_mono HO_7.out (fun _ hk => ⟨hk.1.1, ⟨hk.2, ⟨hk.1.2.2.2, ⟨hk.1.2.1, hk.1.2.2.1⟩⟩⟩⟩)), (pR HO_8.out), (pR HO_9.out), (pS HB.out)⟩)
 rintro ⟨v116, v124, v127⟩ w40 ⟨h0_, h1_, h2_, h3_, h4_, h5_, h6_, h7_⟩
 have n0_ : Aside0 (Kd.V (Kd.slice 48 k48) 36 w40 w.heap.size (fun k_ => (w.heap.size ≤ k_) ∧ some k_ ≠ (v124 : Value).ownBlock ∧ some k_ ≠ (v127 : Value).ownBlock ∧ some k_ ≠ (.slice Ao10 t104.length co10 : Value).ownBlock ∧ some k_ ≠ (.slice (some ad110) x9_1.length co28 : Value).ownBlock) (.slice Ao30 y118.length co30) y118) := ⟨h0_⟩
 have n1_ : Aside0 (Kd.N (Kd.slice 48 k48) 36 w40 w.heap.size (fun k_ => (w.heap.size ≤ k_) ∧ some k_ ≠ (v127 : Value).ownBlock ∧ some k_ ≠ (.slice Ao10 t104.length co10 : Value).ownBlock ∧ some k_ ≠ (.slice (some ad110) x9_1.length co28 : Value).ownBlock) v124 y123) := ⟨h1_⟩
 have n2_ : Aside0 (Kd.N (Kd.slice 48 k48) 36 w40 w.heap.size (fun k_ => (w.heap.size ≤ k_) ∧ some k_ ≠ (v124 : Value).ownBlock ∧ some k_ ≠ (.slice Ao30 x7_1.length co30 : Value).ownBlock ∧ some k_ ≠ (.slice Ao10 t104.length co10 : Value).ownBlock ∧ some k_ ≠ (.slice (some ad110) x9_1.length co28 : Value).ownBlock) v127 y126) := ⟨h2_⟩
 have n3_ : Aside0 (Kd.V (Kd.slice 48 k48) 36 w40 w.heap.size (fun k_ => (w.heap.size ≤ k_) ∧ some k_ ≠ (v124 : Value).ownBlock ∧ some k_ ≠ (v127 : Value).ownBlock ∧ some k_ ≠ (.slice Ao10 t104.length co10 : Value).ownBlock ∧ some k_ ≠ (.slice (some ad110) x9_1.length co28 : Value).ownBlock) (.slice A33 y132.length c33) y132) := ⟨h3_⟩
 replace HO_7 : Aside0 (Kd.N (Kd.slice 48 k48) 36 w40 w.heap.size (fun k_ => (w.heap.size ≤ k_) ∧ some k_ ≠ (v124 : Value).ownBlock ∧ some k_ ≠ (v127 : Value).ownBlock ∧ some k_ ≠ (.slice Ao10 t104.length co10 : Value).ownBlock ∧ some k_ ≠ (.slice (some ad110) x9_1.length co28 : Value).ownBlock) (.slice Ao30 x7_1.length co30) x7_1) := ⟨h4_⟩
 replace HO_8 : Aside0 (Kd.R k64 64 w40 w.heap.size (fun k_ => (w.heap.size ≤ k_)) (.slice Ao10 t104.length co10) t104) := ⟨h5_⟩
 replace HO_9 : Aside0 (Kd.R Kd.bool 4 w40 w.heap.size (fun k_ => (w.heap.size ≤ k_)) (.slice (some ad110) x9_1.length co28) t114) := ⟨h6_⟩
 replace HB : Aside0 (Below w.heap.size w w40) := ⟨h7_⟩
 clear HO113 h0_ h1_ h2_ h3_ h4_ h5_ h6_ h7_
 have HO122 := n0_
 have HO125 := n1_
 have HO128 := n2_
 have HO136 := n3_
 clear n0_ n1_ n2_ n3_
 have hHeld := trivial
 obtain ⟨Ao42, co42, eo42⟩ := Kd.N_slice HO128.out
 (first | subst eo42 | (obtain ⟨f4_, f5_⟩ := sI eo42; subst f4_; subst f5_))
 refine norm_ (a' := ?_) ?_ ?_
 rotate_left
 ·
  simp only [putAll, Act.put, List.setIfInBounds_toArray, List.set_cons_zero, List.set_cons_succ]
  rfl
 refine oz 7 85 [11, 2] HT_ fun K hK => ?_
 refine Kd.N_append_rows_step (Kd.slice 48 k48) (w0 := w) w.heap.size (by rfl) (.tmp 82) (.tmp 84) 28 36 (.slice none 0 0) 24 rfl Try.underlying28 info36 rfl (by decide) (by omega) v124 y123 y126 _ _ _ (fun k_ => (w.heap.size ≤ k_) ∧ some k_ ≠ (.slice Ao10 t104.length co10 : Value).ownBlock ∧ some k_ ≠ (.slice (some ad110) x9_1.length co28 : Value).ownBlock) (fun k_ => ((fun k_ => (w.heap.size ≤ k_) ∧ some k_ ≠ (.slice Ao10 t104.length co10 : Value).ownBlock ∧ some k_ ≠ (.slice (some ad110) x9_1.length co28 : Value).ownBlock)) k_ ∧ some k_ ≠ (v124 : Value).ownBlock) rfl rfl ?aO ?aR (fun _ hk => hk) ?aF ?aB ?aS ?aL ?_
 (case aR => exact (by skip; exact Kd.N_F (Kd.N_mono (ok' := (fun k_ => ((fun k_ => (w.heap.size ≤ k_) ∧ some k_ ≠ (.slice Ao10 t104.length co10 : Value).ownBlock ∧ some k_ ≠ (.slice (some ad110) x9_1.length co28 : Value).ownBlock)) k_ ∧ some k_ ≠ (v124 : Value).ownBlock)) (HO128.out) (fun k_ hk => ⟨⟨hk.1, ⟨hk.2.2.2.1, hk.2.2.2.2⟩⟩, hk.2.1⟩))))
 (case aB => exact (pS HB.out))
 (case aF => exact (fun k_ hk => ⟨(Nat.le_trans (below_size (pS HB.out)) hk), Kd.fresh' (Kd.R_lt (pR HO_8.out)) k_ hk, Kd.fresh' (Kd.R_lt (pR HO_9.out)) k_ hk⟩))
 (case aO => exact (by (with_reducible repeat (first | apply Kd.N_alloc | apply Kd.N_drewN | apply Kd.N_drew)); exact Kd.N_mono HO125.out (fun _ hk => ⟨hk.1, ⟨hk.2.2.1, hk.2.2.2⟩⟩)))
 (case aS => exact (below_size (pS HB.out)))
 (case aL => have := LMc24.out; omega)
 intro v130 w41 ho hb hg hat
 rw [← Ny129.out] at ho
 replace HO_7 := aK (Kd.N_afterv (ok := (fun k_ => (w.heap.size ≤ k_) ∧ some k_ ≠ (.slice Ao10 t104.length co10 : Value).ownBlock ∧ some k_ ≠ (.slice (some ad110) x9_1.length co28 : Value).ownBlock ∧ some k_ ≠ (.slice Ao42 y126.length co42 : Value).ownBlock)) (by (with_reducible repeat (first | apply Kd.N_alloc | apply Kd.N_drewN | apply Kd.N_drew)); exact Kd.N_mono HO_7.out (fun _ hk => ⟨⟨hk.1, ⟨hk.2.2.2.1, ⟨hk.2.2.2.2, hk.2.2.1⟩⟩⟩, hk.2.1⟩)) hg hat)
 replace HO_8 := aK (Kd.R_over' (pR HO_8.out) (Kd.N_typed (by (with_reducible repeat (first | apply Kd.N_alloc | apply Kd.N_drewN | apply Kd.N_drew)); exact HO125.out)) (by decide) hg)
 replace HO_9 := aK (Kd.R_over' (pR HO_9.out) (Kd.N_typed (by (with_reducible repeat (first | apply Kd.N_alloc | apply Kd.N_drewN | apply Kd.N_drew)); exact HO125.out)) (by decide) hg)
 replace HO122 := aK (Kd.V_afterv (ok := (fun k_ => (w.heap.size ≤ k_) ∧ some k_ ≠ (.slice Ao10 t104.length co10 : Value).ownBlock ∧ some k_ ≠ (.slice (some ad110) x9_1.length co28 : Value).ownBlock ∧ some k_ ≠ (.slice Ao42 y126.length co42 : Value).ownBlock)) (pW (Kd.V_mono HO122.out (fun _ hk => ⟨⟨hk.1, ⟨hk.2.2.2.1, ⟨hk.2.2.2.2, hk.2.2.1⟩⟩⟩, hk.2.1⟩))) hg hat)
 replace HO136 := aK (Kd.V_afterv (ok := (fun k_ => (w.heap.size ≤ k_) ∧ some k_ ≠ (.slice Ao10 t104.length co10 : Value).ownBlock ∧ some k_ ≠ (.slice (some ad110) x9_1.length co28 : Value).ownBlock ∧ some k_ ≠ (.slice Ao42 y126.length co42 : Value).ownBlock)) (pW (Kd.V_mono HO136.out (fun _ hk => ⟨⟨hk.1, ⟨hk.2.2.2.1, ⟨hk.2.2.2.2, hk.2.2.1⟩⟩⟩, hk.2.1⟩))) hg hat)
 replace HO128 := aK (Kd.N_afterv (ok := (fun k_ => (w.heap.size ≤ k_) ∧ some k_ ≠ (.slice Ao30 x7_1.length co30 : Value).ownBlock ∧ some k_ ≠ (.slice Ao10 t104.length co10 : Value).ownBlock ∧ some k_ ≠ (.slice (some ad110) x9_1.length co28 : Value).ownBlock)) (by (with_reducible repeat (first | apply Kd.N_alloc | apply Kd.N_drewN | apply Kd.N_drew)); exact Kd.N_mono HO128.out (fun _ hk => ⟨⟨hk.1, ⟨hk.2.2.1, ⟨hk.2.2.2.1, hk.2.2.2.2⟩⟩⟩, hk.2.1⟩)) hg hat)
 replace HB := aK (hb)
 have HO131 := aK (ho)
 clear HO125
 clear ho hb hg hat
 refine hK.out _ _ trivial (fun hHeld => ?_)
 clear hK K
 refine nm 85 ?_
 refine oz 11 89 [12, 1] HT_ fun K hK => ?_
 refine Kd.N_append_rows_step (Kd.slice 48 k48) (w0 := w) w.heap.size (by rfl) (.tmp 85) (.tmp 88) 28 36 (.slice none 0 0) 24 rfl Try.underlying28 info36 rfl (by decide) (by omega) v130 y129 y132 _ _ _ (fun k_ => (w.heap.size ≤ k_) ∧ some k_ ≠ (.slice Ao10 t104.length co10 : Value).ownBlock ∧ some k_ ≠ (.slice (some ad110) x9_1.length co28 : Value).ownBlock) (fun k_ => ((fun k_ => (w.heap.size ≤ k_) ∧ some k_ ≠ (.slice Ao10 t104.length co10 : Value).ownBlock ∧ some k_ ≠ (.slice (some ad110) x9_1.length co28 : Value).ownBlock)) k_ ∧ some k_ ≠ (v130 : Value).ownBlock) rfl rfl ?aO ?aR (fun _ hk => hk) ?aF ?aB ?aS ?aL ?_
 (case aR => exact (by skip; exact Kd.V_F (Kd.V_mono (ok' := (fun k_ => ((fun k_ => (w.heap.size ≤ k_) ∧ some k_ ≠ (.slice Ao10 t104.length co10 : Value).ownBlock ∧ some k_ ≠ (.slice (some ad110) x9_1.length co28 : Value).ownBlock)) k_ ∧ some k_ ≠ (v130 : Value).ownBlock)) (HO136.out) (fun k_ hk => ⟨⟨hk.1.1, ⟨hk.1.2.1, hk.1.2.2.1⟩⟩, hk.2⟩))))
 (case aB => exact (pS HB.out))
 (case aF => exact (fun k_ hk => ⟨(Nat.le_trans (below_size (pS HB.out)) hk), Kd.fresh' (Kd.R_lt (pR HO_8.out)) k_ hk, Kd.fresh' (Kd.R_lt (pR HO_9.out)) k_ hk⟩))
 (case aO => exact (by (with_reducible repeat (first | apply Kd.N_alloc | apply Kd.N_drewN | apply Kd.N_drew)); exact HO131.out))
 (case aS => exact (below_size (pS HB.out)))
 (case aL => have := LMc27.out; omega)
 intro v138 w43 ho hb hg hat
 rw [← Ny137.out] at ho
 replace HO_7 := aK (Kd.N_afterv (ok := (fun k_ => (w.heap.size ≤ k_) ∧ some k_ ≠ (.slice Ao10 t104.length co10 : Value).ownBlock ∧ some k_ ≠ (.slice (some ad110) x9_1.length co28 : Value).ownBlock ∧ some k_ ≠ (.slice Ao42 y126.length co42 : Value).ownBlock)) (by (with_reducible repeat (first | apply Kd.N_alloc | apply Kd.N_drewN | apply Kd.N_drew)); exact HO_7.out) hg hat)
 replace HO_8 := aK (Kd.R_over' (pR HO_8.out) (Kd.N_typed (by (with_reducible repeat (first | apply Kd.N_alloc | apply Kd.N_drewN | apply Kd.N_drew)); exact HO131.out)) (by decide) hg)
 replace HO_9 := aK (Kd.R_over' (pR HO_9.out) (Kd.N_typed (by (with_reducible repeat (first | apply Kd.N_alloc | apply Kd.N_drewN | apply Kd.N_drew)); exact HO131.out)) (by decide) hg)
 replace HO122 := aK (Kd.V_afterv (ok := (fun k_ => (w.heap.size ≤ k_) ∧ some k_ ≠ (.slice Ao10 t104.length co10 : Value).ownBlock ∧ some k_ ≠ (.slice (some ad110) x9_1.length co28 : Value).ownBlock ∧ some k_ ≠ (.slice Ao42 y126.length co42 : Value).ownBlock)) (pW HO122.out) hg hat)
 replace HO136 := aK (Kd.V_afterv (ok := (fun k_ => (w.heap.size ≤ k_) ∧ some k_ ≠ (.slice Ao10 t104.length co10 : Value).ownBlock ∧ some k_ ≠ (.slice (some ad110) x9_1.length co28 : Value).ownBlock ∧ some k_ ≠ (.slice Ao42 y126.length co42 : Value).ownBlock)) (pW HO136.out) hg hat)
 replace HO128 := aK (Kd.N_afterv (ok := (fun k_ => (w.heap.size ≤ k_) ∧ some k_ ≠ (.slice Ao30 x7_1.length co30 : Value).ownBlock ∧ some k_ ≠ (.slice Ao10 t104.length co10 : Value).ownBlock ∧ some k_ ≠ (.slice (some ad110) x9_1.length co28 : Value).ownBlock)) (by (with_reducible repeat (first | apply Kd.N_alloc | apply Kd.N_drewN | apply Kd.N_drew)); exact HO128.out) hg hat)
 replace HB := aK (hb)
 have HO139 := aK (ho)
 clear HO131
 clear ho hb hg hat
 refine hK.out _ _ trivial (fun hHeld => ?_)
 clear hK K
 refine nm 89 ?_
 refine pz 12 7 [13, 0] HT_ ?_
 refine done_ (done_of HT_.out (by kernel_rfl)) ?_
 try go_wp2
 go_roundg k1
 case measure => have := HK1.out; omega
 case rel => exact ⟨(y137), (t114), (wrap64 (x10_1 + 1)), (by first | rfl | (simp; done) | (simp [*]; done)), H', ⟨by have := HK1.out; omega⟩, ⟨by (with_reducible repeat (first | apply Kd.N_alloc | apply Kd.N_drewN | apply Kd.N_drew)); exact HO139.out⟩, ⟨pR HO_8.out⟩, ⟨pR HO_9.out⟩, ⟨pT HB.out⟩⟩
end Go.Proofs.Ytnbpcacnbfbjkaa.P
namespace Go.Proofs.Ytnbpcacnbfbjkaa.P
attribute [local go_sem] max2_int min2_int max_two min_two max_three min_three max_four min_four
def spec_l8Area.l0 : Nat → List (S48) → Int → Int → Option (Int)
 | 0, _, _, _ => none
 | k + 1, x0, x3, x4 => if x4 < (x0.length : Int) then (if 0 ≤ x4 then (if (x0.length : Int) = 0 then (none) else (if 0 ≤ (Int.tmod (wrap64 (x4 + 1)) (x0.length : Int)) then (if (Int.tmod (wrap64 (x4 + 1)) (x0.length : Int)) < (x0.length : Int) then (spec_l8Area.l0 k x0 (wrap64 ((wrap64 (x3 + (wrap64 (((rd_T48 x0 x4).f0) * ((rd_T48 x0 (Int.tmod (wrap64 (x4 + 1)) (x0.length : Int))).f1))))) - (wrap64 (((rd_T48 x0 (Int.tmod (wrap64 (x4 + 1)) (x0.length : Int))).f0) * ((rd_T48 x0 x4).f1))))) (wrap64 (x4 + 1))) else (none)) else (none))) else (none)) else (some (wrap64 (Int.tdiv x3 2)))
def spec_l8Area.f (k : Nat) (l0 : List (S48)) : Option (Int) := spec_l8Area.l0 k l0 0 0
def spec_l8Area.T5 : Bool × List (List Nat × List Nat) := (true, [([], []), ([], []), ([0, 1], [0, 1]), ([2], [2]), ([], []), ([], []), ([5], [5]), ([], []), ([7], [7]), ([6, 8], [6, 8]), ([4, 9], [4, 9]), ([10], [10]), ([], []), ([], []), ([12, 3, 0, 1, 2, 3, 12, 13], [3, 12]), ([13, 11, 14, 0, 1, 2, 3, 4, 5, 6, 7, 8, 9, 10, 11, 12, 13, 14], [11, 13])])
def spec_l8Area.B5 : List Nat := [0, 0, 3, 7, 0, 0, 32, 0, 128, 480, 1008, 2032, 0, 0, 12303, 32767]
theorem spec_l8Area.tab5 : rtab .any (opsOf Try.f17 5) = spec_l8Area.T5 := by kernel_rfl
theorem spec_l8Area.bits5 : waitsOk spec_l8Area.T5.2 spec_l8Area.B5 = true := by kernel_rfl
theorem spec_l8Area.calls (k : Nat) (A0 : Option Addr) (c0 : Nat) (l0 : List (S48)) (r : Int) (w : World) (hr0 : Kd.C k48 w A0 l0.length l0) (hc0 : l0.length ≤ c0) (h : spec_l8Area.f k l0 = some r) :
  Calls Try.prog 17 #[.slice A0 l0.length c0] w fun e w' => e = .returned (.int .i64 r) ∧ Below w.heap.size w w' := by
 have hu48 := Try.underlying48
 have HR0 := aK hr0
 have HC0 := aK hc0
 clear hr0 hc0
 have HB := aK (Below.refl w.heap.size w)
 have H : (spec_l8Area.l0 k l0 0 0) = some r := h
 clear h
 have H' := aK H
 clear H
 go_enter Try.func17, Try.ntmps17
 go_wp2
 go_loopg [3, 4] k (fun kq v3 v4 w' => ∃ (x3_1 : Int) (x4_1 : Int), v3 = .int .i64 x3_1 ∧ v4 = .int .i64 x4_1 ∧ Aside0 (spec_l8Area.l0 kq l0 x3_1 x4_1 = some r) ∧ Aside0 (kq ≤ k) ∧ Aside0 (Below w.heap.size w w'))
 case atStart => exact ⟨(0), (0), (by first | rfl | (simp; done) | (simp [*]; done)), (by first | rfl | (simp; done) | (simp [*]; done)), H', ⟨Nat.le_refl _⟩, ⟨pT HB.out⟩⟩
 case round =>
 clear H'
 try clear c1
 obtain ⟨x3_1, x4_1, rfl, rfl, HA, HK1, HB⟩ := hrel
 cases gk with
 | zero => exact absurd HA.out (by simp [spec_l8Area.l0])
 | succ k1 =>
 have H := HA.out
 clear HA
 simp only [spec_l8Area.l0] at H
 by_cases c2 : x4_1 < (l0.length : Int)
 rotate_left
 ·
  rw [if_neg c2] at H
  have c2b0 : decide (x4_1 < (l0.length : Int)) = false := decide_eq_false c2
  clear c2
  obtain rfl := Option.some.inj H
  go_wp2
  go_ret
  exact ⟨er, pT HB.out⟩
 rw [if_pos c2] at H
 have c2b0 : decide (x4_1 < (l0.length : Int)) = true := decide_eq_true c2
 clear c2
 by_cases c3 : 0 ≤ x4_1
 rotate_left
 ·
  rw [if_neg c3] at H
  exact absurd H (by simp)
 rw [if_pos c3] at H
 have c3b0 : decide (0 ≤ x4_1) = true := decide_eq_true c3
 clear c3
 by_cases c4 : (l0.length : Int) = 0
 ·
  rw [if_pos c4] at H
  exact absurd H (by simp)
 rw [if_neg c4] at H
 have c4b0 : ((l0.length : Int) == 0) = false := beq_eq_false_iff_ne.mpr c4
 have c4b1 : ((l0.length : Int) != 0) = true := bne_iff_ne.mpr c4
 have c4b2 : ¬ (l0 = []) := fun h_ => c4 (by rw [h_]; rfl)
 obtain ⟨ji5, hji5⟩ : ∃ j_ : Int, (Int.tmod (wrap64 (x4_1 + 1)) (l0.length : Int)) = j_ := ⟨_, rfl⟩
 replace H : (if 0 ≤ (ji5) then (if (ji5) < (l0.length : Int) then (spec_l8Area.l0 k1 l0 (wrap64 ((wrap64 (x3_1 + (wrap64 (((rd_T48 l0 x4_1).f0) * ((rd_T48 l0 (ji5)).f1))))) - (wrap64 (((rd_T48 l0 (ji5)).f0) * ((rd_T48 l0 x4_1).f1))))) (wrap64 (x4_1 + 1))) else (none)) else (none)) = some r := by first | (rw [hji5] at H; exact H) | (simp only [hji5] at H ⊢; exact H)
 by_cases c6 : 0 ≤ (ji5)
 rotate_left
 ·
  rw [if_neg c6] at H
  exact absurd H (by simp)
 rw [if_pos c6] at H
 have c6b0 : decide (0 ≤ (ji5)) = true := decide_eq_true c6
 clear c6
 by_cases c7 : (ji5) < (l0.length : Int)
 rotate_left
 ·
  rw [if_neg c7] at H
  exact absurd H (by simp)
 rw [if_pos c7] at H
 have c7b0 : decide ((ji5) < (l0.length : Int)) = true := decide_eq_true c7
 clear c7
 have H' := aK H
 clear H
 try go_wp2
 replace HB := aK (below_drew1 HB.out)
 have p101 : 0 ≤ (x4_1 : Int) := dA
 have q101 : x4_1 < (l0.length : Int) := dA
 obtain ⟨ad101, e101, hx101_0, hx101_1⟩ := at_T48 HR0.out x4_1 p101 q101
 have hw101_1 := hx101_1
 have hw101_0 := hx101_0
 cases e101
 replace hx101_0 := (HB.out.cell (World.block_lt_of_cell? w _ hx101_0)).trans hx101_0
 replace hx101_1 := (HB.out.cell (World.block_lt_of_cell? w _ hx101_1)).trans hx101_1
 replace p101 := eq_true p101
 replace q101 := eq_true q101
 have p102 : 0 ≤ ((ji5) : Int) := dA
 have q102 : (ji5) < (l0.length : Int) := dA
 obtain ⟨ad102, e102, hx102_0, hx102_1⟩ := at_T48 HR0.out (ji5) p102 q102
 have hw102_1 := hx102_1
 have hw102_0 := hx102_0
 obtain rfl : ad101 = ad102 := (by injection e102)
 replace hx102_0 := (HB.out.cell (World.block_lt_of_cell? w _ hx102_0)).trans hx102_0
 replace hx102_1 := (HB.out.cell (World.block_lt_of_cell? w _ hx102_1)).trans hx102_1
 replace p102 := eq_true p102
 replace q102 := eq_true q102
 refine start_ (n := 16) (S := fun w' => w'.cell? (ad101.add ((x4_1).toNat * 2)) = some (.int .i64 ((rd_T48 l0 x4_1).f0)) ∧ w'.cell? ⟨(ad101.add ((x4_1).toNat * 2)).block, (ad101.add ((x4_1).toNat * 2)).off + 1, none⟩ = some (.int .i64 ((rd_T48 l0 x4_1).f1)) ∧ w'.cell? (ad101.add (((ji5)).toNat * 2)) = some (.int .i64 ((rd_T48 l0 (ji5)).f0)) ∧ w'.cell? ⟨(ad101.add (((ji5)).toNat * 2)).block, (ad101.add (((ji5)).toNat * 2)).off + 1, none⟩ = some (.int .i64 ((rd_T48 l0 (ji5)).f1))) (ds := []) (bz [0, 16]) (by kernel_rfl) rfl rfl ⟨((HB.out.cell (World.block_lt_of_cell? w _ hw101_0)).trans hw101_0), ((HB.out.cell (World.block_lt_of_cell? w _ hw101_1)).trans hw101_1), ((HB.out.cell (World.block_lt_of_cell? w _ hw102_0)).trans hw102_0), ((HB.out.cell (World.block_lt_of_cell? w _ hw102_1)).trans hw102_1)⟩ (fun hHeld => ?_); refine with_tabW spec_l8Area.tab5 spec_l8Area.bits5 (fun HT_ HW_ => ?_)
 generalize wr.drew = w8 at HB hx101_0 hx101_1 hx102_0 hx102_1 hHeld ⊢
 refine pz 0 13 [1, 15] HT_ ?_
 refine pz 1 14 [2, 14] HT_ ?_
 refine pz 2 15 [3, 13] HT_ ?_
 refine pz 4 17 [3, 1, 1, 11] HT_ ?_
 refine pz 5 18 [3, 1, 2, 10] HT_ ?_
 refine pz 6 19 [3, 1, 3, 9] HT_ ?_
 refine pz 7 20 [3, 1, 4, 8] HT_ ?_
 refine pz 8 21 [3, 1, 5, 7] HT_ ?_
 refine pz 9 22 [3, 1, 6, 6] HT_ ?_
 refine pz 10 23 [3, 1, 7, 5] HT_ ?_
 refine tz 3 16 [11, 5] HT_ HW_ rfl (by rintro w' ⟨s0, s1, s2, s3⟩; go_simp; with_reducible rfl) hHeld ?_
 refine tz 11 24 [12, 4] HT_ HW_ rfl (by rintro w' ⟨s0, s1, s2, s3⟩; go_simp; with_reducible rfl) hHeld ?_
 refine join_ (σ := Nat × Nat) 2 (bz [14, 2]) (fun s_ => [(5, .pointer (some ⟨s_.1, 0, none⟩)), (6, .pointer (some ⟨s_.2, 0, none⟩))]) (fun s_ w' => (w'.cell? (ad101.add ((x4_1).toNat * 2)) = some (.int .i64 ((rd_T48 l0 x4_1).f0)) ∧ w'.cell? ⟨(ad101.add ((x4_1).toNat * 2)).block, (ad101.add ((x4_1).toNat * 2)).off + 1, none⟩ = some (.int .i64 ((rd_T48 l0 x4_1).f1)) ∧ w'.cell? (ad101.add (((ji5)).toNat * 2)) = some (.int .i64 ((rd_T48 l0 (ji5)).f0)) ∧ w'.cell? ⟨(ad101.add (((ji5)).toNat * 2)).block, (ad101.add (((ji5)).toNat * 2)).off + 1, none⟩ = some (.int .i64 ((rd_T48 l0 (ji5)).f1))) ∧ (w'.heap[s_.1]? = some (.cells #[.int .i64 0, .int .i64 0] 48 (0, 0))) ∧ (w'.heap[s_.2]? = some (.cells #[.int .i64 0, .int .i64 0] 48 (0, 0))) ∧ (w.heap.size ≤ s_.1) ∧ (w.heap.size ≤ s_.1) ∧ (s_.2 ≠ s_.1) ∧ (s_.1 ≠ s_.2) ∧ (w.heap.size ≤ s_.2) ∧ (w.heap.size ≤ s_.2) ∧ (Below w.heap.size w w')) ?_ ?_
 rotate_left
 ·
  intro hCont
  refine two_ (i := 12) (j := 13) (Ni := some 5) (Nj := some 6) (bz [13, 3]) (bz [12, 1, 1, 2]) rfl rfl rfl rfl (two_of HT_.out (by kernel_rfl)) (by decide) (by decide) (fun K hK => ?_) (fun K hK => ?_)
  ·
   skip
   refine box_step ?hg (N := 5) ?hd (cs := #[.int .i64 0, .int .i64 0]) (t := 48) ?hr ?_; (case hd => rfl); (case hg => rfl); (case hr => first | (go_simp; done) | (go_simp; rfl))
   intro g103 hg w9 hbox hb
   have B103 := aK (hbox); have GW103 := gA hg HB; have GE103 := GW103; replace HB := bS HB hb; clear hb hbox hg
   refine hK.out _ _ ⟨((HB.out.cell (World.block_lt_of_cell? w _ hw101_0)).trans hw101_0), ((HB.out.cell (World.block_lt_of_cell? w _ hw101_1)).trans hw101_1), ((HB.out.cell (World.block_lt_of_cell? w _ hw102_0)).trans hw102_0), ((HB.out.cell (World.block_lt_of_cell? w _ hw102_1)).trans hw102_1)⟩ (fun hHeld => ?_)
   clear hK K
   refine nm 5 ?_
   refine oz 13 6 [14, 2] HT_ fun K hK => ?_
   refine box_step ?hg (N := 6) ?hd (cs := #[.int .i64 0, .int .i64 0]) (t := 48) ?hr ?_; (case hd => rfl); (case hg => rfl); (case hr => first | (go_simp; done) | (go_simp; rfl))
   intro g104 hg w10 hbox hb
   have B104 := aK (hbox); have GW104 := gA hg HB; have GE104 := GW104; obtain ⟨N103_104, N104_103⟩ := na hg B103; replace B103 := bB B103 hb; replace HB := bS HB hb; clear hb hbox hg
   refine hK.out _ _ ⟨((HB.out.cell (World.block_lt_of_cell? w _ hw101_0)).trans hw101_0), ((HB.out.cell (World.block_lt_of_cell? w _ hw101_1)).trans hw101_1), ((HB.out.cell (World.block_lt_of_cell? w _ hw102_0)).trans hw102_0), ((HB.out.cell (World.block_lt_of_cell? w _ hw102_1)).trans hw102_1)⟩ (fun hHeld => ?_)
   clear hK K
   refine nm 6 ?_
   exact norm_ (by simp only [putAll, Act.put, List.setIfInBounds_toArray, List.set_cons_zero, List.set_cons_succ]) (hCont (g103, g104) _ ⟨hHeld, (pB B103.out), (pB B104.out), GW103.out, GE103.out, N104_103.out, N103_104.out, GW104.out, GE104.out, (pS HB.out)⟩)
  skip
  refine box_step ?hg (N := 6) ?hd (cs := #[.int .i64 0, .int .i64 0]) (t := 48) ?hr ?_; (case hd => rfl); (case hg => rfl); (case hr => first | (go_simp; done) | (go_simp; rfl))
  intro g104 hg w9 hbox hb
  have B104 := aK (hbox); have GW104 := gA hg HB; have GE104 := GW104; replace HB := bS HB hb; clear hb hbox hg
  refine hK.out _ _ ⟨((HB.out.cell (World.block_lt_of_cell? w _ hw101_0)).trans hw101_0), ((HB.out.cell (World.block_lt_of_cell? w _ hw101_1)).trans hw101_1), ((HB.out.cell (World.block_lt_of_cell? w _ hw102_0)).trans hw102_0), ((HB.out.cell (World.block_lt_of_cell? w _ hw102_1)).trans hw102_1)⟩ (fun hHeld => ?_)
  clear hK K
  refine nm 6 ?_
  refine oz 12 5 [14, 2] HT_ fun K hK => ?_
  refine box_step ?hg (N := 5) ?hd (cs := #[.int .i64 0, .int .i64 0]) (t := 48) ?hr ?_; (case hd => rfl); (case hg => rfl); (case hr => first | (go_simp; done) | (go_simp; rfl))
  intro g103 hg w10 hbox hb
  have B103 := aK (hbox); have GW103 := gA hg HB; have GE103 := GW103; obtain ⟨N104_103, N103_104⟩ := na hg B104; replace B104 := bB B104 hb; replace HB := bS HB hb; clear hb hbox hg
  refine hK.out _ _ ⟨((HB.out.cell (World.block_lt_of_cell? w _ hw101_0)).trans hw101_0), ((HB.out.cell (World.block_lt_of_cell? w _ hw101_1)).trans hw101_1), ((HB.out.cell (World.block_lt_of_cell? w _ hw102_0)).trans hw102_0), ((HB.out.cell (World.block_lt_of_cell? w _ hw102_1)).trans hw102_1)⟩ (fun hHeld => ?_)
  clear hK K
  refine nm 5 ?_
  exact norm_ (by simp only [putAll, Act.put, List.setIfInBounds_toArray, List.set_cons_zero, List.set_cons_succ]) (hCont (g103, g104) _ ⟨hHeld, (pB B103.out), (pB B104.out), GW103.out, GE103.out, N104_103.out, N103_104.out, GW104.out, GE104.out, (pS HB.out)⟩)
 rintro ⟨g103, g104⟩ w11 ⟨hS_, h0_, h1_, h2_, h3_, h4_, h5_, h6_, h7_, h8_⟩
 have n0_ : Aside0 (w11.heap[g103]? = some (.cells #[.int .i64 0, .int .i64 0] 48 (0, 0))) := ⟨h0_⟩
 have n1_ : Aside0 (w11.heap[g104]? = some (.cells #[.int .i64 0, .int .i64 0] 48 (0, 0))) := ⟨h1_⟩
 have n2_ : Aside0 (w.heap.size ≤ g103) := ⟨h2_⟩
 have n3_ : Aside0 (w.heap.size ≤ g103) := ⟨h3_⟩
 have n4_ : Aside0 (g104 ≠ g103) := ⟨h4_⟩
 have n5_ : Aside0 (g103 ≠ g104) := ⟨h5_⟩
 have n6_ : Aside0 (w.heap.size ≤ g104) := ⟨h6_⟩
 have n7_ : Aside0 (w.heap.size ≤ g104) := ⟨h7_⟩
 replace HB : Aside0 (Below w.heap.size w w11) := ⟨h8_⟩
 clear h0_ h1_ h2_ h3_ h4_ h5_ h6_ h7_ h8_
 have B103 := n0_
 have B104 := n1_
 have GW103 := n2_
 have GE103 := n3_
 have N104_103 := n4_
 have N103_104 := n5_
 have GW104 := n6_
 have GE104 := n7_
 clear n0_ n1_ n2_ n3_ n4_ n5_ n6_ n7_
 have hHeld : w11.cell? (ad101.add ((x4_1).toNat * 2)) = some (.int .i64 ((rd_T48 l0 x4_1).f0)) ∧ w11.cell? ⟨(ad101.add ((x4_1).toNat * 2)).block, (ad101.add ((x4_1).toNat * 2)).off + 1, none⟩ = some (.int .i64 ((rd_T48 l0 x4_1).f1)) ∧ w11.cell? (ad101.add (((ji5)).toNat * 2)) = some (.int .i64 ((rd_T48 l0 (ji5)).f0)) ∧ w11.cell? ⟨(ad101.add (((ji5)).toNat * 2)).block, (ad101.add (((ji5)).toNat * 2)).off + 1, none⟩ = some (.int .i64 ((rd_T48 l0 (ji5)).f1)) := hS_
 refine norm_ (a' := ?_) ?_ ?_
 rotate_left
 ·
  simp only [putAll, Act.put, List.setIfInBounds_toArray, List.set_cons_zero, List.set_cons_succ]
  rfl
 refine one_ (i := 14) (N := none) (bz [15, 1]) rfl rfl (one_of HT_.out (by kernel_rfl)) (by decide) (fun K hK => ?_)
 have hs12 : w11.cell? ⟨g103, 0, none⟩ = some (.int .i64 0) := (blk_cell B103.out 0).trans rfl
 have hfs12 := blk_frozen B103.out 0
 obtain ⟨_, _⟩ := nB N104_103
 have hs13 : w11.cell? ⟨g103, 1, none⟩ = some (.int .i64 0) := (blk_cell B103.out 1).trans rfl
 have hfs13 := blk_frozen B103.out 1
 obtain ⟨_, _⟩ := nB N104_103
 refine skip_ (w1 := ?_) (by rfl) rfl ?_ ?_
 rotate_left
 ·
  go_simp
  rfl
 refine hK.out _ _ ⟨((cell_far (p := ⟨g103, _, none⟩) (by first | exact Nat.ne_of_lt (Nat.lt_of_lt_of_le (by have := World.block_lt_of_cell? _ _ hw101_0; first | rwa [add_block] at this | exact this) GW103.out) | (rw [add_block]; exact Nat.ne_of_lt (Nat.lt_of_lt_of_le (by have := World.block_lt_of_cell? _ _ hw101_0; first | rwa [add_block] at this | exact this) GW103.out)) | (show (Addr.add _ _).block ≠ _; rw [add_block]; exact Nat.ne_of_lt (Nat.lt_of_lt_of_le (by have := World.block_lt_of_cell? _ _ hw101_0; first | rwa [add_block] at this | exact this) GW103.out)) | (dsimp only; exact Nat.ne_of_lt (Nat.lt_of_lt_of_le (by have := World.block_lt_of_cell? _ _ hw101_0; first | rwa [add_block] at this | exact this) GW103.out))) _).trans (((cell_far (p := ⟨g103, _, none⟩) (by first | exact Nat.ne_of_lt (Nat.lt_of_lt_of_le (by have := World.block_lt_of_cell? _ _ hw101_0; first | rwa [add_block] at this | exact this) GW103.out) | (rw [add_block]; exact Nat.ne_of_lt (Nat.lt_of_lt_of_le (by have := World.block_lt_of_cell? _ _ hw101_0; first | rwa [add_block] at this | exact this) GW103.out)) | (show (Addr.add _ _).block ≠ _; rw [add_block]; exact Nat.ne_of_lt (Nat.lt_of_lt_of_le (by have := World.block_lt_of_cell? _ _ hw101_0; first | rwa [add_block] at this | exact this) GW103.out)) | (dsimp only; exact Nat.ne_of_lt (Nat.lt_of_lt_of_le (by have := World.block_lt_of_cell? _ _ hw101_0; first | rwa [add_block] at this | exact this) GW103.out))) _).trans (hHeld.1)))), ((cell_far (p := ⟨g103, _, none⟩) (by first | exact Nat.ne_of_lt (Nat.lt_of_lt_of_le (by have := World.block_lt_of_cell? _ _ hw101_1; first | rwa [add_block] at this | exact this) GW103.out) | (rw [add_block]; exact Nat.ne_of_lt (Nat.lt_of_lt_of_le (by have := World.block_lt_of_cell? _ _ hw101_1; first | rwa [add_block] at this | exact this) GW103.out)) | (show (Addr.add _ _).block ≠ _; rw [add_block]; exact Nat.ne_of_lt (Nat.lt_of_lt_of_le (by have := World.block_lt_of_cell? _ _ hw101_1; first | rwa [add_block] at this | exact this) GW103.out)) | (dsimp only; exact Nat.ne_of_lt (Nat.lt_of_lt_of_le (by have := World.block_lt_of_cell? _ _ hw101_1; first | rwa [add_block] at this | exact this) GW103.out))) _).trans (((cell_far (p := ⟨g103, _, none⟩) (by first | exact Nat.ne_of_lt (Nat.lt_of_lt_of_le (by have := World.block_lt_of_cell? _ _ hw101_1; first | rwa [add_block] at this | exact this) GW103.out) | (rw [add_block]; exact Nat.ne_of_lt (Nat.lt_of_lt_of_le (by have := World.block_lt_of_cell? _ _ hw101_1; first | rwa [add_block] at this | exact this) GW103.out)) | (show (Addr.add _ _).block ≠ _; rw [add_block]; exact Nat.ne_of_lt (Nat.lt_of_lt_of_le (by have := World.block_lt_of_cell? _ _ hw101_1; first | rwa [add_block] at this | exact this) GW103.out)) | (dsimp only; exact Nat.ne_of_lt (Nat.lt_of_lt_of_le (by have := World.block_lt_of_cell? _ _ hw101_1; first | rwa [add_block] at this | exact this) GW103.out))) _).trans (hHeld.2.1)))), ((cell_far (p := ⟨g103, _, none⟩) (by first | exact Nat.ne_of_lt (Nat.lt_of_lt_of_le (by have := World.block_lt_of_cell? _ _ hw102_0; first | rwa [add_block] at this | exact this) GW103.out) | (rw [add_block]; exact Nat.ne_of_lt (Nat.lt_of_lt_of_le (by have := World.block_lt_of_cell? _ _ hw102_0; first | rwa [add_block] at this | exact this) GW103.out)) | (show (Addr.add _ _).block ≠ _; rw [add_block]; exact Nat.ne_of_lt (Nat.lt_of_lt_of_le (by have := World.block_lt_of_cell? _ _ hw102_0; first | rwa [add_block] at this | exact this) GW103.out)) | (dsimp only; exact Nat.ne_of_lt (Nat.lt_of_lt_of_le (by have := World.block_lt_of_cell? _ _ hw102_0; first | rwa [add_block] at this | exact this) GW103.out))) _).trans (((cell_far (p := ⟨g103, _, none⟩) (by first | exact Nat.ne_of_lt (Nat.lt_of_lt_of_le (by have := World.block_lt_of_cell? _ _ hw102_0; first | rwa [add_block] at this | exact this) GW103.out) | (rw [add_block]; exact Nat.ne_of_lt (Nat.lt_of_lt_of_le (by have := World.block_lt_of_cell? _ _ hw102_0; first | rwa [add_block] at this | exact this) GW103.out)) | (show (Addr.add _ _).block ≠ _; rw [add_block]; exact Nat.ne_of_lt (Nat.lt_of_lt_of_le (by have := World.block_lt_of_cell? _ _ hw102_0; first | rwa [add_block] at this | exact this) GW103.out)) | (dsimp only; exact Nat.ne_of_lt (Nat.lt_of_lt_of_le (by have := World.block_lt_of_cell? _ _ hw102_0; first | rwa [add_block] at this | exact this) GW103.out))) _).trans (hHeld.2.2.1)))), ((cell_far (p := ⟨g103, _, none⟩) (by first | exact Nat.ne_of_lt (Nat.lt_of_lt_of_le (by have := World.block_lt_of_cell? _ _ hw102_1; first | rwa [add_block] at this | exact this) GW103.out) | (rw [add_block]; exact Nat.ne_of_lt (Nat.lt_of_lt_of_le (by have := World.block_lt_of_cell? _ _ hw102_1; first | rwa [add_block] at this | exact this) GW103.out)) | (show (Addr.add _ _).block ≠ _; rw [add_block]; exact Nat.ne_of_lt (Nat.lt_of_lt_of_le (by have := World.block_lt_of_cell? _ _ hw102_1; first | rwa [add_block] at this | exact this) GW103.out)) | (dsimp only; exact Nat.ne_of_lt (Nat.lt_of_lt_of_le (by have := World.block_lt_of_cell? _ _ hw102_1; first | rwa [add_block] at this | exact this) GW103.out))) _).trans (((cell_far (p := ⟨g103, _, none⟩) (by first | exact Nat.ne_of_lt (Nat.lt_of_lt_of_le (by have := World.block_lt_of_cell? _ _ hw102_1; first | rwa [add_block] at this | exact this) GW103.out) | (rw [add_block]; exact Nat.ne_of_lt (Nat.lt_of_lt_of_le (by have := World.block_lt_of_cell? _ _ hw102_1; first | rwa [add_block] at this | exact this) GW103.out)) | (show (Addr.add _ _).block ≠ _; rw [add_block]; exact Nat.ne_of_lt (Nat.lt_of_lt_of_le (by have := World.block_lt_of_cell? _ _ hw102_1; first | rwa [add_block] at this | exact this) GW103.out)) | (dsimp only; exact Nat.ne_of_lt (Nat.lt_of_lt_of_le (by have := World.block_lt_of_cell? _ _ hw102_1; first | rwa [add_block] at this | exact this) GW103.out))) _).trans (hHeld.2.2.2))))⟩ (fun hHeld => ?_)
 clear hK K
 refine one_ (i := 15) (N := none) (bz [16, 0]) rfl rfl (one_of HT_.out (by kernel_rfl)) (by decide) (fun K hK => ?_)
 have hs14 : w11.cell? ⟨g104, 0, none⟩ = some (.int .i64 0) := (blk_cell B104.out 0).trans rfl
 have hfs14 := blk_frozen B104.out 0
 obtain ⟨_, _⟩ := nB N103_104
 have hs15 : w11.cell? ⟨g104, 1, none⟩ = some (.int .i64 0) := (blk_cell B104.out 1).trans rfl
 have hfs15 := blk_frozen B104.out 1
 obtain ⟨_, _⟩ := nB N103_104
 refine skip_ (w1 := ?_) (by rfl) rfl ?_ ?_
 rotate_left
 ·
  go_simp
  rfl
 refine hK.out _ _ ⟨((cell_far (p := ⟨g104, _, none⟩) (by first | exact Nat.ne_of_lt (Nat.lt_of_lt_of_le (by have := World.block_lt_of_cell? _ _ hw101_0; first | rwa [add_block] at this | exact this) GW104.out) | (rw [add_block]; exact Nat.ne_of_lt (Nat.lt_of_lt_of_le (by have := World.block_lt_of_cell? _ _ hw101_0; first | rwa [add_block] at this | exact this) GW104.out)) | (show (Addr.add _ _).block ≠ _; rw [add_block]; exact Nat.ne_of_lt (Nat.lt_of_lt_of_le (by have := World.block_lt_of_cell? _ _ hw101_0; first | rwa [add_block] at this | exact this) GW104.out)) | (dsimp only; exact Nat.ne_of_lt (Nat.lt_of_lt_of_le (by have := World.block_lt_of_cell? _ _ hw101_0; first | rwa [add_block] at this | exact this) GW104.out))) _).trans (((cell_far (p := ⟨g104, _, none⟩) (by first | exact Nat.ne_of_lt (Nat.lt_of_lt_of_le (by have := World.block_lt_of_cell? _ _ hw101_0; first | rwa [add_block] at this | exact this) GW104.out) | (rw [add_block]; exact Nat.ne_of_lt (Nat.lt_of_lt_of_le (by have := World.block_lt_of_cell? _ _ hw101_0; first | rwa [add_block] at this | exact this) GW104.out)) | (show (Addr.add _ _).block ≠ _; rw [add_block]; exact Nat.ne_of_lt (Nat.lt_of_lt_of_le (by have := World.block_lt_of_cell? _ _ hw101_0; first | rwa [add_block] at this | exact this) GW104.out)) | (dsimp only; exact Nat.ne_of_lt (Nat.lt_of_lt_of_le (by have := World.block_lt_of_cell? _ _ hw101_0; first | rwa [add_block] at this | exact this) GW104.out))) _).trans (hHeld.1)))), ((cell_far (p := ⟨g104, _, none⟩) (by first | exact Nat.ne_of_lt (Nat.lt_of_lt_of_le (by have := World.block_lt_of_cell? _ _ hw101_1; first | rwa [add_block] at this | exact this) GW104.out) | (rw [add_block]; exact Nat.ne_of_lt (Nat.lt_of_lt_of_le (by have := World.block_lt_of_cell? _ _ hw101_1; first | rwa [add_block] at this | exact this) GW104.out)) | (show (Addr.add _ _).block ≠ _; rw [add_block]; exact Nat.ne_of_lt (Nat.lt_of_lt_of_le (by have := World.block_lt_of_cell? _ _ hw101_1; first | rwa [add_block] at this | exact this) GW104.out)) | (dsimp only; exact Nat.ne_of_lt (Nat.lt_of_lt_of_le (by have := World.block_lt_of_cell? _ _ hw101_1; first | rwa [add_block] at this | exact this) GW104.out))) _).trans (((cell_far (p := ⟨g104, _, none⟩) (by first | exact Nat.ne_of_lt (Nat.lt_of_lt_of_le (by have := World.block_lt_of_cell? _ _ hw101_1; first | rwa [add_block] at this | exact this) GW104.out) | (rw [add_block]; exact Nat.ne_of_lt (Nat.lt_of_lt_of_le (by have := World.block_lt_of_cell? _ _ hw101_1; first | rwa [add_block] at this | exact this) GW104.out)) | (show (Addr.add _ _).block ≠ _; rw [add_block]; exact Nat.ne_of_lt (Nat.lt_of_lt_of_le (by have := World.block_lt_of_cell? _ _ hw101_1; first | rwa [add_block] at this | exact this) GW104.out)) | (dsimp only; exact Nat.ne_of_lt (Nat.lt_of_lt_of_le (by have := World.block_lt_of_cell? _ _ hw101_1; first | rwa [add_block] at this | exact this) GW104.out))) _).trans (hHeld.2.1)))), ((cell_far (p := ⟨g104, _, none⟩) (by first | exact Nat.ne_of_lt (Nat.lt_of_lt_of_le (by have := World.block_lt_of_cell? _ _ hw102_0; first | rwa [add_block] at this | exact this) GW104.out) | (rw [add_block]; exact Nat.ne_of_lt (Nat.lt_of_lt_of_le (by have := World.block_lt_of_cell? _ _ hw102_0; first | rwa [add_block] at this | exact this) GW104.out)) | (show (Addr.add _ _).block ≠ _; rw [add_block]; exact Nat.ne_of_lt (Nat.lt_of_lt_of_le (by have := World.block_lt_of_cell? _ _ hw102_0; first | rwa [add_block] at this | exact this) GW104.out)) | (dsimp only; exact Nat.ne_of_lt (Nat.lt_of_lt_of_le (by have := World.block_lt_of_cell? _ _ hw102_0; first | rwa [add_block] at this | exact this) GW104.out))) _).trans (((cell_far (p := ⟨g104, _, none⟩) (by first | exact Nat.ne_of_lt (Nat.lt_of_lt_of_le (by have := World.block_lt_of_cell? _ _ hw102_0; first | rwa [add_block] at this | exact this) GW104.out) | (rw [add_block]; exact Nat.ne_of_lt (Nat.lt_of_lt_of_le (by have := World.block_lt_of_cell? _ _ hw102_0; first | rwa [add_block] at this | exact this) GW104.out)) | (show (Addr.add _ _).block ≠ _; rw [add_block]; exact Nat.ne_of_lt (Nat.lt_of_lt_of_le (by have := World.block_lt_of_cell? _ _ hw102_0; first | rwa [add_block] at this | exact this) GW104.out)) | (dsimp only; exact Nat.ne_of_lt (Nat.lt_of_lt_of_le (by have := World.block_lt_of_cell? _ _ hw102_0; first | rwa [add_block] at this | exact this) GW104.out))) _).trans (hHeld.2.2.1)))), ((cell_far (p := ⟨g104, _, none⟩) (by first | exact Nat.ne_of_lt (Nat.lt_of_lt_of_le (by have := World.block_lt_of_cell? _ _ hw102_1; first | rwa [add_block] at this | exact this) GW104.out) | (rw [add_block]; exact Nat.ne_of_lt (Nat.lt_of_lt_of_le (by have := World.block_lt_of_cell? _ _ hw102_1; first | rwa [add_block] at this | exact this) GW104.out)) | (show (Addr.add _ _).block ≠ _; rw [add_block]; exact Nat.ne_of_lt (Nat.lt_of_lt_of_le (by have := World.block_lt_of_cell? _ _ hw102_1; first | rwa [add_block] at this | exact this) GW104.out)) | (dsimp only; exact Nat.ne_of_lt (Nat.lt_of_lt_of_le (by have := World.block_lt_of_cell? _ _ hw102_1; first | rwa [add_block] at this | exact this) GW104.out))) _).trans (((cell_far (p := ⟨g104, _, none⟩) (by first | exact Nat.ne_of_lt (Nat.lt_of_lt_of_le (by have := World.block_lt_of_cell? _ _ hw102_1; first | rwa [add_block] at this | exact this) GW104.out) | (rw [add_block]; exact Nat.ne_of_lt (Nat.lt_of_lt_of_le (by have := World.block_lt_of_cell? _ _ hw102_1; first | rwa [add_block] at this | exact this) GW104.out)) | (show (Addr.add _ _).block ≠ _; rw [add_block]; exact Nat.ne_of_lt (Nat.lt_of_lt_of_le (by have := World.block_lt_of_cell? _ _ hw102_1; first | rwa [add_block] at this | exact this) GW104.out)) | (dsimp only; exact Nat.ne_of_lt (Nat.lt_of_lt_of_le (by have := World.block_lt_of_cell? _ _ hw102_1; first | rwa [add_block] at this | exact this) GW104.out))) _).trans (hHeld.2.2.2))))⟩ (fun hHeld => ?_)
 clear hK K
 refine done_ (done_of HT_.out (by kernel_rfl)) ?_
 obtain ⟨_, _⟩ := nB N103_104
 obtain ⟨_, _, _, _⟩ := bc2 B103.out
 obtain ⟨_, _, _, _⟩ := bc2 B104.out
 try go_wp2
 go_roundg k1
 case measure => have := HK1.out; omega
 case rel => exact ⟨(wrap64 ((wrap64 (x3_1 + (wrap64 (((rd_T48 l0 x4_1).f0) * ((rd_T48 l0 (ji5)).f1))))) - (wrap64 (((rd_T48 l0 (ji5)).f0) * ((rd_T48 l0 x4_1).f1))))), (wrap64 (x4_1 + 1)), (by first | rfl | (simp; done) | (simp only [← hji5] <;> (first | rfl | simp)) | (simp [*]; done)), (by first | rfl | (simp; done) | (simp [*]; done)), H', ⟨by have := HK1.out; omega⟩, ⟨pT HB.out⟩⟩
end Go.Proofs.Ytnbpcacnbfbjkaa.P
