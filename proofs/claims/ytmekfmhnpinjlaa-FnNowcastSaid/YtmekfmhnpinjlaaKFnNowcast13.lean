/- Texts of the claim FnNowcast, merged: part 13 of 13: the program's and the reference's functions as Lean functions, the walks that show it, and plain lemmas; no conditions. -/
import Derived.Test.YtmekfmhnpinjlaaKFnNowcast12
import Derived.Test.YtmekfmhnpinjlaaKFnNowcast10
import Derived.Test.YtmekfmhnpinjlaaKFnNowcast3
import Derived.Test.YtmekfmhnpinjlaaKFnNowcast6
import Derived.Test.YtmekfmhnpinjlaaKFnNowcast11
import Derived.Test.YtmekfmhnpinjlaaRows
import Derived.WalkKit
import Derived.ProofKit
import Derived.OpenShut
import Derived.ShutString
import Derived.ChangeOld
import Derived.Below
import Derived.SizedLaws
namespace Go.Proofs.Ytmekfmhnpinjlaa.Pure
set_option linter.unusedVariables false
set_option linter.unusedSimpArgs false
open Go Go.RowKit Go.Proofs.Ytmekfmhnpinjlaa.P Go.Proofs.YtmekfmhnpinjlaaW.PrintWords Go.Proofs.YtmekfmhnpinjlaaW.PrintLast
theorem ev_same {α : Type} {f : Nat → Option α} {a b : α} (h : Ev f a) (k : Ev f b) : a = b := by
  obtain ⟨K1, k1⟩ := h
  obtain ⟨K2, k2⟩ := k
  exact Option.some.inj ((k1 (K1 + K2) (by omega)).symm.trans (k2 (K1 + K2) (by omega)))
theorem psum_self (l : List Int) : ∀ n, n ≤ l.length → psum n (fun i => dphi (l.getD i 0) (l.getD i 0)) = (0, (((l.take n).filter (fun x => !(x == -9999))).length : Int))
  | 0, _ => rfl
  | n + 1, h => by
    have e : l.take (n + 1) = l.take n ++ [l.getD n 0] := by
      rw [List.take_add_one, List.getElem?_eq_getElem (by omega), getD_eq_get 0 (by omega)]
      rfl
    rw [psum_succ, psum_self l n (by omega), e, List.filter_append, List.length_append]
    generalize l.getD n 0 = x
    unfold dphi
    by_cases hx : x = -9999
    · subst hx
      simp
    · rw [if_neg hx, if_neg hx]
      have hb : (x == -9999) = false := by simpa using hx
      simp only [List.filter_cons, hb, Bool.not_false, if_true, List.filter_nil, List.length_singleton]
      have e0 : absZ (x - x) = 0 := by unfold absZ; rw [Int.sub_self]; rfl
      rw [e0]
      rfl
theorem diffs_self (l : List Int) : diffs l l = (0, ((l.filter (fun x => !(x == -9999))).length : Int)) := by
  rw [diffs_psum, psum_self l l.length (Nat.le_refl _), List.take_length]
theorem tab_ok {W H : Nat} {c : List Int} {mx my : Int} (fc : FieldIs (W : Int) (H : Int) c) : FieldIs (W : Int) (H : Int) (tab (H * W) (moveCell W H c mx my)) :=
  ⟨fc.a1, fc.a8, fc.b1, fc.b8, by rw [tab_length, Int.mul_comm]; simp, moveCell_ok fc.cells⟩
theorem moveField_cases (a b : Int) (l : List Int) (mx my : Int) (hl : l.length ≤ 9223372036854775806) :
    (Ev (fun k => spec_MoveField.f k a b l mx my) (0, 0, [], false) ∧ Ev (fun k => impl_MoveField.f k a b l mx my) (0, 0, [], false)) ∨
    ∃ W H : Nat, a = W ∧ b = H ∧ FieldIs (W : Int) (H : Int) l ∧ (1 ≤ W ∧ W ≤ 8) ∧ (1 ≤ H ∧ H ≤ 8) ∧ l.length = H * W ∧ H * W ≤ 64 ∧ (-2 ≤ mx ∧ mx ≤ 2) ∧ (-2 ≤ my ∧ my ≤ 2) ∧
      Ev (fun k => spec_MoveField.f k a b l mx my) ((W : Int), (H : Int), tab (H * W) (moveCell W H l mx my), true) ∧ Ev (fun k => impl_MoveField.f k a b l mx my) ((W : Int), (H : Int), tab (H * W) (moveCell W H l mx my), true) := by
  unfold spec_MoveField.f impl_MoveField.f
  have g1 := l2Good_ev a b l hl
  rw [isValidField_is, l11Good_is, isMotion_is]
  simp only [Option.bind_some]
  cases hf : fieldOk a b l with
  | false =>
    rw [hf] at g1
    exact .inl ⟨ev_bind g1 (ev_ifn (by simp) (ev_some _)), ev_ifn (by simp) (ev_some _)⟩
  | true =>
    rw [hf] at g1
    cases hm : motionOk mx my with
    | false => exact .inl ⟨ev_bind g1 (ev_ifp rfl (ev_ifn (by simp) (ev_some _))), ev_ifp rfl (ev_ifn (by simp) (ev_some _))⟩
    | true =>
      have fi := fieldOk_iff.1 hf
      obtain ⟨W, H, rfl, rfl, hW, hH, hlen, h64⟩ := shape_nat fi
      obtain ⟨m1, m2⟩ := motionOk_iff.1 hm
      exact .inr ⟨W, H, rfl, rfl, fi, hW, hH, hlen, h64, m1, m2, ev_bind g1 (ev_ifp rfl (ev_ifp rfl (ev_bind (l11Move_ev W H l mx my hW hH hlen m1 m2) (ev_some _)))),
        ev_ifp rfl (ev_ifp rfl (ev_bind (moveField_ev W H l mx my hW hH hlen m1 m2) (ev_some _)))⟩
theorem countMissing_is (a b : Int) (l : List Int) (hf : fieldOk a b l = true) (h64 : l.length ≤ 64) : impl_CountMissing.f a b l = some (wrap64 ((l.length : Int) - ((l.filter (fun x => !(x == -9999))).length : Int)), true) := by
  unfold impl_CountMissing.f
  rw [isValidField_is, hf, Option.bind_some, if_pos rfl]
  have hpos : 0 < l.length := by
    have fi := fieldOk_iff.1 hf
    obtain ⟨W, H, rfl, rfl, hW, hH, hlen, _⟩ := shape_nat fi
    have : 1 * 1 ≤ H * W := Nat.mul_le_mul hH.1 hW.1
    omega
  have hv : impl_valuesOf.f a b l = some (l.filter (fun x => !(x == -9999))) := by
    unfold impl_valuesOf.f slices_Clone_int_int.f slices_DeleteFunc_int_at_impl_valuesOf_1.f
    first
      | (rw [Option.bind_some, if_pos ⟨hpos, by omega⟩]; rfl)
      | (rw [if_pos (by omega), Option.bind_some, if_pos ⟨hpos, by omega⟩]; rfl)
      | (simp [hpos, show l.length < 4611686018427387904 by omega]; rfl)
  rw [hv, Option.bind_some]
theorem drawMove_at {l : List Int} (hl : Code l) : ∃ r : Int × Int × List Int × Int × Int, Ev (fun k => spec_DrawMoveField.f k l) r ∧ r.2.2.1.length ≤ 64 := by
  obtain ⟨⟨w, h, c, i1, s1⟩, hr, hc, b1, b2⟩ := anyField_at hl 0 0 (by omega) (by omega)
  simp only at hc b1 b2
  obtain ⟨x, y, i2, s2, e2⟩ := motion_at hl i1 s1 (by omega) (by omega)
  unfold spec_DrawMoveField.f
  exact ⟨(w, h, c, x, y), ev_bind hr (ev_bind (ev_const e2) (ev_some _)), hc⟩
theorem drawNow_at {l : List Int} (hl : Code l) : ∃ r : Int × Int × List Int × Int × Int × List Int × Int, Ev (fun k => spec_DrawNowcast.f k l) r ∧ r.2.2.1.length ≤ 64 ∧ r.2.2.2.2.2.1.length ≤ 64 := by
  obtain ⟨⟨a, b, u, a', b', v, i1, s1⟩, hr, ⟨hu, hv⟩, b1, b2⟩ := moved_at hl 0 0 (by omega) (by omega)
  simp only at hu hv b1 b2
  obtain ⟨x, i2, s2, e2, _⟩ := among_at hl i1 s1 [1, 2, 3, 6, 7, 0] (by simp) (by omega) (by omega)
  unfold spec_DrawNowcast.f
  exact ⟨(a, b, u, a', b', v, x), ev_bind hr (ev_bind (ev_const e2) (ev_some _)), hu, hv⟩
theorem now_loop (steps : Int) (r : List NF) (ok : Bool) (hr : r.length ≤ 6 ∧ ∀ x ∈ r, x.f2.length ≤ 64) (a b : Int) (u : List Int) (a' b' : Int) (v : List Int)
    (h : Ev (fun k => laws_FnNowcast.l0 k steps r ok r (r.length : Int) a b u a' b' v) true) : Ev (fun k => laws_FnNowcast.l0 k steps r ok r 0 a b u a' b' v) true := by
  refine loop_ev (σ := Unit) (fun k _ i => laws_FnNowcast.l0 k steps r ok r (i : Int) a b u a' b' v) r.length (fun _ _ => ()) (fun _ => true) (fun _ _ => True)
    (fun i s q _ hi h => ?_) (fun _ _ _ _ => trivial) (fun _ _ => h) 0 () (Nat.zero_le _) trivial
  have hrl := hr.1
  have er : rd_T26 r (i : Int) = r[i] := by
    unfold rd_T26
    rw [Int.toNat_natCast, getD_eq_get _ hi]
  have hm := hr.2 _ (List.getElem_mem hi)
  have hv := vField_self (r[i]).f0 (r[i]).f1 (r[i]).f2 (by omega)
  refine ev_step (g := fun k => laws_FnNowcast.l0 k steps r ok r (i : Int) a b u a' b' v) (fun k => by
    simp only [laws_FnNowcast.l0]
    rw [if_pos (by omega), if_pos (by omega), if_pos (by omega), er]) (ev_bind hv (ev_ifp rfl ?_))
  rw [w64 (x := (i : Int) + 1) (by omega) (by omega)]
  exact h
theorem nowcast_j1 {l : List Int} (hl : Code l) : Ev (fun k => laws_FnNowcast.j1 k l) true := by
  obtain ⟨⟨a, b, u, a', b', v, steps⟩, hd, hu, hv⟩ := drawNow_at hl
  simp only at hu hv
  obtain ⟨⟨r, ok⟩, hs, hi, hr, ht⟩ := nowcast_both a b u a' b' v steps (by omega) (by omega)
  simp only at hr ht
  refine ev_step (fun k => laws_FnNowcast.j1.eq_2 _ k) (ev_bind hd (ev_bind hi (ev_bind hs (ev_ifn (by simp) (ev_step (fun k => laws_FnNowcast.j2.eq_2 _ _ _ _ _ _ _ _ _ _ _ k) (ev_ifn (by simp) (now_loop steps r ok hr a b u a' b' v ?_)))))))
  refine ev_step (g := fun k => laws_FnNowcast.l0 k steps r ok r (r.length : Int) a b u a' b' v) (fun k => by simp only [laws_FnNowcast.l0]; rw [if_neg (by omega)]) ?_
  cases ok with
  | false => exact ev_ifn (by simp) (ev_some _)
  | true =>
    obtain ⟨W, H, mx, my, rfl, rfl, rfl, rfl, fu, fv, m1, m2, hlv, hb, hl1, hl2, h0⟩ := ht rfl
    rcases moveField_cases (W : Int) (H : Int) v mx my (by omega) with ⟨h1, h2⟩ | ⟨W', H', eW, eH, _, hW, hH, _, h64, _, _, _, hm⟩
    · exfalso
      have hmv := moveField_ev W H v mx my (by have := fv.a1; have := fv.a8; omega) (by have := fv.b1; have := fv.b8; omega) hlv m1 m2
      have hok : Ev (fun k => impl_MoveField.f k (W : Int) (H : Int) v mx my) ((W : Int), (H : Int), tab (H * W) (moveCell W H v mx my), true) := by
        unfold impl_MoveField.f
        rw [isValidField_is, isMotion_is, fieldOk_iff.2 fv, motionOk_iff.2 ⟨m1, m2⟩]
        exact ev_bind (ev_some _) (ev_ifp rfl (ev_bind (ev_some _) (ev_ifp rfl (ev_bind hmv (ev_some _)))))
      have e := ev_same h2 hok
      simp at e
    · have eW' : W' = W := by omega
      have eH' : H' = H := by omega
      subst eW'
      subst eH'
      have ft := tab_ok (mx := mx) (my := my) fv
      have er : rd_T26 r 0 = ⟨(W' : Int), (H' : Int), tab (H' * W') (moveCell W' H' v mx my)⟩ := by
        unfold rd_T26
        exact h0
      rw [er]
      have g2 := alike2_ev (W' : Int) (H' : Int) (tab (H' * W') (moveCell W' H' v mx my)) (W' : Int) (H' : Int) (tab (H' * W') (moveCell W' H' v mx my))
      rw [alike_iff.2 ⟨ft, ft, rfl, rfl⟩] at g2
      have d := differences_ev (W' : Int) (H' : Int) (tab (H' * W') (moveCell W' H' v mx my)) (W' : Int) (H' : Int) (tab (H' * W') (moveCell W' H' v mx my)) ft.cells ft.cells rfl (by rw [tab_length]; exact h64)
      rw [diffs_self] at d
      have hme : Ev (fun k => impl_MotionError.f k (W' : Int) (H' : Int) (tab (H' * W') (moveCell W' H' v mx my)) (W' : Int) (H' : Int) (tab (H' * W') (moveCell W' H' v mx my))) (0, (((tab (H' * W') (moveCell W' H' v mx my)).filter (fun x => !(x == -9999))).length : Int), true) := by
        unfold impl_MotionError.f
        exact ev_bind g2 (ev_ifp rfl (ev_bind d (ev_some _)))
      have hvf := vField_self (W' : Int) (H' : Int) (tab (H' * W') (moveCell W' H' v mx my)) (by rw [tab_length]; omega)
      refine ev_ifp rfl (ev_bind hb (ev_bind hm (ev_ifp (by omega) (ev_bind hme (ev_ifp rfl (ev_ifp rfl (ev_bind hvf (ev_ifp rfl (ev_ifp hl1 (ev_ifp rfl (ev_ifp rfl ?_)))))))))))
      rw [decide_eq_true (show (((tab (H' * W') (moveCell W' H' v mx my)).filter (fun x => !(x == -9999))).length : Int) ≥ 0 by omega)]
      exact ev_some _
theorem FnNowcast : laws_FnNowcast.Pure := by
  intro l hl _
  refine Ev.rounds ?_
  unfold laws_FnNowcast.f laws_vBig.f
  refine ev_bind (ev_some _) ?_
  by_cases hb : (l.length : Int) > 65536
  · exact ev_ifp (decide_eq_true hb) (ev_some _)
  refine ev_ifn (by simp only [decide_eq_true_eq]; exact hb) ?_
  have hc := codeM hl (by omega)
  obtain ⟨⟨a, b, c, mx, my⟩, hd, hcl⟩ := drawMove_at hc
  simp only at hcl
  rcases moveField_cases a b c mx my (by omega) with ⟨h1, h2⟩ | ⟨W, H, rfl, rfl, fc, hW, hH, hlen, h64, m1, m2, h1, h2⟩
  · exact ev_bind hd (ev_bind h2 (ev_bind h1 (ev_ifn (by simp) (ev_bind (vField_self 0 0 [] (by simp)) (ev_step (fun k => laws_FnNowcast.j0.eq_2 _ _ _ _ _ _ _ _ _ _ _ k) (ev_ifn (by simp) (ev_ifn (by simp) (nowcast_j1 hc))))))))
  · have ft := tab_ok (mx := mx) (my := my) fc
    have hm := matchI_ok W H c (tab (H * W) (moveCell W H c mx my)) mx my fc ft m1 m2
    have em : matchS W H c (tab (H * W) (moveCell W H c mx my)) mx my = (0, (((tab (H * W) (moveCell W H c mx my)).filter (fun x => !(x == -9999))).length : Int)) := by
      rw [← moved_match W H c (tab (H * W) (moveCell W H c mx my)) mx my hlen, diffs_self]
    rw [em] at hm
    have hcm := countMissing_is (W : Int) (H : Int) (tab (H * W) (moveCell W H c mx my)) (fieldOk_iff.2 ft) (by rw [tab_length]; exact h64)
    have hfl := List.length_filter_le (fun x => !(x == -9999)) (tab (H * W) (moveCell W H c mx my))
    have htl := tab_length (H * W) (moveCell W H c mx my)
    refine ev_bind hd (ev_bind h2 (ev_bind h1 (ev_ifn (by simp) (ev_bind (vField_self (W : Int) (H : Int) _ (by rw [tab_length]; omega)) (ev_step (fun k => laws_FnNowcast.j0.eq_2 _ _ _ _ _ _ _ _ _ _ _ k) (ev_ifn (by simp) (ev_ifp rfl (ev_bind hm (ev_bind (ev_const hcm) (ev_ifp rfl (ev_ifp rfl (ev_ifp rfl (ev_ifp ?_ (nowcast_j1 hc))))))))))))))
    simp only
    generalize ((tab (H * W) (moveCell W H c mx my)).filter (fun x => !(x == -9999))).length = n at hfl ⊢
    generalize (tab (H * W) (moveCell W H c mx my)).length = t at hfl htl ⊢
    rw [w64 (x := (t : Int) - (n : Int)) (by omega) (by omega), w64 (by omega) (by omega)]
    omega
end Go.Proofs.Ytmekfmhnpinjlaa.Pure
namespace Go.Proofs.Ytmekfmhnpinjlaa.fnNowcast
open Go.ChangeShapes Go.WideShapes Go.ChangeAt Go.RowKit Go.Proofs.Ytmekfmhnpinjlaa.Open Go.Proofs.Ytmekfmhnpinjlaa.P Go.Proofs.YtmekfmhnpinjlaaW.PrintWords
open Go.ChangeMaps (open_string shut_string)
set_option linter.unusedVariables false
theorem own : ownKnob Try.prog.godebug = none := by kernel_rfl
theorem laidOut : laidOutB Try.prog = true := by kernel_rfl
set_option maxRecDepth 100000 in
theorem lifted (os : Os) (started : os.Started) (H : Type) (enc : TypeId × Value → H) :
    ReturnsInHanded {} Try.checked os 3 .any (Rows.fnNowcastSpec.pre6 enc Try.prog Try.f3 Rows.fnNowcastRow.domain false) (Rows.fnNowcastSpec.post enc Try.prog Try.f3 false true false false) := by
  refine returnsInHanded_of_change_sized (C := Try.checked) own started (by kernel_rfl) Try.func3
    (ChangeSpec.witness6 (enc := enc) (C := Try.checked) false ⟨#[], #[.slice none 0 0], []⟩ 8 (by kernel_rfl) (by kernel_rfl) (by kernel_rfl) (by kernel_rfl)) ?_
  intro W base args ds gs before hval0 hW hcnd hsz0 _
  have hsz : (DataW.weightsEach Try.prog (Try.f3.params.toList ++ Rows.fnNowcastSpec.plain.varTypes Try.prog) (ds ++ gs)).all (· ≤ reachBytes) = true := hsz0
  have hval : ∀ (j : Nat) t v, Try.f3.params[j]? = some t → args[j]? = some v → Value.okWide Try.prog W .any base t v := hval0
  have hW' := hW
  obtain ⟨p, q, hA0, hV, rfl, hfz, hnd⟩ := hW
  have hA : DataW.TrodAll enc Try.prog W 0 (fun _ => true) true Try.f3.params.toList args.toList ds p := hA0
  rw [Try.params3] at hA hval hsz
  obtain ⟨v0, vs0, d0, ds0, p0, q0, hargs, rfl, rfl, h0, r0⟩ := trodAll_cons hA
  obtain ⟨rfl, rfl, rfl⟩ := trodAll_nil r0
  obtain rfl : args = #[v0] := by cases args; simp_all
  obtain ⟨rfl, rfl⟩ := trodVars_none hV
  obtain ⟨A0, len0, c0, rfl⟩ := okWide_slice Try.underlying22 (hval 0 22 v0 rfl rfl)
  have k0 := h0
  have lt0 : ∀ x ∈ p0, x.block < W.heap.size := by obtain ⟨m, hm⟩ := k0; exact DataW.trod_lt m _ _ _ hm
  have y0 : len0 * 1 ≤ 140737488351232 := sized_any hsz (j := 0) (t := 22) rfl rfl Try.underlying22 (by kernel_rfl) h0
  obtain ⟨l0, rfl, hc0, hr0, w0⟩ := slice_at (opens_slice Try.underlying22 (by kernel_rfl) (opens_int Try.underlying5)) h0
  clear hA0 hval0 hsz0 hsz
  obtain ⟨k, hp⟩ := Pure.FnNowcast l0 w0 y0
  refine (laws_FnNowcast.calls k A0 c0 l0 true W hr0 hc0 hp).mono fun e W' ⟨he, bel0⟩ => ?_
  have bel : Below W.heap.size W W' := bel0
  subst he
  exact ⟨_, rfl, _, _, _, [], _, [], hW', trodAll_mk1 (shut_bool Try.underlying4 _), (trodAll_cons_mk (Below.trod laidOut (by kernel_rfl) (of_decide_eq_true (by kernel_rfl)) k0 bel lt0) trodAll_mk0), rfl, bel.frame _, fun h => by cases h⟩
theorem over : Rows.fnNowcastRow.holds Try.pinned (OpenSpec.ofChange Rows.fnNowcastSpec) :=
  OpenClaim.holds_of_wide 3 Try.f3 rfl rfl rfl rfl rfl rfl rfl ⟨rfl, rfl, rfl, rfl, rfl⟩ rfl rfl rfl rfl rfl (by kernel_rfl) Try.func3 (by kernel_rfl)
    (of_decide_eq_true (by kernel_rfl)) (by unfold Func.isWrapper; first | (rw [if_pos (by decide +kernel)]; kernel_rfl) | (rw [if_neg (by decide +kernel)]; exact ⟨rfl, rfl⟩))
    (fun os started H enc _ => lifted os started H enc)
theorem proved : Rows.FnNowcastSaid := over
#print axioms proved
end Go.Proofs.Ytmekfmhnpinjlaa.fnNowcast
namespace Go.Proofs.Ytmekfmhnpinjlaa
theorem fnNowcast_holds : Rows.FnNowcastSaid := fnNowcast.proved
end Go.Proofs.Ytmekfmhnpinjlaa
