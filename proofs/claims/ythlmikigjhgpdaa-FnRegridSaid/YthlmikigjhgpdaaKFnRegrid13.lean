/- Texts of the claim FnRegrid, merged: part 13 of 13: the program's and the reference's functions as Lean functions, the walks that show it, and plain lemmas; no conditions. -/
import Derived.Test.YthlmikigjhgpdaaKFnRegrid12
import Derived.Laws.BitsLemmas
import Derived.Laws.Bits64
import Derived.Test.YthlmikigjhgpdaaKFnRegrid3
import Derived.Test.YthlmikigjhgpdaaKFnRegrid4
import Derived.Test.YthlmikigjhgpdaaKFnRegrid8
import Derived.Test.YthlmikigjhgpdaaKFnRegrid5
import Derived.Test.YthlmikigjhgpdaaKFnRegrid7
import Derived.Test.YthlmikigjhgpdaaKFnRegrid9
import Derived.Test.YthlmikigjhgpdaaKFnRegrid11
import Derived.Test.YthlmikigjhgpdaaRows
import Derived.WalkKit
import Derived.ProofKit
import Derived.OpenShut
import Derived.ShutString
import Derived.ChangeOld
import Derived.Below
import Derived.SizedLaws
namespace Go.Proofs.Ythlmikigjhgpdaa.Pure
set_option linter.unusedVariables false
set_option linter.unusedSimpArgs false
open Go.RowKit Go.Proofs.Ythlmikigjhgpdaa.P Go.Proofs.YthlmikigjhgpdaaW.PrintWords Go.Proofs.YthlmikigjhgpdaaW.PrintLast
theorem splitValue_more (a : Int) (l : List Int) (hl : l.length ≤ 9223372036854775806) :
    ∃ r, Ev (fun k => spec_SplitValue.f k a l) r ∧ Ev (fun k => impl_SplitValue.f k a l) r ∧ (r = ([], false) ∨ (r = (split a l, true) ∧ -9000 ≤ a ∧ a ≤ 9000 ∧ WOk l ∧ ssum l ≠ 0)) := by
  have no : Ev (fun k => spec_SplitValue.j0 k a l true) ([], false) := ev_step (fun k => spec_SplitValue.j0.eq_2 _ _ _ k) (ev_ifp rfl (ev_some _))
  unfold spec_SplitValue.f impl_SplitValue.f
  cases ha : inb a (-9000) 9000 with
  | false =>
    exact ⟨([], false), ev_bind (r := false) (ev_const (by rw [l1In_is, ha])) (ev_ifn (by simp) no), ev_bind (r := false) (ev_const (by rw [within_is, ha])) (ev_ifn (by simp) (ev_some _)), .inl rfl⟩
  | true =>
    cases hn : inb (l.length : Int) 1 64 with
    | false =>
      exact ⟨([], false), ev_bind (r := true) (ev_const (by rw [l1In_is, ha])) (ev_ifp rfl (ev_bind (r := false) (ev_const (by rw [l1In_is, hn])) no)),
        ev_bind (r := true) (ev_const (by rw [within_is, ha])) (ev_ifp rfl (ev_bind (r := false) (ev_const (by rw [within_is, hn])) (ev_ifn (by simp) (ev_some _)))), .inl rfl⟩
    | true =>
      have aw := allWithin_ev l 0 64 hl
      have h01 := inb_iff.1 ha
      cases hw : rall (inW l) 0 l.length with
      | false =>
        have aw2 : Ev (fun k => impl_allWithin.f k l 0 64) false := by rw [← hw]; exact aw
        exact ⟨([], false), ev_bind (r := true) (ev_const (by rw [l1In_is, ha])) (ev_ifp rfl (ev_bind (r := true) (ev_const (by rw [l1In_is, hn])) (ev_step (fun k => spec_SplitValue.j0.eq_2 _ _ _ k) (ev_ifn (by simp) (spec_stop a l hl l.length 0 0 (by omega) hw))))),
          ev_bind (r := true) (ev_const (by rw [within_is, ha])) (ev_ifp rfl (ev_bind (r := true) (ev_const (by rw [within_is, hn])) (ev_ifp rfl (ev_bind aw2 (ev_ifn (by simp) (ev_some _)))))), .inl rfl⟩
      | true =>
        have aw2 : Ev (fun k => impl_allWithin.f k l 0 64) true := by rw [← hw]; exact aw
        have hk := wok_of hn hw
        refine ⟨splitV a l, ?_, ?_, ?_⟩
        · exact ev_bind (r := true) (ev_const (by rw [l1In_is, ha])) (ev_ifp rfl (ev_bind (r := true) (ev_const (by rw [l1In_is, hn])) (ev_step (fun k => spec_SplitValue.j0.eq_2 _ _ _ k) (ev_ifn (by simp) (spec_sum h01.1 h01.2 hk)))))
        · refine ev_bind (r := true) (ev_const (by rw [within_is, ha])) (ev_ifp rfl (ev_bind (r := true) (ev_const (by rw [within_is, hn])) (ev_ifp rfl (ev_bind aw2 (ev_ifp rfl (ev_bind (sumOf_ev hk) ?_))))))
          unfold splitV
          by_cases hs : ssum l = 0
          · rw [if_pos hs]; exact ev_ifp hs (ev_some _)
          · rw [if_neg hs]; exact ev_ifn hs (ev_bind (splitValue_ev h01.1 h01.2 hk hs) (ev_some _))
        · unfold splitV
          by_cases hs : ssum l = 0
          · rw [if_pos hs]; exact .inl rfl
          · rw [if_neg hs]; exact .inr ⟨rfl, h01.1, h01.2, hk, hs⟩
theorem coarsenSum_more (a b : Int) (l : List Int) (x y : Int) (hl : l.length ≤ 9223372036854775806) :
    ∃ r, Ev (fun k => spec_CoarsenSum.f k a b l x y) r ∧ Ev (fun k => impl_CoarsenSum.f k a b l x y) r ∧ (r = (0, 0, [], false) ∨ ∃ W H W' H' p q : Nat, a = W ∧ b = H ∧ x = p ∧ y = q ∧ W = p * W' ∧ H = q * H' ∧ 0 < p ∧ 0 < q ∧ l.length = H * W ∧ Sides W H W' H' ∧ fullOk a b l = true ∧ blk x y a b = true ∧ sumsOk (blks l W H W' H' p q) = true ∧ r = ((W' : Int), (H' : Int), blks l W H W' H' p q, true)) := by
  have no : Ev (fun k => impl_CoarsenSum.j0 k x y true a b l) (0, 0, [], false) := ev_step (fun k => impl_CoarsenSum.j0.eq_2 _ _ _ _ _ _ k) (ev_ifp rfl (ev_some _))
  have g1 := l7Divides_ev a b l x y hl
  have g2 := isFull_ev a b l hl
  unfold spec_CoarsenSum.f impl_CoarsenSum.f
  cases hf : fullOk a b l with
  | false =>
    rw [hf] at g1 g2
    exact ⟨(0, 0, [], false), ev_bind g1 (ev_ifn (by simp) (ev_some _)), ev_bind g2 (ev_ifn (by simp) no), .inl rfl⟩
  | true =>
    rw [hf] at g1 g2
    rw [Bool.true_and] at g1
    have hs := full_shape hf
    cases hb : blk x y a b with
    | false =>
      rw [hb] at g1
      exact ⟨(0, 0, [], false), ev_bind g1 (ev_ifn (by simp) (ev_some _)), ev_bind g2 (ev_ifp rfl (ev_bind (r := false) (ev_const (by rw [areBlocks_is l x y hs, hb])) no)), .inl rfl⟩
    | true =>
      rw [hb] at g1
      have ha := areBlocks_is l x y hs
      obtain ⟨W, H, W', H', p, q, rfl, rfl, rfl, rfl, e1, e2, hp, hq, hlen, w8, h8, W8, H8⟩ := blk_nat hf hb
      have hbl := blks_len l W H W' H' p q
      have hm := mul_bd (show (1 : Int) ≤ (W' : Int) by omega) (by omega) (show (1 : Int) ≤ (H' : Int) by omega) (by omega)
      have hm2 : W' * H' ≤ 64 := by have := hm.2; rw [← Int.natCast_mul] at this; omega
      have b1 := l7Blocks_ev l W H W' H' p q e1 e2 hp hq hlen w8 h8 W8 H8
      have b2 := blockSums_ev l W H W' H' p q e1 e2 hp hq hlen w8 h8 W8 H8
      have c1 := l7Full_ev (W' : Int) (H' : Int) (blks l W H W' H' p q) (by omega)
      rw [sumsOk_full ⟨⟨by omega, by omega⟩, by omega, by omega⟩ (by rw [hbl, Int.natCast_mul])] at c1
      have c2 := checkedSums_ev (W' : Int) (H' : Int) (blks l W H W' H' p q) (by omega)
      refine ⟨if sumsOk (blks l W H W' H' p q) = true then ((W' : Int), (H' : Int), blks l W H W' H' p q, true) else (0, 0, [], false), ?_, ?_, ?_⟩
      · exact ev_bind g1 (ev_ifp rfl (ev_bind b1 (ev_bind c1 (ev_ite (fun _ => ev_some _) (fun _ => ev_some _)))))
      · exact ev_bind g2 (ev_ifp rfl (ev_bind (r := true) (ev_const (by rw [ha, hb])) (ev_step (fun k => impl_CoarsenSum.j0.eq_2 _ _ _ _ _ _ k) (ev_ifn (by simp) (ev_bind b2 (ev_bind c2 (ev_some _)))))))
      · by_cases hk : sumsOk (blks l W H W' H' p q) = true
        · rw [if_pos hk]
          have hs := full_shape hf
          exact .inr ⟨W, H, W', H', p, q, rfl, rfl, rfl, rfl, e1, e2, hp, hq, hlen, ⟨⟨by omega, by omega⟩, ⟨by omega, by omega⟩, w8, h8⟩, rfl, rfl, hk, rfl⟩
        · rw [if_neg hk]
          exact .inl rfl
theorem coarsenMean_more (a b : Int) (l : List Int) (x y : Int) (hl : l.length ≤ 9223372036854775806) :
    ∃ r, Ev (fun k => spec_CoarsenMean.f k a b l x y) r ∧ Ev (fun k => impl_CoarsenMean.f k a b l x y) r ∧ r.2.2.1.length ≤ 64 ∧ (fullOk a b l = true → blk x y a b = true → r.2.2.2 = true) := by
  have no : Ev (fun k => impl_CoarsenMean.j0 k x y true a b l) (0, 0, [], false) := ev_step (fun k => impl_CoarsenMean.j0.eq_2 _ _ _ _ _ _ k) (ev_ifp rfl (ev_some _))
  have g1 := l7Divides_ev a b l x y hl
  have g2 := isFull_ev a b l hl
  unfold spec_CoarsenMean.f impl_CoarsenMean.f
  cases hf : fullOk a b l with
  | false =>
    rw [hf] at g1 g2
    exact ⟨(0, 0, [], false), ev_bind g1 (ev_ifn (by simp) (ev_some _)), ev_bind g2 (ev_ifn (by simp) no), by simp, fun h1 h2 => by first | (simp at h1; done) | (simp at h2; done)⟩
  | true =>
    rw [hf] at g1 g2
    rw [Bool.true_and] at g1
    have hs := full_shape hf
    cases hb : blk x y a b with
    | false =>
      rw [hb] at g1
      exact ⟨(0, 0, [], false), ev_bind g1 (ev_ifn (by simp) (ev_some _)), ev_bind g2 (ev_ifp rfl (ev_bind (r := false) (ev_const (by rw [areBlocks_is l x y hs, hb])) no)), by simp, fun h1 h2 => by first | (simp at h1; done) | (simp at h2; done)⟩
    | true =>
      rw [hb] at g1
      have ha := areBlocks_is l x y hs
      have hv : ∀ i, -10000 ≤ l.getD i 0 ∧ l.getD i 0 ≤ 10000 := full_vals hf
      obtain ⟨W, H, W', H', p, q, rfl, rfl, rfl, rfl, e1, e2, hp, hq, hlen, w8, h8, W8, H8⟩ := blk_nat hf hb
      have hbl := blks_len l W H W' H' p q
      have hm := mul_bd (show (1 : Int) ≤ (W' : Int) by omega) (by omega) (show (1 : Int) ≤ (H' : Int) by omega) (by omega)
      have hm2 : W' * H' ≤ 64 := by have := hm.2; rw [← Int.natCast_mul] at this; omega
      have h64 : H * W ≤ 64 := Nat.mul_le_mul H8 W8
      have b1 := l7Blocks_ev l W H W' H' p q e1 e2 hp hq hlen w8 h8 W8 H8
      have b2 := blockSums_ev l W H W' H' p q e1 e2 hp hq hlen w8 h8 W8 H8
      have bd := blks_bd e1 e2 hp hq h64 hv
      have hp8 : p ≤ 8 := by have := Nat.le_mul_of_pos_right p (show 0 < W' by omega); omega
      have hq8 : q ≤ 8 := by have := Nat.le_mul_of_pos_right q (show 0 < H' by omega); omega
      have hpq := mul_bd (show (1 : Int) ≤ (p : Int) by omega) (by omega) (show (1 : Int) ≤ (q : Int) by omega) (by omega)
      have ew := Aside0.mk (show wrap64 ((p : Int) * (q : Int)) = (p : Int) * (q : Int) from w64 (by omega) (by omega))
      generalize blks l W H W' H' p q = B at *
      generalize hm : (p : Int) * (q : Int) = m at *
      have s1 := mean_loop (fun k s i => spec_CoarsenMean.l0 k (p : Int) (q : Int) (i : Int) (W' : Int) (H' : Int) s) B m (fun s => ((W' : Int), (H' : Int), s, true))
        (fun i s r he hl2 hi hr => by
          have en := Aside0.mk (show wrap64 ((i : Int) + 1) = ((i + 1 : Nat) : Int) by rw [w64 (by omega) (by omega)]; rfl)
          have := bd i
          refine ev_step (fun k => spec_CoarsenMean.l0.eq_2 _ _ _ _ _ _ k) (ev_ifp (by omega) (ev_ifp (by omega) (ev_bind (ev_const (by rw [rd_nat, he, hm, ew.out]; exact l4Floor_is (by omega) (by omega) (by omega) (by omega))) ?_)))
          rw [en.out, Int.toNat_natCast]
          exact hr)
        (fun s hl2 => ev_step (fun k => spec_CoarsenMean.l0.eq_2 _ _ _ _ _ _ k) (ev_ifn (by omega) (ev_some _)))
      have s2 := mean_loop (fun k s i => impl_CoarsenMean.l0 k (p : Int) (q : Int) (B.length : Int) (i : Int) (W' : Int) (H' : Int) s) B m (fun s => ((W' : Int), (H' : Int), s, true))
        (fun i s r he hl2 hi hr => by
          have en := Aside0.mk (show wrap64 ((i : Int) + 1) = ((i + 1 : Nat) : Int) by rw [w64 (by omega) (by omega)]; rfl)
          have := bd i
          refine ev_step (fun k => impl_CoarsenMean.l0.eq_2 _ _ _ _ _ _ _ k) (ev_ifp (by omega) (ev_ifp (by omega) (ev_ifp (by omega) (ev_bind (ev_const (by rw [rd_nat, he, hm, ew.out]; exact floorDiv_is (by omega) (by omega) (by omega) (by omega))) ?_))))
          rw [en.out, Int.toNat_natCast]
          exact hr)
        (fun s hl2 => ev_step (fun k => impl_CoarsenMean.l0.eq_2 _ _ _ _ _ _ _ k) (ev_ifn (by omega) (ev_some _)))
      refine ⟨((W' : Int), (H' : Int), tab B.length (fun i => B.getD i 0 / m), true), ?_, ?_, ?_, fun _ _ => rfl⟩
      · exact ev_bind g1 (ev_ifp rfl (ev_bind b1 s1))
      · exact ev_bind g2 (ev_ifp rfl (ev_bind (r := true) (ev_const (by rw [ha, hb])) (ev_step (fun k => impl_CoarsenMean.j0.eq_2 _ _ _ _ _ _ k) (ev_ifn (by simp) (ev_bind b2 s2)))))
      · show (tab B.length (fun i => B.getD i 0 / m)).length ≤ 64
        rw [tab_length]
        omega
theorem ev_det2 {α : Type} {g : Nat → Option α} {r s : α} (h : Ev g r) (k : Ev g s) : r = s := by
  obtain ⟨K, hk⟩ := ev_two h k
  have := hk K (Nat.le_refl _)
  exact Option.some.inj (this.1.symm.trans this.2)
theorem regridTotal_full {W H W' H' : Nat} (s : Sides W H W' H') {l : List Int} (hf : fullOk (W : Int) (H : Int) l = true) (hl : l.length = H * W) : Ev (fun k => impl_RegridTotal.f k (W : Int) (H : Int) l (W' : Int) (H' : Int)) (regridRes W' H' (regrid W H W' H' l)) := by
  have hn := s.n
  have g2 := isFull_ev (W : Int) (H : Int) l (by omega)
  rw [hf] at g2
  have hc := s.c
  have hd := s.d
  have hm : (inb (W' : Int) 1 8 && inb (H' : Int) 1 8) = true := shape_iff.2 ⟨by omega, by omega⟩
  have hmm : 1 ≤ (W' : Int) * H' ∧ (W' : Int) * H' ≤ 64 := mul_bd (by omega) (by omega) (by omega) (by omega)
  have hn2 : ((W' : Int) * H').toNat = H' * W' := by rw [← Int.natCast_mul, Int.toNat_natCast, Nat.mul_comm]
  have hfill2 := filled_is (W' : Int) (H' : Int) 0 hmm.1 hmm.2
  rw [hn2] at hfill2
  unfold impl_RegridTotal.f
  exact ev_bind g2 (ev_ifp rfl (ev_bind (ev_const ((isShape_is _ _).trans (by rw [hm]))) (ev_step (fun k => impl_RegridTotal.j0.eq_2 _ _ _ _ _ _ k) (ev_ifn (by simp) (ev_bind (ev_const hfill2) (regrid_impl s hf hl))))))
theorem total_isum {l : List Int} (hv : ∀ i, -9000 ≤ l.getD i 0 ∧ l.getD i 0 ≤ 9000) (hl : l.length ≤ 64) : total l = isum (fun i => l.getD i 0) l.length := by
  have e := iter_foldl totStep 0 l l.length 0 0 (by omega)
  rw [List.drop_zero] at e
  have key : ∀ n : Nat, n ≤ l.length → iter (fun i s => totStep s (l.getD i 0)) 0 n 0 = isum (fun i => l.getD i 0) n := by
    intro n
    induction n with
    | zero => intro _; rfl
    | succ n ih =>
      intro hn
      rw [iter_add (fun i s => totStep s (l.getD i 0)) n 0 1 _, Nat.zero_add, ih (by omega)]
      show totStep (isum (fun i => l.getD i 0) n) (l.getD n 0) = isum (fun i => l.getD i 0) n + l.getD n 0
      have hb := isum_bd (f := fun i => l.getD i 0) (B := 9000) n (fun i _ => hv i)
      have hvn := hv n
      unfold totStep
      rw [if_neg (by omega), w64 (by omega) (by omega)]
  unfold total
  rw [← e]
  exact key l.length (Nat.le_refl _)
theorem sums_val {l : List Int} (h : sumsOk l = true) (i : Nat) : -9000 ≤ l.getD i 0 ∧ l.getD i 0 ≤ 9000 := by
  by_cases hi : i < l.length
  · unfold sumsOk at h
    rw [rall_iff] at h
    exact inb_iff.1 (h i (Nat.zero_le _) (by omega))
  · rw [show l.getD i 0 = 0 by simp [List.getD, hi]]
    omega
theorem sameTotal_yes {W H W' H' : Nat} (s : Sides W H W' H') {l : List Int} (hf : fullOk (W : Int) (H : Int) l = true) (hl : l.length = H * W) (hk : sumsOk (regrid W H W' H' l) = true) :
    Ev (fun k => impl_SameTotal.f k (W : Int) (H : Int) l (W' : Int) (H' : Int) (regrid W H W' H' l)) (true, true) := by
  have hn := s.n
  have hc := s.c
  have hd := s.d
  have hg := (regrid_inv s hf (W' := W') (H' := H')).1
  have h := sameTotalI_ev (W : Int) (H : Int) l (W' : Int) (H' : Int) (regrid W H W' H' l) (by omega) (by omega)
  have f1 : fieldOk (W : Int) (H : Int) l = true := by
    unfold fullOk at hf
    rw [Bool.and_eq_true] at hf
    exact hf.1
  have f2 : fieldOk (W' : Int) (H' : Int) (regrid W H W' H' l) = true := by
    have := sumsOk_full (a := (W' : Int)) (b := (H' : Int)) (l := regrid W H W' H' l) ⟨by omega, by omega⟩ (by rw [hg, Int.natCast_mul, Int.mul_comm])
    rw [hk] at this
    unfold fullOk at this
    rw [Bool.and_eq_true] at this
    exact this.1
  have e : total l = total (regrid W H W' H' l) := by
    rw [total_isum (fun i => full_val hf i) (by omega), total_isum (fun i => sums_val hk i) (by omega), ← regrid_sum s hf hl, hg]
  unfold sameTotal at h
  rw [if_pos ⟨f1, f2⟩, e] at h
  simpa using h
end Go.Proofs.Ythlmikigjhgpdaa.Pure
namespace Go.Proofs.Ythlmikigjhgpdaa.Pure
set_option linter.unusedVariables false
open Go.RowKit Go.Proofs.YthlmikigjhgpdaaW.PrintWords Go.Proofs.YthlmikigjhgpdaaW.PrintLast
theorem ends_inv {σ ρ : Type} (F : Nat → σ → Nat → Option ρ) (n : Nat) (I : Nat → σ → Prop) (P : ρ → Prop)
    (hs : ∀ i s, I i s → i < n → ∃ s', I (i + 1) s' ∧ ∀ r, Ev (fun k => F k s' (i + 1)) r → Ev (fun k => F k s i) r)
    (he : ∀ s, I n s → ∃ r, Ev (fun k => F k s n) r ∧ P r) : ∀ i s, i ≤ n → I i s → ∃ r, Ev (fun k => F k s i) r ∧ P r := by
  have key : ∀ d i s, n - i = d → i ≤ n → I i s → ∃ r, Ev (fun k => F k s i) r ∧ P r := by
    intro d
    induction d with
    | zero =>
      intro i s h0 h1 h2
      obtain rfl : i = n := by omega
      exact he s h2
    | succ d ih =>
      intro i s h0 h1 h2
      obtain ⟨s', h3, h4⟩ := hs i s h2 (by omega)
      obtain ⟨r, h5, h6⟩ := ih (i + 1) s' (by omega) (by omega) h3
      exact ⟨r, h4 r h5, h6⟩
  exact fun i s h1 h2 => key (n - i) i s rfl h1 h2
end Go.Proofs.Ythlmikigjhgpdaa.Pure
namespace Go.Proofs.Ythlmikigjhgpdaa.Pure
set_option linter.unusedVariables false
set_option linter.unusedSimpArgs false
open Go Go.RowKit Go.Proofs.Ythlmikigjhgpdaa.P Go.Proofs.YthlmikigjhgpdaaW.PrintWords Go.Proofs.YthlmikigjhgpdaaW.PrintLast
theorem u64_bd (x : Int) : 0 ≤ IntKind.u64.wrap x ∧ IntKind.u64.wrap x < 18446744073709551616 := by
  rw [IntKind.wrap_u64]
  omega
theorem wraps63 (n : Int) (h0 : 0 ≤ n) (h1 : n < 2 ^ 63) : IntKind.u64.wrap n = n := by
  rw [IntKind.wrap_u64]
  omega
theorem and255 (v : Int) (h0 : 0 ≤ v) (h1 : v < 18446744073709551616) : 0 ≤ Go.bits .and .u64 (v / 1099511627776) 255 ∧ Go.bits .and .u64 (v / 1099511627776) 255 ≤ 255 := by
  have h := bits_mask .u64 63 (by decide) wraps63 8 (by decide) (v / 1099511627776) (by omega) (by omega)
  have e : ((2 : Int) ^ 8 - 1) = 255 := by decide
  have e2 : ((2 : Int) ^ 8) = 256 := by decide
  rw [e, e2] at h
  rw [h]
  omega
structure Code (l : List Int) : Prop where
  len : l.length ≤ 65536
  byte : ∀ x ∈ l, 0 ≤ x ∧ x ≤ 255
theorem Code.bd {l : List Int} (h : Code l) (i : Int) : 0 ≤ rd l i ∧ rd l i ≤ 255 := by
  unfold rd
  by_cases hi : i.toNat < l.length
  · rw [getD_eq_get 0 hi]
    exact h.byte _ (List.getElem_mem hi)
  · simp [List.getD, List.getElem?_eq_none (show l.length ≤ i.toNat by omega)]
theorem next_at {l : List Int} (hl : Code l) (i s : Int) (h0 : 0 ≤ i) (h1 : i ≤ 1000000000) : ∃ x s', spec_l1Cur_next.f l i s = some (x, i + 1, s') ∧ 0 ≤ x ∧ x ≤ 255 := by
  unfold spec_l1Cur_next.f
  have hr := hl.bd i
  have w1 : wrap64 (i + 1) = i + 1 := w64 (by omega) (by omega)
  rw [w1]
  by_cases c1 : i < (l.length : Int)
  · rw [if_pos c1, if_pos h0, if_pos (by omega)]
    exact ⟨_, _, rfl, by rw [w64 (by omega) (by omega)]; exact hr.1, by rw [w64 (by omega) (by omega)]; exact hr.2⟩
  · rw [if_neg c1, if_neg (by omega)]
    have hb := u64_bd (IntKind.u64.wrap (IntKind.u64.wrap (s * 6364136223846793005)) + 889889)
    have ha := and255 _ hb.1 hb.2
    exact ⟨_, _, rfl, by rw [w64 (by omega) (by omega)]; exact ha.1, by rw [w64 (by omega) (by omega)]; exact ha.2⟩
theorem pick_at {l : List Int} (hl : Code l) (i s n : Int) (h0 : 0 ≤ i) (h1 : i ≤ 100000000) :
    ∃ x i' s', spec_l1Cur_pick.f l i s n = some (x, i', s') ∧ 0 ≤ x ∧ (1 ≤ n → x < n) ∧ i ≤ i' ∧ i' ≤ i + 2 := by
  unfold spec_l1Cur_pick.f
  by_cases c1 : n ≤ 1
  · rw [if_pos c1]
    exact ⟨_, _, _, rfl, by omega, fun h => by omega, by omega, by omega⟩
  · rw [if_neg c1]
    obtain ⟨x, s1, e1, b1, b2⟩ := next_at hl i s h0 (by omega)
    rw [e1, Option.bind_some]
    have cn : ¬ n = 0 := by omega
    by_cases c2 : n > 200
    · rw [if_pos c2]
      obtain ⟨y, s2, e2, b3, b4⟩ := next_at hl (i + 1) s1 (by omega) (by omega)
      simp only
      rw [e2, Option.bind_some, if_neg cn]
      simp only
      rw [w64 (x := x * 256) (by omega) (by omega), w64 (by omega) (by omega), Int.tmod_eq_emod_of_nonneg (by omega)]
      exact ⟨_, _, _, rfl, Int.emod_nonneg _ cn, fun _ => Int.emod_lt_of_pos _ (by omega), by omega, by omega⟩
    · rw [if_neg c2, if_neg cn]
      simp only
      rw [Int.tmod_eq_emod_of_nonneg (by omega)]
      exact ⟨_, _, _, rfl, Int.emod_nonneg _ cn, fun _ => Int.emod_lt_of_pos _ (by omega), by omega, by omega⟩
theorem one_at {l : List Int} (hl : Code l) (i s n : Int) (h0 : 0 ≤ i) (h1 : i ≤ 100000000) : ∃ b i' s', spec_l1Cur_one.f l i s n = some (b, i', s') ∧ i ≤ i' ∧ i' ≤ i + 2 := by
  unfold spec_l1Cur_one.f
  obtain ⟨x, i', s', e, _, _, b3, b4⟩ := pick_at hl i s n h0 h1
  rw [e, Option.bind_some]
  exact ⟨_, _, _, rfl, b3, b4⟩
theorem among_at {l : List Int} (hl : Code l) (i s : Int) (xs : List Int) (hx : 1 ≤ xs.length) (h0 : 0 ≤ i) (h1 : i ≤ 100000000) :
    ∃ x i' s', spec_l1Cur_among.f l i s xs = some (x, i', s') ∧ x ∈ xs ∧ i ≤ i' ∧ i' ≤ i + 2 := by
  unfold spec_l1Cur_among.f
  obtain ⟨x, i', s', e, b1, b2, b3, b4⟩ := pick_at hl i s (xs.length : Int) h0 h1
  have b5 := b2 (by omega)
  rw [e, Option.bind_some, if_pos b1, if_pos b5]
  refine ⟨_, _, _, rfl, ?_, b3, b4⟩
  unfold rd
  simp only
  have hlt : x.toNat < xs.length := by omega
  rw [getD_eq_get 0 hlt]
  exact List.getElem_mem hlt
theorem field_j1 {l : List Int} (hl : Code l) (i s : Int) (h0 : 0 ≤ i) (h1 : i ≤ 90000000) (w h : Int) (c : List Int) (hc : 1 ≤ c.length ∧ c.length ≤ 64) :
    ∃ r : Int × Int × List Int × Int × Int, Ev (fun k => spec_l1Cur_field.j1 k l i s w h c) r ∧ (1 ≤ r.2.2.1.length ∧ r.2.2.1.length ≤ 64) ∧ i ≤ r.2.2.2.1 ∧ r.2.2.2.1 ≤ i + 2 := by
  obtain ⟨b, i1, s1, e1, b1, b2⟩ := one_at hl i s 24 h0 (by omega)
  cases b with
  | true =>
    have hf := l2Fill_ev 8 8 3 (by decide) (by decide)
    refine ⟨(8, 8, List.replicate (8 * 8 : Int).toNat 3, i1, s1), ev_step (fun k => spec_l1Cur_field.j1.eq_2 _ _ _ _ _ _ k) (ev_bind (ev_const e1) (ev_ifp rfl (ev_bind hf (ev_some _)))), by simp, b1, b2⟩
  | false =>
    exact ⟨(w, h, c, i1, s1), ev_step (fun k => spec_l1Cur_field.j1.eq_2 _ _ _ _ _ _ k) (ev_bind (ev_const e1) (ev_ifn (by simp) (ev_some _))), hc, b1, b2⟩
theorem field_at {l : List Int} (hl : Code l) (i s : Int) (h0 : 0 ≤ i) (h1 : i ≤ 80000000) :
    ∃ r : Int × Int × List Int × Int × Int, Ev (fun k => spec_l1Cur_field.f k l i s) r ∧ (1 ≤ r.2.2.1.length ∧ r.2.2.1.length ≤ 64) ∧ i ≤ r.2.2.2.1 ∧ r.2.2.2.1 ≤ i + 200 := by
  obtain ⟨x1, i1, s1, e1, p1, q1, b1, b2⟩ := pick_at hl i s 5 h0 (by omega)
  obtain ⟨x2, i2, s2, e2, p2, q2, b3, b4⟩ := pick_at hl i1 s1 5 (by omega) (by omega)
  obtain ⟨x3, i3, s3, e3, _, b5, b6⟩ := among_at hl i2 s2 [0, 10, 100, (-50)] (by simp) (by omega) (by omega)
  have q1' := q1 (by omega)
  have q2' := q2 (by omega)
  obtain ⟨W, hW⟩ := Int.eq_ofNat_of_zero_le (show 0 ≤ 1 + x1 by omega)
  obtain ⟨H, hH⟩ := Int.eq_ofNat_of_zero_le (show 0 ≤ 1 + x2 by omega)
  have hm : W * H ≤ 25 := Nat.mul_le_mul (show W ≤ 5 by omega) (show H ≤ 5 by omega)
  have hm1 : 1 ≤ W * H := Nat.mul_pos (by omega) (by omega)
  have ew := Aside0.mk (show wrap64 ((W : Int) * (H : Int)) = ((W * H : Nat) : Int) by rw [← Int.natCast_mul, w64n (by omega)])
  obtain ⟨r, hr, hp⟩ := ends_inv (fun k (st : Int × Int × List Int) j => spec_l1Cur_field.l0 k x3 (j : Int) l st.1 st.2.1 (W : Int) (H : Int) st.2.2) (W * H) (fun j st => i3 ≤ st.1 ∧ st.1 ≤ i3 + 4 * (j : Int) ∧ st.2.2.length = j)
    (fun r => (1 ≤ r.2.2.1.length ∧ r.2.2.1.length ≤ 64) ∧ i ≤ r.2.2.2.1 ∧ r.2.2.2.1 ≤ i + 200)
    (fun j st hI hj => by
      obtain ⟨at_, sd, c⟩ := st
      obtain ⟨c1, c2, c3⟩ := hI
      simp only at c1 c2 c3
      obtain ⟨y, i4, s4, e4, _, _, d1, d2⟩ := pick_at hl at_ sd 40 (by omega) (by omega)
      obtain ⟨b, i5, s5, e5, d3, d4⟩ := one_at hl i4 s4 12 (by omega) (by omega)
      have ej := Aside0.mk (show wrap64 ((j : Int) + 1) = ((j + 1 : Nat) : Int) by rw [w64 (by omega) (by omega)]; rfl)
      cases b with
      | true =>
        refine ⟨(i5, s5, c ++ [(-9999)]), ⟨by simp only; omega, by simp only; omega, by simp [c3]⟩, fun r h => ev_step (fun k => ?_) h⟩
        simp only [spec_l1Cur_field.l0]
        rw [ew.out, if_pos (by omega), e4]
        simp only [Option.bind_some]
        rw [e5]
        simp only [Option.bind_some, if_true]
        rw [if_pos (by omega), ej.out]
      | false =>
        refine ⟨(i5, s5, c ++ [wrap64 (x3 + y)]), ⟨by simp only; omega, by simp only; omega, by simp [c3]⟩, fun r h => ev_step (fun k => ?_) h⟩
        simp only [spec_l1Cur_field.l0]
        rw [ew.out, if_pos (by omega), e4]
        simp only [Option.bind_some]
        rw [e5]
        simp only [Option.bind_some, Bool.false_eq_true, if_false]
        rw [if_pos (by omega), ej.out])
    (fun st hI => by
      obtain ⟨at_, sd, c⟩ := st
      obtain ⟨c1, c2, c3⟩ := hI
      simp only at c1 c2 c3
      obtain ⟨b, i4, s4, e4, d1, d2⟩ := one_at hl at_ sd 10 (by omega) (by omega)
      cases b with
      | true =>
        obtain ⟨y, i5, s5, e5, d3, d4, d5, d6⟩ := pick_at hl i4 s4 (c.length : Int) (by omega) (by omega)
        obtain ⟨z, i6, s6, e6, _, d7, d8⟩ := among_at hl i5 s5 [9000, (-9000), 0] (by simp) (by omega) (by omega)
        have d4' := d4 (by omega)
        obtain ⟨r, hr, hc, d9, d10⟩ := field_j1 hl i6 s6 (by omega) (by omega) (W : Int) (H : Int) (c.set y.toNat z) (by simp; omega)
        refine ⟨r, ev_step (fun k => ?_) hr, hc, by omega, by omega⟩
        simp only [spec_l1Cur_field.l0]
        rw [ew.out, if_neg (by omega), e4]
        simp only [Option.bind_some, if_true]
        rw [e5]
        simp only [Option.bind_some]
        rw [e6]
        simp only [Option.bind_some]
        rw [if_pos d3, if_pos d4']
      | false =>
        obtain ⟨r, hr, hc, d9, d10⟩ := field_j1 hl i4 s4 (by omega) (by omega) (W : Int) (H : Int) c (by omega)
        refine ⟨r, ev_step (fun k => ?_) hr, hc, by omega, by omega⟩
        simp only [spec_l1Cur_field.l0]
        rw [ew.out, if_neg (by omega), e4]
        simp only [Option.bind_some, Bool.false_eq_true, if_false]) 0 (i3, s3, []) (Nat.zero_le _) ⟨by simp only; omega, by simp only; omega, rfl⟩
  refine ⟨r, ?_, hp⟩
  unfold spec_l1Cur_field.f
  refine ev_bind (ev_const e1) (ev_bind (ev_const e2) (ev_bind (ev_const e3) ?_))
  simp only
  rw [w64 (x := 1 + x1) (by omega) (by omega), w64 (x := 1 + x2) (by omega) (by omega), hW, hH]
  exact hr
theorem anyField_at {l : List Int} (hl : Code l) (i s : Int) (h0 : 0 ≤ i) (h1 : i ≤ 70000000) :
    ∃ r : Int × Int × List Int × Int × Int, Ev (fun k => spec_l1Cur_anyField.f k l i s) r ∧ r.2.2.1.length ≤ 64 ∧ i ≤ r.2.2.2.1 ∧ r.2.2.2.1 ≤ i + 300 := by
  obtain ⟨⟨w, h, c, i1, s1⟩, hr, hc, b1, b2⟩ := field_at hl i s h0 (by omega)
  simp only at hc b1 b2
  obtain ⟨x, i2, s2, e2, _, _, b3, b4⟩ := pick_at hl i1 s1 24 (by omega) (by omega)
  unfold spec_l1Cur_anyField.f
  by_cases c0 : x = 0
  · obtain ⟨y, i3, s3, e3, _, b5, b6⟩ := among_at hl i2 s2 [0, 9, 8, h] (by simp) (by omega) (by omega)
    exact ⟨(y, h, c, i3, s3), ev_bind hr (ev_bind (ev_const e2) (ev_ifp c0 (ev_bind (ev_const e3) (ev_some _)))), by simp only; omega, by simp only; omega, by simp only; omega⟩
  · by_cases c1 : x = 1
    · obtain ⟨y, i3, s3, e3, p3, q3, b5, b6⟩ := pick_at hl i2 s2 (c.length : Int) (by omega) (by omega)
      obtain ⟨z, i4, s4, e4, _, b7, b8⟩ := among_at hl i3 s3 [9001, (-9001), (-9998), (-9999)] (by simp) (by omega) (by omega)
      exact ⟨(w, h, c.set y.toNat z, i4, s4), ev_bind hr (ev_bind (ev_const e2) (ev_ifn c0 (ev_ifp c1 (ev_bind (ev_const e3) (ev_bind (ev_const e4) (ev_ifp p3 (ev_ifp (q3 (by omega)) (ev_some _)))))))), by simp; omega, by simp only; omega, by simp only; omega⟩
    · by_cases c2 : x = 2
      · exact ⟨(w, h, c.drop (1 : Int).toNat, i2, s2), ev_bind hr (ev_bind (ev_const e2) (ev_ifn c0 (ev_ifn c1 (ev_ifp c2 (ev_ifp (by simp only; omega) (ev_some _)))))), by simp; omega, by simp only; omega, by simp only; omega⟩
      · exact ⟨(w, h, c, i2, s2), ev_bind hr (ev_bind (ev_const e2) (ev_ifn c0 (ev_ifn c1 (ev_ifn c2 (ev_some _))))), by simp only; omega, by simp only; omega, by simp only; omega⟩
end Go.Proofs.Ythlmikigjhgpdaa.Pure
namespace Go.Proofs.Ythlmikigjhgpdaa.Pure
set_option linter.unusedVariables false
set_option linter.unusedSimpArgs false
open Go.RowKit Go.Proofs.Ythlmikigjhgpdaa.P Go.Proofs.YthlmikigjhgpdaaW.PrintWords Go.Proofs.YthlmikigjhgpdaaW.PrintLast
theorem full_at {l : List Int} (hl : Code l) (i s : Int) (h0 : 0 ≤ i) (h1 : i ≤ 60000000) :
    ∃ r : Int × Int × List Int × Int × Int, Ev (fun k => spec_l1Cur_full.f k l i s) r ∧ (r.2.2.1.length ≤ 64 ∧ i ≤ r.2.2.2.1 ∧ r.2.2.2.1 ≤ i + 1000) := by
  obtain ⟨⟨w, h, c, i1, s1⟩, hr, hc, b1, b2⟩ := anyField_at hl i s h0 (by omega)
  dsimp only at hc b1 b2
  have h := ends_inv (fun k (st : Int × Int × List Int) n => spec_l1Cur_full.l0 k (n : Int) l st.1 st.2.1 w h st.2.2) c.length
    (fun n st => st.2.2.length = c.length ∧ i1 ≤ st.1 ∧ st.1 ≤ i1 + 4 * (n : Int))
    (fun r : Int × Int × List Int × Int × Int => r.2.2.1.length ≤ 64 ∧ i ≤ r.2.2.2.1 ∧ r.2.2.2.1 ≤ i + 1000)
    (fun n st hI hn => by
      obtain ⟨i2, s2, d⟩ := st
      obtain ⟨a1, a2, a3⟩ := hI
      dsimp only at a1 a2 a3
      have ew := Aside0.mk (show wrap64 ((n : Int) + 1) = ((n + 1 : Nat) : Int) by rw [w64 (by omega) (by omega)]; rfl)
      by_cases hm : rd d (n : Int) = -9999
      · obtain ⟨b, i3, s3, e1, b3, b4⟩ := one_at hl i2 s2 30 (by omega) (by omega)
        cases b with
        | true =>
          refine ⟨(i3, s3, d), ⟨a1, by dsimp only; omega, by dsimp only; omega⟩, fun r hr => ?_⟩
          refine ev_step (fun k => spec_l1Cur_full.l0.eq_2 _ _ _ _ _ _ _ k) (ev_ifp (by dsimp only; omega) (ev_ifp (by omega) (ev_ifp hm (ev_bind (ev_const e1) (ev_ifp rfl ?_)))))
          rw [ew.out]
          exact hr
        | false =>
          obtain ⟨x, i4, s4, e2, _, _, b5, b6⟩ := pick_at hl i3 s3 90 (by omega) (by omega)
          refine ⟨(i4, s4, d.set n (wrap64 (x - 40))), ⟨by dsimp only; rw [List.length_set]; exact a1, by dsimp only; omega, by dsimp only; omega⟩, fun r hr => ?_⟩
          refine ev_step (fun k => spec_l1Cur_full.l0.eq_2 _ _ _ _ _ _ _ k) (ev_ifp (by dsimp only; omega) (ev_ifp (by omega) (ev_ifp hm (ev_bind (ev_const e1) (ev_ifn (by simp) (ev_bind (ev_const e2) ?_))))))
          rw [ew.out]
          exact hr
      · refine ⟨(i2, s2, d), ⟨a1, by dsimp only; omega, by dsimp only; omega⟩, fun r hr => ?_⟩
        refine ev_step (fun k => spec_l1Cur_full.l0.eq_2 _ _ _ _ _ _ _ k) (ev_ifp (by dsimp only; omega) (ev_ifp (by omega) (ev_ifn hm ?_)))
        rw [ew.out]
        exact hr)
    (fun st hI => by
      obtain ⟨i2, s2, d⟩ := st
      obtain ⟨a1, a2, a3⟩ := hI
      dsimp only at a1 a2 a3
      exact ⟨(w, h, d, i2, s2), ev_step (fun k => spec_l1Cur_full.l0.eq_2 _ _ _ _ _ _ _ k) (ev_ifn (by dsimp only; omega) (ev_some _)), by dsimp only; omega, by dsimp only; omega, by dsimp only; omega⟩)
    0 (i1, s1, c) (Nat.zero_le _) ⟨rfl, by dsimp only; omega, by dsimp only; omega⟩
  obtain ⟨r, h2, h3⟩ := h
  refine ⟨r, ?_, h3⟩
  unfold spec_l1Cur_full.f
  exact ev_bind hr h2
theorem drawRegridTotal_at {l : List Int} (hl : Code l) : ∃ r : Int × Int × List Int × Int × Int, Ev (fun k => spec_DrawRegridTotal.f k l) r ∧ r.2.2.1.length ≤ 64 := by
  obtain ⟨⟨w, h, c, i1, s1⟩, e1, hc, b1, b2⟩ := full_at hl 0 0 (by omega) (by omega)
  dsimp only at hc b1 b2
  obtain ⟨x, i2, s2, e2, _, _, b3, b4⟩ := pick_at hl i1 s1 9 (by omega) (by omega)
  obtain ⟨y, i3, s3, e3, _, _, b5, b6⟩ := pick_at hl i2 s2 8 (by omega) (by omega)
  unfold spec_DrawRegridTotal.f
  exact ⟨_, ev_bind e1 (ev_bind (ev_const e2) (ev_bind (ev_const e3) (ev_some _))), hc⟩
theorem drawCoarsen_end {l : List Int} (hl : Code l) (w h : Int) (c : List Int) (hc : c.length ≤ 64) (i s : Int) (h0 : 0 ≤ i) (h1 : i ≤ 70000000) :
    ∃ r : Int × Int × List Int × Int × Int, (spec_l1Cur_among.f l i s [1, 2, 4, 3, 0]).bind (fun bt => (spec_l1Cur_among.f l bt.2.1 bt.2.2 [1, 2, 3, 6, 5, (-1)]).bind fun bt2 => some (w, h, c, bt.1, bt2.1)) = some r ∧ r.2.2.1.length ≤ 64 := by
  obtain ⟨x, i2, s2, e2, _, b3, b4⟩ := among_at hl i s [1, 2, 4, 3, 0] (by simp) (by omega) (by omega)
  obtain ⟨y, i3, s3, e3, _, b5, b6⟩ := among_at hl i2 s2 [1, 2, 3, 6, 5, (-1)] (by simp) (by omega) (by omega)
  refine ⟨(w, h, c, x, y), ?_, hc⟩
  rw [e2, Option.bind_some]
  dsimp only
  rw [e3, Option.bind_some]
theorem drawCoarsen_l0 {l : List Int} (hl : Code l) (w h i0 s0 : Int) (h0 : 0 ≤ i0) (h1 : i0 ≤ 60000000) : ∃ r : Int × Int × List Int × Int × Int, Ev (fun k => spec_DrawCoarsenSum.l0 k 0 l i0 s0 w h []) r ∧ r.2.2.1.length ≤ 64 := by
  exact ends_inv (fun k (st : Int × Int × List Int) n => spec_DrawCoarsenSum.l0 k (n : Int) l st.1 st.2.1 w h st.2.2) 24
    (fun n st => st.2.2.length = n ∧ i0 ≤ st.1 ∧ st.1 ≤ i0 + 2 * (n : Int))
    (fun r : Int × Int × List Int × Int × Int => r.2.2.1.length ≤ 64)
    (fun n st hI hn => by
      obtain ⟨i2, s2, d⟩ := st
      obtain ⟨a1, a2, a3⟩ := hI
      dsimp only at a1 a2 a3
      have ew := Aside0.mk (show wrap64 ((n : Int) + 1) = ((n + 1 : Nat) : Int) by rw [w64 (by omega) (by omega)]; rfl)
      obtain ⟨x, i4, s4, e2, _, _, b5, b6⟩ := pick_at hl i2 s2 60 (by omega) (by omega)
      refine ⟨(i4, s4, d ++ [wrap64 (x - 20)]), ⟨by dsimp only; rw [List.length_append, List.length_singleton]; omega, by dsimp only; omega, by dsimp only; omega⟩, fun r hr => ?_⟩
      refine ev_step (fun k => spec_DrawCoarsenSum.l0.eq_2 _ _ _ _ _ _ _ k) (ev_ifp (by omega) (ev_bind (ev_const e2) (ev_ifp (by dsimp only; omega) ?_)))
      rw [ew.out]
      exact hr)
    (fun st hI => by
      obtain ⟨i2, s2, d⟩ := st
      obtain ⟨a1, a2, a3⟩ := hI
      dsimp only at a1 a2 a3
      obtain ⟨b, i3, s3, e1, b3, b4⟩ := one_at hl i2 s2 8 (by omega) (by omega)
      cases b with
      | true =>
        obtain ⟨r, e2, hr⟩ := drawCoarsen_end hl w h (d.set (0 : Int).toNat 9000) (by rw [List.length_set]; omega) i3 s3 (by omega) (by omega)
        exact ⟨r, ev_step (fun k => spec_DrawCoarsenSum.l0.eq_2 _ _ _ _ _ _ _ k) (ev_ifn (by omega) (ev_bind (ev_const e1) (ev_ifp rfl (ev_ifp (by dsimp only; omega) (ev_const e2))))), hr⟩
      | false =>
        obtain ⟨r, e2, hr⟩ := drawCoarsen_end hl w h d (by omega) i3 s3 (by omega) (by omega)
        exact ⟨r, ev_step (fun k => spec_DrawCoarsenSum.l0.eq_2 _ _ _ _ _ _ _ k) (ev_ifn (by omega) (ev_bind (ev_const e1) (ev_ifn (by simp) (ev_const e2)))), hr⟩)
    0 (i0, s0, []) (Nat.zero_le _) ⟨rfl, by dsimp only; omega, by dsimp only; omega⟩
theorem drawCoarsen_at {l : List Int} (hl : Code l) : ∃ r : Int × Int × List Int × Int × Int, Ev (fun k => spec_DrawCoarsenSum.f k l) r ∧ r.2.2.1.length ≤ 64 := by
  obtain ⟨⟨w, h, c, i1, s1⟩, e1, hc, b1, b2⟩ := full_at hl 0 0 (by omega) (by omega)
  dsimp only at hc b1 b2
  obtain ⟨b, i2, s2, e2, b3, b4⟩ := one_at hl i1 s1 2 (by omega) (by omega)
  unfold spec_DrawCoarsenSum.f
  cases b with
  | true =>
    obtain ⟨r, e3, hr⟩ := drawCoarsen_l0 hl 4 6 i2 s2 (by omega) (by omega)
    exact ⟨r, ev_bind e1 (ev_bind (ev_const e2) (ev_ifp rfl e3)), hr⟩
  | false =>
    obtain ⟨r, e3, hr⟩ := drawCoarsen_end hl w h c hc i2 s2 (by omega) (by omega)
    exact ⟨r, ev_bind e1 (ev_bind (ev_const e2) (ev_ifn (by simp) (ev_const e3))), hr⟩
theorem drawSplit_j1 {l : List Int} (hl : Code l) (c : List Int) (hc : c.length ≤ 64) (i s : Int) (h0 : 0 ≤ i) (h1 : i ≤ 70000000) : ∃ r : Int × List Int, Ev (fun k => spec_DrawSplitValue.j1 k c l i s) r ∧ r.2.length ≤ 64 := by
  obtain ⟨b, i2, s2, e2, b3, b4⟩ := one_at hl i s 24 (by omega) (by omega)
  obtain ⟨y, i3, s3, e3, _, b5, b6⟩ := among_at hl i2 s2 [10, 7, (-7), 100, 1, 0, 9000, (-9000), 9001, (-1)] (by simp) (by omega) (by omega)
  cases b with
  | true => exact ⟨(y, []), ev_step (fun k => spec_DrawSplitValue.j1.eq_2 _ _ _ _ k) (ev_bind (ev_const e2) (ev_ifp rfl (ev_bind (ev_const e3) (ev_some _)))), by simp⟩
  | false => exact ⟨(y, c), ev_step (fun k => spec_DrawSplitValue.j1.eq_2 _ _ _ _ k) (ev_bind (ev_const e2) (ev_ifn (by simp) (ev_bind (ev_const e3) (ev_some _)))), hc⟩
theorem drawSplit_l0 {l : List Int} (hl : Code l) : ∀ (n : Nat) (c : List Int) (i s : Int), c.length + n ≤ 60 → 1 ≤ c.length + n → 0 ≤ i → i + 2 * (n : Int) ≤ 50000000 → ∃ r : Int × List Int, Ev (fun k => spec_DrawSplitValue.l0 k c ((n : Int) - 1) l i s) r ∧ r.2.length ≤ 64
  | 0, c, i, s, hc, hc1, h0, h1 => by
    obtain ⟨b, i2, s2, e2, b3, b4⟩ := one_at hl i s 12 (by omega) (by omega)
    cases b with
    | true =>
      obtain ⟨x, i3, s3, e3, p3, q3, b5, b6⟩ := pick_at hl i2 s2 (c.length : Int) (by omega) (by omega)
      have q3' := q3 (by omega)
      obtain ⟨y, i4, s4, e4, _, b7, b8⟩ := among_at hl i3 s3 [65, (-1), 0] (by simp) (by omega) (by omega)
      obtain ⟨r, hr, hl2⟩ := drawSplit_j1 hl (c.set x.toNat y) (by rw [List.length_set]; omega) i4 s4 (by omega) (by omega)
      exact ⟨r, ev_step (fun k => spec_DrawSplitValue.l0.eq_2 _ _ _ _ _ k) (ev_ifn (by omega) (ev_bind (ev_const e2) (ev_ifp rfl (ev_bind (ev_const e3) (ev_bind (ev_const e4) (ev_ifp p3 (ev_ifp q3' hr))))))), hl2⟩
    | false =>
      obtain ⟨r, hr, hl2⟩ := drawSplit_j1 hl c (by omega) i2 s2 (by omega) (by omega)
      exact ⟨r, ev_step (fun k => spec_DrawSplitValue.l0.eq_2 _ _ _ _ _ k) (ev_ifn (by omega) (ev_bind (ev_const e2) (ev_ifn (by simp) hr))), hl2⟩
  | n + 1, c, i, s, hc, hc1, h0, h1 => by
    obtain ⟨y, i3, s3, e3, _, b5, b6⟩ := among_at hl i s [0, 1, 1, 2, 3, 7, 64] (by simp) (by omega) (by omega)
    obtain ⟨r, hr, hl2⟩ := drawSplit_l0 hl n (c ++ [y]) i3 s3 (by rw [List.length_append, List.length_singleton]; omega) (by rw [List.length_append, List.length_singleton]; omega) (by omega) (by omega)
    have ew := Aside0.mk (show wrap64 (((n + 1 : Nat) : Int) - 1 - 1) = (n : Int) - 1 by rw [w64 (by omega) (by omega)]; omega)
    refine ⟨r, ev_step (fun k => spec_DrawSplitValue.l0.eq_2 _ _ _ _ _ k) (ev_ifp (by omega) (ev_bind (ev_const e3) (ev_ifp (by omega) ?_))), hl2⟩
    dsimp only
    rw [ew.out]
    exact hr
theorem drawSplit_at {l : List Int} (hl : Code l) : ∃ r : Int × List Int, Ev (fun k => spec_DrawSplitValue.f k l) r ∧ r.2.length ≤ 64 := by
  obtain ⟨x, i1, s1, e1, p1, q1, b1, b2⟩ := pick_at hl 0 0 6 (by omega) (by omega)
  have q1' := q1 (by omega)
  obtain ⟨n, rfl⟩ := Int.eq_ofNat_of_zero_le p1
  obtain ⟨r, hr, hl2⟩ := drawSplit_l0 hl (n + 1) [] i1 s1 (by simp; omega) (by simp) (by omega) (by omega)
  unfold spec_DrawSplitValue.f
  rw [show ((n + 1 : Nat) : Int) - 1 = (n : Int) by omega] at hr
  exact ⟨r, ev_bind (ev_const e1) hr, hl2⟩
theorem vIntsF_self (l : List Int) (hl : l.length ≤ 9223372036854775806) : Ev (fun k => laws_vInts.f k l l) true := by
  have h := loop_ev (σ := Unit) (fun k _ i => laws_vInts.l0 k l l (i : Int)) l.length (fun _ _ => ()) (fun _ => true) (fun _ _ => True)
    (fun i s r _ hi h => ev_step (fun k => by
      simp only [laws_vInts.l0]
      rw [if_pos (by omega), if_pos (by omega), if_pos (by omega), if_pos trivial, w64 (by omega) (by omega)]
      rfl) h)
    (fun _ _ _ _ => trivial)
    (fun _ _ => ev_step (f := fun _ => some true) (fun k => by
      simp only [laws_vInts.l0]
      rw [if_neg (by omega)]) (ev_some _)) 0 () (Nat.zero_le _) trivial
  unfold laws_vInts.f
  exact ev_ifp rfl h
theorem vFieldF_self (a b : Int) (l : List Int) (hl : l.length ≤ 9223372036854775806) : Ev (fun k => laws_vField.f k a b l a b l) true := by
  unfold laws_vField.f
  exact ev_ifp rfl (ev_ifp rfl (ev_bind (vIntsF_self l hl) (ev_some _)))
end Go.Proofs.Ythlmikigjhgpdaa.Pure
namespace Go.Proofs.Ythlmikigjhgpdaa.Pure
set_option linter.unusedVariables false
set_option linter.unusedSimpArgs false
open Go Go.RowKit Go.Proofs.Ythlmikigjhgpdaa.P Go.Proofs.YthlmikigjhgpdaaW.PrintWords Go.Proofs.YthlmikigjhgpdaaW.PrintLast Go.Proofs.YthlmikigjhgpdaaW.PrintMore
theorem regrid_l0 {a : Int} {l ps : List Int} (ok : Bool) (hl : l.length ≤ 64) (hp : ps.length ≤ l.length) (hb : ∀ i, -100000000 ≤ ps.getD i 0 ∧ ps.getD i 0 ≤ 100000000)
    (hz : ∀ i, i < ps.length → l.getD i 0 = 0 → ps.getD i 0 = 0) (hs : ok = true → isum (fun i => ps.getD i 0) ps.length = a) : Ev (fun k => laws_FnRegrid.l0 k a l ps ok 0 0) true := by
  exact loop_ev (fun k (s : Int) i => laws_FnRegrid.l0 k a l ps ok s (i : Int)) ps.length (fun i s => s + ps.getD i 0) (fun _ => true) (fun i s => s = isum (fun i => ps.getD i 0) i)
    (fun i s r hI hi hr => by
      have b1 := isum_bd (f := fun k => ps.getD k 0) (B := 100000000) i (fun j _ => hb j)
      have b2 := hb i
      rw [← hI] at b1
      have e1 := Aside0.mk (show wrap64 (s + ps.getD i 0) = s + ps.getD i 0 from w64 (by omega) (by omega))
      have e2 := Aside0.mk (show wrap64 ((i : Int) + 1) = ((i + 1 : Nat) : Int) by rw [w64 (by omega) (by omega)]; rfl)
      refine ev_step (fun k => laws_FnRegrid.l0.eq_2 _ _ _ _ _ _ k) (ev_ifp (by omega) (ev_ifp (by omega) (ev_ifp (by omega) ?_)))
      rw [rd_nat, rd_nat, e1.out, e2.out]
      by_cases h0 : l.getD i 0 = 0
      · exact ev_ifp h0 (ev_ifp (hz i hi h0) hr)
      · exact ev_ifn h0 hr)
    (fun i s hI hi => by show s + ps.getD i 0 = isum (fun k => ps.getD k 0) (i + 1); rw [hI]; rfl)
    (fun s hI => by
      refine ev_step (fun k => laws_FnRegrid.l0.eq_2 _ _ _ _ _ _ k) (ev_ifn (by omega) ?_)
      cases ok with
      | false => exact ev_ifn (by simp) (ev_some _)
      | true => exact ev_ifp rfl (ev_const (by rw [hI, hs rfl]; simp))) 0 0 (Nat.zero_le _) rfl
theorem regrid_j3 {l : List Int} (hl : Code l) : Ev (fun k => laws_FnRegrid.j3 k l) true := by
  obtain ⟨⟨a, w⟩, hd, hw⟩ := drawSplit_at hl
  dsimp only at hw
  obtain ⟨⟨ps, ok⟩, h1, h2, h3⟩ := splitValue_more a w (by omega)
  refine ev_step (fun k => laws_FnRegrid.j3.eq_2 _ k) (ev_bind hd (ev_bind h2 (ev_bind h1 (ev_ifn (by simp) ?_))))
  rcases h3 with h | ⟨h, a0, a1, wk, hs⟩
  · simp only [Prod.mk.injEq] at h
    obtain ⟨rfl, rfl⟩ := h
    exact ev_bind (vIntsF_self _ (by simp)) (ev_step (fun k => laws_FnRegrid.j4.eq_2 _ _ _ _ _ k) (ev_ifn (by simp) (regrid_l0 false hw (by simp) (by simp) (by simp) (fun h => by cases h))))
  · simp only [Prod.mk.injEq] at h
    obtain ⟨rfl, rfl⟩ := h
    have hlen := split_len a w
    obtain ⟨s1, s2⟩ := split_sum a0 a1 wk hs
    exact ev_bind (vIntsF_self _ (by first | omega | (dsimp only; omega))) (ev_step (fun k => laws_FnRegrid.j4.eq_2 _ _ _ _ _ k) (ev_ifn (by simp) (regrid_l0 true hw (by first | omega | (dsimp only; omega)) s2 (fun i hi hz => split_none a0 a1 wk hs i (by dsimp only at hi; omega) hz) (fun _ => by rw [hlen]; exact s1))))
theorem regrid_j1 {l : List Int} (hl : Code l) : Ev (fun k => laws_FnRegrid.j1 k l) true := by
  obtain ⟨⟨a, b, c, x, y⟩, hd, hc⟩ := drawCoarsen_at hl
  dsimp only at hc
  obtain ⟨r, h1, h2, h3⟩ := coarsenSum_more a b c x y (by omega)
  obtain ⟨⟨m1, m2, m3, m4⟩, g1, g2, g3, g4⟩ := coarsenMean_more a b c x y (by omega)
  dsimp only at g3 g4
  refine ev_step (fun k => laws_FnRegrid.j1.eq_2 _ k) (ev_bind hd (ev_bind h2 (ev_bind h1 (ev_ifn (by simp) ?_))))
  rcases h3 with rfl | ⟨W, H, W', H', p, q, rfl, rfl, rfl, rfl, eW, eH, hp, hq, hlen, s, hf, hb, hk, rfl⟩
  · exact ev_bind (vFieldF_self 0 0 [] (by simp)) (ev_step (fun k => laws_FnRegrid.j2.eq_2 _ _ _ _ _ _ _ _ _ _ _ k) (ev_ifn (by simp) (ev_ifn (by simp) (regrid_j3 hl))))
  · have hn := s.n
    have e := regrid_blks s eW eH hp hq hf
    have bl := blks_len c W H W' H' p q
    have hm : W' * H' ≤ 64 := by rw [Nat.mul_comm]; exact hn.2.2
    have st := sameTotal_yes s hf hlen (by rw [e]; exact hk)
    have rt := regridTotal_full s hf hlen
    rw [e] at st rt
    unfold regridRes at rt
    rw [if_pos hk] at rt
    obtain rfl := g4 hf hb
    refine ev_bind (vFieldF_self _ _ _ (by first | omega | (dsimp only; omega))) (ev_step (fun k => laws_FnRegrid.j2.eq_2 _ _ _ _ _ _ _ _ _ _ _ k) (ev_ifn (by simp) (ev_ifp rfl ?_)))
    refine ev_bind st (ev_bind rt (ev_bind g2 (ev_bind g1 (ev_ifp rfl (ev_ifp rfl (ev_ifp rfl ?_))))))
    exact ev_bind (vFieldF_self _ _ _ (by first | omega | (dsimp only; omega))) (ev_ifp rfl (ev_ifp rfl (ev_bind (vFieldF_self _ _ _ (by first | omega | (dsimp only; omega))) (ev_ifp rfl (regrid_j3 hl)))))
theorem FnRegrid : laws_FnRegrid.Pure := by
  intro l hl _
  refine Ev.rounds ?_
  unfold laws_FnRegrid.f laws_vBig.f
  refine ev_bind (ev_some _) ?_
  by_cases hb : (l.length : Int) > 65536
  · exact ev_ifp (decide_eq_true hb) (ev_some _)
  refine ev_ifn (by simp only [decide_eq_true_eq]; exact hb) ?_
  have hc : Code l := ⟨by omega, fun x hx => by
    have := hl.2 x hx
    simp [Lit.wf, IntKind.min, IntKind.max, IntKind.signed, IntKind.bits] at this
    omega⟩
  obtain ⟨⟨a, b, c, wide, high⟩, hd, hcl⟩ := drawRegridTotal_at hc
  dsimp only at hcl
  obtain ⟨⟨ra, rb, rc, rok⟩, h1, h2, h3⟩ := regridTotal_both a b c wide high (by omega)
  refine ev_bind hd (ev_bind h2 (ev_bind h1 (ev_ifn (by simp) ?_)))
  rcases h3 with h | ⟨W, H, W', H', rfl, rfl, rfl, rfl, s, hlen, hf, h⟩
  · simp only [Prod.mk.injEq] at h
    obtain ⟨rfl, rfl, rfl, rfl⟩ := h
    exact ev_bind (vFieldF_self 0 0 [] (by simp)) (ev_step (fun k => laws_FnRegrid.j0.eq_2 _ _ _ _ _ _ _ _ _ _ _ k) (ev_ifn (by simp) (ev_ifn (by simp) (regrid_j1 hc))))
  · simp only [Prod.mk.injEq] at h
    obtain ⟨rfl, rfl, rfl, rfl⟩ := h
    have hn := s.n
    have hg := (regrid_inv s hf (W' := W') (H' := H')).1
    have hk : sumsOk (regrid W H W' H' c) = true := by
      have := ev_det2 h2 (regridTotal_full s hf hlen)
      unfold regridRes at this
      by_cases hk : sumsOk (regrid W H W' H' c) = true
      · exact hk
      · rw [if_neg hk] at this
        simp at this
    have st := sameTotal_yes s hf hlen hk
    exact ev_bind (vFieldF_self _ _ _ (by first | omega | (dsimp only; omega))) (ev_step (fun k => laws_FnRegrid.j0.eq_2 _ _ _ _ _ _ _ _ _ _ _ k) (ev_ifn (by simp) (ev_ifp rfl (ev_bind st (ev_ifp rfl (ev_ifp rfl (ev_ifp rfl (ev_ifp rfl (regrid_j1 hc)))))))))
end Go.Proofs.Ythlmikigjhgpdaa.Pure
namespace Go.Proofs.Ythlmikigjhgpdaa.fnRegrid
open Go.ChangeShapes Go.WideShapes Go.ChangeAt Go.RowKit Go.Proofs.Ythlmikigjhgpdaa.Open Go.Proofs.Ythlmikigjhgpdaa.P Go.Proofs.YthlmikigjhgpdaaW.PrintWords
open Go.ChangeMaps (open_string shut_string)
set_option linter.unusedVariables false
theorem own : ownKnob Try.prog.godebug = none := by kernel_rfl
theorem laidOut : laidOutB Try.prog = true := by kernel_rfl
set_option maxRecDepth 100000 in
theorem lifted (os : Os) (started : os.Started) (H : Type) (enc : TypeId × Value → H) :
    ReturnsInHanded {} Try.checked os 3 .any (Rows.fnRegridSpec.pre6 enc Try.prog Try.f3 Rows.fnRegridRow.domain false) (Rows.fnRegridSpec.post enc Try.prog Try.f3 false true false false) := by
  refine returnsInHanded_of_change_sized (C := Try.checked) own started (by kernel_rfl) Try.func3
    (ChangeSpec.witness6 (enc := enc) (C := Try.checked) false ⟨#[], #[.slice none 0 0], []⟩ 8 (by kernel_rfl) (by kernel_rfl) (by kernel_rfl) (by kernel_rfl)) ?_
  intro W base args ds gs before hval0 hW hcnd hsz0 _
  have hsz : (DataW.weightsEach Try.prog (Try.f3.params.toList ++ Rows.fnRegridSpec.plain.varTypes Try.prog) (ds ++ gs)).all (· ≤ reachBytes) = true := hsz0
  have hval : ∀ (j : Nat) t v, Try.f3.params[j]? = some t → args[j]? = some v → Value.okWide Try.prog W .any base t v := hval0
  have hW' := hW
  obtain ⟨p, q, hA0, hV, rfl, hfz, hnd⟩ := hW
  have hA : DataW.TrodAll enc Try.prog W 0 (fun _ => true) true Try.f3.params.toList args.toList ds p := hA0
  rw [Try.params3] at hA hval hsz
  obtain ⟨v0, vs0, d0, ds0, p0, q0, hargs, rfl, rfl, h0, r0⟩ := trodAll_cons hA
  obtain ⟨rfl, rfl, rfl⟩ := trodAll_nil r0
  obtain rfl : args = #[v0] := by cases args; simp_all
  obtain ⟨rfl, rfl⟩ := trodVars_none hV
  obtain ⟨A0, len0, c0, rfl⟩ := okWide_slice Try.underlying22 (hval 0 22 v0 rfl rfl)
  have k0 := h0
  have lt0 : ∀ x ∈ p0, x.block < W.heap.size := by obtain ⟨m, hm⟩ := k0; exact DataW.trod_lt m _ _ _ hm
  have y0 : len0 * 1 ≤ 140737488351232 := sized_any hsz (j := 0) (t := 22) rfl rfl Try.underlying22 (by kernel_rfl) h0
  obtain ⟨l0, rfl, hc0, hr0, w0⟩ := slice_at (opens_slice Try.underlying22 (by kernel_rfl) (opens_int Try.underlying5)) h0
  clear hA0 hval0 hsz0 hsz
  obtain ⟨k, hp⟩ := Pure.FnRegrid l0 w0 y0
  refine (laws_FnRegrid.calls k A0 c0 l0 true W hr0 hc0 hp).mono fun e W' ⟨he, bel0⟩ => ?_
  have bel : Below W.heap.size W W' := bel0
  subst he
  exact ⟨_, rfl, _, _, _, [], _, [], hW', trodAll_mk1 (shut_bool Try.underlying4 _), (trodAll_cons_mk (Below.trod laidOut (by kernel_rfl) (of_decide_eq_true (by kernel_rfl)) k0 bel lt0) trodAll_mk0), rfl, bel.frame _, fun h => by cases h⟩
theorem over : Rows.fnRegridRow.holds Try.pinned (OpenSpec.ofChange Rows.fnRegridSpec) :=
  OpenClaim.holds_of_wide 3 Try.f3 rfl rfl rfl rfl rfl rfl rfl ⟨rfl, rfl, rfl, rfl, rfl⟩ rfl rfl rfl rfl rfl (by kernel_rfl) Try.func3 (by kernel_rfl)
    (of_decide_eq_true (by kernel_rfl)) (by unfold Func.isWrapper; first | (rw [if_pos (by decide +kernel)]; kernel_rfl) | (rw [if_neg (by decide +kernel)]; exact ⟨rfl, rfl⟩))
    (fun os started H enc _ => lifted os started H enc)
theorem proved : Rows.FnRegridSaid := over
#print axioms proved
end Go.Proofs.Ythlmikigjhgpdaa.fnRegrid
namespace Go.Proofs.Ythlmikigjhgpdaa
theorem fnRegrid_holds : Rows.FnRegridSaid := fnRegrid.proved
end Go.Proofs.Ythlmikigjhgpdaa
