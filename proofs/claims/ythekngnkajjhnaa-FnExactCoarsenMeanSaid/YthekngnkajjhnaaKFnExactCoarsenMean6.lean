/- Texts of the claim FnExactCoarsenMean, merged: part 6 of 6: the program's and the reference's functions as Lean functions, the walks that show it, and plain lemmas; no conditions. -/
import Derived.Test.YthekngnkajjhnaaKFnExactCoarsenMean2
import Derived.Test.YthekngnkajjhnaaKFnExactCoarsenMean5
import Derived.Test.YthekngnkajjhnaaKFnExactCoarsenMean3
import Derived.Test.YthekngnkajjhnaaKFnExactCoarsenMean4
import Derived.Test.YthekngnkajjhnaaRows
import Derived.WalkKit
import Derived.ProofKit
import Derived.OpenShut
import Derived.ShutString
import Derived.ChangeOld
import Derived.Below
import Derived.SizedLaws
namespace Go.Proofs.Ythekngnkajjhnaa.P
open Go.RowKit Go.Proofs.YthekngnkajjhnaaW.PrintWords Go.Proofs.YthekngnkajjhnaaW.PrintLast Go.Proofs.YthekngnkajjhnaaW.PrintMore
attribute [local go_sem] max2_int min2_int max_two min_two max_three min_three max_four min_four
set_option linter.unusedVariables false
set_option linter.unusedSimpArgs false
end Go.Proofs.Ythekngnkajjhnaa.P
namespace Go.Proofs.Ythekngnkajjhnaa.Pure
set_option linter.unusedVariables false
set_option linter.unusedSimpArgs false
open Go.RowKit Go.Proofs.Ythekngnkajjhnaa.P Go.Proofs.YthekngnkajjhnaaW.PrintWords Go.Proofs.YthekngnkajjhnaaW.PrintLast
def fullOk (a b : Int) (l : List Int) : Bool := fieldOk a b l && !decide (-9999 ∈ l)
theorem l7Full_ev (a b : Int) (l : List Int) (hl : l.length ≤ 9223372036854775806) : Ev (fun k => spec_l7Full.f k a b l) (fullOk a b l) := by
  have h := all_ev (fun k i => spec_l7Full.l0 k (i : Int) a b l) l.length (fun i => decide (l.getD i 0 ≠ -9999)) false (fieldOk a b l)
    (fun i r hi hp h => ev_step (fun k => by
      simp only [spec_l7Full.l0, rd_nat]
      rw [if_pos (by omega), if_pos (by omega), if_neg (by simpa using hp), w64 (by omega) (by omega)]
      rfl) h)
    (fun i hi hp => ev_step (f := fun _ => some false) (fun k => by
      simp only [spec_l7Full.l0, rd_nat]
      rw [if_pos (by omega), if_pos (by omega), if_pos (by simpa using hp)]) (ev_some _))
    (ev_step (fun k => spec_l7Full.l0.eq_2 _ _ _ _ k) (ev_ifn (by omega) (ev_bind (l2Good_ev a b l hl) (ev_some _)))) 0 (Nat.zero_le _)
  rw [Nat.sub_zero] at h
  have e : fullOk a b l = if rall (fun i => decide (l.getD i 0 ≠ -9999)) 0 l.length = true then fieldOk a b l else false := by
    unfold fullOk
    rw [mem_rall, Bool.not_not]
    cases fieldOk a b l <;> cases rall (fun i => decide (l.getD i 0 ≠ -9999)) 0 l.length <;> rfl
  rw [e]
  exact h
theorem isFull_ev (a b : Int) (l : List Int) (hl : l.length ≤ 9223372036854775806) : Ev (fun k => impl_isFull.f k a b l) (fullOk a b l) := by
  unfold impl_isFull.f fullOk
  refine ev_bind (ev_const (isValidField_is a b l)) ?_
  cases fieldOk a b l with
  | false => exact ev_ifn (by simp) (ev_some _)
  | true => exact ev_ifp rfl (ev_bind (contains_is l (-9999) hl) (ev_some _))
theorem filled_is (a b v : Int) (h0 : 1 ≤ a * b) (h1 : a * b ≤ 64) : impl_filled.f a b v = some (a, b, List.replicate (a * b).toNat v) := by
  unfold impl_filled.f slices_Repeat_int_int.f
  rw [w64 (by omega) (by omega), if_pos ⟨rfl, by omega, h1⟩]
  rfl
theorem iter_rep {α : Type} (v : α) : ∀ d i (s : List α), iter (fun _ s => s ++ [v]) i d s = s ++ List.replicate d v
  | 0, i, s => by simp [iter]
  | d + 1, i, s => by
    show iter (fun _ s => s ++ [v]) (i + 1) d (s ++ [v]) = _
    rw [iter_rep v d (i + 1), List.append_assoc, List.replicate_succ]
    rfl
theorem l2Fill_ev (a b v : Int) (h0 : 1 ≤ a * b) (h1 : a * b ≤ 64) : Ev (fun k => spec_l2Fill.f k a b v) (a, b, List.replicate (a * b).toNat v) := by
  obtain ⟨n, hn⟩ := Int.eq_ofNat_of_zero_le (show 0 ≤ a * b by omega)
  have h := loop_ev (fun k s i => spec_l2Fill.l0 k a b v (i : Int) a b s) n (fun _ s => s ++ [v]) (fun s => (a, b, s)) (fun i s => s.length = i)
    (fun i s r hI hi h => ev_step (fun k => by
      simp only [spec_l2Fill.l0]
      rw [w64 (x := a * b) (by omega) (by omega), if_pos (by omega), if_pos (by omega), w64 (by omega) (by omega)]
      rfl) h)
    (fun i s hI _ => by simp [hI])
    (fun s hI => ev_step (f := fun _ => some (a, b, s)) (fun k => by
      simp only [spec_l2Fill.l0]
      rw [w64 (x := a * b) (by omega) (by omega), if_neg (by omega)]) (ev_some _)) 0 [] (Nat.zero_le _) rfl
  rw [iter_rep, List.nil_append, Nat.sub_zero] at h
  rw [hn, Int.toNat_natCast]
  exact h
def blk (x y a b : Int) : Bool := inb x 1 a && (inb y 1 b && (decide (Int.tmod a x = 0) && decide (Int.tmod b y = 0)))
theorem tmod_le {a x : Int} (ha : 1 ≤ a) (hx : 1 ≤ x) (h : Int.tmod a x = 0) : x ≤ a := by
  rw [Int.tmod_eq_emod_of_nonneg (by omega)] at h
  by_cases hx2 : x ≤ a
  · exact hx2
  · rw [Int.emod_eq_of_lt (by omega) (by omega)] at h
    omega
theorem areBlocks_is {a b : Int} (l : List Int) (x y : Int) (hs : (1 ≤ a ∧ a ≤ 8) ∧ 1 ≤ b ∧ b ≤ 8) : impl_areBlocks.f a b l x y = some (blk x y a b) := by
  unfold impl_areBlocks.f blk
  by_cases h1 : x ≥ 1
  · rw [if_pos h1]
    by_cases h2 : y ≥ 1
    · rw [if_pos h2, if_neg (by omega)]
      by_cases h3 : Int.tmod a x = 0
      · have := tmod_le (by omega) h1 h3
        rw [if_pos h3, if_neg (by omega), (inb_iff (x := x)).2 ⟨h1, this⟩, decide_eq_true h3, Bool.true_and]
        by_cases h4 : Int.tmod b y = 0
        · have := tmod_le (by omega) h2 h4
          rw [(inb_iff (x := y)).2 ⟨h2, this⟩, decide_eq_true h4, h4]
          rfl
        · rw [decide_eq_false h4]
          simp [h4]
      · rw [if_neg h3, decide_eq_false h3]
        simp
    · rw [if_neg h2, show inb y 1 b = false by rw [← Bool.not_eq_true, inb_iff]; omega]
      simp
  · rw [if_neg h1, show inb x 1 a = false by rw [← Bool.not_eq_true, inb_iff]; omega]
    simp
theorem l7Divides_ev (a b : Int) (l : List Int) (x y : Int) (hl : l.length ≤ 9223372036854775806) : Ev (fun k => spec_l7Divides.f k a b l x y) (fullOk a b l && blk x y a b) := by
  unfold spec_l7Divides.f
  refine ev_bind (l7Full_ev a b l hl) ?_
  cases hf : fullOk a b l with
  | false => exact ev_ifn (by simp) (ev_some _)
  | true =>
    refine ev_ifp rfl (ev_const ?_)
    unfold blk
    rw [l1In_is, Option.bind_some, Bool.true_and]
    cases h1 : inb x 1 a with
    | false => simp
    | true =>
      rw [if_pos rfl, l1In_is, Option.bind_some, Bool.true_and]
      cases h2 : inb y 1 b with
      | false => simp
      | true =>
        rw [inb_iff] at h1 h2
        rw [if_pos rfl, if_neg (by omega), Bool.true_and]
        by_cases h3 : Int.tmod a x = 0
        · rw [if_pos h3, if_neg (by omega), decide_eq_true h3, Bool.true_and]
          by_cases h4 : Int.tmod b y = 0
          · rw [h4]; rfl
          · simp [h4]
        · rw [if_neg h3, decide_eq_false h3]
          simp
def bidx (W W' p q i : Nat) : Nat := i / W / q * W' + i % W / p
theorem bidx_lt {W H W' H' p q i : Nat} (hW : W = p * W') (hH : H = q * H') (hp : 0 < p) (hq : 0 < q) (hi : i < H * W) : i / W / q < H' ∧ i % W / p < W' ∧ bidx W W' p q i < W' * H' := by
  have hW0 : 0 < W := by
    rcases Nat.eq_zero_or_pos W with h | h
    · rw [h] at hi; simp at hi
    · exact h
  have h1 : i / W < H := by rw [Nat.div_lt_iff_lt_mul hW0]; exact hi
  have h2 : i / W / q < H' := by rw [Nat.div_lt_iff_lt_mul hq, Nat.mul_comm, ← hH]; exact h1
  have h3 : i % W / p < W' := by rw [Nat.div_lt_iff_lt_mul hp, Nat.mul_comm, ← hW]; exact Nat.mod_lt _ hW0
  refine ⟨h2, h3, ?_⟩
  unfold bidx
  have h4 : i / W / q * W' + W' ≤ H' * W' := by
    have := Nat.mul_le_mul_right W' (show i / W / q + 1 ≤ H' by omega)
    rw [Nat.add_mul, Nat.one_mul] at this
    exact this
  rw [Nat.mul_comm W' H']
  omega
def blkStep (l : List Int) (W W' p q i : Nat) (s : List Int) : List Int := s.set (bidx W W' p q i) (wrap64 (rd s (bidx W W' p q i : Int) + rd l (i : Int)))
theorem blkStep_len (l : List Int) (W W' p q i : Nat) (s : List Int) : (blkStep l W W' p q i s).length = s.length := by simp [blkStep]
def blks (l : List Int) (W H W' H' p q : Nat) : List Int := iter (blkStep l W W' p q) 0 (H * W) (List.replicate (W' * H') 0)
theorem blks_len (l : List Int) (W H W' H' p q : Nat) : (blks l W H W' H' p q).length = W' * H' :=
  iter_inv (blkStep l W W' p q) (fun _ s => s.length = W' * H') (H * W) (fun i s hI _ => by rw [blkStep_len]; exact hI) (H * W) 0 _ (by omega) (by simp)
theorem tdiv_nat (a b : Nat) : Int.tdiv (a : Int) (b : Int) = ((a / b : Nat) : Int) := rfl
theorem tmod_nat (a b : Nat) : Int.tmod (a : Int) (b : Int) = ((a % b : Nat) : Int) := rfl
theorem shape_of {W W' p : Nat} (hW : W = p * W') (hp : 0 < p) : wrap64 (Int.tdiv (W : Int) (p : Int)) = wrap64 (W' : Int) := by
  rw [tdiv_nat, hW, Nat.mul_div_cancel_left W' hp]
theorem idx_impl (i W W' p q : Nat) (h1 : i / W ≤ 64) (h2 : i / W / q ≤ 64) (h3 : i / W / q * W' ≤ 64) (h4 : i % W / p ≤ 64) :
    wrap64 (wrap64 (wrap64 (Int.tdiv (wrap64 (Int.tdiv (i : Int) (W : Int))) (q : Int)) * (W' : Int)) + wrap64 (Int.tdiv (Int.tmod (i : Int) (W : Int)) (p : Int))) = ((bidx W W' p q i : Nat) : Int) := by
  unfold bidx
  rw [tdiv_nat, w64n (Nat.le_trans h1 (by decide)), tdiv_nat, w64n (Nat.le_trans h2 (by decide)), tmod_nat, tdiv_nat, w64n (Nat.le_trans h4 (by decide)), ← Int.natCast_mul, w64n (Nat.le_trans h3 (by decide)), ← Int.natCast_add,
    w64n (Nat.le_trans (Nat.add_le_add h3 h4) (by decide))]
theorem idx_spec (x y W W' p q : Nat) (d1 : (y * W + x) / W = y) (d2 : (y * W + x) % W = x) (h2 : y / q ≤ 64) (h3 : y / q * W' ≤ 64) (h4 : x / p ≤ 64) :
    wrap64 (wrap64 (wrap64 (Int.tdiv (y : Int) (q : Int)) * (W' : Int)) + wrap64 (Int.tdiv (x : Int) (p : Int))) = ((bidx W W' p q (y * W + x) : Nat) : Int) := by
  unfold bidx
  rw [d1, d2, tdiv_nat, w64n (Nat.le_trans h2 (by decide)), tdiv_nat, w64n (Nat.le_trans h4 (by decide)), ← Int.natCast_mul, w64n (Nat.le_trans h3 (by decide)), ← Int.natCast_add, w64n (Nat.le_trans (Nat.add_le_add h3 h4) (by decide))]
theorem bidx_bds {W H W' H' p q i : Nat} (hW : W = p * W') (hH : H = q * H') (hp : 0 < p) (hq : 0 < q) (hi : i < H * W) (hn : H * W ≤ 64) (hm : W' * H' ≤ 64) :
    i / W ≤ 64 ∧ i / W / q ≤ 64 ∧ i / W / q * W' ≤ 64 ∧ i % W / p ≤ 64 ∧ bidx W W' p q i < W' * H' := by
  obtain ⟨b1, b2, b3⟩ := bidx_lt hW hH hp hq hi
  have hi64 : i ≤ 64 := Nat.le_of_lt (Nat.lt_of_lt_of_le hi hn)
  have h1 : i / W ≤ 64 := Nat.le_trans (Nat.div_le_self _ _) hi64
  have hb : bidx W W' p q i ≤ 64 := Nat.le_of_lt (Nat.lt_of_lt_of_le b3 hm)
  exact ⟨h1, Nat.le_trans (Nat.div_le_self _ _) h1, Nat.le_trans (Nat.le_add_right _ _) hb, Nat.le_trans (Nat.le_add_left _ _) hb, b3⟩
theorem blockSums_ev (l : List Int) (W H W' H' p q : Nat) (hW : W = p * W') (hH : H = q * H') (hp : 0 < p) (hq : 0 < q) (hl : l.length = H * W) (w8 : 1 ≤ W' ∧ W' ≤ 8) (h8 : 1 ≤ H' ∧ H' ≤ 8) (W8 : W ≤ 8) (H8 : H ≤ 8) :
    Ev (fun k => impl_blockSums.f k (W : Int) (H : Int) l (p : Int) (q : Int)) ((W' : Int), (H' : Int), blks l W H W' H' p q) := by
  have hm : 1 ≤ (W' : Int) * H' ∧ (W' : Int) * H' ≤ 64 := mul_bd (by omega) (by omega) (by omega) (by omega)
  have hm3 : W' * H' ≤ 64 := by have := hm.2; rw [← Int.natCast_mul] at this; omega
  have hn : H * W ≤ 64 := Nat.mul_le_mul H8 W8
  have hW0 : 0 < W := by rw [hW]; exact Nat.mul_pos hp w8.1
  unfold impl_blockSums.f
  refine ev_ifn (by omega) (ev_ifn (by omega) ?_)
  rw [shape_of hW hp, shape_of hH hq, w64n (by omega), w64n (by omega)]
  refine ev_bind (ev_const (filled_is (W' : Int) (H' : Int) 0 hm.1 hm.2)) ?_
  have e0 : ((W' : Int) * H').toNat = W' * H' := by rw [← Int.natCast_mul, Int.toNat_natCast]
  rw [e0]
  have zp : ¬ (p : Int) = 0 := by omega
  have zq : ¬ (q : Int) = 0 := by omega
  have zW : ¬ (W : Int) = 0 := by omega
  have h := loop_ev (fun k s i => impl_blockSums.l0 k (p : Int) (q : Int) l (l.length : Int) (i : Int) (W : Int) (H : Int) l (W' : Int) (H' : Int) s) (H * W) (blkStep l W W' p q) (fun s => ((W' : Int), (H' : Int), s)) (fun _ s => s.length = W' * H')
    (fun i s r hI hi h => ev_step (fun k => by
      obtain ⟨c1, c2, c3, c4, c5⟩ := bidx_bds hW hH hp hq hi hn hm3
      have ei := idx_impl i W W' p q c1 c2 c3 c4
      have hil : (i : Int) < (l.length : Int) := by rw [hl]; exact_mod_cast hi
      have hml : ((bidx W W' p q i : Nat) : Int) < (s.length : Int) := by rw [hI]; exact_mod_cast c5
      have hi1 : wrap64 ((i : Int) + 1) = ((i + 1 : Nat) : Int) := by
        have : i < 64 := Nat.lt_of_lt_of_le hi hn
        rw [w64 (by omega) (by omega)]; rfl
      simp only [impl_blockSums.l0]
      rw [ei, if_pos hil, if_pos (Int.natCast_nonneg i), if_pos hil, if_neg zW, if_neg zq, if_neg zp, if_pos (Int.natCast_nonneg _), if_pos hml, hi1, Int.toNat_natCast]
      rfl) h)
    (fun i s hI _ => by rw [blkStep_len]; exact hI)
    (fun s hI => ev_step (fun k => impl_blockSums.l0.eq_2 _ _ _ _ _ _ _ _ _ _ _ k) (ev_ifn (by rw [hl]; omega) (ev_some _))) 0 (List.replicate (W' * H') 0) (Nat.zero_le _) (by simp)
  exact h
theorem l7Blocks_ev (l : List Int) (W H W' H' p q : Nat) (hW : W = p * W') (hH : H = q * H') (hp : 0 < p) (hq : 0 < q) (hl : l.length = H * W) (w8 : 1 ≤ W' ∧ W' ≤ 8) (h8 : 1 ≤ H' ∧ H' ≤ 8) (W8 : W ≤ 8) (H8 : H ≤ 8) :
    Ev (fun k => spec_l7Blocks.f k (W : Int) (H : Int) l (p : Int) (q : Int)) ((W' : Int), (H' : Int), blks l W H W' H' p q) := by
  have hm : 1 ≤ (W' : Int) * H' ∧ (W' : Int) * H' ≤ 64 := mul_bd (by omega) (by omega) (by omega) (by omega)
  have hm3 : W' * H' ≤ 64 := by have := hm.2; rw [← Int.natCast_mul] at this; omega
  have hn : H * W ≤ 64 := Nat.mul_le_mul H8 W8
  have hW0 : 0 < W := by rw [hW]; exact Nat.mul_pos hp w8.1
  unfold spec_l7Blocks.f
  refine ev_ifn (by omega) (ev_ifn (by omega) ?_)
  rw [shape_of hW hp, shape_of hH hq, w64n (by omega), w64n (by omega)]
  refine ev_bind (l2Fill_ev (W' : Int) (H' : Int) 0 hm.1 hm.2) ?_
  have e0 : ((W' : Int) * H').toNat = W' * H' := by rw [← Int.natCast_mul, Int.toNat_natCast]
  rw [e0]
  have zp : ¬ (p : Int) = 0 := by omega
  have zq : ¬ (q : Int) = 0 := by omega
  have h := grid_ev (fun k s y => spec_l7Blocks.l0 k (p : Int) (q : Int) (y : Int) (W : Int) (H : Int) l (W' : Int) (H' : Int) s) (fun k s y x => spec_l7Blocks.l1 k (p : Int) (q : Int) (y : Int) (x : Int) (W : Int) (H : Int) l (W' : Int) (H' : Int) s) W H
    (blkStep l W W' p q) (fun s => ((W' : Int), (H' : Int), s)) (fun _ s => s.length = W' * H')
    (fun y s r hI hy h => ev_step (fun k => spec_l7Blocks.l0.eq_2 _ _ _ _ _ _ _ _ _ k) (ev_ifp (by omega) h))
    (fun y x s r hI hy hx h => ev_step (fun k => by
      have hyx : y * W + x < H * W := by
        have := Nat.mul_le_mul_right W (show y + 1 ≤ H by omega)
        rw [Nat.add_mul, Nat.one_mul] at this
        omega
      have d1 : (y * W + x) / W = y := by
        rw [Nat.add_comm, Nat.add_mul_div_right _ _ hW0, Nat.div_eq_of_lt hx, Nat.zero_add]
      have d2 : (y * W + x) % W = x := by
        rw [Nat.add_comm, Nat.add_mul_mod_self_right, Nat.mod_eq_of_lt hx]
      obtain ⟨c1, c2, c3, c4, c5⟩ := bidx_bds hW hH hp hq hyx hn hm3
      rw [d1] at c1 c2 c3
      rw [d2] at c4
      have ei := idx_spec x y W W' p q d1 d2 c2 c3 c4
      have h64 : y * W + x < 64 := Nat.lt_of_lt_of_le hyx hn
      have ea : spec_l2At.f (W : Int) (H : Int) l (x : Int) (y : Int) = some (rd l ((y * W + x : Nat) : Int)) := by
        unfold spec_l2At.f
        rw [← Int.natCast_mul, w64n (Nat.le_trans (Nat.le_add_right _ x) (Nat.le_trans (Nat.le_of_lt h64) (by decide))), ← Int.natCast_add, w64n (Nat.le_trans (Nat.le_of_lt h64) (by decide)), if_pos (Int.natCast_nonneg _), if_pos (by rw [hl]; exact_mod_cast hyx)]
      have hml : ((bidx W W' p q (y * W + x) : Nat) : Int) < (s.length : Int) := by rw [hI]; exact_mod_cast c5
      have hxW : (x : Int) < (W : Int) := by exact_mod_cast hx
      have hx1 : wrap64 ((x : Int) + 1) = ((x + 1 : Nat) : Int) := by rw [w64 (by omega) (by omega)]; rfl
      simp only [spec_l7Blocks.l1]
      rw [ei, ea, if_pos hxW, if_neg zq, if_neg zp, if_pos (Int.natCast_nonneg _), if_pos hml, Option.bind_some, hx1, Int.toNat_natCast]
      rfl) h)
    (fun y x s hI _ _ => by rw [blkStep_len]; exact hI)
    (fun y s r hI hy h => ev_step (fun k => spec_l7Blocks.l1.eq_2 _ _ _ _ _ _ _ _ _ _ k) (ev_ifn (by omega) (by rw [w64 (by omega) (by omega)]; exact h)))
    (fun s hI => ev_step (fun k => spec_l7Blocks.l0.eq_2 _ _ _ _ _ _ _ _ _ k) (ev_ifn (by omega) (ev_some _))) (List.replicate (W' * H') 0) (by simp)
  exact h
end Go.Proofs.Ythekngnkajjhnaa.Pure
namespace Go.Proofs.Ythekngnkajjhnaa.P
open Go.RowKit Go.Proofs.YthekngnkajjhnaaW.PrintWords Go.Proofs.YthekngnkajjhnaaW.PrintLast Go.Proofs.YthekngnkajjhnaaW.PrintMore
attribute [local go_sem] max2_int min2_int max_two min_two max_three min_three max_four min_four
set_option linter.unusedVariables false
set_option linter.unusedSimpArgs false
set_option linter.unusedSimpArgs false
end Go.Proofs.Ythekngnkajjhnaa.P
namespace Go.Proofs.Ythekngnkajjhnaa.Pure
set_option linter.unusedVariables false
set_option linter.unusedSimpArgs false
open Go.RowKit Go.Proofs.Ythekngnkajjhnaa.P Go.Proofs.YthekngnkajjhnaaW.PrintWords Go.Proofs.YthekngnkajjhnaaW.PrintLast
theorem blk_nat {a b : Int} {l : List Int} {x y : Int} (hf : fullOk a b l = true) (hb : blk x y a b = true) :
    ∃ W H W' H' p q : Nat, a = W ∧ b = H ∧ x = p ∧ y = q ∧ W = p * W' ∧ H = q * H' ∧ 0 < p ∧ 0 < q ∧ l.length = H * W ∧ (1 ≤ W' ∧ W' ≤ 8) ∧ (1 ≤ H' ∧ H' ≤ 8) ∧ W ≤ 8 ∧ H ≤ 8 := by
  unfold fullOk at hf
  rw [Bool.and_eq_true, fieldOk_iff] at hf
  have f := hf.1
  unfold blk at hb
  rw [Bool.and_eq_true, Bool.and_eq_true, Bool.and_eq_true, inb_iff, inb_iff, decide_eq_true_eq, decide_eq_true_eq] at hb
  obtain ⟨⟨x1, x2⟩, ⟨y1, y2⟩, h3, h4⟩ := hb
  have a1 := f.a1; have a8 := f.a8; have b1 := f.b1; have b8 := f.b8
  obtain ⟨W, rfl⟩ := Int.eq_ofNat_of_zero_le (show 0 ≤ a by omega)
  obtain ⟨H, rfl⟩ := Int.eq_ofNat_of_zero_le (show 0 ≤ b by omega)
  obtain ⟨p, rfl⟩ := Int.eq_ofNat_of_zero_le (show 0 ≤ x by omega)
  obtain ⟨q, rfl⟩ := Int.eq_ofNat_of_zero_le (show 0 ≤ y by omega)
  rw [tmod_nat] at h3 h4
  have h3' : W % p = 0 := by omega
  have h4' : H % q = 0 := by omega
  have e1 : W = p * (W / p) := by have := Nat.div_add_mod W p; omega
  have e2 : H = q * (H / q) := by have := Nat.div_add_mod H q; omega
  have l1 : W / p ≤ W := Nat.div_le_self _ _
  have l2 : H / q ≤ H := Nat.div_le_self _ _
  have p1 : 1 ≤ W / p := by
    rcases Nat.eq_zero_or_pos (W / p) with h | h
    · rw [h] at e1; omega
    · exact h
  have q1 : 1 ≤ H / q := by
    rcases Nat.eq_zero_or_pos (H / q) with h | h
    · rw [h] at e2; omega
    · exact h
  refine ⟨W, H, W / p, H / q, p, q, rfl, rfl, rfl, rfl, e1, e2, by omega, by omega, ?_, ⟨p1, by omega⟩, ⟨q1, by omega⟩, by omega, by omega⟩
  have := f.len
  rw [← Int.natCast_mul] at this
  rw [Nat.mul_comm]
  omega
theorem full_shape {a b : Int} {l : List Int} (hf : fullOk a b l = true) : (1 ≤ a ∧ a ≤ 8) ∧ 1 ≤ b ∧ b ≤ 8 := by
  unfold fullOk at hf
  rw [Bool.and_eq_true, fieldOk_iff] at hf
  exact ⟨⟨hf.1.a1, hf.1.a8⟩, hf.1.b1, hf.1.b8⟩
theorem ediv_of {a b t : Int} (hb : 0 < b) (h1 : b * t ≤ a) (h2 : a < b * t + b) : a / b = t :=
  ((Int.ediv_emod_unique (r := a - b * t) hb).2 ⟨by omega, by omega, by omega⟩).1
theorem ediv_bd {a b : Int} (hb : 0 < b) : b * (a / b) ≤ a ∧ a < b * (a / b) + b := by
  have h1 := Int.mul_ediv_add_emod a b
  have h2 := Int.emod_nonneg a (show b ≠ 0 by omega)
  have h3 := Int.emod_lt_of_pos a hb
  omega
theorem tdiv_pos {n b : Int} (hn : 0 ≤ n) : Int.tdiv n b = n / b := Int.tdiv_eq_ediv_of_nonneg hn
theorem div_small {n b : Int} (hn : 0 ≤ n) (hb : 0 < b) (h : n ≤ 1000000000) : 0 ≤ n / b ∧ n / b ≤ 1000000000 := by
  refine ⟨Int.ediv_nonneg hn (by omega), Int.le_trans (Int.ediv_le_self b hn) h⟩
theorem floorDiv_is {a b : Int} (hb : 0 < b) (hb2 : b ≤ 1000000000) (h0 : -1000000000 ≤ a) (h1 : a ≤ 1000000000) : impl_floorDiv.f a b = some (a / b) := by
  unfold impl_floorDiv.f
  rw [if_neg (by omega)]
  by_cases ha : 0 ≤ a
  · have hs := div_small ha hb h1
    rw [tdiv_pos ha, Int.tmod_eq_emod_of_nonneg ha, if_neg (by have := Int.emod_nonneg a (show b ≠ 0 by omega); omega), w64 (by omega) (by omega)]
  · obtain ⟨n, rfl⟩ : ∃ n, a = -n := ⟨-a, by omega⟩
    have hn : 0 ≤ n := by omega
    have hs := div_small hn hb (by omega)
    have hd := ediv_bd (a := n) hb
    have he := Int.mul_ediv_add_emod n b
    have h3 := Int.emod_nonneg n (show b ≠ 0 by omega)
    have h4 := Int.emod_lt_of_pos n hb
    rw [Int.neg_tdiv, Int.neg_tmod, tdiv_pos hn, Int.tmod_eq_emod_of_nonneg hn, w64 (x := -(n / b)) (by omega) (by omega)]
    by_cases hr : -(n % b) < 0
    · rw [if_pos hr, w64 (by omega) (by omega)]
      congr 1
      refine (ediv_of hb ?_ ?_).symm
      · rw [Int.mul_sub, Int.mul_neg, Int.mul_one]; omega
      · rw [Int.mul_sub, Int.mul_neg, Int.mul_one]; omega
    · rw [if_neg hr]
      congr 1
      refine (ediv_of hb ?_ ?_).symm
      · rw [Int.mul_neg]; omega
      · rw [Int.mul_neg]; omega
theorem l4Floor_is {a b : Int} (hb : 0 < b) (hb2 : b ≤ 1000000000) (h0 : -1000000000 ≤ a) (h1 : a ≤ 1000000000) : spec_l4Floor.f a b = some (a / b) := by
  unfold spec_l4Floor.f
  by_cases ha : a < 0
  · rw [if_pos ha, if_neg (by omega), w64 (x := -a) (by omega) (by omega), w64 (x := -a + b) (by omega) (by omega), w64 (x := -a + b - 1) (by omega) (by omega)]
    have hn : 0 ≤ -a + b - 1 := by omega
    rw [tdiv_pos hn]
    have hs : 0 ≤ (-a + b - 1) / b ∧ (-a + b - 1) / b ≤ -a + b - 1 := ⟨Int.ediv_nonneg hn (by omega), Int.ediv_le_self b hn⟩
    have hd := ediv_bd (a := -a + b - 1) hb
    rw [w64 (x := (-a + b - 1) / b) (by omega) (by omega), w64 (by omega) (by omega)]
    congr 1
    refine (ediv_of hb ?_ ?_).symm
    · rw [Int.mul_neg]; omega
    · rw [Int.mul_neg]; omega
  · have hs := div_small (show 0 ≤ a by omega) hb h1
    rw [if_neg ha, if_neg (by omega), tdiv_pos (by omega), w64 (by omega) (by omega)]
end Go.Proofs.Ythekngnkajjhnaa.Pure
namespace Go.Proofs.Ythekngnkajjhnaa.Pure
set_option linter.unusedVariables false
set_option linter.unusedSimpArgs false
open Go.RowKit Go.Proofs.YthekngnkajjhnaaW.PrintWords Go.Proofs.YthekngnkajjhnaaW.PrintLast Go.Proofs.YthekngnkajjhnaaW.PrintMore
def tab {α : Type} (n : Nat) (q : Nat → α) : List α := (List.range n).map q
theorem tab_length {α : Type} (n : Nat) (q : Nat → α) : (tab n q).length = n := by simp [tab]
theorem tab_getD {α : Type} (n : Nat) (q : Nat → α) (z : α) {i : Nat} (h : i < n) : (tab n q).getD i z = q i := by simp [tab, List.getD, h]
theorem iter_set_tab {α : Type} (z : α) (q : Nat → α) (n : Nat) (s : List α) (hs : s.length = n) : iter (fun i (s : List α) => s.set i (q i)) 0 n s = tab n q := by
  have hi := iter_inv (fun i (s : List α) => s.set i (q i)) (fun i s => s.length = n ∧ ∀ j, j < i → s.getD j z = q j) n
    (fun i s hI hi => ⟨by simp [hI.1], fun j hj => by
      by_cases e : j = i
      · subst e
        have := hI.1
        simp [List.getD, List.getElem?_set_self (show j < s.length by omega)]
      · rw [← hI.2 j (by omega)]
        simp [List.getD, List.getElem?_set_ne (Ne.symm e)]⟩) n 0 s (by omega) ⟨hs, fun j hj => by omega⟩
  exact eq_index z (by rw [hi.1, tab_length]) (fun j hj => by rw [hi.2 j (by have := hi.1; omega), tab_getD _ _ z (by have := hi.1; omega)])
end Go.Proofs.Ythekngnkajjhnaa.Pure
namespace Go.Proofs.Ythekngnkajjhnaa.Pure
set_option linter.unusedVariables false
set_option linter.unusedSimpArgs false
open Go.RowKit Go.Proofs.Ythekngnkajjhnaa.P Go.Proofs.YthekngnkajjhnaaW.PrintWords Go.Proofs.YthekngnkajjhnaaW.PrintLast
theorem full_vals {a b : Int} {l : List Int} (hf : fullOk a b l = true) (i : Nat) : -10000 ≤ l.getD i 0 ∧ l.getD i 0 ≤ 10000 := by
  unfold fullOk at hf
  rw [Bool.and_eq_true, fieldOk_iff] at hf
  by_cases h : i < l.length
  · have := cellOk_bd (hf.1.cells _ (List.getElem_mem h))
    rw [getD_eq_get 0 h]
    omega
  · rw [show l.getD i 0 = 0 by simp [List.getD, List.getElem?_eq_none (show l.length ≤ i by omega)]]
    omega
theorem blks_bd {l : List Int} {W H W' H' p q : Nat} (hW : W = p * W') (hH : H = q * H') (hp : 0 < p) (hq : 0 < q) (h64 : H * W ≤ 64) (hv : ∀ i, -10000 ≤ l.getD i 0 ∧ l.getD i 0 ≤ 10000) :
    ∀ j, -1000000 ≤ (blks l W H W' H' p q).getD j 0 ∧ (blks l W H W' H' p q).getD j 0 ≤ 1000000 := by
  have h := iter_inv (blkStep l W W' p q) (fun i s => s.length = W' * H' ∧ ∀ j, -(10000 * (i : Int)) ≤ s.getD j 0 ∧ s.getD j 0 ≤ 10000 * (i : Int)) (H * W) (fun i s hI hi => by
    obtain ⟨h1, h2⟩ := hI
    refine ⟨by rw [blkStep_len]; exact h1, fun j => ?_⟩
    have hb := (bidx_lt hW hH hp hq hi).2.2
    have h3 := h2 (bidx W W' p q i)
    have h4 := hv i
    have h5 := h2 j
    unfold blkStep
    rw [rd_nat, rd_nat, w64 (by omega) (by omega)]
    by_cases e : bidx W W' p q i = j
    · subst e
      rw [List.getD, List.getElem?_set_self (by omega)]
      show _ ≤ (s.getD (bidx W W' p q i) 0 + l.getD i 0) ∧ (s.getD (bidx W W' p q i) 0 + l.getD i 0) ≤ _
      omega
    · rw [List.getD, List.getElem?_set_ne e]
      show _ ≤ s.getD j 0 ∧ s.getD j 0 ≤ _
      omega) (H * W) 0 (List.replicate (W' * H') 0) (by omega) ⟨by simp, fun j => by
      rw [show (List.replicate (W' * H') (0 : Int)).getD j 0 = 0 by simp [List.getD, List.getElem?_replicate]; split <;> rfl]
      omega⟩
  intro j
  have h2 := h.2 j
  show _ ≤ (iter (blkStep l W W' p q) 0 (H * W) (List.replicate (W' * H') 0)).getD j 0 ∧ (iter (blkStep l W W' p q) 0 (H * W) (List.replicate (W' * H') 0)).getD j 0 ≤ _
  omega
theorem mean_loop {ρ : Type} (F : Nat → List Int → Nat → Option ρ) (B : List Int) (m : Int) (fin : List Int → ρ)
    (hs : ∀ i s r, s.getD i 0 = B.getD i 0 → s.length = B.length → i < B.length → Ev (fun k => F k (s.set i (B.getD i 0 / m)) (i + 1)) r → Ev (fun k => F k s i) r)
    (he : ∀ s, s.length = B.length → Ev (fun k => F k s B.length) (fin s)) : Ev (fun k => F k B 0) (fin (tab B.length (fun i => B.getD i 0 / m))) := by
  have h := loop_ev F B.length (fun i s => s.set i (B.getD i 0 / m)) fin (fun i s => s.length = B.length ∧ ∀ j, i ≤ j → s.getD j 0 = B.getD j 0)
    (fun i s r hI hi hr => hs i s r (hI.2 i (Nat.le_refl _)) hI.1 hi hr)
    (fun i s hI hi => ⟨by rw [List.length_set]; exact hI.1, fun j hj => by rw [List.getD, List.getElem?_set_ne (by omega)]; exact hI.2 j (by omega)⟩)
    (fun s hI => he s hI.1) 0 B (Nat.zero_le _) ⟨rfl, fun _ _ => rfl⟩
  rw [Nat.sub_zero, iter_set_tab 0 (fun i => B.getD i 0 / m) B.length B rfl] at h
  exact h
theorem coarsenMean_both (a b : Int) (l : List Int) (x y : Int) (hl : l.length ≤ 9223372036854775806) :
    ∃ r, Ev (fun k => spec_CoarsenMean.f k a b l x y) r ∧ Ev (fun k => impl_CoarsenMean.f k a b l x y) r ∧ r.2.2.1.length ≤ 64 := by
  have no : Ev (fun k => impl_CoarsenMean.j0 k x y true a b l) (0, 0, [], false) := ev_step (fun k => impl_CoarsenMean.j0.eq_2 _ _ _ _ _ _ k) (ev_ifp rfl (ev_some _))
  have g1 := l7Divides_ev a b l x y hl
  have g2 := isFull_ev a b l hl
  unfold spec_CoarsenMean.f impl_CoarsenMean.f
  cases hf : fullOk a b l with
  | false =>
    rw [hf] at g1 g2
    exact ⟨(0, 0, [], false), ev_bind g1 (ev_ifn (by simp) (ev_some _)), ev_bind g2 (ev_ifn (by simp) no), by simp⟩
  | true =>
    rw [hf] at g1 g2
    rw [Bool.true_and] at g1
    have hs := full_shape hf
    cases hb : blk x y a b with
    | false =>
      rw [hb] at g1
      exact ⟨(0, 0, [], false), ev_bind g1 (ev_ifn (by simp) (ev_some _)), ev_bind g2 (ev_ifp rfl (ev_bind (r := false) (ev_const (by rw [areBlocks_is l x y hs, hb])) no)), by simp⟩
    | true =>
      rw [hb] at g1
      have ha := areBlocks_is l x y hs
      have hv : ∀ i, -10000 ≤ l.getD i 0 ∧ l.getD i 0 ≤ 10000 := full_vals hf
      obtain ⟨W, H, W', H', p, q, rfl, rfl, rfl, rfl, e1, e2, hp, hq, hlen, w8, h8, W8, H8⟩ := blk_nat hf hb
      have hbl := blks_len l W H W' H' p q
      have hm := mul_bd (show (1 : Int) ≤ (W' : Int) by omega) (by omega) (show (1 : Int) ≤ (H' : Int) by omega) (by omega)
      have hm2 : W' * H' ≤ 64 := by have := hm.2; rw [← Int.natCast_mul] at this; omega
      have h64 : H * W ≤ 64 := Nat.mul_le_mul H8 W8
      have b1 := l7Blocks_ev l W H W' H' p q e1 e2 hp hq hlen w8 h8 W8 H8
      have b2 := blockSums_ev l W H W' H' p q e1 e2 hp hq hlen w8 h8 W8 H8
      have bd := blks_bd e1 e2 hp hq h64 hv
      have hp8 : p ≤ 8 := by have := Nat.le_mul_of_pos_right p (show 0 < W' by omega); omega
      have hq8 : q ≤ 8 := by have := Nat.le_mul_of_pos_right q (show 0 < H' by omega); omega
      have hpq := mul_bd (show (1 : Int) ≤ (p : Int) by omega) (by omega) (show (1 : Int) ≤ (q : Int) by omega) (by omega)
      have ew := Aside0.mk (show wrap64 ((p : Int) * (q : Int)) = (p : Int) * (q : Int) from w64 (by omega) (by omega))
      generalize blks l W H W' H' p q = B at *
      generalize hm : (p : Int) * (q : Int) = m at *
      have s1 := mean_loop (fun k s i => spec_CoarsenMean.l0 k (p : Int) (q : Int) (i : Int) (W' : Int) (H' : Int) s) B m (fun s => ((W' : Int), (H' : Int), s, true))
        (fun i s r he hl2 hi hr => by
          have en := Aside0.mk (show wrap64 ((i : Int) + 1) = ((i + 1 : Nat) : Int) by rw [w64 (by omega) (by omega)]; rfl)
          have := bd i
          refine ev_step (fun k => spec_CoarsenMean.l0.eq_2 _ _ _ _ _ _ k) (ev_ifp (by omega) (ev_ifp (by omega) (ev_bind (ev_const (by rw [rd_nat, he, hm, ew.out]; exact l4Floor_is (by omega) (by omega) (by omega) (by omega))) ?_)))
          rw [en.out, Int.toNat_natCast]
          exact hr)
        (fun s hl2 => ev_step (fun k => spec_CoarsenMean.l0.eq_2 _ _ _ _ _ _ k) (ev_ifn (by omega) (ev_some _)))
      have s2 := mean_loop (fun k s i => impl_CoarsenMean.l0 k (p : Int) (q : Int) (B.length : Int) (i : Int) (W' : Int) (H' : Int) s) B m (fun s => ((W' : Int), (H' : Int), s, true))
        (fun i s r he hl2 hi hr => by
          have en := Aside0.mk (show wrap64 ((i : Int) + 1) = ((i + 1 : Nat) : Int) by rw [w64 (by omega) (by omega)]; rfl)
          have := bd i
          refine ev_step (fun k => impl_CoarsenMean.l0.eq_2 _ _ _ _ _ _ _ k) (ev_ifp (by omega) (ev_ifp (by omega) (ev_ifp (by omega) (ev_bind (ev_const (by rw [rd_nat, he, hm, ew.out]; exact floorDiv_is (by omega) (by omega) (by omega) (by omega))) ?_))))
          rw [en.out, Int.toNat_natCast]
          exact hr)
        (fun s hl2 => ev_step (fun k => impl_CoarsenMean.l0.eq_2 _ _ _ _ _ _ _ k) (ev_ifn (by omega) (ev_some _)))
      refine ⟨((W' : Int), (H' : Int), tab B.length (fun i => B.getD i 0 / m), true), ?_, ?_, ?_⟩
      · exact ev_bind g1 (ev_ifp rfl (ev_bind b1 s1))
      · exact ev_bind g2 (ev_ifp rfl (ev_bind (r := true) (ev_const (by rw [ha, hb])) (ev_step (fun k => impl_CoarsenMean.j0.eq_2 _ _ _ _ _ _ k) (ev_ifn (by simp) (ev_bind b2 s2)))))
      · show (tab B.length (fun i => B.getD i 0 / m)).length ≤ 64
        rw [tab_length]
        omega
theorem toIntS_ev (xs : List Int) (hm : xs.length ≤ 35184372088832) : Ev (fun k => laws_toIntS.f k xs) xs := by
  have h := loop_ev (fun k ys i => laws_toIntS.l0 k xs ys (i : Int)) xs.length (fun i ys => ys.set i (xs.getD i 0)) (fun ys => ys)
    (fun i ys => ys.length = xs.length ∧ ∀ j, j < i → ys.getD j 0 = xs.getD j 0)
    (fun i ys r hI hi h => ev_step (fun k => by
      show laws_toIntS.l0 (k + 1) xs ys (i : Int) = laws_toIntS.l0 k xs (ys.set i (xs.getD i 0)) ((i + 1 : Nat) : Int)
      have hl := hI.1
      simp only [laws_toIntS.l0]
      rw [if_pos (by omega), if_pos (by omega), if_pos (by omega), w64 (by omega) (by omega), rd_nat]
      simp) h)
    (fun i ys hI hi => ⟨by simp [hI.1], fun j hj => by
      by_cases e : j = i
      · subst e
        have := hI.1
        simp [List.getD, List.getElem?_set_self (show j < ys.length by omega)]
      · have := hI.2 j (by omega)
        rw [← this]
        simp [List.getD, List.getElem?_set_ne (Ne.symm e)]⟩)
    (fun ys hI => ev_step (f := fun _ => some ys) (fun k => by
      simp only [laws_toIntS.l0]
      rw [if_neg (by omega)]) (ev_some _)) 0 (List.replicate xs.length 0) (Nat.zero_le _) ⟨by simp, fun j hj => by omega⟩
  have e : iter (fun i (ys : List Int) => ys.set i (xs.getD i 0)) 0 (xs.length - 0) (List.replicate xs.length 0) = xs := by
    have hi := iter_inv (fun i (ys : List Int) => ys.set i (xs.getD i 0)) (fun i ys => ys.length = xs.length ∧ ∀ j, j < i → ys.getD j 0 = xs.getD j 0) xs.length
      (fun i ys hI hi => ⟨by simp [hI.1], fun j hj => by
        by_cases e : j = i
        · subst e
          have := hI.1
          simp [List.getD, List.getElem?_set_self (show j < ys.length by omega)]
        · have := hI.2 j (by omega)
          rw [← this]
          simp [List.getD, List.getElem?_set_ne (Ne.symm e)]⟩) (xs.length - 0) 0 (List.replicate xs.length 0) (by omega) ⟨by simp, fun j hj => by omega⟩
    exact eq_index 0 hi.1 (fun j hj => hi.2 j (by have := hi.1; omega))
  rw [e] at h
  refine Ev.congr (fun k => ?_) h
  unfold laws_toIntS.f
  rw [if_pos (by omega), if_pos (by omega)]
  simp
theorem eqIntS_ev (xs ys : List Int) (hm : xs.length ≤ 9223372036854775806) : Ev (fun k => laws_eqIntS.f k xs ys) (decide (xs = ys)) := by
  by_cases hl : xs.length = ys.length
  · have h := allb_ev (fun k i => laws_eqIntS.l0 k xs ys (i : Int)) xs.length (fun i => decide (xs.getD i 0 = ys.getD i 0))
      (fun i r hi hp h => ev_step (fun k => by
        simp only [laws_eqIntS.l0]
        rw [if_pos (by omega), if_pos (by omega), if_pos (by omega), rd_nat, rd_nat, if_pos (by simpa using hp), w64 (by omega) (by omega)]
        rfl) h)
      (fun i hi hp => ev_step (f := fun _ => some false) (fun k => by
        simp only [laws_eqIntS.l0]
        rw [if_pos (by omega), if_pos (by omega), if_pos (by omega), rd_nat, rd_nat, if_neg (by simpa using hp)]) (ev_some _))
      (ev_step (f := fun _ => some true) (fun k => by
        simp only [laws_eqIntS.l0]
        rw [if_neg (by omega)]) (ev_some _))
    rw [rall_eq 0 hl] at h
    refine Ev.congr (fun k => ?_) h
    unfold laws_eqIntS.f
    rw [if_pos (by omega)]
    rfl
  · refine Ev.congr (f := fun _ => some false) (fun k => ?_) (by rw [decide_eq_false (fun e => hl (by rw [e]))]; exact ev_some _)
    unfold laws_eqIntS.f
    rw [if_neg (by omega)]
theorem toField_ev (a b : Int) (l : List Int) (hl : l.length ≤ 35184372088832) : Ev (fun k => laws_toField.f k a b l) (a, b, l) := ev_bind (toIntS_ev l hl) (ev_some _)
theorem eqField_ev (a b : Int) (l : List Int) (a' b' : Int) (l' : List Int) (hl : l.length ≤ 9223372036854775806) : Ev (fun k => laws_eqField.f k a b l a' b' l') (decide (a = a' ∧ b = b' ∧ l = l')) := by
  unfold laws_eqField.f
  by_cases h1 : a = a'
  · refine ev_ifp h1 ?_
    by_cases h2 : b = b'
    · refine ev_ifp h2 (ev_bind (eqIntS_ev l l' hl) ?_)
      by_cases h3 : l = l'
      · simp only [h1, h2, h3, decide_true, and_self, if_true]
        exact ev_some _
      · simp only [h3, decide_false, and_false, Bool.false_eq_true, if_false]
        exact ev_some _
    · simp only [h2, false_and, and_false, decide_false, if_false]
      exact ev_some _
  · simp only [h1, false_and, decide_false, if_false]
    exact ev_some _
theorem eqField_self (a b : Int) (l : List Int) (hl : l.length ≤ 9223372036854775806) : Ev (fun k => laws_eqField.f k a b l a b l) true := by
  have := eqField_ev a b l a b l hl
  simpa using this
theorem szInt_is (l : List Int) (a : Int) (ha : 0 ≤ a) (ha2 : a ≤ 1048576) (hl : l.length ≤ 9223372036854775807) : laws_szIntS.f l a = some (if a < l.length then -1 else a - l.length) := by
  unfold laws_szIntS.f
  rw [w64 (by omega) (by omega)]
  split
  · rw [if_pos (by omega)]
  · rw [if_neg (by omega)]
theorem szField_at (a b : Int) (l : List Int) (s : Int) (hs : 0 ≤ s) (hs2 : s ≤ 1048576) (hl : l.length ≤ 9223372036854775807) : laws_szField.f a b l s = some (if s < l.length then -1 else s - l.length) := by
  unfold laws_szField.f
  rw [szInt_is l s hs hs2 hl]
  by_cases h : s < (l.length : Int)
  · simp [h]
  · rw [if_neg h, Option.bind_some, if_neg (by omega)]
theorem szField_go (a b : Int) (l : List Int) (s : Int) (hs : 0 ≤ s) (hs2 : s ≤ 1048576) (hl : l.length ≤ 9223372036854775807) :
    (∃ r, laws_szField.f a b l s = some r ∧ r < 0) ∨ ∃ r, laws_szField.f a b l s = some r ∧ ¬ r < 0 ∧ 0 ≤ r ∧ r ≤ 1048576 ∧ l.length ≤ 1048576 := by
  rw [szField_at a b l s hs hs2 hl]
  by_cases h : s < (l.length : Int)
  · rw [if_pos h]
    exact .inl ⟨_, rfl, by omega⟩
  · rw [if_neg h]
    exact .inr ⟨_, rfl, by omega, by omega, by omega, by omega⟩
def cnt (a : Int) (n : Nat) : List Int := (List.range n).map (fun i : Nat => a + (i : Int))
theorem cnt_length (a : Int) (n : Nat) : (cnt a n).length = n := by simp [cnt]
theorem cnt_getD (a : Int) (n i : Nat) (h : i < n) : (cnt a n).getD i 0 = a + i := by simp [cnt, List.getD, h]
theorem markIntS_ev (l : List Int) (a : Int) (h0 : 0 ≤ a) (h1 : a + l.length ≤ 9223372036854775806) : Ev (fun k => laws_markIntS.f k l a) (a + l.length, cnt a l.length) := by
  have h := loop_ev (fun k s i => laws_markIntS.l0 k s (a + (i : Int)) (i : Int)) l.length (fun i s => s.set i (a + i)) (fun s => (a + (l.length : Int), s))
    (fun i s => s.length = l.length ∧ ∀ j, j < i → s.getD j 0 = a + j)
    (fun i s r hI hi h => ev_step (fun k => by
      show laws_markIntS.l0 (k + 1) s (a + (i : Int)) (i : Int) = laws_markIntS.l0 k (s.set i (a + i)) (a + ((i + 1 : Nat) : Int)) ((i + 1 : Nat) : Int)
      have := hI.1
      simp only [laws_markIntS.l0]
      rw [if_pos (by omega), if_pos (by omega), w64 (by omega) (by omega), w64 (by omega) (by omega)]
      simp [Int.add_assoc]) h)
    (fun i s hI hi => ⟨by simp [hI.1], fun j hj => by
      by_cases e : j = i
      · subst e
        have := hI.1
        simp [List.getD, List.getElem?_set_self (show j < s.length by omega)]
      · have := hI.2 j (by omega)
        rw [← this]
        simp [List.getD, List.getElem?_set_ne (Ne.symm e)]⟩)
    (fun s hI => ev_step (f := fun _ => some (a + (l.length : Int), s)) (fun k => by
      have := hI.1
      simp only [laws_markIntS.l0]
      rw [if_neg (by omega)]) (ev_some _)) 0 l (Nat.zero_le _) ⟨rfl, fun j hj => by omega⟩
  have e : iter (fun i (s : List Int) => s.set i (a + i)) 0 (l.length - 0) l = cnt a l.length := by
    have hi := iter_inv (fun i (s : List Int) => s.set i (a + i)) (fun i s => s.length = l.length ∧ ∀ j, j < i → s.getD j 0 = a + j) l.length
      (fun i s hI hi => ⟨by simp [hI.1], fun j hj => by
        by_cases e : j = i
        · subst e
          have := hI.1
          simp [List.getD, List.getElem?_set_self (show j < s.length by omega)]
        · have := hI.2 j (by omega)
          rw [← this]
          simp [List.getD, List.getElem?_set_ne (Ne.symm e)]⟩) (l.length - 0) 0 l (by omega) ⟨rfl, fun j hj => by omega⟩
    exact eq_index 0 (by rw [hi.1, cnt_length]) (fun j hj => by rw [hi.2 j (by have := hi.1; omega), cnt_getD a _ j (by have := hi.1; omega)])
  rw [e] at h
  refine Ev.congr (fun k => ?_) h
  unfold laws_markIntS.f
  simp
theorem heldIntS_ev (a : Int) (n : Nat) (h0 : 0 ≤ a) (h1 : a + n ≤ 9223372036854775806) : Ev (fun k => laws_heldIntS.f k (cnt a n) a) (a + n) := by
  have h := loop_ev (σ := Unit) (fun k _ i => laws_heldIntS.l0 k (cnt a n) (a + (i : Int)) (i : Int)) n (fun _ _ => ()) (fun _ => a + (n : Int)) (fun _ _ => True)
    (fun i s r _ hi h => ev_step (fun k => by
      show laws_heldIntS.l0 (k + 1) (cnt a n) (a + (i : Int)) (i : Int) = laws_heldIntS.l0 k (cnt a n) (a + ((i + 1 : Nat) : Int)) ((i + 1 : Nat) : Int)
      simp only [laws_heldIntS.l0, cnt_length, rd_nat, cnt_getD a n i hi]
      rw [if_pos (by omega), if_pos (by omega), if_pos trivial, w64 (by omega) (by omega), w64 (by omega) (by omega)]
      simp [Int.add_assoc]) h)
    (fun _ _ _ _ => trivial)
    (fun _ _ => ev_step (f := fun _ => some (a + (n : Int))) (fun k => by
      simp only [laws_heldIntS.l0, cnt_length]
      rw [if_neg (by omega)]) (ev_some _)) 0 () (Nat.zero_le _) trivial
  refine Ev.congr (fun k => ?_) h
  unfold laws_heldIntS.f
  simp
theorem markField_ev (x y : Int) (l : List Int) (a : Int) (h0 : 0 ≤ a) (h1 : a + l.length ≤ 9223372036854775806) : Ev (fun k => laws_markField.f k x y l a) (a + l.length, cnt a l.length) := ev_bind (markIntS_ev l a h0 h1) (ev_some _)
theorem heldField_ev (x y : Int) (n : Nat) (a : Int) (h0 : 0 ≤ a) (h1 : a + n ≤ 9223372036854775806) : Ev (fun k => laws_heldField.f k x y (cnt a n) a) (a + n) :=
  ev_bind (heldIntS_ev a n h0 h1) (ev_ifn (by omega) (ev_some _))
theorem FnExactCoarsenMean : laws_FnExactCoarsenMean.Pure := by
  intro a b l x y ha hb hl hx hy
  refine Ev.rounds ?_
  unfold laws_FnExactCoarsenMean.f
  rcases szField_go a b l 1048576 (by first | omega | (dsimp only; omega) | (simp; omega)) (by first | omega | (dsimp only; omega) | (simp; omega)) (hl.1) with ⟨rz1, ez1, hz1⟩ | ⟨rz1, ez1, hz1, hza1, hzb1, hlz1⟩
  · exact ev_bind (ev_const ez1) (ev_ifp hz1 (ev_some _))
  refine ev_bind (ev_const ez1) ?_
  refine ev_ifn hz1 ?_
  obtain ⟨⟨ra, rb, rs, g⟩, hs, hi, hlen⟩ := coarsenMean_both a b l x y (by omega); simp only at hlen
  refine ev_bind (toField_ev _ _ _ (by first | omega | (dsimp only; omega) | (simp; omega))) ?_
  refine ev_bind hs ?_
  refine ev_bind (toField_ev _ _ _ (by first | omega | (dsimp only; omega) | (simp; omega))) ?_
  refine ev_bind hi ?_
  refine ev_bind (eqField_self _ _ _ (by first | omega | (dsimp only; omega) | (simp; omega))) ?_
  refine ev_ifp rfl ?_
  refine ev_step (fun k => laws_FnExactCoarsenMean.j0.eq_2 _ _ _ _ _ _ _ _ _ _ _ _ _ _ _ _ _ k) ?_
  refine ev_ifn (by simp) ?_
  refine ev_bind (toField_ev _ _ _ (by first | omega | (dsimp only; omega) | (simp; omega))) ?_
  refine ev_bind (eqField_self _ _ _ (by first | omega | (dsimp only; omega) | (simp; omega))) ?_
  refine ev_ifp rfl ?_
  refine ev_bind (markField_ev _ _ _ _ (by first | omega | (dsimp only; omega) | (simp; omega)) (by first | omega | (dsimp only; omega) | (simp; omega))) ?_
  refine ev_ifn (by first | (simp; done) | (simp; omega) | omega) ?_
  refine ev_bind (eqField_self _ _ _ (by first | omega | (dsimp only; omega) | (simp; omega))) ?_
  refine ev_ifp rfl ?_
  refine ev_step (fun k => laws_FnExactCoarsenMean.j1.eq_2 _ _ _ _ _ _ _ _ _ _ _ _ _ k) ?_
  refine ev_ifn (by simp) ?_
  refine ev_bind (markField_ev _ _ _ _ (by first | omega | (dsimp only; omega) | (simp; omega)) (by first | omega | (dsimp only; omega) | (simp; omega))) ?_
  refine ev_bind (heldField_ev _ _ _ _ (by first | omega | (dsimp only; omega) | (simp; omega)) (by first | omega | (dsimp only; omega) | (simp; omega))) ?_
  refine ev_ifn (by first | (simp; done) | (simp; omega) | omega) ?_
  refine ev_ifp (by first | rfl | (simp; done)) ?_
  refine ev_bind (toField_ev _ _ _ (by first | omega | (dsimp only; omega) | (simp; omega))) ?_
  refine ev_bind hi ?_
  refine ev_bind (eqField_self _ _ _ (by first | omega | (dsimp only; omega) | (simp; omega))) ?_
  refine ev_ifp rfl ?_
  refine ev_step (fun k => laws_FnExactCoarsenMean.j2.eq_2 _ _ _ _ _ k) ?_
  refine ev_ifn (by simp) ?_
  refine ev_bind (heldField_ev _ _ _ _ (by first | omega | (dsimp only; omega) | (simp; omega)) (by first | omega | (dsimp only; omega) | (simp; omega))) ?_
  refine ev_ifn (by first | (simp; done) | (simp; omega) | omega) ?_
  refine ev_ifp (by first | rfl | (simp; done)) ?_
  exact ev_some _
end Go.Proofs.Ythekngnkajjhnaa.Pure
namespace Go.Proofs.Ythekngnkajjhnaa.fnExactCoarsenMean
open Go.ChangeShapes Go.WideShapes Go.ChangeAt Go.RowKit Go.Proofs.Ythekngnkajjhnaa.Open Go.Proofs.Ythekngnkajjhnaa.P Go.Proofs.YthekngnkajjhnaaW.PrintWords
open Go.ChangeMaps (open_string shut_string)
set_option linter.unusedVariables false
theorem own : ownKnob Try.prog.godebug = none := by kernel_rfl
theorem laidOut : laidOutB Try.prog = true := by kernel_rfl
set_option maxRecDepth 100000 in
theorem lifted (os : Os) (started : os.Started) (H : Type) (enc : TypeId × Value → H) :
    ReturnsInHanded {} Try.checked os 10 .any (Rows.fnExactCoarsenMeanSpec.pre6 enc Try.prog Try.f10 Rows.fnExactCoarsenMeanRow.domain false) (Rows.fnExactCoarsenMeanSpec.post enc Try.prog Try.f10 false true false false) := by
  refine returnsInHanded_of_change_sized (C := Try.checked) own started (by kernel_rfl) Try.func10
    (ChangeSpec.witness6 (enc := enc) (C := Try.checked) false ⟨#[], #[.agg #[.int .i64 0, .int .i64 0, .slice none 0 0], .int .i64 0, .int .i64 0], []⟩ 8 (by kernel_rfl) (by kernel_rfl) (by kernel_rfl) (by kernel_rfl)) ?_
  intro W base args ds gs before hval0 hW hcnd hsz0 _
  have hsz : (DataW.weightsEach Try.prog (Try.f10.params.toList ++ Rows.fnExactCoarsenMeanSpec.plain.varTypes Try.prog) (ds ++ gs)).all (· ≤ reachBytes) = true := hsz0
  have hval : ∀ (j : Nat) t v, Try.f10.params[j]? = some t → args[j]? = some v → Value.okWide Try.prog W .any base t v := hval0
  have hW' := hW
  obtain ⟨p, q, hA0, hV, rfl, hfz, hnd⟩ := hW
  have hA : DataW.TrodAll enc Try.prog W 0 (fun _ => true) true Try.f10.params.toList args.toList ds p := hA0
  rw [Try.params10] at hA hval hsz
  obtain ⟨v0, vs0, d0, ds0, p0, q0, hargs, rfl, rfl, h0, r0⟩ := trodAll_cons hA
  obtain ⟨v1, vs1, d1, ds1, p1, q1, rfl, rfl, rfl, h1, r1⟩ := trodAll_cons r0
  obtain ⟨v2, vs2, d2, ds2, p2, q2, rfl, rfl, rfl, h2, r2⟩ := trodAll_cons r1
  obtain ⟨rfl, rfl, rfl⟩ := trodAll_nil r2
  obtain rfl : args = #[v0, v1, v2] := by cases args; simp_all
  obtain ⟨rfl, rfl⟩ := trodVars_none hV
  have k0 := h0
  have lt0 : ∀ x ∈ p0, x.block < W.heap.size := by obtain ⟨m, hm⟩ := k0; exact DataW.trod_lt m _ _ _ hm
  obtain ⟨u0_0, u0_1, u0_2, b0_0, b0_1, b0_2, rfl, K0_0, w0_0, K0_1, w0_1, K0_2, w0_2⟩ := agg3_at Try.underlying79 (by kernel_rfl) (by kernel_rfl) (opens_int Try.underlying3) (opens_int Try.underlying3) (opens_slice Try.underlying24 (by kernel_rfl) (opens_int Try.underlying3)) (hval 0 79 v0 rfl rfl) h0
  obtain rfl := int_cell K0_0
  obtain rfl := int_cell K0_1
  obtain ⟨A0_2, c0_2, rfl, hc0_2, hr0_2⟩ := slice_cell K0_2
  obtain ⟨a1, rfl, rfl, rfl, w1⟩ := open_int Try.underlying3 (hval 1 3 v1 rfl rfl) h1
  obtain ⟨a2, rfl, rfl, rfl, w2⟩ := open_int Try.underlying3 (hval 2 3 v2 rfl rfl) h2
  clear hA0 hval0 hsz0 hsz
  obtain ⟨k, hp⟩ := Pure.FnExactCoarsenMean b0_0 b0_1 b0_2 a1 a2 w0_0 w0_1 w0_2 w1 w2
  refine (laws_FnExactCoarsenMean.calls k b0_0 b0_1 A0_2 c0_2 b0_2 a1 a2 true W hr0_2 hc0_2 hp).mono fun e W' ⟨he, bel0⟩ => ?_
  have bel : Below W.heap.size W W' := bel0
  subst he
  exact ⟨_, rfl, _, _, _, [], _, [], hW', trodAll_mk1 (shut_bool Try.underlying4 _), (trodAll_cons_mk (Below.trod laidOut (by kernel_rfl) (of_decide_eq_true (by kernel_rfl)) k0 bel lt0) (trodAll_cons_mk (shut_int Try.underlying3 w1) (trodAll_cons_mk (shut_int Try.underlying3 w2) trodAll_mk0))), rfl, bel.frame _, fun h => by cases h⟩
set_option maxHeartbeats 4000000 in
set_option maxRecDepth 100000 in
theorem closed : joinedFacts Try.prog 10 Try.f10 Rows.fnExactCoarsenMeanSpec Rows.fnExactCoarsenMeanRow = true := by
  unfold joinedFacts
  repeat' (with_reducible refine Bool.and_eq_true_iff.2 ⟨?_, ?_⟩)
  all_goals (as_aux_lemma => kernel_rfl)
theorem over : Rows.fnExactCoarsenMeanRow.holds Try.pinned (OpenSpec.ofChange Rows.fnExactCoarsenMeanSpec) :=
  OpenClaim.holds_of_wide 10 Try.f10 rfl rfl rfl rfl rfl rfl rfl ⟨rfl, rfl, rfl, rfl, rfl⟩ rfl rfl rfl rfl rfl (by kernel_rfl) Try.func10 closed
    (of_decide_eq_true (by kernel_rfl)) (by unfold Func.isWrapper; first | (rw [if_pos (by decide +kernel)]; kernel_rfl) | (rw [if_neg (by decide +kernel)]; exact ⟨rfl, rfl⟩))
    (fun os started H enc _ => lifted os started H enc)
theorem proved : Rows.FnExactCoarsenMeanSaid := over
#print axioms proved
end Go.Proofs.Ythekngnkajjhnaa.fnExactCoarsenMean
namespace Go.Proofs.Ythekngnkajjhnaa
theorem fnExactCoarsenMean_holds : Rows.FnExactCoarsenMeanSaid := fnExactCoarsenMean.proved
end Go.Proofs.Ythekngnkajjhnaa
