/- Texts of the claim FnRegrid, merged: part 9 of 13: the program's and the reference's functions as Lean functions, the walks that show it, and plain lemmas; no conditions. -/
import Derived.Test.YthlmikigjhgpdaaKFnRegrid3
import Derived.Test.YthlmikigjhgpdaaKFnRegrid8
import Derived.Test.YthlmikigjhgpdaaKFnRegrid6
import Derived.Shelf.SlicesE.DeleteFunc
import Derived.Ground.SlgfProg
import Derived.Test.YthlmikigjhgpdaaProg
import Derived.Test.YthlmikigjhgpdaaKFnRegrid2
import Derived.Sort.OwnSortedInts
namespace Go.Proofs.Ythlmikigjhgpdaa.P
open Go.RowKit Go.Proofs.YthlmikigjhgpdaaW.PrintWords Go.Proofs.YthlmikigjhgpdaaW.PrintLast Go.Proofs.YthlmikigjhgpdaaW.PrintMore
attribute [local go_sem] max2_int min2_int max_two min_two max_three min_three max_four min_four
set_option linter.unusedVariables false
set_option linter.unusedSimpArgs false
set_option maxHeartbeats 8000000
set_option maxRecDepth 100000
def impl_fieldBy_at_mp_mpGi64_i64_i64.l0 (p : Int → Int → Option (Int)) : Nat → Int → Int → Int → Int → Int → List Int → Option (Int × Int × List Int)
 | 0, _, _, _, _, _, _ => none
 | k + 1, x0, x14, x15, x108000, x108001, x108002 => if x15 < x14 then (if x0 = 0 then (none) else ((p (Int.tmod x15 x0) (wrap64 (Int.tdiv x15 x0))).bind fun t108 => (if 0 ≤ x15 then (if x15 < (x108002.length : Int) then (impl_fieldBy_at_mp_mpGi64_i64_i64.l0 p k x0 x14 (wrap64 (x15 + 1)) x108000 x108001 (x108002.set (x15 : Int).toNat t108)) else (none)) else (none)))) else (some (x108000, x108001, x108002))
def impl_fieldBy_at_mp_mpGi64_i64_i64.f (k : Nat) (p : Int → Int → Option (Int)) (a0 : Int) (a1 : Int)  : Option (Int × Int × List Int) := (impl_filled.f a0 a1 0).bind fun bt102 => (impl_fieldBy_at_mp_mpGi64_i64_i64.l0 p k a0 (bt102.2.2.length : Int) 0 bt102.1 bt102.2.1 bt102.2.2)
def impl_fieldBy_at_mp_mpGi64_i64_i64.T5 : Bool × List (List Nat × List Nat) := (true, [([], []), ([0], [0]), ([], []), ([], []), ([], []), ([], []), ([4, 5], [4, 5]), ([], []), ([], []), ([7, 8], [7, 8]), ([3, 6, 9], [3, 6, 9]), ([1, 2, 0, 1, 2, 3, 4, 5, 6, 7, 8, 9, 10], [1, 2]), ([11, 10, 10, 0, 1, 2, 3, 4, 5, 6, 7, 8, 9, 10], [10, 11])])
def impl_fieldBy_at_mp_mpGi64_i64_i64.B5 : List Nat := [0, 1, 0, 0, 0, 0, 48, 0, 0, 384, 1016, 2047, 4095]
theorem impl_fieldBy_at_mp_mpGi64_i64_i64.tab5 : rtab .any (opsOf Try.f24 5) = impl_fieldBy_at_mp_mpGi64_i64_i64.T5 := by kernel_rfl
theorem impl_fieldBy_at_mp_mpGi64_i64_i64.bits5 : waitsOk impl_fieldBy_at_mp_mpGi64_i64_i64.T5.2 impl_fieldBy_at_mp_mpGi64_i64_i64.B5 = true := by kernel_rfl
theorem impl_fieldBy_at_mp_mpGi64_i64_i64.calls (p : Int → Int → Option (Int)) (g : Nat) (lb : Array Value) (k : Nat) (a0 : Int) (a1 : Int)  (r1 : Int) (r2 : Int) (r3 : List Int) (w : World) (eg : ∀ args w, (callFunc g args).run Try.prog w = .ok (.enter g args) w) (hp : ∀ (a0 : Int) (a1 : Int) (r : Int) (W : World), p a0 a1 = some r → Below w.heap.size w W → Calls Try.prog g (#[.int .i64 a0, .int .i64 a1] ++ lb) W fun e W' => e = .returned (.int .i64 r) ∧ Below W.heap.size W W') (h : impl_fieldBy_at_mp_mpGi64_i64_i64.f k p a0 a1 = some (r1, r2, r3)) :
  Calls Try.prog 24 #[.int .i64 a0, .int .i64 a1, .func (.func g) #[] lb] w fun e w' => ∃ v2_ : Value, e = .returned (.agg #[.int .i64 r1, .int .i64 r2, v2_]) ∧ Kd.R (Kd.int .i64) 3 w' w.heap.size (fun _ => True) v2_ r3 ∧ Below w.heap.size w w' := by
 have hu26 := Try.underlying26
 have HB := aK (Below.refl w.heap.size w)
 have H : ((impl_filled.f a0 a1 0).bind fun bt102 => (impl_fieldBy_at_mp_mpGi64_i64_i64.l0 p k a0 (bt102.2.2.length : Int) 0 bt102.1 bt102.2.1 bt102.2.2)) = some (r1, r2, r3) := h
 clear h
 replace H := Option.bind_eq_some_iff.mp H
 obtain ⟨⟨t102, t103, t104⟩, A40, H⟩ := H
 replace H : (impl_fieldBy_at_mp_mpGi64_i64_i64.l0 p k a0 (t104.length : Int) 0 t102 t103 t104) = some (r1, r2, r3) := H
 have A4 := Aside0.mk A40
 clear A40
 have H' := Aside0.mk H
 clear H
 go_enter Try.func24, Try.ntmps24
 go_wp2_with (first | ((with_reducible refine gate_dst (N := 6) rfl ?_); refine bxe (cs := #[.int .i64 0, .int .i64 0, .slice none 0 0]) (t := 26) ?_; intro gb101 hg w5 hbox hb; have BK101 := aK (hbox); have GW101 := aK (gE hg (pS HB.out)); have GE101 := GW101; replace HB := bS HB hb; clear hb hbox hg) | ((with_reducible refine gate_callee (f := 23) rfl ?_); refine gl (some 11) Try.func23 #[.int .i64 a0, .int .i64 a1, .int .i64 0] ?_; (with_reducible refine (impl_filled.calls a0 a1 0 t102 t103 t104 _ A4.out).mono ?_); rintro e w6 ⟨v105, rfl, ho0, hb⟩; refine ⟨_, rfl, ?_⟩; have HO106 := aK (Kd.R_lower ho0 (below_size (pS HB.out))); replace BK101 := bB BK101 hb; replace HB := bS HB hb; (try clear hb); (try clear hb2); (try clear hk); (try clear hi); (try clear ho0)) | ((with_reducible refine gate_dst (N := 7) rfl ?_); refine bxe (cs := #[.int .i64 0, .int .i64 0, .slice none 0 0]) (t := 26) ?_; intro gb107 hg w7 hbox hb; have n0_ := aK (Kd.R_below (pR HO106.out) hb); have BK107 := aK (hbox); have GW107 := aK (gE hg (pS HB.out)); have GE107 := GW107; obtain ⟨NB101_107, NB107_101⟩ := nb hg (pB BK101.out); replace BK101 := bB BK101 hb; replace HB := bS HB hb; clear HO106; have HO106 := n0_; clear n0_ hb hbox hg; have hnb8 := NB107_101.out; have hnc8 := NB101_107.out; obtain ⟨hcz9_0, hcz9_1, hcz9_2, hfz9_0, hfz9_1, hfz9_2⟩ := bc3 BK107.out; obtain ⟨Ao10, co10, eo10⟩ := Kd.R_slice HO106.out; subst eo10))
 go_loopg [15] k (fun kq v15 w' => ∃ (x15_1 : Int) (x108002_1 : List Int) (u108002 : Value), v15 = .int .i64 x15_1 ∧ Aside0 (impl_fieldBy_at_mp_mpGi64_i64_i64.l0 p kq a0 (t104.length : Int) x15_1 t102 t103 x108002_1 = some (r1, r2, r3)) ∧ Aside0 (kq ≤ k) ∧ Aside0 (Kd.R (Kd.int .i64) 3 w' w.heap.size (fun _ => True) u108002 x108002_1) ∧ Aside0 (w'.heap[gb101]? = some (.cells #[.int .i64 0, .int .i64 0, (.slice none 0 0)] 26 (0, 0))) ∧ Aside0 (w'.heap[gb107]? = some (.cells #[.int .i64 t102, .int .i64 t103, u108002] 26 (0, 0))) ∧ Aside0 (Below w.heap.size w w'))
 case atStart => exact ⟨(0), (t104), (.slice Ao10 t104.length co10), (by first | rfl | (simp; done) | (simp [*]; done)), H', ⟨Nat.le_refl _⟩, ⟨pR (Kd.R_mono (rF3 HO106.out BK107.out (.int .i64 t102) (.int .i64 t103) (.slice Ao10 t104.length co10)) (fun _ h => trivial))⟩, ⟨by refine bk ?_; refine blk_far ?_ NB101_107.out _; refine bk ?_; refine blk_far ?_ NB101_107.out _; refine bk ?_; refine blk_far ?_ NB101_107.out _; refine bk ?_; exact BK101.out⟩, ⟨by refine bk ?_; refine blk_put (cs := #[.int .i64 t102, .int .i64 t103, .slice none 0 0]) ?_ 2 _ rfl; refine bk ?_; refine blk_put (cs := #[.int .i64 t102, .int .i64 0, .slice none 0 0]) ?_ 1 _ rfl; refine bk ?_; refine blk_put (cs := #[.int .i64 0, .int .i64 0, .slice none 0 0]) ?_ 0 _ rfl; refine bk ?_; exact BK107.out⟩, ⟨pT HB.out⟩⟩
 case round =>
  clear H'
  try clear c2
  try clear p2
  try clear c8
  try clear c9
  try clear hcz9_0
  try clear hcz9_1
  try clear hcz9_2
  try clear hfz9_0
  try clear hfz9_1
  try clear hfz9_2
  obtain ⟨x15_1, x108002_1, u108002, rfl, HA, HK1, HO_108002, BK101, BK107, HB⟩ := hrel
  cases gk with
  | zero => exact absurd HA.out (by simp [impl_fieldBy_at_mp_mpGi64_i64_i64.l0])
  | succ k1 =>
   have H := HA.out; clear HA
   simp only [impl_fieldBy_at_mp_mpGi64_i64_i64.l0] at H
   by_cases c11 : x15_1 < (t104.length : Int)
   ·
    rw [if_pos c11] at H
    have c11b0 : decide (x15_1 < (t104.length : Int)) = true := decide_eq_true c11
    clear c11
    by_cases c12 : a0 = 0
    ·
     rw [if_pos c12] at H
     exact absurd H (by simp)
    rw [if_neg c12] at H
    have c12b0 : (a0 == 0) = false := beq_eq_false_iff_ne.mpr c12
    have c12b1 : (a0 != 0) = true := bne_iff_ne.mpr c12
    replace H := Option.bind_eq_some_iff.mp H; obtain ⟨t108, A130, H⟩ := H
    replace H : (if 0 ≤ x15_1 then (if x15_1 < (x108002_1.length : Int) then (impl_fieldBy_at_mp_mpGi64_i64_i64.l0 p k1 a0 (t104.length : Int) (wrap64 (x15_1 + 1)) t102 t103 (x108002_1.set (x15_1 : Int).toNat t108)) else (none)) else (none)) = some (r1, r2, r3) := H
    have A13 := Aside0.mk A130; clear A130
    by_cases c14 : 0 ≤ x15_1
    ·
     rw [if_pos c14] at H
     have c14b0 : decide (0 ≤ x15_1) = true := decide_eq_true c14
     clear c14
     by_cases c15 : x15_1 < (x108002_1.length : Int)
     ·
      rw [if_pos c15] at H
      have c15b0 : decide (x15_1 < (x108002_1.length : Int)) = true := decide_eq_true c15
      clear c15
      obtain ⟨y109, hy109⟩ : ∃ y_ : List Int, y_ = (x108002_1.set (x15_1 : Int).toNat t108) := ⟨_, rfl⟩
      replace H : (impl_fieldBy_at_mp_mpGi64_i64_i64.l0 p k1 a0 (t104.length : Int) (wrap64 (x15_1 + 1)) t102 t103 y109) = some (r1, r2, r3) := by first | (rw [hy109]; with_reducible exact H) | (have H2_ := (Option.bind_some _ _).symm.trans H; rw [hy109]; with_reducible exact H2_) | (have H2_ := (Option.bind_some _ _).symm.trans H; with_reducible exact H2_) | with_reducible exact H | (rw [hy109]; exact H) | exact H
      have Ny109 := Aside0.mk hy109; clear hy109; have H' := Aside0.mk H; clear H
      try go_wp2
      have n0_ := aK (Kd.R_drew HO_108002.out); have n1_ := aK (blk_drew BK101.out); have n2_ := aK (blk_drew BK107.out); have n3_ := aK (below_drew1 HB.out); clear HO_108002 BK101 BK107 HB; have HO_108002 := n0_; have BK101 := n1_; have BK107 := n2_; have HB := n3_; clear n0_ n1_ n2_ n3_
      refine start_ (n := 13) (S := fun w' => w'.cell? ⟨gb107, 0, none⟩ = some (.int .i64 t102) ∧ w'.cell? ⟨gb107, 1, none⟩ = some (.int .i64 t103) ∧ w'.cell? ⟨gb107, 2, none⟩ = some (u108002)) (ds := [12]) #[false, false, false, false, false, false, false, false, false, false, false, false, false] (by kernel_rfl) rfl rfl (cz3 BK107.out) (fun hHeld => ?_); refine with_tabW impl_fieldBy_at_mp_mpGi64_i64_i64.tab5 impl_fieldBy_at_mp_mpGi64_i64_i64.bits5 (fun HT_ HW_ => ?_)
      generalize wr.drew = w17 at HO_108002 BK101 BK107 HB hHeld ⊢
      refine pu (i := 0) (N := some 18) #[true, false, false, false, false, false, false, false, false, false, false, false, false] rfl rfl HT_.out ?_
      refine pu (i := 2) (N := some 20) #[true, false, true, false, false, false, false, false, false, false, false, false, false] rfl rfl HT_.out ?_
      refine pu (i := 3) (N := some 21) #[true, false, true, true, false, false, false, false, false, false, false, false, false] rfl rfl HT_.out ?_
      refine pu (i := 4) (N := some 22) #[true, false, true, true, true, false, false, false, false, false, false, false, false] rfl rfl HT_.out ?_
      refine pu (i := 5) (N := some 23) #[true, false, true, true, true, true, false, false, false, false, false, false, false] rfl rfl HT_.out ?_
      refine pu (i := 6) (N := some 24) #[true, false, true, true, true, true, true, false, false, false, false, false, false] rfl rfl HT_.out ?_
      refine pu (i := 7) (N := some 25) #[true, false, true, true, true, true, true, true, false, false, false, false, false] rfl rfl HT_.out ?_
      refine pu (i := 8) (N := some 26) #[true, false, true, true, true, true, true, true, true, false, false, false, false] rfl rfl HT_.out ?_
      refine pu (i := 9) (N := some 27) #[true, false, true, true, true, true, true, true, true, true, false, false, false] rfl rfl HT_.out ?_
      refine tk (i := 1) (N := some 19) #[true, true, true, true, true, true, true, true, true, true, false, false, false] rfl rfl HT_.out HW_.out (Or.inl ⟨by rfl, by rintro w' ⟨s0, s1, s2⟩; go_simp; with_reducible rfl⟩) hHeld ?_
      refine one_ (i := 10) (N := some 28) #[true, true, true, true, true, true, true, true, true, true, true, false, false] rfl rfl (one_of HT_.out (by kernel_rfl)) (by decide) (fun K hK => ?_)
      refine mp_goesA (lb := lb) eg #[.int .i64 (Int.tmod x15_1 a0), .int .i64 (wrap64 (Int.tdiv x15_1 a0))] (by rfl) rfl rfl rfl (by (try simp only [List.map_toArray, List.map_cons, List.map_nil]); first | done | rfl | (simp only [List.length_drop, List.length_take]; rfl)) ?_
      refine (hp (Int.tmod x15_1 a0) (wrap64 (Int.tdiv x15_1 a0)) t108 _ A13.out (pS HB.out)).mono ?_
      rintro e w18 ⟨rfl, hb⟩
      refine ⟨_, rfl, ?_⟩
      have n0_ := aK (Kd.R_below (pR HO_108002.out) hb); replace BK101 := bB BK101 hb; replace BK107 := bB BK107 hb; replace HB := bS HB hb; clear HO_108002; have HO_108002 := n0_; clear n0_
      (try clear hb)
      (try clear hb2)
      (try clear hk)
      (try clear hi)
      have p16 : 0 ≤ (x15_1 : Int) := of_decide_eq_true (by first | (with_reducible assumption) | assumption)
      have q16 : (x15_1 : Int) < ((x108002_1.length : Int) : Int) := of_decide_eq_true (by first | (with_reducible assumption) | assumption)
      obtain ⟨go16, co16, eo16, gb16, gl16, cl16, HG16⟩ := Kd.R_form HO_108002.out (by omega)
      (first | cases eo16 | (injection eo16 with ea_ en_ ec_; (first | subst ea_ | (injection ea_ with ea_; subst ea_)); subst ec_; clear en_))
      have GB16 := Aside0.mk gb16; have GG16 := Aside0.mk HG16; clear gb16 gl16 HG16; obtain ⟨hx16_0, hf16_0⟩ := Kd.R_celln 0 HO_108002.out (x15_1 : Int) p16 q16; replace p16 := eq_true p16; replace q16 := eq_true q16; have HP19 := Kd.R_putn HO_108002.out (x15_1 : Int) t108; rw [← Ny109.out] at HP19; have HQ19 := Aside0.mk HP19; clear HP19
      refine hK.out _ _ (cz3 BK107.out) (fun hHeld => ?_)
      clear hK K
      refine norm_ (a' := ?_) ?_ ?_
      rotate_left
      ·
       show Act.put _ (some 28) _ = _
       simp only [sP]
       rfl
      refine pu (i := 11) (N := some 29) #[true, true, true, true, true, true, true, true, true, true, true, true, false] rfl rfl HT_.out ?_
      refine last_ (i := 12) (N := none) #[true, true, true, true, true, true, true, true, true, true, true, true, true] rfl rfl (one_of HT_.out (by kernel_rfl)) (by decide) (fun K hK => ?_)
      refine skip_ (w1 := ?_) (by rfl) rfl ?_ ?_
      rotate_left
      ·
       go_simp
       rfl
      refine hK.out _ _ ?_
      clear hK K
      refine done_ (done_of HT_.out (by kernel_rfl)) ?_
      try go_wp2
      go_roundg k1
      case measure => have := HK1.out; omega
      case rel => exact ⟨(wrap64 (x15_1 + 1)), (y109), (.slice (some ⟨go16, 0, none⟩) x108002_1.length co16), (by first | rfl | (simp; done) | (simp [*]; done)), H', ⟨by have := HK1.out; omega⟩, ⟨pR HQ19.out⟩, ⟨by refine bk ?_; refine blk_far ?_ (by have h_ := Kd.R_ne HO_108002.out BK101.out (by decide); intro e_; exact h_ (by rw [e_]; rfl)) _; refine bk ?_; exact BK101.out⟩, ⟨by refine bk ?_; refine blk_far ?_ (by have h_ := Kd.R_ne HO_108002.out BK107.out (by decide); intro e_; exact h_ (by rw [e_]; rfl)) _; refine bk ?_; exact BK107.out⟩, ⟨by repeat (first | (with_reducible first | exact HB.out | apply below_alloc | apply pw_below_drewN | apply below_drew1 | refine below_set ?_ GB16.out | refine below_set ?_ GE101.out | refine below_set ?_ GE107.out) | exact HB.out)⟩⟩
     rw [if_neg c15] at H
     exact absurd H (by simp)
    rw [if_neg c14] at H
    exact absurd H (by simp)
   rw [if_neg c11] at H
   have c11b0 : decide (x15_1 < (t104.length : Int)) = false := decide_eq_false c11
   clear c11
   simp only [Option.some.injEq, Prod.mk.injEq] at H
   obtain ⟨rfl, rfl, rfl⟩ := H; have hnb20 := NB107_101.out; have hnc20 := NB101_107.out; obtain ⟨hcz21_0, hcz21_1, hcz21_2, hfz21_0, hfz21_1, hfz21_2⟩ := bc3 BK107.out; obtain ⟨hcz22_0, hcz22_1, hcz22_2, hfz22_0, hfz22_1, hfz22_2⟩ := bc3 BK101.out; obtain ⟨Ao23, co23, eo23⟩ := Kd.R_slice HO_108002.out; subst eo23
   go_wp2
   refine bodyPost_ret (results_cell_row rfl _ _ gb101 26 #[.int .i64 t102, .int .i64 t103, .slice Ao23 x108002_1.length co23] (0, 0) _ rfl (by refine bk ?_; refine blk_put (cs := #[.int .i64 t102, .int .i64 t103, .slice none 0 0]) ?_ 2 _ rfl; refine bk ?_; refine blk_put (cs := #[.int .i64 t102, .int .i64 0, .slice none 0 0]) ?_ 1 _ rfl; refine bk ?_; refine blk_put (cs := #[.int .i64 0, .int .i64 0, .slice none 0 0]) ?_ 0 _ rfl; refine bk ?_; exact BK101.out) Try.underlying26 rfl (by kernel_rfl)) rfl ?_
   exact ⟨_, er, by (with_reducible repeat (first | apply Kd.R_alloc | apply Kd.R_drewN | apply Kd.R_drew)); exact Kd.R_mono (rF3 HO_108002.out BK101.out (.int .i64 t102) (.int .i64 t103) (.slice Ao23 x108002_1.length co23)) (fun _ h => trivial), pT HB.out⟩
def impl_overlapUnits.f (a0 : Int) (a1 : Int) (a2 : Int) (a3 : Int) : Option (Int) := some (mx 0 (wrap64 ((mn (wrap64 ((wrap64 (a2 + 1)) * a1)) (wrap64 ((wrap64 (a3 + 1)) * a0))) - (mx (wrap64 (a2 * a1)) (wrap64 (a3 * a0))))))
theorem impl_overlapUnits.calls (a0 : Int) (a1 : Int) (a2 : Int) (a3 : Int) (r : Int) (w : World) (h : impl_overlapUnits.f a0 a1 a2 a3 = some r) :
  Calls Try.prog 26 #[.int .i64 a0, .int .i64 a1, .int .i64 a2, .int .i64 a3] w fun e w' => e = .returned (.int .i64 r) ∧ Below w.heap.size w w' := by
 have HB := aK (Below.refl w.heap.size w)
 have H : (some (mx 0 (wrap64 ((mn (wrap64 ((wrap64 (a2 + 1)) * a1)) (wrap64 ((wrap64 (a3 + 1)) * a0))) - (mx (wrap64 (a2 * a1)) (wrap64 (a3 * a0))))))) = some r := h
 clear h
 obtain ⟨ji5, hji5⟩ : ∃ j_ : Int, (mn (wrap64 ((wrap64 (a2 + 1)) * a1)) (wrap64 ((wrap64 (a3 + 1)) * a0))) = j_ := ⟨_, rfl⟩
 replace H : (some (mx 0 (wrap64 ((ji5) - (mx (wrap64 (a2 * a1)) (wrap64 (a3 * a0))))))) = some r := by first | (rw [hji5] at H; exact H) | (simp only [hji5] at H ⊢; exact H)
 have hji5_ : (if (wrap64 ((wrap64 (a3 + 1)) * a0)) < (wrap64 ((wrap64 (a2 + 1)) * a1)) then (wrap64 ((wrap64 (a3 + 1)) * a0)) else (wrap64 ((wrap64 (a2 + 1)) * a1))) = ji5 := hji5
 obtain ⟨ji6, hji6⟩ : ∃ j_ : Int, (mx (wrap64 (a2 * a1)) (wrap64 (a3 * a0))) = j_ := ⟨_, rfl⟩
 replace H : (some (mx 0 (wrap64 ((ji5) - (ji6))))) = some r := by first | (rw [hji6] at H; exact H) | (simp only [hji6] at H ⊢; exact H)
 have hji6_ : (if (wrap64 (a2 * a1)) < (wrap64 (a3 * a0)) then (wrap64 (a3 * a0)) else (wrap64 (a2 * a1))) = ji6 := hji6
 obtain ⟨ji7, hji7⟩ : ∃ j_ : Int, (mx 0 (wrap64 ((ji5) - (ji6)))) = j_ := ⟨_, rfl⟩
 replace H : (some ji7) = some r := by first | (rw [hji7] at H; exact H) | (simp only [hji7] at H ⊢; exact H)
 have hji7_ : (if 0 < (wrap64 ((ji5) - (ji6))) then (wrap64 ((ji5) - (ji6))) else 0) = ji7 := hji7
 obtain rfl := Option.some.inj H
 go_enter Try.func26, Try.ntmps26
 go_wp2
 go_ret
 exact ⟨by first | rfl | (simp [errW_none, errW_some] <;> rfl) | (simp only [← hji5, ← hji6, ← hji7]; first | rfl | (simp [errW_none, errW_some] <;> rfl)) | (simp [*, errW_none, errW_some] <;> rfl), pT HB.out⟩
def impl_RegridTotal_1.f (a0 : Int) (a1 : Int) (a2_0 : Int) (a2_1 : Int) (l2_2 : List Int) (a3_0 : Int) (a4_0 : Int) (a5_0 : Int) : Option (Int) := if a2_0 = 0 then (none) else ((impl_overlapUnits.f a2_0 a3_0 (Int.tmod a4_0 a2_0) a0).bind fun t105 => ((impl_overlapUnits.f a2_1 a5_0 (wrap64 (Int.tdiv a4_0 a2_0)) a1).bind fun t106 => (some (wrap64 (t105 * t106)))))
def impl_RegridTotal_1.T1 : Bool × List (List Nat × List Nat) := (true, [([], []), ([0], [0]), ([], []), ([], []), ([], []), ([4], [4]), ([3, 5], [3, 5]), ([], []), ([1, 2, 6, 7], [1, 2, 6, 7]), ([], []), ([9], [9]), ([], []), ([], []), ([], []), ([13], [13]), ([12, 14], [12, 14]), ([], []), ([10, 11, 15, 16, 8], [10, 11, 15, 16]), ([8, 17], [8, 17]), ([18, 17, 0, 1, 2, 3, 4, 5, 6, 7, 8, 9, 10, 11, 12, 13, 14, 15, 16, 17, 18], [18])])
def impl_RegridTotal_1.B1 : List Nat := [0, 1, 0, 0, 0, 16, 56, 0, 255, 0, 512, 0, 0, 0, 8192, 28672, 0, 131071, 262143, 524287]
theorem impl_RegridTotal_1.tab1 : rtab .any (opsOf Try.f25 1) = impl_RegridTotal_1.T1 := by kernel_rfl
theorem impl_RegridTotal_1.bits1 : waitsOk impl_RegridTotal_1.T1.2 impl_RegridTotal_1.B1 = true := by kernel_rfl
theorem impl_RegridTotal_1.calls (a0 : Int) (a1 : Int) (cb2 : Nat) (a2_0 : Int) (a2_1 : Int) (A2_2 : Option Addr) (c2_2 : Nat) (l2_2 : List Int) (cb3 : Nat) (a3_0 : Int) (cb4 : Nat) (a4_0 : Int) (cb5 : Nat) (a5_0 : Int) (r : Int) (w : World) (hk2 : w.heap[cb2]? = some (.cells #[.int .i64 a2_0, .int .i64 a2_1, .slice A2_2 l2_2.length c2_2] 26 (0, 0))) (hr2_2 : Kd.C (Kd.int .i64) w A2_2 l2_2.length l2_2) (hc2_2 : l2_2.length ≤ c2_2) (hk3 : w.heap[cb3]? = some (.cells #[.int .i64 a3_0] 3 (0, 0))) (hn2_3 : cb2 ≠ cb3) (hk4 : w.heap[cb4]? = some (.cells #[.int .i64 a4_0] 3 (0, 0))) (hn2_4 : cb2 ≠ cb4) (hn3_4 : cb3 ≠ cb4) (hk5 : w.heap[cb5]? = some (.cells #[.int .i64 a5_0] 3 (0, 0))) (hn2_5 : cb2 ≠ cb5) (hn3_5 : cb3 ≠ cb5) (hn4_5 : cb4 ≠ cb5) (h : impl_RegridTotal_1.f a0 a1 a2_0 a2_1 l2_2 a3_0 a4_0 a5_0 = some r) :
  Calls Try.prog 25 #[.int .i64 a0, .int .i64 a1, .pointer (some ⟨cb2, 0, none⟩), .pointer (some ⟨cb3, 0, none⟩), .pointer (some ⟨cb4, 0, none⟩), .pointer (some ⟨cb5, 0, none⟩)] w fun e w' => e = .returned (.int .i64 r) ∧ Below w.heap.size w w' := by
 have HR2_2 := Aside0.mk hr2_2
 have HC2_2 := Aside0.mk hc2_2
 clear hr2_2 hc2_2
 have BK101 := Aside0.mk hk2
 clear hk2
 have BK102 := Aside0.mk hk3
 clear hk3
 have NB101_102 := Aside0.mk hn2_3
 have NB102_101 := aK (Ne.symm hn2_3)
 clear hn2_3
 have BK103 := Aside0.mk hk4
 clear hk4
 have NB101_103 := Aside0.mk hn2_4
 have NB103_101 := aK (Ne.symm hn2_4)
 clear hn2_4
 have NB102_103 := Aside0.mk hn3_4
 have NB103_102 := aK (Ne.symm hn3_4)
 clear hn3_4
 have BK104 := Aside0.mk hk5
 clear hk5
 have NB101_104 := Aside0.mk hn2_5
 have NB104_101 := aK (Ne.symm hn2_5)
 clear hn2_5
 have NB102_104 := Aside0.mk hn3_5
 have NB104_102 := aK (Ne.symm hn3_5)
 clear hn3_5
 have NB103_104 := Aside0.mk hn4_5
 have NB104_103 := aK (Ne.symm hn4_5)
 clear hn4_5
 have HB := aK (Below.refl w.heap.size w)
 have H : (if a2_0 = 0 then (none) else ((impl_overlapUnits.f a2_0 a3_0 (Int.tmod a4_0 a2_0) a0).bind fun t105 => ((impl_overlapUnits.f a2_1 a5_0 (wrap64 (Int.tdiv a4_0 a2_0)) a1).bind fun t106 => (some (wrap64 (t105 * t106)))))) = some r := h
 clear h
 by_cases c7 : a2_0 = 0
 ·
  rw [if_pos c7] at H
  exact absurd H (by simp)
 rw [if_neg c7] at H
 have c7b0 : (a2_0 == 0) = false := beq_eq_false_iff_ne.mpr c7
 have c7b1 : (a2_0 != 0) = true := bne_iff_ne.mpr c7
 replace H := Option.bind_eq_some_iff.mp H
 obtain ⟨t105, A80, H⟩ := H
 replace H : ((impl_overlapUnits.f a2_1 a5_0 (wrap64 (Int.tdiv a4_0 a2_0)) a1).bind fun t106 => (some (wrap64 (t105 * t106)))) = some r := H
 have A8 := Aside0.mk A80
 clear A80
 replace H := Option.bind_eq_some_iff.mp H
 obtain ⟨t106, A90, H⟩ := H
 replace H : (some (wrap64 (t105 * t106))) = some r := H
 have A9 := Aside0.mk A90
 clear A90
 obtain rfl := Option.some.inj H
 go_enter Try.func25, Try.ntmps25
 try go_wp2
 have n0_ := aK (blk_drew BK101.out)
 have n1_ := aK (blk_drew BK102.out)
 have n2_ := aK (blk_drew BK103.out)
 have n3_ := aK (blk_drew BK104.out)
 have n4_ := aK (below_drew1 HB.out)
 clear BK101 BK102 BK103 BK104 HB
 have BK101 := n0_
 have BK102 := n1_
 have BK103 := n2_
 have BK104 := n3_
 have HB := n4_
 clear n0_ n1_ n2_ n3_ n4_
 refine start_ (n := 20) (S := fun w' => w'.cell? ⟨cb2, 0, none⟩ = some (.int .i64 a2_0) ∧ w'.cell? ⟨cb2, 1, none⟩ = some (.int .i64 a2_1) ∧ w'.cell? ⟨cb2, 2, none⟩ = some (.slice A2_2 l2_2.length c2_2) ∧ w'.cell? ⟨cb3, 0, none⟩ = some (.int .i64 a3_0) ∧ w'.cell? ⟨cb4, 0, none⟩ = some (.int .i64 a4_0) ∧ w'.cell? ⟨cb5, 0, none⟩ = some (.int .i64 a5_0)) (ds := []) #[false, false, false, false, false, false, false, false, false, false, false, false, false, false, false, false, false, false, false, false] (by kernel_rfl) rfl rfl (cj3 BK101.out (cj1 BK102.out (cj1 BK103.out (cz1 BK104.out)))) (fun hHeld => ?_); refine with_tabW impl_RegridTotal_1.tab1 impl_RegridTotal_1.bits1 (fun HT_ HW_ => ?_)
 generalize w.drew = w10 at BK101 BK102 BK103 BK104 HB hHeld ⊢
 refine pu (i := 0) (N := some 9) #[true, false, false, false, false, false, false, false, false, false, false, false, false, false, false, false, false, false, false, false] rfl rfl HT_.out ?_
 refine pu (i := 4) (N := some 13) #[true, false, false, false, true, false, false, false, false, false, false, false, false, false, false, false, false, false, false, false] rfl rfl HT_.out ?_
 refine pu (i := 7) (N := some 16) #[true, false, false, false, true, false, false, true, false, false, false, false, false, false, false, false, false, false, false, false] rfl rfl HT_.out ?_
 refine pu (i := 9) (N := some 18) #[true, false, false, false, true, false, false, true, false, true, false, false, false, false, false, false, false, false, false, false] rfl rfl HT_.out ?_
 refine pu (i := 13) (N := some 22) #[true, false, false, false, true, false, false, true, false, true, false, false, false, true, false, false, false, false, false, false] rfl rfl HT_.out ?_
 refine pu (i := 16) (N := some 25) #[true, false, false, false, true, false, false, true, false, true, false, false, false, true, false, false, true, false, false, false] rfl rfl HT_.out ?_
 refine tk (i := 1) (N := some 10) #[true, true, false, false, true, false, false, true, false, true, false, false, false, true, false, false, true, false, false, false] rfl rfl HT_.out HW_.out (Or.inl ⟨by rfl, by rintro w' ⟨s0, s1, s2, s3, s4, s5⟩; go_simp; with_reducible rfl⟩) hHeld ?_
 refine tk (i := 2) (N := some 11) #[true, true, true, false, true, false, false, true, false, true, false, false, false, true, false, false, true, false, false, false] rfl rfl HT_.out HW_.out (Or.inl ⟨by rfl, by rintro w' ⟨s0, s1, s2, s3, s4, s5⟩; go_simp; with_reducible rfl⟩) hHeld ?_
 refine tk (i := 3) (N := some 12) #[true, true, true, true, true, false, false, true, false, true, false, false, false, true, false, false, true, false, false, false] rfl rfl HT_.out HW_.out (Or.inl ⟨by rfl, by rintro w' ⟨s0, s1, s2, s3, s4, s5⟩; go_simp; with_reducible rfl⟩) hHeld ?_
 refine tk (i := 5) (N := some 14) #[true, true, true, true, true, true, false, true, false, true, false, false, false, true, false, false, true, false, false, false] rfl rfl HT_.out HW_.out (Or.inl ⟨by rfl, by rintro w' ⟨s0, s1, s2, s3, s4, s5⟩; go_simp; with_reducible rfl⟩) hHeld ?_
 refine pu (i := 6) (N := some 15) #[true, true, true, true, true, true, true, true, false, true, false, false, false, true, false, false, true, false, false, false] rfl rfl HT_.out ?_
 refine tk (i := 10) (N := some 19) #[true, true, true, true, true, true, true, true, false, true, true, false, false, true, false, false, true, false, false, false] rfl rfl HT_.out HW_.out (Or.inl ⟨by rfl, by rintro w' ⟨s0, s1, s2, s3, s4, s5⟩; go_simp; with_reducible rfl⟩) hHeld ?_
 refine tk (i := 11) (N := some 20) #[true, true, true, true, true, true, true, true, false, true, true, true, false, true, false, false, true, false, false, false] rfl rfl HT_.out HW_.out (Or.inl ⟨by rfl, by rintro w' ⟨s0, s1, s2, s3, s4, s5⟩; go_simp; with_reducible rfl⟩) hHeld ?_
 refine tk (i := 12) (N := some 21) #[true, true, true, true, true, true, true, true, false, true, true, true, true, true, false, false, true, false, false, false] rfl rfl HT_.out HW_.out (Or.inl ⟨by rfl, by rintro w' ⟨s0, s1, s2, s3, s4, s5⟩; go_simp; with_reducible rfl⟩) hHeld ?_
 refine tk (i := 14) (N := some 23) #[true, true, true, true, true, true, true, true, false, true, true, true, true, true, true, false, true, false, false, false] rfl rfl HT_.out HW_.out (Or.inl ⟨by rfl, by rintro w' ⟨s0, s1, s2, s3, s4, s5⟩; go_simp; with_reducible rfl⟩) hHeld ?_
 refine pu (i := 15) (N := some 24) #[true, true, true, true, true, true, true, true, false, true, true, true, true, true, true, true, true, false, false, false] rfl rfl HT_.out ?_
 refine one_ (i := 8) (N := some 17) #[true, true, true, true, true, true, true, true, true, true, true, true, true, true, true, true, true, false, false, false] rfl rfl (one_of HT_.out (by kernel_rfl)) (by decide) (fun K hK => ?_)
 refine goes_ Try.func26 (by kernel_rfl) rfl #[.int .i64 a2_0, .int .i64 a3_0, .int .i64 (Int.tmod a4_0 a2_0), .int .i64 a0] (by rfl) rfl rfl (by (try simp only [List.map_toArray, List.map_cons, List.map_nil]); first | done | rfl | (simp only [List.length_drop, List.length_take]; rfl)) ?_
 with_reducible refine (impl_overlapUnits.calls a2_0 a3_0 (Int.tmod a4_0 a2_0) a0 t105 _ A8.out).mono ?_
 rintro e w11 ⟨rfl, hb⟩
 refine ⟨_, rfl, ?_⟩
 replace BK101 := bB BK101 hb
 replace BK102 := bB BK102 hb
 replace BK103 := bB BK103 hb
 replace BK104 := bB BK104 hb
 replace HB := bS HB hb
 (try clear hb)
 (try clear hb2)
 (try clear hk)
 (try clear hi)
 refine hK.out _ _ (cj3 BK101.out (cj1 BK102.out (cj1 BK103.out (cz1 BK104.out)))) (fun hHeld => ?_)
 clear hK K
 refine norm_ (a' := ?_) ?_ ?_
 rotate_left
 ·
  show Act.put _ (some 17) _ = _
  simp only [sP]
  rfl
 refine one_ (i := 17) (N := some 26) #[true, true, true, true, true, true, true, true, true, true, true, true, true, true, true, true, true, true, false, false] rfl rfl (one_of HT_.out (by kernel_rfl)) (by decide) (fun K hK => ?_)
 refine goes_ Try.func26 (by kernel_rfl) rfl #[.int .i64 a2_1, .int .i64 a5_0, .int .i64 (wrap64 (Int.tdiv a4_0 a2_0)), .int .i64 a1] (by rfl) rfl rfl (by (try simp only [List.map_toArray, List.map_cons, List.map_nil]); first | done | rfl | (simp only [List.length_drop, List.length_take]; rfl)) ?_
 with_reducible refine (impl_overlapUnits.calls a2_1 a5_0 (wrap64 (Int.tdiv a4_0 a2_0)) a1 t106 _ A9.out).mono ?_
 rintro e w12 ⟨rfl, hb⟩
 refine ⟨_, rfl, ?_⟩
 replace BK101 := bB BK101 hb
 replace BK102 := bB BK102 hb
 replace BK103 := bB BK103 hb
 replace BK104 := bB BK104 hb
 replace HB := bS HB hb
 (try clear hb)
 (try clear hb2)
 (try clear hk)
 (try clear hi)
 refine hK.out _ _ (cj3 BK101.out (cj1 BK102.out (cj1 BK103.out (cz1 BK104.out)))) (fun hHeld => ?_)
 clear hK K
 refine norm_ (a' := ?_) ?_ ?_
 rotate_left
 ·
  show Act.put _ (some 26) _ = _
  simp only [sP]
  rfl
 refine pu (i := 18) (N := some 27) #[true, true, true, true, true, true, true, true, true, true, true, true, true, true, true, true, true, true, true, false] rfl rfl HT_.out ?_
 refine pu (i := 19) (N := some 8) #[true, true, true, true, true, true, true, true, true, true, true, true, true, true, true, true, true, true, true, true] rfl rfl HT_.out ?_
 refine done_ (done_of HT_.out (by kernel_rfl)) ?_
 try go_wp2
 go_ret
 exact ⟨er, pT HB.out⟩
end Go.Proofs.Ythlmikigjhgpdaa.P
namespace Go.Proofs.Ythlmikigjhgpdaa.P
open Go.RowKit Go.Proofs.YthlmikigjhgpdaaW.PrintWords Go.Proofs.YthlmikigjhgpdaaW.PrintLast Go.Proofs.YthlmikigjhgpdaaW.PrintMore
attribute [local go_sem] max2_int min2_int max_two min_two max_three min_three max_four min_four Instr.field asAgg
set_option linter.unusedVariables false
set_option linter.unusedSimpArgs false
set_option maxHeartbeats 8000000
set_option maxRecDepth 100000
mutual
def impl_RegridTotal.j0 : Nat → Bool → Int → Int → List Int → Int → Int → Option (Int × Int × List Int × Bool)
 | 0, _, _, _, _, _, _ => none
 | k + 1, x22, x102000, x102001, x102002, x103000, x104000 => if x22 = true then (some (0, 0, ([] : List Int), false)) else ((impl_filled.f x103000 x104000 0).bind fun bt107 => (impl_RegridTotal.l0 k x102002 (x102002.length : Int) 0 x102000 x102001 x102002 x103000 x104000 bt107.1 bt107.2.1 bt107.2.2))
def impl_RegridTotal.l0 : Nat → List Int → Int → Int → Int → Int → List Int → Int → Int → Int → Int → List Int → Option (Int × Int × List Int × Bool)
 | 0, _, _, _, _, _, _, _, _, _, _, _ => none
 | k + 1, x28, x29, x30, x102000, x102001, x102002, x103000, x104000, x113000, x113001, x113002 => if x30 < x29 then (if 0 ≤ x30 then (if x30 < (x28.length : Int) then ((impl_fieldBy_at_mp_mpGi64_i64_i64.f k (fun z0_ z1_ => impl_RegridTotal_1.f z0_ z1_ x102000 x102001 x102002 x103000 x30 x104000) x103000 x104000).bind fun bt121 => ((impl_splitValue.f k (rd x28 x30) bt121.2.2).bind fun t126 => (impl_RegridTotal.l1 k x28 x29 x30 t126 (t126.length : Int) 0 x102000 x102001 x102002 x103000 x104000 x113000 x113001 x113002))) else (none)) else (none)) else ((impl_checkedSums.f k x113000 x113001 x113002).bind fun bt113 => (some (bt113.1, bt113.2.1, bt113.2.2.1, bt113.2.2.2)))
def impl_RegridTotal.l1 : Nat → List Int → Int → Int → List Int → Int → Int → Int → Int → List Int → Int → Int → Int → Int → List Int → Option (Int × Int × List Int × Bool)
 | 0, _, _, _, _, _, _, _, _, _, _, _, _, _, _ => none
 | k + 1, x28, x29, x30, x42, x43, x44, x102000, x102001, x102002, x103000, x104000, x113000, x113001, x113002 => if x44 < x43 then (if 0 ≤ x44 then (if x44 < (x42.length : Int) then (if x44 < (x113002.length : Int) then (impl_RegridTotal.l1 k x28 x29 x30 x42 x43 (wrap64 (x44 + 1)) x102000 x102001 x102002 x103000 x104000 x113000 x113001 (x113002.set (x44 : Int).toNat (wrap64 ((rd x113002 x44) + (rd x42 x44))))) else (none)) else (none)) else (none)) else (impl_RegridTotal.l0 k x28 x29 (wrap64 (x30 + 1)) x102000 x102001 x102002 x103000 x104000 x113000 x113001 x113002)
end
def impl_RegridTotal.f (k : Nat) (a0_0 : Int) (a0_1 : Int) (l0_2 : List Int) (a1 : Int) (a2 : Int) : Option (Int × Int × List Int × Bool) := (impl_isFull.f k a0_0 a0_1 l0_2).bind fun t105 => (if t105 = true then ((impl_isShape.f a1 a2).bind fun t106 => (impl_RegridTotal.j0 k (!t106) a0_0 a0_1 l0_2 a1 a2)) else (impl_RegridTotal.j0 k true a0_0 a0_1 l0_2 a1 a2))
theorem impl_RegridTotal.calls (k : Nat) (a0_0 : Int) (a0_1 : Int) (A0_2 : Option Addr) (c0_2 : Nat) (l0_2 : List Int) (a1 : Int) (a2 : Int) (r1 : Int) (r2 : Int) (r3 : List Int) (r4 : Bool) (w : World) (hr0_2 : Kd.C (Kd.int .i64) w A0_2 l0_2.length l0_2) (hc0_2 : l0_2.length ≤ c0_2) (h : impl_RegridTotal.f k a0_0 a0_1 l0_2 a1 a2 = some (r1, r2, r3, r4)) :
  Calls Try.prog 6 #[.agg #[.int .i64 a0_0, .int .i64 a0_1, .slice A0_2 l0_2.length c0_2], .int .i64 a1, .int .i64 a2] w fun e w' => ∃ v2_ : Value, e = .returned (.tuple #[.agg #[.int .i64 r1, .int .i64 r2, v2_], .bool r4]) ∧ Kd.R (Kd.int .i64) 3 w' w.heap.size (fun _ => True) v2_ r3 ∧ Below w.heap.size w w' := by
 have hu26 := Try.underlying26
 have HR0_2 := Aside0.mk hr0_2
 have HC0_2 := Aside0.mk hc0_2
 clear hr0_2 hc0_2
 have HB := aK (Below.refl w.heap.size w)
 have H : ((impl_isFull.f k a0_0 a0_1 l0_2).bind fun t105 => (if t105 = true then ((impl_isShape.f a1 a2).bind fun t106 => (impl_RegridTotal.j0 k (!t106) a0_0 a0_1 l0_2 a1 a2)) else (impl_RegridTotal.j0 k true a0_0 a0_1 l0_2 a1 a2))) = some (r1, r2, r3, r4) := h
 clear h
 have HC4 := Aside0.mk H
 clear H
 go_enter Try.func6, Try.ntmps6
 go_upto_region 1 with (first | ((with_reducible refine gate_dst (N := 3) rfl ?_); refine bxe (cs := #[.int .i64 a0_0, .int .i64 a0_1, .slice A0_2 l0_2.length c0_2]) (t := 26) ?_; intro gb101 hg w5 hbox hb; have BK101 := aK (hbox); have GW101 := aK (gE hg (pS HB.out)); have GE101 := GW101; replace HB := bS HB hb; clear hb hbox hg) | ((with_reducible refine gate_dst (N := 4) rfl ?_); refine bxe (cs := #[.int .i64 a1]) (t := 3) ?_; intro gb102 hg w6 hbox hb; have BK102 := aK (hbox); have GW102 := aK (gE hg (pS HB.out)); have GE102 := GW102; obtain ⟨NB101_102, NB102_101⟩ := nb hg (pB BK101.out); replace BK101 := bB BK101 hb; replace HB := bS HB hb; clear hb hbox hg) | ((with_reducible refine gate_dst (N := 5) rfl ?_); refine bxe (cs := #[.int .i64 a2]) (t := 3) ?_; intro gb103 hg w7 hbox hb; have BK103 := aK (hbox); have GW103 := aK (gE hg (pS HB.out)); have GE103 := GW103; obtain ⟨NB101_103, NB103_101⟩ := nb hg (pB BK101.out); obtain ⟨NB102_103, NB103_102⟩ := nb hg (pB BK102.out); replace BK101 := bB BK101 hb; replace BK102 := bB BK102 hb; replace HB := bS HB hb; clear hb hbox hg) | ((with_reducible refine gate_dst (N := 6) rfl ?_); refine bxe (cs := #[.int .i64 0, .int .i64 0, .slice none 0 0]) (t := 26) ?_; intro gb104 hg w8 hbox hb; have BK104 := aK (hbox); have GW104 := aK (gE hg (pS HB.out)); have GE104 := GW104; obtain ⟨NB101_104, NB104_101⟩ := nb hg (pB BK101.out); obtain ⟨NB102_104, NB104_102⟩ := nb hg (pB BK102.out); obtain ⟨NB103_104, NB104_103⟩ := nb hg (pB BK103.out); replace BK101 := bB BK101 hb; replace BK102 := bB BK102 hb; replace BK103 := bB BK103 hb; replace HB := bS HB hb; clear hb hbox hg))
 (try simp only [Act.put, List.setIfInBounds_toArray, List.set_cons_zero, List.set_cons_succ])
 go_cut [22] (fun v22 wc => ∃ (kq : Nat) (x22_3 : Bool), v22 = .bool x22_3 ∧ Aside0 (impl_RegridTotal.j0 kq x22_3 a0_0 a0_1 l0_2 a1 a2 = some (r1, r2, r3, r4)) ∧ Aside0 (kq ≤ k) ∧ Aside0 (wc.heap[gb101]? = some (.cells #[.int .i64 a0_0, .int .i64 a0_1, (.slice A0_2 l0_2.length c0_2)] 26 (0, 0))) ∧ Aside0 (wc.heap[gb102]? = some (.cells #[.int .i64 a1] 3 (0, 0))) ∧ Aside0 (wc.heap[gb103]? = some (.cells #[.int .i64 a2] 3 (0, 0))) ∧ Aside0 (wc.heap[gb104]? = some (.cells #[.int .i64 0, .int .i64 0, (.slice none 0 0)] 26 (0, 0))) ∧ Aside0 (Below w.heap.size w wc))
 case first =>
  have H := HC4.out; clear HC4; replace H := Option.bind_eq_some_iff.mp H; obtain ⟨t105, A90, H⟩ := H
  replace H : (if t105 = true then ((impl_isShape.f a1 a2).bind fun t106 => (impl_RegridTotal.j0 k (!t106) a0_0 a0_1 l0_2 a1 a2)) else (impl_RegridTotal.j0 k true a0_0 a0_1 l0_2 a1 a2)) = some (r1, r2, r3, r4) := H
  have A9 := Aside0.mk A90; clear A90
  by_cases c10 : t105 = true
  ·
   subst c10
   have H1 : ((impl_isShape.f a1 a2).bind fun t106 => (impl_RegridTotal.j0 k (!t106) a0_0 a0_1 l0_2 a1 a2)) = some (r1, r2, r3, r4) := by rw [if_pos rfl] at H; exact H
   clear H; have H := H1; clear H1; replace H := Option.bind_eq_some_iff.mp H; obtain ⟨t106, A110, H⟩ := H
   replace H : (impl_RegridTotal.j0 k (!t106) a0_0 a0_1 l0_2 a1 a2) = some (r1, r2, r3, r4) := H
   have A11 := Aside0.mk A110; clear A110; have H' := Aside0.mk H; clear H; have hnb12 := NB101_102.out; have hnc12 := NB102_101.out; have hnb13 := NB101_103.out; have hnc13 := NB103_101.out; have hnb14 := NB101_104.out; have hnc14 := NB104_101.out; obtain ⟨hcz15_0, hcz15_1, hcz15_2, hfz15_0, hfz15_1, hfz15_2⟩ := bc3 BK101.out
   go_wp2_with (first | ((with_reducible refine gate_callee (f := 21) rfl ?_); refine gl (some 15) Try.func21 #[.agg #[.int .i64 a0_0, .int .i64 a0_1, .slice A0_2 l0_2.length c0_2]] ?_; (with_reducible refine (impl_isFull.calls k a0_0 a0_1 _ _ l0_2 true _ ?side1 ?side2 A9.out).mono ?_); (case side1 => exact pC (Kd.C_below HR0_2.out HB.out)); (case side2 => exact HC0_2.out); rintro e w16 ⟨rfl, hb⟩; refine ⟨_, rfl, ?_⟩; replace BK101 := bB BK101 hb; replace BK102 := bB BK102 hb; replace BK103 := bB BK103 hb; replace BK104 := bB BK104 hb; replace HB := bS HB hb; (try clear hb); have hnb17 := NB102_103.out; have hnc17 := NB103_102.out; have hnb18 := NB102_104.out; have hnc18 := NB104_102.out; obtain ⟨hcz19_0, hfz19_0⟩ := bc1 BK102.out; have hnb20 := NB103_104.out; have hnc20 := NB104_103.out; obtain ⟨hcz21_0, hfz21_0⟩ := bc1 BK103.out) | (go_at_call 22; (with_reducible refine (impl_isShape.calls a1 a2 t106 _ A11.out).mono ?_); rintro e w' ⟨rfl, ⟨nd, rfl⟩⟩))
   go_meet
   case rel => exact ⟨_, (!t106), (by first | rfl | (simp; done) | (simp [*]; done)), H', ⟨by first | omega | exact Nat.le_refl _⟩, ⟨by refine bk ?_; exact BK101.out⟩, ⟨by refine bk ?_; exact BK102.out⟩, ⟨by refine bk ?_; exact BK103.out⟩, ⟨by refine bk ?_; exact BK104.out⟩, ⟨pT HB.out⟩⟩
  replace c10 := Bool.eq_false_iff.mpr c10; subst c10
  have H1 : (impl_RegridTotal.j0 k true a0_0 a0_1 l0_2 a1 a2) = some (r1, r2, r3, r4) := by rw [if_neg (show ¬ (false = true) by decide)] at H; exact H
  clear H; have H := H1; clear H1; have H' := Aside0.mk H; clear H; have hnb22 := NB101_102.out; have hnc22 := NB102_101.out; have hnb23 := NB101_103.out; have hnc23 := NB103_101.out; have hnb24 := NB101_104.out; have hnc24 := NB104_101.out; obtain ⟨hcz25_0, hcz25_1, hcz25_2, hfz25_0, hfz25_1, hfz25_2⟩ := bc3 BK101.out
  go_wp2_with (first | ((with_reducible refine gate_callee (f := 21) rfl ?_); refine gl (some 15) Try.func21 #[.agg #[.int .i64 a0_0, .int .i64 a0_1, .slice A0_2 l0_2.length c0_2]] ?_; (with_reducible refine (impl_isFull.calls k a0_0 a0_1 _ _ l0_2 false _ ?side1 ?side2 A9.out).mono ?_); (case side1 => exact pC (Kd.C_below HR0_2.out HB.out)); (case side2 => exact HC0_2.out); rintro e w26 ⟨rfl, hb⟩; refine ⟨_, rfl, ?_⟩; replace BK101 := bB BK101 hb; replace BK102 := bB BK102 hb; replace BK103 := bB BK103 hb; replace BK104 := bB BK104 hb; replace HB := bS HB hb; (try clear hb)))
  go_meet
  case rel => exact ⟨_, (true), (by first | rfl | (simp; done) | (simp [*]; done)), H', ⟨by first | omega | exact Nat.le_refl _⟩, ⟨by refine bk ?_; exact BK101.out⟩, ⟨by refine bk ?_; exact BK102.out⟩, ⟨by refine bk ?_; exact BK103.out⟩, ⟨by refine bk ?_; exact BK104.out⟩, ⟨pT HB.out⟩⟩
 case rest =>
  clear HC4; obtain ⟨kq, x22_3, rfl, HA, HJ3, BK101, BK102, BK103, BK104, HB⟩ := hcut
  cases kq with
  | zero => exact absurd HA.out (by simp [impl_RegridTotal.j0])
  | succ kj3 =>
   have H := HA.out; clear HA
   simp only [impl_RegridTotal.j0] at H
   by_cases c27 : x22_3 = true
   ·
    subst c27
    have H1 : (some (0, 0, ([] : List Int), false)) = some (r1, r2, r3, r4) := by rw [if_pos rfl] at H; exact H
    clear H; have H := H1; clear H1
    simp only [Option.some.injEq, Prod.mk.injEq] at H
    obtain ⟨rfl, rfl, rfl, rfl⟩ := H; have hnb28 := NB104_101.out; have hnc28 := NB101_104.out; have hnb29 := NB104_102.out; have hnc29 := NB102_104.out; have hnb30 := NB104_103.out; have hnc30 := NB103_104.out; obtain ⟨hcz31_0, hcz31_1, hcz31_2, hfz31_0, hfz31_1, hfz31_2⟩ := bc3 BK104.out
    go_wp2
    refine bodyPost_ret (results_ct rfl _ _ gb104 26 #[.int .i64 0, .int .i64 0, .slice none 0 0] (0, 0) _ rfl (by refine bk ?_; refine blk_put (cs := #[.int .i64 0, .int .i64 0, .slice none 0 0]) ?_ 2 _ rfl; refine bk ?_; refine blk_put (cs := #[.int .i64 0, .int .i64 0, .slice none 0 0]) ?_ 1 _ rfl; refine bk ?_; refine blk_put (cs := #[.int .i64 0, .int .i64 0, .slice none 0 0]) ?_ 0 _ rfl; refine bk ?_; exact BK104.out) Try.underlying26 rfl (by kernel_rfl)) rfl ?_
    exact ⟨_, er, by first | exact Kd.R_nil _ _ _ _ _ | exact Kd.N_nil _ _ _ _ _ | exact Kd.V_nil _ _ _ _ _ | exact Kd.Q_nil _ _ _ _ _ | exact Kd.S_nil _ _ _ _ _, pT HB.out⟩
   replace c27 := Bool.eq_false_iff.mpr c27; subst c27
   have H1 : ((impl_filled.f a1 a2 0).bind fun bt107 => (impl_RegridTotal.l0 kj3 l0_2 (l0_2.length : Int) 0 a0_0 a0_1 l0_2 a1 a2 bt107.1 bt107.2.1 bt107.2.2)) = some (r1, r2, r3, r4) := by rw [if_neg (show ¬ (false = true) by decide)] at H; exact H
   clear H; have H := H1; clear H1; replace H := Option.bind_eq_some_iff.mp H
   obtain ⟨⟨t107, t108, t109⟩, A320, H⟩ := H
   replace H : (impl_RegridTotal.l0 kj3 l0_2 (l0_2.length : Int) 0 a0_0 a0_1 l0_2 a1 a2 t107 t108 t109) = some (r1, r2, r3, r4) := H
   have A32 := Aside0.mk A320; clear A320; have H' := Aside0.mk H; clear H; have hnb33 := NB102_101.out; have hnc33 := NB101_102.out; have hnb34 := NB102_103.out; have hnc34 := NB103_102.out; have hnb35 := NB102_104.out; have hnc35 := NB104_102.out; obtain ⟨hcz36_0, hfz36_0⟩ := bc1 BK102.out; have hnb37 := NB103_101.out; have hnc37 := NB101_103.out; have hnb38 := NB103_104.out; have hnc38 := NB104_103.out; obtain ⟨hcz39_0, hfz39_0⟩ := bc1 BK103.out
   go_wp2_with (first | ((with_reducible refine gate_callee (f := 23) rfl ?_); refine gl (some 26) Try.func23 #[.int .i64 a1, .int .i64 a2, .int .i64 0] ?_; (with_reducible refine (impl_filled.calls a1 a2 0 t107 t108 t109 _ A32.out).mono ?_); rintro e w40 ⟨v110, rfl, ho0, hb⟩; refine ⟨_, rfl, ?_⟩; have HO111 := aK (Kd.R_lower (Kd.R_newB (Kd.R_newB ho0 (g := gb102) (o := .cells #[.int .i64 a1] 3 (0, 0)) (pB BK102.out)) (g := gb103) (o := .cells #[.int .i64 a2] 3 (0, 0)) (pB BK103.out)) (below_size (pS HB.out))); replace BK101 := bB BK101 hb; replace BK102 := bB BK102 hb; replace BK103 := bB BK103 hb; replace BK104 := bB BK104 hb; replace HB := bS HB hb; (try clear hb); (try clear ho0)) | ((with_reducible refine gate_dst (N := 8) rfl ?_); refine bxe (cs := #[.int .i64 0, .int .i64 0, .slice none 0 0]) (t := 26) ?_; intro gb112 hg w41 hbox hb; have n0_ := aK (Kd.R_below (pR HO111.out) hb); have BK112 := aK (hbox); have GW112 := aK (gE hg (pS HB.out)); have GE112 := GW112; obtain ⟨NB101_112, NB112_101⟩ := nb hg (pB BK101.out); obtain ⟨NB102_112, NB112_102⟩ := nb hg (pB BK102.out); obtain ⟨NB103_112, NB112_103⟩ := nb hg (pB BK103.out); obtain ⟨NB104_112, NB112_104⟩ := nb hg (pB BK104.out); replace BK101 := bB BK101 hb; replace BK102 := bB BK102 hb; replace BK103 := bB BK103 hb; replace BK104 := bB BK104 hb; replace HB := bS HB hb; clear HO111; have HO111 := n0_; clear n0_ hb hbox hg; have hnb42 := NB112_101.out; have hnc42 := NB101_112.out; have hnb43 := NB112_102.out; have hnc43 := NB102_112.out; have hnb44 := NB112_103.out; have hnc44 := NB103_112.out; have hnb45 := NB112_104.out; have hnc45 := NB104_112.out; obtain ⟨hcz46_0, hcz46_1, hcz46_2, hfz46_0, hfz46_1, hfz46_2⟩ := bc3 BK112.out; obtain ⟨Ao47, co47, eo47⟩ := Kd.R_slice HO111.out; subst eo47; have hnb48 := NB101_104.out; have hnc48 := NB104_101.out; obtain ⟨hcz49_0, hcz49_1, hcz49_2, hfz49_0, hfz49_1, hfz49_2⟩ := bc3 BK101.out))
   go_loopg [30] kj3 (fun kq v30 w' => ∃ (x30_2 : Int) (x113002_2 : List Int) (u113002 : Value), v30 = .int .i64 x30_2 ∧ Aside0 (impl_RegridTotal.l0 kq l0_2 (l0_2.length : Int) x30_2 a0_0 a0_1 l0_2 a1 a2 t107 t108 x113002_2 = some (r1, r2, r3, r4)) ∧ Aside0 (kq ≤ kj3) ∧ Aside0 (Kd.R (Kd.int .i64) 3 w' w.heap.size (fun k_ => k_ ≠ gb102 ∧ k_ ≠ gb103) u113002 x113002_2) ∧ Aside0 (w'.heap[gb101]? = some (.cells #[.int .i64 a0_0, .int .i64 a0_1, (.slice A0_2 l0_2.length c0_2)] 26 (0, 0))) ∧ Aside0 (w'.heap[gb102]? = some (.cells #[.int .i64 a1] 3 (0, 0))) ∧ Aside0 (w'.heap[gb103]? = some (.cells #[.int .i64 a2] 3 (0, 0))) ∧ Aside0 (w'.heap[gb104]? = some (.cells #[.int .i64 0, .int .i64 0, (.slice none 0 0)] 26 (0, 0))) ∧ Aside0 (w'.heap[gb112]? = some (.cells #[.int .i64 t107, .int .i64 t108, u113002] 26 (0, 0))) ∧ Aside0 (Below w.heap.size w w'))
   case atStart => exact ⟨(0), (t109), (.slice Ao47 t109.length co47), (by first | rfl | (simp; done) | (simp [*]; done)), H', ⟨Nat.le_refl _⟩, ⟨pR (Kd.R_mono (rF3 HO111.out BK112.out (.int .i64 t107) (.int .i64 t108) (.slice Ao47 t109.length co47)) (fun _ h => ⟨h.1.2, h.2⟩))⟩, ⟨by refine bk ?_; refine blk_far ?_ NB101_112.out _; refine bk ?_; refine blk_far ?_ NB101_112.out _; refine bk ?_; refine blk_far ?_ NB101_112.out _; refine bk ?_; exact BK101.out⟩, ⟨by refine bk ?_; refine blk_far ?_ NB102_112.out _; refine bk ?_; refine blk_far ?_ NB102_112.out _; refine bk ?_; refine blk_far ?_ NB102_112.out _; refine bk ?_; exact BK102.out⟩, ⟨by refine bk ?_; refine blk_far ?_ NB103_112.out _; refine bk ?_; refine blk_far ?_ NB103_112.out _; refine bk ?_; refine blk_far ?_ NB103_112.out _; refine bk ?_; exact BK103.out⟩, ⟨by refine bk ?_; refine blk_far ?_ NB104_112.out _; refine bk ?_; refine blk_far ?_ NB104_112.out _; refine bk ?_; refine blk_far ?_ NB104_112.out _; refine bk ?_; exact BK104.out⟩, ⟨by refine bk ?_; refine blk_put (cs := #[.int .i64 t107, .int .i64 t108, .slice none 0 0]) ?_ 2 _ rfl; refine bk ?_; refine blk_put (cs := #[.int .i64 t107, .int .i64 0, .slice none 0 0]) ?_ 1 _ rfl; refine bk ?_; refine blk_put (cs := #[.int .i64 0, .int .i64 0, .slice none 0 0]) ?_ 0 _ rfl; refine bk ?_; exact BK112.out⟩, ⟨pT HB.out⟩⟩
   case round =>
    clear H'
    try clear hcz36_0
    try clear hcz39_0
    try clear hcz46_0
    try clear hcz46_1
    try clear hcz46_2
    try clear hcz49_0
    try clear hcz49_1
    try clear hcz49_2
    try clear hfz36_0
    try clear hfz39_0
    try clear hfz46_0
    try clear hfz46_1
    try clear hfz46_2
    try clear hfz49_0
    try clear hfz49_1
    try clear hfz49_2
    obtain ⟨x30_2, x113002_2, u113002, rfl, HA, HK2, HO_113002, BK101, BK102, BK103, BK104, BK112, HB⟩ := hrel
    cases gk with
    | zero => exact absurd HA.out (by simp [impl_RegridTotal.l0])
    | succ k2 =>
     have H := HA.out; clear HA
     simp only [impl_RegridTotal.l0] at H
     by_cases c50 : x30_2 < (l0_2.length : Int)
     ·
      rw [if_pos c50] at H
      have c50b0 : decide (x30_2 < (l0_2.length : Int)) = true := decide_eq_true c50
      clear c50
      by_cases c51 : 0 ≤ x30_2
      ·
       rw [if_pos c51] at H
       have c51b0 : decide (0 ≤ x30_2) = true := decide_eq_true c51
       clear c51
       by_cases c52 : x30_2 < (l0_2.length : Int)
       ·
        rw [if_pos c52] at H
        have c52b0 : decide (x30_2 < (l0_2.length : Int)) = true := decide_eq_true c52
        clear c52; replace H := Option.bind_eq_some_iff.mp H
        obtain ⟨⟨t121, t122, t123⟩, A530, H⟩ := H
        replace H : ((impl_splitValue.f k2 (rd l0_2 x30_2) t123).bind fun t126 => (impl_RegridTotal.l1 k2 l0_2 (l0_2.length : Int) x30_2 t126 (t126.length : Int) 0 a0_0 a0_1 l0_2 a1 a2 t107 t108 x113002_2)) = some (r1, r2, r3, r4) := H
        have A53 := Aside0.mk A530; clear A530; replace H := Option.bind_eq_some_iff.mp H; obtain ⟨t126, A540, H⟩ := H
        replace H : (impl_RegridTotal.l1 k2 l0_2 (l0_2.length : Int) x30_2 t126 (t126.length : Int) 0 a0_0 a0_1 l0_2 a1 a2 t107 t108 x113002_2) = some (r1, r2, r3, r4) := H
        have A54 := Aside0.mk A540; clear A540; have H' := Aside0.mk H; clear H
        have p119 : 0 ≤ (x30_2 : Int) := of_decide_eq_true (by first | (with_reducible assumption) | assumption)
        have q119 : x30_2 < (l0_2.length : Int) := of_decide_eq_true (by first | (with_reducible assumption) | assumption)
        obtain ⟨ad119, e119, hx119_0⟩ := Kd.at_int HR0_2.out x30_2 p119 q119; cases e119; replace hx119_0 := (HB.out.cell (World.block_lt_of_cell? w _ hx119_0)).trans hx119_0; replace p119 := eq_true p119; replace q119 := eq_true q119
        go_wp2_with (first | ((with_reducible refine gate_dst (N := 9) rfl ?_); refine bxe (cs := #[.int .i64 0]) (t := 3) ?_; intro gb120 hg w55 hbox hb; have n0_ := aK (Kd.R_below (Kd.R_elderB (pR HO_113002.out) gb120 (Nat.le_of_eq hg.symm)) hb); have BK120 := aK (hbox); have GW120 := aK (gE hg (pS HB.out)); have GE120 := GW120; obtain ⟨NB101_120, NB120_101⟩ := nb hg (pB BK101.out); obtain ⟨NB102_120, NB120_102⟩ := nb hg (pB BK102.out); obtain ⟨NB103_120, NB120_103⟩ := nb hg (pB BK103.out); obtain ⟨NB104_120, NB120_104⟩ := nb hg (pB BK104.out); obtain ⟨NB112_120, NB120_112⟩ := nb hg (pB BK112.out); replace BK101 := bB BK101 hb; replace BK102 := bB BK102 hb; replace BK103 := bB BK103 hb; replace BK104 := bB BK104 hb; replace BK112 := bB BK112 hb; replace HB := bS HB hb; clear HO_113002; have HO_113002 := n0_; clear n0_ hb hbox hg; have hnb56 := NB120_101.out; have hnc56 := NB101_120.out; have hnb57 := NB120_102.out; have hnc57 := NB102_120.out; have hnb58 := NB120_103.out; have hnc58 := NB103_120.out; have hnb59 := NB120_104.out; have hnc59 := NB104_120.out; have hnb60 := NB120_112.out; have hnc60 := NB112_120.out; obtain ⟨hcz61_0, hfz61_0⟩ := bc1 BK120.out; have hnb62 := NB102_101.out; have hnc62 := NB101_102.out; have hnb63 := NB102_103.out; have hnc63 := NB103_102.out; have hnb64 := NB102_104.out; have hnc64 := NB104_102.out; have hnb65 := NB102_112.out; have hnc65 := NB112_102.out; obtain ⟨hcz66_0, hfz66_0⟩ := bc1 BK102.out; have hnb67 := NB103_101.out; have hnc67 := NB101_103.out; have hnb68 := NB103_104.out; have hnc68 := NB104_103.out; have hnb69 := NB103_112.out; have hnc69 := NB112_103.out; obtain ⟨hcz70_0, hfz70_0⟩ := bc1 BK103.out) | ((with_reducible refine gate_callee (f := 24) rfl ?_); refine gl (some 38) Try.func24 #[.int .i64 a1, .int .i64 a2, .func (.func 25) #[] #[.pointer (some ⟨gb101, 0, none⟩), .pointer (some ⟨gb102, 0, none⟩), .pointer (some ⟨gb120, 0, none⟩), .pointer (some ⟨gb103, 0, none⟩)]] ?_; (with_reducible refine (impl_fieldBy_at_mp_mpGi64_i64_i64.calls (fun z0_ z1_ => impl_RegridTotal_1.f z0_ z1_ a0_0 a0_1 l0_2 a1 x30_2 a2) 25 #[.pointer (some ⟨gb101, 0, none⟩), .pointer (some ⟨gb102, 0, none⟩), .pointer (some ⟨gb120, 0, none⟩), .pointer (some ⟨gb103, 0, none⟩)] k2 a1 a2  t121 t122 t123 _ ?side1 ?side2 A53.out).mono ?_); (case side1 => exact fun args_ w_ => enters_ Try.func25 (by kernel_rfl) rfl args_ w_); (case side2 => intro z0_ z1_ r_ W_ hz_ hB_; refine (impl_RegridTotal_1.calls z0_ z1_ gb101 a0_0 a0_1 _ _ l0_2 gb102 a1 gb120 x30_2 gb103 a2 r_ W_ (blk_below (g := gb101) (o := .cells #[.int .i64 a0_0, .int .i64 a0_1, .slice (some ad119) l0_2.length c0_2] 26 (0, 0)) (by refine bk ?_; refine blk_far ?_ NB101_120.out _; refine bk ?_; exact BK101.out) hB_) (Kd.C_below (by exact Kd.C_below HR0_2.out (pS HB.out)) hB_) (by exact HC0_2.out) (blk_below (g := gb102) (o := .cells #[.int .i64 a1] 3 (0, 0)) (by refine bk ?_; refine blk_far ?_ NB102_120.out _; refine bk ?_; exact BK102.out) hB_) NB101_102.out (blk_below (g := gb120) (o := .cells #[.int .i64 x30_2] 3 (0, 0)) (by refine bk ?_; refine blk_put (cs := #[.int .i64 0]) ?_ 0 _ rfl; refine bk ?_; exact BK120.out) hB_) NB101_120.out NB102_120.out (blk_below (g := gb103) (o := .cells #[.int .i64 a2] 3 (0, 0)) (by refine bk ?_; refine blk_far ?_ NB103_120.out _; refine bk ?_; exact BK103.out) hB_) NB101_103.out NB102_103.out NB120_103.out hz_).mono ?_; rintro e_ w_ ⟨rfl, hd_⟩; exact ⟨rfl, hd_⟩); rintro e w71 ⟨v124, rfl, ho0, hb⟩; refine ⟨_, rfl, ?_⟩; have e1_ := aR hb (pR ((Kd.R_mono (Kd.R_far (p := ⟨gb120, 0, none⟩) (Kd.R_mono HO_113002.out (fun k_ hk => (⟨hk, hk.2⟩ : _ ∧ k_ ≠ gb120))) (fun _ hk => hk.2) (.int .i64 x30_2)) (fun _ h_ => h_.1)))); have n0_ := aK (Kd.R_elder' e1_.out (Kd.R_base ho0) hb); have HO125 := aK (Kd.R_lower (Kd.R_newB (Kd.R_newB (Kd.R_newB (nw1 ho0 e1_.out) (g := gb102) (o := .cells #[.int .i64 a1] 3 (0, 0)) (by refine bk ?_; refine blk_far ?_ NB102_120.out _; refine bk ?_; exact BK102.out)) (g := gb103) (o := .cells #[.int .i64 a2] 3 (0, 0)) (by refine bk ?_; refine blk_far ?_ NB103_120.out _; refine bk ?_; exact BK103.out)) (g := gb120) (o := .cells #[.int .i64 x30_2] 3 (0, 0)) (by refine bk ?_; refine blk_put (cs := #[.int .i64 0]) ?_ 0 _ rfl; refine bk ?_; exact BK120.out)) (below_size (pS HB.out))); clear e1_; have n2_ := aK (blk_below (g := gb101) (o := .cells #[.int .i64 a0_0, .int .i64 a0_1, .slice (some ad119) l0_2.length c0_2] 26 (0, 0)) (by refine bk ?_; refine blk_far ?_ NB101_120.out _; refine bk ?_; exact BK101.out) hb); have n3_ := aK (blk_below (g := gb102) (o := .cells #[.int .i64 a1] 3 (0, 0)) (by refine bk ?_; refine blk_far ?_ NB102_120.out _; refine bk ?_; exact BK102.out) hb); have n4_ := aK (blk_below (g := gb103) (o := .cells #[.int .i64 a2] 3 (0, 0)) (by refine bk ?_; refine blk_far ?_ NB103_120.out _; refine bk ?_; exact BK103.out) hb); have n5_ := aK (blk_below (g := gb104) (o := .cells #[.int .i64 0, .int .i64 0, .slice none 0 0] 26 (0, 0)) (by refine bk ?_; refine blk_far ?_ NB104_120.out _; refine bk ?_; exact BK104.out) hb); have n6_ := aK (blk_below (g := gb112) (o := .cells #[.int .i64 t107, .int .i64 t108, u113002] 26 (0, 0)) (by refine bk ?_; refine blk_far ?_ NB112_120.out _; refine bk ?_; exact BK112.out) hb); have n7_ := aK (blk_below (g := gb120) (o := .cells #[.int .i64 x30_2] 3 (0, 0)) (by refine bk ?_; refine blk_put (cs := #[.int .i64 0]) ?_ 0 _ rfl; refine bk ?_; exact BK120.out) hb); replace HB := bS HB hb; clear HO_113002 BK101 BK102 BK103 BK104 BK112 BK120; have HO_113002 := n0_; have BK101 := n2_; have BK102 := n3_; have BK103 := n4_; have BK104 := n5_; have BK112 := n6_; have BK120 := n7_; clear n0_ n2_ n3_ n4_ n5_ n6_ n7_; (try clear hb); (try clear ho0); obtain ⟨Ao72, co72, eo72⟩ := Kd.R_slice HO125.out; subst eo72) | ((with_reducible refine gate_callee (f := 27) rfl ?_); refine gl (some 42) Try.func27 #[.int .i64 (rd l0_2 x30_2), .slice Ao72 t123.length co72] ?_; (with_reducible refine (impl_splitValue.calls k2 (rd l0_2 x30_2) _ _ t123 t126 _ ?side1 ?side2 A54.out).mono ?_); (case side1 => exact pC (Kd.R_reads' HO125.out).2.2); (case side2 => exact (Kd.R_reads' HO125.out).2.1); rintro e w73 ⟨v127, rfl, ho0, hb⟩; refine ⟨_, rfl, ?_⟩; have n0_ := aK (Kd.R_elder' (pR HO_113002.out) (Kd.R_base ho0) hb); have n1_ := aK (Kd.R_elder' (pR HO125.out) (Kd.R_base ho0) hb); have HO128 := aK (Kd.R_lower (Kd.R_newB (Kd.R_newB (Kd.R_newB (nw2 ho0 (pR HO_113002.out) (pR HO125.out)) (g := gb102) (o := .cells #[.int .i64 a1] 3 (0, 0)) (pB BK102.out)) (g := gb103) (o := .cells #[.int .i64 a2] 3 (0, 0)) (pB BK103.out)) (g := gb120) (o := .cells #[.int .i64 x30_2] 3 (0, 0)) (pB BK120.out)) (below_size (pS HB.out))); replace BK101 := bB BK101 hb; replace BK102 := bB BK102 hb; replace BK103 := bB BK103 hb; replace BK104 := bB BK104 hb; replace BK112 := bB BK112 hb; replace BK120 := bB BK120 hb; replace HB := bS HB hb; clear HO_113002 HO125; have HO_113002 := n0_; have HO125 := n1_; clear n0_ n1_; (try clear hb); (try clear ho0); obtain ⟨Ao74, co74, eo74⟩ := Kd.R_slice HO128.out; subst eo74))
        go_loopg [44] k2 (fun kq v44 w' => ∃ (x42_3 : List Int) (x44_3 : Int) (x113002_3 : List Int) (u113002 : Value), v44 = .int .i64 x44_3 ∧ Aside0 (impl_RegridTotal.l1 kq l0_2 (l0_2.length : Int) x30_2 x42_3 (t126.length : Int) x44_3 a0_0 a0_1 l0_2 a1 a2 t107 t108 x113002_3 = some (r1, r2, r3, r4)) ∧ Aside0 (kq ≤ k2) ∧ Aside0 (Kd.R (Kd.int .i64) 3 w' w.heap.size (fun k_ => some k_ ≠ (u113002 : Value).ownBlock ∧ k_ ≠ gb102 ∧ k_ ≠ gb103 ∧ k_ ≠ gb120) (.slice Ao74 t126.length co74) x42_3) ∧ Aside0 (Kd.R (Kd.int .i64) 3 w' w.heap.size (fun k_ => some k_ ≠ ((.slice Ao74 t126.length co74) : Value).ownBlock ∧ k_ ≠ gb102 ∧ k_ ≠ gb103 ∧ k_ ≠ gb120) u113002 x113002_3) ∧ Aside0 (w'.heap[gb101]? = some (.cells #[.int .i64 a0_0, .int .i64 a0_1, (.slice (some ad119) l0_2.length c0_2)] 26 (0, 0))) ∧ Aside0 (w'.heap[gb102]? = some (.cells #[.int .i64 a1] 3 (0, 0))) ∧ Aside0 (w'.heap[gb103]? = some (.cells #[.int .i64 a2] 3 (0, 0))) ∧ Aside0 (w'.heap[gb104]? = some (.cells #[.int .i64 0, .int .i64 0, (.slice none 0 0)] 26 (0, 0))) ∧ Aside0 (w'.heap[gb112]? = some (.cells #[.int .i64 t107, .int .i64 t108, u113002] 26 (0, 0))) ∧ Aside0 (w'.heap[gb120]? = some (.cells #[.int .i64 x30_2] 3 (0, 0))) ∧ Aside0 (Below w.heap.size w w'))
        case atStart => exact ⟨(t126), (0), (x113002_2), (u113002), (by first | rfl | (simp; done) | (simp [*]; done)), H', ⟨Nat.le_refl _⟩, ⟨pR (rP HO128.out)⟩, ⟨pR (rP HO_113002.out)⟩, ⟨by refine bk ?_; exact BK101.out⟩, ⟨by refine bk ?_; exact BK102.out⟩, ⟨by refine bk ?_; exact BK103.out⟩, ⟨by refine bk ?_; exact BK104.out⟩, ⟨by refine bk ?_; exact BK112.out⟩, ⟨by refine bk ?_; exact BK120.out⟩, ⟨pT HB.out⟩⟩
        case round =>
         clear H'
         try clear c50b0
         try clear c51b0
         try clear c52b0
         try clear hcz61_0
         try clear hcz66_0
         try clear hcz70_0
         try clear hfz61_0
         try clear hfz66_0
         try clear hfz70_0
         try clear hx119_0
         try clear p119
         try clear q119
         obtain ⟨x42_3, x44_3, x113002_3, u113002, rfl, HA, HK3, HO_42, HO_113002, BK101, BK102, BK103, BK104, BK112, BK120, HB⟩ := hrel; have hl42_3 := (Kd.R_reads' HO_42.out).1; rw [hl42_3] at HO_42
         (try simp only [hl42_3])
         (try simp only [hl42_3] at BK101)
         (try simp only [hl42_3] at BK102)
         (try simp only [hl42_3] at BK103)
         (try simp only [hl42_3] at BK104)
         (try simp only [hl42_3] at BK112)
         (try simp only [hl42_3] at BK120)
         (try simp only [hl42_3] at HO_113002)
         cases gk with
         | zero => exact absurd HA.out (by simp [impl_RegridTotal.l1])
         | succ k3 =>
          have H := HA.out; clear HA
          simp only [impl_RegridTotal.l1] at H
          by_cases c75 : x44_3 < (t126.length : Int)
          ·
           rw [if_pos c75] at H
           have c75b0 : decide (x44_3 < (t126.length : Int)) = true := decide_eq_true c75
           clear c75
           by_cases c76 : 0 ≤ x44_3
           ·
            rw [if_pos c76] at H
            have c76b0 : decide (0 ≤ x44_3) = true := decide_eq_true c76
            clear c76
            by_cases c77 : x44_3 < (x42_3.length : Int)
            ·
             rw [if_pos c77] at H
             have c77b0 : decide (x44_3 < (x42_3.length : Int)) = true := decide_eq_true c77
             clear c77
             by_cases c78 : x44_3 < (x113002_3.length : Int)
             ·
              rw [if_pos c78] at H
              have c78b0 : decide (x44_3 < (x113002_3.length : Int)) = true := decide_eq_true c78
              clear c78
              obtain ⟨y131, hy131⟩ : ∃ y_ : List Int, y_ = (x113002_3.set (x44_3 : Int).toNat (wrap64 ((rd x113002_3 x44_3) + (rd x42_3 x44_3)))) := ⟨_, rfl⟩
              replace H : (impl_RegridTotal.l1 k3 l0_2 (l0_2.length : Int) x30_2 x42_3 (t126.length : Int) (wrap64 (x44_3 + 1)) a0_0 a0_1 l0_2 a1 a2 t107 t108 y131) = some (r1, r2, r3, r4) := by first | (rw [hy131]; with_reducible exact H) | (have H2_ := (Option.bind_some _ _).symm.trans H; rw [hy131]; with_reducible exact H2_) | (have H2_ := (Option.bind_some _ _).symm.trans H; with_reducible exact H2_) | with_reducible exact H | (rw [hy131]; exact H) | exact H
              have Ny131 := Aside0.mk hy131; clear hy131; have H' := Aside0.mk H; clear H
              have p129 : 0 ≤ (x44_3 : Int) := of_decide_eq_true (by first | (with_reducible assumption) | assumption)
              have q129 : x44_3 < (x42_3.length : Int) := of_decide_eq_true (by first | (with_reducible assumption) | assumption)
              obtain ⟨ad129, e129, hx129_0⟩ := Kd.at_int (Kd.R_reads' HO_42.out).2.2 x44_3 p129 q129; cases e129; replace p129 := eq_true p129; replace q129 := eq_true q129; have hnb80 := NB112_101.out; have hnc80 := NB101_112.out; have hnb81 := NB112_102.out; have hnc81 := NB102_112.out; have hnb82 := NB112_103.out; have hnc82 := NB103_112.out; have hnb83 := NB112_104.out; have hnc83 := NB104_112.out; have hnb84 := NB112_120.out; have hnc84 := NB120_112.out; obtain ⟨hcz85_0, hcz85_1, hcz85_2, hfz85_0, hfz85_1, hfz85_2⟩ := bc3 BK112.out; obtain ⟨Ao86, co86, eo86⟩ := Kd.R_slice HO_113002.out; subst eo86
              have p130 : 0 ≤ (x44_3 : Int) := of_decide_eq_true (by first | (with_reducible assumption) | assumption)
              have q130 : x44_3 < (x113002_3.length : Int) := of_decide_eq_true (by first | (with_reducible assumption) | assumption)
              obtain ⟨ad130, e130, hx130_0⟩ := Kd.at_int (Kd.R_reads' HO_113002.out).2.2 x44_3 p130 q130; cases e130; replace p130 := eq_true p130; replace q130 := eq_true q130
              have p79 : 0 ≤ (x44_3 : Int) := of_decide_eq_true (by first | (with_reducible assumption) | assumption)
              have q79 : (x44_3 : Int) < ((x113002_3.length : Int) : Int) := of_decide_eq_true (by first | (with_reducible assumption) | assumption)
              obtain ⟨go79, co79, eo79, gb79, gl79, cl79, HG79⟩ := Kd.R_form HO_113002.out (by omega)
              (first | cases eo79 | (injection eo79 with ea_ en_ ec_; (first | subst ea_ | (injection ea_ with ea_; subst ea_)); subst ec_; clear en_))
              have GB79 := Aside0.mk gb79; have GG79 := Aside0.mk HG79; clear gb79 gl79 HG79
              (first | simp only [add_plain] at hx130_0 | skip)
              obtain ⟨hx79_0, hf79_0⟩ := Kd.R_celln 0 HO_113002.out (x44_3 : Int) p79 q79; replace p79 := eq_true p79; replace q79 := eq_true q79; have HP87 := Kd.R_putg HO_113002.out (x44_3 : Int) (wrap64 ((rd x113002_3 x44_3) + (rd x42_3 x44_3)))
              go_wp2_with (first | ((with_reducible refine gate_store (t := 3) (p := 56) rfl ?_); refine store_event (t := 3) (p := 56) (v := ?vo_w88) (w1 := (wr.setCell ⟨go79, (x44_3 : Int).toNat, none⟩ (.int .i64 (wrap64 ((rd x113002_3 x44_3) + (rd x42_3 x44_3)))))) ?hg ?ho ?hn ?hr ?_; (case ho => rfl); (case hg => rfl); (case hn => rfl); (case hr => first | (go_simp; done) | (go_simp; rfl)); intro w88 hw; have hg : wr.grownBy w88 (some go79) := (by rw [hw]; exact HP87.2); have hp_ : Kd.R (Kd.int .i64) 3 w88 w.heap.size (fun k_ => some k_ ≠ (.slice (some ad129) x42_3.length co74 : Value).ownBlock ∧ k_ ≠ gb102 ∧ k_ ≠ gb103 ∧ k_ ≠ gb120) (.slice (some ⟨go79, 0, none⟩) x113002_3.length co86) y131 := (by rw [hw, Ny131.out]; exact HP87.1); clear HP87; have n0_ := aK (Kd.R_after (v := (.slice (some ⟨go79, 0, none⟩) x113002_3.length co86)) (v1 := (.slice (some ⟨go79, 0, none⟩) x113002_3.length co86)) (ok := (fun k_ => k_ ≠ gb102 ∧ k_ ≠ gb103 ∧ k_ ≠ gb120)) (pR (rP HO_42.out)) hg (.inl rfl)); have n1_ := aK (hp_); have n2_ := aK (blk_grown (pB BK101.out) hg (Kd.R_ne HO_113002.out BK101.out (by decide))); have n3_ := aK (blk_grown (pB BK102.out) hg (Kd.R_away HO_113002.out (fun _ hk => hk.2.1))); have n4_ := aK (blk_grown (pB BK103.out) hg (Kd.R_away HO_113002.out (fun _ hk => hk.2.2.1))); have n5_ := aK (blk_grown (pB BK104.out) hg (Kd.R_ne HO_113002.out BK104.out (by decide))); have n6_ := aK (blk_grown (pB BK112.out) hg (Kd.R_ne HO_113002.out BK112.out (by decide))); have n7_ := aK (blk_grown (pB BK120.out) hg (Kd.R_away HO_113002.out (fun _ hk => hk.2.2.2))); have n8_ := aK ((by rw [hw]; exact below_set (HB.out) GB79.out : Below w.heap.size w w88)); clear HO_42 HO_113002 BK101 BK102 BK103 BK104 BK112 BK120 HB; have HO_42 := n0_; have HO_113002 := n1_; have BK101 := n2_; have BK102 := n3_; have BK103 := n4_; have BK104 := n5_; have BK112 := n6_; have BK120 := n7_; have HB := n8_; clear n0_ n1_ n2_ n3_ n4_ n5_ n6_ n7_ n8_; clear hg hw hp_))
              (try simp only [← hl42_3])
              go_roundg k3
              case measure => have := HJ3.out; have := HK2.out; have := HK3.out; omega
              case rel => exact ⟨(x42_3), (wrap64 (x44_3 + 1)), (y131), (.slice (some ⟨go79, 0, none⟩) x113002_3.length co86), (by first | rfl | (simp; done) | (simp [*]; done)), H', ⟨by have := HJ3.out; have := HK2.out; have := HK3.out; omega⟩, ⟨by (try simp only [hl42_3]); (with_reducible repeat (first | apply Kd.R_alloc | apply Kd.R_drewN | apply Kd.R_drew)); exact rP HO_42.out⟩, ⟨by (try simp only [hl42_3]); (with_reducible repeat (first | apply Kd.R_alloc | apply Kd.R_drewN | apply Kd.R_drew)); exact HO_113002.out⟩, ⟨by (try simp only [hl42_3]); refine bk ?_; exact BK101.out⟩, ⟨by (try simp only [hl42_3]); refine bk ?_; exact BK102.out⟩, ⟨by (try simp only [hl42_3]); refine bk ?_; exact BK103.out⟩, ⟨by (try simp only [hl42_3]); refine bk ?_; exact BK104.out⟩, ⟨by (try simp only [hl42_3]); refine bk ?_; exact BK112.out⟩, ⟨by (try simp only [hl42_3]); refine bk ?_; exact BK120.out⟩, ⟨pT HB.out⟩⟩
             rw [if_neg c78] at H
             exact absurd H (by simp)
            rw [if_neg c77] at H
            exact absurd H (by simp)
           rw [if_neg c76] at H
           exact absurd H (by simp)
          rw [if_neg c75] at H
          have c75b0 : decide (x44_3 < (t126.length : Int)) = false := decide_eq_false c75
          (try simp only [hl42_3] at c75b0)
          clear c75; have H' := Aside0.mk H; clear H
          go_wp2
          (try simp only [← hl42_3])
          go_roundg k3
          case measure => have := HJ3.out; have := HK2.out; have := HK3.out; omega
          case rel => exact ⟨(wrap64 (x30_2 + 1)), (x113002_3), (u113002), (by first | rfl | (simp; done) | (simp [*]; done)), H', ⟨by have := HJ3.out; have := HK2.out; have := HK3.out; omega⟩, ⟨by (try simp only [hl42_3]); (with_reducible repeat (first | apply Kd.R_alloc | apply Kd.R_drewN | apply Kd.R_drew)); exact rP HO_113002.out⟩, ⟨by (try simp only [hl42_3]); refine bk ?_; exact BK101.out⟩, ⟨by (try simp only [hl42_3]); refine bk ?_; exact BK102.out⟩, ⟨by (try simp only [hl42_3]); refine bk ?_; exact BK103.out⟩, ⟨by (try simp only [hl42_3]); refine bk ?_; exact BK104.out⟩, ⟨by (try simp only [hl42_3]); refine bk ?_; exact BK112.out⟩, ⟨pT HB.out⟩⟩
       rw [if_neg c52] at H
       exact absurd H (by simp)
      rw [if_neg c51] at H
      exact absurd H (by simp)
     rw [if_neg c50] at H
     have c50b0 : decide (x30_2 < (l0_2.length : Int)) = false := decide_eq_false c50
     (try simp only [hl42_3] at c50b0)
     clear c50; replace H := Option.bind_eq_some_iff.mp H
     obtain ⟨⟨t113, t114, t115, t118⟩, A890, H⟩ := H
     replace H : (some (t113, t114, t115, t118)) = some (r1, r2, r3, r4) := H
     have A89 := Aside0.mk A890; clear A890
     simp only [Option.some.injEq, Prod.mk.injEq] at H
     obtain ⟨rfl, rfl, rfl, rfl⟩ := H; have hnb90 := NB112_101.out; have hnc90 := NB101_112.out; have hnb91 := NB112_102.out; have hnc91 := NB102_112.out; have hnb92 := NB112_103.out; have hnc92 := NB103_112.out; have hnb93 := NB112_104.out; have hnc93 := NB104_112.out; obtain ⟨hcz94_0, hcz94_1, hcz94_2, hfz94_0, hfz94_1, hfz94_2⟩ := bc3 BK112.out; obtain ⟨Ao95, co95, eo95⟩ := Kd.R_slice HO_113002.out; subst eo95
     go_wp2_with (first | ((with_reducible refine gate_callee (f := 28) rfl ?_); refine gl (some 60) Try.func28 #[.agg #[.int .i64 t107, .int .i64 t108, .slice Ao95 x113002_2.length co95]] ?_; (with_reducible refine (impl_checkedSums.calls k2 t107 t108 (fun k_ => some k_ = (.slice Ao95 x113002_2.length co95 : Value).ownBlock) (.slice Ao95 x113002_2.length co95) x113002_2 t113 t114 t115 t118 w _ ?side1 ?side2 A89.out).mono ?_); (case side1 => exact pT HB.out); (case side2 => exact Kd.R_tight rfl HO_113002.out); rintro e w96 ⟨v116, rfl, ho0, hb, hkp⟩; refine ⟨_, rfl, ?_⟩; have n0_ := aK (blk_kept (pB BK101.out) hkp (fun hs_ => (fun e_ => (Kd.R_ne HO_113002.out BK101.out (by decide)) e_) hs_)); have n1_ := aK (blk_kept (pB BK102.out) hkp (fun hs_ => (fun e_ => (Kd.R_away HO_113002.out (fun _ hk => hk.1)) e_) hs_)); have n2_ := aK (blk_kept (pB BK103.out) hkp (fun hs_ => (fun e_ => (Kd.R_away HO_113002.out (fun _ hk => hk.2)) e_) hs_)); have n3_ := aK (blk_kept (pB BK104.out) hkp (fun hs_ => (fun e_ => (Kd.R_ne HO_113002.out BK104.out (by decide)) e_) hs_)); have n4_ := aK (blk_kept (pB BK112.out) hkp (fun hs_ => (fun e_ => (Kd.R_ne HO_113002.out BK112.out (by decide)) e_) hs_)); have HO117 := aK (Kd.R_mono (ok' := fun k_ => k_ ≠ gb102 ∧ k_ ≠ gb103) ho0 (fun k_ hk_ => ⟨Or.elim hk_ (fun hs_ => fun e_ => (Kd.R_away HO_113002.out (fun _ hk => hk.1)) (by rw [← e_]; exact hs_)) (fun hn_ => (Kd.freshB (g := gb102) (o := .cells #[.int .i64 a1] 3 (0, 0)) (pB BK102.out) k_ hn_)), Or.elim hk_ (fun hs_ => fun e_ => (Kd.R_away HO_113002.out (fun _ hk => hk.2)) (by rw [← e_]; exact hs_)) (fun hn_ => (Kd.freshB (g := gb103) (o := .cells #[.int .i64 a2] 3 (0, 0)) (pB BK103.out) k_ hn_))⟩)); have n6_ := aK (hb); clear BK101 BK102 BK103 BK104 BK112 HB HO_113002; have BK101 := n0_; have BK102 := n1_; have BK103 := n2_; have BK104 := n3_; have BK112 := n4_; have HB := n6_; clear n0_ n1_ n2_ n3_ n4_ n6_; (try clear hb); (try clear hkp); (try clear ho0); have hnb97 := NB104_101.out; have hnc97 := NB101_104.out; have hnb98 := NB104_102.out; have hnc98 := NB102_104.out; have hnb99 := NB104_103.out; have hnc99 := NB103_104.out; obtain ⟨hcz100_0, hcz100_1, hcz100_2, hfz100_0, hfz100_1, hfz100_2⟩ := bc3 BK104.out; obtain ⟨Ao101, co101, eo101⟩ := Kd.R_slice HO117.out; subst eo101))
     refine bodyPost_ret (results_ct rfl _ _ gb104 26 #[.int .i64 t113, .int .i64 t114, .slice Ao101 t115.length co101] (0, 0) _ rfl (by refine bk ?_; refine blk_put (cs := #[.int .i64 t113, .int .i64 t114, .slice none 0 0]) ?_ 2 _ rfl; refine bk ?_; refine blk_put (cs := #[.int .i64 t113, .int .i64 0, .slice none 0 0]) ?_ 1 _ rfl; refine bk ?_; refine blk_put (cs := #[.int .i64 0, .int .i64 0, .slice none 0 0]) ?_ 0 _ rfl; refine bk ?_; exact BK104.out) Try.underlying26 rfl (by kernel_rfl)) rfl ?_
     exact ⟨_, er, by (with_reducible repeat (first | apply Kd.R_alloc | apply Kd.R_drewN | apply Kd.R_drew)); exact Kd.R_mono (rF3 HO117.out BK104.out (.int .i64 t113) (.int .i64 t114) (.slice Ao101 t115.length co101)) (fun _ h => trivial), pT HB.out⟩
end Go.Proofs.Ythlmikigjhgpdaa.P
namespace Go.Proofs.Ythlmikigjhgpdaa.P
open Go.RowKit Go.Proofs.YthlmikigjhgpdaaW.PrintWords Go.Proofs.YthlmikigjhgpdaaW.PrintLast Go.Proofs.YthlmikigjhgpdaaW.PrintMore
attribute [local go_sem] max2_int min2_int max_two min_two max_three min_three max_four min_four
set_option linter.unusedVariables false
set_option linter.unusedSimpArgs false
set_option maxHeartbeats 8000000
set_option maxRecDepth 100000
def spec_l1Most.f (a0 : Int) (a1 : Int) : Option (Int) := if a0 > a1 then (some a0) else (some a1)
theorem spec_l1Most.calls (a0 : Int) (a1 : Int) (r : Int) (w : World) (h : spec_l1Most.f a0 a1 = some r) :
  Calls Try.prog 56 #[.int .i64 a0, .int .i64 a1] w fun e w' => e = .returned (.int .i64 r) ∧ Drawn0 w w' := by
 have H : (if a0 > a1 then (some a0) else (some a1)) = some r := h
 clear h
 by_cases c3 : a0 > a1
 ·
  rw [if_pos c3] at H
  have c3b0 : decide (a1 < a0) = true := decide_eq_true c3
  clear c3
  obtain rfl := Option.some.inj H
  go_enter Try.func56, Try.ntmps56
  go_wp2
  go_ret
  exact ⟨by first | rfl | (simp; done) | (simp [*]; done), by repeat (first | exact Drawn0.refl _ | apply Drawn0.step)⟩
 rw [if_neg c3] at H
 have c3b0 : decide (a1 < a0) = false := decide_eq_false c3
 clear c3
 obtain rfl := Option.some.inj H
 go_enter Try.func56, Try.ntmps56
 go_wp2
 go_ret
 exact ⟨by first | rfl | (simp; done) | (simp [*]; done), by repeat (first | exact Drawn0.refl _ | apply Drawn0.step)⟩
def spec_l1Least.f (a0 : Int) (a1 : Int) : Option (Int) := if a0 < a1 then (some a0) else (some a1)
theorem spec_l1Least.calls (a0 : Int) (a1 : Int) (r : Int) (w : World) (h : spec_l1Least.f a0 a1 = some r) :
  Calls Try.prog 57 #[.int .i64 a0, .int .i64 a1] w fun e w' => e = .returned (.int .i64 r) ∧ Drawn0 w w' := by
 have H : (if a0 < a1 then (some a0) else (some a1)) = some r := h
 clear h
 by_cases c3 : a0 < a1
 ·
  rw [if_pos c3] at H
  have c3b0 : decide (a0 < a1) = true := decide_eq_true c3
  clear c3
  obtain rfl := Option.some.inj H
  go_enter Try.func57, Try.ntmps57
  go_wp2
  go_ret
  exact ⟨by first | rfl | (simp; done) | (simp [*]; done), by repeat (first | exact Drawn0.refl _ | apply Drawn0.step)⟩
 rw [if_neg c3] at H
 have c3b0 : decide (a0 < a1) = false := decide_eq_false c3
 clear c3
 obtain rfl := Option.some.inj H
 go_enter Try.func57, Try.ntmps57
 go_wp2
 go_ret
 exact ⟨by first | rfl | (simp; done) | (simp [*]; done), by repeat (first | exact Drawn0.refl _ | apply Drawn0.step)⟩
def spec_l7Overlap.f (a0 : Int) (a1 : Int) (a2 : Int) (a3 : Int) : Option (Int) := (spec_l1Least.f (wrap64 ((wrap64 (a2 + 1)) * a1)) (wrap64 ((wrap64 (a3 + 1)) * a0))).bind fun t101 => ((spec_l1Most.f (wrap64 (a2 * a1)) (wrap64 (a3 * a0))).bind fun t102 => ((spec_l1Most.f 0 (wrap64 (t101 - t102))).bind fun t103 => (some t103)))
theorem spec_l7Overlap.calls (a0 : Int) (a1 : Int) (a2 : Int) (a3 : Int) (r : Int) (w : World) (h : spec_l7Overlap.f a0 a1 a2 a3 = some r) :
  Calls Try.prog 32 #[.int .i64 a0, .int .i64 a1, .int .i64 a2, .int .i64 a3] w fun e w' => e = .returned (.int .i64 r) ∧ Drawn0 w w' := by
 have H : ((spec_l1Least.f (wrap64 ((wrap64 (a2 + 1)) * a1)) (wrap64 ((wrap64 (a3 + 1)) * a0))).bind fun t101 => ((spec_l1Most.f (wrap64 (a2 * a1)) (wrap64 (a3 * a0))).bind fun t102 => ((spec_l1Most.f 0 (wrap64 (t101 - t102))).bind fun t103 => (some t103)))) = some r := h
 clear h
 replace H := Option.bind_eq_some_iff.mp H
 obtain ⟨t101, A50, H⟩ := H
 replace H : ((spec_l1Most.f (wrap64 (a2 * a1)) (wrap64 (a3 * a0))).bind fun t102 => ((spec_l1Most.f 0 (wrap64 (t101 - t102))).bind fun t103 => (some t103))) = some r := H
 have A5 := Aside0.mk A50
 clear A50
 replace H := Option.bind_eq_some_iff.mp H
 obtain ⟨t102, A60, H⟩ := H
 replace H : ((spec_l1Most.f 0 (wrap64 (t101 - t102))).bind fun t103 => (some t103)) = some r := H
 have A6 := Aside0.mk A60
 clear A60
 replace H := Option.bind_eq_some_iff.mp H
 obtain ⟨t103, A70, H⟩ := H
 replace H : (some t103) = some r := H
 have A7 := Aside0.mk A70
 clear A70
 obtain rfl := Option.some.inj H
 go_enter Try.func32, Try.ntmps32
 go_wp2_with (first | ((with_reducible refine gate_callee (f := 57) rfl ?_); refine gl (some 17) Try.func57 #[.int .i64 (wrap64 ((wrap64 (a2 + 1)) * a1)), .int .i64 (wrap64 ((wrap64 (a3 + 1)) * a0))] ?_; (with_reducible refine (spec_l1Least.calls (wrap64 ((wrap64 (a2 + 1)) * a1)) (wrap64 ((wrap64 (a3 + 1)) * a0)) t101 _ A5.out).mono ?_); rintro e w' ⟨rfl, ⟨nd, rfl⟩⟩; refine ⟨_, rfl, ?_⟩) | ((with_reducible refine gate_callee (f := 56) rfl ?_); refine gl (some 24) Try.func56 #[.int .i64 (wrap64 (a2 * a1)), .int .i64 (wrap64 (a3 * a0))] ?_; (with_reducible refine (spec_l1Most.calls (wrap64 (a2 * a1)) (wrap64 (a3 * a0)) t102 _ A6.out).mono ?_); rintro e w' ⟨rfl, ⟨nd, rfl⟩⟩; refine ⟨_, rfl, ?_⟩) | ((with_reducible refine gate_callee (f := 56) rfl ?_); refine gl (some 26) Try.func56 #[.int .i64 0, .int .i64 (wrap64 (t101 - t102))] ?_; (with_reducible refine (spec_l1Most.calls 0 (wrap64 (t101 - t102)) t103 _ A7.out).mono ?_); rintro e w' ⟨rfl, ⟨nd, rfl⟩⟩; refine ⟨_, rfl, ?_⟩))
 go_ret
 exact ⟨by first | rfl | (simp; done) | (simp [*]; done), by repeat (first | exact Drawn0.refl _ | apply Drawn0.step)⟩
mutual
def spec_RegridTotal.j0 : Nat → Int → Int → Bool → Int → Int → List Int → Option (Int × Int × List Int × Bool)
 | 0, _, _, _, _, _, _ => none
 | k + 1, x1, x2, x24, x102000, x102001, x102002 => if x24 = true then (some (0, 0, ([] : List Int), false)) else ((spec_l2Fill.f k x1 x2 0).bind fun bt105 => (spec_RegridTotal.l0 k x1 x2 0 x102000 x102001 x102002 bt105.1 bt105.2.1 bt105.2.2))
def spec_RegridTotal.l0 : Nat → Int → Int → Int → Int → Int → List Int → Int → Int → List Int → Option (Int × Int × List Int × Bool)
 | 0, _, _, _, _, _, _, _, _, _ => none
 | k + 1, x1, x2, x9, x102000, x102001, x102002, x111000, x111001, x111002 => if x9 < x102001 then (spec_RegridTotal.l1 k x1 x2 x9 0 x102000 x102001 x102002 x111000 x111001 x111002) else ((spec_l7Full.f k x111000 x111001 x111002).bind fun t111 => (if t111 = true then (some (x111000, x111001, x111002, true)) else (some (0, 0, ([] : List Int), false))))
def spec_RegridTotal.l1 : Nat → Int → Int → Int → Int → Int → Int → List Int → Int → Int → List Int → Option (Int × Int × List Int × Bool)
 | 0, _, _, _, _, _, _, _, _, _, _ => none
 | k + 1, x1, x2, x9, x10, x102000, x102001, x102002, x111000, x111001, x111002 => if x10 < x102000 then (spec_RegridTotal.l2 k x1 x2 x9 x10 (([] : List Int)) 0 x102000 x102001 x102002 x111000 x111001 x111002) else (spec_RegridTotal.l0 k x1 x2 (wrap64 (x9 + 1)) x102000 x102001 x102002 x111000 x111001 x111002)
def spec_RegridTotal.l2 : Nat → Int → Int → Int → Int → List Int → Int → Int → Int → List Int → Int → Int → List Int → Option (Int × Int × List Int × Bool)
 | 0, _, _, _, _, _, _, _, _, _, _, _, _ => none
 | k + 1, x1, x2, x9, x10, x11, x12, x102000, x102001, x102002, x111000, x111001, x111002 => if x12 < x2 then (spec_RegridTotal.l3 k x1 x2 x9 x10 x11 x12 0 x102000 x102001 x102002 x111000 x111001 x111002) else ((spec_l2At.f x102000 x102001 x102002 x10 x9).bind fun t120 => ((spec_l7Split.f k t120 x11).bind fun t121 => (spec_RegridTotal.l4 k x1 x2 x9 x10 t121 0 x102000 x102001 x102002 x111000 x111001 x111002)))
def spec_RegridTotal.l3 : Nat → Int → Int → Int → Int → List Int → Int → Int → Int → Int → List Int → Int → Int → List Int → Option (Int × Int × List Int × Bool)
 | 0, _, _, _, _, _, _, _, _, _, _, _, _, _ => none
 | k + 1, x1, x2, x9, x10, x11, x12, x13, x102000, x102001, x102002, x111000, x111001, x111002 => if x13 < x1 then ((spec_l7Overlap.f x102000 x1 x10 x13).bind fun t115 => ((spec_l7Overlap.f x102001 x2 x9 x12).bind fun t116 => (if x11.length < 17592186044416 then (spec_RegridTotal.l3 k x1 x2 x9 x10 (x11 ++ [wrap64 (t115 * t116)]) x12 (wrap64 (x13 + 1)) x102000 x102001 x102002 x111000 x111001 x111002) else (none)))) else (spec_RegridTotal.l2 k x1 x2 x9 x10 x11 (wrap64 (x12 + 1)) x102000 x102001 x102002 x111000 x111001 x111002)
def spec_RegridTotal.l4 : Nat → Int → Int → Int → Int → List Int → Int → Int → Int → List Int → Int → Int → List Int → Option (Int × Int × List Int × Bool)
 | 0, _, _, _, _, _, _, _, _, _, _, _, _ => none
 | k + 1, x1, x2, x9, x10, x14, x15, x102000, x102001, x102002, x111000, x111001, x111002 => if x15 < (x14.length : Int) then (if 0 ≤ x15 then (if x15 < (x111002.length : Int) then (spec_RegridTotal.l4 k x1 x2 x9 x10 x14 (wrap64 (x15 + 1)) x102000 x102001 x102002 x111000 x111001 (x111002.set (x15 : Int).toNat (wrap64 ((rd x111002 x15) + (rd x14 x15))))) else (none)) else (none)) else (spec_RegridTotal.l1 k x1 x2 x9 (wrap64 (x10 + 1)) x102000 x102001 x102002 x111000 x111001 x111002)
end
def spec_RegridTotal.f (k : Nat) (a0_0 : Int) (a0_1 : Int) (l0_2 : List Int) (a1 : Int) (a2 : Int) : Option (Int × Int × List Int × Bool) := (spec_l7Full.f k a0_0 a0_1 l0_2).bind fun t103 => (if t103 = true then ((spec_l2Shape.f a1 a2).bind fun t104 => (spec_RegridTotal.j0 k a1 a2 (!t104) a0_0 a0_1 l0_2)) else (spec_RegridTotal.j0 k a1 a2 true a0_0 a0_1 l0_2))
def spec_RegridTotal.T17 : Bool × List (List Nat × List Nat) := (true, [([], []), ([], []), ([1], [1]), ([], []), ([], []), ([], []), ([2, 3, 4, 5], [2, 3, 4, 5]), ([], []), ([7], [7]), ([], []), ([], []), ([], []), ([8, 9, 10, 11, 6], [8, 9, 10, 11]), ([6, 12], [6, 12]), ([13], [13]), ([0, 14, 12], [0, 14]), ([15, 15, 0, 1, 2, 3, 4, 5, 6, 7, 8, 9, 10, 11, 12, 13, 14, 15], [0, 15])])
def spec_RegridTotal.B17 : List Nat := [0, 0, 2, 0, 0, 0, 62, 0, 128, 0, 0, 0, 4094, 8190, 16382, 32767, 65535]
theorem spec_RegridTotal.tab17 : rtab .any (opsOf Try.f7 17) = spec_RegridTotal.T17 := by kernel_rfl
theorem spec_RegridTotal.bits17 : waitsOk spec_RegridTotal.T17.2 spec_RegridTotal.B17 = true := by kernel_rfl
def spec_RegridTotal.T22 : Bool × List (List Nat × List Nat) := (true, [([], []), ([0], [0]), ([], []), ([], []), ([3], [3]), ([], []), ([4, 5], [4, 5]), ([6], [6]), ([], []), ([], []), ([8, 9], [8, 9]), ([10], [10]), ([7, 11], [7, 11]), ([1, 2, 0, 1, 2, 3, 4, 5, 6, 7, 8, 9, 10, 11, 12], [1, 2]), ([13, 12, 0, 1, 2, 3, 4, 5, 6, 7, 8, 9, 10, 11, 12], [12, 13])])
def spec_RegridTotal.B22 : List Nat := [0, 1, 0, 0, 8, 0, 56, 120, 0, 0, 768, 1792, 4088, 8191, 16383]
theorem spec_RegridTotal.tab22 : rtab .any (opsOf Try.f7 22) = spec_RegridTotal.T22 := by kernel_rfl
theorem spec_RegridTotal.bits22 : waitsOk spec_RegridTotal.T22.2 spec_RegridTotal.B22 = true := by kernel_rfl
theorem spec_RegridTotal.calls (k : Nat) (a0_0 : Int) (a0_1 : Int) (A0_2 : Option Addr) (c0_2 : Nat) (l0_2 : List Int) (a1 : Int) (a2 : Int) (r1 : Int) (r2 : Int) (r3 : List Int) (r4 : Bool) (w : World) (hr0_2 : Kd.C (Kd.int .i64) w A0_2 l0_2.length l0_2) (hc0_2 : l0_2.length ≤ c0_2) (h : spec_RegridTotal.f k a0_0 a0_1 l0_2 a1 a2 = some (r1, r2, r3, r4)) :
  Calls Try.prog 7 #[.agg #[.int .i64 a0_0, .int .i64 a0_1, .slice A0_2 l0_2.length c0_2], .int .i64 a1, .int .i64 a2] w fun e w' => ∃ v2_ : Value, e = .returned (.tuple #[.agg #[.int .i64 r1, .int .i64 r2, v2_], .bool r4]) ∧ Kd.R (Kd.int .i64) 3 w' w.heap.size (fun _ => True) v2_ r3 ∧ Below w.heap.size w w' := by
 have hu26 := Try.underlying26
 have HR0_2 := Aside0.mk hr0_2
 have HC0_2 := Aside0.mk hc0_2
 clear hr0_2 hc0_2
 have HB := aK (Below.refl w.heap.size w)
 have H : ((spec_l7Full.f k a0_0 a0_1 l0_2).bind fun t103 => (if t103 = true then ((spec_l2Shape.f a1 a2).bind fun t104 => (spec_RegridTotal.j0 k a1 a2 (!t104) a0_0 a0_1 l0_2)) else (spec_RegridTotal.j0 k a1 a2 true a0_0 a0_1 l0_2))) = some (r1, r2, r3, r4) := h
 clear h
 have HC4 := Aside0.mk H
 clear H
 go_enter Try.func7, Try.ntmps7
 go_upto_region 1 with (first | ((with_reducible refine gate_dst (N := 3) rfl ?_); refine bxe (cs := #[.int .i64 a0_0, .int .i64 a0_1, .slice A0_2 l0_2.length c0_2]) (t := 26) ?_; intro gb101 hg w5 hbox hb; have BK101 := aK (hbox); have GW101 := aK (gE hg (pS HB.out)); have GE101 := GW101; replace HB := bS HB hb; clear hb hbox hg) | ((with_reducible refine gate_dst (N := 6) rfl ?_); refine bxe (cs := #[.int .i64 0, .int .i64 0, .slice none 0 0]) (t := 26) ?_; intro gb102 hg w6 hbox hb; have BK102 := aK (hbox); have GW102 := aK (gE hg (pS HB.out)); have GE102 := GW102; obtain ⟨NB101_102, NB102_101⟩ := nb hg (pB BK101.out); replace BK101 := bB BK101 hb; replace HB := bS HB hb; clear hb hbox hg))
 (try simp only [Act.put, List.setIfInBounds_toArray, List.set_cons_zero, List.set_cons_succ])
 go_cut [24] (fun v24 wc => ∃ (kq : Nat) (x24_3 : Bool), v24 = .bool x24_3 ∧ Aside0 (spec_RegridTotal.j0 kq a1 a2 x24_3 a0_0 a0_1 l0_2 = some (r1, r2, r3, r4)) ∧ Aside0 (kq ≤ k) ∧ Aside0 (wc.heap[gb101]? = some (.cells #[.int .i64 a0_0, .int .i64 a0_1, (.slice A0_2 l0_2.length c0_2)] 26 (0, 0))) ∧ Aside0 (wc.heap[gb102]? = some (.cells #[.int .i64 0, .int .i64 0, (.slice none 0 0)] 26 (0, 0))) ∧ Aside0 (Below w.heap.size w wc))
 case first =>
  have H := HC4.out; clear HC4; replace H := Option.bind_eq_some_iff.mp H; obtain ⟨t103, A70, H⟩ := H
  replace H : (if t103 = true then ((spec_l2Shape.f a1 a2).bind fun t104 => (spec_RegridTotal.j0 k a1 a2 (!t104) a0_0 a0_1 l0_2)) else (spec_RegridTotal.j0 k a1 a2 true a0_0 a0_1 l0_2)) = some (r1, r2, r3, r4) := H
  have A7 := Aside0.mk A70; clear A70
  by_cases c8 : t103 = true
  ·
   subst c8
   have H1 : ((spec_l2Shape.f a1 a2).bind fun t104 => (spec_RegridTotal.j0 k a1 a2 (!t104) a0_0 a0_1 l0_2)) = some (r1, r2, r3, r4) := by rw [if_pos rfl] at H; exact H
   clear H; have H := H1; clear H1; replace H := Option.bind_eq_some_iff.mp H; obtain ⟨t104, A90, H⟩ := H
   replace H : (spec_RegridTotal.j0 k a1 a2 (!t104) a0_0 a0_1 l0_2) = some (r1, r2, r3, r4) := H
   have A9 := Aside0.mk A90; clear A90; have H' := Aside0.mk H; clear H; have hnb10 := NB101_102.out; have hnc10 := NB102_101.out; obtain ⟨hcz11_0, hcz11_1, hcz11_2, hfz11_0, hfz11_1, hfz11_2⟩ := bc3 BK101.out
   go_wp2_with (first | ((with_reducible refine gate_callee (f := 29) rfl ?_); refine gl (some 17) Try.func29 #[.agg #[.int .i64 a0_0, .int .i64 a0_1, .slice A0_2 l0_2.length c0_2]] ?_; (with_reducible refine (spec_l7Full.calls k a0_0 a0_1 _ _ l0_2 true _ ?side1 ?side2 A7.out).mono ?_); (case side1 => exact pC (Kd.C_below HR0_2.out HB.out)); (case side2 => exact HC0_2.out); rintro e w12 ⟨rfl, hb⟩; refine ⟨_, rfl, ?_⟩; replace BK101 := bB BK101 hb; replace BK102 := bB BK102 hb; replace HB := bS HB hb; (try clear hb)) | (go_at_call 30; (with_reducible refine (spec_l2Shape.calls a1 a2 t104 _ A9.out).mono ?_); rintro e w' ⟨rfl, ⟨nd, rfl⟩⟩))
   go_meet
   case rel => exact ⟨_, (!t104), (by first | rfl | (simp; done) | (simp [*]; done)), H', ⟨by first | omega | exact Nat.le_refl _⟩, ⟨by refine bk ?_; exact BK101.out⟩, ⟨by refine bk ?_; exact BK102.out⟩, ⟨pT HB.out⟩⟩
  replace c8 := Bool.eq_false_iff.mpr c8; subst c8
  have H1 : (spec_RegridTotal.j0 k a1 a2 true a0_0 a0_1 l0_2) = some (r1, r2, r3, r4) := by rw [if_neg (show ¬ (false = true) by decide)] at H; exact H
  clear H; have H := H1; clear H1; have H' := Aside0.mk H; clear H; have hnb13 := NB101_102.out; have hnc13 := NB102_101.out; obtain ⟨hcz14_0, hcz14_1, hcz14_2, hfz14_0, hfz14_1, hfz14_2⟩ := bc3 BK101.out
  go_wp2_with (first | ((with_reducible refine gate_callee (f := 29) rfl ?_); refine gl (some 17) Try.func29 #[.agg #[.int .i64 a0_0, .int .i64 a0_1, .slice A0_2 l0_2.length c0_2]] ?_; (with_reducible refine (spec_l7Full.calls k a0_0 a0_1 _ _ l0_2 false _ ?side1 ?side2 A7.out).mono ?_); (case side1 => exact pC (Kd.C_below HR0_2.out HB.out)); (case side2 => exact HC0_2.out); rintro e w15 ⟨rfl, hb⟩; refine ⟨_, rfl, ?_⟩; replace BK101 := bB BK101 hb; replace BK102 := bB BK102 hb; replace HB := bS HB hb; (try clear hb)))
  go_meet
  case rel => exact ⟨_, (true), (by first | rfl | (simp; done) | (simp [*]; done)), H', ⟨by first | omega | exact Nat.le_refl _⟩, ⟨by refine bk ?_; exact BK101.out⟩, ⟨by refine bk ?_; exact BK102.out⟩, ⟨pT HB.out⟩⟩
 case rest =>
  clear HC4; obtain ⟨kq, x24_3, rfl, HA, HJ3, BK101, BK102, HB⟩ := hcut
  cases kq with
  | zero => exact absurd HA.out (by simp [spec_RegridTotal.j0])
  | succ kj3 =>
   have H := HA.out; clear HA
   simp only [spec_RegridTotal.j0] at H
   by_cases c16 : x24_3 = true
   ·
    subst c16
    have H1 : (some (0, 0, ([] : List Int), false)) = some (r1, r2, r3, r4) := by rw [if_pos rfl] at H; exact H
    clear H; have H := H1; clear H1
    simp only [Option.some.injEq, Prod.mk.injEq] at H
    obtain ⟨rfl, rfl, rfl, rfl⟩ := H; have hnb17 := NB102_101.out; have hnc17 := NB101_102.out; obtain ⟨hcz18_0, hcz18_1, hcz18_2, hfz18_0, hfz18_1, hfz18_2⟩ := bc3 BK102.out
    go_wp2
    refine bodyPost_ret (results_ct rfl _ _ gb102 26 #[.int .i64 0, .int .i64 0, .slice none 0 0] (0, 0) _ rfl (by refine bk ?_; refine blk_put (cs := #[.int .i64 0, .int .i64 0, .slice none 0 0]) ?_ 2 _ rfl; refine bk ?_; refine blk_put (cs := #[.int .i64 0, .int .i64 0, .slice none 0 0]) ?_ 1 _ rfl; refine bk ?_; refine blk_put (cs := #[.int .i64 0, .int .i64 0, .slice none 0 0]) ?_ 0 _ rfl; refine bk ?_; exact BK102.out) Try.underlying26 rfl (by kernel_rfl)) rfl ?_
    exact ⟨_, er, by first | exact Kd.R_nil _ _ _ _ _ | exact Kd.N_nil _ _ _ _ _ | exact Kd.V_nil _ _ _ _ _ | exact Kd.Q_nil _ _ _ _ _ | exact Kd.S_nil _ _ _ _ _, pT HB.out⟩
   replace c16 := Bool.eq_false_iff.mpr c16; subst c16
   have H1 : ((spec_l2Fill.f kj3 a1 a2 0).bind fun bt105 => (spec_RegridTotal.l0 kj3 a1 a2 0 a0_0 a0_1 l0_2 bt105.1 bt105.2.1 bt105.2.2)) = some (r1, r2, r3, r4) := by rw [if_neg (show ¬ (false = true) by decide)] at H; exact H
   clear H; have H := H1; clear H1; replace H := Option.bind_eq_some_iff.mp H
   obtain ⟨⟨t105, t106, t107⟩, A190, H⟩ := H
   replace H : (spec_RegridTotal.l0 kj3 a1 a2 0 a0_0 a0_1 l0_2 t105 t106 t107) = some (r1, r2, r3, r4) := H
   have A19 := Aside0.mk A190; clear A190; have H' := Aside0.mk H; clear H
   go_wp2_with (first | ((with_reducible refine gate_callee (f := 31) rfl ?_); refine gl (some 28) Try.func31 #[.int .i64 a1, .int .i64 a2, .int .i64 0] ?_; (with_reducible refine (spec_l2Fill.calls kj3 a1 a2 0 t105 t106 t107 _ A19.out).mono ?_); rintro e w20 ⟨v108, rfl, ho0, hb⟩; refine ⟨_, rfl, ?_⟩; have HO109 := aK (Kd.R_lower ho0 (below_size (pS HB.out))); replace BK101 := bB BK101 hb; replace BK102 := bB BK102 hb; replace HB := bS HB hb; (try clear hb); (try clear ho0)) | ((with_reducible refine gate_dst (N := 8) rfl ?_); refine bxe (cs := #[.int .i64 0, .int .i64 0, .slice none 0 0]) (t := 26) ?_; intro gb110 hg w21 hbox hb; have n0_ := aK (Kd.R_below (pR HO109.out) hb); have BK110 := aK (hbox); have GW110 := aK (gE hg (pS HB.out)); have GE110 := GW110; obtain ⟨NB101_110, NB110_101⟩ := nb hg (pB BK101.out); obtain ⟨NB102_110, NB110_102⟩ := nb hg (pB BK102.out); replace BK101 := bB BK101 hb; replace BK102 := bB BK102 hb; replace HB := bS HB hb; clear HO109; have HO109 := n0_; clear n0_ hb hbox hg; have hnb22 := NB110_101.out; have hnc22 := NB101_110.out; have hnb23 := NB110_102.out; have hnc23 := NB102_110.out; obtain ⟨hcz24_0, hcz24_1, hcz24_2, hfz24_0, hfz24_1, hfz24_2⟩ := bc3 BK110.out; obtain ⟨Ao25, co25, eo25⟩ := Kd.R_slice HO109.out; subst eo25))
   go_loopg [9] kj3 (fun kq v9 w' => ∃ (x9_2 : Int) (x111002_2 : List Int) (u111002 : Value), v9 = .int .i64 x9_2 ∧ Aside0 (spec_RegridTotal.l0 kq a1 a2 x9_2 a0_0 a0_1 l0_2 t105 t106 x111002_2 = some (r1, r2, r3, r4)) ∧ Aside0 (kq ≤ kj3) ∧ Aside0 (Kd.R (Kd.int .i64) 3 w' w.heap.size (fun _ => True) u111002 x111002_2) ∧ Aside0 (w'.heap[gb101]? = some (.cells #[.int .i64 a0_0, .int .i64 a0_1, (.slice A0_2 l0_2.length c0_2)] 26 (0, 0))) ∧ Aside0 (w'.heap[gb102]? = some (.cells #[.int .i64 0, .int .i64 0, (.slice none 0 0)] 26 (0, 0))) ∧ Aside0 (w'.heap[gb110]? = some (.cells #[.int .i64 t105, .int .i64 t106, u111002] 26 (0, 0))) ∧ Aside0 (Below w.heap.size w w'))
   case atStart => exact ⟨(0), (t107), (.slice Ao25 t107.length co25), (by first | rfl | (simp; done) | (simp [*]; done)), H', ⟨Nat.le_refl _⟩, ⟨pR (Kd.R_mono (rF3 HO109.out BK110.out (.int .i64 t105) (.int .i64 t106) (.slice Ao25 t107.length co25)) (fun _ h => trivial))⟩, ⟨by refine bk ?_; refine blk_far ?_ NB101_110.out _; refine bk ?_; refine blk_far ?_ NB101_110.out _; refine bk ?_; refine blk_far ?_ NB101_110.out _; refine bk ?_; exact BK101.out⟩, ⟨by refine bk ?_; refine blk_far ?_ NB102_110.out _; refine bk ?_; refine blk_far ?_ NB102_110.out _; refine bk ?_; refine blk_far ?_ NB102_110.out _; refine bk ?_; exact BK102.out⟩, ⟨by refine bk ?_; refine blk_put (cs := #[.int .i64 t105, .int .i64 t106, .slice none 0 0]) ?_ 2 _ rfl; refine bk ?_; refine blk_put (cs := #[.int .i64 t105, .int .i64 0, .slice none 0 0]) ?_ 1 _ rfl; refine bk ?_; refine blk_put (cs := #[.int .i64 0, .int .i64 0, .slice none 0 0]) ?_ 0 _ rfl; refine bk ?_; exact BK110.out⟩, ⟨pT HB.out⟩⟩
   case round =>
    clear H'
    try clear hcz24_0
    try clear hcz24_1
    try clear hcz24_2
    try clear hfz24_0
    try clear hfz24_1
    try clear hfz24_2
    obtain ⟨x9_2, x111002_2, u111002, rfl, HA, HK2, HO_111002, BK101, BK102, BK110, HB⟩ := hrel
    cases gk with
    | zero => exact absurd HA.out (by simp [spec_RegridTotal.l0])
    | succ k2 =>
     have H := HA.out; clear HA
     simp only [spec_RegridTotal.l0] at H
     by_cases c26 : x9_2 < a0_1
     ·
      rw [if_pos c26] at H
      have c26b0 : decide (x9_2 < a0_1) = true := decide_eq_true c26
      clear c26; have H' := Aside0.mk H; clear H; have hnb27 := NB101_102.out; have hnc27 := NB102_101.out; have hnb28 := NB101_110.out; have hnc28 := NB110_101.out; obtain ⟨hcz29_0, hcz29_1, hcz29_2, hfz29_0, hfz29_1, hfz29_2⟩ := bc3 BK101.out
      go_wp2
      go_loopg [10] k2 (fun kq v10 w' => ∃ (x10_3 : Int) (x111002_3 : List Int) (u111002 : Value), v10 = .int .i64 x10_3 ∧ Aside0 (spec_RegridTotal.l1 kq a1 a2 x9_2 x10_3 a0_0 a0_1 l0_2 t105 t106 x111002_3 = some (r1, r2, r3, r4)) ∧ Aside0 (kq ≤ k2) ∧ Aside0 (Kd.R (Kd.int .i64) 3 w' w.heap.size (fun _ => True) u111002 x111002_3) ∧ Aside0 (w'.heap[gb101]? = some (.cells #[.int .i64 a0_0, .int .i64 a0_1, (.slice A0_2 l0_2.length c0_2)] 26 (0, 0))) ∧ Aside0 (w'.heap[gb102]? = some (.cells #[.int .i64 0, .int .i64 0, (.slice none 0 0)] 26 (0, 0))) ∧ Aside0 (w'.heap[gb110]? = some (.cells #[.int .i64 t105, .int .i64 t106, u111002] 26 (0, 0))) ∧ Aside0 (Below w.heap.size w w'))
      case atStart => exact ⟨(0), (x111002_2), (u111002), (by first | rfl | (simp; done) | (simp [*]; done)), H', ⟨Nat.le_refl _⟩, ⟨pR HO_111002.out⟩, ⟨by refine bk ?_; exact BK101.out⟩, ⟨by refine bk ?_; exact BK102.out⟩, ⟨by refine bk ?_; exact BK110.out⟩, ⟨pT HB.out⟩⟩
      case round =>
       clear H'
       try clear c26b0
       try clear hcz29_0
       try clear hcz29_1
       try clear hcz29_2
       try clear hfz29_0
       try clear hfz29_1
       try clear hfz29_2
       obtain ⟨x10_3, x111002_3, u111002, rfl, HA, HK3, HO_111002, BK101, BK102, BK110, HB⟩ := hrel
       cases gk with
       | zero => exact absurd HA.out (by simp [spec_RegridTotal.l1])
       | succ k3 =>
        have H := HA.out; clear HA
        simp only [spec_RegridTotal.l1] at H
        by_cases c30 : x10_3 < a0_0
        ·
         rw [if_pos c30] at H
         have c30b0 : decide (x10_3 < a0_0) = true := decide_eq_true c30
         clear c30
         obtain ⟨y112, hy112⟩ : ∃ y_ : List Int, y_ = (([] : List Int)) := ⟨_, rfl⟩
         replace H : (spec_RegridTotal.l2 k3 a1 a2 x9_2 x10_3 y112 0 a0_0 a0_1 l0_2 t105 t106 x111002_3) = some (r1, r2, r3, r4) := by first | (rw [hy112]; with_reducible exact H) | (have H2_ := (Option.bind_some _ _).symm.trans H; rw [hy112]; with_reducible exact H2_) | (have H2_ := (Option.bind_some _ _).symm.trans H; with_reducible exact H2_) | with_reducible exact H | (rw [hy112]; exact H) | exact H
         have Ny112 := Aside0.mk hy112; clear hy112; have H' := Aside0.mk H; clear H; have hnb31 := NB101_102.out; have hnc31 := NB102_101.out; have hnb32 := NB101_110.out; have hnc32 := NB110_101.out; obtain ⟨hcz33_0, hcz33_1, hcz33_2, hfz33_0, hfz33_1, hfz33_2⟩ := bc3 BK101.out
         go_wp2_with (first | ((with_reducible refine gate_dst (N := 41) rfl ?_); refine Kd.R_lit (Kd.int .i64) _ 3 ?hg (N := 41) ?hd (xs := ([] : List Int)) (inner := []) (ok := fun _ => True) (okp := fun _ => True) ?hr ?hp (fun _ hk => hk) trivial (Below.refl _ _) (Nat.le_refl _) (by simp) ?_; (case hd => rfl); (case hg => rfl); (case hr => first | (go_simp; done) | (go_simp; rfl)); (case hp => exact (Reps.none _ _)); intro v113 w34 ho35 hb hg_ hnew_; clear hg_ hnew_; (first | rw [← Ny112.out] at ho35 | (simp only [Int.reduceToNat] at ho35; rw [← Ny112.out] at ho35)); have n0_ := aK (Kd.R_elder' (pR HO_111002.out) (Kd.R_base ho35) hb); have HO114 := aK (Kd.R_lower (nw1 ho35 (pR HO_111002.out)) (below_size (pS HB.out))); replace BK101 := bB BK101 hb; replace BK102 := bB BK102 hb; replace BK110 := bB BK110 hb; replace HB := bS HB hb; clear HO_111002; have HO_111002 := n0_; clear n0_; clear hb ho35))
         go_loopg [11, 12] k3 (fun kq v11 v12 w' => ∃ (x11_4 : List Int) (x12_4 : Int), v12 = .int .i64 x12_4 ∧ Aside0 (spec_RegridTotal.l2 kq a1 a2 x9_2 x10_3 x11_4 x12_4 a0_0 a0_1 l0_2 t105 t106 x111002_3 = some (r1, r2, r3, r4)) ∧ Aside0 (kq ≤ k3) ∧ Aside0 (Kd.R (Kd.int .i64) 3 w' w.heap.size (fun k_ => some k_ ≠ (u111002 : Value).ownBlock) v11 x11_4) ∧ Aside0 (Kd.R (Kd.int .i64) 3 w' w.heap.size (fun k_ => some k_ ≠ (v11 : Value).ownBlock) u111002 x111002_3) ∧ Aside0 (w'.heap[gb101]? = some (.cells #[.int .i64 a0_0, .int .i64 a0_1, (.slice A0_2 l0_2.length c0_2)] 26 (0, 0))) ∧ Aside0 (w'.heap[gb102]? = some (.cells #[.int .i64 0, .int .i64 0, (.slice none 0 0)] 26 (0, 0))) ∧ Aside0 (w'.heap[gb110]? = some (.cells #[.int .i64 t105, .int .i64 t106, u111002] 26 (0, 0))) ∧ Aside0 (Below w.heap.size w w'))
         case atStart => exact ⟨(y112), (0), (by first | rfl | (simp; done) | (simp [*]; done)), H', ⟨Nat.le_refl _⟩, ⟨pR (Kd.R_mono HO114.out (fun _ hk => hk.2))⟩, ⟨pR (Kd.R_mono HO_111002.out (fun _ hk => hk.2))⟩, ⟨by refine bk ?_; exact BK101.out⟩, ⟨by refine bk ?_; exact BK102.out⟩, ⟨by refine bk ?_; exact BK110.out⟩, ⟨pT HB.out⟩⟩
         case round =>
          clear H'
          try clear c30b0
          try clear hcz33_0
          try clear hcz33_1
          try clear hcz33_2
          try clear hfz33_0
          try clear hfz33_1
          try clear hfz33_2
          obtain ⟨x11_4, x12_4, rfl, HA, HK4, HO_11, HO_111002, BK101, BK102, BK110, HB⟩ := hrel
          cases gk with
          | zero => exact absurd HA.out (by simp [spec_RegridTotal.l2])
          | succ k4 =>
           have H := HA.out; clear HA
           simp only [spec_RegridTotal.l2] at H
           by_cases c36 : x12_4 < a2
           ·
            rw [if_pos c36] at H
            have c36b0 : decide (x12_4 < a2) = true := decide_eq_true c36
            clear c36; have H' := Aside0.mk H; clear H
            go_wp2
            go_loopg [11, 13] k4 (fun kq v11 v13 w' => ∃ (x11_5 : List Int) (x13_5 : Int), v13 = .int .i64 x13_5 ∧ Aside0 (spec_RegridTotal.l3 kq a1 a2 x9_2 x10_3 x11_5 x12_4 x13_5 a0_0 a0_1 l0_2 t105 t106 x111002_3 = some (r1, r2, r3, r4)) ∧ Aside0 (kq ≤ k4) ∧ Aside0 (Kd.R (Kd.int .i64) 3 w' w.heap.size (fun k_ => some k_ ≠ (u111002 : Value).ownBlock) v11 x11_5) ∧ Aside0 (Kd.R (Kd.int .i64) 3 w' w.heap.size (fun k_ => some k_ ≠ (v11 : Value).ownBlock) u111002 x111002_3) ∧ Aside0 (w'.heap[gb101]? = some (.cells #[.int .i64 a0_0, .int .i64 a0_1, (.slice A0_2 l0_2.length c0_2)] 26 (0, 0))) ∧ Aside0 (w'.heap[gb102]? = some (.cells #[.int .i64 0, .int .i64 0, (.slice none 0 0)] 26 (0, 0))) ∧ Aside0 (w'.heap[gb110]? = some (.cells #[.int .i64 t105, .int .i64 t106, u111002] 26 (0, 0))) ∧ Aside0 (Below w.heap.size w w'))
            case atStart => exact ⟨(x11_4), (0), (by first | rfl | (simp; done) | (simp [*]; done)), H', ⟨Nat.le_refl _⟩, ⟨pR HO_11.out⟩, ⟨pR HO_111002.out⟩, ⟨by refine bk ?_; exact BK101.out⟩, ⟨by refine bk ?_; exact BK102.out⟩, ⟨by refine bk ?_; exact BK110.out⟩, ⟨pT HB.out⟩⟩
            case round =>
             clear H'
             try clear c36b0
             obtain ⟨x11_5, x13_5, rfl, HA, HK5, HO_11, HO_111002, BK101, BK102, BK110, HB⟩ := hrel
             cases gk with
             | zero => exact absurd HA.out (by simp [spec_RegridTotal.l3])
             | succ k5 =>
              have H := HA.out; clear HA
              simp only [spec_RegridTotal.l3] at H
              by_cases c37 : x13_5 < a1
              ·
               rw [if_pos c37] at H
               have c37b0 : decide (x13_5 < a1) = true := decide_eq_true c37
               clear c37; replace H := Option.bind_eq_some_iff.mp H; obtain ⟨t115, A380, H⟩ := H
               replace H : ((spec_l7Overlap.f a0_1 a2 x9_2 x12_4).bind fun t116 => (if x11_5.length < 17592186044416 then (spec_RegridTotal.l3 k5 a1 a2 x9_2 x10_3 (x11_5 ++ [wrap64 (t115 * t116)]) x12_4 (wrap64 (x13_5 + 1)) a0_0 a0_1 l0_2 t105 t106 x111002_3) else (none))) = some (r1, r2, r3, r4) := H
               have A38 := Aside0.mk A380; clear A380; replace H := Option.bind_eq_some_iff.mp H; obtain ⟨t116, A390, H⟩ := H
               replace H : (if x11_5.length < 17592186044416 then (spec_RegridTotal.l3 k5 a1 a2 x9_2 x10_3 (x11_5 ++ [wrap64 (t115 * t116)]) x12_4 (wrap64 (x13_5 + 1)) a0_0 a0_1 l0_2 t105 t106 x111002_3) else (none)) = some (r1, r2, r3, r4) := H
               have A39 := Aside0.mk A390; clear A390
               by_cases c40 : x11_5.length < 17592186044416
               ·
                rw [if_pos c40] at H; have LMc40 := Aside0.mk c40; clear c40
                obtain ⟨y117, hy117⟩ : ∃ y_ : List Int, y_ = (x11_5 ++ [wrap64 (t115 * t116)]) := ⟨_, rfl⟩
                replace H : (spec_RegridTotal.l3 k5 a1 a2 x9_2 x10_3 y117 x12_4 (wrap64 (x13_5 + 1)) a0_0 a0_1 l0_2 t105 t106 x111002_3) = some (r1, r2, r3, r4) := by first | (rw [hy117]; with_reducible exact H) | (have H2_ := (Option.bind_some _ _).symm.trans H; rw [hy117]; with_reducible exact H2_) | (have H2_ := (Option.bind_some _ _).symm.trans H; with_reducible exact H2_) | with_reducible exact H | (rw [hy117]; exact H) | exact H
                have Ny117 := Aside0.mk hy117; clear hy117; have H' := Aside0.mk H; clear H
                try go_wp2
                have n0_ := aK (Kd.R_drew HO_11.out); have n1_ := aK (Kd.R_drew HO_111002.out); have n2_ := aK (blk_drew BK101.out); have n3_ := aK (blk_drew BK102.out); have n4_ := aK (blk_drew BK110.out); have n5_ := aK (below_drew1 HB.out); clear HO_11 HO_111002 BK101 BK102 BK110 HB; have HO_11 := n0_; have HO_111002 := n1_; have BK101 := n2_; have BK102 := n3_; have BK110 := n4_; have HB := n5_; clear n0_ n1_ n2_ n3_ n4_ n5_
                refine start_ (n := 17) (S := fun w' => w'.cell? ⟨gb101, 0, none⟩ = some (.int .i64 a0_0) ∧ w'.cell? ⟨gb101, 1, none⟩ = some (.int .i64 a0_1) ∧ w'.cell? ⟨gb101, 2, none⟩ = some (.slice A0_2 l0_2.length c0_2)) (ds := []) #[false, false, false, false, false, false, false, false, false, false, false, false, false, false, false, false, false] (by kernel_rfl) rfl rfl (cz3 BK101.out) (fun hHeld => ?_); refine with_tabW spec_RegridTotal.tab17 spec_RegridTotal.bits17 (fun HT_ HW_ => ?_)
                generalize wr.drew = w41 at HO_11 HO_111002 BK101 BK102 BK110 HB hHeld ⊢
                refine pu (i := 0) (N := some 52) #[true, false, false, false, false, false, false, false, false, false, false, false, false, false, false, false, false] rfl rfl HT_.out ?_
                refine pu (i := 1) (N := some 53) #[true, true, false, false, false, false, false, false, false, false, false, false, false, false, false, false, false] rfl rfl HT_.out ?_
                refine pu (i := 3) (N := some 55) #[true, true, false, true, false, false, false, false, false, false, false, false, false, false, false, false, false] rfl rfl HT_.out ?_
                refine pu (i := 4) (N := some 56) #[true, true, false, true, true, false, false, false, false, false, false, false, false, false, false, false, false] rfl rfl HT_.out ?_
                refine pu (i := 5) (N := some 57) #[true, true, false, true, true, true, false, false, false, false, false, false, false, false, false, false, false] rfl rfl HT_.out ?_
                refine pu (i := 7) (N := some 59) #[true, true, false, true, true, true, false, true, false, false, false, false, false, false, false, false, false] rfl rfl HT_.out ?_
                refine pu (i := 9) (N := some 61) #[true, true, false, true, true, true, false, true, false, true, false, false, false, false, false, false, false] rfl rfl HT_.out ?_
                refine pu (i := 10) (N := some 62) #[true, true, false, true, true, true, false, true, false, true, true, false, false, false, false, false, false] rfl rfl HT_.out ?_
                refine pu (i := 11) (N := some 63) #[true, true, false, true, true, true, false, true, false, true, true, true, false, false, false, false, false] rfl rfl HT_.out ?_
                refine tk (i := 2) (N := some 54) #[true, true, true, true, true, true, false, true, false, true, true, true, false, false, false, false, false] rfl rfl HT_.out HW_.out (Or.inl ⟨by rfl, by rintro w' ⟨s0, s1, s2⟩; go_simp; with_reducible rfl⟩) hHeld ?_
                refine tk (i := 8) (N := some 60) #[true, true, true, true, true, true, false, true, true, true, true, true, false, false, false, false, false] rfl rfl HT_.out HW_.out (Or.inl ⟨by rfl, by rintro w' ⟨s0, s1, s2⟩; go_simp; with_reducible rfl⟩) hHeld ?_
                refine one_ (i := 6) (N := some 58) #[true, true, true, true, true, true, true, true, true, true, true, true, false, false, false, false, false] rfl rfl (one_of HT_.out (by kernel_rfl)) (by decide) (fun K hK => ?_)
                refine goes_ Try.func32 (by kernel_rfl) rfl #[.int .i64 a0_0, .int .i64 a1, .int .i64 x10_3, .int .i64 x13_5] (by rfl) rfl rfl (by (try simp only [List.map_toArray, List.map_cons, List.map_nil]); first | done | rfl | (simp only [List.length_drop, List.length_take]; rfl)) ?_
                with_reducible refine (spec_l7Overlap.calls a0_0 a1 x10_3 x13_5 t115 _ A38.out).mono ?_
                rintro e w' ⟨rfl, ⟨nd, rfl⟩⟩
                refine ⟨_, rfl, ?_⟩
                refine hK.out _ _ (cz3 BK101.out) (fun hHeld => ?_)
                clear hK K
                refine norm_ (a' := ?_) ?_ ?_
                rotate_left
                ·
                 show Act.put _ (some 58) _ = _
                 simp only [sP]
                 rfl
                refine one_ (i := 12) (N := some 64) #[true, true, true, true, true, true, true, true, true, true, true, true, true, false, false, false, false] rfl rfl (one_of HT_.out (by kernel_rfl)) (by decide) (fun K hK => ?_)
                refine goes_ Try.func32 (by kernel_rfl) rfl #[.int .i64 a0_1, .int .i64 a2, .int .i64 x9_2, .int .i64 x12_4] (by rfl) rfl rfl (by (try simp only [List.map_toArray, List.map_cons, List.map_nil]); first | done | rfl | (simp only [List.length_drop, List.length_take]; rfl)) ?_
                with_reducible refine (spec_l7Overlap.calls a0_1 a2 x9_2 x12_4 t116 _ A39.out).mono ?_
                rintro e w' ⟨rfl, ⟨nd, rfl⟩⟩
                refine ⟨_, rfl, ?_⟩
                refine hK.out _ _ (cz3 BK101.out) (fun hHeld => ?_)
                clear hK K
                refine norm_ (a' := ?_) ?_ ?_
                rotate_left
                ·
                 show Act.put _ (some 64) _ = _
                 simp only [sP]
                 rfl
                refine pu (i := 13) (N := some 65) #[true, true, true, true, true, true, true, true, true, true, true, true, true, true, false, false, false] rfl rfl HT_.out ?_
                refine one_ (i := 14) (N := some 66) #[true, true, true, true, true, true, true, true, true, true, true, true, true, true, true, false, false] rfl rfl (one_of HT_.out (by kernel_rfl)) (by decide) (fun K hK => ?_)
                refine value_ (w1 := ?_) (v := ?_) (by rfl) rfl ?_ ?_
                rotate_left 2
                ·
                 go_simp
                 constructor
                 ·
                  rfl
                 rfl
                refine hK.out _ _ ⟨(blk_cell (blk_alloc BK101.out _) 0).trans rfl, (blk_cell (blk_alloc BK101.out _) 1).trans rfl, (blk_cell (blk_alloc BK101.out _) 2).trans rfl⟩ (fun hHeld => ?_)
                clear hK K
                refine norm_ (a' := ?_) ?_ ?_
                rotate_left
                ·
                 show Act.put _ (some 66) _ = _
                 simp only [sP]
                 rfl
                refine one_ (i := 15) (N := some 67) #[true, true, true, true, true, true, true, true, true, true, true, true, true, true, true, true, false] rfl rfl (one_of HT_.out (by kernel_rfl)) (by decide) (fun K hK => ?_)
                refine Kd.R_append_step (Kd.int .i64) (w0 := w) w.heap.size (by rfl) (.tmp 52) (.tmp 66) 24 3 (.int .i64 0) 8 rfl Try.underlying24 info3 rfl (by decide) (by omega) u11 x11_5 (wrap64 (t115 * t116)) [.int .i64 (wrap64 (t115 * t116))] (fun k_ => some k_ ≠ (u111002 : Value).ownBlock) (fun _ => False) rfl rfl ?aP (fun _ hk => hk.elim) ?aF ?aO ?aB ?aS ?aL ?_
                (case aP => exact rfl)
                (case aB => exact (pS HB.out))
                (case aF => exact (fun k_ hk => Kd.fresh' (Kd.R_lt (pR HO_111002.out)) k_ hk))
                (case aO => exact (pR HO_11.out))
                (case aS => exact (below_size (pS HB.out)))
                (case aL => have := LMc40.out; omega)
                intro v118 w42 ho hb hg hat
                rw [← Ny117.out] at ho
                have n0_ := aK (Kd.R_after (ok := (fun _ => True)) (pR (Kd.R_mono HO_111002.out (fun _ hk => ⟨trivial, hk⟩))) hg hat)
                have n1_ := aK (blk_grown (pB BK101.out) hg (Kd.R_ne HO_11.out BK101.out (by decide)))
                have n2_ := aK (blk_grown (pB BK102.out) hg (Kd.R_ne HO_11.out BK102.out (by decide)))
                have n3_ := aK (blk_grown (pB BK110.out) hg (Kd.R_ne HO_11.out BK110.out (by decide)))
                have n4_ := aK (hb); have HO119 := aK (ho); clear HO_111002 BK101 BK102 BK110 HB HO_11; have HO_111002 := n0_; have BK101 := n1_; have BK102 := n2_; have BK110 := n3_; have HB := n4_; clear n0_ n1_ n2_ n3_ n4_ ho hb hg hat
                refine hK.out _ _ (cz3 BK101.out) (fun hHeld => ?_)
                clear hK K
                refine norm_ (a' := ?_) ?_ ?_
                rotate_left
                ·
                 show Act.put _ (some 67) _ = _
                 simp only [sP]
                 rfl
                refine pu (i := 16) (N := some 11) #[true, true, true, true, true, true, true, true, true, true, true, true, true, true, true, true, true] rfl rfl HT_.out ?_
                refine done_ (done_of HT_.out (by kernel_rfl)) ?_
                try go_wp2
                go_roundg k5
                case measure => have := HJ3.out; have := HK2.out; have := HK3.out; have := HK4.out; have := HK5.out; omega
                case rel => exact ⟨(y117), (wrap64 (x13_5 + 1)), (by first | rfl | (simp; done) | (simp [*]; done)), H', ⟨by have := HJ3.out; have := HK2.out; have := HK3.out; have := HK4.out; have := HK5.out; omega⟩, ⟨pR HO119.out⟩, ⟨pR (Kd.R_mono HO_111002.out (fun _ hk => hk.2))⟩, ⟨by refine bk ?_; exact BK101.out⟩, ⟨by refine bk ?_; exact BK102.out⟩, ⟨by refine bk ?_; exact BK110.out⟩, ⟨pT HB.out⟩⟩
               rw [if_neg c40] at H
               exact absurd H (by simp)
              rw [if_neg c37] at H
              have c37b0 : decide (x13_5 < a1) = false := decide_eq_false c37
              clear c37; have H' := Aside0.mk H; clear H
              go_wp2
              go_roundg k5
              case measure => have := HJ3.out; have := HK2.out; have := HK3.out; have := HK4.out; have := HK5.out; omega
              case rel => exact ⟨(x11_5), (wrap64 (x12_4 + 1)), (by first | rfl | (simp; done) | (simp [*]; done)), H', ⟨by have := HJ3.out; have := HK2.out; have := HK3.out; have := HK4.out; have := HK5.out; omega⟩, ⟨pR HO_11.out⟩, ⟨pR HO_111002.out⟩, ⟨by refine bk ?_; exact BK101.out⟩, ⟨by refine bk ?_; exact BK102.out⟩, ⟨by refine bk ?_; exact BK110.out⟩, ⟨pT HB.out⟩⟩
           rw [if_neg c36] at H
           have c36b0 : decide (x12_4 < a2) = false := decide_eq_false c36
           clear c36; replace H := Option.bind_eq_some_iff.mp H; obtain ⟨t120, A430, H⟩ := H
           replace H : ((spec_l7Split.f k4 t120 x11_4).bind fun t121 => (spec_RegridTotal.l4 k4 a1 a2 x9_2 x10_3 t121 0 a0_0 a0_1 l0_2 t105 t106 x111002_3)) = some (r1, r2, r3, r4) := H
           have A43 := Aside0.mk A430; clear A430; replace H := Option.bind_eq_some_iff.mp H; obtain ⟨t121, A440, H⟩ := H
           replace H : (spec_RegridTotal.l4 k4 a1 a2 x9_2 x10_3 t121 0 a0_0 a0_1 l0_2 t105 t106 x111002_3) = some (r1, r2, r3, r4) := H
           have A44 := Aside0.mk A440; clear A440; have H' := Aside0.mk H; clear H; have hnb45 := NB101_102.out; have hnc45 := NB102_101.out; have hnb46 := NB101_110.out; have hnc46 := NB110_101.out; obtain ⟨hcz47_0, hcz47_1, hcz47_2, hfz47_0, hfz47_1, hfz47_2⟩ := bc3 BK101.out
           go_wp2_with (first | ((with_reducible refine gate_callee (f := 34) rfl ?_); refine gl (some 71) Try.func34 #[.agg #[.int .i64 a0_0, .int .i64 a0_1, .slice A0_2 l0_2.length c0_2], .int .i64 x10_3, .int .i64 x9_2] ?_; (with_reducible refine (spec_l2At.calls a0_0 a0_1 _ _ l0_2 x10_3 x9_2 t120 _ ?side1 ?side2 A43.out).mono ?_); (case side1 => exact pC (Kd.C_below HR0_2.out HB.out)); (case side2 => exact HC0_2.out); rintro e w48 ⟨rfl, hb⟩; refine ⟨_, rfl, ?_⟩; have n0_ := aK (Kd.R_below (pR HO_11.out) hb); have n1_ := aK (Kd.R_below (pR HO_111002.out) hb); replace BK101 := bB BK101 hb; replace BK102 := bB BK102 hb; replace BK110 := bB BK110 hb; replace HB := bS HB hb; clear HO_11 HO_111002; have HO_11 := n0_; have HO_111002 := n1_; clear n0_ n1_; (try clear hb); obtain ⟨Ao49, co49, eo49⟩ := Kd.R_slice HO_11.out; subst eo49) | ((with_reducible refine gate_callee (f := 33) rfl ?_); refine gl (some 73) Try.func33 #[.int .i64 t120, .slice Ao49 x11_4.length co49] ?_; (with_reducible refine (spec_l7Split.calls k4 t120 _ _ x11_4 t121 _ ?side1 ?side2 A44.out).mono ?_); (case side1 => exact pC (Kd.R_reads' HO_11.out).2.2); (case side2 => exact (Kd.R_reads' HO_11.out).2.1); rintro e w50 ⟨v122, rfl, ho0, hb⟩; refine ⟨_, rfl, ?_⟩; have n0_ := aK (Kd.R_elder' (pR HO_11.out) (Kd.R_base ho0) hb); have n1_ := aK (Kd.R_elder' (pR HO_111002.out) (Kd.R_base ho0) hb); have HO123 := aK (Kd.R_lower (nw2 ho0 (pR HO_11.out) (pR HO_111002.out)) (below_size (pS HB.out))); replace BK101 := bB BK101 hb; replace BK102 := bB BK102 hb; replace BK110 := bB BK110 hb; replace HB := bS HB hb; clear HO_11 HO_111002; have HO_11 := n0_; have HO_111002 := n1_; clear n0_ n1_; (try clear hb); (try clear ho0)))
           go_loopg [15] k4 (fun kq v15 w' => ∃ (x14_5 : List Int) (x15_5 : Int) (x111002_5 : List Int) (u111002 : Value), v15 = .int .i64 x15_5 ∧ Aside0 (spec_RegridTotal.l4 kq a1 a2 x9_2 x10_3 x14_5 x15_5 a0_0 a0_1 l0_2 t105 t106 x111002_5 = some (r1, r2, r3, r4)) ∧ Aside0 (kq ≤ k4) ∧ Aside0 (Kd.R (Kd.int .i64) 3 w' w.heap.size (fun k_ => some k_ ≠ (u111002 : Value).ownBlock) v122 x14_5) ∧ Aside0 (Kd.R (Kd.int .i64) 3 w' w.heap.size (fun k_ => some k_ ≠ (v122 : Value).ownBlock) u111002 x111002_5) ∧ Aside0 (w'.heap[gb101]? = some (.cells #[.int .i64 a0_0, .int .i64 a0_1, (.slice A0_2 l0_2.length c0_2)] 26 (0, 0))) ∧ Aside0 (w'.heap[gb102]? = some (.cells #[.int .i64 0, .int .i64 0, (.slice none 0 0)] 26 (0, 0))) ∧ Aside0 (w'.heap[gb110]? = some (.cells #[.int .i64 t105, .int .i64 t106, u111002] 26 (0, 0))) ∧ Aside0 (Below w.heap.size w w'))
           case atStart => exact ⟨(t121), (0), (x111002_3), (u111002), (by first | rfl | (simp; done) | (simp [*]; done)), H', ⟨Nat.le_refl _⟩, ⟨pR (Kd.R_mono HO123.out (fun _ hk => hk.2))⟩, ⟨pR (Kd.R_mono HO_111002.out (fun _ hk => hk.2))⟩, ⟨by refine bk ?_; exact BK101.out⟩, ⟨by refine bk ?_; exact BK102.out⟩, ⟨by refine bk ?_; exact BK110.out⟩, ⟨pT HB.out⟩⟩
           case round =>
            clear H'
            try clear c36b0
            try clear hcz47_0
            try clear hcz47_1
            try clear hcz47_2
            try clear hfz47_0
            try clear hfz47_1
            try clear hfz47_2
            obtain ⟨x14_5, x15_5, x111002_5, u111002, rfl, HA, HK5, HO_14, HO_111002, BK101, BK102, BK110, HB⟩ := hrel
            cases gk with
            | zero => exact absurd HA.out (by simp [spec_RegridTotal.l4])
            | succ k5 =>
             have H := HA.out; clear HA
             simp only [spec_RegridTotal.l4] at H
             by_cases c51 : x15_5 < (x14_5.length : Int)
             ·
              rw [if_pos c51] at H
              have c51b0 : decide (x15_5 < (x14_5.length : Int)) = true := decide_eq_true c51
              clear c51
              by_cases c52 : 0 ≤ x15_5
              ·
               rw [if_pos c52] at H
               have c52b0 : decide (0 ≤ x15_5) = true := decide_eq_true c52
               clear c52
               by_cases c53 : x15_5 < (x111002_5.length : Int)
               ·
                rw [if_pos c53] at H
                have c53b0 : decide (x15_5 < (x111002_5.length : Int)) = true := decide_eq_true c53
                clear c53
                obtain ⟨y126, hy126⟩ : ∃ y_ : List Int, y_ = (x111002_5.set (x15_5 : Int).toNat (wrap64 ((rd x111002_5 x15_5) + (rd x14_5 x15_5)))) := ⟨_, rfl⟩
                replace H : (spec_RegridTotal.l4 k5 a1 a2 x9_2 x10_3 x14_5 (wrap64 (x15_5 + 1)) a0_0 a0_1 l0_2 t105 t106 y126) = some (r1, r2, r3, r4) := by first | (rw [hy126]; with_reducible exact H) | (have H2_ := (Option.bind_some _ _).symm.trans H; rw [hy126]; with_reducible exact H2_) | (have H2_ := (Option.bind_some _ _).symm.trans H; with_reducible exact H2_) | with_reducible exact H | (rw [hy126]; exact H) | exact H
                have Ny126 := Aside0.mk hy126; clear hy126; have H' := Aside0.mk H; clear H; obtain ⟨Ao55, co55, eo55⟩ := Kd.R_slice HO_14.out; subst eo55
                try go_wp2
                have n0_ := aK (Kd.R_drew HO_14.out); have n1_ := aK (Kd.R_drew HO_111002.out); have n2_ := aK (blk_drew BK101.out); have n3_ := aK (blk_drew BK102.out); have n4_ := aK (blk_drew BK110.out); have n5_ := aK (below_drew1 HB.out); clear HO_14 HO_111002 BK101 BK102 BK110 HB; have HO_14 := n0_; have HO_111002 := n1_; have BK101 := n2_; have BK102 := n3_; have BK110 := n4_; have HB := n5_; clear n0_ n1_ n2_ n3_ n4_ n5_; obtain ⟨Ao57, co57, eo57⟩ := Kd.R_slice HO_111002.out
                (first | subst eo57 | (obtain ⟨f4_, f5_⟩ := sI eo57; subst f4_; subst f5_))
                have p124 : 0 ≤ (x15_5 : Int) := of_decide_eq_true (by first | (with_reducible assumption) | assumption)
                have q124 : x15_5 < (x111002_5.length : Int) := of_decide_eq_true (by first | (with_reducible assumption) | assumption)
                obtain ⟨ad124, e124, hx124_0⟩ := Kd.at_int (Kd.R_reads' HO_111002.out).2.2 x15_5 p124 q124; cases e124; replace p124 := eq_true p124; replace q124 := eq_true q124
                have p125 : 0 ≤ (x15_5 : Int) := of_decide_eq_true (by first | (with_reducible assumption) | assumption)
                have q125 : x15_5 < (x14_5.length : Int) := of_decide_eq_true (by first | (with_reducible assumption) | assumption)
                obtain ⟨ad125, e125, hx125_0⟩ := Kd.at_int (Kd.R_reads' HO_14.out).2.2 x15_5 p125 q125; cases e125; replace p125 := eq_true p125; replace q125 := eq_true q125
                have p54 : 0 ≤ (x15_5 : Int) := of_decide_eq_true (by first | (with_reducible assumption) | assumption)
                have q54 : (x15_5 : Int) < ((x111002_5.length : Int) : Int) := of_decide_eq_true (by first | (with_reducible assumption) | assumption)
                obtain ⟨go54, co54, eo54, gb54, gl54, cl54, HG54⟩ := Kd.R_form HO_111002.out (by omega)
                (first | cases eo54 | (injection eo54 with ea_ en_ ec_; (first | subst ea_ | (injection ea_ with ea_; subst ea_)); subst ec_; clear en_))
                have GB54 := Aside0.mk gb54; have GG54 := Aside0.mk HG54; clear gb54 gl54 HG54
                (first | simp only [add_plain] at hx124_0 | skip)
                obtain ⟨hx54_0, hf54_0⟩ := Kd.R_celln 0 HO_111002.out (x15_5 : Int) p54 q54; replace p54 := eq_true p54; replace q54 := eq_true q54; have HP58 := Kd.R_putn HO_111002.out (x15_5 : Int) (wrap64 ((rd x111002_5 x15_5) + (rd x14_5 x15_5))); rw [← Ny126.out] at HP58; have HQ58 := Aside0.mk HP58; clear HP58
                refine start_ (n := 15) (S := fun w' => w'.cell? ⟨gb110, 0, none⟩ = some (.int .i64 t105) ∧ w'.cell? ⟨gb110, 1, none⟩ = some (.int .i64 t106) ∧ w'.cell? ⟨gb110, 2, none⟩ = some (.slice (some ⟨go54, 0, none⟩) x111002_5.length co57) ∧ w'.cell? ⟨go54, (x15_5).toNat, none⟩ = some (.int .i64 (rd x111002_5 x15_5)) ∧ w'.cell? (ad125.add (x15_5).toNat) = some (.int .i64 (rd x14_5 x15_5))) (ds := [14]) #[false, false, false, false, false, false, false, false, false, false, false, false, false, false, false] (by kernel_rfl) rfl rfl ⟨(blk_cell BK110.out 0).trans rfl, (blk_cell BK110.out 1).trans rfl, (blk_cell BK110.out 2).trans rfl, hx124_0, hx125_0⟩ (fun hHeld => ?_); refine with_tabW spec_RegridTotal.tab22 spec_RegridTotal.bits22 (fun HT_ HW_ => ?_)
                generalize wr.drew = w56 at HO_14 HO_111002 BK101 BK102 BK110 HB GG54 HQ58 hf54_0 hx124_0 hx125_0 hx54_0 hHeld ⊢
                refine pu (i := 0) (N := some 80) #[true, false, false, false, false, false, false, false, false, false, false, false, false, false, false] rfl rfl HT_.out ?_
                refine pu (i := 2) (N := some 82) #[true, false, true, false, false, false, false, false, false, false, false, false, false, false, false] rfl rfl HT_.out ?_
                refine pu (i := 3) (N := some 83) #[true, false, true, true, false, false, false, false, false, false, false, false, false, false, false] rfl rfl HT_.out ?_
                refine pu (i := 5) (N := some 85) #[true, false, true, true, false, true, false, false, false, false, false, false, false, false, false] rfl rfl HT_.out ?_
                refine pu (i := 8) (N := some 88) #[true, false, true, true, false, true, false, false, true, false, false, false, false, false, false] rfl rfl HT_.out ?_
                refine pu (i := 9) (N := some 89) #[true, false, true, true, false, true, false, false, true, true, false, false, false, false, false] rfl rfl HT_.out ?_
                refine pu (i := 10) (N := some 90) #[true, false, true, true, false, true, false, false, true, true, true, false, false, false, false] rfl rfl HT_.out ?_
                refine tk (i := 1) (N := some 81) #[true, true, true, true, false, true, false, false, true, true, true, false, false, false, false] rfl rfl HT_.out HW_.out (Or.inl ⟨by rfl, by rintro w' ⟨s0, s1, s2, s3, s4⟩; go_simp; with_reducible rfl⟩) hHeld ?_
                refine tk (i := 4) (N := some 84) #[true, true, true, true, true, true, false, false, true, true, true, false, false, false, false] rfl rfl HT_.out HW_.out (Or.inl ⟨by rfl, by rintro w' ⟨s0, s1, s2, s3, s4⟩; go_simp; with_reducible rfl⟩) hHeld ?_
                refine pu (i := 6) (N := some 86) #[true, true, true, true, true, true, true, false, true, true, true, false, false, false, false] rfl rfl HT_.out ?_
                refine tk (i := 7) (N := some 87) #[true, true, true, true, true, true, true, true, true, true, true, false, false, false, false] rfl rfl HT_.out HW_.out (Or.inl ⟨by rfl, by rintro w' ⟨s0, s1, s2, s3, s4⟩; go_simp; with_reducible rfl⟩) hHeld ?_
                refine tk (i := 11) (N := some 91) #[true, true, true, true, true, true, true, true, true, true, true, true, false, false, false] rfl rfl HT_.out HW_.out (Or.inl ⟨by rfl, by rintro w' ⟨s0, s1, s2, s3, s4⟩; go_simp; with_reducible rfl⟩) hHeld ?_
                refine pu (i := 12) (N := some 92) #[true, true, true, true, true, true, true, true, true, true, true, true, true, false, false] rfl rfl HT_.out ?_
                refine pu (i := 13) (N := some 93) #[true, true, true, true, true, true, true, true, true, true, true, true, true, true, false] rfl rfl HT_.out ?_
                refine last_ (i := 14) (N := none) #[true, true, true, true, true, true, true, true, true, true, true, true, true, true, true] rfl rfl (one_of HT_.out (by kernel_rfl)) (by decide) (fun K hK => ?_)
                refine skip_ (w1 := ?_) (by rfl) rfl ?_ ?_
                rotate_left
                ·
                 go_simp
                 rfl
                refine hK.out _ _ ?_
                clear hK K
                refine done_ (done_of HT_.out (by kernel_rfl)) ?_
                try go_wp2
                go_roundg k5
                case measure => have := HJ3.out; have := HK2.out; have := HK3.out; have := HK4.out; have := HK5.out; omega
                case rel => exact ⟨(x14_5), (wrap64 (x15_5 + 1)), (y126), (.slice (some ⟨go54, 0, none⟩) x111002_5.length co57), (by first | rfl | (simp; done) | (simp [*]; done)), H', ⟨by have := HJ3.out; have := HK2.out; have := HK3.out; have := HK4.out; have := HK5.out; omega⟩, ⟨by (with_reducible repeat (first | apply Kd.R_alloc | apply Kd.R_drewN | apply Kd.R_drew)); exact Kd.R_mono (Kd.R_far (p := ⟨go54, (x15_5 : Int).toNat, none⟩) (Kd.R_mono HO_14.out (fun k_ hk => (⟨hk, fun e_ => hk (by rw [e_]; rfl)⟩ : _ ∧ k_ ≠ go54))) (fun _ hk => hk.2) (.int .i64 (wrap64 ((rd x111002_5 x15_5) + (rd x14_5 x15_5))))) (fun _ hk => hk.1)⟩, ⟨pR HQ58.out⟩, ⟨by refine bk ?_; refine blk_far ?_ (by have h_ := Kd.R_ne HO_111002.out BK101.out (by decide); intro e_; exact h_ (by rw [e_]; rfl)) _; refine bk ?_; exact BK101.out⟩, ⟨by refine bk ?_; refine blk_far ?_ (by have h_ := Kd.R_ne HO_111002.out BK102.out (by decide); intro e_; exact h_ (by rw [e_]; rfl)) _; refine bk ?_; exact BK102.out⟩, ⟨by refine bk ?_; refine blk_far ?_ (by have h_ := Kd.R_ne HO_111002.out BK110.out (by decide); intro e_; exact h_ (by rw [e_]; rfl)) _; refine bk ?_; exact BK110.out⟩, ⟨by repeat (first | (with_reducible first | exact HB.out | apply below_alloc | apply pw_below_drewN | apply below_drew1 | refine below_set ?_ GB54.out | refine below_set ?_ GE101.out | refine below_set ?_ GE102.out | refine below_set ?_ GE110.out) | exact HB.out)⟩⟩
               rw [if_neg c53] at H
               exact absurd H (by simp)
              rw [if_neg c52] at H
              exact absurd H (by simp)
             rw [if_neg c51] at H
             have c51b0 : decide (x15_5 < (x14_5.length : Int)) = false := decide_eq_false c51
             clear c51; have H' := Aside0.mk H; clear H; obtain ⟨Ao59, co59, eo59⟩ := Kd.R_slice HO_14.out; subst eo59
             go_wp2
             go_roundg k5
             case measure => have := HJ3.out; have := HK2.out; have := HK3.out; have := HK4.out; have := HK5.out; omega
             case rel => exact ⟨(wrap64 (x10_3 + 1)), (x111002_5), (u111002), (by first | rfl | (simp; done) | (simp [*]; done)), H', ⟨by have := HJ3.out; have := HK2.out; have := HK3.out; have := HK4.out; have := HK5.out; omega⟩, ⟨pR (Kd.R_mono HO_111002.out (fun _ hk => trivial))⟩, ⟨by refine bk ?_; exact BK101.out⟩, ⟨by refine bk ?_; exact BK102.out⟩, ⟨by refine bk ?_; exact BK110.out⟩, ⟨pT HB.out⟩⟩
        rw [if_neg c30] at H
        have c30b0 : decide (x10_3 < a0_0) = false := decide_eq_false c30
        clear c30; have H' := Aside0.mk H; clear H; have hnb60 := NB101_102.out; have hnc60 := NB102_101.out; have hnb61 := NB101_110.out; have hnc61 := NB110_101.out; obtain ⟨hcz62_0, hcz62_1, hcz62_2, hfz62_0, hfz62_1, hfz62_2⟩ := bc3 BK101.out
        go_wp2
        go_roundg k3
        case measure => have := HJ3.out; have := HK2.out; have := HK3.out; omega
        case rel => exact ⟨(wrap64 (x9_2 + 1)), (x111002_3), (u111002), (by first | rfl | (simp; done) | (simp [*]; done)), H', ⟨by have := HJ3.out; have := HK2.out; have := HK3.out; omega⟩, ⟨pR HO_111002.out⟩, ⟨by refine bk ?_; exact BK101.out⟩, ⟨by refine bk ?_; exact BK102.out⟩, ⟨by refine bk ?_; exact BK110.out⟩, ⟨pT HB.out⟩⟩
     rw [if_neg c26] at H
     have c26b0 : decide (x9_2 < a0_1) = false := decide_eq_false c26
     clear c26; replace H := Option.bind_eq_some_iff.mp H; obtain ⟨t111, A630, H⟩ := H
     replace H : (if t111 = true then (some (t105, t106, x111002_2, true)) else (some (0, 0, ([] : List Int), false))) = some (r1, r2, r3, r4) := H
     have A63 := Aside0.mk A630; clear A630
     by_cases c64 : t111 = true
     ·
      subst c64
      have H1 : (some (t105, t106, x111002_2, true)) = some (r1, r2, r3, r4) := by rw [if_pos rfl] at H; exact H
      clear H; have H := H1; clear H1
      simp only [Option.some.injEq, Prod.mk.injEq] at H
      obtain ⟨rfl, rfl, rfl, rfl⟩ := H; have hnb65 := NB101_102.out; have hnc65 := NB102_101.out; have hnb66 := NB101_110.out; have hnc66 := NB110_101.out; obtain ⟨hcz67_0, hcz67_1, hcz67_2, hfz67_0, hfz67_1, hfz67_2⟩ := bc3 BK101.out; have hnb68 := NB110_102.out; have hnc68 := NB102_110.out; obtain ⟨hcz69_0, hcz69_1, hcz69_2, hfz69_0, hfz69_1, hfz69_2⟩ := bc3 BK110.out; obtain ⟨Ao70, co70, eo70⟩ := Kd.R_slice HO_111002.out; subst eo70
      go_wp2_with (first | ((with_reducible refine gate_callee (f := 29) rfl ?_); refine gl (some 95) Try.func29 #[.agg #[.int .i64 t105, .int .i64 t106, .slice Ao70 x111002_2.length co70]] ?_; (with_reducible refine (spec_l7Full.calls k2 t105 t106 _ _ x111002_2 true _ ?side1 ?side2 A63.out).mono ?_); (case side1 => exact pC (Kd.R_reads' HO_111002.out).2.2); (case side2 => exact (Kd.R_reads' HO_111002.out).2.1); rintro e w71 ⟨rfl, hb⟩; refine ⟨_, rfl, ?_⟩; have n0_ := aK (Kd.R_below (pR HO_111002.out) hb); replace BK101 := bB BK101 hb; replace BK102 := bB BK102 hb; replace BK110 := bB BK110 hb; replace HB := bS HB hb; clear HO_111002; have HO_111002 := n0_; clear n0_; (try clear hb); obtain ⟨hcz72_0, hcz72_1, hcz72_2, hfz72_0, hfz72_1, hfz72_2⟩ := bc3 BK110.out; obtain ⟨hcz73_0, hcz73_1, hcz73_2, hfz73_0, hfz73_1, hfz73_2⟩ := bc3 BK102.out))
      refine bodyPost_ret (results_ct rfl _ _ gb102 26 #[.int .i64 t105, .int .i64 t106, .slice Ao70 x111002_2.length co70] (0, 0) _ rfl (by refine bk ?_; refine blk_put (cs := #[.int .i64 t105, .int .i64 t106, .slice none 0 0]) ?_ 2 _ rfl; refine bk ?_; refine blk_put (cs := #[.int .i64 t105, .int .i64 0, .slice none 0 0]) ?_ 1 _ rfl; refine bk ?_; refine blk_put (cs := #[.int .i64 0, .int .i64 0, .slice none 0 0]) ?_ 0 _ rfl; refine bk ?_; exact BK102.out) Try.underlying26 rfl (by kernel_rfl)) rfl ?_
      exact ⟨_, er, by (with_reducible repeat (first | apply Kd.R_alloc | apply Kd.R_drewN | apply Kd.R_drew)); exact Kd.R_mono (rF3 HO_111002.out BK102.out (.int .i64 t105) (.int .i64 t106) (.slice Ao70 x111002_2.length co70)) (fun _ h => trivial), pT HB.out⟩
     replace c64 := Bool.eq_false_iff.mpr c64; subst c64
     have H1 : (some (0, 0, ([] : List Int), false)) = some (r1, r2, r3, r4) := by rw [if_neg (show ¬ (false = true) by decide)] at H; exact H
     clear H; have H := H1; clear H1
     simp only [Option.some.injEq, Prod.mk.injEq] at H
     obtain ⟨rfl, rfl, rfl, rfl⟩ := H; have hnb74 := NB101_102.out; have hnc74 := NB102_101.out; have hnb75 := NB101_110.out; have hnc75 := NB110_101.out; obtain ⟨hcz76_0, hcz76_1, hcz76_2, hfz76_0, hfz76_1, hfz76_2⟩ := bc3 BK101.out; have hnb77 := NB110_102.out; have hnc77 := NB102_110.out; obtain ⟨hcz78_0, hcz78_1, hcz78_2, hfz78_0, hfz78_1, hfz78_2⟩ := bc3 BK110.out; obtain ⟨Ao79, co79, eo79⟩ := Kd.R_slice HO_111002.out; subst eo79
     go_wp2_with (first | ((with_reducible refine gate_callee (f := 29) rfl ?_); refine gl (some 95) Try.func29 #[.agg #[.int .i64 t105, .int .i64 t106, .slice Ao79 x111002_2.length co79]] ?_; (with_reducible refine (spec_l7Full.calls k2 t105 t106 _ _ x111002_2 false _ ?side1 ?side2 A63.out).mono ?_); (case side1 => exact pC (Kd.R_reads' HO_111002.out).2.2); (case side2 => exact (Kd.R_reads' HO_111002.out).2.1); rintro e w80 ⟨rfl, hb⟩; refine ⟨_, rfl, ?_⟩; have n0_ := aK (Kd.R_below (pR HO_111002.out) hb); replace BK101 := bB BK101 hb; replace BK102 := bB BK102 hb; replace BK110 := bB BK110 hb; replace HB := bS HB hb; clear HO_111002; have HO_111002 := n0_; clear n0_; (try clear hb); obtain ⟨hcz81_0, hcz81_1, hcz81_2, hfz81_0, hfz81_1, hfz81_2⟩ := bc3 BK102.out))
     refine bodyPost_ret (results_ct rfl _ _ gb102 26 #[.int .i64 0, .int .i64 0, .slice none 0 0] (0, 0) _ rfl (by refine bk ?_; refine blk_put (cs := #[.int .i64 0, .int .i64 0, .slice none 0 0]) ?_ 2 _ rfl; refine bk ?_; refine blk_put (cs := #[.int .i64 0, .int .i64 0, .slice none 0 0]) ?_ 1 _ rfl; refine bk ?_; refine blk_put (cs := #[.int .i64 0, .int .i64 0, .slice none 0 0]) ?_ 0 _ rfl; refine bk ?_; exact BK102.out) Try.underlying26 rfl (by kernel_rfl)) rfl ?_
     exact ⟨_, er, by first | exact Kd.R_nil _ _ _ _ _ | exact Kd.N_nil _ _ _ _ _ | exact Kd.V_nil _ _ _ _ _ | exact Kd.Q_nil _ _ _ _ _ | exact Kd.S_nil _ _ _ _ _, pT HB.out⟩
def laws_vField.f (k : Nat) (a0_0 : Int) (a0_1 : Int) (l0_2 : List Int) (a1_0 : Int) (a1_1 : Int) (l1_2 : List Int) : Option (Bool) := if a0_0 = a1_0 then (if a0_1 = a1_1 then ((laws_vInts.f k l0_2 l1_2).bind fun t103 => (some t103)) else (some false)) else (some false)
theorem laws_vField.calls (k : Nat) (a0_0 : Int) (a0_1 : Int) (A0_2 : Option Addr) (c0_2 : Nat) (l0_2 : List Int) (a1_0 : Int) (a1_1 : Int) (A1_2 : Option Addr) (c1_2 : Nat) (l1_2 : List Int) (r : Bool) (w : World) (hr0_2 : Kd.C (Kd.int .i64) w A0_2 l0_2.length l0_2) (hc0_2 : l0_2.length ≤ c0_2) (hr1_2 : Kd.C (Kd.int .i64) w A1_2 l1_2.length l1_2) (hc1_2 : l1_2.length ≤ c1_2) (h : laws_vField.f k a0_0 a0_1 l0_2 a1_0 a1_1 l1_2 = some r) :
  Calls Try.prog 8 #[.agg #[.int .i64 a0_0, .int .i64 a0_1, .slice A0_2 l0_2.length c0_2], .agg #[.int .i64 a1_0, .int .i64 a1_1, .slice A1_2 l1_2.length c1_2]] w fun e w' => e = .returned (.bool r) ∧ Below w.heap.size w w' := by
 have hu26 := Try.underlying26
 have HR0_2 := Aside0.mk hr0_2
 have HC0_2 := Aside0.mk hc0_2
 clear hr0_2 hc0_2
 have HR1_2 := Aside0.mk hr1_2
 have HC1_2 := Aside0.mk hc1_2
 clear hr1_2 hc1_2
 have HB := aK (Below.refl w.heap.size w)
 have H : (if a0_0 = a1_0 then (if a0_1 = a1_1 then ((laws_vInts.f k l0_2 l1_2).bind fun t103 => (some t103)) else (some false)) else (some false)) = some r := h
 clear h
 by_cases c3 : a0_0 = a1_0
 ·
  rw [if_pos c3] at H
  have c3b0 : (a0_0 == a1_0) = true := beq_iff_eq.mpr c3
  have c3b1 : (a0_0 != a1_0) = false := bne_eq_false_iff_eq.mpr c3
  clear c3
  by_cases c4 : a0_1 = a1_1
  ·
   rw [if_pos c4] at H
   have c4b0 : (a0_1 == a1_1) = true := beq_iff_eq.mpr c4
   have c4b1 : (a0_1 != a1_1) = false := bne_eq_false_iff_eq.mpr c4
   clear c4; replace H := Option.bind_eq_some_iff.mp H; obtain ⟨t103, A50, H⟩ := H
   replace H : (some t103) = some r := H
   have A5 := Aside0.mk A50; clear A50
   obtain rfl := Option.some.inj H
   go_enter Try.func8, Try.ntmps8
   go_wp2_with (first | ((with_reducible refine gate_dst (N := 2) rfl ?_); refine bxe (cs := #[.int .i64 a0_0, .int .i64 a0_1, .slice A0_2 l0_2.length c0_2]) (t := 26) ?_; intro gb101 hg w6 hbox hb; have BK101 := aK (hbox); have GW101 := aK (gE hg (pS HB.out)); have GE101 := GW101; replace HB := bS HB hb; clear hb hbox hg) | ((with_reducible refine gate_dst (N := 3) rfl ?_); refine bxe (cs := #[.int .i64 a1_0, .int .i64 a1_1, .slice A1_2 l1_2.length c1_2]) (t := 26) ?_; intro gb102 hg w7 hbox hb; have BK102 := aK (hbox); have GW102 := aK (gE hg (pS HB.out)); have GE102 := GW102; obtain ⟨NB101_102, NB102_101⟩ := nb hg (pB BK101.out); replace BK101 := bB BK101 hb; replace HB := bS HB hb; clear hb hbox hg; have hnb8 := NB101_102.out; have hnc8 := NB102_101.out; obtain ⟨hcz9_0, hcz9_1, hcz9_2, hfz9_0, hfz9_1, hfz9_2⟩ := bc3 BK101.out; obtain ⟨hcz10_0, hcz10_1, hcz10_2, hfz10_0, hfz10_1, hfz10_2⟩ := bc3 BK102.out) | (go_at_call 18; (with_reducible refine (laws_vInts.calls k _ _ l0_2 _ _ l1_2 t103 _ ?side1 ?side2 ?side3 ?side4 A5.out).mono ?_); (case side1 => exact pC (Kd.C_below HR0_2.out HB.out)); (case side2 => exact HC0_2.out); (case side3 => exact pC (Kd.C_below HR1_2.out HB.out)); (case side4 => exact HC1_2.out); rintro e w' ⟨rfl, ⟨nd, rfl⟩⟩))
   go_ret
   exact ⟨er, pT HB.out⟩
  rw [if_neg c4] at H
  have c4b0 : (a0_1 == a1_1) = false := beq_eq_false_iff_ne.mpr c4
  have c4b1 : (a0_1 != a1_1) = true := bne_iff_ne.mpr c4
  obtain rfl := Option.some.inj H
  go_enter Try.func8, Try.ntmps8
  go_wp2_with (first | ((with_reducible refine gate_dst (N := 2) rfl ?_); refine bxe (cs := #[.int .i64 a0_0, .int .i64 a0_1, .slice A0_2 l0_2.length c0_2]) (t := 26) ?_; intro gb101 hg w11 hbox hb; have BK101 := aK (hbox); have GW101 := aK (gE hg (pS HB.out)); have GE101 := GW101; replace HB := bS HB hb; clear hb hbox hg) | ((with_reducible refine gate_dst (N := 3) rfl ?_); refine bxe (cs := #[.int .i64 a1_0, .int .i64 a1_1, .slice A1_2 l1_2.length c1_2]) (t := 26) ?_; intro gb102 hg w12 hbox hb; have BK102 := aK (hbox); have GW102 := aK (gE hg (pS HB.out)); have GE102 := GW102; obtain ⟨NB101_102, NB102_101⟩ := nb hg (pB BK101.out); replace BK101 := bB BK101 hb; replace HB := bS HB hb; clear hb hbox hg; have hnb13 := NB101_102.out; have hnc13 := NB102_101.out; obtain ⟨hcz14_0, hcz14_1, hcz14_2, hfz14_0, hfz14_1, hfz14_2⟩ := bc3 BK101.out; obtain ⟨hcz15_0, hcz15_1, hcz15_2, hfz15_0, hfz15_1, hfz15_2⟩ := bc3 BK102.out))
  go_ret
  exact ⟨er, pT HB.out⟩
 rw [if_neg c3] at H
 have c3b0 : (a0_0 == a1_0) = false := beq_eq_false_iff_ne.mpr c3
 have c3b1 : (a0_0 != a1_0) = true := bne_iff_ne.mpr c3
 obtain rfl := Option.some.inj H
 go_enter Try.func8, Try.ntmps8
 go_wp2_with (first | ((with_reducible refine gate_dst (N := 2) rfl ?_); refine bxe (cs := #[.int .i64 a0_0, .int .i64 a0_1, .slice A0_2 l0_2.length c0_2]) (t := 26) ?_; intro gb101 hg w16 hbox hb; have BK101 := aK (hbox); have GW101 := aK (gE hg (pS HB.out)); have GE101 := GW101; replace HB := bS HB hb; clear hb hbox hg) | ((with_reducible refine gate_dst (N := 3) rfl ?_); refine bxe (cs := #[.int .i64 a1_0, .int .i64 a1_1, .slice A1_2 l1_2.length c1_2]) (t := 26) ?_; intro gb102 hg w17 hbox hb; have BK102 := aK (hbox); have GW102 := aK (gE hg (pS HB.out)); have GE102 := GW102; obtain ⟨NB101_102, NB102_101⟩ := nb hg (pB BK101.out); replace BK101 := bB BK101 hb; replace HB := bS HB hb; clear hb hbox hg; have hnb18 := NB101_102.out; have hnc18 := NB102_101.out; obtain ⟨hcz19_0, hcz19_1, hcz19_2, hfz19_0, hfz19_1, hfz19_2⟩ := bc3 BK101.out; obtain ⟨hcz20_0, hcz20_1, hcz20_2, hfz20_0, hfz20_1, hfz20_2⟩ := bc3 BK102.out))
 go_ret
 exact ⟨er, pT HB.out⟩
def impl_valuesOf_1.f (a0 : Int) : Option (Bool) := some (a0 == (-9999))
theorem impl_valuesOf_1.calls (a0 : Int) (r : Bool) (w : World) (h : impl_valuesOf_1.f a0 = some r) :
  Calls Try.prog 67 #[.int .i64 a0] w fun e w' => e = .returned (.bool r) ∧ Drawn0 w w' := by
 have H : (some (a0 == (-9999))) = some r := h
 clear h
 obtain rfl := Option.some.inj H
 go_enter Try.func67, Try.ntmps67
 go_wp2
 go_ret
 exact ⟨by first | rfl | (simp; done) | (simp [*]; done), by repeat (first | exact Drawn0.refl _ | apply Drawn0.step)⟩
end Go.Proofs.Ythlmikigjhgpdaa.P
namespace Go.Proofs
open Go.Shelf
def Try.del10_ren : Go.Shelf.Ren := ⟨fun | 10 => 65 | 6 => 68 | n => n, fun | 22 => 24 | 23 => 3 | 25 => 56 | 3 => 3 | 4 => 4 | 0 => 0 | n => n, fun | n => n⟩
theorem Try.del10 : Go.Proofs.SlLaysH.n10 Try.prog Try.del10_ren := {
  mixed := by kernel_rfl
  f6 := ⟨Try.f68.name, by decide, Try.func68.trans (congrArg some (by kernel_rfl))⟩
  f10 := ⟨Try.f65.name, by decide, Try.func65.trans (congrArg some (by kernel_rfl))⟩
  t0 := Try.underlying0
  a0 := Try.isAgg0
  z0 := Try.sizeOf0
  v0 := Try.zeroValue0
  t3 := Try.underlying3
  a3 := Try.isAgg3
  z3 := Try.sizeOf3
  v3 := Try.zeroValue3
  t4 := Try.underlying4
  a4 := Try.isAgg4
  z4 := Try.sizeOf4
  v4 := Try.zeroValue4
  t22 := Try.underlying24
  a22 := Try.isAgg24
  z22 := Try.sizeOf24
  v22 := Try.zeroValue24
  a23 := Try.isAgg3
  z23 := Try.sizeOf3
  t25 := Try.underlying56
  a25 := Try.isAgg56
  z25 := Try.sizeOf56
  v25 := Try.zeroValue56 }
open Go.Sort Go.RowKit Go.Lib in
theorem Try.slices_DeleteFunc_int (p : Int → Bool) (g : Nat) (lb : Array Value) (eg : ∀ args w, (callFunc g args).run Try.prog w = .ok (.enter g args) w) (blk off cap : Nat) (zs : List Int) (w : World) (hp : PredAt Try.prog g lb (Value.int .i64) p w) (hpo : PredOver Try.prog g lb (Value.int .i64) p blk off zs.length w) (hH : Holds (Value.int .i64) w blk off zs.toArray) (hsz : zs.length ≤ 9223372036854775807) (hcap : zs.length ≤ cap) :
    Calls Try.prog 65 #[.slice (some ⟨blk, off, none⟩) zs.length cap, .func (.func g) #[] lb] w fun e w' => e = .returned (.slice (some ⟨blk, off, none⟩) (zs.filter fun x => !p x).length cap) ∧ ∃ q, w' = putRow (Value.int .i64) (Sort.ahead w q) blk off ((zs.filter fun x => !p x) ++ List.replicate (zs.length - (zs.filter fun x => !p x).length) 0).toArray := AnyE.slices_DeleteFunc Try.del10 (Value.int .i64) (fun _ => rfl) p g lb eg 0 Try.zeroValue3 blk off cap zs.toArray w hp hpo hH hsz hcap
end Go.Proofs
namespace Go.Proofs.Ythlmikigjhgpdaa.P
open Go.RowKit Go.Sort Go.Proofs.YthlmikigjhgpdaaW.PrintWords Go.Proofs.YthlmikigjhgpdaaW.PrintLast Go.Proofs.YthlmikigjhgpdaaW.PrintMore
def dlt (p : Int → Bool) (l : List Int) : List Int := l.filter fun x => !p x
theorem dlt_le (p : Int → Bool) (l : List Int) : (dlt p l).length ≤ l.length := List.length_filter_le _ _
theorem delete_own (p : Int → Bool) (gf : Nat) (eg : ∀ args w, (callFunc gf args).run Try.prog w = .ok (.enter gf args) w) (hp : ∀ (x : Int) (W' : World), Calls Try.prog gf #[.int .i64 x] W' fun e w' => e = .returned (.bool (p x)) ∧ Drawn0 W' w')
    {W : World} {base g cap : Nat} {ok : Nat → Prop} {l : List Int} (h : Kd.R (Kd.int .i64) 3 W base ok (.slice (some ⟨g, 0, none⟩) l.length cap) l) (hsmall : l.length < 4611686018427387904) :
    Calls Try.prog 65 #[.slice (some ⟨g, 0, none⟩) l.length cap, .func (.func gf) #[] #[]] W fun e W' =>
      e = .returned (.slice (some ⟨g, 0, none⟩) (dlt p l).length cap) ∧ Kd.R (Kd.int .i64) 3 W' base ok (.slice (some ⟨g, 0, none⟩) (dlt p l).length cap) (dlt p l) ∧ W.grownBy W' (some g) := by
  have hown := Kd.own_of_R h
  have hle := dlt_le p l
  rcases hown.2 with ⟨hn, _⟩ | ⟨g', cap', cur, hv, hg, hb, hn, hcap, hsz, htk⟩
  · cases hn
  cases hv
  have hH : Holds (Value.int .i64) W g 0 l.toArray := holds_of_blockI hb (by rw [Nat.mul_one] at htk; exact htk)
  have hg1 : ∀ (x : Int) (W' : World), FnGives Try.prog gf #[] #[.int .i64 x] (.bool (p x)) W' := fun x W' => by
    unfold FnGives
    have ea : (#[Value.int .i64 x] ++ #[] : Array Value) = #[.int .i64 x] := Array.append_empty
    rw [ea]
    refine (hp x W').mono ?_
    rintro e w' ⟨he, hd⟩
    obtain ⟨q, hq⟩ := hd.out
    exact ⟨he, q, hq⟩
  have hc := Go.Proofs.Try.slices_DeleteFunc_int p gf #[] eg g 0 cap l W (fun W' x _ => hg1 x W') (fun n os dk x _ => hg1 x _) hH (by omega) hn
  rw [show (l.filter fun x => !p x) = dlt p l from rfl] at hc
  refine hc.mono ?_
  rintro e W' ⟨rfl, q, rfl⟩
  have hl : (dlt p l ++ List.replicate (l.length - (dlt p l).length) 0).length = l.length := by simp; omega
  have hg2 : W.grownBy (putRow (Value.int .i64) (Sort.ahead W q) g 0 (dlt p l ++ List.replicate (l.length - (dlt p l).length) 0).toArray) (some g) := by
    have := grownBy_sortedI (w := W) (g := g) (n := q) (os := #[]) (dlt p l ++ List.replicate (l.length - (dlt p l).length) 0).toArray
    rw [grow_empty] at this
    exact this
  have ho2 := ownsRow_sortedI (w := W) (base := base) (g := g) (cap := cap) (n := q) (e := 3) (os := #[]) (cur := cur) (ss := l) (ts := dlt p l ++ List.replicate (l.length - (dlt p l).length) 0) hl hg hb hn hcap hsz
  rw [grow_empty] at ho2
  have hR : Kd.R (Kd.int .i64) 3 (putRow (Value.int .i64) (Sort.ahead W q) g 0 (dlt p l ++ List.replicate (l.length - (dlt p l).length) 0).toArray) base ok (.slice (some ⟨g, 0, none⟩) l.length cap) (dlt p l ++ List.replicate (l.length - (dlt p l).length) 0) := by
    refine Kd.R_of_own ?_ h.1
    rw [hl]
    exact ho2
  have hT := Kd.R_take hR (m := (dlt p l).length) (by rw [hl]; exact hle)
  rw [List.take_left'] at hT
  · exact ⟨rfl, hT, hg2⟩
  · rfl
end Go.Proofs.Ythlmikigjhgpdaa.P
