/- Texts of the claim FnTallies, merged: part 8 of 11: the program's and the reference's functions as Lean functions, the walks that show it, and plain lemmas; no conditions. -/
import Derived.Test.YtjicgmcogadleaaKFnTallies3
import Derived.Test.YtjicgmcogadleaaKFnTallies7
import Derived.Test.YtjicgmcogadleaaKFnTallies6
import Derived.Test.YtjicgmcogadleaaKFnTallies4
import Derived.Test.YtjicgmcogadleaaKFnTallies5
namespace Go.Proofs.Ytjicgmcogadleaa.P
open Go.RowKit Go.Proofs.YtjicgmcogadleaaW.PrintWords Go.Proofs.YtjicgmcogadleaaW.PrintLast Go.Proofs.YtjicgmcogadleaaW.PrintMore
attribute [local go_sem] max2_int min2_int max_two min_two max_three min_three max_four min_four
set_option linter.unusedVariables false
set_option linter.unusedSimpArgs false
set_option maxHeartbeats 8000000
set_option maxRecDepth 100000
mutual
def spec_ClassFor.j0 : Nat → Bool → List Int → List Int → Int → Int → Option (Int × Bool)
 | 0, _, _, _, _, _ => none
 | k + 1, x15, x102000, x102001, x103000, x103001 => if x15 = true then (some (0, false)) else ((spec_l10Shares.f k x102000 x102001).bind fun t105 => (spec_ClassFor.l0 k t105 0 x103000 x103001))
def spec_ClassFor.l0 : Nat → List (S33) → Int → Int → Int → Option (Int × Bool)
 | 0, _, _, _, _ => none
 | k + 1, x6, x7, x103000, x103001 => if x7 < (x6.length : Int) then (if 0 ≤ x7 then ((spec_l10Less.f ((rd_T33 x6 x7).f0) ((rd_T33 x6 x7).f1) x103000 x103001).bind fun t109 => (if t109 = true then (spec_ClassFor.l0 k x6 (wrap64 (x7 + 1)) x103000 x103001) else (some (x7, true)))) else (none)) else (some (0, false))
end
def spec_ClassFor.f (k : Nat) (l0_0 : List Int) (l0_1 : List Int) (a1_0 : Int) (a1_1 : Int) : Option (Int × Bool) := (spec_l10Good.f k l0_0 l0_1).bind fun t103 => (if t103 = true then ((spec_l10Fraction.f k a1_0 a1_1).bind fun t104 => (spec_ClassFor.j0 k (!t104) l0_0 l0_1 a1_0 a1_1)) else (spec_ClassFor.j0 k true l0_0 l0_1 a1_0 a1_1))
theorem spec_ClassFor.calls (k : Nat) (A0_0 : Option Addr) (c0_0 : Nat) (l0_0 : List Int) (A0_1 : Option Addr) (c0_1 : Nat) (l0_1 : List Int) (a1_0 : Int) (a1_1 : Int) (r1 : Int) (r2 : Bool) (w : World) (hr0_0 : Kd.C (Kd.int .i64) w A0_0 l0_0.length l0_0) (hc0_0 : l0_0.length ≤ c0_0) (hr0_1 : Kd.C (Kd.int .i64) w A0_1 l0_1.length l0_1) (hc0_1 : l0_1.length ≤ c0_1) (h : spec_ClassFor.f k l0_0 l0_1 a1_0 a1_1 = some (r1, r2)) :
  Calls Try.prog 18 #[.agg #[.slice A0_0 l0_0.length c0_0, .slice A0_1 l0_1.length c0_1], .agg #[.int .i64 a1_0, .int .i64 a1_1]] w fun e w' => e = .returned (.tuple #[.int .i64 r1, .bool r2]) ∧ Below w.heap.size w w' := by
 have hu26 := Try.underlying26
 have hu33 := Try.underlying33
 have HR0_0 := Aside0.mk hr0_0
 have HC0_0 := Aside0.mk hc0_0
 clear hr0_0 hc0_0
 have HR0_1 := Aside0.mk hr0_1
 have HC0_1 := Aside0.mk hc0_1
 clear hr0_1 hc0_1
 have HB := aK (Below.refl w.heap.size w)
 have H : ((spec_l10Good.f k l0_0 l0_1).bind fun t103 => (if t103 = true then ((spec_l10Fraction.f k a1_0 a1_1).bind fun t104 => (spec_ClassFor.j0 k (!t104) l0_0 l0_1 a1_0 a1_1)) else (spec_ClassFor.j0 k true l0_0 l0_1 a1_0 a1_1))) = some (r1, r2) := h
 clear h
 have HC3 := Aside0.mk H
 clear H
 go_enter Try.func18, Try.ntmps18
 go_upto_region 1 with (first | ((with_reducible refine gate_dst (N := 2) rfl ?_); refine bxe (cs := #[.slice A0_0 l0_0.length c0_0, .slice A0_1 l0_1.length c0_1]) (t := 26) ?_; intro gb101 hg w4 hbox hb; have BK101 := aK (hbox); have GW101 := aK (gE hg (pS HB.out)); have GE101 := GW101; replace HB := bS HB hb; clear hb hbox hg) | ((with_reducible refine gate_dst (N := 3) rfl ?_); refine bxe (cs := #[.int .i64 a1_0, .int .i64 a1_1]) (t := 33) ?_; intro gb102 hg w5 hbox hb; have BK102 := aK (hbox); have GW102 := aK (gE hg (pS HB.out)); have GE102 := GW102; obtain ⟨NB101_102, NB102_101⟩ := nb hg (pB BK101.out); replace BK101 := bB BK101 hb; replace HB := bS HB hb; clear hb hbox hg))
 (try simp only [Act.put, List.setIfInBounds_toArray, List.set_cons_zero, List.set_cons_succ])
 go_cut [15] (fun v15 wc => ∃ (kq : Nat) (x15_2 : Bool), v15 = .bool x15_2 ∧ Aside0 (spec_ClassFor.j0 kq x15_2 l0_0 l0_1 a1_0 a1_1 = some (r1, r2)) ∧ Aside0 (kq ≤ k) ∧ Aside0 (wc.heap[gb101]? = some (.cells #[(.slice A0_0 l0_0.length c0_0), (.slice A0_1 l0_1.length c0_1)] 26 (0, 0))) ∧ Aside0 (wc.heap[gb102]? = some (.cells #[.int .i64 a1_0, .int .i64 a1_1] 33 (0, 0))) ∧ Aside0 (Below w.heap.size w wc))
 case first =>
  have H := HC3.out
  clear HC3
  replace H := Option.bind_eq_some_iff.mp H
  obtain ⟨t103, A60, H⟩ := H
  replace H : (if t103 = true then ((spec_l10Fraction.f k a1_0 a1_1).bind fun t104 => (spec_ClassFor.j0 k (!t104) l0_0 l0_1 a1_0 a1_1)) else (spec_ClassFor.j0 k true l0_0 l0_1 a1_0 a1_1)) = some (r1, r2) := H
  have A6 := Aside0.mk A60
  clear A60
  by_cases c7 : t103 = true
  ·
   subst c7
   have H1 : ((spec_l10Fraction.f k a1_0 a1_1).bind fun t104 => (spec_ClassFor.j0 k (!t104) l0_0 l0_1 a1_0 a1_1)) = some (r1, r2) := by rw [if_pos rfl] at H; exact H
   clear H
   have H := H1
   clear H1
   replace H := Option.bind_eq_some_iff.mp H
   obtain ⟨t104, A80, H⟩ := H
   replace H : (spec_ClassFor.j0 k (!t104) l0_0 l0_1 a1_0 a1_1) = some (r1, r2) := H
   have A8 := Aside0.mk A80
   clear A80
   have H' := Aside0.mk H
   clear H
   have hnb9 := NB101_102.out
   have hnc9 := NB102_101.out
   obtain ⟨hcz10_0, hcz10_1, hfz10_0, hfz10_1⟩ := bc2 BK101.out
   go_wp2_with (first | ((with_reducible refine gate_callee (f := 44) rfl ?_); refine gl (some 9) Try.func44 #[.agg #[.slice A0_0 l0_0.length c0_0, .slice A0_1 l0_1.length c0_1]] ?_; (with_reducible refine (spec_l10Good.calls k _ _ l0_0 _ _ l0_1 true _ ?side1 ?side2 ?side3 ?side4 A6.out).mono ?_); (case side1 => exact pC (Kd.C_below HR0_0.out HB.out)); (case side2 => exact HC0_0.out); (case side3 => exact pC (Kd.C_below HR0_1.out HB.out)); (case side4 => exact HC0_1.out); rintro e w11 ⟨rfl, hb⟩; refine ⟨_, rfl, ?_⟩; replace BK101 := bB BK101 hb; replace BK102 := bB BK102 hb; replace HB := bS HB hb; (try clear hb); (try clear hb2); (try clear hk); (try clear hi); obtain ⟨hcz12_0, hcz12_1, hfz12_0, hfz12_1⟩ := bc2 BK102.out) | (go_at_call 56; (with_reducible refine (spec_l10Fraction.calls k a1_0 a1_1 t104 _ A8.out).mono ?_); rintro e w13 ⟨rfl, hb⟩; replace BK101 := bB BK101 hb; replace BK102 := bB BK102 hb; replace HB := bS HB hb; (try clear hb); (try clear hb2); (try clear hk); (try clear hi)))
   go_meet
   case rel => exact ⟨_, (!t104), (by first | rfl | (simp; done) | (simp [*]; done)), H', ⟨by first | omega | exact Nat.le_refl _⟩, ⟨by refine bk ?_; exact BK101.out⟩, ⟨by refine bk ?_; exact BK102.out⟩, ⟨pT HB.out⟩⟩
  replace c7 := Bool.eq_false_iff.mpr c7
  subst c7
  have H1 : (spec_ClassFor.j0 k true l0_0 l0_1 a1_0 a1_1) = some (r1, r2) := by rw [if_neg (show ¬ (false = true) by decide)] at H; exact H
  clear H
  have H := H1
  clear H1
  have H' := Aside0.mk H
  clear H
  have hnb14 := NB101_102.out
  have hnc14 := NB102_101.out
  obtain ⟨hcz15_0, hcz15_1, hfz15_0, hfz15_1⟩ := bc2 BK101.out
  go_wp2_with (first | ((with_reducible refine gate_callee (f := 44) rfl ?_); refine gl (some 9) Try.func44 #[.agg #[.slice A0_0 l0_0.length c0_0, .slice A0_1 l0_1.length c0_1]] ?_; (with_reducible refine (spec_l10Good.calls k _ _ l0_0 _ _ l0_1 false _ ?side1 ?side2 ?side3 ?side4 A6.out).mono ?_); (case side1 => exact pC (Kd.C_below HR0_0.out HB.out)); (case side2 => exact HC0_0.out); (case side3 => exact pC (Kd.C_below HR0_1.out HB.out)); (case side4 => exact HC0_1.out); rintro e w16 ⟨rfl, hb⟩; refine ⟨_, rfl, ?_⟩; replace BK101 := bB BK101 hb; replace BK102 := bB BK102 hb; replace HB := bS HB hb; (try clear hb); (try clear hb2); (try clear hk); (try clear hi)))
  go_meet
  case rel => exact ⟨_, (true), (by first | rfl | (simp; done) | (simp [*]; done)), H', ⟨by first | omega | exact Nat.le_refl _⟩, ⟨by refine bk ?_; exact BK101.out⟩, ⟨by refine bk ?_; exact BK102.out⟩, ⟨pT HB.out⟩⟩
 case rest =>
  clear HC3
  try clear c1
  try clear p2
  try clear c4
  try clear c7
  try clear c9
  try clear c14
  try clear hcz10_0
  try clear hcz10_1
  try clear hcz12_0
  try clear hcz12_1
  try clear hcz15_0
  try clear hcz15_1
  try clear hfz10_0
  try clear hfz10_1
  try clear hfz12_0
  try clear hfz12_1
  try clear hfz15_0
  try clear hfz15_1
  obtain ⟨kq, x15_2, rfl, HA, HJ2, BK101, BK102, HB⟩ := hcut
  cases kq with
  | zero => exact absurd HA.out (by simp [spec_ClassFor.j0])
  | succ kj2 =>
   have H := HA.out
   clear HA
   simp only [spec_ClassFor.j0] at H
   by_cases c17 : x15_2 = true
   ·
    subst c17
    have H1 : (some (0, false)) = some (r1, r2) := by rw [if_pos rfl] at H; exact H
    clear H
    have H := H1
    clear H1
    simp only [Option.some.injEq, Prod.mk.injEq] at H
    obtain ⟨rfl, rfl⟩ := H
    go_wp2
    go_ret2
    exact ⟨er, pT HB.out⟩
   replace c17 := Bool.eq_false_iff.mpr c17
   subst c17
   have H1 : ((spec_l10Shares.f kj2 l0_0 l0_1).bind fun t105 => (spec_ClassFor.l0 kj2 t105 0 a1_0 a1_1)) = some (r1, r2) := by rw [if_neg (show ¬ (false = true) by decide)] at H; exact H
   clear H
   have H := H1
   clear H1
   replace H := Option.bind_eq_some_iff.mp H
   obtain ⟨t105, A180, H⟩ := H
   replace H : (spec_ClassFor.l0 kj2 t105 0 a1_0 a1_1) = some (r1, r2) := H
   have A18 := Aside0.mk A180
   clear A180
   have H' := Aside0.mk H
   clear H
   have hnb19 := NB101_102.out
   have hnc19 := NB102_101.out
   obtain ⟨hcz20_0, hcz20_1, hfz20_0, hfz20_1⟩ := bc2 BK101.out
   go_wp2_with (first | ((with_reducible refine gate_callee (f := 57) rfl ?_); refine gl (some 17) Try.func57 #[.agg #[.slice A0_0 l0_0.length c0_0, .slice A0_1 l0_1.length c0_1]] ?_; (with_reducible refine (spec_l10Shares.calls kj2 _ _ l0_0 _ _ l0_1 t105 _ ?side1 ?side2 ?side3 ?side4 A18.out).mono ?_); (case side1 => exact pC (Kd.C_below HR0_0.out HB.out)); (case side2 => exact HC0_0.out); (case side3 => exact pC (Kd.C_below HR0_1.out HB.out)); (case side4 => exact HC0_1.out); rintro e w21 ⟨v106, rfl, ho0, hb⟩; refine ⟨_, rfl, ?_⟩; have HO107 := aK (Kd.R_lower (Kd.R_newB ho0 (g := gb102) (o := .cells #[.int .i64 a1_0, .int .i64 a1_1] 33 (0, 0)) (pB BK102.out)) (below_size (pS HB.out))); replace BK101 := bB BK101 hb; replace BK102 := bB BK102 hb; replace HB := bS HB hb; (try clear hb); (try clear hb2); (try clear hk); (try clear hi); (try clear ho0)))
   go_loopg [7] kj2 (fun kq v7 w' => ∃ (x7_2 : Int), v7 = .int .i64 x7_2 ∧ Aside0 (spec_ClassFor.l0 kq t105 x7_2 a1_0 a1_1 = some (r1, r2)) ∧ Aside0 (kq ≤ kj2) ∧ Aside0 (Kd.R k33 33 w' w.heap.size (fun k_ => k_ ≠ gb102) v106 t105) ∧ Aside0 (w'.heap[gb101]? = some (.cells #[(.slice A0_0 l0_0.length c0_0), (.slice A0_1 l0_1.length c0_1)] 26 (0, 0))) ∧ Aside0 (w'.heap[gb102]? = some (.cells #[.int .i64 a1_0, .int .i64 a1_1] 33 (0, 0))) ∧ Aside0 (Below w.heap.size w w'))
   case atStart => exact ⟨(0), (by first | rfl | (simp; done) | (simp [*]; done)), H', ⟨Nat.le_refl _⟩, ⟨pR (Kd.R_mono HO107.out (fun _ hk => hk.2))⟩, ⟨by refine bk ?_; exact BK101.out⟩, ⟨by refine bk ?_; exact BK102.out⟩, ⟨pT HB.out⟩⟩
   case round =>
    clear H'
    try clear c1
    try clear p2
    try clear c4
    try clear c5
    try clear c7
    try clear c9
    try clear c14
    try clear c17
    try clear c18
    try clear c19
    try clear hcz10_0
    try clear hcz10_1
    try clear hcz12_0
    try clear hcz12_1
    try clear hcz15_0
    try clear hcz15_1
    try clear hcz20_0
    try clear hcz20_1
    try clear hfz10_0
    try clear hfz10_1
    try clear hfz12_0
    try clear hfz12_1
    try clear hfz15_0
    try clear hfz15_1
    try clear hfz20_0
    try clear hfz20_1
    try clear p2
    obtain ⟨x7_2, rfl, HA, HK2, HO_6, BK101, BK102, HB⟩ := hrel
    cases gk with
    | zero => exact absurd HA.out (by simp [spec_ClassFor.l0])
    | succ k2 =>
     have H := HA.out
     clear HA
     simp only [spec_ClassFor.l0] at H
     by_cases c22 : x7_2 < (t105.length : Int)
     ·
      rw [if_pos c22] at H
      have c22b0 : decide (x7_2 < (t105.length : Int)) = true := decide_eq_true c22
      clear c22
      by_cases c23 : 0 ≤ x7_2
      ·
       rw [if_pos c23] at H
       have c23b0 : decide (0 ≤ x7_2) = true := decide_eq_true c23
       clear c23
       replace H := Option.bind_eq_some_iff.mp H
       obtain ⟨t109, A240, H⟩ := H
       replace H : (if t109 = true then (spec_ClassFor.l0 k2 t105 (wrap64 (x7_2 + 1)) a1_0 a1_1) else (some (x7_2, true))) = some (r1, r2) := H
       have A24 := Aside0.mk A240
       clear A240
       by_cases c25 : t109 = true
       ·
        subst c25
        have H1 : (spec_ClassFor.l0 k2 t105 (wrap64 (x7_2 + 1)) a1_0 a1_1) = some (r1, r2) := by rw [if_pos rfl] at H; exact H
        clear H
        have H := H1
        clear H1
        have H' := Aside0.mk H
        clear H
        obtain ⟨Ao26, co26, eo26⟩ := Kd.R_slice HO_6.out
        subst eo26
        try go_wp2
        have n0_ := aK (Kd.R_drew HO_6.out)
        have n1_ := aK (blk_drew BK101.out)
        have n2_ := aK (blk_drew BK102.out)
        have n3_ := aK (below_drew1 HB.out)
        clear HO_6 BK101 BK102 HB
        have HO_6 := n0_
        have BK101 := n1_
        have BK102 := n2_
        have HB := n3_
        clear n0_ n1_ n2_ n3_
        have p108 : 0 ≤ (x7_2 : Int) := of_decide_eq_true (by first | (with_reducible assumption) | assumption)
        have q108 : x7_2 < (t105.length : Int) := of_decide_eq_true (by first | (with_reducible assumption) | assumption)
        obtain ⟨ad108, e108, hx108_0, hx108_1⟩ := at_T33 (Kd.R_reads' HO_6.out).2.2 x7_2 p108 q108
        cases e108
        replace p108 := eq_true p108
        replace q108 := eq_true q108
        refine start_ (n := 7) (S := fun w' => w'.cell? ⟨gb102, 0, none⟩ = some (.int .i64 a1_0) ∧ w'.cell? ⟨gb102, 1, none⟩ = some (.int .i64 a1_1) ∧ w'.cell? (ad108.add ((x7_2).toNat * 2)) = some (.int .i64 ((rd_T33 t105 x7_2).f0)) ∧ w'.cell? ⟨(ad108.add ((x7_2).toNat * 2)).block, (ad108.add ((x7_2).toNat * 2)).off + 1, none⟩ = some (.int .i64 ((rd_T33 t105 x7_2).f1))) (ds := []) #[false, false, false, false, false, false, false] (by kernel_rfl) rfl rfl ⟨(blk_cell BK102.out 0).trans rfl, (blk_cell BK102.out 1).trans rfl, hx108_0, hx108_1⟩ (fun hHeld => ?_)
        generalize wr.drew = w27 at HO_6 BK101 BK102 HB hx108_0 hx108_1 hHeld ⊢
        refine pure_ (i := 0) (N := some 24) (v := ?_) (a' := ?_) #[true, false, false, false, false, false, false] rfl rfl (by kernel_rfl) (fun _ _ _ h => h) (Or.inl ⟨by rfl, ?_⟩) ?_ ?_
        rotate_left
        ·
         intro w'
         go_simp
         with_reducible rfl
        rotate_left
        ·
         simp only [sP]
         rfl
        refine pure_ (i := 1) (N := some 25) (v := ?_) (a' := ?_) #[true, true, false, false, false, false, false] rfl rfl (by kernel_rfl) (fun _ _ _ h => h) (Or.inl ⟨by rfl, ?_⟩) ?_ ?_
        rotate_left
        ·
         intro w'
         go_simp
         with_reducible rfl
        rotate_left
        ·
         simp only [sP]
         rfl
        refine pure_ (i := 2) (N := some 26) (v := ?_) (a' := ?_) #[true, true, true, false, false, false, false] rfl rfl (by kernel_rfl) (fun _ _ _ h => h) (Or.inl ⟨by rfl, ?_⟩) ?_ ?_
        rotate_left
        ·
         intro w'
         go_simp
         with_reducible rfl
        rotate_left
        ·
         simp only [sP]
         rfl
        refine take_ (i := 3) (N := some 27) (v := ?_) (a' := ?_) #[true, true, true, true, false, false, false] rfl rfl (by kernel_rfl) (fun _ _ _ h => h) (Or.inl ⟨by rfl, ?_⟩) hHeld ?_ ?_
        rotate_left
        ·
         rintro w' ⟨s0, s1, s2, s3⟩
         go_simp
         with_reducible rfl
        rotate_left
        ·
         simp only [sP]
         rfl
        refine take_ (i := 4) (N := some 28) (v := ?_) (a' := ?_) #[true, true, true, true, true, false, false] rfl rfl (by kernel_rfl) (fun _ _ _ h => h) (Or.inl ⟨by rfl, ?_⟩) hHeld ?_ ?_
        rotate_left
        ·
         rintro w' ⟨s0, s1, s2, s3⟩
         go_simp
         with_reducible rfl
        rotate_left
        ·
         simp only [sP]
         rfl
        refine one_ (i := 5) (N := some 29) #[true, true, true, true, true, true, false] rfl rfl (by kernel_rfl) (by decide) (fun K hK => ?_)
        refine goes_ Try.func58 (by kernel_rfl) rfl #[.agg #[.int .i64 ((rd_T33 t105 x7_2).f0), .int .i64 ((rd_T33 t105 x7_2).f1)], .agg #[.int .i64 a1_0, .int .i64 a1_1]] (by rfl) rfl rfl (by (try simp only [List.map_toArray, List.map_cons, List.map_nil]); first | done | rfl | (simp only [List.length_drop, List.length_take]; rfl)) ?_
        with_reducible refine (spec_l10Less.calls ((rd_T33 t105 x7_2).f0) ((rd_T33 t105 x7_2).f1) a1_0 a1_1 true _ A24.out).mono ?_
        rintro e w28 ⟨rfl, hb⟩
        have HS2_ := (hb.cell (World.block_lt_of_cell? _ _ (hHeld.2.2.1))).trans (hHeld.2.2.1)
        have HS3_ := (hb.cell (World.block_lt_of_cell? _ _ (hHeld.2.2.2))).trans (hHeld.2.2.2)
        refine ⟨_, rfl, ?_⟩
        have n0_ := aK (Kd.R_below (pR HO_6.out) hb)
        replace BK101 := bB BK101 hb
        replace BK102 := bB BK102 hb
        replace HB := bS HB hb
        clear HO_6
        have HO_6 := n0_
        clear n0_
        (try clear hb)
        (try clear hb2)
        (try clear hk)
        (try clear hi)
        refine hK.out _ _ ⟨(blk_cell BK102.out 0).trans rfl, (blk_cell BK102.out 1).trans rfl, HS2_, HS3_⟩ (fun hHeld => ?_)
        clear hK K
        refine norm_ (a' := ?_) ?_ ?_
        rotate_left
        ·
         show Act.put _ (some 29) _ = _
         simp only [sP]
         rfl
        refine pure_ (i := 6) (N := some 30) (v := ?_) (a' := ?_) #[true, true, true, true, true, true, true] rfl rfl (by kernel_rfl) (fun _ _ _ h => h) (Or.inl ⟨by rfl, ?_⟩) ?_ ?_
        rotate_left
        ·
         intro w'
         go_simp
         with_reducible rfl
        rotate_left
        ·
         simp only [sP]
         rfl
        refine done_ (by kernel_rfl) ?_
        try go_wp2
        go_roundg k2
        case measure => have := HJ2.out; have := HK2.out; omega
        case rel => exact ⟨(wrap64 (x7_2 + 1)), (by first | rfl | (simp; done) | (simp [*]; done)), H', ⟨by have := HJ2.out; have := HK2.out; omega⟩, ⟨pR HO_6.out⟩, ⟨by refine bk ?_; exact BK101.out⟩, ⟨by refine bk ?_; exact BK102.out⟩, ⟨pT HB.out⟩⟩
       replace c25 := Bool.eq_false_iff.mpr c25
       subst c25
       have H1 : (some (x7_2, true)) = some (r1, r2) := by rw [if_neg (show ¬ (false = true) by decide)] at H; exact H
       clear H
       have H := H1
       clear H1
       simp only [Option.some.injEq, Prod.mk.injEq] at H
       obtain ⟨rfl, rfl⟩ := H
       obtain ⟨Ao29, co29, eo29⟩ := Kd.R_slice HO_6.out
       subst eo29
       try go_wp2
       have n0_ := aK (Kd.R_drew HO_6.out)
       have n1_ := aK (blk_drew BK101.out)
       have n2_ := aK (blk_drew BK102.out)
       have n3_ := aK (below_drew1 HB.out)
       clear HO_6 BK101 BK102 HB
       have HO_6 := n0_
       have BK101 := n1_
       have BK102 := n2_
       have HB := n3_
       clear n0_ n1_ n2_ n3_
       have p108 : 0 ≤ (x7_2 : Int) := of_decide_eq_true (by first | (with_reducible assumption) | assumption)
       have q108 : x7_2 < (t105.length : Int) := of_decide_eq_true (by first | (with_reducible assumption) | assumption)
       obtain ⟨ad108, e108, hx108_0, hx108_1⟩ := at_T33 (Kd.R_reads' HO_6.out).2.2 x7_2 p108 q108
       cases e108
       replace p108 := eq_true p108
       replace q108 := eq_true q108
       refine start_ (n := 7) (S := fun w' => w'.cell? ⟨gb102, 0, none⟩ = some (.int .i64 a1_0) ∧ w'.cell? ⟨gb102, 1, none⟩ = some (.int .i64 a1_1) ∧ w'.cell? (ad108.add ((x7_2).toNat * 2)) = some (.int .i64 ((rd_T33 t105 x7_2).f0)) ∧ w'.cell? ⟨(ad108.add ((x7_2).toNat * 2)).block, (ad108.add ((x7_2).toNat * 2)).off + 1, none⟩ = some (.int .i64 ((rd_T33 t105 x7_2).f1))) (ds := []) #[false, false, false, false, false, false, false] (by kernel_rfl) rfl rfl ⟨(blk_cell BK102.out 0).trans rfl, (blk_cell BK102.out 1).trans rfl, hx108_0, hx108_1⟩ (fun hHeld => ?_)
       generalize wr.drew = w30 at HO_6 BK101 BK102 HB hx108_0 hx108_1 hHeld ⊢
       refine pure_ (i := 0) (N := some 24) (v := ?_) (a' := ?_) #[true, false, false, false, false, false, false] rfl rfl (by kernel_rfl) (fun _ _ _ h => h) (Or.inl ⟨by rfl, ?_⟩) ?_ ?_
       rotate_left
       ·
        intro w'
        go_simp
        with_reducible rfl
       rotate_left
       ·
        simp only [sP]
        rfl
       refine pure_ (i := 1) (N := some 25) (v := ?_) (a' := ?_) #[true, true, false, false, false, false, false] rfl rfl (by kernel_rfl) (fun _ _ _ h => h) (Or.inl ⟨by rfl, ?_⟩) ?_ ?_
       rotate_left
       ·
        intro w'
        go_simp
        with_reducible rfl
       rotate_left
       ·
        simp only [sP]
        rfl
       refine pure_ (i := 2) (N := some 26) (v := ?_) (a' := ?_) #[true, true, true, false, false, false, false] rfl rfl (by kernel_rfl) (fun _ _ _ h => h) (Or.inl ⟨by rfl, ?_⟩) ?_ ?_
       rotate_left
       ·
        intro w'
        go_simp
        with_reducible rfl
       rotate_left
       ·
        simp only [sP]
        rfl
       refine take_ (i := 3) (N := some 27) (v := ?_) (a' := ?_) #[true, true, true, true, false, false, false] rfl rfl (by kernel_rfl) (fun _ _ _ h => h) (Or.inl ⟨by rfl, ?_⟩) hHeld ?_ ?_
       rotate_left
       ·
        rintro w' ⟨s0, s1, s2, s3⟩
        go_simp
        with_reducible rfl
       rotate_left
       ·
        simp only [sP]
        rfl
       refine take_ (i := 4) (N := some 28) (v := ?_) (a' := ?_) #[true, true, true, true, true, false, false] rfl rfl (by kernel_rfl) (fun _ _ _ h => h) (Or.inl ⟨by rfl, ?_⟩) hHeld ?_ ?_
       rotate_left
       ·
        rintro w' ⟨s0, s1, s2, s3⟩
        go_simp
        with_reducible rfl
       rotate_left
       ·
        simp only [sP]
        rfl
       refine one_ (i := 5) (N := some 29) #[true, true, true, true, true, true, false] rfl rfl (by kernel_rfl) (by decide) (fun K hK => ?_)
       refine goes_ Try.func58 (by kernel_rfl) rfl #[.agg #[.int .i64 ((rd_T33 t105 x7_2).f0), .int .i64 ((rd_T33 t105 x7_2).f1)], .agg #[.int .i64 a1_0, .int .i64 a1_1]] (by rfl) rfl rfl (by (try simp only [List.map_toArray, List.map_cons, List.map_nil]); first | done | rfl | (simp only [List.length_drop, List.length_take]; rfl)) ?_
       with_reducible refine (spec_l10Less.calls ((rd_T33 t105 x7_2).f0) ((rd_T33 t105 x7_2).f1) a1_0 a1_1 false _ A24.out).mono ?_
       rintro e w31 ⟨rfl, hb⟩
       have HS2_ := (hb.cell (World.block_lt_of_cell? _ _ (hHeld.2.2.1))).trans (hHeld.2.2.1)
       have HS3_ := (hb.cell (World.block_lt_of_cell? _ _ (hHeld.2.2.2))).trans (hHeld.2.2.2)
       refine ⟨_, rfl, ?_⟩
       have n0_ := aK (Kd.R_below (pR HO_6.out) hb)
       replace BK101 := bB BK101 hb
       replace BK102 := bB BK102 hb
       replace HB := bS HB hb
       clear HO_6
       have HO_6 := n0_
       clear n0_
       (try clear hb)
       (try clear hb2)
       (try clear hk)
       (try clear hi)
       refine hK.out _ _ ⟨(blk_cell BK102.out 0).trans rfl, (blk_cell BK102.out 1).trans rfl, HS2_, HS3_⟩ (fun hHeld => ?_)
       clear hK K
       refine norm_ (a' := ?_) ?_ ?_
       rotate_left
       ·
        show Act.put _ (some 29) _ = _
        simp only [sP]
        rfl
       refine pure_ (i := 6) (N := some 30) (v := ?_) (a' := ?_) #[true, true, true, true, true, true, true] rfl rfl (by kernel_rfl) (fun _ _ _ h => h) (Or.inl ⟨by rfl, ?_⟩) ?_ ?_
       rotate_left
       ·
        intro w'
        go_simp
        with_reducible rfl
       rotate_left
       ·
        simp only [sP]
        rfl
       refine done_ (by kernel_rfl) ?_
       try go_wp2
       go_ret2
       exact ⟨er, pT HB.out⟩
      rw [if_neg c23] at H
      exact absurd H (by simp)
     rw [if_neg c22] at H
     have c22b0 : decide (x7_2 < (t105.length : Int)) = false := decide_eq_false c22
     clear c22
     simp only [Option.some.injEq, Prod.mk.injEq] at H
     obtain ⟨rfl, rfl⟩ := H
     obtain ⟨Ao32, co32, eo32⟩ := Kd.R_slice HO_6.out
     subst eo32
     go_wp2
     go_ret2
     exact ⟨er, pT HB.out⟩
def impl_CalibrationOf.f (k : Nat) (l0_0 : List Int) (l0_1 : List Int) : Option ((List (S33)) × Bool) := (impl_IsValidTally.f k l0_0 l0_1).bind fun t102 => (if t102 = true then ((impl_calibrationOf.f k l0_0 l0_1).bind fun bt103 => (some (bt103.1, bt103.2))) else (some (([] : List (S33)), false)))
theorem impl_CalibrationOf.calls (k : Nat) (A0_0 : Option Addr) (c0_0 : Nat) (l0_0 : List Int) (A0_1 : Option Addr) (c0_1 : Nat) (l0_1 : List Int) (r1 : List (S33)) (r2 : Bool) (w : World) (hr0_0 : Kd.C (Kd.int .i64) w A0_0 l0_0.length l0_0) (hc0_0 : l0_0.length ≤ c0_0) (hr0_1 : Kd.C (Kd.int .i64) w A0_1 l0_1.length l0_1) (hc0_1 : l0_1.length ≤ c0_1) (h : impl_CalibrationOf.f k l0_0 l0_1 = some (r1, r2)) :
  Calls Try.prog 19 #[.agg #[.slice A0_0 l0_0.length c0_0, .slice A0_1 l0_1.length c0_1]] w fun e w' => ∃ v0_ : Value, e = .returned (.tuple #[v0_, .bool r2]) ∧ Kd.R k33 33 w' w.heap.size (fun _ => True) v0_ r1 ∧ Below w.heap.size w w' := by
 have hu26 := Try.underlying26
 have HR0_0 := Aside0.mk hr0_0
 have HC0_0 := Aside0.mk hc0_0
 clear hr0_0 hc0_0
 have HR0_1 := Aside0.mk hr0_1
 have HC0_1 := Aside0.mk hc0_1
 clear hr0_1 hc0_1
 have HB := aK (Below.refl w.heap.size w)
 have H : ((impl_IsValidTally.f k l0_0 l0_1).bind fun t102 => (if t102 = true then ((impl_calibrationOf.f k l0_0 l0_1).bind fun bt103 => (some (bt103.1, bt103.2))) else (some (([] : List (S33)), false)))) = some (r1, r2) := h
 clear h
 replace H := Option.bind_eq_some_iff.mp H
 obtain ⟨t102, A20, H⟩ := H
 replace H : (if t102 = true then ((impl_calibrationOf.f k l0_0 l0_1).bind fun bt103 => (some (bt103.1, bt103.2))) else (some (([] : List (S33)), false))) = some (r1, r2) := H
 have A2 := Aside0.mk A20
 clear A20
 by_cases c3 : t102 = true
 ·
  subst c3
  have H1 : ((impl_calibrationOf.f k l0_0 l0_1).bind fun bt103 => (some (bt103.1, bt103.2))) = some (r1, r2) := by rw [if_pos rfl] at H; exact H
  clear H
  have H := H1
  clear H1
  replace H := Option.bind_eq_some_iff.mp H
  obtain ⟨⟨t103, t106⟩, A40, H⟩ := H
  replace H : (some (t103, t106)) = some (r1, r2) := H
  have A4 := Aside0.mk A40
  clear A40
  simp only [Option.some.injEq, Prod.mk.injEq] at H
  obtain ⟨rfl, rfl⟩ := H
  go_enter Try.func19, Try.ntmps19
  go_wp2_with (first | ((with_reducible refine gate_dst (N := 1) rfl ?_); refine bxe (cs := #[.slice A0_0 l0_0.length c0_0, .slice A0_1 l0_1.length c0_1]) (t := 26) ?_; intro gb101 hg w5 hbox hb; have BK101 := aK (hbox); have GW101 := aK (gE hg (pS HB.out)); have GE101 := GW101; replace HB := bS HB hb; clear hb hbox hg; obtain ⟨hcz6_0, hcz6_1, hfz6_0, hfz6_1⟩ := bc2 BK101.out) | ((with_reducible refine gate_callee (f := 35) rfl ?_); refine gl (some 5) Try.func35 #[.agg #[.slice A0_0 l0_0.length c0_0, .slice A0_1 l0_1.length c0_1]] ?_; (with_reducible refine (impl_IsValidTally.calls k _ _ l0_0 _ _ l0_1 true _ ?side1 ?side2 ?side3 ?side4 A2.out).mono ?_); (case side1 => exact pC (Kd.C_below HR0_0.out HB.out)); (case side2 => exact HC0_0.out); (case side3 => exact pC (Kd.C_below HR0_1.out HB.out)); (case side4 => exact HC0_1.out); rintro e w7 ⟨rfl, hb⟩; refine ⟨_, rfl, ?_⟩; replace BK101 := bB BK101 hb; replace HB := bS HB hb; (try clear hb); (try clear hb2); (try clear hk); (try clear hi); obtain ⟨hcz8_0, hcz8_1, hfz8_0, hfz8_1⟩ := bc2 BK101.out) | ((with_reducible refine gate_callee (f := 52) rfl ?_); refine gl (some 8) Try.func52 #[.agg #[.slice A0_0 l0_0.length c0_0, .slice A0_1 l0_1.length c0_1]] ?_; (with_reducible refine (impl_calibrationOf.calls k _ _ l0_0 _ _ l0_1 t103 t106 _ ?side1 ?side2 ?side3 ?side4 A4.out).mono ?_); (case side1 => exact pC (Kd.C_below HR0_0.out HB.out)); (case side2 => exact HC0_0.out); (case side3 => exact pC (Kd.C_below HR0_1.out HB.out)); (case side4 => exact HC0_1.out); rintro e w9 ⟨v104, rfl, ho0, hb⟩; refine ⟨_, rfl, ?_⟩; have HO105 := aK (Kd.R_lower ho0 (below_size (pS HB.out))); replace BK101 := bB BK101 hb; replace HB := bS HB hb; (try clear hb); (try clear hb2); (try clear hk); (try clear hi); (try clear ho0)))
  go_ret2
  exact ⟨_, er, by (with_reducible repeat (first | apply Kd.R_alloc | apply Kd.R_drewN | apply Kd.R_drew)); exact HO105.out, pT HB.out⟩
 replace c3 := Bool.eq_false_iff.mpr c3
 subst c3
 have H1 : (some (([] : List (S33)), false)) = some (r1, r2) := by rw [if_neg (show ¬ (false = true) by decide)] at H; exact H
 clear H
 have H := H1
 clear H1
 simp only [Option.some.injEq, Prod.mk.injEq] at H
 obtain ⟨rfl, rfl⟩ := H
 go_enter Try.func19, Try.ntmps19
 go_wp2_with (first | ((with_reducible refine gate_dst (N := 1) rfl ?_); refine bxe (cs := #[.slice A0_0 l0_0.length c0_0, .slice A0_1 l0_1.length c0_1]) (t := 26) ?_; intro gb101 hg w10 hbox hb; have BK101 := aK (hbox); have GW101 := aK (gE hg (pS HB.out)); have GE101 := GW101; replace HB := bS HB hb; clear hb hbox hg; obtain ⟨hcz11_0, hcz11_1, hfz11_0, hfz11_1⟩ := bc2 BK101.out) | ((with_reducible refine gate_callee (f := 35) rfl ?_); refine gl (some 5) Try.func35 #[.agg #[.slice A0_0 l0_0.length c0_0, .slice A0_1 l0_1.length c0_1]] ?_; (with_reducible refine (impl_IsValidTally.calls k _ _ l0_0 _ _ l0_1 false _ ?side1 ?side2 ?side3 ?side4 A2.out).mono ?_); (case side1 => exact pC (Kd.C_below HR0_0.out HB.out)); (case side2 => exact HC0_0.out); (case side3 => exact pC (Kd.C_below HR0_1.out HB.out)); (case side4 => exact HC0_1.out); rintro e w12 ⟨rfl, hb⟩; refine ⟨_, rfl, ?_⟩; replace BK101 := bB BK101 hb; replace HB := bS HB hb; (try clear hb); (try clear hb2); (try clear hk); (try clear hi)))
 go_ret2
 exact ⟨_, er, by first | exact Kd.R_nil _ _ _ _ _ | exact Kd.N_nil _ _ _ _ _ | exact Kd.V_nil _ _ _ _ _ | exact Kd.Q_nil _ _ _ _ _ | exact Kd.S_nil _ _ _ _ _, pT HB.out⟩
mutual
def spec_DrawIsMonotone.l0 : Nat → List (S33) → Int → List Int → Int → Int → Option ((List (S33)))
 | 0, _, _, _, _, _ => none
 | k + 1, x4, x5, x102000, x102001, x102002 => if x5 > 0 then ((spec_l1Cur_share.f k x102000 x102001 x102002).bind fun bt108 => (if x4.length < 8796093022208 then (spec_DrawIsMonotone.l0 k (x4 ++ [(⟨bt108.1, bt108.2.1⟩ : S33)]) (wrap64 (x5 - 1)) x102000 bt108.2.2.1 bt108.2.2.2) else (none))) else ((spec_l1Cur_one.f x102000 x102001 x102002 2).bind fun bt115 => (if bt115.1 = true then ((spec_l1Cur_tally.f k x102000 bt115.2.1 bt115.2.2).bind fun bt118 => ((spec_l10Good.f k bt118.1 bt118.2.1).bind fun t127 => (if t127 = true then ((spec_l10Shares.f k bt118.1 bt118.2.1).bind fun t128 => (some t128)) else (spec_DrawIsMonotone.j1 k x4 x102000 bt118.2.2.1 bt118.2.2.2)))) else (spec_DrawIsMonotone.j1 k x4 x102000 bt115.2.1 bt115.2.2)))
def spec_DrawIsMonotone.j1 : Nat → List (S33) → List Int → Int → Int → Option ((List (S33)))
 | 0, _, _, _, _ => none
 | k + 1, x4, x102000, x102001, x102002 => (spec_l1Cur_one.f x102000 x102001 x102002 24).bind fun bt131 => (if bt131.1 = true then (spec_DrawIsMonotone.l1 k x4 0 x102000 bt131.2.1 bt131.2.2) else (some x4))
def spec_DrawIsMonotone.l1 : Nat → List (S33) → Int → List Int → Int → Int → Option ((List (S33)))
 | 0, _, _, _, _, _ => none
 | k + 1, x4, x7, x102000, x102001, x102002 => (spec_l1Cur_pick.f x102000 x102001 x102002 2).bind fun bt134 => (if (x4.length : Int) < (wrap64 (20 + bt134.1)) then (if x7 < 22 then (if x4.length < 8796093022208 then (spec_DrawIsMonotone.l1 k (x4 ++ [(⟨1, 1⟩ : S33)]) (wrap64 (x7 + 1)) x102000 bt134.2.1 bt134.2.2) else (none)) else (some x4)) else (some x4))
end
def spec_DrawIsMonotone.f (k : Nat) (l0 : List Int) : Option ((List (S33))) := (spec_l1Cur_pick.f l0 0 0 4).bind fun bt105 => (spec_DrawIsMonotone.l0 k (([] : List (S33))) bt105.1 l0 bt105.2.1 bt105.2.2)
theorem spec_DrawIsMonotone.calls (k : Nat) (A0 : Option Addr) (c0 : Nat) (l0 : List Int) (r : List (S33)) (w : World) (hr0 : Kd.C (Kd.int .u8) w A0 l0.length l0) (hc0 : l0.length ≤ c0) (h : spec_DrawIsMonotone.f k l0 = some r) :
  Calls Try.prog 20 #[.slice A0 l0.length c0] w fun e w' => ∃ v0_ : Value, e = .returned (v0_) ∧ Kd.R k33 33 w' w.heap.size (fun _ => True) v0_ r ∧ Below w.heap.size w w' := by
 have hu65 := Try.underlying65
 have hu26 := Try.underlying26
 have hu33 := Try.underlying33
 have HR0 := Aside0.mk hr0
 have HC0 := Aside0.mk hc0
 clear hr0 hc0
 have HB := aK (Below.refl w.heap.size w)
 have H : ((spec_l1Cur_pick.f l0 0 0 4).bind fun bt105 => (spec_DrawIsMonotone.l0 k (([] : List (S33))) bt105.1 l0 bt105.2.1 bt105.2.2)) = some r := h
 clear h
 obtain ⟨y102, hy102⟩ : ∃ y_ : List (S33), y_ = (([] : List (S33))) := ⟨_, rfl⟩
 replace H : ((spec_l1Cur_pick.f l0 0 0 4).bind fun bt105 => (spec_DrawIsMonotone.l0 k y102 bt105.1 l0 bt105.2.1 bt105.2.2)) = some r := by first | (rw [hy102]; with_reducible exact H) | (have H2_ := (Option.bind_some _ _).symm.trans H; rw [hy102]; with_reducible exact H2_) | (have H2_ := (Option.bind_some _ _).symm.trans H; with_reducible exact H2_) | with_reducible exact H | (rw [hy102]; exact H) | exact H
 have Ny102 := Aside0.mk hy102
 clear hy102
 replace H := Option.bind_eq_some_iff.mp H
 obtain ⟨⟨t105, t106, t107⟩, A20, H⟩ := H
 replace H : (spec_DrawIsMonotone.l0 k y102 t105 l0 t106 t107) = some r := H
 have A2 := Aside0.mk A20
 clear A20
 have H' := Aside0.mk H
 clear H
 go_enter Try.func20, Try.ntmps20
 go_wp2_with (first | ((with_reducible refine gate_dst (N := 10) rfl ?_); refine bxe (cs := #[.slice A0 l0.length c0, .int .i64 0, .int .u64 0]) (t := 65) ?_; intro gb101 hg w3 hbox hb; have HI101 := aK ((⟨_, _, hbox, (by rw [hg]; exact (below_size (pS HB.out)) : w.heap.size ≤ gb101), HR0.out⟩ : IsS65 w w3 gb101 l0 0 0)); replace HB := bS HB hb; clear hb hbox hg) | ((with_reducible refine gate_dst (N := 11) rfl ?_); refine Kd.R_lit k33 _ 33 ?hg (N := 11) ?hd (xs := ([] : List (S33))) (inner := []) (ok := fun _ => True) (okp := fun _ => True) ?hr ?hp (fun _ hk => hk) trivial (Below.refl _ _) (Nat.le_refl _) (by simp) ?_; (case hd => rfl); (case hg => rfl); (case hr => first | (go_simp; done) | (go_simp; rfl)); (case hp => exact (Reps.none _ _)); intro v103 w4 ho5 hb hg_ hnew_; clear hg_ hnew_; (first | rw [← Ny102.out] at ho5 | (simp only [Int.reduceToNat] at ho5; rw [← Ny102.out] at ho5)); have HO104 := aK (Kd.R_lower ho5 (below_size ((pV HB.out (IsS65.ge HI101.out))))); have n1_ := aK (IsS65.below (pI65 HI101.out) hb); have n2_ := aK (below_step ((pV HB.out (IsS65.ge HI101.out))) hb); clear HI101 HB; have HI101 := n1_; have HB := n2_; clear n1_ n2_; clear hb ho5) | ((with_reducible refine gate_callee (f := 39) rfl ?_); refine gl (some 13) Try.func39 #[.pointer (some ⟨gb101, 0, none⟩), .int .i64 4] ?_; (with_reducible refine (spec_l1Cur_pick.calls gb101 l0 0 0 4 t105 t106 t107 w _ ?side1 ?side2 A2.out).mono ?_); (case side1 => exact pI65 HI101.out); (case side2 => exact pV HB.out (IsS65.ge HI101.out)); rintro e w6 ⟨rfl, hi, hb, hk⟩; refine ⟨_, rfl, ?_⟩; have n0_ := aK (Kd.R_mono (Kd.R_keep (IsS65.apart (show IsS65 w _ gb101 l0 0 0 from pI65 HI101.out) (pR HO104.out) (by decide)) hk (fun _ h => h.2)) (fun _ h => h.1)); have n1_ := aK (hb); have n2_ := aK (hi); clear HO104 HB HI101; have HO104 := n0_; have HB := n1_; have HI101 := n2_; clear n0_ n1_ n2_; (try clear hb); (try clear hb2); (try clear hk); (try clear hi)))
 go_loopg [4, 5] k (fun kq v4 v5 w' => ∃ (x4_1 : List (S33)) (x5_1 : Int) (x102001_1 : Int) (x102002_1 : Int), v5 = .int .i64 x5_1 ∧ Aside0 (spec_DrawIsMonotone.l0 kq x4_1 x5_1 l0 x102001_1 x102002_1 = some r) ∧ Aside0 (kq ≤ k) ∧ Aside0 (Kd.R k33 33 w' w.heap.size (fun _ => True) v4 x4_1) ∧ Aside0 (IsS65 w w' gb101 l0 x102001_1 x102002_1) ∧ Aside0 (Below w.heap.size w w'))
 case atStart => exact ⟨(y102), (t105), (t106), (t107), (by first | rfl | (simp; done) | (simp [*]; done)), H', ⟨Nat.le_refl _⟩, ⟨pR HO104.out⟩, ⟨pI65 HI101.out⟩, ⟨(pV HB.out (IsS65.ge HI101.out))⟩⟩
 case round =>
  clear H'
  try clear c2
  try clear p2
  try clear c3
  obtain ⟨x4_1, x5_1, x102001_1, x102002_1, rfl, HA, HK1, HO_4, HI101, HB⟩ := hrel
  cases gk with
  | zero => exact absurd HA.out (by simp [spec_DrawIsMonotone.l0])
  | succ k1 =>
   have H := HA.out
   clear HA
   simp only [spec_DrawIsMonotone.l0] at H
   by_cases c7 : x5_1 > 0
   ·
    rw [if_pos c7] at H
    have c7b0 : decide (0 < x5_1) = true := decide_eq_true c7
    clear c7
    replace H := Option.bind_eq_some_iff.mp H
    obtain ⟨⟨t108, t109, t110, t111⟩, A80, H⟩ := H
    replace H : (if x4_1.length < 8796093022208 then (spec_DrawIsMonotone.l0 k1 (x4_1 ++ [(⟨t108, t109⟩ : S33)]) (wrap64 (x5_1 - 1)) l0 t110 t111) else (none)) = some r := H
    have A8 := Aside0.mk A80
    clear A80
    by_cases c9 : x4_1.length < 8796093022208
    ·
     rw [if_pos c9] at H
     have LMc9 := Aside0.mk c9
     clear c9
     obtain ⟨y112, hy112⟩ : ∃ y_ : List (S33), y_ = (x4_1 ++ [(⟨t108, t109⟩ : S33)]) := ⟨_, rfl⟩
     replace H : (spec_DrawIsMonotone.l0 k1 y112 (wrap64 (x5_1 - 1)) l0 t110 t111) = some r := by first | (rw [hy112]; with_reducible exact H) | (have H2_ := (Option.bind_some _ _).symm.trans H; rw [hy112]; with_reducible exact H2_) | (have H2_ := (Option.bind_some _ _).symm.trans H; with_reducible exact H2_) | with_reducible exact H | (rw [hy112]; exact H) | exact H
     have Ny112 := Aside0.mk hy112
     clear hy112
     have H' := Aside0.mk H
     clear H
     go_wp2_with (first | ((with_reducible refine gate_callee (f := 50) rfl ?_); refine gl (some 20) Try.func50 #[.pointer (some ⟨gb101, 0, none⟩)] ?_; (with_reducible refine (spec_l1Cur_share.calls k1 gb101 l0 x102001_1 x102002_1 t108 t109 t110 t111 w _ ?side1 ?side2 A8.out).mono ?_); (case side1 => exact pI65 HI101.out); (case side2 => exact pV HB.out (IsS65.ge HI101.out)); rintro e w10 ⟨rfl, hi, hb, hk⟩; refine ⟨_, rfl, ?_⟩; have n0_ := aK (Kd.R_mono (Kd.R_keep (IsS65.apart (show IsS65 w _ gb101 l0 x102001_1 x102002_1 from pI65 HI101.out) (pR HO_4.out) (by decide)) hk (fun _ h => h.2)) (fun _ h => h.1)); have n1_ := aK (hb); have n2_ := aK (hi); clear HO_4 HB HI101; have HO_4 := n0_; have HB := n1_; have HI101 := n2_; clear n0_ n1_ n2_; (try clear hb); (try clear hb2); (try clear hk); (try clear hi)) | ((with_reducible refine gate_builtin (b := .append) (xs := #[.tmp 18, .tmp 21]) rfl ?_); at_builtin; refine Kd.R_append k33 (w0 := w) w.heap.size rfl (.tmp 18) (.tmp 21) 43 33 (.agg #[(.int .i64 0), (.int .i64 0)]) 16 rfl Try.underlying43 info33 rfl (by decide) (by omega) u4 x4_1 (⟨t108, t109⟩ : S33) [.int .i64 t108, .int .i64 t109] (fun _ => True) (fun _ => False) rfl rfl ?aP (fun _ hk => hk.elim) ?aF ?aO ?aB ?aS ?aL ?_; (case aP => exact k33_mkM _ _ _ (⟨t108, t109⟩ : S33)); (case aB => exact ((pV HB.out (IsS65.ge HI101.out)))); (case aF => exact (fun _ _ => trivial)); (case aO => exact (pR HO_4.out)); (case aS => exact (below_size ((pV HB.out (IsS65.ge HI101.out))))); (case aL => have := LMc9.out; omega); intro v113 w11 ho hb hg hat; rw [← Ny112.out] at ho; have n0_ := aK (IsS65.grown (pI65 HI101.out) hg (IsS65.own_ne HI101.out HO_4.out (by decide))); have n1_ := aK (hb); have HO114 := aK (ho); clear HI101 HB HO_4; have HI101 := n0_; have HB := n1_; clear n0_ n1_; clear ho hb hg hat))
     go_roundg k1
     case measure => have := HK1.out; omega
     case rel => exact ⟨(y112), (wrap64 (x5_1 - 1)), (t110), (t111), (by first | rfl | (simp; done) | (simp [*]; done)), H', ⟨by have := HK1.out; omega⟩, ⟨pR HO114.out⟩, ⟨pI65 HI101.out⟩, ⟨(pV HB.out (IsS65.ge HI101.out))⟩⟩
    rw [if_neg c9] at H
    exact absurd H (by simp)
   rw [if_neg c7] at H
   have c7b0 : decide (0 < x5_1) = false := decide_eq_false c7
   clear c7
   replace H := Option.bind_eq_some_iff.mp H
   obtain ⟨⟨t115, t116, t117⟩, A120, H⟩ := H
   replace H : (if t115 = true then ((spec_l1Cur_tally.f k1 l0 t116 t117).bind fun bt118 => ((spec_l10Good.f k1 bt118.1 bt118.2.1).bind fun t127 => (if t127 = true then ((spec_l10Shares.f k1 bt118.1 bt118.2.1).bind fun t128 => (some t128)) else (spec_DrawIsMonotone.j1 k1 x4_1 l0 bt118.2.2.1 bt118.2.2.2)))) else (spec_DrawIsMonotone.j1 k1 x4_1 l0 t116 t117)) = some r := H
   have A12 := Aside0.mk A120
   clear A120
   have HC13 := Aside0.mk H
   clear H
   go_upto_if 24 with (first | ((with_reducible refine gate_callee (f := 40) rfl ?_); refine gl (some 24) Try.func40 #[.pointer (some ⟨gb101, 0, none⟩), .int .i64 2] ?_; (with_reducible refine (spec_l1Cur_one.calls gb101 l0 x102001_1 x102002_1 2 t115 t116 t117 w _ ?side1 ?side2 A12.out).mono ?_); (case side1 => exact pI65 HI101.out); (case side2 => exact pV HB.out (IsS65.ge HI101.out)); rintro e w14 ⟨rfl, hi, hb, hk⟩; refine ⟨_, rfl, ?_⟩; have n0_ := aK (Kd.R_mono (Kd.R_keep (IsS65.apart (show IsS65 w _ gb101 l0 x102001_1 x102002_1 from pI65 HI101.out) (pR HO_4.out) (by decide)) hk (fun _ h => h.2)) (fun _ h => h.1)); have n1_ := aK (hb); have n2_ := aK (hi); clear HO_4 HB HI101; have HO_4 := n0_; have HB := n1_; have HI101 := n2_; clear n0_ n1_ n2_; (try clear hb); (try clear hb2); (try clear hk); (try clear hi)))
   (try simp only [Act.put, List.setIfInBounds_toArray, List.set_cons_zero, List.set_cons_succ])
   go_cut [] (fun wc => ∃ (kq : Nat) (x102001_12 : Int) (x102002_12 : Int), Aside0 (spec_DrawIsMonotone.j1 kq x4_1 l0 x102001_12 x102002_12 = some r) ∧ Aside0 (kq ≤ k1) ∧ Aside0 (Kd.R k33 33 wc w.heap.size (fun _ => True) u4 x4_1) ∧ Aside0 (IsS65 w wc gb101 l0 x102001_12 x102002_12) ∧ Aside0 (Below w.heap.size w wc))
   case first =>
    have H := HC13.out
    clear HC13
    by_cases c15 : t115 = true
    ·
     subst c15
     have H1 : ((spec_l1Cur_tally.f k1 l0 t116 t117).bind fun bt118 => ((spec_l10Good.f k1 bt118.1 bt118.2.1).bind fun t127 => (if t127 = true then ((spec_l10Shares.f k1 bt118.1 bt118.2.1).bind fun t128 => (some t128)) else (spec_DrawIsMonotone.j1 k1 x4_1 l0 bt118.2.2.1 bt118.2.2.2)))) = some r := by rw [if_pos rfl] at H; exact H
     clear H
     have H := H1
     clear H1
     replace H := Option.bind_eq_some_iff.mp H
     obtain ⟨⟨t118, t121, t124, t125⟩, A160, H⟩ := H
     replace H : ((spec_l10Good.f k1 t118 t121).bind fun t127 => (if t127 = true then ((spec_l10Shares.f k1 t118 t121).bind fun t128 => (some t128)) else (spec_DrawIsMonotone.j1 k1 x4_1 l0 t124 t125))) = some r := H
     have A16 := Aside0.mk A160
     clear A160
     replace H := Option.bind_eq_some_iff.mp H
     obtain ⟨t127, A170, H⟩ := H
     replace H : (if t127 = true then ((spec_l10Shares.f k1 t118 t121).bind fun t128 => (some t128)) else (spec_DrawIsMonotone.j1 k1 x4_1 l0 t124 t125)) = some r := H
     have A17 := Aside0.mk A170
     clear A170
     by_cases c18 : t127 = true
     ·
      subst c18
      have H1 : ((spec_l10Shares.f k1 t118 t121).bind fun t128 => (some t128)) = some r := by rw [if_pos rfl] at H; exact H
      clear H
      have H := H1
      clear H1
      replace H := Option.bind_eq_some_iff.mp H
      obtain ⟨t128, A190, H⟩ := H
      replace H : (some t128) = some r := H
      have A19 := Aside0.mk A190
      clear A190
      obtain rfl := Option.some.inj H
      go_wp2_with (first | ((with_reducible refine gate_callee (f := 38) rfl ?_); refine gl (some 26) Try.func38 #[.pointer (some ⟨gb101, 0, none⟩)] ?_; (with_reducible refine (spec_l1Cur_tally.calls k1 gb101 l0 t116 t117 t118 t121 t124 t125 w _ ?side1 ?side2 A16.out).mono ?_); (case side1 => exact pI65 HI101.out); (case side2 => exact pV HB.out (IsS65.ge HI101.out)); rintro e w20 ⟨v119, v122, rfl, ho0, ho1, hi, hb, hk⟩; refine ⟨_, rfl, ?_⟩; have n0_ := aK (Kd.R_mono (Kd.R_keep (IsS65.apart (show IsS65 w _ gb101 l0 t116 t117 from pI65 HI101.out) (pR HO_4.out) (by decide)) hk (fun _ h => h.2)) (fun _ h => h.1)); have HO120 := aK (Kd.R_lower ho0 (below_size ((pV HB.out (IsS65.ge HI101.out))))); have HO123 := aK (Kd.Q_lower ho1 (below_size ((pV HB.out (IsS65.ge HI101.out))))); have n3_ := aK (hb); have n4_ := aK (hi); clear HO_4 HB HI101; have HO_4 := n0_; have HB := n3_; have HI101 := n4_; clear n0_ n3_ n4_; (try clear hb); (try clear hb2); (try clear hk); (try clear hi); (try clear ho0); (try clear ho1)) | ((with_reducible refine gate_dst (N := 6) rfl ?_); refine bxe (cs := #[.slice none 0 0, .slice none 0 0]) (t := 26) ?_; intro gb126 hg w21 hbox hb; have n0_ := aK (Kd.R_below (pR HO_4.out) hb); have n1_ := aK (Kd.R_below (pR HO120.out) hb); have n2_ := aK (Kd.Q_below (pQ HO123.out) hb); have n3_ := aK (IsS65.below (pI65 HI101.out) hb); have n4_ := aK (below_step ((pV HB.out (IsS65.ge HI101.out))) hb); have BK126 := aK (hbox); have GW126 := aK (gE hg ((pV HB.out (IsS65.ge HI101.out)))); have GE126 := aK (gE hg ((pV HB.out (IsS65.ge HI101.out)))); have NB101_126 := aK ((by rw [hg]; exact Nat.ne_of_lt (IsS65.lt (show IsS65 w _ gb101 l0 t124 t125 from pI65 HI101.out)) : gb101 ≠ gb126)); have NB126_101 := aK ((by rw [hg]; exact Nat.ne_of_gt (IsS65.lt (show IsS65 w _ gb101 l0 t124 t125 from pI65 HI101.out)) : gb126 ≠ gb101)); clear HO_4 HO120 HO123 HI101 HB; have HO_4 := n0_; have HO120 := n1_; have HO123 := n2_; have HI101 := n3_; have HB := n4_; clear n0_ n1_ n2_ n3_ n4_ hb hbox hg; obtain ⟨Ao22, co22, eo22⟩ := Kd.R_slice HO120.out; subst eo22; have hnb23 := NB126_101.out; have hnc23 := NB101_126.out; obtain ⟨hcz24_0, hcz24_1, hfz24_0, hfz24_1⟩ := bc2 BK126.out; obtain ⟨Ao25, co25, eo25, _⟩ := Kd.Q_slice HO123.out; subst eo25) | ((with_reducible refine gate_callee (f := 44) rfl ?_); refine gl (some 28) Try.func44 #[.agg #[.slice Ao22 t118.length co22, .slice Ao25 t121.length co25]] ?_; (with_reducible refine (spec_l10Good.calls k1 _ _ t118 _ _ t121 true _ ?side1 ?side2 ?side3 ?side4 A17.out).mono ?_); (case side1 => exact rC (pR (rF2 HO120.out BK126.out (.slice Ao22 t118.length co22) (.slice Ao25 t121.length co25)))); (case side2 => exact (Kd.R_reads' HO120.out).2.1); (case side3 => refine (Kd.Q_reads' (e := 3) (base := w.heap.size) (ok := fun k_ => some k_ ≠ (.slice Ao22 t118.length co22 : Value).ownBlock) (n := t121.length) (c := co25) ?_).2.2; exact (pQ (qF2 HO123.out BK126.out (.slice Ao22 t118.length co22) (.slice Ao25 t121.length co25)))); (case side4 => exact (Kd.Q_reads' HO123.out).2.1); rintro e w26 ⟨rfl, hb⟩; refine ⟨_, rfl, ?_⟩; have n0_ := aK (Kd.R_below (pR (rF2 HO_4.out BK126.out (.slice Ao22 t118.length co22) (.slice Ao25 t121.length co25))) hb); have n1_ := aK (Kd.R_below (pR (rF2 HO120.out BK126.out (.slice Ao22 t118.length co22) (.slice Ao25 t121.length co25))) hb); have n2_ := aK (Kd.Q_below (pQ (qF2 HO123.out BK126.out (.slice Ao22 t118.length co22) (.slice Ao25 t121.length co25))) hb); have n3_ := aK (IsS65.below (show IsS65 w ((w21.setCell ⟨gb126, 0, none⟩ (.slice Ao22 t118.length co22)).setCell ⟨gb126, 1, none⟩ (.slice Ao25 t121.length co25)) gb101 l0 t124 t125 from pI65 HI101.out) hb); have n4_ := aK (blk_below (g := gb126) (o := .cells #[.slice Ao22 t118.length co22, .slice Ao25 t121.length co25] 26 (0, 0)) (by refine bk ?_; refine blk_put (cs := #[.slice Ao22 t118.length co22, .slice none 0 0]) ?_ 1 _ rfl; refine bk ?_; refine blk_put (cs := #[.slice none 0 0, .slice none 0 0]) ?_ 0 _ rfl; refine bk ?_; exact BK126.out) hb); have n5_ := aK (below_step ((pV HB.out (IsS65.ge HI101.out))) hb); clear HO_4 HO120 HO123 HI101 BK126 HB; have HO_4 := n0_; have HO120 := n1_; have HO123 := n2_; have HI101 := n3_; have BK126 := n4_; have HB := n5_; clear n0_ n1_ n2_ n3_ n4_ n5_; (try clear hb); (try clear hb2); (try clear hk); (try clear hi); obtain ⟨hcz27_0, hcz27_1, hfz27_0, hfz27_1⟩ := bc2 BK126.out) | ((with_reducible refine gate_callee (f := 57) rfl ?_); refine gl (some 30) Try.func57 #[.agg #[.slice Ao22 t118.length co22, .slice Ao25 t121.length co25]] ?_; (with_reducible refine (spec_l10Shares.calls k1 _ _ t118 _ _ t121 t128 _ ?side1 ?side2 ?side3 ?side4 A19.out).mono ?_); (case side1 => exact pC (Kd.R_reads' HO120.out).2.2); (case side2 => exact (Kd.R_reads' HO120.out).2.1); (case side3 => exact pC (Kd.Q_reads' HO123.out).2.2); (case side4 => exact (Kd.Q_reads' HO123.out).2.1); rintro e w28 ⟨v129, rfl, ho0, hb⟩; refine ⟨_, rfl, ?_⟩; have n0_ := aK (Kd.R_elder' (pR HO_4.out) (Kd.R_base ho0) hb); have n1_ := aK (Kd.R_below (pR HO120.out) hb); have n2_ := aK (Kd.Q_below (pQ HO123.out) hb); have HO130 := aK (Kd.R_lower (nw1 ho0 (pR HO_4.out)) (below_size ((pV HB.out (IsS65.ge HI101.out))))); have n4_ := aK (IsS65.below (pI65 HI101.out) hb); have n6_ := aK (below_step ((pV HB.out (IsS65.ge HI101.out))) hb); replace BK126 := bB BK126 hb; clear HO_4 HO120 HO123 HI101 HB; have HO_4 := n0_; have HO120 := n1_; have HO123 := n2_; have HI101 := n4_; have HB := n6_; clear n0_ n1_ n2_ n4_ n6_; (try clear hb); (try clear hb2); (try clear hk); (try clear hi); (try clear ho0)))
      go_ret
      exact ⟨_, er, by (with_reducible repeat (first | apply Kd.R_alloc | apply Kd.R_drewN | apply Kd.R_drew)); exact Kd.R_mono HO130.out (fun _ hk => trivial), (pV HB.out (IsS65.ge HI101.out))⟩
     replace c18 := Bool.eq_false_iff.mpr c18
     subst c18
     have H1 : (spec_DrawIsMonotone.j1 k1 x4_1 l0 t124 t125) = some r := by rw [if_neg (show ¬ (false = true) by decide)] at H; exact H
     clear H
     have H := H1
     clear H1
     have H' := Aside0.mk H
     clear H
     go_wp2_with (first | ((with_reducible refine gate_callee (f := 38) rfl ?_); refine gl (some 26) Try.func38 #[.pointer (some ⟨gb101, 0, none⟩)] ?_; (with_reducible refine (spec_l1Cur_tally.calls k1 gb101 l0 t116 t117 t118 t121 t124 t125 w _ ?side1 ?side2 A16.out).mono ?_); (case side1 => exact pI65 HI101.out); (case side2 => exact pV HB.out (IsS65.ge HI101.out)); rintro e w29 ⟨v119, v122, rfl, ho0, ho1, hi, hb, hk⟩; refine ⟨_, rfl, ?_⟩; have n0_ := aK (Kd.R_mono (Kd.R_keep (IsS65.apart (show IsS65 w _ gb101 l0 t116 t117 from pI65 HI101.out) (pR HO_4.out) (by decide)) hk (fun _ h => h.2)) (fun _ h => h.1)); have HO120 := aK (Kd.R_lower ho0 (below_size ((pV HB.out (IsS65.ge HI101.out))))); have HO123 := aK (Kd.Q_lower ho1 (below_size ((pV HB.out (IsS65.ge HI101.out))))); have n3_ := aK (hb); have n4_ := aK (hi); clear HO_4 HB HI101; have HO_4 := n0_; have HB := n3_; have HI101 := n4_; clear n0_ n3_ n4_; (try clear hb); (try clear hb2); (try clear hk); (try clear hi); (try clear ho0); (try clear ho1)) | ((with_reducible refine gate_dst (N := 6) rfl ?_); refine bxe (cs := #[.slice none 0 0, .slice none 0 0]) (t := 26) ?_; intro gb126 hg w30 hbox hb; have n0_ := aK (Kd.R_below (pR HO_4.out) hb); have n1_ := aK (Kd.R_below (pR HO120.out) hb); have n2_ := aK (Kd.Q_below (pQ HO123.out) hb); have n3_ := aK (IsS65.below (pI65 HI101.out) hb); have n4_ := aK (below_step ((pV HB.out (IsS65.ge HI101.out))) hb); have BK126 := aK (hbox); have GW126 := aK (gE hg ((pV HB.out (IsS65.ge HI101.out)))); have GE126 := aK (gE hg ((pV HB.out (IsS65.ge HI101.out)))); have NB101_126 := aK ((by rw [hg]; exact Nat.ne_of_lt (IsS65.lt (show IsS65 w _ gb101 l0 t124 t125 from pI65 HI101.out)) : gb101 ≠ gb126)); have NB126_101 := aK ((by rw [hg]; exact Nat.ne_of_gt (IsS65.lt (show IsS65 w _ gb101 l0 t124 t125 from pI65 HI101.out)) : gb126 ≠ gb101)); clear HO_4 HO120 HO123 HI101 HB; have HO_4 := n0_; have HO120 := n1_; have HO123 := n2_; have HI101 := n3_; have HB := n4_; clear n0_ n1_ n2_ n3_ n4_ hb hbox hg; obtain ⟨Ao31, co31, eo31⟩ := Kd.R_slice HO120.out; subst eo31; have hnb32 := NB126_101.out; have hnc32 := NB101_126.out; obtain ⟨hcz33_0, hcz33_1, hfz33_0, hfz33_1⟩ := bc2 BK126.out; obtain ⟨Ao34, co34, eo34, _⟩ := Kd.Q_slice HO123.out; subst eo34) | ((with_reducible refine gate_callee (f := 44) rfl ?_); refine gl (some 28) Try.func44 #[.agg #[.slice Ao31 t118.length co31, .slice Ao34 t121.length co34]] ?_; (with_reducible refine (spec_l10Good.calls k1 _ _ t118 _ _ t121 false _ ?side1 ?side2 ?side3 ?side4 A17.out).mono ?_); (case side1 => exact rC (pR (rF2 HO120.out BK126.out (.slice Ao31 t118.length co31) (.slice Ao34 t121.length co34)))); (case side2 => exact (Kd.R_reads' HO120.out).2.1); (case side3 => refine (Kd.Q_reads' (e := 3) (base := w.heap.size) (ok := fun k_ => some k_ ≠ (.slice Ao31 t118.length co31 : Value).ownBlock) (n := t121.length) (c := co34) ?_).2.2; exact (pQ (qF2 HO123.out BK126.out (.slice Ao31 t118.length co31) (.slice Ao34 t121.length co34)))); (case side4 => exact (Kd.Q_reads' HO123.out).2.1); rintro e w35 ⟨rfl, hb⟩; refine ⟨_, rfl, ?_⟩; have n0_ := aK (Kd.R_below (pR (rF2 HO_4.out BK126.out (.slice Ao31 t118.length co31) (.slice Ao34 t121.length co34))) hb); have n1_ := aK (Kd.R_below (pR (rF2 HO120.out BK126.out (.slice Ao31 t118.length co31) (.slice Ao34 t121.length co34))) hb); have n2_ := aK (Kd.Q_below (pQ (qF2 HO123.out BK126.out (.slice Ao31 t118.length co31) (.slice Ao34 t121.length co34))) hb); have n3_ := aK (IsS65.below (show IsS65 w ((w30.setCell ⟨gb126, 0, none⟩ (.slice Ao31 t118.length co31)).setCell ⟨gb126, 1, none⟩ (.slice Ao34 t121.length co34)) gb101 l0 t124 t125 from pI65 HI101.out) hb); have n4_ := aK (blk_below (g := gb126) (o := .cells #[.slice Ao31 t118.length co31, .slice Ao34 t121.length co34] 26 (0, 0)) (by refine bk ?_; refine blk_put (cs := #[.slice Ao31 t118.length co31, .slice none 0 0]) ?_ 1 _ rfl; refine bk ?_; refine blk_put (cs := #[.slice none 0 0, .slice none 0 0]) ?_ 0 _ rfl; refine bk ?_; exact BK126.out) hb); have n5_ := aK (below_step ((pV HB.out (IsS65.ge HI101.out))) hb); clear HO_4 HO120 HO123 HI101 BK126 HB; have HO_4 := n0_; have HO120 := n1_; have HO123 := n2_; have HI101 := n3_; have BK126 := n4_; have HB := n5_; clear n0_ n1_ n2_ n3_ n4_ n5_; (try clear hb); (try clear hb2); (try clear hk); (try clear hi)))
     go_meet
     case rel => exact ⟨_, (t124), (t125), H', ⟨by have := HK1.out; first | omega | exact Nat.le_refl _⟩, ⟨pR HO_4.out⟩, ⟨pI65 HI101.out⟩, ⟨(pV HB.out (IsS65.ge HI101.out))⟩⟩
    replace c15 := Bool.eq_false_iff.mpr c15
    subst c15
    have H1 : (spec_DrawIsMonotone.j1 k1 x4_1 l0 t116 t117) = some r := by rw [if_neg (show ¬ (false = true) by decide)] at H; exact H
    clear H
    have H := H1
    clear H1
    have H' := Aside0.mk H
    clear H
    go_wp2
    go_meet
    case rel => exact ⟨_, (t116), (t117), H', ⟨by have := HK1.out; first | omega | exact Nat.le_refl _⟩, ⟨pR HO_4.out⟩, ⟨pI65 HI101.out⟩, ⟨(pV HB.out (IsS65.ge HI101.out))⟩⟩
   case rest =>
    clear HC13
    try clear c1
    try clear c2
    try clear p2
    try clear c3
    try clear c4
    try clear c5
    try clear p6
    try clear c7
    try clear c7b0
    try clear c9
    try clear c15
    try clear c18
    try clear c20
    try clear c23
    try clear c32
    try clear hcz24_0
    try clear hcz24_1
    try clear hcz27_0
    try clear hcz27_1
    try clear hcz33_0
    try clear hcz33_1
    try clear hfz24_0
    try clear hfz24_1
    try clear hfz27_0
    try clear hfz27_1
    try clear hfz33_0
    try clear hfz33_1
    try clear p2
    obtain ⟨kq, x102001_12, x102002_12, HA, HJ12, HO_4, HI101, HB⟩ := hcut
    cases kq with
    | zero => exact absurd HA.out (by simp [spec_DrawIsMonotone.j1])
    | succ kj12 =>
     have H := HA.out
     clear HA
     simp only [spec_DrawIsMonotone.j1] at H
     replace H := Option.bind_eq_some_iff.mp H
     obtain ⟨⟨t131, t132, t133⟩, A360, H⟩ := H
     replace H : (if t131 = true then (spec_DrawIsMonotone.l1 kj12 x4_1 0 l0 t132 t133) else (some x4_1)) = some r := H
     have A36 := Aside0.mk A360
     clear A360
     by_cases c37 : t131 = true
     ·
      subst c37
      have H1 : (spec_DrawIsMonotone.l1 kj12 x4_1 0 l0 t132 t133) = some r := by rw [if_pos rfl] at H; exact H
      clear H
      have H := H1
      clear H1
      have H' := Aside0.mk H
      clear H
      go_wp2_with (first | ((with_reducible refine gate_callee (f := 40) rfl ?_); refine gl (some 32) Try.func40 #[.pointer (some ⟨gb101, 0, none⟩), .int .i64 24] ?_; (with_reducible refine (spec_l1Cur_one.calls gb101 l0 x102001_12 x102002_12 24 true t132 t133 w _ ?side1 ?side2 A36.out).mono ?_); (case side1 => exact pI65 HI101.out); (case side2 => exact pV HB.out (IsS65.ge HI101.out)); rintro e w38 ⟨rfl, hi, hb, hk⟩; refine ⟨_, rfl, ?_⟩; have n0_ := aK (Kd.R_mono (Kd.R_keep (IsS65.apart (show IsS65 w _ gb101 l0 x102001_12 x102002_12 from pI65 HI101.out) (pR HO_4.out) (by decide)) hk (fun _ h => h.2)) (fun _ h => h.1)); have n1_ := aK (hb); have n2_ := aK (hi); clear HO_4 HB HI101; have HO_4 := n0_; have HB := n1_; have HI101 := n2_; clear n0_ n1_ n2_; (try clear hb); (try clear hb2); (try clear hk); (try clear hi)))
      go_loopg [4, 7] kj12 (fun kq v4 v7 w' => ∃ (x4_3 : List (S33)) (x7_3 : Int) (x102001_3 : Int) (x102002_3 : Int), v7 = .int .i64 x7_3 ∧ Aside0 (spec_DrawIsMonotone.l1 kq x4_3 x7_3 l0 x102001_3 x102002_3 = some r) ∧ Aside0 (kq ≤ kj12) ∧ Aside0 (Kd.R k33 33 w' w.heap.size (fun _ => True) v4 x4_3) ∧ Aside0 (IsS65 w w' gb101 l0 x102001_3 x102002_3) ∧ Aside0 (Below w.heap.size w w'))
      case atStart => exact ⟨(x4_1), (0), (t132), (t133), (by first | rfl | (simp; done) | (simp [*]; done)), H', ⟨Nat.le_refl _⟩, ⟨pR HO_4.out⟩, ⟨pI65 HI101.out⟩, ⟨(pV HB.out (IsS65.ge HI101.out))⟩⟩
      case round =>
       clear H'
       try clear c1
       try clear c2
       try clear p2
       try clear c3
       try clear c4
       try clear c5
       try clear p6
       try clear c7
       try clear c7b0
       try clear c9
       try clear c15
       try clear c18
       try clear c20
       try clear c23
       try clear c32
       try clear c37
       try clear c38
       try clear hcz24_0
       try clear hcz24_1
       try clear hcz27_0
       try clear hcz27_1
       try clear hcz33_0
       try clear hcz33_1
       try clear hfz24_0
       try clear hfz24_1
       try clear hfz27_0
       try clear hfz27_1
       try clear hfz33_0
       try clear hfz33_1
       try clear p2
       try clear p6
       obtain ⟨x4_3, x7_3, x102001_3, x102002_3, rfl, HA, HK3, HO_4, HI101, HB⟩ := hrel
       cases gk with
       | zero => exact absurd HA.out (by simp [spec_DrawIsMonotone.l1])
       | succ k3 =>
        have H := HA.out
        clear HA
        simp only [spec_DrawIsMonotone.l1] at H
        replace H := Option.bind_eq_some_iff.mp H
        obtain ⟨⟨t134, t135, t136⟩, A390, H⟩ := H
        replace H : (if (x4_3.length : Int) < (wrap64 (20 + t134)) then (if x7_3 < 22 then (if x4_3.length < 8796093022208 then (spec_DrawIsMonotone.l1 k3 (x4_3 ++ [(⟨1, 1⟩ : S33)]) (wrap64 (x7_3 + 1)) l0 t135 t136) else (none)) else (some x4_3)) else (some x4_3)) = some r := H
        have A39 := Aside0.mk A390
        clear A390
        by_cases c40 : (x4_3.length : Int) < (wrap64 (20 + t134))
        ·
         rw [if_pos c40] at H
         have c40b0 : decide ((x4_3.length : Int) < (wrap64 (20 + t134))) = true := decide_eq_true c40
         clear c40
         by_cases c41 : x7_3 < 22
         ·
          rw [if_pos c41] at H
          have c41b0 : decide (x7_3 < 22) = true := decide_eq_true c41
          clear c41
          by_cases c42 : x4_3.length < 8796093022208
          ·
           rw [if_pos c42] at H
           have LMc42 := Aside0.mk c42
           clear c42
           obtain ⟨y137, hy137⟩ : ∃ y_ : List (S33), y_ = (x4_3 ++ [(⟨1, 1⟩ : S33)]) := ⟨_, rfl⟩
           replace H : (spec_DrawIsMonotone.l1 k3 y137 (wrap64 (x7_3 + 1)) l0 t135 t136) = some r := by first | (rw [hy137]; with_reducible exact H) | (have H2_ := (Option.bind_some _ _).symm.trans H; rw [hy137]; with_reducible exact H2_) | (have H2_ := (Option.bind_some _ _).symm.trans H; with_reducible exact H2_) | with_reducible exact H | (rw [hy137]; exact H) | exact H
           have Ny137 := Aside0.mk hy137
           clear hy137
           have H' := Aside0.mk H
           clear H
           obtain ⟨Ao43, co43, eo43⟩ := Kd.R_slice HO_4.out
           subst eo43
           go_wp2_with (first | ((with_reducible refine gate_callee (f := 39) rfl ?_); refine gl (some 36) Try.func39 #[.pointer (some ⟨gb101, 0, none⟩), .int .i64 2] ?_; (with_reducible refine (spec_l1Cur_pick.calls gb101 l0 x102001_3 x102002_3 2 t134 t135 t136 w _ ?side1 ?side2 A39.out).mono ?_); (case side1 => exact pI65 HI101.out); (case side2 => exact pV HB.out (IsS65.ge HI101.out)); rintro e w44 ⟨rfl, hi, hb, hk⟩; refine ⟨_, rfl, ?_⟩; have n0_ := aK (Kd.R_mono (Kd.R_keep (IsS65.apart (show IsS65 w _ gb101 l0 x102001_3 x102002_3 from pI65 HI101.out) (pR HO_4.out) (by decide)) hk (fun _ h => h.2)) (fun _ h => h.1)); have n1_ := aK (hb); have n2_ := aK (hi); clear HO_4 HB HI101; have HO_4 := n0_; have HB := n1_; have HI101 := n2_; clear n0_ n1_ n2_; (try clear hb); (try clear hb2); (try clear hk); (try clear hi)) | ((with_reducible refine gate_builtin (b := .append) (xs := #[.tmp 45, .tmp 47]) rfl ?_); at_builtin; refine Kd.R_append k33 (w0 := w) w.heap.size rfl (.tmp 45) (.tmp 47) 43 33 (.agg #[(.int .i64 0), (.int .i64 0)]) 16 rfl Try.underlying43 info33 rfl (by decide) (by omega) (.slice Ao43 x4_3.length co43) x4_3 (⟨1, 1⟩ : S33) [.int .i64 1, .int .i64 1] (fun _ => True) (fun _ => False) rfl rfl ?aP (fun _ hk => hk.elim) ?aF ?aO ?aB ?aS ?aL ?_; (case aP => exact k33_mkM _ _ _ (⟨1, 1⟩ : S33)); (case aB => exact ((pV HB.out (IsS65.ge HI101.out)))); (case aF => exact (fun _ _ => trivial)); (case aO => exact (pR HO_4.out)); (case aS => exact (below_size ((pV HB.out (IsS65.ge HI101.out))))); (case aL => have := LMc42.out; omega); intro v138 w45 ho hb hg hat; rw [← Ny137.out] at ho; have n0_ := aK (IsS65.grown (pI65 HI101.out) hg (IsS65.own_ne HI101.out HO_4.out (by decide))); have n1_ := aK (hb); have HO139 := aK (ho); clear HI101 HB HO_4; have HI101 := n0_; have HB := n1_; clear n0_ n1_; clear ho hb hg hat))
           go_roundg k3
           case measure => have := HK1.out; have := HJ12.out; have := HK3.out; omega
           case rel => exact ⟨(y137), (wrap64 (x7_3 + 1)), (t135), (t136), (by first | rfl | (simp; done) | (simp [*]; done)), H', ⟨by have := HK1.out; have := HJ12.out; have := HK3.out; omega⟩, ⟨pR HO139.out⟩, ⟨pI65 HI101.out⟩, ⟨(pV HB.out (IsS65.ge HI101.out))⟩⟩
          rw [if_neg c42] at H
          exact absurd H (by simp)
         rw [if_neg c41] at H
         have c41b0 : decide (x7_3 < 22) = false := decide_eq_false c41
         clear c41
         obtain rfl := Option.some.inj H
         obtain ⟨Ao46, co46, eo46⟩ := Kd.R_slice HO_4.out
         subst eo46
         go_wp2_with (first | ((with_reducible refine gate_callee (f := 39) rfl ?_); refine gl (some 36) Try.func39 #[.pointer (some ⟨gb101, 0, none⟩), .int .i64 2] ?_; (with_reducible refine (spec_l1Cur_pick.calls gb101 l0 x102001_3 x102002_3 2 t134 t135 t136 w _ ?side1 ?side2 A39.out).mono ?_); (case side1 => exact pI65 HI101.out); (case side2 => exact pV HB.out (IsS65.ge HI101.out)); rintro e w47 ⟨rfl, hi, hb, hk⟩; refine ⟨_, rfl, ?_⟩; have n0_ := aK (Kd.R_mono (Kd.R_keep (IsS65.apart (show IsS65 w _ gb101 l0 x102001_3 x102002_3 from pI65 HI101.out) (pR HO_4.out) (by decide)) hk (fun _ h => h.2)) (fun _ h => h.1)); have n1_ := aK (hb); have n2_ := aK (hi); clear HO_4 HB HI101; have HO_4 := n0_; have HB := n1_; have HI101 := n2_; clear n0_ n1_ n2_; (try clear hb); (try clear hb2); (try clear hk); (try clear hi)))
         go_ret
         exact ⟨_, er, by (with_reducible repeat (first | apply Kd.R_alloc | apply Kd.R_drewN | apply Kd.R_drew)); exact HO_4.out, (pV HB.out (IsS65.ge HI101.out))⟩
        rw [if_neg c40] at H
        have c40b0 : decide ((x4_3.length : Int) < (wrap64 (20 + t134))) = false := decide_eq_false c40
        clear c40
        obtain rfl := Option.some.inj H
        obtain ⟨Ao48, co48, eo48⟩ := Kd.R_slice HO_4.out
        subst eo48
        go_wp2_with (first | ((with_reducible refine gate_callee (f := 39) rfl ?_); refine gl (some 36) Try.func39 #[.pointer (some ⟨gb101, 0, none⟩), .int .i64 2] ?_; (with_reducible refine (spec_l1Cur_pick.calls gb101 l0 x102001_3 x102002_3 2 t134 t135 t136 w _ ?side1 ?side2 A39.out).mono ?_); (case side1 => exact pI65 HI101.out); (case side2 => exact pV HB.out (IsS65.ge HI101.out)); rintro e w49 ⟨rfl, hi, hb, hk⟩; refine ⟨_, rfl, ?_⟩; have n0_ := aK (Kd.R_mono (Kd.R_keep (IsS65.apart (show IsS65 w _ gb101 l0 x102001_3 x102002_3 from pI65 HI101.out) (pR HO_4.out) (by decide)) hk (fun _ h => h.2)) (fun _ h => h.1)); have n1_ := aK (hb); have n2_ := aK (hi); clear HO_4 HB HI101; have HO_4 := n0_; have HB := n1_; have HI101 := n2_; clear n0_ n1_ n2_; (try clear hb); (try clear hb2); (try clear hk); (try clear hi)))
        go_ret
        exact ⟨_, er, by (with_reducible repeat (first | apply Kd.R_alloc | apply Kd.R_drewN | apply Kd.R_drew)); exact HO_4.out, (pV HB.out (IsS65.ge HI101.out))⟩
     replace c37 := Bool.eq_false_iff.mpr c37
     subst c37
     have H1 : (some x4_1) = some r := by rw [if_neg (show ¬ (false = true) by decide)] at H; exact H
     clear H
     have H := H1
     clear H1
     obtain rfl := Option.some.inj H
     go_wp2_with (first | ((with_reducible refine gate_callee (f := 40) rfl ?_); refine gl (some 32) Try.func40 #[.pointer (some ⟨gb101, 0, none⟩), .int .i64 24] ?_; (with_reducible refine (spec_l1Cur_one.calls gb101 l0 x102001_12 x102002_12 24 false t132 t133 w _ ?side1 ?side2 A36.out).mono ?_); (case side1 => exact pI65 HI101.out); (case side2 => exact pV HB.out (IsS65.ge HI101.out)); rintro e w50 ⟨rfl, hi, hb, hk⟩; refine ⟨_, rfl, ?_⟩; have n0_ := aK (Kd.R_mono (Kd.R_keep (IsS65.apart (show IsS65 w _ gb101 l0 x102001_12 x102002_12 from pI65 HI101.out) (pR HO_4.out) (by decide)) hk (fun _ h => h.2)) (fun _ h => h.1)); have n1_ := aK (hb); have n2_ := aK (hi); clear HO_4 HB HI101; have HO_4 := n0_; have HB := n1_; have HI101 := n2_; clear n0_ n1_ n2_; (try clear hb); (try clear hb2); (try clear hk); (try clear hi)))
     go_ret
     exact ⟨_, er, by (with_reducible repeat (first | apply Kd.R_alloc | apply Kd.R_drewN | apply Kd.R_drew)); exact HO_4.out, (pV HB.out (IsS65.ge HI101.out))⟩
def impl_IsMonotone_1.f (k : Nat) (a0_0 : Int) (a0_1 : Int) : Option (Bool) := (impl_isShare.f k a0_0 a0_1).bind fun t102 => (some (!t102))
theorem impl_IsMonotone_1.calls (k : Nat) (a0_0 : Int) (a0_1 : Int) (r : Bool) (w : World) (h : impl_IsMonotone_1.f k a0_0 a0_1 = some r) :
  Calls Try.prog 60 #[.agg #[.int .i64 a0_0, .int .i64 a0_1]] w fun e w' => e = .returned (.bool r) ∧ Below w.heap.size w w' := by
 have hu33 := Try.underlying33
 have HB := aK (Below.refl w.heap.size w)
 have H : ((impl_isShare.f k a0_0 a0_1).bind fun t102 => (some (!t102))) = some r := h
 clear h
 replace H := Option.bind_eq_some_iff.mp H
 obtain ⟨t102, A20, H⟩ := H
 replace H : (some (!t102)) = some r := H
 have A2 := Aside0.mk A20
 clear A20
 obtain rfl := Option.some.inj H
 go_enter Try.func60, Try.ntmps60
 go_wp2_with (first | ((with_reducible refine gate_dst (N := 1) rfl ?_); refine bxe (cs := #[.int .i64 a0_0, .int .i64 a0_1]) (t := 33) ?_; intro gb101 hg w3 hbox hb; have BK101 := aK (hbox); have GW101 := aK (gE hg (pS HB.out)); have GE101 := GW101; replace HB := bS HB hb; clear hb hbox hg; obtain ⟨hcz4_0, hcz4_1, hfz4_0, hfz4_1⟩ := bc2 BK101.out) | ((with_reducible refine gate_callee (f := 51) rfl ?_); refine gl (some 4) Try.func51 #[.agg #[.int .i64 a0_0, .int .i64 a0_1]] ?_; (with_reducible refine (impl_isShare.calls k a0_0 a0_1 t102 _ A2.out).mono ?_); rintro e w5 ⟨rfl, hb⟩; refine ⟨_, rfl, ?_⟩; replace BK101 := bB BK101 hb; replace HB := bS HB hb; (try clear hb); (try clear hb2); (try clear hk); (try clear hi)))
 go_ret
 exact ⟨er, pT HB.out⟩
def slices_IndexFunc_Share_at_impl_IsMonotone_1.l0 : Nat → List (S33) → Int → Int → Option (Int)
 | 0, _, _, _ => none
 | k + 1, x0, x7, x8 => if x8 < x7 then (if 0 ≤ x8 then (if x8 < (x0.length : Int) then ((impl_IsMonotone_1.f k ((rd_T33 x0 x8).f0) ((rd_T33 x0 x8).f1)).bind fun t102 => (if t102 = true then (some x8) else (slices_IndexFunc_Share_at_impl_IsMonotone_1.l0 k x0 x7 (wrap64 (x8 + 1))))) else (none)) else (none)) else (some (-1))
def slices_IndexFunc_Share_at_impl_IsMonotone_1.f (k : Nat) (l0 : List (S33))  : Option (Int) := slices_IndexFunc_Share_at_impl_IsMonotone_1.l0 k l0 (l0.length : Int) 0
theorem slices_IndexFunc_Share_at_impl_IsMonotone_1.calls (k : Nat) (A0 : Option Addr) (c0 : Nat) (l0 : List (S33))  (r : Int) (w : World) (hr0 : Kd.C k33 w A0 l0.length l0) (hc0 : l0.length ≤ c0) (h : slices_IndexFunc_Share_at_impl_IsMonotone_1.f k l0 = some r) :
  Calls Try.prog 53 #[.slice A0 l0.length c0, .func (.func 60) #[] #[]] w fun e w' => e = .returned (.int .i64 r) ∧ Below w.heap.size w w' := by
 have hu33 := Try.underlying33
 have HR0 := Aside0.mk hr0
 have HC0 := Aside0.mk hc0
 clear hr0 hc0
 have HB := aK (Below.refl w.heap.size w)
 have H : (slices_IndexFunc_Share_at_impl_IsMonotone_1.l0 k l0 (l0.length : Int) 0) = some r := h
 clear h
 have H' := Aside0.mk H
 clear H
 go_enter Try.func53, Try.ntmps53
 go_wp2
 go_loopg [8] k (fun kq v8 w' => ∃ (x8_1 : Int), v8 = .int .i64 x8_1 ∧ Aside0 (slices_IndexFunc_Share_at_impl_IsMonotone_1.l0 kq l0 (l0.length : Int) x8_1 = some r) ∧ Aside0 (kq ≤ k) ∧ Aside0 (Below w.heap.size w w'))
 case atStart => exact ⟨(0), (by first | rfl | (simp; done) | (simp [*]; done)), H', ⟨Nat.le_refl _⟩, ⟨pT HB.out⟩⟩
 case round =>
  clear H'
  try clear p2
  obtain ⟨x8_1, rfl, HA, HK1, HB⟩ := hrel
  cases gk with
  | zero => exact absurd HA.out (by simp [slices_IndexFunc_Share_at_impl_IsMonotone_1.l0])
  | succ k1 =>
   have H := HA.out
   clear HA
   simp only [slices_IndexFunc_Share_at_impl_IsMonotone_1.l0] at H
   by_cases c3 : x8_1 < (l0.length : Int)
   ·
    rw [if_pos c3] at H
    have c3b0 : decide (x8_1 < (l0.length : Int)) = true := decide_eq_true c3
    clear c3
    by_cases c4 : 0 ≤ x8_1
    ·
     rw [if_pos c4] at H
     have c4b0 : decide (0 ≤ x8_1) = true := decide_eq_true c4
     clear c4
     by_cases c5 : x8_1 < (l0.length : Int)
     ·
      rw [if_pos c5] at H
      have c5b0 : decide (x8_1 < (l0.length : Int)) = true := decide_eq_true c5
      clear c5
      replace H := Option.bind_eq_some_iff.mp H
      obtain ⟨t102, A60, H⟩ := H
      replace H : (if t102 = true then (some x8_1) else (slices_IndexFunc_Share_at_impl_IsMonotone_1.l0 k1 l0 (l0.length : Int) (wrap64 (x8_1 + 1)))) = some r := H
      have A6 := Aside0.mk A60
      clear A60
      by_cases c7 : t102 = true
      ·
       subst c7
       have H1 : (some x8_1) = some r := by rw [if_pos rfl] at H; exact H
       clear H
       have H := H1
       clear H1
       obtain rfl := Option.some.inj H
       have p101 : 0 ≤ (x8_1 : Int) := of_decide_eq_true (by first | (with_reducible assumption) | assumption)
       have q101 : x8_1 < (l0.length : Int) := of_decide_eq_true (by first | (with_reducible assumption) | assumption)
       obtain ⟨ad101, e101, hx101_0, hx101_1⟩ := at_T33 HR0.out x8_1 p101 q101
       cases e101
       replace hx101_0 := (HB.out.cell (World.block_lt_of_cell? w _ hx101_0)).trans hx101_0
       replace hx101_1 := (HB.out.cell (World.block_lt_of_cell? w _ hx101_1)).trans hx101_1
       replace p101 := eq_true p101
       replace q101 := eq_true q101
       go_wp2_with (first | (go_at_call 60; (with_reducible refine (impl_IsMonotone_1.calls k1 ((rd_T33 l0 x8_1).f0) ((rd_T33 l0 x8_1).f1) true _ A6.out).mono ?_); rintro e w8 ⟨rfl, hb⟩; replace HB := bS HB hb; (try clear hb); (try clear hb2); (try clear hk); (try clear hi)))
       go_ret
       exact ⟨er, pT HB.out⟩
      replace c7 := Bool.eq_false_iff.mpr c7
      subst c7
      have H1 : (slices_IndexFunc_Share_at_impl_IsMonotone_1.l0 k1 l0 (l0.length : Int) (wrap64 (x8_1 + 1))) = some r := by rw [if_neg (show ¬ (false = true) by decide)] at H; exact H
      clear H
      have H := H1
      clear H1
      have H' := Aside0.mk H
      clear H
      have p101 : 0 ≤ (x8_1 : Int) := of_decide_eq_true (by first | (with_reducible assumption) | assumption)
      have q101 : x8_1 < (l0.length : Int) := of_decide_eq_true (by first | (with_reducible assumption) | assumption)
      obtain ⟨ad101, e101, hx101_0, hx101_1⟩ := at_T33 HR0.out x8_1 p101 q101
      cases e101
      replace hx101_0 := (HB.out.cell (World.block_lt_of_cell? w _ hx101_0)).trans hx101_0
      replace hx101_1 := (HB.out.cell (World.block_lt_of_cell? w _ hx101_1)).trans hx101_1
      replace p101 := eq_true p101
      replace q101 := eq_true q101
      go_wp2_with (first | (go_at_call 60; (with_reducible refine (impl_IsMonotone_1.calls k1 ((rd_T33 l0 x8_1).f0) ((rd_T33 l0 x8_1).f1) false _ A6.out).mono ?_); rintro e w9 ⟨rfl, hb⟩; replace HB := bS HB hb; (try clear hb); (try clear hb2); (try clear hk); (try clear hi)))
      go_roundg k1
      case measure => have := HK1.out; omega
      case rel => exact ⟨(wrap64 (x8_1 + 1)), (by first | rfl | (simp; done) | (simp [*]; done)), H', ⟨by have := HK1.out; omega⟩, ⟨pT HB.out⟩⟩
     rw [if_neg c5] at H
     exact absurd H (by simp)
    rw [if_neg c4] at H
    exact absurd H (by simp)
   rw [if_neg c3] at H
   have c3b0 : decide (x8_1 < (l0.length : Int)) = false := decide_eq_false c3
   clear c3
   obtain rfl := Option.some.inj H
   go_wp2
   go_ret
   exact ⟨er, pT HB.out⟩
def slices_ContainsFunc_Share_at_impl_IsMonotone_1.f (k : Nat) (l0 : List (S33))  : Option (Bool) := (slices_IndexFunc_Share_at_impl_IsMonotone_1.f k l0).bind fun t101 => (some (decide (t101 ≥ 0)))
theorem slices_ContainsFunc_Share_at_impl_IsMonotone_1.calls (k : Nat) (A0 : Option Addr) (c0 : Nat) (l0 : List (S33))  (r : Bool) (w : World) (hr0 : Kd.C k33 w A0 l0.length l0) (hc0 : l0.length ≤ c0) (h : slices_ContainsFunc_Share_at_impl_IsMonotone_1.f k l0 = some r) :
  Calls Try.prog 59 #[.slice A0 l0.length c0, .func (.func 60) #[] #[]] w fun e w' => e = .returned (.bool r) ∧ Below w.heap.size w w' := by
 have HR0 := Aside0.mk hr0
 have HC0 := Aside0.mk hc0
 clear hr0 hc0
 have HB := aK (Below.refl w.heap.size w)
 have H : ((slices_IndexFunc_Share_at_impl_IsMonotone_1.f k l0).bind fun t101 => (some (decide (t101 ≥ 0)))) = some r := h
 clear h
 replace H := Option.bind_eq_some_iff.mp H
 obtain ⟨t101, A30, H⟩ := H
 replace H : (some (decide (t101 ≥ 0))) = some r := H
 have A3 := Aside0.mk A30
 clear A30
 obtain rfl := Option.some.inj H
 go_enter Try.func59, Try.ntmps59
 go_wp2_with (first | ((with_reducible refine gate_callee (f := 53) rfl ?_); refine gl (some 7) Try.func53 #[.slice A0 l0.length c0, .func (.func 60) #[] #[]] ?_; (with_reducible refine (slices_IndexFunc_Share_at_impl_IsMonotone_1.calls k _ _ l0 t101 _ ?side1 ?side2 A3.out).mono ?_); (case side1 => exact pC HR0.out); (case side2 => exact HC0.out); rintro e w4 ⟨rfl, hb⟩; refine ⟨_, rfl, ?_⟩; replace HB := bS HB hb; (try clear hb); (try clear hb2); (try clear hk); (try clear hi)))
 go_ret
 exact ⟨er, pT HB.out⟩
def slices_IsSortedFunc_Share_at_impl_compareShares.l0 : Nat → List (S33) → Int → Option (Bool)
 | 0, _, _ => none
 | k + 1, x0, x5 => if x5 > 0 then (if 0 ≤ x5 then (if x5 < (x0.length : Int) then (if 0 ≤ (wrap64 (x5 - 1)) then (if (wrap64 (x5 - 1)) < (x0.length : Int) then ((impl_compareShares.f ((rd_T33 x0 x5).f0) ((rd_T33 x0 x5).f1) ((rd_T33 x0 (wrap64 (x5 - 1))).f0) ((rd_T33 x0 (wrap64 (x5 - 1))).f1)).bind fun t103 => (if t103 < 0 then (some false) else (slices_IsSortedFunc_Share_at_impl_compareShares.l0 k x0 (wrap64 (x5 - 1))))) else (none)) else (none)) else (none)) else (none)) else (some true)
def slices_IsSortedFunc_Share_at_impl_compareShares.f (k : Nat) (l0 : List (S33))  : Option (Bool) := slices_IsSortedFunc_Share_at_impl_compareShares.l0 k l0 (wrap64 ((l0.length : Int) - 1))
def slices_IsSortedFunc_Share_at_impl_compareShares.T4 : Bool × List (List Nat × List Nat) := (true, [([], []), ([], []), ([], []), ([1, 2], [1, 2]), ([3], [3]), ([], []), ([], []), ([6], [6]), ([5, 7], [5, 7]), ([8], [8]), ([0, 4, 9], [0, 4, 9]), ([10], [10])])
def slices_IsSortedFunc_Share_at_impl_compareShares.B4 : List Nat := [0, 0, 0, 6, 14, 0, 0, 64, 224, 480, 1023, 2047]
theorem slices_IsSortedFunc_Share_at_impl_compareShares.tab4 : rtab .any (opsOf Try.f61 4) = slices_IsSortedFunc_Share_at_impl_compareShares.T4 := by kernel_rfl
theorem slices_IsSortedFunc_Share_at_impl_compareShares.bits4 : waitsOk slices_IsSortedFunc_Share_at_impl_compareShares.T4.2 slices_IsSortedFunc_Share_at_impl_compareShares.B4 = true := by kernel_rfl
theorem slices_IsSortedFunc_Share_at_impl_compareShares.calls (k : Nat) (A0 : Option Addr) (c0 : Nat) (l0 : List (S33))  (r : Bool) (w : World) (hr0 : Kd.C k33 w A0 l0.length l0) (hc0 : l0.length ≤ c0) (h : slices_IsSortedFunc_Share_at_impl_compareShares.f k l0 = some r) :
  Calls Try.prog 61 #[.slice A0 l0.length c0, .func (.func 55) #[] #[]] w fun e w' => e = .returned (.bool r) ∧ Below w.heap.size w w' := by
 have hu33 := Try.underlying33
 have HR0 := Aside0.mk hr0
 have HC0 := Aside0.mk hc0
 clear hr0 hc0
 have HB := aK (Below.refl w.heap.size w)
 have H : (slices_IsSortedFunc_Share_at_impl_compareShares.l0 k l0 (wrap64 ((l0.length : Int) - 1))) = some r := h
 clear h
 have H' := Aside0.mk H
 clear H
 go_enter Try.func61, Try.ntmps61
 go_wp2
 go_loopg [5] k (fun kq v5 w' => ∃ (x5_1 : Int), v5 = .int .i64 x5_1 ∧ Aside0 (slices_IsSortedFunc_Share_at_impl_compareShares.l0 kq l0 x5_1 = some r) ∧ Aside0 (kq ≤ k) ∧ Aside0 (Below w.heap.size w w'))
 case atStart => exact ⟨(wrap64 ((l0.length : Int) - 1)), (by first | rfl | (simp; done) | (simp [*]; done)), H', ⟨Nat.le_refl _⟩, ⟨pT HB.out⟩⟩
 case round =>
  clear H'
  try clear p2
  obtain ⟨x5_1, rfl, HA, HK1, HB⟩ := hrel
  cases gk with
  | zero => exact absurd HA.out (by simp [slices_IsSortedFunc_Share_at_impl_compareShares.l0])
  | succ k1 =>
   have H := HA.out
   clear HA
   simp only [slices_IsSortedFunc_Share_at_impl_compareShares.l0] at H
   by_cases c3 : x5_1 > 0
   ·
    rw [if_pos c3] at H
    have c3b0 : decide (0 < x5_1) = true := decide_eq_true c3
    clear c3
    by_cases c4 : 0 ≤ x5_1
    ·
     rw [if_pos c4] at H
     have c4b0 : decide (0 ≤ x5_1) = true := decide_eq_true c4
     clear c4
     by_cases c5 : x5_1 < (l0.length : Int)
     ·
      rw [if_pos c5] at H
      have c5b0 : decide (x5_1 < (l0.length : Int)) = true := decide_eq_true c5
      clear c5
      obtain ⟨ji6, hji6⟩ : ∃ j_ : Int, (wrap64 (x5_1 - 1)) = j_ := ⟨_, rfl⟩
      replace H : (if 0 ≤ (ji6) then (if (ji6) < (l0.length : Int) then ((impl_compareShares.f ((rd_T33 l0 x5_1).f0) ((rd_T33 l0 x5_1).f1) ((rd_T33 l0 (ji6)).f0) ((rd_T33 l0 (ji6)).f1)).bind fun t103 => (if t103 < 0 then (some false) else (slices_IsSortedFunc_Share_at_impl_compareShares.l0 k1 l0 ji6))) else (none)) else (none)) = some r := by first | (rw [hji6] at H; exact H) | (simp only [hji6] at H ⊢; exact H)
      have hji6w : (IntKind.i64.wrap (x5_1 - 1)) = ji6 := (i64_w _).trans hji6
      by_cases c7 : 0 ≤ (ji6)
      ·
       rw [if_pos c7] at H
       have c7b0 : decide (0 ≤ (ji6)) = true := decide_eq_true c7
       clear c7
       by_cases c8 : (ji6) < (l0.length : Int)
       ·
        rw [if_pos c8] at H
        have c8b0 : decide ((ji6) < (l0.length : Int)) = true := decide_eq_true c8
        clear c8
        replace H := Option.bind_eq_some_iff.mp H
        obtain ⟨t103, A90, H⟩ := H
        replace H : (if t103 < 0 then (some false) else (slices_IsSortedFunc_Share_at_impl_compareShares.l0 k1 l0 ji6)) = some r := H
        have A9 := Aside0.mk A90
        clear A90
        by_cases c10 : t103 < 0
        ·
         rw [if_pos c10] at H
         have c10b0 : decide (t103 < 0) = true := decide_eq_true c10
         clear c10
         obtain rfl := Option.some.inj H
         try go_wp2
         have n0_ := aK (below_drew1 HB.out)
         clear HB
         have HB := n0_
         clear n0_
         have p101 : 0 ≤ (x5_1 : Int) := of_decide_eq_true (by first | (with_reducible assumption) | assumption)
         have q101 : x5_1 < (l0.length : Int) := of_decide_eq_true (by first | (with_reducible assumption) | assumption)
         obtain ⟨ad101, e101, hx101_0, hx101_1⟩ := at_T33 HR0.out x5_1 p101 q101
         have hw101_1 := hx101_1
         have hw101_0 := hx101_0
         cases e101
         replace hx101_0 := (HB.out.cell (World.block_lt_of_cell? w _ hx101_0)).trans hx101_0
         replace hx101_1 := (HB.out.cell (World.block_lt_of_cell? w _ hx101_1)).trans hx101_1
         replace p101 := eq_true p101
         replace q101 := eq_true q101
         have p102 : 0 ≤ ((ji6) : Int) := of_decide_eq_true (by first | (with_reducible assumption) | assumption)
         have q102 : (ji6) < (l0.length : Int) := of_decide_eq_true (by first | (with_reducible assumption) | assumption)
         obtain ⟨ad102, e102, hx102_0, hx102_1⟩ := at_T33 HR0.out (ji6) p102 q102
         have hw102_1 := hx102_1
         have hw102_0 := hx102_0
         obtain rfl : ad101 = ad102 := (by injection e102)
         replace hx102_0 := (HB.out.cell (World.block_lt_of_cell? w _ hx102_0)).trans hx102_0
         replace hx102_1 := (HB.out.cell (World.block_lt_of_cell? w _ hx102_1)).trans hx102_1
         replace p102 := eq_true p102
         replace q102 := eq_true q102
         refine start_ (n := 12) (S := fun w' => w'.cell? (ad101.add ((x5_1).toNat * 2)) = some (.int .i64 ((rd_T33 l0 x5_1).f0)) ∧ w'.cell? ⟨(ad101.add ((x5_1).toNat * 2)).block, (ad101.add ((x5_1).toNat * 2)).off + 1, none⟩ = some (.int .i64 ((rd_T33 l0 x5_1).f1)) ∧ w'.cell? (ad101.add (((ji6)).toNat * 2)) = some (.int .i64 ((rd_T33 l0 (ji6)).f0)) ∧ w'.cell? ⟨(ad101.add (((ji6)).toNat * 2)).block, (ad101.add (((ji6)).toNat * 2)).off + 1, none⟩ = some (.int .i64 ((rd_T33 l0 (ji6)).f1))) (ds := []) #[false, false, false, false, false, false, false, false, false, false, false, false] (by kernel_rfl) rfl rfl ⟨((HB.out.cell (World.block_lt_of_cell? w _ hw101_0)).trans hw101_0), ((HB.out.cell (World.block_lt_of_cell? w _ hw101_1)).trans hw101_1), ((HB.out.cell (World.block_lt_of_cell? w _ hw102_0)).trans hw102_0), ((HB.out.cell (World.block_lt_of_cell? w _ hw102_1)).trans hw102_1)⟩ (fun hHeld => ?_); refine with_tabW slices_IsSortedFunc_Share_at_impl_compareShares.tab4 slices_IsSortedFunc_Share_at_impl_compareShares.bits4 (fun HT_ HW_ => ?_)
         generalize wr.drew = w11 at HB hx101_0 hx101_1 hx102_0 hx102_1 hHeld ⊢
         refine pu (i := 0) (N := some 13) #[true, false, false, false, false, false, false, false, false, false, false, false] rfl rfl HT_.out ?_
         refine pu (i := 1) (N := some 14) #[true, true, false, false, false, false, false, false, false, false, false, false] rfl rfl HT_.out ?_
         refine pu (i := 2) (N := some 15) #[true, true, true, false, false, false, false, false, false, false, false, false] rfl rfl HT_.out ?_
         refine pu (i := 3) (N := some 16) #[true, true, true, true, false, false, false, false, false, false, false, false] rfl rfl HT_.out ?_
         refine pu (i := 5) (N := some 18) #[true, true, true, true, false, true, false, false, false, false, false, false] rfl rfl HT_.out ?_
         refine pu (i := 6) (N := some 19) #[true, true, true, true, false, true, true, false, false, false, false, false] rfl rfl HT_.out ?_
         refine pu (i := 7) (N := some 20) #[true, true, true, true, false, true, true, true, false, false, false, false] rfl rfl HT_.out ?_
         refine pu (i := 8) (N := some 21) #[true, true, true, true, false, true, true, true, true, false, false, false] rfl rfl HT_.out ?_
         refine tk (i := 4) (N := some 17) #[true, true, true, true, true, true, true, true, true, false, false, false] rfl rfl HT_.out HW_.out (Or.inl ⟨by rfl, by rintro w' ⟨s0, s1, s2, s3⟩; go_simp; with_reducible rfl⟩) hHeld ?_
         refine tk (i := 9) (N := some 22) #[true, true, true, true, true, true, true, true, true, true, false, false] rfl rfl HT_.out HW_.out (Or.inl ⟨by rfl, by rintro w' ⟨s0, s1, s2, s3⟩; go_simp; with_reducible rfl⟩) hHeld ?_
         refine one_ (i := 10) (N := some 23) #[true, true, true, true, true, true, true, true, true, true, true, false] rfl rfl (one_of HT_.out (by kernel_rfl)) (by decide) (fun K hK => ?_)
         refine mp_goes Try.func55 (by kernel_rfl) rfl #[.agg #[.int .i64 ((rd_T33 l0 x5_1).f0), .int .i64 ((rd_T33 l0 x5_1).f1)], .agg #[.int .i64 ((rd_T33 l0 (ji6)).f0), .int .i64 ((rd_T33 l0 (ji6)).f1)]] (by rfl) rfl rfl rfl (by (try simp only [List.map_toArray, List.map_cons, List.map_nil]); first | done | (simp only [hji6]; rfl) | rfl | (simp only [List.length_drop, List.length_take]; rfl)) ?_
         with_reducible refine (impl_compareShares.calls ((rd_T33 l0 x5_1).f0) ((rd_T33 l0 x5_1).f1) ((rd_T33 l0 (ji6)).f0) ((rd_T33 l0 (ji6)).f1) t103 _ A9.out).mono ?_
         rintro e w12 ⟨rfl, hb⟩
         refine ⟨_, rfl, ?_⟩
         replace HB := bS HB hb
         (try clear hb)
         (try clear hb2)
         (try clear hk)
         (try clear hi)
         refine hK.out _ _ ⟨((HB.out.cell (World.block_lt_of_cell? w _ hw101_0)).trans hw101_0), ((HB.out.cell (World.block_lt_of_cell? w _ hw101_1)).trans hw101_1), ((HB.out.cell (World.block_lt_of_cell? w _ hw102_0)).trans hw102_0), ((HB.out.cell (World.block_lt_of_cell? w _ hw102_1)).trans hw102_1)⟩ (fun hHeld => ?_)
         clear hK K
         refine norm_ (a' := ?_) ?_ ?_
         rotate_left
         ·
          show Act.put _ (some 23) _ = _
          simp only [sP]
          rfl
         refine pu (i := 11) (N := some 24) #[true, true, true, true, true, true, true, true, true, true, true, true] rfl rfl HT_.out ?_
         refine done_ (done_of HT_.out (by kernel_rfl)) ?_
         try go_wp2
         go_ret
         exact ⟨by first | rfl | (simp [errW_none, errW_some] <;> rfl) | (simp only [← hji6]; first | rfl | (simp [errW_none, errW_some] <;> rfl)) | (simp [*, errW_none, errW_some] <;> rfl), pT HB.out⟩
        rw [if_neg c10] at H
        have c10b0 : decide (t103 < 0) = false := decide_eq_false c10
        clear c10
        have H' := Aside0.mk H
        clear H
        try go_wp2
        have n0_ := aK (below_drew1 HB.out)
        clear HB
        have HB := n0_
        clear n0_
        have p101 : 0 ≤ (x5_1 : Int) := of_decide_eq_true (by first | (with_reducible assumption) | assumption)
        have q101 : x5_1 < (l0.length : Int) := of_decide_eq_true (by first | (with_reducible assumption) | assumption)
        obtain ⟨ad101, e101, hx101_0, hx101_1⟩ := at_T33 HR0.out x5_1 p101 q101
        have hw101_1 := hx101_1
        have hw101_0 := hx101_0
        cases e101
        replace hx101_0 := (HB.out.cell (World.block_lt_of_cell? w _ hx101_0)).trans hx101_0
        replace hx101_1 := (HB.out.cell (World.block_lt_of_cell? w _ hx101_1)).trans hx101_1
        replace p101 := eq_true p101
        replace q101 := eq_true q101
        have p102 : 0 ≤ ((ji6) : Int) := of_decide_eq_true (by first | (with_reducible assumption) | assumption)
        have q102 : (ji6) < (l0.length : Int) := of_decide_eq_true (by first | (with_reducible assumption) | assumption)
        obtain ⟨ad102, e102, hx102_0, hx102_1⟩ := at_T33 HR0.out (ji6) p102 q102
        have hw102_1 := hx102_1
        have hw102_0 := hx102_0
        obtain rfl : ad101 = ad102 := (by injection e102)
        replace hx102_0 := (HB.out.cell (World.block_lt_of_cell? w _ hx102_0)).trans hx102_0
        replace hx102_1 := (HB.out.cell (World.block_lt_of_cell? w _ hx102_1)).trans hx102_1
        replace p102 := eq_true p102
        replace q102 := eq_true q102
        refine start_ (n := 12) (S := fun w' => w'.cell? (ad101.add ((x5_1).toNat * 2)) = some (.int .i64 ((rd_T33 l0 x5_1).f0)) ∧ w'.cell? ⟨(ad101.add ((x5_1).toNat * 2)).block, (ad101.add ((x5_1).toNat * 2)).off + 1, none⟩ = some (.int .i64 ((rd_T33 l0 x5_1).f1)) ∧ w'.cell? (ad101.add (((ji6)).toNat * 2)) = some (.int .i64 ((rd_T33 l0 (ji6)).f0)) ∧ w'.cell? ⟨(ad101.add (((ji6)).toNat * 2)).block, (ad101.add (((ji6)).toNat * 2)).off + 1, none⟩ = some (.int .i64 ((rd_T33 l0 (ji6)).f1))) (ds := []) #[false, false, false, false, false, false, false, false, false, false, false, false] (by kernel_rfl) rfl rfl ⟨((HB.out.cell (World.block_lt_of_cell? w _ hw101_0)).trans hw101_0), ((HB.out.cell (World.block_lt_of_cell? w _ hw101_1)).trans hw101_1), ((HB.out.cell (World.block_lt_of_cell? w _ hw102_0)).trans hw102_0), ((HB.out.cell (World.block_lt_of_cell? w _ hw102_1)).trans hw102_1)⟩ (fun hHeld => ?_); refine with_tabW slices_IsSortedFunc_Share_at_impl_compareShares.tab4 slices_IsSortedFunc_Share_at_impl_compareShares.bits4 (fun HT_ HW_ => ?_)
        generalize wr.drew = w13 at HB hx101_0 hx101_1 hx102_0 hx102_1 hHeld ⊢
        refine pu (i := 0) (N := some 13) #[true, false, false, false, false, false, false, false, false, false, false, false] rfl rfl HT_.out ?_
        refine pu (i := 1) (N := some 14) #[true, true, false, false, false, false, false, false, false, false, false, false] rfl rfl HT_.out ?_
        refine pu (i := 2) (N := some 15) #[true, true, true, false, false, false, false, false, false, false, false, false] rfl rfl HT_.out ?_
        refine pu (i := 3) (N := some 16) #[true, true, true, true, false, false, false, false, false, false, false, false] rfl rfl HT_.out ?_
        refine pu (i := 5) (N := some 18) #[true, true, true, true, false, true, false, false, false, false, false, false] rfl rfl HT_.out ?_
        refine pu (i := 6) (N := some 19) #[true, true, true, true, false, true, true, false, false, false, false, false] rfl rfl HT_.out ?_
        refine pu (i := 7) (N := some 20) #[true, true, true, true, false, true, true, true, false, false, false, false] rfl rfl HT_.out ?_
        refine pu (i := 8) (N := some 21) #[true, true, true, true, false, true, true, true, true, false, false, false] rfl rfl HT_.out ?_
        refine tk (i := 4) (N := some 17) #[true, true, true, true, true, true, true, true, true, false, false, false] rfl rfl HT_.out HW_.out (Or.inl ⟨by rfl, by rintro w' ⟨s0, s1, s2, s3⟩; go_simp; with_reducible rfl⟩) hHeld ?_
        refine tk (i := 9) (N := some 22) #[true, true, true, true, true, true, true, true, true, true, false, false] rfl rfl HT_.out HW_.out (Or.inl ⟨by rfl, by rintro w' ⟨s0, s1, s2, s3⟩; go_simp; with_reducible rfl⟩) hHeld ?_
        refine one_ (i := 10) (N := some 23) #[true, true, true, true, true, true, true, true, true, true, true, false] rfl rfl (one_of HT_.out (by kernel_rfl)) (by decide) (fun K hK => ?_)
        refine mp_goes Try.func55 (by kernel_rfl) rfl #[.agg #[.int .i64 ((rd_T33 l0 x5_1).f0), .int .i64 ((rd_T33 l0 x5_1).f1)], .agg #[.int .i64 ((rd_T33 l0 (ji6)).f0), .int .i64 ((rd_T33 l0 (ji6)).f1)]] (by rfl) rfl rfl rfl (by (try simp only [List.map_toArray, List.map_cons, List.map_nil]); first | done | (simp only [hji6]; rfl) | rfl | (simp only [List.length_drop, List.length_take]; rfl)) ?_
        with_reducible refine (impl_compareShares.calls ((rd_T33 l0 x5_1).f0) ((rd_T33 l0 x5_1).f1) ((rd_T33 l0 (ji6)).f0) ((rd_T33 l0 (ji6)).f1) t103 _ A9.out).mono ?_
        rintro e w14 ⟨rfl, hb⟩
        refine ⟨_, rfl, ?_⟩
        replace HB := bS HB hb
        (try clear hb)
        (try clear hb2)
        (try clear hk)
        (try clear hi)
        refine hK.out _ _ ⟨((HB.out.cell (World.block_lt_of_cell? w _ hw101_0)).trans hw101_0), ((HB.out.cell (World.block_lt_of_cell? w _ hw101_1)).trans hw101_1), ((HB.out.cell (World.block_lt_of_cell? w _ hw102_0)).trans hw102_0), ((HB.out.cell (World.block_lt_of_cell? w _ hw102_1)).trans hw102_1)⟩ (fun hHeld => ?_)
        clear hK K
        refine norm_ (a' := ?_) ?_ ?_
        rotate_left
        ·
         show Act.put _ (some 23) _ = _
         simp only [sP]
         rfl
        refine pu (i := 11) (N := some 24) #[true, true, true, true, true, true, true, true, true, true, true, true] rfl rfl HT_.out ?_
        refine done_ (done_of HT_.out (by kernel_rfl)) ?_
        try go_wp2
        go_roundg k1
        case measure => have := HK1.out; omega
        case rel => exact ⟨(ji6), (by first | rfl | (simp; done) | (simp only [← hji6] <;> (first | rfl | simp)) | (simp [*]; done)), H', ⟨by have := HK1.out; omega⟩, ⟨pT HB.out⟩⟩
       rw [if_neg c8] at H
       exact absurd H (by simp)
      rw [if_neg c7] at H
      exact absurd H (by simp)
     rw [if_neg c5] at H
     exact absurd H (by simp)
    rw [if_neg c4] at H
    exact absurd H (by simp)
   rw [if_neg c3] at H
   have c3b0 : decide (0 < x5_1) = false := decide_eq_false c3
   clear c3
   obtain rfl := Option.some.inj H
   go_wp2
   go_ret
   exact ⟨er, pT HB.out⟩
def impl_IsMonotone.f (k : Nat) (l0 : List (S33)) : Option (Bool × Bool) := if (l0.length : Int) > 20 then (some (false, false)) else ((slices_ContainsFunc_Share_at_impl_IsMonotone_1.f k l0).bind fun t101 => (if t101 = true then (some (false, false)) else ((slices_IsSortedFunc_Share_at_impl_compareShares.f k l0).bind fun t102 => (some (t102, true)))))
theorem impl_IsMonotone.calls (k : Nat) (A0 : Option Addr) (c0 : Nat) (l0 : List (S33)) (r1 : Bool) (r2 : Bool) (w : World) (hr0 : Kd.C k33 w A0 l0.length l0) (hc0 : l0.length ≤ c0) (h : impl_IsMonotone.f k l0 = some (r1, r2)) :
  Calls Try.prog 21 #[.slice A0 l0.length c0] w fun e w' => e = .returned (.tuple #[.bool r1, .bool r2]) ∧ Below w.heap.size w w' := by
 have HR0 := Aside0.mk hr0
 have HC0 := Aside0.mk hc0
 clear hr0 hc0
 have HB := aK (Below.refl w.heap.size w)
 have H : (if (l0.length : Int) > 20 then (some (false, false)) else ((slices_ContainsFunc_Share_at_impl_IsMonotone_1.f k l0).bind fun t101 => (if t101 = true then (some (false, false)) else ((slices_IsSortedFunc_Share_at_impl_compareShares.f k l0).bind fun t102 => (some (t102, true)))))) = some (r1, r2) := h
 clear h
 by_cases c2 : (l0.length : Int) > 20
 ·
  rw [if_pos c2] at H
  have c2b0 : decide (20 < (l0.length : Int)) = true := decide_eq_true c2
  have c2b1 : decide (20 < l0.length) = true := decide_eq_true (by omega)
  clear c2
  simp only [Option.some.injEq, Prod.mk.injEq] at H
  obtain ⟨rfl, rfl⟩ := H
  go_enter Try.func21, Try.ntmps21
  go_wp2
  go_ret2
  exact ⟨er, pT HB.out⟩
 rw [if_neg c2] at H
 have c2b0 : decide (20 < (l0.length : Int)) = false := decide_eq_false c2
 have c2b1 : decide (20 < l0.length) = false := decide_eq_false (by omega)
 clear c2
 replace H := Option.bind_eq_some_iff.mp H
 obtain ⟨t101, A30, H⟩ := H
 replace H : (if t101 = true then (some (false, false)) else ((slices_IsSortedFunc_Share_at_impl_compareShares.f k l0).bind fun t102 => (some (t102, true)))) = some (r1, r2) := H
 have A3 := Aside0.mk A30
 clear A30
 by_cases c4 : t101 = true
 ·
  subst c4
  have H1 : (some (false, false)) = some (r1, r2) := by rw [if_pos rfl] at H; exact H
  clear H
  have H := H1
  clear H1
  simp only [Option.some.injEq, Prod.mk.injEq] at H
  obtain ⟨rfl, rfl⟩ := H
  go_enter Try.func21, Try.ntmps21
  go_wp2_with (first | (go_at_call 59; (with_reducible refine (slices_ContainsFunc_Share_at_impl_IsMonotone_1.calls k _ _ l0 true _ ?side1 ?side2 A3.out).mono ?_); (case side1 => exact pC HR0.out); (case side2 => exact HC0.out); rintro e w5 ⟨rfl, hb⟩; replace HB := bS HB hb; (try clear hb); (try clear hb2); (try clear hk); (try clear hi)))
  go_ret2
  exact ⟨er, pT HB.out⟩
 replace c4 := Bool.eq_false_iff.mpr c4
 subst c4
 have H1 : ((slices_IsSortedFunc_Share_at_impl_compareShares.f k l0).bind fun t102 => (some (t102, true))) = some (r1, r2) := by rw [if_neg (show ¬ (false = true) by decide)] at H; exact H
 clear H
 have H := H1
 clear H1
 replace H := Option.bind_eq_some_iff.mp H
 obtain ⟨t102, A60, H⟩ := H
 replace H : (some (t102, true)) = some (r1, r2) := H
 have A6 := Aside0.mk A60
 clear A60
 simp only [Option.some.injEq, Prod.mk.injEq] at H
 obtain ⟨rfl, rfl⟩ := H
 go_enter Try.func21, Try.ntmps21
 go_wp2_with (first | (go_at_call 59; (with_reducible refine (slices_ContainsFunc_Share_at_impl_IsMonotone_1.calls k _ _ l0 false _ ?side1 ?side2 A3.out).mono ?_); (case side1 => exact pC HR0.out); (case side2 => exact HC0.out); rintro e w7 ⟨rfl, hb⟩; replace HB := bS HB hb; (try clear hb); (try clear hb2); (try clear hk); (try clear hi)) | ((with_reducible refine gate_callee (f := 61) rfl ?_); refine gl (some 12) Try.func61 #[.slice A0 l0.length c0, .func (.func 55) #[] #[]] ?_; (with_reducible refine (slices_IsSortedFunc_Share_at_impl_compareShares.calls k _ _ l0 t102 _ ?side1 ?side2 A6.out).mono ?_); (case side1 => exact pC (Kd.C_below HR0.out HB.out)); (case side2 => exact HC0.out); rintro e w8 ⟨rfl, hb⟩; refine ⟨_, rfl, ?_⟩; replace HB := bS HB hb; (try clear hb); (try clear hb2); (try clear hk); (try clear hi)))
 go_ret2
 exact ⟨er, pT HB.out⟩
mutual
def spec_IsMonotone.l0 : Nat → List (S33) → Int → Option (Bool × Bool)
 | 0, _, _ => none
 | k + 1, x0, x4 => if x4 < (x0.length : Int) then (if 0 ≤ x4 then ((spec_l10Fraction.f k ((rd_T33 x0 x4).f0) ((rd_T33 x0 x4).f1)).bind fun t102 => (if t102 = true then (spec_IsMonotone.l0 k x0 (wrap64 (x4 + 1))) else (some (false, false)))) else (none)) else (spec_IsMonotone.l1 k x0 1)
def spec_IsMonotone.l1 : Nat → List (S33) → Int → Option (Bool × Bool)
 | 0, _, _ => none
 | k + 1, x0, x5 => if x5 < (x0.length : Int) then (if 0 ≤ x5 then (if 0 ≤ (wrap64 (x5 - 1)) then (if (wrap64 (x5 - 1)) < (x0.length : Int) then ((spec_l10Less.f ((rd_T33 x0 x5).f0) ((rd_T33 x0 x5).f1) ((rd_T33 x0 (wrap64 (x5 - 1))).f0) ((rd_T33 x0 (wrap64 (x5 - 1))).f1)).bind fun t105 => (if t105 = true then (some (false, true)) else (spec_IsMonotone.l1 k x0 (wrap64 (x5 + 1))))) else (none)) else (none)) else (none)) else (some (true, true))
end
def spec_IsMonotone.f (k : Nat) (l0 : List (S33)) : Option (Bool × Bool) := if (l0.length : Int) > 20 then (some (false, false)) else (spec_IsMonotone.l0 k l0 0)
def spec_IsMonotone.T11 : Bool × List (List Nat × List Nat) := (true, [([], []), ([], []), ([0, 1], [0, 1]), ([2], [2]), ([], []), ([], []), ([5], [5]), ([4, 6], [4, 6]), ([7], [7]), ([3, 8], [3, 8])])
def spec_IsMonotone.B11 : List Nat := [0, 0, 3, 7, 0, 0, 32, 112, 240, 511]
theorem spec_IsMonotone.tab11 : rtab .any (opsOf Try.f22 11) = spec_IsMonotone.T11 := by kernel_rfl
theorem spec_IsMonotone.bits11 : waitsOk spec_IsMonotone.T11.2 spec_IsMonotone.B11 = true := by kernel_rfl
theorem spec_IsMonotone.calls (k : Nat) (A0 : Option Addr) (c0 : Nat) (l0 : List (S33)) (r1 : Bool) (r2 : Bool) (w : World) (hr0 : Kd.C k33 w A0 l0.length l0) (hc0 : l0.length ≤ c0) (h : spec_IsMonotone.f k l0 = some (r1, r2)) :
  Calls Try.prog 22 #[.slice A0 l0.length c0] w fun e w' => e = .returned (.tuple #[.bool r1, .bool r2]) ∧ Below w.heap.size w w' := by
 have hu33 := Try.underlying33
 have HR0 := Aside0.mk hr0
 have HC0 := Aside0.mk hc0
 clear hr0 hc0
 have HB := aK (Below.refl w.heap.size w)
 have H : (if (l0.length : Int) > 20 then (some (false, false)) else (spec_IsMonotone.l0 k l0 0)) = some (r1, r2) := h
 clear h
 by_cases c2 : (l0.length : Int) > 20
 ·
  rw [if_pos c2] at H
  have c2b0 : decide (20 < (l0.length : Int)) = true := decide_eq_true c2
  have c2b1 : decide (20 < l0.length) = true := decide_eq_true (by omega)
  clear c2
  simp only [Option.some.injEq, Prod.mk.injEq] at H
  obtain ⟨rfl, rfl⟩ := H
  go_enter Try.func22, Try.ntmps22
  go_wp2
  go_ret2
  exact ⟨er, pT HB.out⟩
 rw [if_neg c2] at H
 have c2b0 : decide (20 < (l0.length : Int)) = false := decide_eq_false c2
 have c2b1 : decide (20 < l0.length) = false := decide_eq_false (by omega)
 clear c2
 have H' := Aside0.mk H
 clear H
 go_enter Try.func22, Try.ntmps22
 go_wp2
 go_loopg [4] k (fun kq v4 w' => ∃ (x4_1 : Int), v4 = .int .i64 x4_1 ∧ Aside0 (spec_IsMonotone.l0 kq l0 x4_1 = some (r1, r2)) ∧ Aside0 (kq ≤ k) ∧ Aside0 (Below w.heap.size w w'))
 case atStart => exact ⟨(0), (by first | rfl | (simp; done) | (simp [*]; done)), H', ⟨Nat.le_refl _⟩, ⟨pT HB.out⟩⟩
 case round =>
  clear H'
  try clear c2
  try clear c2b0
  try clear c2b1
  try clear p2
  obtain ⟨x4_1, rfl, HA, HK1, HB⟩ := hrel
  cases gk with
  | zero => exact absurd HA.out (by simp [spec_IsMonotone.l0])
  | succ k1 =>
   have H := HA.out
   clear HA
   simp only [spec_IsMonotone.l0] at H
   by_cases c3 : x4_1 < (l0.length : Int)
   ·
    rw [if_pos c3] at H
    have c3b0 : decide (x4_1 < (l0.length : Int)) = true := decide_eq_true c3
    clear c3
    by_cases c4 : 0 ≤ x4_1
    ·
     rw [if_pos c4] at H
     have c4b0 : decide (0 ≤ x4_1) = true := decide_eq_true c4
     clear c4
     replace H := Option.bind_eq_some_iff.mp H
     obtain ⟨t102, A50, H⟩ := H
     replace H : (if t102 = true then (spec_IsMonotone.l0 k1 l0 (wrap64 (x4_1 + 1))) else (some (false, false))) = some (r1, r2) := H
     have A5 := Aside0.mk A50
     clear A50
     by_cases c6 : t102 = true
     ·
      subst c6
      have H1 : (spec_IsMonotone.l0 k1 l0 (wrap64 (x4_1 + 1))) = some (r1, r2) := by rw [if_pos rfl] at H; exact H
      clear H
      have H := H1
      clear H1
      have H' := Aside0.mk H
      clear H
      have p101 : 0 ≤ (x4_1 : Int) := of_decide_eq_true (by first | (with_reducible assumption) | assumption)
      have q101 : x4_1 < (l0.length : Int) := of_decide_eq_true (by first | (with_reducible assumption) | assumption)
      obtain ⟨ad101, e101, hx101_0, hx101_1⟩ := at_T33 HR0.out x4_1 p101 q101
      cases e101
      replace hx101_0 := (HB.out.cell (World.block_lt_of_cell? w _ hx101_0)).trans hx101_0
      replace hx101_1 := (HB.out.cell (World.block_lt_of_cell? w _ hx101_1)).trans hx101_1
      replace p101 := eq_true p101
      replace q101 := eq_true q101
      go_wp2_with (first | ((with_reducible refine gate_callee (f := 56) rfl ?_); refine gl (some 19) Try.func56 #[.agg #[.int .i64 ((rd_T33 l0 x4_1).f0), .int .i64 ((rd_T33 l0 x4_1).f1)]] ?_; (with_reducible refine (spec_l10Fraction.calls k1 ((rd_T33 l0 x4_1).f0) ((rd_T33 l0 x4_1).f1) true _ A5.out).mono ?_); rintro e w7 ⟨rfl, hb⟩; refine ⟨_, rfl, ?_⟩; replace HB := bS HB hb; (try clear hb); (try clear hb2); (try clear hk); (try clear hi)))
      go_roundg k1
      case measure => have := HK1.out; omega
      case rel => exact ⟨(wrap64 (x4_1 + 1)), (by first | rfl | (simp; done) | (simp [*]; done)), H', ⟨by have := HK1.out; omega⟩, ⟨pT HB.out⟩⟩
     replace c6 := Bool.eq_false_iff.mpr c6
     subst c6
     have H1 : (some (false, false)) = some (r1, r2) := by rw [if_neg (show ¬ (false = true) by decide)] at H; exact H
     clear H
     have H := H1
     clear H1
     simp only [Option.some.injEq, Prod.mk.injEq] at H
     obtain ⟨rfl, rfl⟩ := H
     have p101 : 0 ≤ (x4_1 : Int) := of_decide_eq_true (by first | (with_reducible assumption) | assumption)
     have q101 : x4_1 < (l0.length : Int) := of_decide_eq_true (by first | (with_reducible assumption) | assumption)
     obtain ⟨ad101, e101, hx101_0, hx101_1⟩ := at_T33 HR0.out x4_1 p101 q101
     cases e101
     replace hx101_0 := (HB.out.cell (World.block_lt_of_cell? w _ hx101_0)).trans hx101_0
     replace hx101_1 := (HB.out.cell (World.block_lt_of_cell? w _ hx101_1)).trans hx101_1
     replace p101 := eq_true p101
     replace q101 := eq_true q101
     go_wp2_with (first | ((with_reducible refine gate_callee (f := 56) rfl ?_); refine gl (some 19) Try.func56 #[.agg #[.int .i64 ((rd_T33 l0 x4_1).f0), .int .i64 ((rd_T33 l0 x4_1).f1)]] ?_; (with_reducible refine (spec_l10Fraction.calls k1 ((rd_T33 l0 x4_1).f0) ((rd_T33 l0 x4_1).f1) false _ A5.out).mono ?_); rintro e w8 ⟨rfl, hb⟩; refine ⟨_, rfl, ?_⟩; replace HB := bS HB hb; (try clear hb); (try clear hb2); (try clear hk); (try clear hi)))
     go_ret2
     exact ⟨er, pT HB.out⟩
    rw [if_neg c4] at H
    exact absurd H (by simp)
   rw [if_neg c3] at H
   have c3b0 : decide (x4_1 < (l0.length : Int)) = false := decide_eq_false c3
   clear c3
   have H' := Aside0.mk H
   clear H
   go_wp2
   go_loopg [5] k1 (fun kq v5 w' => ∃ (x5_2 : Int), v5 = .int .i64 x5_2 ∧ Aside0 (spec_IsMonotone.l1 kq l0 x5_2 = some (r1, r2)) ∧ Aside0 (kq ≤ k1) ∧ Aside0 (Below w.heap.size w w'))
   case atStart => exact ⟨(1), (by first | rfl | (simp; done) | (simp [*]; done)), H', ⟨Nat.le_refl _⟩, ⟨pT HB.out⟩⟩
   case round =>
    clear H'
    try clear p1
    try clear q1
    try clear hx1
    try clear c2
    try clear c2b0
    try clear c2b1
    try clear p2
    try clear c3
    try clear c3b0
    try clear c4
    try clear c4b0
    try clear c5
    try clear c6
    try clear p6
    try clear hx101_0
    try clear hx101_1
    try clear p101
    try clear p2
    try clear q101
    obtain ⟨x5_2, rfl, HA, HK2, HB⟩ := hrel
    cases gk with
    | zero => exact absurd HA.out (by simp [spec_IsMonotone.l1])
    | succ k2 =>
     have H := HA.out
     clear HA
     simp only [spec_IsMonotone.l1] at H
     by_cases c9 : x5_2 < (l0.length : Int)
     ·
      rw [if_pos c9] at H
      have c9b0 : decide (x5_2 < (l0.length : Int)) = true := decide_eq_true c9
      clear c9
      by_cases c10 : 0 ≤ x5_2
      ·
       rw [if_pos c10] at H
       have c10b0 : decide (0 ≤ x5_2) = true := decide_eq_true c10
       clear c10
       obtain ⟨ji11, hji11⟩ : ∃ j_ : Int, (wrap64 (x5_2 - 1)) = j_ := ⟨_, rfl⟩
       replace H : (if 0 ≤ (ji11) then (if (ji11) < (l0.length : Int) then ((spec_l10Less.f ((rd_T33 l0 x5_2).f0) ((rd_T33 l0 x5_2).f1) ((rd_T33 l0 (ji11)).f0) ((rd_T33 l0 (ji11)).f1)).bind fun t105 => (if t105 = true then (some (false, true)) else (spec_IsMonotone.l1 k2 l0 (wrap64 (x5_2 + 1))))) else (none)) else (none)) = some (r1, r2) := by first | (rw [hji11] at H; exact H) | (simp only [hji11] at H ⊢; exact H)
       have hji11w : (IntKind.i64.wrap (x5_2 - 1)) = ji11 := (i64_w _).trans hji11
       by_cases c12 : 0 ≤ (ji11)
       ·
        rw [if_pos c12] at H
        have c12b0 : decide (0 ≤ (ji11)) = true := decide_eq_true c12
        clear c12
        by_cases c13 : (ji11) < (l0.length : Int)
        ·
         rw [if_pos c13] at H
         have c13b0 : decide ((ji11) < (l0.length : Int)) = true := decide_eq_true c13
         clear c13
         replace H := Option.bind_eq_some_iff.mp H
         obtain ⟨t105, A140, H⟩ := H
         replace H : (if t105 = true then (some (false, true)) else (spec_IsMonotone.l1 k2 l0 (wrap64 (x5_2 + 1)))) = some (r1, r2) := H
         have A14 := Aside0.mk A140
         clear A140
         by_cases c15 : t105 = true
         ·
          subst c15
          have H1 : (some (false, true)) = some (r1, r2) := by rw [if_pos rfl] at H; exact H
          clear H
          have H := H1
          clear H1
          simp only [Option.some.injEq, Prod.mk.injEq] at H
          obtain ⟨rfl, rfl⟩ := H
          try go_wp2
          have n0_ := aK (below_drew1 HB.out)
          clear HB
          have HB := n0_
          clear n0_
          have p103 : 0 ≤ (x5_2 : Int) := of_decide_eq_true (by first | (with_reducible assumption) | assumption)
          have q103 : x5_2 < (l0.length : Int) := of_decide_eq_true (by first | (with_reducible assumption) | assumption)
          obtain ⟨ad103, e103, hx103_0, hx103_1⟩ := at_T33 HR0.out x5_2 p103 q103
          have hw103_1 := hx103_1
          have hw103_0 := hx103_0
          cases e103
          replace hx103_0 := (HB.out.cell (World.block_lt_of_cell? w _ hx103_0)).trans hx103_0
          replace hx103_1 := (HB.out.cell (World.block_lt_of_cell? w _ hx103_1)).trans hx103_1
          replace p103 := eq_true p103
          replace q103 := eq_true q103
          have p104 : 0 ≤ ((ji11) : Int) := of_decide_eq_true (by first | (with_reducible assumption) | assumption)
          have q104 : (ji11) < (l0.length : Int) := of_decide_eq_true (by first | (with_reducible assumption) | assumption)
          obtain ⟨ad104, e104, hx104_0, hx104_1⟩ := at_T33 HR0.out (ji11) p104 q104
          have hw104_1 := hx104_1
          have hw104_0 := hx104_0
          obtain rfl : ad103 = ad104 := (by injection e104)
          replace hx104_0 := (HB.out.cell (World.block_lt_of_cell? w _ hx104_0)).trans hx104_0
          replace hx104_1 := (HB.out.cell (World.block_lt_of_cell? w _ hx104_1)).trans hx104_1
          replace p104 := eq_true p104
          replace q104 := eq_true q104
          refine start_ (n := 10) (S := fun w' => w'.cell? (ad103.add ((x5_2).toNat * 2)) = some (.int .i64 ((rd_T33 l0 x5_2).f0)) ∧ w'.cell? ⟨(ad103.add ((x5_2).toNat * 2)).block, (ad103.add ((x5_2).toNat * 2)).off + 1, none⟩ = some (.int .i64 ((rd_T33 l0 x5_2).f1)) ∧ w'.cell? (ad103.add (((ji11)).toNat * 2)) = some (.int .i64 ((rd_T33 l0 (ji11)).f0)) ∧ w'.cell? ⟨(ad103.add (((ji11)).toNat * 2)).block, (ad103.add (((ji11)).toNat * 2)).off + 1, none⟩ = some (.int .i64 ((rd_T33 l0 (ji11)).f1))) (ds := []) #[false, false, false, false, false, false, false, false, false, false] (by kernel_rfl) rfl rfl ⟨((HB.out.cell (World.block_lt_of_cell? w _ hw103_0)).trans hw103_0), ((HB.out.cell (World.block_lt_of_cell? w _ hw103_1)).trans hw103_1), ((HB.out.cell (World.block_lt_of_cell? w _ hw104_0)).trans hw104_0), ((HB.out.cell (World.block_lt_of_cell? w _ hw104_1)).trans hw104_1)⟩ (fun hHeld => ?_); refine with_tabW spec_IsMonotone.tab11 spec_IsMonotone.bits11 (fun HT_ HW_ => ?_)
          generalize wr.drew = w16 at HB hx103_0 hx103_1 hx104_0 hx104_1 hHeld ⊢
          refine pu (i := 0) (N := some 27) #[true, false, false, false, false, false, false, false, false, false] rfl rfl HT_.out ?_
          refine pu (i := 1) (N := some 28) #[true, true, false, false, false, false, false, false, false, false] rfl rfl HT_.out ?_
          refine pu (i := 2) (N := some 29) #[true, true, true, false, false, false, false, false, false, false] rfl rfl HT_.out ?_
          refine pu (i := 4) (N := some 31) #[true, true, true, false, true, false, false, false, false, false] rfl rfl HT_.out ?_
          refine pu (i := 5) (N := some 32) #[true, true, true, false, true, true, false, false, false, false] rfl rfl HT_.out ?_
          refine pu (i := 6) (N := some 33) #[true, true, true, false, true, true, true, false, false, false] rfl rfl HT_.out ?_
          refine pu (i := 7) (N := some 34) #[true, true, true, false, true, true, true, true, false, false] rfl rfl HT_.out ?_
          refine tk (i := 3) (N := some 30) #[true, true, true, true, true, true, true, true, false, false] rfl rfl HT_.out HW_.out (Or.inl ⟨by rfl, by rintro w' ⟨s0, s1, s2, s3⟩; go_simp; with_reducible rfl⟩) hHeld ?_
          refine tk (i := 8) (N := some 35) #[true, true, true, true, true, true, true, true, true, false] rfl rfl HT_.out HW_.out (Or.inl ⟨by rfl, by rintro w' ⟨s0, s1, s2, s3⟩; go_simp; with_reducible rfl⟩) hHeld ?_
          refine one_ (i := 9) (N := some 36) #[true, true, true, true, true, true, true, true, true, true] rfl rfl (one_of HT_.out (by kernel_rfl)) (by decide) (fun K hK => ?_)
          refine goes_ Try.func58 (by kernel_rfl) rfl #[.agg #[.int .i64 ((rd_T33 l0 x5_2).f0), .int .i64 ((rd_T33 l0 x5_2).f1)], .agg #[.int .i64 ((rd_T33 l0 (ji11)).f0), .int .i64 ((rd_T33 l0 (ji11)).f1)]] (by rfl) rfl rfl (by (try simp only [List.map_toArray, List.map_cons, List.map_nil]); first | done | (simp only [hji11]; rfl) | rfl | (simp only [List.length_drop, List.length_take]; rfl)) ?_
          with_reducible refine (spec_l10Less.calls ((rd_T33 l0 x5_2).f0) ((rd_T33 l0 x5_2).f1) ((rd_T33 l0 (ji11)).f0) ((rd_T33 l0 (ji11)).f1) true _ A14.out).mono ?_
          rintro e w17 ⟨rfl, hb⟩
          refine ⟨_, rfl, ?_⟩
          replace HB := bS HB hb
          (try clear hb)
          (try clear hb2)
          (try clear hk)
          (try clear hi)
          refine hK.out _ _ ⟨((HB.out.cell (World.block_lt_of_cell? w _ hw103_0)).trans hw103_0), ((HB.out.cell (World.block_lt_of_cell? w _ hw103_1)).trans hw103_1), ((HB.out.cell (World.block_lt_of_cell? w _ hw104_0)).trans hw104_0), ((HB.out.cell (World.block_lt_of_cell? w _ hw104_1)).trans hw104_1)⟩ (fun hHeld => ?_)
          clear hK K
          refine norm_ (a' := ?_) ?_ ?_
          rotate_left
          ·
           show Act.put _ (some 36) _ = _
           simp only [sP]
           rfl
          refine done_ (done_of HT_.out (by kernel_rfl)) ?_
          try go_wp2
          go_ret2
          exact ⟨by first | rfl | (simp [errW_none, errW_some] <;> rfl) | (simp only [← hji11]; first | rfl | (simp [errW_none, errW_some] <;> rfl)) | (simp [*, errW_none, errW_some] <;> rfl), pT HB.out⟩
         replace c15 := Bool.eq_false_iff.mpr c15
         subst c15
         have H1 : (spec_IsMonotone.l1 k2 l0 (wrap64 (x5_2 + 1))) = some (r1, r2) := by rw [if_neg (show ¬ (false = true) by decide)] at H; exact H
         clear H
         have H := H1
         clear H1
         have H' := Aside0.mk H
         clear H
         try go_wp2
         have n0_ := aK (below_drew1 HB.out)
         clear HB
         have HB := n0_
         clear n0_
         have p103 : 0 ≤ (x5_2 : Int) := of_decide_eq_true (by first | (with_reducible assumption) | assumption)
         have q103 : x5_2 < (l0.length : Int) := of_decide_eq_true (by first | (with_reducible assumption) | assumption)
         obtain ⟨ad103, e103, hx103_0, hx103_1⟩ := at_T33 HR0.out x5_2 p103 q103
         have hw103_1 := hx103_1
         have hw103_0 := hx103_0
         cases e103
         replace hx103_0 := (HB.out.cell (World.block_lt_of_cell? w _ hx103_0)).trans hx103_0
         replace hx103_1 := (HB.out.cell (World.block_lt_of_cell? w _ hx103_1)).trans hx103_1
         replace p103 := eq_true p103
         replace q103 := eq_true q103
         have p104 : 0 ≤ ((ji11) : Int) := of_decide_eq_true (by first | (with_reducible assumption) | assumption)
         have q104 : (ji11) < (l0.length : Int) := of_decide_eq_true (by first | (with_reducible assumption) | assumption)
         obtain ⟨ad104, e104, hx104_0, hx104_1⟩ := at_T33 HR0.out (ji11) p104 q104
         have hw104_1 := hx104_1
         have hw104_0 := hx104_0
         obtain rfl : ad103 = ad104 := (by injection e104)
         replace hx104_0 := (HB.out.cell (World.block_lt_of_cell? w _ hx104_0)).trans hx104_0
         replace hx104_1 := (HB.out.cell (World.block_lt_of_cell? w _ hx104_1)).trans hx104_1
         replace p104 := eq_true p104
         replace q104 := eq_true q104
         refine start_ (n := 10) (S := fun w' => w'.cell? (ad103.add ((x5_2).toNat * 2)) = some (.int .i64 ((rd_T33 l0 x5_2).f0)) ∧ w'.cell? ⟨(ad103.add ((x5_2).toNat * 2)).block, (ad103.add ((x5_2).toNat * 2)).off + 1, none⟩ = some (.int .i64 ((rd_T33 l0 x5_2).f1)) ∧ w'.cell? (ad103.add (((ji11)).toNat * 2)) = some (.int .i64 ((rd_T33 l0 (ji11)).f0)) ∧ w'.cell? ⟨(ad103.add (((ji11)).toNat * 2)).block, (ad103.add (((ji11)).toNat * 2)).off + 1, none⟩ = some (.int .i64 ((rd_T33 l0 (ji11)).f1))) (ds := []) #[false, false, false, false, false, false, false, false, false, false] (by kernel_rfl) rfl rfl ⟨((HB.out.cell (World.block_lt_of_cell? w _ hw103_0)).trans hw103_0), ((HB.out.cell (World.block_lt_of_cell? w _ hw103_1)).trans hw103_1), ((HB.out.cell (World.block_lt_of_cell? w _ hw104_0)).trans hw104_0), ((HB.out.cell (World.block_lt_of_cell? w _ hw104_1)).trans hw104_1)⟩ (fun hHeld => ?_); refine with_tabW spec_IsMonotone.tab11 spec_IsMonotone.bits11 (fun HT_ HW_ => ?_)
         generalize wr.drew = w18 at HB hx103_0 hx103_1 hx104_0 hx104_1 hHeld ⊢
         refine pu (i := 0) (N := some 27) #[true, false, false, false, false, false, false, false, false, false] rfl rfl HT_.out ?_
         refine pu (i := 1) (N := some 28) #[true, true, false, false, false, false, false, false, false, false] rfl rfl HT_.out ?_
         refine pu (i := 2) (N := some 29) #[true, true, true, false, false, false, false, false, false, false] rfl rfl HT_.out ?_
         refine pu (i := 4) (N := some 31) #[true, true, true, false, true, false, false, false, false, false] rfl rfl HT_.out ?_
         refine pu (i := 5) (N := some 32) #[true, true, true, false, true, true, false, false, false, false] rfl rfl HT_.out ?_
         refine pu (i := 6) (N := some 33) #[true, true, true, false, true, true, true, false, false, false] rfl rfl HT_.out ?_
         refine pu (i := 7) (N := some 34) #[true, true, true, false, true, true, true, true, false, false] rfl rfl HT_.out ?_
         refine tk (i := 3) (N := some 30) #[true, true, true, true, true, true, true, true, false, false] rfl rfl HT_.out HW_.out (Or.inl ⟨by rfl, by rintro w' ⟨s0, s1, s2, s3⟩; go_simp; with_reducible rfl⟩) hHeld ?_
         refine tk (i := 8) (N := some 35) #[true, true, true, true, true, true, true, true, true, false] rfl rfl HT_.out HW_.out (Or.inl ⟨by rfl, by rintro w' ⟨s0, s1, s2, s3⟩; go_simp; with_reducible rfl⟩) hHeld ?_
         refine one_ (i := 9) (N := some 36) #[true, true, true, true, true, true, true, true, true, true] rfl rfl (one_of HT_.out (by kernel_rfl)) (by decide) (fun K hK => ?_)
         refine goes_ Try.func58 (by kernel_rfl) rfl #[.agg #[.int .i64 ((rd_T33 l0 x5_2).f0), .int .i64 ((rd_T33 l0 x5_2).f1)], .agg #[.int .i64 ((rd_T33 l0 (ji11)).f0), .int .i64 ((rd_T33 l0 (ji11)).f1)]] (by rfl) rfl rfl (by (try simp only [List.map_toArray, List.map_cons, List.map_nil]); first | done | (simp only [hji11]; rfl) | rfl | (simp only [List.length_drop, List.length_take]; rfl)) ?_
         with_reducible refine (spec_l10Less.calls ((rd_T33 l0 x5_2).f0) ((rd_T33 l0 x5_2).f1) ((rd_T33 l0 (ji11)).f0) ((rd_T33 l0 (ji11)).f1) false _ A14.out).mono ?_
         rintro e w19 ⟨rfl, hb⟩
         refine ⟨_, rfl, ?_⟩
         replace HB := bS HB hb
         (try clear hb)
         (try clear hb2)
         (try clear hk)
         (try clear hi)
         refine hK.out _ _ ⟨((HB.out.cell (World.block_lt_of_cell? w _ hw103_0)).trans hw103_0), ((HB.out.cell (World.block_lt_of_cell? w _ hw103_1)).trans hw103_1), ((HB.out.cell (World.block_lt_of_cell? w _ hw104_0)).trans hw104_0), ((HB.out.cell (World.block_lt_of_cell? w _ hw104_1)).trans hw104_1)⟩ (fun hHeld => ?_)
         clear hK K
         refine norm_ (a' := ?_) ?_ ?_
         rotate_left
         ·
          show Act.put _ (some 36) _ = _
          simp only [sP]
          rfl
         refine done_ (done_of HT_.out (by kernel_rfl)) ?_
         try go_wp2
         go_roundg k2
         case measure => have := HK1.out; have := HK2.out; omega
         case rel => exact ⟨(wrap64 (x5_2 + 1)), (by first | rfl | (simp; done) | (simp [*]; done)), H', ⟨by have := HK1.out; have := HK2.out; omega⟩, ⟨pT HB.out⟩⟩
        rw [if_neg c13] at H
        exact absurd H (by simp)
       rw [if_neg c12] at H
       exact absurd H (by simp)
      rw [if_neg c10] at H
      exact absurd H (by simp)
     rw [if_neg c9] at H
     have c9b0 : decide (x5_2 < (l0.length : Int)) = false := decide_eq_false c9
     clear c9
     simp only [Option.some.injEq, Prod.mk.injEq] at H
     obtain ⟨rfl, rfl⟩ := H
     go_wp2
     go_ret2
     exact ⟨er, pT HB.out⟩
def laws_vBig.f (l0 : List Int) : Option (Bool) := some (decide ((l0.length : Int) > 65536))
theorem laws_vBig.calls (A0 : Option Addr) (c0 : Nat) (l0 : List Int) (r : Bool) (w : World) (hr0 : Kd.C (Kd.int .u8) w A0 l0.length l0) (hc0 : l0.length ≤ c0) (h : laws_vBig.f l0 = some r) :
  Calls Try.prog 6 #[.slice A0 l0.length c0] w fun e w' => e = .returned (.bool r) ∧ Drawn0 w w' := by
 have HR0 := Aside0.mk hr0
 have HC0 := Aside0.mk hc0
 clear hr0 hc0
 have H : (some (decide ((l0.length : Int) > 65536))) = some r := h
 clear h
 obtain rfl := Option.some.inj H
 go_enter Try.func6, Try.ntmps6
 go_wp2
 go_ret
 exact ⟨by first | rfl | (simp; done) | (simp [*]; done), by repeat (first | exact Drawn0.refl _ | apply Drawn0.step)⟩
def spec_DrawAddCase.f (k : Nat) (l0 : List Int) : Option (List Int × List Int × Int × Bool) := (spec_l1Cur_tally.f k l0 0 0).bind fun bt103 => ((spec_l1Cur_pick.f l0 bt103.2.2.1 bt103.2.2.2 13).bind fun bt111 => ((spec_l1Cur_one.f l0 bt111.2.1 bt111.2.2 2).bind fun bt114 => (some (bt103.1, bt103.2.1, wrap64 (bt111.1 - 1), bt114.1))))
theorem spec_DrawAddCase.calls (k : Nat) (A0 : Option Addr) (c0 : Nat) (l0 : List Int) (r1 : List Int) (r2 : List Int) (r3 : Int) (r4 : Bool) (w : World) (hr0 : Kd.C (Kd.int .u8) w A0 l0.length l0) (hc0 : l0.length ≤ c0) (h : spec_DrawAddCase.f k l0 = some (r1, r2, r3, r4)) :
  Calls Try.prog 7 #[.slice A0 l0.length c0] w fun e w' => ∃ v0_ v1_ : Value, e = .returned (.tuple #[.agg #[v0_, v1_], .int .i64 r3, .bool r4]) ∧ Kd.R (Kd.int .i64) 3 w' w.heap.size (fun k_ => some k_ ≠ (v1_ : Value).ownBlock) v0_ r1 ∧ Kd.Q (Kd.int .i64) 3 w' w.heap.size (fun k_ => some k_ ≠ (v0_ : Value).ownBlock) v1_ r2 ∧ Below w.heap.size w w' := by
 have hu26 := Try.underlying26
 have hu65 := Try.underlying65
 have HR0 := Aside0.mk hr0
 have HC0 := Aside0.mk hc0
 clear hr0 hc0
 have HB := aK (Below.refl w.heap.size w)
 have H : ((spec_l1Cur_tally.f k l0 0 0).bind fun bt103 => ((spec_l1Cur_pick.f l0 bt103.2.2.1 bt103.2.2.2 13).bind fun bt111 => ((spec_l1Cur_one.f l0 bt111.2.1 bt111.2.2 2).bind fun bt114 => (some (bt103.1, bt103.2.1, wrap64 (bt111.1 - 1), bt114.1))))) = some (r1, r2, r3, r4) := h
 clear h
 replace H := Option.bind_eq_some_iff.mp H
 obtain ⟨⟨t103, t106, t109, t110⟩, A20, H⟩ := H
 replace H : ((spec_l1Cur_pick.f l0 t109 t110 13).bind fun bt111 => ((spec_l1Cur_one.f l0 bt111.2.1 bt111.2.2 2).bind fun bt114 => (some (t103, t106, wrap64 (bt111.1 - 1), bt114.1)))) = some (r1, r2, r3, r4) := H
 have A2 := Aside0.mk A20
 clear A20
 replace H := Option.bind_eq_some_iff.mp H
 obtain ⟨⟨t111, t112, t113⟩, A30, H⟩ := H
 replace H : ((spec_l1Cur_one.f l0 t112 t113 2).bind fun bt114 => (some (t103, t106, wrap64 (t111 - 1), bt114.1))) = some (r1, r2, r3, r4) := H
 have A3 := Aside0.mk A30
 clear A30
 replace H := Option.bind_eq_some_iff.mp H
 obtain ⟨⟨t114, t115, t116⟩, A40, H⟩ := H
 replace H : (some (t103, t106, wrap64 (t111 - 1), t114)) = some (r1, r2, r3, r4) := H
 have A4 := Aside0.mk A40
 clear A40
 simp only [Option.some.injEq, Prod.mk.injEq] at H
 obtain ⟨rfl, rfl, rfl, rfl⟩ := H
 go_enter Try.func7, Try.ntmps7
 go_wp2_with (first | ((with_reducible refine gate_dst (N := 2) rfl ?_); refine bxe (cs := #[.slice none 0 0, .slice none 0 0]) (t := 26) ?_; intro gb101 hg w5 hbox hb; have BK101 := aK (hbox); have GW101 := aK (gE hg (pS HB.out)); have GE101 := GW101; replace HB := bS HB hb; clear hb hbox hg) | ((with_reducible refine gate_dst (N := 8) rfl ?_); refine bxe (cs := #[.slice A0 l0.length c0, .int .i64 0, .int .u64 0]) (t := 65) ?_; intro gb102 hg w6 hbox hb; have HI102 := aK ((⟨_, _, hbox, (by rw [hg]; exact (below_size (pS HB.out)) : w.heap.size ≤ gb102), HR0.out⟩ : IsS65 w w6 gb102 l0 0 0)); obtain ⟨NB101_102, NB102_101⟩ := nb hg (pB BK101.out); replace BK101 := bB BK101 hb; replace HB := bS HB hb; clear hb hbox hg) | ((with_reducible refine gate_callee (f := 38) rfl ?_); refine gl (some 10) Try.func38 #[.pointer (some ⟨gb102, 0, none⟩)] ?_; (with_reducible refine (spec_l1Cur_tally.calls k gb102 l0 0 0 t103 t106 t109 t110 w _ ?side1 ?side2 A2.out).mono ?_); (case side1 => exact pI65 HI102.out); (case side2 => exact pV HB.out (IsS65.ge HI102.out)); rintro e w7 ⟨v104, v107, rfl, ho0, ho1, hi, hb, hk⟩; refine ⟨_, rfl, ?_⟩; have n0_ := aK (KeepBut.blk hk (pB BK101.out) NB101_102.out (by simp)); have HO105 := aK (Kd.R_lower ho0 (below_size ((pV HB.out (IsS65.ge HI102.out))))); have HO108 := aK (Kd.Q_lower ho1 (below_size ((pV HB.out (IsS65.ge HI102.out))))); have n3_ := aK (hb); have n4_ := aK (hi); clear BK101 HB HI102; have BK101 := n0_; have HB := n3_; have HI102 := n4_; clear n0_ n3_ n4_; (try clear hb); (try clear hb2); (try clear hk); (try clear hi); (try clear ho0); (try clear ho1)) | ((with_reducible refine gate_callee (f := 39) rfl ?_); refine gl (some 12) Try.func39 #[.pointer (some ⟨gb102, 0, none⟩), .int .i64 13] ?_; (with_reducible refine (spec_l1Cur_pick.calls gb102 l0 t109 t110 13 t111 t112 t113 w _ ?side1 ?side2 A3.out).mono ?_); (case side1 => exact pI65 HI102.out); (case side2 => exact pV HB.out (IsS65.ge HI102.out)); rintro e w8 ⟨rfl, hi, hb, hk⟩; refine ⟨_, rfl, ?_⟩; have n0_ := aK (KeepBut.blk hk (pB BK101.out) NB101_102.out (by simp)); have n1_ := aK (Kd.R_mono (Kd.R_keep (IsS65.apart (show IsS65 w _ gb102 l0 t109 t110 from pI65 HI102.out) (pR HO105.out) (by decide)) hk (fun _ h => h.2)) (fun _ h => h.1)); have n2_ := aK (Kd.Q_mono (Kd.Q_keep (IsS65.apartQ (show IsS65 w _ gb102 l0 t109 t110 from pI65 HI102.out) (pQ HO108.out) (by decide)) hk (fun _ h => h.2)) (fun _ h => h.1)); have n3_ := aK (hb); have n4_ := aK (hi); clear BK101 HO105 HO108 HB HI102; have BK101 := n0_; have HO105 := n1_; have HO108 := n2_; have HB := n3_; have HI102 := n4_; clear n0_ n1_ n2_ n3_ n4_; (try clear hb); (try clear hb2); (try clear hk); (try clear hi)) | ((with_reducible refine gate_callee (f := 40) rfl ?_); refine gl (some 15) Try.func40 #[.pointer (some ⟨gb102, 0, none⟩), .int .i64 2] ?_; (with_reducible refine (spec_l1Cur_one.calls gb102 l0 t112 t113 2 t114 t115 t116 w _ ?side1 ?side2 A4.out).mono ?_); (case side1 => exact pI65 HI102.out); (case side2 => exact pV HB.out (IsS65.ge HI102.out)); rintro e w9 ⟨rfl, hi, hb, hk⟩; refine ⟨_, rfl, ?_⟩; have n0_ := aK (KeepBut.blk hk (pB BK101.out) NB101_102.out (by simp)); have n1_ := aK (Kd.R_mono (Kd.R_keep (IsS65.apart (show IsS65 w _ gb102 l0 t112 t113 from pI65 HI102.out) (pR HO105.out) (by decide)) hk (fun _ h => h.2)) (fun _ h => h.1)); have n2_ := aK (Kd.Q_mono (Kd.Q_keep (IsS65.apartQ (show IsS65 w _ gb102 l0 t112 t113 from pI65 HI102.out) (pQ HO108.out) (by decide)) hk (fun _ h => h.2)) (fun _ h => h.1)); have n3_ := aK (hb); have n4_ := aK (hi); clear BK101 HO105 HO108 HB HI102; have BK101 := n0_; have HO105 := n1_; have HO108 := n2_; have HB := n3_; have HI102 := n4_; clear n0_ n1_ n2_ n3_ n4_; (try clear hb); (try clear hb2); (try clear hk); (try clear hi); obtain ⟨Ao10, co10, eo10⟩ := Kd.R_slice HO105.out; subst eo10; have hnb11 := NB101_102.out; have hnc11 := NB102_101.out; obtain ⟨hcz12_0, hcz12_1, hfz12_0, hfz12_1⟩ := bc2 BK101.out; obtain ⟨Ao13, co13, eo13, _⟩ := Kd.Q_slice HO108.out; subst eo13))
 refine bodyPost_ret (results_ctt rfl _ _ gb101 26 #[.slice Ao10 t103.length co10, .slice Ao13 t106.length co13] (0, 0) _ rfl (by refine bk ?_; refine blk_put (cs := #[.slice Ao10 t103.length co10, .slice none 0 0]) ?_ 1 _ rfl; refine bk ?_; refine blk_put (cs := #[.slice none 0 0, .slice none 0 0]) ?_ 0 _ rfl; refine bk ?_; exact BK101.out) Try.underlying26 rfl (by kernel_rfl)) rfl ?_
 exact ⟨_, _, er, by (with_reducible repeat (first | apply Kd.R_alloc | apply Kd.R_drewN | apply Kd.R_drew)); exact rF2 HO105.out BK101.out (.slice Ao10 t103.length co10) (.slice Ao13 t106.length co13), by (with_reducible repeat (first | apply Kd.Q_alloc | apply Kd.Q_drewN | apply Kd.Q_drew)); exact qF2 HO108.out BK101.out (.slice Ao10 t103.length co10) (.slice Ao13 t106.length co13), (pV HB.out (IsS65.ge HI102.out))⟩
end Go.Proofs.Ytjicgmcogadleaa.P
