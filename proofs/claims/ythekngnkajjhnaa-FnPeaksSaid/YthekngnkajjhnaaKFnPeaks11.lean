/- Texts of the claim FnPeaks, merged: part 11 of 12: the program's and the reference's functions as Lean functions, the walks that show it, and plain lemmas; no conditions. -/
import Derived.Test.YthekngnkajjhnaaKFnPeaks3
import Derived.Test.YthekngnkajjhnaaKFnPeaks4
import Derived.Test.YthekngnkajjhnaaKFnPeaks5
import Derived.Test.YthekngnkajjhnaaKFnPeaks6
import Derived.Test.YthekngnkajjhnaaKFnPeaks7
import Derived.Test.YthekngnkajjhnaaKFnPeaks8
import Derived.Test.YthekngnkajjhnaaKFnPeaks9
import Derived.Test.YthekngnkajjhnaaKFnPeaks10
namespace Go.Proofs.Ythekngnkajjhnaa.P
open Go.RowKit Go.Proofs.YthekngnkajjhnaaW.PrintWords Go.Proofs.YthekngnkajjhnaaW.PrintLast Go.Proofs.YthekngnkajjhnaaW.PrintMore
attribute [local go_sem] max2_int min2_int max_two min_two max_three min_three max_four min_four
set_option linter.unusedVariables false
set_option linter.unusedSimpArgs false
mutual
def laws_FnPeaks.j0 : Nat → List Int → Int → List (List Int) → Bool → Bool → Int → Int → List Int → Option (Bool)
 | 0, _, _, _, _, _, _, _, _ => none
 | k + 1, x0, x4, x5, x6, x61, x109000, x109001, x109002 => if x61 = true then (some false) else ((impl_MaximumFilter.f k x109000 x109001 x109002 x4).bind fun bt118 => (if (bt118.2.2.2 != x6) = true then (some false) else (laws_FnPeaks.l0 k x0 x5 0 x109000 x109001 x109002 bt118.1 bt118.2.1 bt118.2.2.1)))
def laws_FnPeaks.l0 : Nat → List Int → List (List Int) → Int → Int → Int → List Int → Int → Int → List Int → Option (Bool)
 | 0, _, _, _, _, _, _, _, _, _ => none
 | k + 1, x0, x5, x11, x109000, x109001, x109002, x125000, x125001, x125002 => if x11 < (x5.length : Int) then (if 0 ≤ x11 then (if 1 < ((rd_L3 x5 x11).length : Int) then (if 0 < ((rd_L3 x5 x11).length : Int) then (if 0 ≤ (wrap64 ((wrap64 (x109000 * (rd (rd_L3 x5 x11) 1))) + (rd (rd_L3 x5 x11) 0))) then (if (wrap64 ((wrap64 (x109000 * (rd (rd_L3 x5 x11) 1))) + (rd (rd_L3 x5 x11) 0))) < (x109002.length : Int) then (if (rd x109002 (wrap64 ((wrap64 (x109000 * (rd (rd_L3 x5 x11) 1))) + (rd (rd_L3 x5 x11) 0)))) = (-9999) then (some false) else (if (wrap64 ((wrap64 (x109000 * (rd (rd_L3 x5 x11) 1))) + (rd (rd_L3 x5 x11) 0))) < (x125002.length : Int) then (if (rd x109002 (wrap64 ((wrap64 (x109000 * (rd (rd_L3 x5 x11) 1))) + (rd (rd_L3 x5 x11) 0)))) = (rd x125002 (wrap64 ((wrap64 (x109000 * (rd (rd_L3 x5 x11) 1))) + (rd (rd_L3 x5 x11) 0)))) then (laws_FnPeaks.l0 k x0 x5 (wrap64 (x11 + 1)) x109000 x109001 x109002 x125000 x125001 x125002) else (some false)) else (none))) else (none)) else (none)) else (none)) else (none)) else (none)) else ((spec_DrawFillByMean.f k x0).bind fun bt132 => ((impl_FillByMean.f k bt132.1 bt132.2.1 bt132.2.2.1 bt132.2.2.2).bind fun bt139 => ((spec_FillByMean.f k bt132.1 bt132.2.1 bt132.2.2.1 bt132.2.2.2).bind fun bt146 => (if (bt139.2.2.2 != bt146.2.2.2) = true then (laws_FnPeaks.j2 k x0 bt139.2.2.2 true bt132.1 bt132.2.1 bt132.2.2.1 bt139.1 bt139.2.1 bt139.2.2.1) else ((laws_rFields.f k bt139.1 bt139.2.1 bt139.2.2.1 bt146.1 bt146.2.1 bt146.2.2.1).bind fun t153 => (laws_FnPeaks.j2 k x0 bt139.2.2.2 (!t153) bt132.1 bt132.2.1 bt132.2.2.1 bt139.1 bt139.2.1 bt139.2.2.1))))))
def laws_FnPeaks.j2 : Nat → List Int → Bool → Bool → Int → Int → List Int → Int → Int → List Int → Option (Bool)
 | 0, _, _, _, _, _, _, _, _, _ => none
 | k + 1, x0, x16, x137, x139000, x139001, x139002, x146000, x146001, x146002 => if x137 = true then (some false) else (laws_FnPeaks.l1 k x0 x16 0 x139000 x139001 x139002 x146000 x146001 x146002)
def laws_FnPeaks.l1 : Nat → List Int → Bool → Int → Int → Int → List Int → Int → Int → List Int → Option (Bool)
 | 0, _, _, _, _, _, _, _, _, _ => none
 | k + 1, x0, x16, x19, x139000, x139001, x139002, x146000, x146001, x146002 => if x19 < (x139002.length : Int) then (laws_FnPeaks.j4 k x0 x16 x19 x16 x139000 x139001 x139002 x146000 x146001 x146002) else (laws_FnPeaks.j4 k x0 x16 x19 false x139000 x139001 x139002 x146000 x146001 x146002)
def laws_FnPeaks.j4 : Nat → List Int → Bool → Int → Bool → Int → Int → List Int → Int → Int → List Int → Option (Bool)
 | 0, _, _, _, _, _, _, _, _, _, _ => none
 | k + 1, x0, x16, x19, x145, x139000, x139001, x139002, x146000, x146001, x146002 => if x145 = true then (if 0 ≤ x19 then (if x19 < (x139002.length : Int) then (if (rd x139002 x19) = (-9999) then (laws_FnPeaks.l1 k x0 x16 (wrap64 (x19 + 1)) x139000 x139001 x139002 x146000 x146001 x146002) else (if x19 < (x146002.length : Int) then (if (rd x146002 x19) = (rd x139002 x19) then (laws_FnPeaks.l1 k x0 x16 (wrap64 (x19 + 1)) x139000 x139001 x139002 x146000 x146001 x146002) else (some false)) else (none))) else (none)) else (none)) else ((spec_DrawRepeatMaximum.f k x0).bind fun bt157 => ((impl_RepeatMaximum.f k bt157.1 bt157.2.1 bt157.2.2.1 bt157.2.2.2.1 bt157.2.2.2.2).bind fun bt165 => ((spec_RepeatMaximum.f k bt157.1 bt157.2.1 bt157.2.2.1 bt157.2.2.2.1 bt157.2.2.2.2).bind fun bt172 => (if (bt165.2.2.2 != bt172.2.2.2) = true then (laws_FnPeaks.j5 k x0 bt165.2.2.2 true bt157.1 bt157.2.1 bt157.2.2.1 bt165.1 bt165.2.1 bt165.2.2.1) else ((laws_rFields.f k bt165.1 bt165.2.1 bt165.2.2.1 bt172.1 bt172.2.1 bt172.2.2.1).bind fun t179 => (laws_FnPeaks.j5 k x0 bt165.2.2.2 (!t179) bt157.1 bt157.2.1 bt157.2.2.1 bt165.1 bt165.2.1 bt165.2.2.1))))))
def laws_FnPeaks.j5 : Nat → List Int → Bool → Bool → Int → Int → List Int → Int → Int → List Int → Option (Bool)
 | 0, _, _, _, _, _, _, _, _, _ => none
 | k + 1, x0, x24, x195, x165000, x165001, x165002, x172000, x172001, x172002 => if x195 = true then (some false) else (laws_FnPeaks.l2 k x0 x24 0 x165000 x165001 x165002 x172000 x172001 x172002)
def laws_FnPeaks.l2 : Nat → List Int → Bool → Int → Int → Int → List Int → Int → Int → List Int → Option (Bool)
 | 0, _, _, _, _, _, _, _, _, _ => none
 | k + 1, x0, x24, x27, x165000, x165001, x165002, x172000, x172001, x172002 => if x27 < (x165002.length : Int) then (laws_FnPeaks.j7 k x0 x24 x27 x24 x165000 x165001 x165002 x172000 x172001 x172002) else (laws_FnPeaks.j7 k x0 x24 x27 false x165000 x165001 x165002 x172000 x172001 x172002)
def laws_FnPeaks.j7 : Nat → List Int → Bool → Int → Bool → Int → Int → List Int → Int → Int → List Int → Option (Bool)
 | 0, _, _, _, _, _, _, _, _, _, _ => none
 | k + 1, x0, x24, x27, x203, x165000, x165001, x165002, x172000, x172001, x172002 => if x203 = true then (if 0 ≤ x27 then (if x27 < (x172002.length : Int) then (if x27 < (x165002.length : Int) then (if (rd x172002 x27) < (rd x165002 x27) then (some false) else (laws_FnPeaks.l2 k x0 x24 (wrap64 (x27 + 1)) x165000 x165001 x165002 x172000 x172001 x172002)) else (none)) else (none)) else (none)) else ((spec_DrawSmoothChange.f k x0).bind fun bt182 => ((impl_SmoothChange.f k bt182.1 bt182.2.1 bt182.2.2.1 bt182.2.2.2).bind fun bt189 => ((spec_SmoothChange.f k bt182.1 bt182.2.1 bt182.2.2.1 bt182.2.2.2).bind fun bt191 => (if bt189.1 = bt191.1 then (if (bt189.2 == bt191.2) = true then (some (decide (bt189.1 ≥ 0))) else (some false)) else (some false)))))
end
def laws_FnPeaks.f (k : Nat) (l0 : List Int) : Option (Bool) := (laws_rBig.f l0).bind fun t101 => (if t101 = true then (some true) else ((spec_DrawPeakCells.f k l0).bind fun bt102 => ((impl_PeakCells.f k bt102.1 bt102.2.1 bt102.2.2.1 bt102.2.2.2).bind fun bt109 => ((spec_PeakCells.f k bt102.1 bt102.2.1 bt102.2.2.1 bt102.2.2.2).bind fun bt113 => (if (bt109.2 != bt113.2) = true then (laws_FnPeaks.j0 k l0 bt102.2.2.2 bt109.1 bt109.2 true bt102.1 bt102.2.1 bt102.2.2.1) else ((laws_rTable.f k bt109.1 bt113.1).bind fun t117 => (laws_FnPeaks.j0 k l0 bt102.2.2.2 bt109.1 bt109.2 (!t117) bt102.1 bt102.2.1 bt102.2.2.1)))))))
set_option maxHeartbeats 8000000 in
set_option maxRecDepth 100000 in
theorem laws_FnPeaks.calls (k : Nat) (A0 : Option Addr) (c0 : Nat) (l0 : List Int) (r : Bool) (w : World) (hr0 : Kd.C (Kd.int .u8) w A0 l0.length l0) (hc0 : l0.length ≤ c0) (h : laws_FnPeaks.f k l0 = some r) :
  Calls Try.prog 4 #[.slice A0 l0.length c0] w fun e w' => e = .returned (.bool r) ∧ Below w.heap.size w w' := by
 have hu26 := Try.underlying26
 have HR0 := Aside0.mk hr0
 have HC0 := Aside0.mk hc0
 clear hr0 hc0
 have HB := aK (Below.refl w.heap.size w)
 have H : ((laws_rBig.f l0).bind fun t101 => (if t101 = true then (some true) else ((spec_DrawPeakCells.f k l0).bind fun bt102 => ((impl_PeakCells.f k bt102.1 bt102.2.1 bt102.2.2.1 bt102.2.2.2).bind fun bt109 => ((spec_PeakCells.f k bt102.1 bt102.2.1 bt102.2.2.1 bt102.2.2.2).bind fun bt113 => (if (bt109.2 != bt113.2) = true then (laws_FnPeaks.j0 k l0 bt102.2.2.2 bt109.1 bt109.2 true bt102.1 bt102.2.1 bt102.2.2.1) else ((laws_rTable.f k bt109.1 bt113.1).bind fun t117 => (laws_FnPeaks.j0 k l0 bt102.2.2.2 bt109.1 bt109.2 (!t117) bt102.1 bt102.2.1 bt102.2.2.1)))))))) = some r := h
 clear h
 replace H := Option.bind_eq_some_iff.mp H
 obtain ⟨t101, A20, H⟩ := H
 replace H : (if t101 = true then (some true) else ((spec_DrawPeakCells.f k l0).bind fun bt102 => ((impl_PeakCells.f k bt102.1 bt102.2.1 bt102.2.2.1 bt102.2.2.2).bind fun bt109 => ((spec_PeakCells.f k bt102.1 bt102.2.1 bt102.2.2.1 bt102.2.2.2).bind fun bt113 => (if (bt109.2 != bt113.2) = true then (laws_FnPeaks.j0 k l0 bt102.2.2.2 bt109.1 bt109.2 true bt102.1 bt102.2.1 bt102.2.2.1) else ((laws_rTable.f k bt109.1 bt113.1).bind fun t117 => (laws_FnPeaks.j0 k l0 bt102.2.2.2 bt109.1 bt109.2 (!t117) bt102.1 bt102.2.1 bt102.2.2.1))))))) = some r := H
 have A2 := Aside0.mk A20
 clear A20
 by_cases c3 : t101 = true
 ·
  subst c3
  have H1 : (some true) = some r := by rw [if_pos rfl] at H; exact H
  clear H
  have H := H1
  clear H1
  obtain rfl := Option.some.inj H
  go_enter Try.func4, Try.ntmps4
  go_wp2_with (first | (go_at_call 15; (with_reducible refine (laws_rBig.calls _ _ l0 true _ ?side1 ?side2 A2.out).mono ?_); (case side1 => exact pC HR0.out); (case side2 => exact HC0.out); rintro e w' ⟨rfl, ⟨nd, rfl⟩⟩; (try first | exact ⟨rfl, _, World.drewN_drewN _ _ _⟩ | exact ⟨rfl, _, Eq.trans (World.drewN_drewN _ _ _) (congrArg (World.drewN _) (Nat.add_assoc _ _ _))⟩)))
  go_ret
  exact ⟨by first | rfl | (simp [errW_none, errW_some] <;> rfl) | (simp [*, errW_none, errW_some] <;> rfl), pT HB.out⟩
 replace c3 := Bool.eq_false_iff.mpr c3
 subst c3
 have H1 : ((spec_DrawPeakCells.f k l0).bind fun bt102 => ((impl_PeakCells.f k bt102.1 bt102.2.1 bt102.2.2.1 bt102.2.2.2).bind fun bt109 => ((spec_PeakCells.f k bt102.1 bt102.2.1 bt102.2.2.1 bt102.2.2.2).bind fun bt113 => (if (bt109.2 != bt113.2) = true then (laws_FnPeaks.j0 k l0 bt102.2.2.2 bt109.1 bt109.2 true bt102.1 bt102.2.1 bt102.2.2.1) else ((laws_rTable.f k bt109.1 bt113.1).bind fun t117 => (laws_FnPeaks.j0 k l0 bt102.2.2.2 bt109.1 bt109.2 (!t117) bt102.1 bt102.2.1 bt102.2.2.1)))))) = some r := by rw [if_neg (show ¬ (false = true) by decide)] at H; exact H
 clear H
 have H := H1
 clear H1
 replace H := Option.bind_eq_some_iff.mp H
 obtain ⟨⟨t102, t103, t104, t107⟩, A40, H⟩ := H
 replace H : ((impl_PeakCells.f k t102 t103 t104 t107).bind fun bt109 => ((spec_PeakCells.f k t102 t103 t104 t107).bind fun bt113 => (if (bt109.2 != bt113.2) = true then (laws_FnPeaks.j0 k l0 t107 bt109.1 bt109.2 true t102 t103 t104) else ((laws_rTable.f k bt109.1 bt113.1).bind fun t117 => (laws_FnPeaks.j0 k l0 t107 bt109.1 bt109.2 (!t117) t102 t103 t104))))) = some r := H
 have A4 := Aside0.mk A40
 clear A40
 replace H := Option.bind_eq_some_iff.mp H
 obtain ⟨⟨t109, t112⟩, A50, H⟩ := H
 replace H : ((spec_PeakCells.f k t102 t103 t104 t107).bind fun bt113 => (if (t112 != bt113.2) = true then (laws_FnPeaks.j0 k l0 t107 t109 t112 true t102 t103 t104) else ((laws_rTable.f k t109 bt113.1).bind fun t117 => (laws_FnPeaks.j0 k l0 t107 t109 t112 (!t117) t102 t103 t104)))) = some r := H
 have A5 := Aside0.mk A50
 clear A50
 replace H := Option.bind_eq_some_iff.mp H
 obtain ⟨⟨t113, t116⟩, A60, H⟩ := H
 replace H : (if (t112 != t116) = true then (laws_FnPeaks.j0 k l0 t107 t109 t112 true t102 t103 t104) else ((laws_rTable.f k t109 t113).bind fun t117 => (laws_FnPeaks.j0 k l0 t107 t109 t112 (!t117) t102 t103 t104))) = some r := H
 have A6 := Aside0.mk A60
 clear A60
 have HC7 := Aside0.mk H
 clear H
 go_enter Try.func4, Try.ntmps4
 go_upto_region 6 with (first | (go_at_call 15; (with_reducible refine (laws_rBig.calls _ _ l0 false _ ?side1 ?side2 A2.out).mono ?_); (case side1 => exact pC HR0.out); (case side2 => exact HC0.out); rintro e w' ⟨rfl, ⟨nd, rfl⟩⟩; (try first | exact ⟨rfl, _, World.drewN_drewN _ _ _⟩ | exact ⟨rfl, _, Eq.trans (World.drewN_drewN _ _ _) (congrArg (World.drewN _) (Nat.add_assoc _ _ _))⟩)) | (go_at_call 29; (with_reducible refine (spec_DrawPeakCells.calls k _ _ l0 t102 t103 t104 t107 _ ?side1 ?side2 A4.out).mono ?_); (case side1 => exact pC HR0.out); (case side2 => exact HC0.out); rintro e w8 ⟨v105, rfl, ho0, hb⟩; have HO106 := aK (Kd.Q_lower ho0 (below_size (pS HB.out))); replace HB := bS HB hb; (try clear hb); (try clear ho0)) | ((with_reducible refine gate_dst (N := 3) rfl ?_); refine bxe (cs := #[.int .i64 0, .int .i64 0, .slice none 0 0]) (t := 26) ?_; intro gb108 hg w9 hbox hb; have n0_ := aK (Kd.Q_below (pQ HO106.out) hb); have BK108 := aK (hbox); have GW108 := aK (gE hg (pS HB.out)); have GE108 := aK (gE hg (pS HB.out)); replace HB := bS HB hb; clear HO106; have HO106 := n0_; clear n0_ hb hbox hg; obtain ⟨hcz10_0, hcz10_1, hcz10_2, hfz10_0, hfz10_1, hfz10_2⟩ := bc3 BK108.out; obtain ⟨Ao11, co11, eo11, _⟩ := Kd.Q_slice HO106.out; subst eo11) | (go_at_call 30; (with_reducible refine (impl_PeakCells.calls k t102 t103 _ _ t104 t107 t109 t112 _ ?side1 ?side2 A5.out).mono ?_); (case side1 => refine (Kd.Q_reads' (e := 3) (base := w.heap.size) (ok := fun k_ => True) (n := t104.length) (c := co11) ?_).2.2; exact (pQ ((Kd.Q_mono (Kd.Q_far (p := ⟨gb108, 2, none⟩) (Kd.Q_far (p := ⟨gb108, 1, none⟩) (Kd.Q_far (p := ⟨gb108, 0, none⟩) (Kd.Q_types HO106.out BK108.out (by decide)) (fun _ hk => hk.2) (.int .i64 t102)) (fun _ hk => hk.2) (.int .i64 t103)) (fun _ hk => hk.2) (.slice Ao11 t104.length co11)) (fun _ h_ => h_.1))))); (case side2 => exact (Kd.Q_reads' HO106.out).2.1); rintro e w12 ⟨v110, rfl, ho0, hb⟩; have e1_ := aQ hb (pQ ((Kd.Q_mono (Kd.Q_far (p := ⟨gb108, 2, none⟩) (Kd.Q_far (p := ⟨gb108, 1, none⟩) (Kd.Q_far (p := ⟨gb108, 0, none⟩) (Kd.Q_types HO106.out BK108.out (by decide)) (fun _ hk => hk.2) (.int .i64 t102)) (fun _ hk => hk.2) (.int .i64 t103)) (fun _ hk => hk.2) (.slice Ao11 t104.length co11)) (fun _ h_ => h_.1)))); have n0_ := aK (Kd.Q_below e1_.out hb); have HO111 := aK (Kd.S_lower (Kd.S_new' ho0 (Kd.Q_lt e1_.out)) (below_size (pS HB.out))); clear e1_; have n2_ := aK (blk_below (g := gb108) (o := .cells #[.int .i64 t102, .int .i64 t103, .slice Ao11 t104.length co11] 26 (0, 0)) (by refine bk ?_; refine blk_put (cs := #[.int .i64 t102, .int .i64 t103, .slice none 0 0]) ?_ 2 _ rfl; refine bk ?_; refine blk_put (cs := #[.int .i64 t102, .int .i64 0, .slice none 0 0]) ?_ 1 _ rfl; refine bk ?_; refine blk_put (cs := #[.int .i64 0, .int .i64 0, .slice none 0 0]) ?_ 0 _ rfl; refine bk ?_; exact BK108.out) hb); replace HB := bS HB hb; clear HO106 BK108; have HO106 := n0_; have BK108 := n2_; clear n0_ n2_; (try clear hb); (try clear ho0); obtain ⟨hcz13_0, hcz13_1, hcz13_2, hfz13_0, hfz13_1, hfz13_2⟩ := bc3 BK108.out) | (go_at_call 31; (with_reducible refine (spec_PeakCells.calls k t102 t103 _ _ t104 t107 t113 t116 _ ?side1 ?side2 A6.out).mono ?_); (case side1 => repeat (first | exact (Kd.Q_reads' HO106.out).2.2 | (with_reducible refine Kd.C_alloc ?_ _) | (with_reducible refine Kd.C_drewN ?_ _) | (with_reducible refine Kd.C_drew ?_))); (case side2 => exact (Kd.Q_reads' HO106.out).2.1); rintro e w14 ⟨v114, rfl, ho0, hb⟩; have n0_ := aK (Kd.Q_below (pQ HO106.out) hb); have n1_ := aK (Kd.S_elder' (by (with_reducible repeat (first | apply Kd.S_alloc | apply Kd.S_drewN | apply Kd.S_drew)); exact HO111.out) (Kd.S_base ho0) hb); have HO115 := aK (Kd.S_lower (Kd.S_new' (Kd.S_new' ho0 (Kd.Q_lt (pQ HO106.out))) (Kd.S_lt (by (with_reducible repeat (first | apply Kd.S_alloc | apply Kd.S_drewN | apply Kd.S_drew)); exact HO111.out))) (below_size (pS HB.out))); replace BK108 := bB BK108 hb; replace HB := bS HB hb; clear HO106 HO111; have HO106 := n0_; have HO111 := n1_; clear n0_ n1_; (try clear hb); (try clear ho0)))
 (try simp only [Act.put, List.setIfInBounds_toArray, List.set_cons_zero, List.set_cons_succ])
 go_cut [61] (fun v61 wc => ∃ (kq : Nat) (x61_6 : Bool), v61 = .bool x61_6 ∧ Aside0 (laws_FnPeaks.j0 kq l0 t107 t109 t112 x61_6 t102 t103 t104 = some r) ∧ Aside0 (kq ≤ k) ∧ Aside0 (Kd.S (Kd.slice 3 (Kd.int .i64)) 24 wc w.heap.size (fun k_ => some k_ ≠ ((.slice Ao11 t104.length co11) : Value).ownBlock) v110 t109) ∧ Aside0 (Kd.Q (Kd.int .i64) 3 wc w.heap.size (fun _ => True) (.slice Ao11 t104.length co11) t104) ∧ Aside0 (wc.heap[gb108]? = some (.cells #[.int .i64 t102, .int .i64 t103, (.slice Ao11 t104.length co11)] 26 (0, 0))) ∧ Aside0 (Below w.heap.size w wc))
 case first => as_aux_lemma =>
  have H := HC7.out
  clear HC7
  by_cases c15 : (t112 != t116) = true
  ·
   rw [if_pos c15] at H
   have c15b0 : (t112 != t116) = true := c15
   (try (have c15b1 : decide (t112 = t116) = false := by simpa using c15))
   (try (have c15b2 : (t112 == t116) = false := by simpa using c15))
   (try (have c15b3 : ¬ (t112 = t116) := by simpa using c15))
   clear c15
   (first | rw [c15b0] | (simp only [i64_w, i32_w]; rw [c15b0]) | skip)
   have H' := Aside0.mk H
   clear H
   go_wp2
   repeat (go_quiet (fail); try go_wp2)
   go_meet
   case rel => exact ⟨_, (true), (by first | rfl | (simp; done) | (simp [*]; done)), H', ⟨by first | omega | exact Nat.le_refl _⟩, ⟨by (with_reducible repeat (first | apply Kd.S_alloc | apply Kd.S_drewN | apply Kd.S_drew)); exact Kd.S_mono HO111.out (fun _ hk => hk.1.2)⟩, ⟨by (with_reducible repeat (first | apply Kd.Q_alloc | apply Kd.Q_drewN | apply Kd.Q_drew)); exact HO106.out⟩, ⟨by refine bk ?_; exact BK108.out⟩, ⟨pT HB.out⟩⟩
  rw [if_neg c15] at H
  have c15b0 : (t112 != t116) = false := by simpa using c15
  (try (have c15b1 : decide (t112 = t116) = true := by simpa using c15))
  (try (have c15b2 : (t112 == t116) = true := by simpa using c15))
  clear c15
  (first | rw [c15b0] | (simp only [i64_w, i32_w]; rw [c15b0]) | skip)
  replace H := Option.bind_eq_some_iff.mp H
  obtain ⟨t117, A160, H⟩ := H
  replace H : (laws_FnPeaks.j0 k l0 t107 t109 t112 (!t117) t102 t103 t104) = some r := H
  have A16 := Aside0.mk A160
  clear A160
  have H' := Aside0.mk H
  clear H
  obtain ⟨Ao17, co17, eo17⟩ := Kd.S_slice HO111.out
  subst eo17
  obtain ⟨Ao18, co18, eo18⟩ := Kd.S_slice HO115.out
  subst eo18
  go_wp2_with (first | (go_at_call 32; (with_reducible refine (laws_rTable.calls k _ _ t109 _ _ t113 t117 _ ?side1 ?side2 ?side3 ?side4 A16.out).mono ?_); (case side1 => repeat (first | exact (Kd.S_reads' HO111.out).2.2 | (with_reducible refine Kd.C_alloc ?_ _) | (with_reducible refine Kd.C_drewN ?_ _) | (with_reducible refine Kd.C_drew ?_))); (case side2 => exact (Kd.S_reads' HO111.out).2.1); (case side3 => repeat (first | exact (Kd.S_reads' HO115.out).2.2 | (with_reducible refine Kd.C_alloc ?_ _) | (with_reducible refine Kd.C_drewN ?_ _) | (with_reducible refine Kd.C_drew ?_))); (case side4 => exact (Kd.S_reads' HO115.out).2.1); rintro e w' ⟨rfl, ⟨nd, rfl⟩⟩; (try first | exact ⟨rfl, _, World.drewN_drewN _ _ _⟩ | exact ⟨rfl, _, Eq.trans (World.drewN_drewN _ _ _) (congrArg (World.drewN _) (Nat.add_assoc _ _ _))⟩)))
  go_meet
  case rel => exact ⟨_, (!t117), (by first | rfl | (simp; done) | (simp [*]; done)), H', ⟨by first | omega | exact Nat.le_refl _⟩, ⟨by (with_reducible repeat (first | apply Kd.S_alloc | apply Kd.S_drewN | apply Kd.S_drew)); exact Kd.S_mono HO111.out (fun _ hk => hk.1.2)⟩, ⟨by (with_reducible repeat (first | apply Kd.Q_alloc | apply Kd.Q_drewN | apply Kd.Q_drew)); exact HO106.out⟩, ⟨by refine bk ?_; exact BK108.out⟩, ⟨pT HB.out⟩⟩
 case rest => as_aux_lemma =>
  clear HC7
  try clear hcz10_0
  try clear hcz10_1
  try clear hcz10_2
  try clear hcz13_0
  try clear hcz13_1
  try clear hcz13_2
  try clear hfz10_0
  try clear hfz10_1
  try clear hfz10_2
  try clear hfz13_0
  try clear hfz13_1
  try clear hfz13_2
  obtain ⟨kq, x61_6, rfl, HA, HJ6, HO_5, HO_109002, BK108, HB⟩ := hcut
  cases kq with
  | zero => exact absurd HA.out (by simp [laws_FnPeaks.j0])
  | succ kj6 =>
   have H := HA.out
   clear HA
   simp only [laws_FnPeaks.j0] at H
   by_cases c19 : x61_6 = true
   ·
    subst c19
    have H1 : (some false) = some r := by rw [if_pos rfl] at H; exact H
    clear H
    have H := H1
    clear H1
    obtain rfl := Option.some.inj H
    go_wp2
    repeat (go_quiet (fail); try go_wp2)
    go_ret
    exact ⟨by first | rfl | (simp [errW_none, errW_some] <;> rfl) | (simp [*, errW_none, errW_some] <;> rfl), pT HB.out⟩
   replace c19 := Bool.eq_false_iff.mpr c19
   subst c19
   have H1 : ((impl_MaximumFilter.f kj6 t102 t103 t104 t107).bind fun bt118 => (if (bt118.2.2.2 != t112) = true then (some false) else (laws_FnPeaks.l0 kj6 l0 t109 0 t102 t103 t104 bt118.1 bt118.2.1 bt118.2.2.1))) = some r := by rw [if_neg (show ¬ (false = true) by decide)] at H; exact H
   clear H
   have H := H1
   clear H1
   replace H := Option.bind_eq_some_iff.mp H
   obtain ⟨⟨t118, t119, t120, t123⟩, A200, H⟩ := H
   replace H : (if (t123 != t112) = true then (some false) else (laws_FnPeaks.l0 kj6 l0 t109 0 t102 t103 t104 t118 t119 t120)) = some r := H
   have A20 := Aside0.mk A200
   clear A200
   by_cases c21 : (t123 != t112) = true
   ·
    rw [if_pos c21] at H
    have c21b0 : (t123 != t112) = true := c21
    (try (have c21b1 : decide (t123 = t112) = false := by simpa using c21))
    (try (have c21b2 : (t123 == t112) = false := by simpa using c21))
    (try (have c21b3 : ¬ (t123 = t112) := by simpa using c21))
    clear c21
    obtain rfl := Option.some.inj H
    obtain ⟨hcz22_0, hcz22_1, hcz22_2, hfz22_0, hfz22_1, hfz22_2⟩ := bc3 BK108.out
    go_wp2_with (first | (go_at_call 17; (with_reducible refine (impl_MaximumFilter.calls kj6 t102 t103 _ _ t104 t107 t118 t119 t120 t123 _ ?side1 ?side2 A20.out).mono ?_); (case side1 => repeat (first | exact (Kd.Q_reads' HO_109002.out).2.2 | (with_reducible refine Kd.C_alloc ?_ _) | (with_reducible refine Kd.C_drewN ?_ _) | (with_reducible refine Kd.C_drew ?_))); (case side2 => exact (Kd.Q_reads' HO_109002.out).2.1); rintro e w23 ⟨v121, rfl, ho0, hb⟩; have n0_ := aK (Kd.S_elder' (by (with_reducible repeat (first | apply Kd.S_alloc | apply Kd.S_drewN | apply Kd.S_drew)); exact HO_5.out) (Kd.R_base ho0) hb); have n1_ := aK (Kd.Q_elder' (pQ HO_109002.out) (Kd.R_base ho0) hb); have HO122 := aK (Kd.R_lower (Kd.R_new' ho0 (Kd.Q_lt (pQ HO_109002.out))) (below_size (pS HB.out))); replace HB := bS HB hb; clear HO_5 HO_109002; have HO_5 := n0_; have HO_109002 := n1_; clear n0_ n1_; (try clear hb); (try clear ho0)) | ((with_reducible refine gate_dst (N := 9) rfl ?_); refine bxe (cs := #[.int .i64 0, .int .i64 0, .slice none 0 0]) (t := 26) ?_; intro gb124 hg w24 hbox hb; have n0_ := aK (Kd.S_below (by (with_reducible repeat (first | apply Kd.S_alloc | apply Kd.S_drewN | apply Kd.S_drew)); exact HO_5.out) hb); have n1_ := aK (Kd.Q_below (pQ HO_109002.out) hb); have n2_ := aK (Kd.R_below (pR HO122.out) hb); have BK124 := aK (hbox); have GW124 := aK (gE hg (pS HB.out)); have GE124 := aK (gE hg (pS HB.out)); replace HB := bS HB hb; clear HO_5 HO_109002 HO122; have HO_5 := n0_; have HO_109002 := n1_; have HO122 := n2_; clear n0_ n1_ n2_ hb hbox hg; obtain ⟨hcz25_0, hcz25_1, hcz25_2, hfz25_0, hfz25_1, hfz25_2⟩ := bc3 BK124.out; obtain ⟨Ao26, co26, eo26⟩ := Kd.R_slice HO122.out; subst eo26))
    go_ret
    exact ⟨by first | rfl | (simp [errW_none, errW_some] <;> rfl) | (simp [*, errW_none, errW_some] <;> rfl), pT HB.out⟩
   rw [if_neg c21] at H
   have c21b0 : (t123 != t112) = false := by simpa using c21
   (try (have c21b1 : decide (t123 = t112) = true := by simpa using c21))
   (try (have c21b2 : (t123 == t112) = true := by simpa using c21))
   clear c21
   have H' := Aside0.mk H
   clear H
   obtain ⟨hcz27_0, hcz27_1, hcz27_2, hfz27_0, hfz27_1, hfz27_2⟩ := bc3 BK108.out
   go_wp2_with (first | (go_at_call 17; (with_reducible refine (impl_MaximumFilter.calls kj6 t102 t103 _ _ t104 t107 t118 t119 t120 t123 _ ?side1 ?side2 A20.out).mono ?_); (case side1 => repeat (first | exact (Kd.Q_reads' HO_109002.out).2.2 | (with_reducible refine Kd.C_alloc ?_ _) | (with_reducible refine Kd.C_drewN ?_ _) | (with_reducible refine Kd.C_drew ?_))); (case side2 => exact (Kd.Q_reads' HO_109002.out).2.1); rintro e w28 ⟨v121, rfl, ho0, hb⟩; have n0_ := aK (Kd.S_elder' (by (with_reducible repeat (first | apply Kd.S_alloc | apply Kd.S_drewN | apply Kd.S_drew)); exact HO_5.out) (Kd.R_base ho0) hb); have n1_ := aK (Kd.Q_elder' (pQ HO_109002.out) (Kd.R_base ho0) hb); have HO122 := aK (Kd.R_lower (Kd.R_new' ho0 (Kd.Q_lt (pQ HO_109002.out))) (below_size (pS HB.out))); replace BK108 := bB BK108 hb; replace HB := bS HB hb; clear HO_5 HO_109002; have HO_5 := n0_; have HO_109002 := n1_; clear n0_ n1_; (try clear hb); (try clear ho0)) | ((with_reducible refine gate_dst (N := 9) rfl ?_); refine bxe (cs := #[.int .i64 0, .int .i64 0, .slice none 0 0]) (t := 26) ?_; intro gb124 hg w29 hbox hb; have n0_ := aK (Kd.S_below (by (with_reducible repeat (first | apply Kd.S_alloc | apply Kd.S_drewN | apply Kd.S_drew)); exact HO_5.out) hb); have n1_ := aK (Kd.Q_below (pQ HO_109002.out) hb); have n2_ := aK (Kd.R_below (pR HO122.out) hb); have BK124 := aK (hbox); have GW124 := aK (gE hg (pS HB.out)); have GE124 := aK (gE hg (pS HB.out)); have NB108_124 := aK (nL hg (pB BK108.out)); have NB124_108 := aK (nG hg (pB BK108.out)); replace BK108 := bB BK108 hb; replace HB := bS HB hb; clear HO_5 HO_109002 HO122; have HO_5 := n0_; have HO_109002 := n1_; have HO122 := n2_; clear n0_ n1_ n2_ hb hbox hg; have hnb30 := NB124_108.out; have hnc30 := NB108_124.out; obtain ⟨hcz31_0, hcz31_1, hcz31_2, hfz31_0, hfz31_1, hfz31_2⟩ := bc3 BK124.out; obtain ⟨Ao32, co32, eo32⟩ := Kd.R_slice HO122.out; subst eo32))
   go_loopg [11] kj6 (fun kq v11 w' => ∃ (x11_2 : Int), v11 = .int .i64 x11_2 ∧ Aside0 (laws_FnPeaks.l0 kq l0 t109 x11_2 t102 t103 t104 t118 t119 t120 = some r) ∧ Aside0 (kq ≤ kj6) ∧ Aside0 (Kd.S (Kd.slice 3 (Kd.int .i64)) 24 w' w.heap.size (fun k_ => some k_ ≠ ((.slice Ao11 t104.length co11) : Value).ownBlock ∧ some k_ ≠ ((.slice Ao32 t120.length co32) : Value).ownBlock) v110 t109) ∧ Aside0 (Kd.Q (Kd.int .i64) 3 w' w.heap.size (fun k_ => some k_ ≠ ((.slice Ao32 t120.length co32) : Value).ownBlock) (.slice Ao11 t104.length co11) t104) ∧ Aside0 (Kd.Q (Kd.int .i64) 3 w' w.heap.size (fun k_ => some k_ ≠ ((.slice Ao11 t104.length co11) : Value).ownBlock) (.slice Ao32 t120.length co32) t120) ∧ Aside0 (w'.heap[gb108]? = some (.cells #[.int .i64 t102, .int .i64 t103, (.slice Ao11 t104.length co11)] 26 (0, 0))) ∧ Aside0 (w'.heap[gb124]? = some (.cells #[.int .i64 t118, .int .i64 t119, (.slice Ao32 t120.length co32)] 26 (0, 0))) ∧ Aside0 (Below w.heap.size w w'))
   case atStart => exact ⟨(0), (by first | rfl | (simp; done) | (simp [*]; done)), H', ⟨Nat.le_refl _⟩, ⟨by (with_reducible repeat (first | apply Kd.S_alloc | apply Kd.S_drewN | apply Kd.S_drew)); exact Kd.S_mono (Kd.S_far (p := ⟨gb124, 2, none⟩) (Kd.S_far (p := ⟨gb124, 1, none⟩) (Kd.S_far (p := ⟨gb124, 0, none⟩) (Kd.S_types HO_5.out BK124.out (by decide)) (fun _ hk => hk.2) (.int .i64 t118)) (fun _ hk => hk.2) (.int .i64 t119)) (fun _ hk => hk.2) (.slice Ao32 t120.length co32)) (fun _ hk => ⟨hk.1.1, hk.1.2⟩)⟩, ⟨by (with_reducible repeat (first | apply Kd.Q_alloc | apply Kd.Q_drewN | apply Kd.Q_drew)); exact Kd.Q_mono (Kd.Q_far (p := ⟨gb124, 2, none⟩) (Kd.Q_far (p := ⟨gb124, 1, none⟩) (Kd.Q_far (p := ⟨gb124, 0, none⟩) (Kd.Q_types HO_109002.out BK124.out (by decide)) (fun _ hk => hk.2) (.int .i64 t118)) (fun _ hk => hk.2) (.int .i64 t119)) (fun _ hk => hk.2) (.slice Ao32 t120.length co32)) (fun _ hk => hk.1.2)⟩, ⟨Kd.Q_of_R (pR (Kd.R_mono (Kd.R_far (p := ⟨gb124, 2, none⟩) (Kd.R_far (p := ⟨gb124, 1, none⟩) (Kd.R_far (p := ⟨gb124, 0, none⟩) (Kd.R_types HO122.out BK124.out (by decide)) (fun _ hk => hk.2) (.int .i64 t118)) (fun _ hk => hk.2) (.int .i64 t119)) (fun _ hk => hk.2) (.slice Ao32 t120.length co32)) (fun _ hk => hk.1.2)))⟩, ⟨by refine bk ?_; refine blk_far ?_ NB108_124.out _; refine bk ?_; refine blk_far ?_ NB108_124.out _; refine bk ?_; refine blk_far ?_ NB108_124.out _; refine bk ?_; exact BK108.out⟩, ⟨by refine bk ?_; refine blk_put (cs := #[.int .i64 t118, .int .i64 t119, .slice none 0 0]) ?_ 2 _ rfl; refine bk ?_; refine blk_put (cs := #[.int .i64 t118, .int .i64 0, .slice none 0 0]) ?_ 1 _ rfl; refine bk ?_; refine blk_put (cs := #[.int .i64 0, .int .i64 0, .slice none 0 0]) ?_ 0 _ rfl; refine bk ?_; exact BK124.out⟩, ⟨pT HB.out⟩⟩
   case round => as_aux_lemma =>
    clear H'
    try clear c21b0
    try clear c21b1
    try clear c21b2
    try clear hcz27_0
    try clear hcz27_1
    try clear hcz27_2
    try clear hcz31_0
    try clear hcz31_1
    try clear hcz31_2
    try clear hfz27_0
    try clear hfz27_1
    try clear hfz27_2
    try clear hfz31_0
    try clear hfz31_1
    try clear hfz31_2
    obtain ⟨x11_2, rfl, HA, HK2, HO_5, HO_109002, HO_125002, BK108, BK124, HB⟩ := hrel
    cases gk with
    | zero => exact absurd HA.out (by simp [laws_FnPeaks.l0])
    | succ k2 =>
     have H := HA.out
     clear HA
     simp only [laws_FnPeaks.l0] at H
     by_cases c33 : x11_2 < (t109.length : Int)
     ·
      rw [if_pos c33] at H
      have c33b0 : decide (x11_2 < (t109.length : Int)) = true := decide_eq_true c33
      clear c33
      by_cases c34 : 0 ≤ x11_2
      ·
       rw [if_pos c34] at H
       have c34b0 : decide (0 ≤ x11_2) = true := decide_eq_true c34
       clear c34
       by_cases c35 : 1 < ((rd_L3 t109 x11_2).length : Int)
       ·
        rw [if_pos c35] at H
        have c35b0 : decide (1 < ((rd_L3 t109 x11_2).length : Int)) = true := decide_eq_true c35
        have c35b1 : decide (1 < (rd_L3 t109 x11_2).length) = true := decide_eq_true (by omega)
        clear c35
        by_cases c36 : 0 < ((rd_L3 t109 x11_2).length : Int)
        ·
         rw [if_pos c36] at H
         have c36b0 : decide (0 < ((rd_L3 t109 x11_2).length : Int)) = true := decide_eq_true c36
         have c36b1 : decide (0 < (rd_L3 t109 x11_2).length) = true := decide_eq_true (by omega)
         clear c36
         obtain ⟨ji37, hji37⟩ : ∃ j_ : Int, (wrap64 ((wrap64 (t102 * (rd (rd_L3 t109 x11_2) 1))) + (rd (rd_L3 t109 x11_2) 0))) = j_ := ⟨_, rfl⟩
         replace H : (if 0 ≤ (ji37) then (if (ji37) < (t104.length : Int) then (if (rd t104 (ji37)) = (-9999) then (some false) else (if (ji37) < (t120.length : Int) then (if (rd t104 (ji37)) = (rd t120 (ji37)) then (laws_FnPeaks.l0 k2 l0 t109 (wrap64 (x11_2 + 1)) t102 t103 t104 t118 t119 t120) else (some false)) else (none))) else (none)) else (none)) = some r := by first | (rw [hji37] at H; exact H) | (simp only [hji37] at H ⊢; exact H)
         have hji37w : (IntKind.i64.wrap ((wrap64 (t102 * (rd (rd_L3 t109 x11_2) 1))) + (rd (rd_L3 t109 x11_2) 0))) = ji37 := (i64_w _).trans hji37
         by_cases c38 : 0 ≤ (ji37)
         ·
          rw [if_pos c38] at H
          have c38b0 : decide (0 ≤ (ji37)) = true := decide_eq_true c38
          clear c38
          by_cases c39 : (ji37) < (t104.length : Int)
          ·
           rw [if_pos c39] at H
           have c39b0 : decide ((ji37) < (t104.length : Int)) = true := decide_eq_true c39
           clear c39
           by_cases c40 : (rd t104 (ji37)) = (-9999)
           ·
            rw [if_pos c40] at H
            have c40b0 : ((rd t104 (ji37)) == (-9999)) = true := beq_iff_eq.mpr c40
            have c40b1 : ((rd t104 (ji37)) != (-9999)) = false := bne_eq_false_iff_eq.mpr c40
            clear c40
            obtain rfl := Option.some.inj H
            obtain ⟨Ao41, co41, eo41⟩ := Kd.S_slice HO_5.out
            subst eo41
            obtain ⟨hcz42_0, hcz42_1, hcz42_2, hfz42_0, hfz42_1, hfz42_2⟩ := bc3 BK108.out
            have p125 : 0 ≤ (x11_2 : Int) := of_decide_eq_true (by first | (with_reducible assumption) | assumption)
            have q125 : x11_2 < (t109.length : Int) := of_decide_eq_true (by first | (with_reducible assumption) | assumption)
            obtain ⟨ad125, A125_0, c125_0, e125, hx125_0, hl125_0, hi125_0⟩ := at_L3 (Kd.S_reads' HO_5.out).2.2 x11_2 p125 q125
            cases e125
            obtain ⟨ce125, hce125, hMe125, hcc125⟩ := Kd.S_get HO_5.out [] x11_2 p125 (by first | exact q125 | exact of_decide_eq_true (by first | (with_reducible assumption) | assumption) | (have e_ := (Kd.S_reads' HO_5.out).1; omega))
            obtain ⟨ve125_0, rfl, ge125_0⟩ := hMe125
            have hv125_0 := hcc125 0 _ rfl
            rw [Nat.add_zero, show ((Kd.slice 3 (Kd.int .i64))).sz = 1 from rfl, Nat.mul_one] at hv125_0
            replace hv125_0 := Option.some.inj (hv125_0.symm.trans hx125_0)
            rw [hv125_0] at ge125_0
            have HL125_0 := aK (show Kd.R (Kd.int .i64) 3 _ _ _ _ (rd_L3 t109 x11_2) from ge125_0)
            clear hv125_0 ge125_0 hcc125 hce125
            have HR125_0 := Aside0.mk hi125_0
            have HC125_0 := Aside0.mk hl125_0
            clear hi125_0 hl125_0
            replace p125 := eq_true p125
            replace q125 := eq_true q125
            have p126 : 0 ≤ (1 : Int) := (by omega)
            have q126 : 1 < ((rd_L3 t109 x11_2).length : Int) := of_decide_eq_true (by first | (with_reducible assumption) | assumption)
            obtain ⟨ad126, e126, hx126_0⟩ := Kd.at_int (by repeat (first | (with_reducible exact HR125_0.out) | (with_reducible refine Kd.C_alloc ?_ _) | (with_reducible refine Kd.C_drewN ?_ _) | (with_reducible refine Kd.C_drew ?_) | exact HR125_0.out)) 1 p126 q126
            cases e126
            (try simp only [show (1 : Int).toNat = 1 from rfl, Nat.reduceMul, Nat.reduceEqDiff, Go.Addr.add, ↓reduceIte] at hx126_0)
            have qi126 : (1 < (rd_L3 t109 x11_2).length) = True := eq_true (by omega)
            (try rw [show ((1 : Int)).toNat = 1 from rfl] at hx126_0)
            replace p126 := eq_true p126
            replace q126 := eq_true q126
            have p127 : 0 ≤ (x11_2 : Int) := of_decide_eq_true (by first | (with_reducible assumption) | assumption)
            have q127 : x11_2 < (t109.length : Int) := of_decide_eq_true (by first | (with_reducible assumption) | assumption)
            obtain ⟨ad127, A127_0, c127_0, e127, hx127_0, hl127_0, hi127_0⟩ := at_L3 (Kd.S_reads' HO_5.out).2.2 x11_2 p127 q127
            obtain rfl : ad125 = ad127 := (by injection e127)
            obtain ⟨ce127, hce127, hMe127, hcc127⟩ := Kd.S_get HO_5.out [] x11_2 p127 (by first | exact q127 | exact of_decide_eq_true (by first | (with_reducible assumption) | assumption) | (have e_ := (Kd.S_reads' HO_5.out).1; omega))
            obtain ⟨ve127_0, rfl, ge127_0⟩ := hMe127
            have hv127_0 := hcc127 0 _ rfl
            rw [Nat.add_zero, show ((Kd.slice 3 (Kd.int .i64))).sz = 1 from rfl, Nat.mul_one] at hv127_0
            replace hv127_0 := Option.some.inj (hv127_0.symm.trans hx127_0)
            rw [hv127_0] at ge127_0
            have HL127_0 := aK (show Kd.R (Kd.int .i64) 3 _ _ _ _ (rd_L3 t109 x11_2) from ge127_0)
            clear hv127_0 ge127_0 hcc127 hce127
            have HR127_0 := Aside0.mk hi127_0
            have HC127_0 := Aside0.mk hl127_0
            clear hi127_0 hl127_0
            replace p127 := eq_true p127
            replace q127 := eq_true q127
            have ea_ := Option.some.inj (hx125_0.symm.trans hx127_0)
            injection ea_ with ea_ en_ ec_
            subst ea_
            subst ec_
            clear en_
            have p128 : 0 ≤ (0 : Int) := (by omega)
            have q128 : 0 < ((rd_L3 t109 x11_2).length : Int) := of_decide_eq_true (by first | (with_reducible assumption) | assumption)
            obtain ⟨ad128, e128, hx128_0⟩ := Kd.at_int (by repeat (first | (with_reducible exact HR127_0.out) | (with_reducible refine Kd.C_alloc ?_ _) | (with_reducible refine Kd.C_drewN ?_ _) | (with_reducible refine Kd.C_drew ?_) | exact HR127_0.out)) 0 p128 q128
            cases e128
            have qi128 : (0 < (rd_L3 t109 x11_2).length) = True := eq_true (by omega)
            (try rw [show ((0 : Int)).toNat = 0 from rfl] at hx128_0)
            (try rw [Addr.add_zero'] at hx128_0)
            replace p128 := eq_true p128
            replace q128 := eq_true q128
            have p129 : 0 ≤ ((ji37) : Int) := of_decide_eq_true (by first | (with_reducible assumption) | assumption)
            have q129 : (ji37) < (t104.length : Int) := of_decide_eq_true (by first | (with_reducible assumption) | assumption)
            obtain ⟨ad129, e129, hx129_0⟩ := Kd.at_int (Kd.Q_reads' HO_109002.out).2.2 (ji37) p129 q129
            cases e129
            replace p129 := eq_true p129
            replace q129 := eq_true q129
            go_wp2
            repeat (go_quiet (fail); try go_wp2)
            go_ret
            exact ⟨by first | rfl | (simp [errW_none, errW_some] <;> rfl) | (simp only [← hji37]; first | rfl | (simp [errW_none, errW_some] <;> rfl)) | (simp [*, errW_none, errW_some] <;> rfl), pT HB.out⟩
           rw [if_neg c40] at H
           have c40b0 : ((rd t104 (ji37)) == (-9999)) = false := beq_eq_false_iff_ne.mpr c40
           have c40b1 : ((rd t104 (ji37)) != (-9999)) = true := bne_iff_ne.mpr c40
           by_cases c43 : (ji37) < (t120.length : Int)
           ·
            rw [if_pos c43] at H
            have c43b0 : decide ((ji37) < (t120.length : Int)) = true := decide_eq_true c43
            clear c43
            by_cases c44 : (rd t104 (ji37)) = (rd t120 (ji37))
            ·
             rw [if_pos c44] at H
             have c44b0 : ((rd t104 (ji37)) == (rd t120 (ji37))) = true := beq_iff_eq.mpr c44
             have c44b1 : ((rd t104 (ji37)) != (rd t120 (ji37))) = false := bne_eq_false_iff_eq.mpr c44
             clear c44
             have H' := Aside0.mk H
             clear H
             obtain ⟨Ao45, co45, eo45⟩ := Kd.S_slice HO_5.out
             subst eo45
             have hnb46 := NB108_124.out
             have hnc46 := NB124_108.out
             obtain ⟨hcz47_0, hcz47_1, hcz47_2, hfz47_0, hfz47_1, hfz47_2⟩ := bc3 BK108.out
             have p125 : 0 ≤ (x11_2 : Int) := of_decide_eq_true (by first | (with_reducible assumption) | assumption)
             have q125 : x11_2 < (t109.length : Int) := of_decide_eq_true (by first | (with_reducible assumption) | assumption)
             obtain ⟨ad125, A125_0, c125_0, e125, hx125_0, hl125_0, hi125_0⟩ := at_L3 (Kd.S_reads' HO_5.out).2.2 x11_2 p125 q125
             cases e125
             obtain ⟨ce125, hce125, hMe125, hcc125⟩ := Kd.S_get HO_5.out [] x11_2 p125 (by first | exact q125 | exact of_decide_eq_true (by first | (with_reducible assumption) | assumption) | (have e_ := (Kd.S_reads' HO_5.out).1; omega))
             obtain ⟨ve125_0, rfl, ge125_0⟩ := hMe125
             have hv125_0 := hcc125 0 _ rfl
             rw [Nat.add_zero, show ((Kd.slice 3 (Kd.int .i64))).sz = 1 from rfl, Nat.mul_one] at hv125_0
             replace hv125_0 := Option.some.inj (hv125_0.symm.trans hx125_0)
             rw [hv125_0] at ge125_0
             have HL125_0 := aK (show Kd.R (Kd.int .i64) 3 _ _ _ _ (rd_L3 t109 x11_2) from ge125_0)
             clear hv125_0 ge125_0 hcc125 hce125
             have HR125_0 := Aside0.mk hi125_0
             have HC125_0 := Aside0.mk hl125_0
             clear hi125_0 hl125_0
             replace p125 := eq_true p125
             replace q125 := eq_true q125
             have p126 : 0 ≤ (1 : Int) := (by omega)
             have q126 : 1 < ((rd_L3 t109 x11_2).length : Int) := of_decide_eq_true (by first | (with_reducible assumption) | assumption)
             obtain ⟨ad126, e126, hx126_0⟩ := Kd.at_int (by repeat (first | (with_reducible exact HR125_0.out) | (with_reducible refine Kd.C_alloc ?_ _) | (with_reducible refine Kd.C_drewN ?_ _) | (with_reducible refine Kd.C_drew ?_) | exact HR125_0.out)) 1 p126 q126
             cases e126
             (try simp only [show (1 : Int).toNat = 1 from rfl, Nat.reduceMul, Nat.reduceEqDiff, Go.Addr.add, ↓reduceIte] at hx126_0)
             have qi126 : (1 < (rd_L3 t109 x11_2).length) = True := eq_true (by omega)
             (try rw [show ((1 : Int)).toNat = 1 from rfl] at hx126_0)
             replace p126 := eq_true p126
             replace q126 := eq_true q126
             have p127 : 0 ≤ (x11_2 : Int) := of_decide_eq_true (by first | (with_reducible assumption) | assumption)
             have q127 : x11_2 < (t109.length : Int) := of_decide_eq_true (by first | (with_reducible assumption) | assumption)
             obtain ⟨ad127, A127_0, c127_0, e127, hx127_0, hl127_0, hi127_0⟩ := at_L3 (Kd.S_reads' HO_5.out).2.2 x11_2 p127 q127
             obtain rfl : ad125 = ad127 := (by injection e127)
             obtain ⟨ce127, hce127, hMe127, hcc127⟩ := Kd.S_get HO_5.out [] x11_2 p127 (by first | exact q127 | exact of_decide_eq_true (by first | (with_reducible assumption) | assumption) | (have e_ := (Kd.S_reads' HO_5.out).1; omega))
             obtain ⟨ve127_0, rfl, ge127_0⟩ := hMe127
             have hv127_0 := hcc127 0 _ rfl
             rw [Nat.add_zero, show ((Kd.slice 3 (Kd.int .i64))).sz = 1 from rfl, Nat.mul_one] at hv127_0
             replace hv127_0 := Option.some.inj (hv127_0.symm.trans hx127_0)
             rw [hv127_0] at ge127_0
             have HL127_0 := aK (show Kd.R (Kd.int .i64) 3 _ _ _ _ (rd_L3 t109 x11_2) from ge127_0)
             clear hv127_0 ge127_0 hcc127 hce127
             have HR127_0 := Aside0.mk hi127_0
             have HC127_0 := Aside0.mk hl127_0
             clear hi127_0 hl127_0
             replace p127 := eq_true p127
             replace q127 := eq_true q127
             have ea_ := Option.some.inj (hx125_0.symm.trans hx127_0)
             injection ea_ with ea_ en_ ec_
             subst ea_
             subst ec_
             clear en_
             have p128 : 0 ≤ (0 : Int) := (by omega)
             have q128 : 0 < ((rd_L3 t109 x11_2).length : Int) := of_decide_eq_true (by first | (with_reducible assumption) | assumption)
             obtain ⟨ad128, e128, hx128_0⟩ := Kd.at_int (by repeat (first | (with_reducible exact HR127_0.out) | (with_reducible refine Kd.C_alloc ?_ _) | (with_reducible refine Kd.C_drewN ?_ _) | (with_reducible refine Kd.C_drew ?_) | exact HR127_0.out)) 0 p128 q128
             cases e128
             have qi128 : (0 < (rd_L3 t109 x11_2).length) = True := eq_true (by omega)
             (try rw [show ((0 : Int)).toNat = 0 from rfl] at hx128_0)
             (try rw [Addr.add_zero'] at hx128_0)
             replace p128 := eq_true p128
             replace q128 := eq_true q128
             have p129 : 0 ≤ ((ji37) : Int) := of_decide_eq_true (by first | (with_reducible assumption) | assumption)
             have q129 : (ji37) < (t104.length : Int) := of_decide_eq_true (by first | (with_reducible assumption) | assumption)
             obtain ⟨ad129, e129, hx129_0⟩ := Kd.at_int (Kd.Q_reads' HO_109002.out).2.2 (ji37) p129 q129
             cases e129
             replace p129 := eq_true p129
             replace q129 := eq_true q129
             have p130 : 0 ≤ ((ji37) : Int) := of_decide_eq_true (by first | (with_reducible assumption) | assumption)
             have q130 : (ji37) < (t104.length : Int) := of_decide_eq_true (by first | (with_reducible assumption) | assumption)
             obtain ⟨ad130, e130, hx130_0⟩ := Kd.at_int (Kd.Q_reads' HO_109002.out).2.2 (ji37) p130 q130
             obtain rfl : ad129 = ad130 := (by injection e130)
             replace p130 := eq_true p130
             replace q130 := eq_true q130
             obtain ⟨hcz48_0, hcz48_1, hcz48_2, hfz48_0, hfz48_1, hfz48_2⟩ := bc3 BK124.out
             have p131 : 0 ≤ ((ji37) : Int) := of_decide_eq_true (by first | (with_reducible assumption) | assumption)
             have q131 : (ji37) < (t120.length : Int) := of_decide_eq_true (by first | (with_reducible assumption) | assumption)
             obtain ⟨ad131, e131, hx131_0⟩ := Kd.at_int (Kd.Q_reads' HO_125002.out).2.2 (ji37) p131 q131
             cases e131
             replace p131 := eq_true p131
             replace q131 := eq_true q131
             go_wp2
             repeat (go_quiet (fail); try go_wp2)
             go_roundg k2
             case measure => have := HJ6.out; have := HK2.out; omega
             case rel => exact ⟨(wrap64 (x11_2 + 1)), (by first | rfl | (simp; done) | (simp [*]; done)), H', ⟨by have := HJ6.out; have := HK2.out; omega⟩, ⟨by (with_reducible repeat (first | apply Kd.S_alloc | apply Kd.S_drewN | apply Kd.S_drew)); exact HO_5.out⟩, ⟨by (with_reducible repeat (first | apply Kd.Q_alloc | apply Kd.Q_drewN | apply Kd.Q_drew)); exact HO_109002.out⟩, ⟨by (with_reducible repeat (first | apply Kd.Q_alloc | apply Kd.Q_drewN | apply Kd.Q_drew)); exact HO_125002.out⟩, ⟨by refine bk ?_; exact BK108.out⟩, ⟨by refine bk ?_; exact BK124.out⟩, ⟨pT HB.out⟩⟩
            rw [if_neg c44] at H
            have c44b0 : ((rd t104 (ji37)) == (rd t120 (ji37))) = false := beq_eq_false_iff_ne.mpr c44
            have c44b1 : ((rd t104 (ji37)) != (rd t120 (ji37))) = true := bne_iff_ne.mpr c44
            obtain rfl := Option.some.inj H
            obtain ⟨Ao49, co49, eo49⟩ := Kd.S_slice HO_5.out
            subst eo49
            have hnb50 := NB108_124.out
            have hnc50 := NB124_108.out
            obtain ⟨hcz51_0, hcz51_1, hcz51_2, hfz51_0, hfz51_1, hfz51_2⟩ := bc3 BK108.out
            have p125 : 0 ≤ (x11_2 : Int) := of_decide_eq_true (by first | (with_reducible assumption) | assumption)
            have q125 : x11_2 < (t109.length : Int) := of_decide_eq_true (by first | (with_reducible assumption) | assumption)
            obtain ⟨ad125, A125_0, c125_0, e125, hx125_0, hl125_0, hi125_0⟩ := at_L3 (Kd.S_reads' HO_5.out).2.2 x11_2 p125 q125
            cases e125
            obtain ⟨ce125, hce125, hMe125, hcc125⟩ := Kd.S_get HO_5.out [] x11_2 p125 (by first | exact q125 | exact of_decide_eq_true (by first | (with_reducible assumption) | assumption) | (have e_ := (Kd.S_reads' HO_5.out).1; omega))
            obtain ⟨ve125_0, rfl, ge125_0⟩ := hMe125
            have hv125_0 := hcc125 0 _ rfl
            rw [Nat.add_zero, show ((Kd.slice 3 (Kd.int .i64))).sz = 1 from rfl, Nat.mul_one] at hv125_0
            replace hv125_0 := Option.some.inj (hv125_0.symm.trans hx125_0)
            rw [hv125_0] at ge125_0
            have HL125_0 := aK (show Kd.R (Kd.int .i64) 3 _ _ _ _ (rd_L3 t109 x11_2) from ge125_0)
            clear hv125_0 ge125_0 hcc125 hce125
            have HR125_0 := Aside0.mk hi125_0
            have HC125_0 := Aside0.mk hl125_0
            clear hi125_0 hl125_0
            replace p125 := eq_true p125
            replace q125 := eq_true q125
            have p126 : 0 ≤ (1 : Int) := (by omega)
            have q126 : 1 < ((rd_L3 t109 x11_2).length : Int) := of_decide_eq_true (by first | (with_reducible assumption) | assumption)
            obtain ⟨ad126, e126, hx126_0⟩ := Kd.at_int (by repeat (first | (with_reducible exact HR125_0.out) | (with_reducible refine Kd.C_alloc ?_ _) | (with_reducible refine Kd.C_drewN ?_ _) | (with_reducible refine Kd.C_drew ?_) | exact HR125_0.out)) 1 p126 q126
            cases e126
            (try simp only [show (1 : Int).toNat = 1 from rfl, Nat.reduceMul, Nat.reduceEqDiff, Go.Addr.add, ↓reduceIte] at hx126_0)
            have qi126 : (1 < (rd_L3 t109 x11_2).length) = True := eq_true (by omega)
            (try rw [show ((1 : Int)).toNat = 1 from rfl] at hx126_0)
            replace p126 := eq_true p126
            replace q126 := eq_true q126
            have p127 : 0 ≤ (x11_2 : Int) := of_decide_eq_true (by first | (with_reducible assumption) | assumption)
            have q127 : x11_2 < (t109.length : Int) := of_decide_eq_true (by first | (with_reducible assumption) | assumption)
            obtain ⟨ad127, A127_0, c127_0, e127, hx127_0, hl127_0, hi127_0⟩ := at_L3 (Kd.S_reads' HO_5.out).2.2 x11_2 p127 q127
            obtain rfl : ad125 = ad127 := (by injection e127)
            obtain ⟨ce127, hce127, hMe127, hcc127⟩ := Kd.S_get HO_5.out [] x11_2 p127 (by first | exact q127 | exact of_decide_eq_true (by first | (with_reducible assumption) | assumption) | (have e_ := (Kd.S_reads' HO_5.out).1; omega))
            obtain ⟨ve127_0, rfl, ge127_0⟩ := hMe127
            have hv127_0 := hcc127 0 _ rfl
            rw [Nat.add_zero, show ((Kd.slice 3 (Kd.int .i64))).sz = 1 from rfl, Nat.mul_one] at hv127_0
            replace hv127_0 := Option.some.inj (hv127_0.symm.trans hx127_0)
            rw [hv127_0] at ge127_0
            have HL127_0 := aK (show Kd.R (Kd.int .i64) 3 _ _ _ _ (rd_L3 t109 x11_2) from ge127_0)
            clear hv127_0 ge127_0 hcc127 hce127
            have HR127_0 := Aside0.mk hi127_0
            have HC127_0 := Aside0.mk hl127_0
            clear hi127_0 hl127_0
            replace p127 := eq_true p127
            replace q127 := eq_true q127
            have ea_ := Option.some.inj (hx125_0.symm.trans hx127_0)
            injection ea_ with ea_ en_ ec_
            subst ea_
            subst ec_
            clear en_
            have p128 : 0 ≤ (0 : Int) := (by omega)
            have q128 : 0 < ((rd_L3 t109 x11_2).length : Int) := of_decide_eq_true (by first | (with_reducible assumption) | assumption)
            obtain ⟨ad128, e128, hx128_0⟩ := Kd.at_int (by repeat (first | (with_reducible exact HR127_0.out) | (with_reducible refine Kd.C_alloc ?_ _) | (with_reducible refine Kd.C_drewN ?_ _) | (with_reducible refine Kd.C_drew ?_) | exact HR127_0.out)) 0 p128 q128
            cases e128
            have qi128 : (0 < (rd_L3 t109 x11_2).length) = True := eq_true (by omega)
            (try rw [show ((0 : Int)).toNat = 0 from rfl] at hx128_0)
            (try rw [Addr.add_zero'] at hx128_0)
            replace p128 := eq_true p128
            replace q128 := eq_true q128
            have p129 : 0 ≤ ((ji37) : Int) := of_decide_eq_true (by first | (with_reducible assumption) | assumption)
            have q129 : (ji37) < (t104.length : Int) := of_decide_eq_true (by first | (with_reducible assumption) | assumption)
            obtain ⟨ad129, e129, hx129_0⟩ := Kd.at_int (Kd.Q_reads' HO_109002.out).2.2 (ji37) p129 q129
            cases e129
            replace p129 := eq_true p129
            replace q129 := eq_true q129
            have p130 : 0 ≤ ((ji37) : Int) := of_decide_eq_true (by first | (with_reducible assumption) | assumption)
            have q130 : (ji37) < (t104.length : Int) := of_decide_eq_true (by first | (with_reducible assumption) | assumption)
            obtain ⟨ad130, e130, hx130_0⟩ := Kd.at_int (Kd.Q_reads' HO_109002.out).2.2 (ji37) p130 q130
            obtain rfl : ad129 = ad130 := (by injection e130)
            replace p130 := eq_true p130
            replace q130 := eq_true q130
            obtain ⟨hcz52_0, hcz52_1, hcz52_2, hfz52_0, hfz52_1, hfz52_2⟩ := bc3 BK124.out
            have p131 : 0 ≤ ((ji37) : Int) := of_decide_eq_true (by first | (with_reducible assumption) | assumption)
            have q131 : (ji37) < (t120.length : Int) := of_decide_eq_true (by first | (with_reducible assumption) | assumption)
            obtain ⟨ad131, e131, hx131_0⟩ := Kd.at_int (Kd.Q_reads' HO_125002.out).2.2 (ji37) p131 q131
            cases e131
            replace p131 := eq_true p131
            replace q131 := eq_true q131
            go_wp2
            repeat (go_quiet (fail); try go_wp2)
            go_ret
            exact ⟨by first | rfl | (simp [errW_none, errW_some] <;> rfl) | (simp only [← hji37]; first | rfl | (simp [errW_none, errW_some] <;> rfl)) | (simp [*, errW_none, errW_some] <;> rfl), pT HB.out⟩
           rw [if_neg c43] at H
           exact absurd H (by simp)
          rw [if_neg c39] at H
          exact absurd H (by simp)
         rw [if_neg c38] at H
         exact absurd H (by simp)
        rw [if_neg c36] at H
        exact absurd H (by simp)
       rw [if_neg c35] at H
       exact absurd H (by simp)
      rw [if_neg c34] at H
      exact absurd H (by simp)
     rw [if_neg c33] at H
     have c33b0 : decide (x11_2 < (t109.length : Int)) = false := decide_eq_false c33
     clear c33
     replace H := Option.bind_eq_some_iff.mp H
     obtain ⟨⟨t132, t133, t134, t137⟩, A530, H⟩ := H
     replace H : ((impl_FillByMean.f k2 t132 t133 t134 t137).bind fun bt139 => ((spec_FillByMean.f k2 t132 t133 t134 t137).bind fun bt146 => (if (bt139.2.2.2 != bt146.2.2.2) = true then (laws_FnPeaks.j2 k2 l0 bt139.2.2.2 true t132 t133 t134 bt139.1 bt139.2.1 bt139.2.2.1) else ((laws_rFields.f k2 bt139.1 bt139.2.1 bt139.2.2.1 bt146.1 bt146.2.1 bt146.2.2.1).bind fun t153 => (laws_FnPeaks.j2 k2 l0 bt139.2.2.2 (!t153) t132 t133 t134 bt139.1 bt139.2.1 bt139.2.2.1))))) = some r := H
     have A53 := Aside0.mk A530
     clear A530
     replace H := Option.bind_eq_some_iff.mp H
     obtain ⟨⟨t139, t140, t141, t144⟩, A540, H⟩ := H
     replace H : ((spec_FillByMean.f k2 t132 t133 t134 t137).bind fun bt146 => (if (t144 != bt146.2.2.2) = true then (laws_FnPeaks.j2 k2 l0 t144 true t132 t133 t134 t139 t140 t141) else ((laws_rFields.f k2 t139 t140 t141 bt146.1 bt146.2.1 bt146.2.2.1).bind fun t153 => (laws_FnPeaks.j2 k2 l0 t144 (!t153) t132 t133 t134 t139 t140 t141)))) = some r := H
     have A54 := Aside0.mk A540
     clear A540
     replace H := Option.bind_eq_some_iff.mp H
     obtain ⟨⟨t146, t147, t148, t151⟩, A550, H⟩ := H
     replace H : (if (t144 != t151) = true then (laws_FnPeaks.j2 k2 l0 t144 true t132 t133 t134 t139 t140 t141) else ((laws_rFields.f k2 t139 t140 t141 t146 t147 t148).bind fun t153 => (laws_FnPeaks.j2 k2 l0 t144 (!t153) t132 t133 t134 t139 t140 t141))) = some r := H
     have A55 := Aside0.mk A550
     clear A550
     have HC56 := Aside0.mk H
     clear H
     obtain ⟨Ao57, co57, eo57⟩ := Kd.S_slice HO_5.out
     subst eo57
     go_upto_region 20 with (first | (go_at_call 33; (with_reducible refine (spec_DrawFillByMean.calls k2 _ _ l0 t132 t133 t134 t137 _ ?side1 ?side2 A53.out).mono ?_); (case side1 => exact pC (Kd.C_below HR0.out HB.out)); (case side2 => exact HC0.out); rintro e w58 ⟨v135, rfl, ho0, hb⟩; have n0_ := aK (Kd.S_elder' (by (with_reducible repeat (first | apply Kd.S_alloc | apply Kd.S_drewN | apply Kd.S_drew)); exact HO_5.out) (Kd.Q_base ho0) hb); have n1_ := aK (Kd.Q_elder' (pQ HO_109002.out) (Kd.Q_base ho0) hb); have n2_ := aK (Kd.Q_elder' (pQ HO_125002.out) (Kd.Q_base ho0) hb); have HO136 := aK (Kd.Q_lower (Kd.Q_new' (Kd.Q_new' ho0 (Kd.Q_lt (pQ HO_109002.out))) (Kd.Q_lt (pQ HO_125002.out))) (below_size (pS HB.out))); replace HB := bS HB hb; clear HO_5 HO_109002 HO_125002; have HO_5 := n0_; have HO_109002 := n1_; have HO_125002 := n2_; clear n0_ n1_ n2_; (try clear hb); (try clear ho0)) | ((with_reducible refine gate_dst (N := 13) rfl ?_); refine bxe (cs := #[.int .i64 0, .int .i64 0, .slice none 0 0]) (t := 26) ?_; intro gb138 hg w59 hbox hb; have n0_ := aK (Kd.S_below (by (with_reducible repeat (first | apply Kd.S_alloc | apply Kd.S_drewN | apply Kd.S_drew)); exact HO_5.out) hb); have n1_ := aK (Kd.Q_below (pQ HO_109002.out) hb); have n2_ := aK (Kd.Q_below (pQ HO_125002.out) hb); have n3_ := aK (Kd.Q_below (pQ HO136.out) hb); have BK138 := aK (hbox); have GW138 := aK (gE hg (pS HB.out)); have GE138 := aK (gE hg (pS HB.out)); replace HB := bS HB hb; clear HO_5 HO_109002 HO_125002 HO136; have HO_5 := n0_; have HO_109002 := n1_; have HO_125002 := n2_; have HO136 := n3_; clear n0_ n1_ n2_ n3_ hb hbox hg; obtain ⟨hcz60_0, hcz60_1, hcz60_2, hfz60_0, hfz60_1, hfz60_2⟩ := bc3 BK138.out; obtain ⟨Ao61, co61, eo61, _⟩ := Kd.Q_slice HO136.out; subst eo61) | (go_at_call 34; (with_reducible refine (impl_FillByMean.calls k2 t132 t133 _ _ t134 t137 t139 t140 t141 t144 _ ?side1 ?side2 A54.out).mono ?_); (case side1 => refine (Kd.Q_reads' (e := 3) (base := w.heap.size) (ok := fun k_ => ((True ∧ some k_ ≠ (.slice Ao11 t104.length co11 : Value).ownBlock) ∧ some k_ ≠ (.slice Ao32 t120.length co32 : Value).ownBlock)) (n := t134.length) (c := co61) ?_).2.2; exact (pQ ((Kd.Q_mono (Kd.Q_far (p := ⟨gb138, 2, none⟩) (Kd.Q_far (p := ⟨gb138, 1, none⟩) (Kd.Q_far (p := ⟨gb138, 0, none⟩) (Kd.Q_types HO136.out BK138.out (by decide)) (fun _ hk => hk.2) (.int .i64 t132)) (fun _ hk => hk.2) (.int .i64 t133)) (fun _ hk => hk.2) (.slice Ao61 t134.length co61)) (fun _ h_ => h_.1))))); (case side2 => exact (Kd.Q_reads' HO136.out).2.1); rintro e w62 ⟨v142, rfl, ho0, hb⟩; have n0_ := aK (Kd.S_elder' (by (with_reducible repeat (first | apply Kd.S_alloc | apply Kd.S_drewN | apply Kd.S_drew)); exact (Kd.S_mono (Kd.S_far (p := ⟨gb138, 2, none⟩) (Kd.S_far (p := ⟨gb138, 1, none⟩) (Kd.S_far (p := ⟨gb138, 0, none⟩) (Kd.S_types HO_5.out BK138.out (by decide)) (fun _ hk => hk.2) (.int .i64 t132)) (fun _ hk => hk.2) (.int .i64 t133)) (fun _ hk => hk.2) (.slice Ao61 t134.length co61)) (fun _ h_ => h_.1))) (Kd.R_base ho0) hb); have e2_ := aQ hb (pQ ((Kd.Q_mono (Kd.Q_far (p := ⟨gb138, 2, none⟩) (Kd.Q_far (p := ⟨gb138, 1, none⟩) (Kd.Q_far (p := ⟨gb138, 0, none⟩) (Kd.Q_types HO_109002.out BK138.out (by decide)) (fun _ hk => hk.2) (.int .i64 t132)) (fun _ hk => hk.2) (.int .i64 t133)) (fun _ hk => hk.2) (.slice Ao61 t134.length co61)) (fun _ h_ => h_.1)))); have n1_ := aK (Kd.Q_elder' e2_.out (Kd.R_base ho0) hb); have e1_ := aQ hb (pQ ((Kd.Q_mono (Kd.Q_far (p := ⟨gb138, 2, none⟩) (Kd.Q_far (p := ⟨gb138, 1, none⟩) (Kd.Q_far (p := ⟨gb138, 0, none⟩) (Kd.Q_types HO_125002.out BK138.out (by decide)) (fun _ hk => hk.2) (.int .i64 t132)) (fun _ hk => hk.2) (.int .i64 t133)) (fun _ hk => hk.2) (.slice Ao61 t134.length co61)) (fun _ h_ => h_.1)))); have n2_ := aK (Kd.Q_elder' e1_.out (Kd.R_base ho0) hb); have e3_ := aQ hb (pQ ((Kd.Q_mono (Kd.Q_far (p := ⟨gb138, 2, none⟩) (Kd.Q_far (p := ⟨gb138, 1, none⟩) (Kd.Q_far (p := ⟨gb138, 0, none⟩) (Kd.Q_types HO136.out BK138.out (by decide)) (fun _ hk => hk.2) (.int .i64 t132)) (fun _ hk => hk.2) (.int .i64 t133)) (fun _ hk => hk.2) (.slice Ao61 t134.length co61)) (fun _ h_ => h_.1)))); have n3_ := aK (Kd.Q_elder' e3_.out (Kd.R_base ho0) hb); have HO143 := aK (Kd.R_lower (Kd.R_new' (Kd.R_new' (Kd.R_new' ho0 (Kd.Q_lt e2_.out)) (Kd.Q_lt e1_.out)) (Kd.Q_lt e3_.out)) (below_size (pS HB.out))); clear e3_; clear e2_; clear e1_; have n5_ := aK (blk_below (g := gb138) (o := .cells #[.int .i64 t132, .int .i64 t133, .slice Ao61 t134.length co61] 26 (0, 0)) (by refine bk ?_; refine blk_put (cs := #[.int .i64 t132, .int .i64 t133, .slice none 0 0]) ?_ 2 _ rfl; refine bk ?_; refine blk_put (cs := #[.int .i64 t132, .int .i64 0, .slice none 0 0]) ?_ 1 _ rfl; refine bk ?_; refine blk_put (cs := #[.int .i64 0, .int .i64 0, .slice none 0 0]) ?_ 0 _ rfl; refine bk ?_; exact BK138.out) hb); replace HB := bS HB hb; clear HO_5 HO_109002 HO_125002 HO136 BK138; have HO_5 := n0_; have HO_109002 := n1_; have HO_125002 := n2_; have HO136 := n3_; have BK138 := n5_; clear n0_ n1_ n2_ n3_ n5_; (try clear hb); (try clear ho0)) | ((with_reducible refine gate_dst (N := 15) rfl ?_); refine bxe (cs := #[.int .i64 0, .int .i64 0, .slice none 0 0]) (t := 26) ?_; intro gb145 hg w63 hbox hb; have n0_ := aK (Kd.S_below (by (with_reducible repeat (first | apply Kd.S_alloc | apply Kd.S_drewN | apply Kd.S_drew)); exact HO_5.out) hb); have n1_ := aK (Kd.Q_below (pQ HO_109002.out) hb); have n2_ := aK (Kd.Q_below (pQ HO_125002.out) hb); have n3_ := aK (Kd.Q_below (pQ HO136.out) hb); have n4_ := aK (Kd.R_below (pR HO143.out) hb); have BK145 := aK (hbox); have GW145 := aK (gE hg (pS HB.out)); have GE145 := aK (gE hg (pS HB.out)); have NB138_145 := aK (nL hg (pB BK138.out)); have NB145_138 := aK (nG hg (pB BK138.out)); replace BK138 := bB BK138 hb; replace HB := bS HB hb; clear HO_5 HO_109002 HO_125002 HO136 HO143; have HO_5 := n0_; have HO_109002 := n1_; have HO_125002 := n2_; have HO136 := n3_; have HO143 := n4_; clear n0_ n1_ n2_ n3_ n4_ hb hbox hg; have hnb64 := NB145_138.out; have hnc64 := NB138_145.out; obtain ⟨hcz65_0, hcz65_1, hcz65_2, hfz65_0, hfz65_1, hfz65_2⟩ := bc3 BK145.out; obtain ⟨Ao66, co66, eo66⟩ := Kd.R_slice HO143.out; subst eo66; obtain ⟨hcz67_0, hcz67_1, hcz67_2, hfz67_0, hfz67_1, hfz67_2⟩ := bc3 BK138.out) | (go_at_call 35; (with_reducible refine (spec_FillByMean.calls k2 t132 t133 _ _ t134 t137 t146 t147 t148 t151 _ ?side1 ?side2 A55.out).mono ?_); (case side1 => refine (Kd.Q_reads' (e := 3) (base := w.heap.size) (ok := fun k_ => (((True ∧ some k_ ≠ (.slice Ao11 t104.length co11 : Value).ownBlock) ∧ some k_ ≠ (.slice Ao32 t120.length co32 : Value).ownBlock) ∧ some k_ ≠ (.slice Ao66 t141.length co66 : Value).ownBlock)) (n := t134.length) (c := co61) ?_).2.2; exact (pQ ((Kd.Q_mono (Kd.Q_far (p := ⟨gb145, 2, none⟩) (Kd.Q_far (p := ⟨gb145, 1, none⟩) (Kd.Q_far (p := ⟨gb145, 0, none⟩) (Kd.Q_types HO136.out BK145.out (by decide)) (fun _ hk => hk.2) (.int .i64 t139)) (fun _ hk => hk.2) (.int .i64 t140)) (fun _ hk => hk.2) (.slice Ao66 t141.length co66)) (fun _ h_ => h_.1))))); (case side2 => exact (Kd.Q_reads' HO136.out).2.1); rintro e w68 ⟨v149, rfl, ho0, hb⟩; have n0_ := aK (Kd.S_elder' (by (with_reducible repeat (first | apply Kd.S_alloc | apply Kd.S_drewN | apply Kd.S_drew)); exact (Kd.S_mono (Kd.S_far (p := ⟨gb145, 2, none⟩) (Kd.S_far (p := ⟨gb145, 1, none⟩) (Kd.S_far (p := ⟨gb145, 0, none⟩) (Kd.S_types HO_5.out BK145.out (by decide)) (fun _ hk => hk.2) (.int .i64 t139)) (fun _ hk => hk.2) (.int .i64 t140)) (fun _ hk => hk.2) (.slice Ao66 t141.length co66)) (fun _ h_ => h_.1))) (Kd.R_base ho0) hb); have e2_ := aQ hb (pQ ((Kd.Q_mono (Kd.Q_far (p := ⟨gb145, 2, none⟩) (Kd.Q_far (p := ⟨gb145, 1, none⟩) (Kd.Q_far (p := ⟨gb145, 0, none⟩) (Kd.Q_types HO_109002.out BK145.out (by decide)) (fun _ hk => hk.2) (.int .i64 t139)) (fun _ hk => hk.2) (.int .i64 t140)) (fun _ hk => hk.2) (.slice Ao66 t141.length co66)) (fun _ h_ => h_.1)))); have n1_ := aK (Kd.Q_elder' e2_.out (Kd.R_base ho0) hb); have e1_ := aQ hb (pQ ((Kd.Q_mono (Kd.Q_far (p := ⟨gb145, 2, none⟩) (Kd.Q_far (p := ⟨gb145, 1, none⟩) (Kd.Q_far (p := ⟨gb145, 0, none⟩) (Kd.Q_types HO_125002.out BK145.out (by decide)) (fun _ hk => hk.2) (.int .i64 t139)) (fun _ hk => hk.2) (.int .i64 t140)) (fun _ hk => hk.2) (.slice Ao66 t141.length co66)) (fun _ h_ => h_.1)))); have n2_ := aK (Kd.Q_elder' e1_.out (Kd.R_base ho0) hb); have e4_ := aQ hb (pQ ((Kd.Q_mono (Kd.Q_far (p := ⟨gb145, 2, none⟩) (Kd.Q_far (p := ⟨gb145, 1, none⟩) (Kd.Q_far (p := ⟨gb145, 0, none⟩) (Kd.Q_types HO136.out BK145.out (by decide)) (fun _ hk => hk.2) (.int .i64 t139)) (fun _ hk => hk.2) (.int .i64 t140)) (fun _ hk => hk.2) (.slice Ao66 t141.length co66)) (fun _ h_ => h_.1)))); have n3_ := aK (Kd.Q_elder' e4_.out (Kd.R_base ho0) hb); have e3_ := aR hb (pR ((Kd.R_mono (Kd.R_far (p := ⟨gb145, 2, none⟩) (Kd.R_far (p := ⟨gb145, 1, none⟩) (Kd.R_far (p := ⟨gb145, 0, none⟩) (Kd.R_types HO143.out BK145.out (by decide)) (fun _ hk => hk.2) (.int .i64 t139)) (fun _ hk => hk.2) (.int .i64 t140)) (fun _ hk => hk.2) (.slice Ao66 t141.length co66)) (fun _ h_ => h_.1)))); have n4_ := aK (Kd.R_elder' e3_.out (Kd.R_base ho0) hb); have HO150 := aK (Kd.R_lower (Kd.R_new' (Kd.R_new' (Kd.R_new' (Kd.R_new' ho0 (Kd.Q_lt e2_.out)) (Kd.Q_lt e1_.out)) (Kd.Q_lt e4_.out)) (Kd.R_lt e3_.out)) (below_size (pS HB.out))); clear e4_; clear e3_; clear e2_; clear e1_; have n6_ := aK (blk_below (g := gb138) (o := .cells #[.int .i64 t132, .int .i64 t133, .slice Ao61 t134.length co61] 26 (0, 0)) (by refine bk ?_; refine blk_far ?_ NB138_145.out _; refine bk ?_; refine blk_far ?_ NB138_145.out _; refine bk ?_; refine blk_far ?_ NB138_145.out _; refine bk ?_; exact BK138.out) hb); have n7_ := aK (blk_below (g := gb145) (o := .cells #[.int .i64 t139, .int .i64 t140, .slice Ao66 t141.length co66] 26 (0, 0)) (by refine bk ?_; refine blk_put (cs := #[.int .i64 t139, .int .i64 t140, .slice none 0 0]) ?_ 2 _ rfl; refine bk ?_; refine blk_put (cs := #[.int .i64 t139, .int .i64 0, .slice none 0 0]) ?_ 1 _ rfl; refine bk ?_; refine blk_put (cs := #[.int .i64 0, .int .i64 0, .slice none 0 0]) ?_ 0 _ rfl; refine bk ?_; exact BK145.out) hb); replace HB := bS HB hb; clear HO_5 HO_109002 HO_125002 HO136 HO143 BK138 BK145; have HO_5 := n0_; have HO_109002 := n1_; have HO_125002 := n2_; have HO136 := n3_; have HO143 := n4_; have BK138 := n6_; have BK145 := n7_; clear n0_ n1_ n2_ n3_ n4_ n6_ n7_; (try clear hb); (try clear ho0)) | ((with_reducible refine gate_dst (N := 17) rfl ?_); refine bxe (cs := #[.int .i64 0, .int .i64 0, .slice none 0 0]) (t := 26) ?_; intro gb152 hg w69 hbox hb; have n0_ := aK (Kd.S_below (by (with_reducible repeat (first | apply Kd.S_alloc | apply Kd.S_drewN | apply Kd.S_drew)); exact HO_5.out) hb); have n1_ := aK (Kd.Q_below (pQ HO_109002.out) hb); have n2_ := aK (Kd.Q_below (pQ HO_125002.out) hb); have n3_ := aK (Kd.Q_below (pQ HO136.out) hb); have n4_ := aK (Kd.R_below (pR HO143.out) hb); have n5_ := aK (Kd.R_below (pR HO150.out) hb); have BK152 := aK (hbox); have GW152 := aK (gE hg (pS HB.out)); have GE152 := aK (gE hg (pS HB.out)); have NB138_152 := aK (nL hg (pB BK138.out)); have NB152_138 := aK (nG hg (pB BK138.out)); have NB145_152 := aK (nL hg (pB BK145.out)); have NB152_145 := aK (nG hg (pB BK145.out)); replace BK138 := bB BK138 hb; replace BK145 := bB BK145 hb; replace HB := bS HB hb; clear HO_5 HO_109002 HO_125002 HO136 HO143 HO150; have HO_5 := n0_; have HO_109002 := n1_; have HO_125002 := n2_; have HO136 := n3_; have HO143 := n4_; have HO150 := n5_; clear n0_ n1_ n2_ n3_ n4_ n5_ hb hbox hg; have hnb70 := NB152_138.out; have hnc70 := NB138_152.out; have hnb71 := NB152_145.out; have hnc71 := NB145_152.out; obtain ⟨hcz72_0, hcz72_1, hcz72_2, hfz72_0, hfz72_1, hfz72_2⟩ := bc3 BK152.out; obtain ⟨Ao73, co73, eo73⟩ := Kd.R_slice HO150.out; subst eo73))
     (try simp only [Act.put, List.setIfInBounds_toArray, List.set_cons_zero, List.set_cons_succ])
     go_cut [137] (fun v137 wc => ∃ (kq : Nat) (x137_55 : Bool), v137 = .bool x137_55 ∧ Aside0 (laws_FnPeaks.j2 kq l0 t144 x137_55 t132 t133 t134 t139 t140 t141 = some r) ∧ Aside0 (kq ≤ k2) ∧ Aside0 (Kd.Q (Kd.int .i64) 3 wc w.heap.size (fun k_ => some k_ ≠ ((.slice Ao66 t141.length co66) : Value).ownBlock) (.slice Ao61 t134.length co61) t134) ∧ Aside0 (Kd.Q (Kd.int .i64) 3 wc w.heap.size (fun k_ => some k_ ≠ ((.slice Ao61 t134.length co61) : Value).ownBlock) (.slice Ao66 t141.length co66) t141) ∧ Aside0 (wc.heap[gb138]? = some (.cells #[.int .i64 t132, .int .i64 t133, (.slice Ao61 t134.length co61)] 26 (0, 0))) ∧ Aside0 (wc.heap[gb145]? = some (.cells #[.int .i64 t139, .int .i64 t140, (.slice Ao66 t141.length co66)] 26 (0, 0))) ∧ Aside0 (Below w.heap.size w wc))
     case first => as_aux_lemma =>
      have H := HC56.out
      clear HC56
      by_cases c74 : (t144 != t151) = true
      ·
       rw [if_pos c74] at H
       have c74b0 : (t144 != t151) = true := c74
       (try (have c74b1 : decide (t144 = t151) = false := by simpa using c74))
       (try (have c74b2 : (t144 == t151) = false := by simpa using c74))
       (try (have c74b3 : ¬ (t144 = t151) := by simpa using c74))
       clear c74
       (first | rw [c74b0] | (simp only [i64_w, i32_w]; rw [c74b0]) | skip)
       have H' := Aside0.mk H
       clear H
       go_wp2
       repeat (go_quiet (fail); try go_wp2)
       go_meet
       case rel => exact ⟨_, (true), (by first | rfl | (simp; done) | (simp [*]; done)), H', ⟨by have := HJ6.out; have := HK2.out; first | omega | exact Nat.le_refl _⟩, ⟨by (with_reducible repeat (first | apply Kd.Q_alloc | apply Kd.Q_drewN | apply Kd.Q_drew)); exact Kd.Q_mono (Kd.Q_far (p := ⟨gb152, 2, none⟩) (Kd.Q_far (p := ⟨gb152, 1, none⟩) (Kd.Q_far (p := ⟨gb152, 0, none⟩) (Kd.Q_types HO136.out BK152.out (by decide)) (fun _ hk => hk.2) (.int .i64 t146)) (fun _ hk => hk.2) (.int .i64 t147)) (fun _ hk => hk.2) (.slice Ao73 t148.length co73)) (fun _ hk => hk.1.1.2)⟩, ⟨Kd.Q_of_R (pR (Kd.R_mono (Kd.R_far (p := ⟨gb152, 2, none⟩) (Kd.R_far (p := ⟨gb152, 1, none⟩) (Kd.R_far (p := ⟨gb152, 0, none⟩) (Kd.R_types HO143.out BK152.out (by decide)) (fun _ hk => hk.2) (.int .i64 t146)) (fun _ hk => hk.2) (.int .i64 t147)) (fun _ hk => hk.2) (.slice Ao73 t148.length co73)) (fun _ hk => hk.1.1.2)))⟩, ⟨by refine bk ?_; refine blk_far ?_ NB138_152.out _; refine bk ?_; refine blk_far ?_ NB138_152.out _; refine bk ?_; refine blk_far ?_ NB138_152.out _; refine bk ?_; exact BK138.out⟩, ⟨by refine bk ?_; refine blk_far ?_ NB145_152.out _; refine bk ?_; refine blk_far ?_ NB145_152.out _; refine bk ?_; refine blk_far ?_ NB145_152.out _; refine bk ?_; exact BK145.out⟩, ⟨pT HB.out⟩⟩
      rw [if_neg c74] at H
      have c74b0 : (t144 != t151) = false := by simpa using c74
      (try (have c74b1 : decide (t144 = t151) = true := by simpa using c74))
      (try (have c74b2 : (t144 == t151) = true := by simpa using c74))
      clear c74
      (first | rw [c74b0] | (simp only [i64_w, i32_w]; rw [c74b0]) | skip)
      replace H := Option.bind_eq_some_iff.mp H
      obtain ⟨t153, A750, H⟩ := H
      replace H : (laws_FnPeaks.j2 k2 l0 t144 (!t153) t132 t133 t134 t139 t140 t141) = some r := H
      have A75 := Aside0.mk A750
      clear A750
      have H' := Aside0.mk H
      clear H
      have hnb76 := NB145_138.out
      have hnc76 := NB138_145.out
      have hnb77 := NB145_152.out
      have hnc77 := NB152_145.out
      obtain ⟨hcz78_0, hcz78_1, hcz78_2, hfz78_0, hfz78_1, hfz78_2⟩ := bc3 BK145.out
      have hnb79 := NB152_138.out
      have hnc79 := NB138_152.out
      obtain ⟨hcz80_0, hcz80_1, hcz80_2, hfz80_0, hfz80_1, hfz80_2⟩ := bc3 BK152.out
      go_wp2_with (first | (go_at_call 22; (with_reducible refine (laws_rFields.calls k2 t139 t140 _ _ t141 t146 t147 _ _ t148 t153 _ ?side1 ?side2 ?side3 ?side4 A75.out).mono ?_); (case side1 => refine (Kd.R_reads' (e := 3) (base := w.heap.size) (ok := fun k_ => ((((True ∧ some k_ ≠ (.slice Ao11 t104.length co11 : Value).ownBlock) ∧ some k_ ≠ (.slice Ao32 t120.length co32 : Value).ownBlock) ∧ some k_ ≠ (.slice Ao61 t134.length co61 : Value).ownBlock) ∧ some k_ ≠ (.slice Ao73 t148.length co73 : Value).ownBlock)) (n := t141.length) (c := co66) ?_).2.2; exact (pR ((Kd.R_mono (Kd.R_far (p := ⟨gb152, 2, none⟩) (Kd.R_far (p := ⟨gb152, 1, none⟩) (Kd.R_far (p := ⟨gb152, 0, none⟩) (Kd.R_types HO143.out BK152.out (by decide)) (fun _ hk => hk.2) (.int .i64 t146)) (fun _ hk => hk.2) (.int .i64 t147)) (fun _ hk => hk.2) (.slice Ao73 t148.length co73)) (fun _ h_ => h_.1))))); (case side2 => exact (Kd.R_reads' HO143.out).2.1); (case side3 => refine (Kd.R_reads' (e := 3) (base := w.heap.size) (ok := fun k_ => ((((True ∧ some k_ ≠ (.slice Ao11 t104.length co11 : Value).ownBlock) ∧ some k_ ≠ (.slice Ao32 t120.length co32 : Value).ownBlock) ∧ some k_ ≠ (.slice Ao61 t134.length co61 : Value).ownBlock) ∧ some k_ ≠ (.slice Ao66 t141.length co66 : Value).ownBlock)) (n := t148.length) (c := co73) ?_).2.2; exact (pR ((Kd.R_mono (Kd.R_far (p := ⟨gb152, 2, none⟩) (Kd.R_far (p := ⟨gb152, 1, none⟩) (Kd.R_far (p := ⟨gb152, 0, none⟩) (Kd.R_types HO150.out BK152.out (by decide)) (fun _ hk => hk.2) (.int .i64 t146)) (fun _ hk => hk.2) (.int .i64 t147)) (fun _ hk => hk.2) (.slice Ao73 t148.length co73)) (fun _ h_ => h_.1))))); (case side4 => exact (Kd.R_reads' HO150.out).2.1); rintro e w81 ⟨rfl, hb⟩; have n0_ := aK (Kd.S_below (by (with_reducible repeat (first | apply Kd.S_alloc | apply Kd.S_drewN | apply Kd.S_drew)); exact (Kd.S_mono (Kd.S_far (p := ⟨gb152, 2, none⟩) (Kd.S_far (p := ⟨gb152, 1, none⟩) (Kd.S_far (p := ⟨gb152, 0, none⟩) (Kd.S_types HO_5.out BK152.out (by decide)) (fun _ hk => hk.2) (.int .i64 t146)) (fun _ hk => hk.2) (.int .i64 t147)) (fun _ hk => hk.2) (.slice Ao73 t148.length co73)) (fun _ h_ => h_.1))) hb); have n1_ := aK (Kd.Q_below (pQ ((Kd.Q_mono (Kd.Q_far (p := ⟨gb152, 2, none⟩) (Kd.Q_far (p := ⟨gb152, 1, none⟩) (Kd.Q_far (p := ⟨gb152, 0, none⟩) (Kd.Q_types HO_109002.out BK152.out (by decide)) (fun _ hk => hk.2) (.int .i64 t146)) (fun _ hk => hk.2) (.int .i64 t147)) (fun _ hk => hk.2) (.slice Ao73 t148.length co73)) (fun _ h_ => h_.1)))) hb); have n2_ := aK (Kd.Q_below (pQ ((Kd.Q_mono (Kd.Q_far (p := ⟨gb152, 2, none⟩) (Kd.Q_far (p := ⟨gb152, 1, none⟩) (Kd.Q_far (p := ⟨gb152, 0, none⟩) (Kd.Q_types HO_125002.out BK152.out (by decide)) (fun _ hk => hk.2) (.int .i64 t146)) (fun _ hk => hk.2) (.int .i64 t147)) (fun _ hk => hk.2) (.slice Ao73 t148.length co73)) (fun _ h_ => h_.1)))) hb); have n3_ := aK (Kd.Q_below (pQ ((Kd.Q_mono (Kd.Q_far (p := ⟨gb152, 2, none⟩) (Kd.Q_far (p := ⟨gb152, 1, none⟩) (Kd.Q_far (p := ⟨gb152, 0, none⟩) (Kd.Q_types HO136.out BK152.out (by decide)) (fun _ hk => hk.2) (.int .i64 t146)) (fun _ hk => hk.2) (.int .i64 t147)) (fun _ hk => hk.2) (.slice Ao73 t148.length co73)) (fun _ h_ => h_.1)))) hb); have n4_ := aK (Kd.R_below (pR ((Kd.R_mono (Kd.R_far (p := ⟨gb152, 2, none⟩) (Kd.R_far (p := ⟨gb152, 1, none⟩) (Kd.R_far (p := ⟨gb152, 0, none⟩) (Kd.R_types HO143.out BK152.out (by decide)) (fun _ hk => hk.2) (.int .i64 t146)) (fun _ hk => hk.2) (.int .i64 t147)) (fun _ hk => hk.2) (.slice Ao73 t148.length co73)) (fun _ h_ => h_.1)))) hb); have n5_ := aK (Kd.R_below (pR ((Kd.R_mono (Kd.R_far (p := ⟨gb152, 2, none⟩) (Kd.R_far (p := ⟨gb152, 1, none⟩) (Kd.R_far (p := ⟨gb152, 0, none⟩) (Kd.R_types HO150.out BK152.out (by decide)) (fun _ hk => hk.2) (.int .i64 t146)) (fun _ hk => hk.2) (.int .i64 t147)) (fun _ hk => hk.2) (.slice Ao73 t148.length co73)) (fun _ h_ => h_.1)))) hb); have n6_ := aK (blk_below (g := gb138) (o := .cells #[.int .i64 t132, .int .i64 t133, .slice Ao61 t134.length co61] 26 (0, 0)) (by refine bk ?_; refine blk_far ?_ NB138_152.out _; refine bk ?_; refine blk_far ?_ NB138_152.out _; refine bk ?_; refine blk_far ?_ NB138_152.out _; refine bk ?_; exact BK138.out) hb); have n7_ := aK (blk_below (g := gb145) (o := .cells #[.int .i64 t139, .int .i64 t140, .slice Ao66 t141.length co66] 26 (0, 0)) (by refine bk ?_; refine blk_far ?_ NB145_152.out _; refine bk ?_; refine blk_far ?_ NB145_152.out _; refine bk ?_; refine blk_far ?_ NB145_152.out _; refine bk ?_; exact BK145.out) hb); have n8_ := aK (blk_below (g := gb152) (o := .cells #[.int .i64 t146, .int .i64 t147, .slice Ao73 t148.length co73] 26 (0, 0)) (by refine bk ?_; refine blk_put (cs := #[.int .i64 t146, .int .i64 t147, .slice none 0 0]) ?_ 2 _ rfl; refine bk ?_; refine blk_put (cs := #[.int .i64 t146, .int .i64 0, .slice none 0 0]) ?_ 1 _ rfl; refine bk ?_; refine blk_put (cs := #[.int .i64 0, .int .i64 0, .slice none 0 0]) ?_ 0 _ rfl; refine bk ?_; exact BK152.out) hb); replace HB := bS HB hb; clear HO_5 HO_109002 HO_125002 HO136 HO143 HO150 BK138 BK145 BK152; have HO_5 := n0_; have HO_109002 := n1_; have HO_125002 := n2_; have HO136 := n3_; have HO143 := n4_; have HO150 := n5_; have BK138 := n6_; have BK145 := n7_; have BK152 := n8_; clear n0_ n1_ n2_ n3_ n4_ n5_ n6_ n7_ n8_; (try clear hb)))
      go_meet
      case rel => exact ⟨_, (!t153), (by first | rfl | (simp; done) | (simp [*]; done)), H', ⟨by have := HJ6.out; have := HK2.out; first | omega | exact Nat.le_refl _⟩, ⟨by (with_reducible repeat (first | apply Kd.Q_alloc | apply Kd.Q_drewN | apply Kd.Q_drew)); exact Kd.Q_mono HO136.out (fun _ hk => hk.1.2)⟩, ⟨Kd.Q_of_R (pR (Kd.R_mono HO143.out (fun _ hk => hk.1.2)))⟩, ⟨by refine bk ?_; exact BK138.out⟩, ⟨by refine bk ?_; exact BK145.out⟩, ⟨pT HB.out⟩⟩
     case rest => as_aux_lemma =>
      clear HC56
      try clear c33b0
      try clear hcz60_0
      try clear hcz60_1
      try clear hcz60_2
      try clear hcz65_0
      try clear hcz65_1
      try clear hcz65_2
      try clear hcz67_0
      try clear hcz67_1
      try clear hcz67_2
      try clear hcz72_0
      try clear hcz72_1
      try clear hcz72_2
      try clear hfz60_0
      try clear hfz60_1
      try clear hfz60_2
      try clear hfz65_0
      try clear hfz65_1
      try clear hfz65_2
      try clear hfz67_0
      try clear hfz67_1
      try clear hfz67_2
      try clear hfz72_0
      try clear hfz72_1
      try clear hfz72_2
      obtain ⟨kq, x137_55, rfl, HA, HJ55, HO_139002, HO_146002, BK138, BK145, HB⟩ := hcut
      cases kq with
      | zero => exact absurd HA.out (by simp [laws_FnPeaks.j2])
      | succ kj55 =>
       have H := HA.out
       clear HA
       simp only [laws_FnPeaks.j2] at H
       by_cases c82 : x137_55 = true
       ·
        subst c82
        have H1 : (some false) = some r := by rw [if_pos rfl] at H; exact H
        clear H
        have H := H1
        clear H1
        obtain rfl := Option.some.inj H
        go_wp2
        repeat (go_quiet (fail); try go_wp2)
        go_ret
        exact ⟨by first | rfl | (simp [errW_none, errW_some] <;> rfl) | (simp [*, errW_none, errW_some] <;> rfl), pT HB.out⟩
       replace c82 := Bool.eq_false_iff.mpr c82
       subst c82
       have H1 : (laws_FnPeaks.l1 kj55 l0 t144 0 t132 t133 t134 t139 t140 t141) = some r := by rw [if_neg (show ¬ (false = true) by decide)] at H; exact H
       clear H
       have H := H1
       clear H1
       have H' := Aside0.mk H
       clear H
       go_wp2
       repeat (go_quiet (fail); try go_wp2)
       go_loopg [19] kj55 (fun kq v19 w' => ∃ (x19_4 : Int), v19 = .int .i64 x19_4 ∧ Aside0 (laws_FnPeaks.l1 kq l0 t144 x19_4 t132 t133 t134 t139 t140 t141 = some r) ∧ Aside0 (kq ≤ kj55) ∧ Aside0 (Kd.Q (Kd.int .i64) 3 w' w.heap.size (fun k_ => some k_ ≠ ((.slice Ao66 t141.length co66) : Value).ownBlock) (.slice Ao61 t134.length co61) t134) ∧ Aside0 (Kd.Q (Kd.int .i64) 3 w' w.heap.size (fun k_ => some k_ ≠ ((.slice Ao61 t134.length co61) : Value).ownBlock) (.slice Ao66 t141.length co66) t141) ∧ Aside0 (w'.heap[gb138]? = some (.cells #[.int .i64 t132, .int .i64 t133, (.slice Ao61 t134.length co61)] 26 (0, 0))) ∧ Aside0 (w'.heap[gb145]? = some (.cells #[.int .i64 t139, .int .i64 t140, (.slice Ao66 t141.length co66)] 26 (0, 0))) ∧ Aside0 (Below w.heap.size w w'))
       case atStart => exact ⟨(0), (by first | rfl | (simp; done) | (simp [*]; done)), H', ⟨Nat.le_refl _⟩, ⟨by (with_reducible repeat (first | apply Kd.Q_alloc | apply Kd.Q_drewN | apply Kd.Q_drew)); exact HO_139002.out⟩, ⟨by (with_reducible repeat (first | apply Kd.Q_alloc | apply Kd.Q_drewN | apply Kd.Q_drew)); exact HO_146002.out⟩, ⟨by refine bk ?_; exact BK138.out⟩, ⟨by refine bk ?_; exact BK145.out⟩, ⟨pT HB.out⟩⟩
       case round => as_aux_lemma =>
        clear H'
        obtain ⟨x19_4, rfl, HA, HK4, HO_139002, HO_146002, BK138, BK145, HB⟩ := hrel
        cases gk with
        | zero => exact absurd HA.out (by simp [laws_FnPeaks.l1])
        | succ k4 =>
         have H := HA.out
         clear HA
         simp only [laws_FnPeaks.l1] at H
         have HC83 := Aside0.mk H
         clear H
         go_upto_region 23 with (fail)
         go_cut [145] (fun v145 wc => ∃ (kq : Nat) (x145_82 : Bool), v145 = .bool x145_82 ∧ Aside0 (laws_FnPeaks.j4 kq l0 t144 x19_4 x145_82 t132 t133 t134 t139 t140 t141 = some r) ∧ Aside0 (kq ≤ k4) ∧ Aside0 (Kd.Q (Kd.int .i64) 3 wc w.heap.size (fun k_ => some k_ ≠ ((.slice Ao66 t141.length co66) : Value).ownBlock) (.slice Ao61 t134.length co61) t134) ∧ Aside0 (Kd.Q (Kd.int .i64) 3 wc w.heap.size (fun k_ => some k_ ≠ ((.slice Ao61 t134.length co61) : Value).ownBlock) (.slice Ao66 t141.length co66) t141) ∧ Aside0 (wc.heap[gb138]? = some (.cells #[.int .i64 t132, .int .i64 t133, (.slice Ao61 t134.length co61)] 26 (0, 0))) ∧ Aside0 (wc.heap[gb145]? = some (.cells #[.int .i64 t139, .int .i64 t140, (.slice Ao66 t141.length co66)] 26 (0, 0))) ∧ Aside0 (Below w.heap.size w wc))
         case first => as_aux_lemma =>
          have H := HC83.out
          clear HC83
          by_cases c84 : x19_4 < (t134.length : Int)
          ·
           rw [if_pos c84] at H
           have c84b0 : decide (x19_4 < (t134.length : Int)) = true := decide_eq_true c84
           clear c84
           (first | rw [c84b0] | (simp only [i64_w, i32_w]; rw [c84b0]) | skip)
           have H' := Aside0.mk H
           clear H
           have hnb85 := NB138_145.out
           have hnc85 := NB145_138.out
           obtain ⟨hcz86_0, hcz86_1, hcz86_2, hfz86_0, hfz86_1, hfz86_2⟩ := bc3 BK138.out
           go_wp2
           go_meet
           case rel => exact ⟨_, (t144), (by first | rfl | (simp; done) | (simp [*]; done)), H', ⟨by have := HJ6.out; have := HK2.out; have := HJ55.out; have := HK4.out; first | omega | exact Nat.le_refl _⟩, ⟨by (with_reducible repeat (first | apply Kd.Q_alloc | apply Kd.Q_drewN | apply Kd.Q_drew)); exact HO_139002.out⟩, ⟨by (with_reducible repeat (first | apply Kd.Q_alloc | apply Kd.Q_drewN | apply Kd.Q_drew)); exact HO_146002.out⟩, ⟨by refine bk ?_; exact BK138.out⟩, ⟨by refine bk ?_; exact BK145.out⟩, ⟨pT HB.out⟩⟩
          rw [if_neg c84] at H
          have c84b0 : decide (x19_4 < (t134.length : Int)) = false := decide_eq_false c84
          clear c84
          (first | rw [c84b0] | (simp only [i64_w, i32_w]; rw [c84b0]) | skip)
          have H' := Aside0.mk H
          clear H
          have hnb87 := NB138_145.out
          have hnc87 := NB145_138.out
          obtain ⟨hcz88_0, hcz88_1, hcz88_2, hfz88_0, hfz88_1, hfz88_2⟩ := bc3 BK138.out
          go_wp2
          go_meet
          case rel => exact ⟨_, (false), (by first | rfl | (simp; done) | (simp [*]; done)), H', ⟨by have := HJ6.out; have := HK2.out; have := HJ55.out; have := HK4.out; first | omega | exact Nat.le_refl _⟩, ⟨by (with_reducible repeat (first | apply Kd.Q_alloc | apply Kd.Q_drewN | apply Kd.Q_drew)); exact HO_139002.out⟩, ⟨by (with_reducible repeat (first | apply Kd.Q_alloc | apply Kd.Q_drewN | apply Kd.Q_drew)); exact HO_146002.out⟩, ⟨by refine bk ?_; exact BK138.out⟩, ⟨by refine bk ?_; exact BK145.out⟩, ⟨pT HB.out⟩⟩
         case rest => as_aux_lemma =>
          clear HC83
          obtain ⟨kq, x145_82, rfl, HA, HJ82, HO_139002, HO_146002, BK138, BK145, HB⟩ := hcut
          cases kq with
          | zero => exact absurd HA.out (by simp [laws_FnPeaks.j4])
          | succ kj82 =>
           have H := HA.out
           clear HA
           simp only [laws_FnPeaks.j4] at H
           by_cases c89 : x145_82 = true
           ·
            subst c89
            have H1 : (if 0 ≤ x19_4 then (if x19_4 < (t134.length : Int) then (if (rd t134 x19_4) = (-9999) then (laws_FnPeaks.l1 kj82 l0 t144 (wrap64 (x19_4 + 1)) t132 t133 t134 t139 t140 t141) else (if x19_4 < (t141.length : Int) then (if (rd t141 x19_4) = (rd t134 x19_4) then (laws_FnPeaks.l1 kj82 l0 t144 (wrap64 (x19_4 + 1)) t132 t133 t134 t139 t140 t141) else (some false)) else (none))) else (none)) else (none)) = some r := by rw [if_pos rfl] at H; exact H
            clear H
            have H := H1
            clear H1
            by_cases c90 : 0 ≤ x19_4
            ·
             rw [if_pos c90] at H
             have c90b0 : decide (0 ≤ x19_4) = true := decide_eq_true c90
             clear c90
             by_cases c91 : x19_4 < (t134.length : Int)
             ·
              rw [if_pos c91] at H
              have c91b0 : decide (x19_4 < (t134.length : Int)) = true := decide_eq_true c91
              clear c91
              by_cases c92 : (rd t134 x19_4) = (-9999)
              ·
               rw [if_pos c92] at H
               have c92b0 : ((rd t134 x19_4) == (-9999)) = true := beq_iff_eq.mpr c92
               have c92b1 : ((rd t134 x19_4) != (-9999)) = false := bne_eq_false_iff_eq.mpr c92
               clear c92
               have H' := Aside0.mk H
               clear H
               have hnb93 := NB138_145.out
               have hnc93 := NB145_138.out
               obtain ⟨hcz94_0, hcz94_1, hcz94_2, hfz94_0, hfz94_1, hfz94_2⟩ := bc3 BK138.out
               have p154 : 0 ≤ (x19_4 : Int) := of_decide_eq_true (by first | (with_reducible assumption) | assumption)
               have q154 : x19_4 < (t134.length : Int) := of_decide_eq_true (by first | (with_reducible assumption) | assumption)
               obtain ⟨ad154, e154, hx154_0⟩ := Kd.at_int (Kd.Q_reads' HO_139002.out).2.2 x19_4 p154 q154
               cases e154
               replace p154 := eq_true p154
               replace q154 := eq_true q154
               go_wp2
               repeat (go_quiet (fail); try go_wp2)
               go_roundg kj82
               case measure => have := HJ6.out; have := HK2.out; have := HJ55.out; have := HK4.out; have := HJ82.out; omega
               case rel => exact ⟨(wrap64 (x19_4 + 1)), (by first | rfl | (simp; done) | (simp [*]; done)), H', ⟨by have := HJ6.out; have := HK2.out; have := HJ55.out; have := HK4.out; have := HJ82.out; omega⟩, ⟨by (with_reducible repeat (first | apply Kd.Q_alloc | apply Kd.Q_drewN | apply Kd.Q_drew)); exact HO_139002.out⟩, ⟨by (with_reducible repeat (first | apply Kd.Q_alloc | apply Kd.Q_drewN | apply Kd.Q_drew)); exact HO_146002.out⟩, ⟨by refine bk ?_; exact BK138.out⟩, ⟨by refine bk ?_; exact BK145.out⟩, ⟨pT HB.out⟩⟩
              rw [if_neg c92] at H
              have c92b0 : ((rd t134 x19_4) == (-9999)) = false := beq_eq_false_iff_ne.mpr c92
              have c92b1 : ((rd t134 x19_4) != (-9999)) = true := bne_iff_ne.mpr c92
              by_cases c95 : x19_4 < (t141.length : Int)
              ·
               rw [if_pos c95] at H
               have c95b0 : decide (x19_4 < (t141.length : Int)) = true := decide_eq_true c95
               clear c95
               by_cases c96 : (rd t141 x19_4) = (rd t134 x19_4)
               ·
                rw [if_pos c96] at H
                have c96b0 : ((rd t141 x19_4) == (rd t134 x19_4)) = true := beq_iff_eq.mpr c96
                have c96b1 : ((rd t141 x19_4) != (rd t134 x19_4)) = false := bne_eq_false_iff_eq.mpr c96
                clear c96
                have H' := Aside0.mk H
                clear H
                have hnb97 := NB138_145.out
                have hnc97 := NB145_138.out
                obtain ⟨hcz98_0, hcz98_1, hcz98_2, hfz98_0, hfz98_1, hfz98_2⟩ := bc3 BK138.out
                have p154 : 0 ≤ (x19_4 : Int) := of_decide_eq_true (by first | (with_reducible assumption) | assumption)
                have q154 : x19_4 < (t134.length : Int) := of_decide_eq_true (by first | (with_reducible assumption) | assumption)
                obtain ⟨ad154, e154, hx154_0⟩ := Kd.at_int (Kd.Q_reads' HO_139002.out).2.2 x19_4 p154 q154
                cases e154
                replace p154 := eq_true p154
                replace q154 := eq_true q154
                obtain ⟨hcz99_0, hcz99_1, hcz99_2, hfz99_0, hfz99_1, hfz99_2⟩ := bc3 BK145.out
                have p155 : 0 ≤ (x19_4 : Int) := of_decide_eq_true (by first | (with_reducible assumption) | assumption)
                have q155 : x19_4 < (t141.length : Int) := of_decide_eq_true (by first | (with_reducible assumption) | assumption)
                obtain ⟨ad155, e155, hx155_0⟩ := Kd.at_int (Kd.Q_reads' HO_146002.out).2.2 x19_4 p155 q155
                cases e155
                replace p155 := eq_true p155
                replace q155 := eq_true q155
                have p156 : 0 ≤ (x19_4 : Int) := of_decide_eq_true (by first | (with_reducible assumption) | assumption)
                have q156 : x19_4 < (t134.length : Int) := of_decide_eq_true (by first | (with_reducible assumption) | assumption)
                obtain ⟨ad156, e156, hx156_0⟩ := Kd.at_int (Kd.Q_reads' HO_139002.out).2.2 x19_4 p156 q156
                obtain rfl : ad154 = ad156 := (by injection e156)
                replace p156 := eq_true p156
                replace q156 := eq_true q156
                go_wp2
                repeat (go_quiet (fail); try go_wp2)
                go_roundg kj82
                case measure => have := HJ6.out; have := HK2.out; have := HJ55.out; have := HK4.out; have := HJ82.out; omega
                case rel => exact ⟨(wrap64 (x19_4 + 1)), (by first | rfl | (simp; done) | (simp [*]; done)), H', ⟨by have := HJ6.out; have := HK2.out; have := HJ55.out; have := HK4.out; have := HJ82.out; omega⟩, ⟨by (with_reducible repeat (first | apply Kd.Q_alloc | apply Kd.Q_drewN | apply Kd.Q_drew)); exact HO_139002.out⟩, ⟨by (with_reducible repeat (first | apply Kd.Q_alloc | apply Kd.Q_drewN | apply Kd.Q_drew)); exact HO_146002.out⟩, ⟨by refine bk ?_; exact BK138.out⟩, ⟨by refine bk ?_; exact BK145.out⟩, ⟨pT HB.out⟩⟩
               rw [if_neg c96] at H
               have c96b0 : ((rd t141 x19_4) == (rd t134 x19_4)) = false := beq_eq_false_iff_ne.mpr c96
               have c96b1 : ((rd t141 x19_4) != (rd t134 x19_4)) = true := bne_iff_ne.mpr c96
               obtain rfl := Option.some.inj H
               have hnb100 := NB138_145.out
               have hnc100 := NB145_138.out
               obtain ⟨hcz101_0, hcz101_1, hcz101_2, hfz101_0, hfz101_1, hfz101_2⟩ := bc3 BK138.out
               have p154 : 0 ≤ (x19_4 : Int) := of_decide_eq_true (by first | (with_reducible assumption) | assumption)
               have q154 : x19_4 < (t134.length : Int) := of_decide_eq_true (by first | (with_reducible assumption) | assumption)
               obtain ⟨ad154, e154, hx154_0⟩ := Kd.at_int (Kd.Q_reads' HO_139002.out).2.2 x19_4 p154 q154
               cases e154
               replace p154 := eq_true p154
               replace q154 := eq_true q154
               obtain ⟨hcz102_0, hcz102_1, hcz102_2, hfz102_0, hfz102_1, hfz102_2⟩ := bc3 BK145.out
               have p155 : 0 ≤ (x19_4 : Int) := of_decide_eq_true (by first | (with_reducible assumption) | assumption)
               have q155 : x19_4 < (t141.length : Int) := of_decide_eq_true (by first | (with_reducible assumption) | assumption)
               obtain ⟨ad155, e155, hx155_0⟩ := Kd.at_int (Kd.Q_reads' HO_146002.out).2.2 x19_4 p155 q155
               cases e155
               replace p155 := eq_true p155
               replace q155 := eq_true q155
               have p156 : 0 ≤ (x19_4 : Int) := of_decide_eq_true (by first | (with_reducible assumption) | assumption)
               have q156 : x19_4 < (t134.length : Int) := of_decide_eq_true (by first | (with_reducible assumption) | assumption)
               obtain ⟨ad156, e156, hx156_0⟩ := Kd.at_int (Kd.Q_reads' HO_139002.out).2.2 x19_4 p156 q156
               obtain rfl : ad154 = ad156 := (by injection e156)
               replace p156 := eq_true p156
               replace q156 := eq_true q156
               go_wp2
               repeat (go_quiet (fail); try go_wp2)
               go_ret
               exact ⟨by first | rfl | (simp [errW_none, errW_some] <;> rfl) | (simp [*, errW_none, errW_some] <;> rfl), pT HB.out⟩
              rw [if_neg c95] at H
              exact absurd H (by simp)
             rw [if_neg c91] at H
             exact absurd H (by simp)
            rw [if_neg c90] at H
            exact absurd H (by simp)
           replace c89 := Bool.eq_false_iff.mpr c89
           subst c89
           have H1 : ((spec_DrawRepeatMaximum.f kj82 l0).bind fun bt157 => ((impl_RepeatMaximum.f kj82 bt157.1 bt157.2.1 bt157.2.2.1 bt157.2.2.2.1 bt157.2.2.2.2).bind fun bt165 => ((spec_RepeatMaximum.f kj82 bt157.1 bt157.2.1 bt157.2.2.1 bt157.2.2.2.1 bt157.2.2.2.2).bind fun bt172 => (if (bt165.2.2.2 != bt172.2.2.2) = true then (laws_FnPeaks.j5 kj82 l0 bt165.2.2.2 true bt157.1 bt157.2.1 bt157.2.2.1 bt165.1 bt165.2.1 bt165.2.2.1) else ((laws_rFields.f kj82 bt165.1 bt165.2.1 bt165.2.2.1 bt172.1 bt172.2.1 bt172.2.2.1).bind fun t179 => (laws_FnPeaks.j5 kj82 l0 bt165.2.2.2 (!t179) bt157.1 bt157.2.1 bt157.2.2.1 bt165.1 bt165.2.1 bt165.2.2.1)))))) = some r := by rw [if_neg (show ¬ (false = true) by decide)] at H; exact H
           clear H
           have H := H1
           clear H1
           replace H := Option.bind_eq_some_iff.mp H
           obtain ⟨⟨t157, t158, t159, t162, t163⟩, A1030, H⟩ := H
           replace H : ((impl_RepeatMaximum.f kj82 t157 t158 t159 t162 t163).bind fun bt165 => ((spec_RepeatMaximum.f kj82 t157 t158 t159 t162 t163).bind fun bt172 => (if (bt165.2.2.2 != bt172.2.2.2) = true then (laws_FnPeaks.j5 kj82 l0 bt165.2.2.2 true t157 t158 t159 bt165.1 bt165.2.1 bt165.2.2.1) else ((laws_rFields.f kj82 bt165.1 bt165.2.1 bt165.2.2.1 bt172.1 bt172.2.1 bt172.2.2.1).bind fun t179 => (laws_FnPeaks.j5 kj82 l0 bt165.2.2.2 (!t179) t157 t158 t159 bt165.1 bt165.2.1 bt165.2.2.1))))) = some r := H
           have A103 := Aside0.mk A1030
           clear A1030
           replace H := Option.bind_eq_some_iff.mp H
           obtain ⟨⟨t165, t166, t167, t170⟩, A1040, H⟩ := H
           replace H : ((spec_RepeatMaximum.f kj82 t157 t158 t159 t162 t163).bind fun bt172 => (if (t170 != bt172.2.2.2) = true then (laws_FnPeaks.j5 kj82 l0 t170 true t157 t158 t159 t165 t166 t167) else ((laws_rFields.f kj82 t165 t166 t167 bt172.1 bt172.2.1 bt172.2.2.1).bind fun t179 => (laws_FnPeaks.j5 kj82 l0 t170 (!t179) t157 t158 t159 t165 t166 t167)))) = some r := H
           have A104 := Aside0.mk A1040
           clear A1040
           replace H := Option.bind_eq_some_iff.mp H
           obtain ⟨⟨t172, t173, t174, t177⟩, A1050, H⟩ := H
           replace H : (if (t170 != t177) = true then (laws_FnPeaks.j5 kj82 l0 t170 true t157 t158 t159 t165 t166 t167) else ((laws_rFields.f kj82 t165 t166 t167 t172 t173 t174).bind fun t179 => (laws_FnPeaks.j5 kj82 l0 t170 (!t179) t157 t158 t159 t165 t166 t167))) = some r := H
           have A105 := Aside0.mk A1050
           clear A1050
           have HC106 := Aside0.mk H
           clear H
           go_upto_region 30 with (first | (go_at_call 36; (with_reducible refine (spec_DrawRepeatMaximum.calls kj82 _ _ l0 t157 t158 t159 t162 t163 _ ?side1 ?side2 A103.out).mono ?_); (case side1 => exact pC (Kd.C_below HR0.out HB.out)); (case side2 => exact HC0.out); rintro e w107 ⟨v160, rfl, ho0, hb⟩; have n0_ := aK (Kd.Q_elder' (pQ HO_139002.out) (Kd.Q_base ho0) hb); have n1_ := aK (Kd.Q_elder' (pQ HO_146002.out) (Kd.Q_base ho0) hb); have HO161 := aK (Kd.Q_lower (Kd.Q_new' (Kd.Q_new' ho0 (Kd.Q_lt (pQ HO_139002.out))) (Kd.Q_lt (pQ HO_146002.out))) (below_size (pS HB.out))); replace HB := bS HB hb; clear HO_139002 HO_146002; have HO_139002 := n0_; have HO_146002 := n1_; clear n0_ n1_; (try clear hb); (try clear ho0)) | ((with_reducible refine gate_dst (N := 20) rfl ?_); refine bxe (cs := #[.int .i64 0, .int .i64 0, .slice none 0 0]) (t := 26) ?_; intro gb164 hg w108 hbox hb; have n0_ := aK (Kd.Q_below (pQ HO_139002.out) hb); have n1_ := aK (Kd.Q_below (pQ HO_146002.out) hb); have n2_ := aK (Kd.Q_below (pQ HO161.out) hb); have BK164 := aK (hbox); have GW164 := aK (gE hg (pS HB.out)); have GE164 := aK (gE hg (pS HB.out)); replace HB := bS HB hb; clear HO_139002 HO_146002 HO161; have HO_139002 := n0_; have HO_146002 := n1_; have HO161 := n2_; clear n0_ n1_ n2_ hb hbox hg; obtain ⟨hcz109_0, hcz109_1, hcz109_2, hfz109_0, hfz109_1, hfz109_2⟩ := bc3 BK164.out; obtain ⟨Ao110, co110, eo110, _⟩ := Kd.Q_slice HO161.out; subst eo110) | (go_at_call 37; (with_reducible refine (impl_RepeatMaximum.calls kj82 t157 t158 _ _ t159 t162 t163 t165 t166 t167 t170 _ ?side1 ?side2 A104.out).mono ?_); (case side1 => refine (Kd.Q_reads' (e := 3) (base := w.heap.size) (ok := fun k_ => ((True ∧ some k_ ≠ (.slice Ao61 t134.length co61 : Value).ownBlock) ∧ some k_ ≠ (.slice Ao66 t141.length co66 : Value).ownBlock)) (n := t159.length) (c := co110) ?_).2.2; exact (pQ ((Kd.Q_mono (Kd.Q_far (p := ⟨gb164, 2, none⟩) (Kd.Q_far (p := ⟨gb164, 1, none⟩) (Kd.Q_far (p := ⟨gb164, 0, none⟩) (Kd.Q_types HO161.out BK164.out (by decide)) (fun _ hk => hk.2) (.int .i64 t157)) (fun _ hk => hk.2) (.int .i64 t158)) (fun _ hk => hk.2) (.slice Ao110 t159.length co110)) (fun _ h_ => h_.1))))); (case side2 => exact (Kd.Q_reads' HO161.out).2.1); rintro e w111 ⟨v168, rfl, ho0, hb⟩; have e2_ := aQ hb (pQ ((Kd.Q_mono (Kd.Q_far (p := ⟨gb164, 2, none⟩) (Kd.Q_far (p := ⟨gb164, 1, none⟩) (Kd.Q_far (p := ⟨gb164, 0, none⟩) (Kd.Q_types HO_139002.out BK164.out (by decide)) (fun _ hk => hk.2) (.int .i64 t157)) (fun _ hk => hk.2) (.int .i64 t158)) (fun _ hk => hk.2) (.slice Ao110 t159.length co110)) (fun _ h_ => h_.1)))); have n0_ := aK (Kd.Q_elder' e2_.out (Kd.R_base ho0) hb); have e1_ := aQ hb (pQ ((Kd.Q_mono (Kd.Q_far (p := ⟨gb164, 2, none⟩) (Kd.Q_far (p := ⟨gb164, 1, none⟩) (Kd.Q_far (p := ⟨gb164, 0, none⟩) (Kd.Q_types HO_146002.out BK164.out (by decide)) (fun _ hk => hk.2) (.int .i64 t157)) (fun _ hk => hk.2) (.int .i64 t158)) (fun _ hk => hk.2) (.slice Ao110 t159.length co110)) (fun _ h_ => h_.1)))); have n1_ := aK (Kd.Q_elder' e1_.out (Kd.R_base ho0) hb); have e3_ := aQ hb (pQ ((Kd.Q_mono (Kd.Q_far (p := ⟨gb164, 2, none⟩) (Kd.Q_far (p := ⟨gb164, 1, none⟩) (Kd.Q_far (p := ⟨gb164, 0, none⟩) (Kd.Q_types HO161.out BK164.out (by decide)) (fun _ hk => hk.2) (.int .i64 t157)) (fun _ hk => hk.2) (.int .i64 t158)) (fun _ hk => hk.2) (.slice Ao110 t159.length co110)) (fun _ h_ => h_.1)))); have n2_ := aK (Kd.Q_elder' e3_.out (Kd.R_base ho0) hb); have HO169 := aK (Kd.R_lower (Kd.R_new' (Kd.R_new' (Kd.R_new' ho0 (Kd.Q_lt e2_.out)) (Kd.Q_lt e1_.out)) (Kd.Q_lt e3_.out)) (below_size (pS HB.out))); clear e3_; clear e2_; clear e1_; have n4_ := aK (blk_below (g := gb164) (o := .cells #[.int .i64 t157, .int .i64 t158, .slice Ao110 t159.length co110] 26 (0, 0)) (by refine bk ?_; refine blk_put (cs := #[.int .i64 t157, .int .i64 t158, .slice none 0 0]) ?_ 2 _ rfl; refine bk ?_; refine blk_put (cs := #[.int .i64 t157, .int .i64 0, .slice none 0 0]) ?_ 1 _ rfl; refine bk ?_; refine blk_put (cs := #[.int .i64 0, .int .i64 0, .slice none 0 0]) ?_ 0 _ rfl; refine bk ?_; exact BK164.out) hb); replace HB := bS HB hb; clear HO_139002 HO_146002 HO161 BK164; have HO_139002 := n0_; have HO_146002 := n1_; have HO161 := n2_; have BK164 := n4_; clear n0_ n1_ n2_ n4_; (try clear hb); (try clear ho0)) | ((with_reducible refine gate_dst (N := 23) rfl ?_); refine bxe (cs := #[.int .i64 0, .int .i64 0, .slice none 0 0]) (t := 26) ?_; intro gb171 hg w112 hbox hb; have n0_ := aK (Kd.Q_below (pQ HO_139002.out) hb); have n1_ := aK (Kd.Q_below (pQ HO_146002.out) hb); have n2_ := aK (Kd.Q_below (pQ HO161.out) hb); have n3_ := aK (Kd.R_below (pR HO169.out) hb); have BK171 := aK (hbox); have GW171 := aK (gE hg (pS HB.out)); have GE171 := aK (gE hg (pS HB.out)); have NB164_171 := aK (nL hg (pB BK164.out)); have NB171_164 := aK (nG hg (pB BK164.out)); replace BK164 := bB BK164 hb; replace HB := bS HB hb; clear HO_139002 HO_146002 HO161 HO169; have HO_139002 := n0_; have HO_146002 := n1_; have HO161 := n2_; have HO169 := n3_; clear n0_ n1_ n2_ n3_ hb hbox hg; have hnb113 := NB171_164.out; have hnc113 := NB164_171.out; obtain ⟨hcz114_0, hcz114_1, hcz114_2, hfz114_0, hfz114_1, hfz114_2⟩ := bc3 BK171.out; obtain ⟨Ao115, co115, eo115⟩ := Kd.R_slice HO169.out; subst eo115; obtain ⟨hcz116_0, hcz116_1, hcz116_2, hfz116_0, hfz116_1, hfz116_2⟩ := bc3 BK164.out) | (go_at_call 38; (with_reducible refine (spec_RepeatMaximum.calls kj82 t157 t158 _ _ t159 t162 t163 t172 t173 t174 t177 _ ?side1 ?side2 A105.out).mono ?_); (case side1 => refine (Kd.Q_reads' (e := 3) (base := w.heap.size) (ok := fun k_ => (((True ∧ some k_ ≠ (.slice Ao61 t134.length co61 : Value).ownBlock) ∧ some k_ ≠ (.slice Ao66 t141.length co66 : Value).ownBlock) ∧ some k_ ≠ (.slice Ao115 t167.length co115 : Value).ownBlock)) (n := t159.length) (c := co110) ?_).2.2; exact (pQ ((Kd.Q_mono (Kd.Q_far (p := ⟨gb171, 2, none⟩) (Kd.Q_far (p := ⟨gb171, 1, none⟩) (Kd.Q_far (p := ⟨gb171, 0, none⟩) (Kd.Q_types HO161.out BK171.out (by decide)) (fun _ hk => hk.2) (.int .i64 t165)) (fun _ hk => hk.2) (.int .i64 t166)) (fun _ hk => hk.2) (.slice Ao115 t167.length co115)) (fun _ h_ => h_.1))))); (case side2 => exact (Kd.Q_reads' HO161.out).2.1); rintro e w117 ⟨v175, rfl, ho0, hb⟩; have e2_ := aQ hb (pQ ((Kd.Q_mono (Kd.Q_far (p := ⟨gb171, 2, none⟩) (Kd.Q_far (p := ⟨gb171, 1, none⟩) (Kd.Q_far (p := ⟨gb171, 0, none⟩) (Kd.Q_types HO_139002.out BK171.out (by decide)) (fun _ hk => hk.2) (.int .i64 t165)) (fun _ hk => hk.2) (.int .i64 t166)) (fun _ hk => hk.2) (.slice Ao115 t167.length co115)) (fun _ h_ => h_.1)))); have n0_ := aK (Kd.Q_elder' e2_.out (Kd.R_base ho0) hb); have e1_ := aQ hb (pQ ((Kd.Q_mono (Kd.Q_far (p := ⟨gb171, 2, none⟩) (Kd.Q_far (p := ⟨gb171, 1, none⟩) (Kd.Q_far (p := ⟨gb171, 0, none⟩) (Kd.Q_types HO_146002.out BK171.out (by decide)) (fun _ hk => hk.2) (.int .i64 t165)) (fun _ hk => hk.2) (.int .i64 t166)) (fun _ hk => hk.2) (.slice Ao115 t167.length co115)) (fun _ h_ => h_.1)))); have n1_ := aK (Kd.Q_elder' e1_.out (Kd.R_base ho0) hb); have e4_ := aQ hb (pQ ((Kd.Q_mono (Kd.Q_far (p := ⟨gb171, 2, none⟩) (Kd.Q_far (p := ⟨gb171, 1, none⟩) (Kd.Q_far (p := ⟨gb171, 0, none⟩) (Kd.Q_types HO161.out BK171.out (by decide)) (fun _ hk => hk.2) (.int .i64 t165)) (fun _ hk => hk.2) (.int .i64 t166)) (fun _ hk => hk.2) (.slice Ao115 t167.length co115)) (fun _ h_ => h_.1)))); have n2_ := aK (Kd.Q_elder' e4_.out (Kd.R_base ho0) hb); have e3_ := aR hb (pR ((Kd.R_mono (Kd.R_far (p := ⟨gb171, 2, none⟩) (Kd.R_far (p := ⟨gb171, 1, none⟩) (Kd.R_far (p := ⟨gb171, 0, none⟩) (Kd.R_types HO169.out BK171.out (by decide)) (fun _ hk => hk.2) (.int .i64 t165)) (fun _ hk => hk.2) (.int .i64 t166)) (fun _ hk => hk.2) (.slice Ao115 t167.length co115)) (fun _ h_ => h_.1)))); have n3_ := aK (Kd.R_elder' e3_.out (Kd.R_base ho0) hb); have HO176 := aK (Kd.R_lower (Kd.R_new' (Kd.R_new' (Kd.R_new' (Kd.R_new' ho0 (Kd.Q_lt e2_.out)) (Kd.Q_lt e1_.out)) (Kd.Q_lt e4_.out)) (Kd.R_lt e3_.out)) (below_size (pS HB.out))); clear e4_; clear e3_; clear e2_; clear e1_; have n5_ := aK (blk_below (g := gb164) (o := .cells #[.int .i64 t157, .int .i64 t158, .slice Ao110 t159.length co110] 26 (0, 0)) (by refine bk ?_; refine blk_far ?_ NB164_171.out _; refine bk ?_; refine blk_far ?_ NB164_171.out _; refine bk ?_; refine blk_far ?_ NB164_171.out _; refine bk ?_; exact BK164.out) hb); have n6_ := aK (blk_below (g := gb171) (o := .cells #[.int .i64 t165, .int .i64 t166, .slice Ao115 t167.length co115] 26 (0, 0)) (by refine bk ?_; refine blk_put (cs := #[.int .i64 t165, .int .i64 t166, .slice none 0 0]) ?_ 2 _ rfl; refine bk ?_; refine blk_put (cs := #[.int .i64 t165, .int .i64 0, .slice none 0 0]) ?_ 1 _ rfl; refine bk ?_; refine blk_put (cs := #[.int .i64 0, .int .i64 0, .slice none 0 0]) ?_ 0 _ rfl; refine bk ?_; exact BK171.out) hb); replace HB := bS HB hb; clear HO_139002 HO_146002 HO161 HO169 BK164 BK171; have HO_139002 := n0_; have HO_146002 := n1_; have HO161 := n2_; have HO169 := n3_; have BK164 := n5_; have BK171 := n6_; clear n0_ n1_ n2_ n3_ n5_ n6_; (try clear hb); (try clear ho0)) | ((with_reducible refine gate_dst (N := 25) rfl ?_); refine bxe (cs := #[.int .i64 0, .int .i64 0, .slice none 0 0]) (t := 26) ?_; intro gb178 hg w118 hbox hb; have n0_ := aK (Kd.Q_below (pQ HO_139002.out) hb); have n1_ := aK (Kd.Q_below (pQ HO_146002.out) hb); have n2_ := aK (Kd.Q_below (pQ HO161.out) hb); have n3_ := aK (Kd.R_below (pR HO169.out) hb); have n4_ := aK (Kd.R_below (pR HO176.out) hb); have BK178 := aK (hbox); have GW178 := aK (gE hg (pS HB.out)); have GE178 := aK (gE hg (pS HB.out)); have NB164_178 := aK (nL hg (pB BK164.out)); have NB178_164 := aK (nG hg (pB BK164.out)); have NB171_178 := aK (nL hg (pB BK171.out)); have NB178_171 := aK (nG hg (pB BK171.out)); replace BK164 := bB BK164 hb; replace BK171 := bB BK171 hb; replace HB := bS HB hb; clear HO_139002 HO_146002 HO161 HO169 HO176; have HO_139002 := n0_; have HO_146002 := n1_; have HO161 := n2_; have HO169 := n3_; have HO176 := n4_; clear n0_ n1_ n2_ n3_ n4_ hb hbox hg; have hnb119 := NB178_164.out; have hnc119 := NB164_178.out; have hnb120 := NB178_171.out; have hnc120 := NB171_178.out; obtain ⟨hcz121_0, hcz121_1, hcz121_2, hfz121_0, hfz121_1, hfz121_2⟩ := bc3 BK178.out; obtain ⟨Ao122, co122, eo122⟩ := Kd.R_slice HO176.out; subst eo122))
           (try simp only [Act.put, List.setIfInBounds_toArray, List.set_cons_zero, List.set_cons_succ])
           go_cut [195] (fun v195 wc => ∃ (kq : Nat) (x195_105 : Bool), v195 = .bool x195_105 ∧ Aside0 (laws_FnPeaks.j5 kq l0 t170 x195_105 t157 t158 t159 t165 t166 t167 = some r) ∧ Aside0 (kq ≤ kj82) ∧ Aside0 (Kd.Q (Kd.int .i64) 3 wc w.heap.size (fun k_ => some k_ ≠ ((.slice Ao115 t167.length co115) : Value).ownBlock) (.slice Ao110 t159.length co110) t159) ∧ Aside0 (Kd.Q (Kd.int .i64) 3 wc w.heap.size (fun k_ => some k_ ≠ ((.slice Ao110 t159.length co110) : Value).ownBlock) (.slice Ao115 t167.length co115) t167) ∧ Aside0 (wc.heap[gb164]? = some (.cells #[.int .i64 t157, .int .i64 t158, (.slice Ao110 t159.length co110)] 26 (0, 0))) ∧ Aside0 (wc.heap[gb171]? = some (.cells #[.int .i64 t165, .int .i64 t166, (.slice Ao115 t167.length co115)] 26 (0, 0))) ∧ Aside0 (Below w.heap.size w wc))
           case first => as_aux_lemma =>
            have H := HC106.out
            clear HC106
            by_cases c123 : (t170 != t177) = true
            ·
             rw [if_pos c123] at H
             have c123b0 : (t170 != t177) = true := c123
             (try (have c123b1 : decide (t170 = t177) = false := by simpa using c123))
             (try (have c123b2 : (t170 == t177) = false := by simpa using c123))
             (try (have c123b3 : ¬ (t170 = t177) := by simpa using c123))
             clear c123
             (first | rw [c123b0] | (simp only [i64_w, i32_w]; rw [c123b0]) | skip)
             have H' := Aside0.mk H
             clear H
             go_wp2
             go_meet
             case rel => exact ⟨_, (true), (by first | rfl | (simp; done) | (simp [*]; done)), H', ⟨by have := HJ6.out; have := HK2.out; have := HJ55.out; have := HK4.out; have := HJ82.out; first | omega | exact Nat.le_refl _⟩, ⟨by (with_reducible repeat (first | apply Kd.Q_alloc | apply Kd.Q_drewN | apply Kd.Q_drew)); exact Kd.Q_mono (Kd.Q_far (p := ⟨gb178, 2, none⟩) (Kd.Q_far (p := ⟨gb178, 1, none⟩) (Kd.Q_far (p := ⟨gb178, 0, none⟩) (Kd.Q_types HO161.out BK178.out (by decide)) (fun _ hk => hk.2) (.int .i64 t172)) (fun _ hk => hk.2) (.int .i64 t173)) (fun _ hk => hk.2) (.slice Ao122 t174.length co122)) (fun _ hk => hk.1.1.2)⟩, ⟨Kd.Q_of_R (pR (Kd.R_mono (Kd.R_far (p := ⟨gb178, 2, none⟩) (Kd.R_far (p := ⟨gb178, 1, none⟩) (Kd.R_far (p := ⟨gb178, 0, none⟩) (Kd.R_types HO169.out BK178.out (by decide)) (fun _ hk => hk.2) (.int .i64 t172)) (fun _ hk => hk.2) (.int .i64 t173)) (fun _ hk => hk.2) (.slice Ao122 t174.length co122)) (fun _ hk => hk.1.1.2)))⟩, ⟨by refine bk ?_; refine blk_far ?_ NB164_178.out _; refine bk ?_; refine blk_far ?_ NB164_178.out _; refine bk ?_; refine blk_far ?_ NB164_178.out _; refine bk ?_; exact BK164.out⟩, ⟨by refine bk ?_; refine blk_far ?_ NB171_178.out _; refine bk ?_; refine blk_far ?_ NB171_178.out _; refine bk ?_; refine blk_far ?_ NB171_178.out _; refine bk ?_; exact BK171.out⟩, ⟨pT HB.out⟩⟩
            rw [if_neg c123] at H
            have c123b0 : (t170 != t177) = false := by simpa using c123
            (try (have c123b1 : decide (t170 = t177) = true := by simpa using c123))
            (try (have c123b2 : (t170 == t177) = true := by simpa using c123))
            clear c123
            (first | rw [c123b0] | (simp only [i64_w, i32_w]; rw [c123b0]) | skip)
            replace H := Option.bind_eq_some_iff.mp H
            obtain ⟨t179, A1240, H⟩ := H
            replace H : (laws_FnPeaks.j5 kj82 l0 t170 (!t179) t157 t158 t159 t165 t166 t167) = some r := H
            have A124 := Aside0.mk A1240
            clear A1240
            have H' := Aside0.mk H
            clear H
            have hnb125 := NB171_164.out
            have hnc125 := NB164_171.out
            have hnb126 := NB171_178.out
            have hnc126 := NB178_171.out
            obtain ⟨hcz127_0, hcz127_1, hcz127_2, hfz127_0, hfz127_1, hfz127_2⟩ := bc3 BK171.out
            have hnb128 := NB178_164.out
            have hnc128 := NB164_178.out
            obtain ⟨hcz129_0, hcz129_1, hcz129_2, hfz129_0, hfz129_1, hfz129_2⟩ := bc3 BK178.out
            go_wp2_with (first | (go_at_call 22; (with_reducible refine (laws_rFields.calls kj82 t165 t166 _ _ t167 t172 t173 _ _ t174 t179 _ ?side1 ?side2 ?side3 ?side4 A124.out).mono ?_); (case side1 => refine (Kd.R_reads' (e := 3) (base := w.heap.size) (ok := fun k_ => ((((True ∧ some k_ ≠ (.slice Ao61 t134.length co61 : Value).ownBlock) ∧ some k_ ≠ (.slice Ao66 t141.length co66 : Value).ownBlock) ∧ some k_ ≠ (.slice Ao110 t159.length co110 : Value).ownBlock) ∧ some k_ ≠ (.slice Ao122 t174.length co122 : Value).ownBlock)) (n := t167.length) (c := co115) ?_).2.2; exact (pR ((Kd.R_mono (Kd.R_far (p := ⟨gb178, 2, none⟩) (Kd.R_far (p := ⟨gb178, 1, none⟩) (Kd.R_far (p := ⟨gb178, 0, none⟩) (Kd.R_types HO169.out BK178.out (by decide)) (fun _ hk => hk.2) (.int .i64 t172)) (fun _ hk => hk.2) (.int .i64 t173)) (fun _ hk => hk.2) (.slice Ao122 t174.length co122)) (fun _ h_ => h_.1))))); (case side2 => exact (Kd.R_reads' HO169.out).2.1); (case side3 => refine (Kd.R_reads' (e := 3) (base := w.heap.size) (ok := fun k_ => ((((True ∧ some k_ ≠ (.slice Ao61 t134.length co61 : Value).ownBlock) ∧ some k_ ≠ (.slice Ao66 t141.length co66 : Value).ownBlock) ∧ some k_ ≠ (.slice Ao110 t159.length co110 : Value).ownBlock) ∧ some k_ ≠ (.slice Ao115 t167.length co115 : Value).ownBlock)) (n := t174.length) (c := co122) ?_).2.2; exact (pR ((Kd.R_mono (Kd.R_far (p := ⟨gb178, 2, none⟩) (Kd.R_far (p := ⟨gb178, 1, none⟩) (Kd.R_far (p := ⟨gb178, 0, none⟩) (Kd.R_types HO176.out BK178.out (by decide)) (fun _ hk => hk.2) (.int .i64 t172)) (fun _ hk => hk.2) (.int .i64 t173)) (fun _ hk => hk.2) (.slice Ao122 t174.length co122)) (fun _ h_ => h_.1))))); (case side4 => exact (Kd.R_reads' HO176.out).2.1); rintro e w130 ⟨rfl, hb⟩; have n0_ := aK (Kd.Q_below (pQ ((Kd.Q_mono (Kd.Q_far (p := ⟨gb178, 2, none⟩) (Kd.Q_far (p := ⟨gb178, 1, none⟩) (Kd.Q_far (p := ⟨gb178, 0, none⟩) (Kd.Q_types HO_139002.out BK178.out (by decide)) (fun _ hk => hk.2) (.int .i64 t172)) (fun _ hk => hk.2) (.int .i64 t173)) (fun _ hk => hk.2) (.slice Ao122 t174.length co122)) (fun _ h_ => h_.1)))) hb); have n1_ := aK (Kd.Q_below (pQ ((Kd.Q_mono (Kd.Q_far (p := ⟨gb178, 2, none⟩) (Kd.Q_far (p := ⟨gb178, 1, none⟩) (Kd.Q_far (p := ⟨gb178, 0, none⟩) (Kd.Q_types HO_146002.out BK178.out (by decide)) (fun _ hk => hk.2) (.int .i64 t172)) (fun _ hk => hk.2) (.int .i64 t173)) (fun _ hk => hk.2) (.slice Ao122 t174.length co122)) (fun _ h_ => h_.1)))) hb); have n2_ := aK (Kd.Q_below (pQ ((Kd.Q_mono (Kd.Q_far (p := ⟨gb178, 2, none⟩) (Kd.Q_far (p := ⟨gb178, 1, none⟩) (Kd.Q_far (p := ⟨gb178, 0, none⟩) (Kd.Q_types HO161.out BK178.out (by decide)) (fun _ hk => hk.2) (.int .i64 t172)) (fun _ hk => hk.2) (.int .i64 t173)) (fun _ hk => hk.2) (.slice Ao122 t174.length co122)) (fun _ h_ => h_.1)))) hb); have n3_ := aK (Kd.R_below (pR ((Kd.R_mono (Kd.R_far (p := ⟨gb178, 2, none⟩) (Kd.R_far (p := ⟨gb178, 1, none⟩) (Kd.R_far (p := ⟨gb178, 0, none⟩) (Kd.R_types HO169.out BK178.out (by decide)) (fun _ hk => hk.2) (.int .i64 t172)) (fun _ hk => hk.2) (.int .i64 t173)) (fun _ hk => hk.2) (.slice Ao122 t174.length co122)) (fun _ h_ => h_.1)))) hb); have n4_ := aK (Kd.R_below (pR ((Kd.R_mono (Kd.R_far (p := ⟨gb178, 2, none⟩) (Kd.R_far (p := ⟨gb178, 1, none⟩) (Kd.R_far (p := ⟨gb178, 0, none⟩) (Kd.R_types HO176.out BK178.out (by decide)) (fun _ hk => hk.2) (.int .i64 t172)) (fun _ hk => hk.2) (.int .i64 t173)) (fun _ hk => hk.2) (.slice Ao122 t174.length co122)) (fun _ h_ => h_.1)))) hb); have n5_ := aK (blk_below (g := gb164) (o := .cells #[.int .i64 t157, .int .i64 t158, .slice Ao110 t159.length co110] 26 (0, 0)) (by refine bk ?_; refine blk_far ?_ NB164_178.out _; refine bk ?_; refine blk_far ?_ NB164_178.out _; refine bk ?_; refine blk_far ?_ NB164_178.out _; refine bk ?_; exact BK164.out) hb); have n6_ := aK (blk_below (g := gb171) (o := .cells #[.int .i64 t165, .int .i64 t166, .slice Ao115 t167.length co115] 26 (0, 0)) (by refine bk ?_; refine blk_far ?_ NB171_178.out _; refine bk ?_; refine blk_far ?_ NB171_178.out _; refine bk ?_; refine blk_far ?_ NB171_178.out _; refine bk ?_; exact BK171.out) hb); have n7_ := aK (blk_below (g := gb178) (o := .cells #[.int .i64 t172, .int .i64 t173, .slice Ao122 t174.length co122] 26 (0, 0)) (by refine bk ?_; refine blk_put (cs := #[.int .i64 t172, .int .i64 t173, .slice none 0 0]) ?_ 2 _ rfl; refine bk ?_; refine blk_put (cs := #[.int .i64 t172, .int .i64 0, .slice none 0 0]) ?_ 1 _ rfl; refine bk ?_; refine blk_put (cs := #[.int .i64 0, .int .i64 0, .slice none 0 0]) ?_ 0 _ rfl; refine bk ?_; exact BK178.out) hb); replace HB := bS HB hb; clear HO_139002 HO_146002 HO161 HO169 HO176 BK164 BK171 BK178; have HO_139002 := n0_; have HO_146002 := n1_; have HO161 := n2_; have HO169 := n3_; have HO176 := n4_; have BK164 := n5_; have BK171 := n6_; have BK178 := n7_; clear n0_ n1_ n2_ n3_ n4_ n5_ n6_ n7_; (try clear hb)))
            go_meet
            case rel => exact ⟨_, (!t179), (by first | rfl | (simp; done) | (simp [*]; done)), H', ⟨by have := HJ6.out; have := HK2.out; have := HJ55.out; have := HK4.out; have := HJ82.out; first | omega | exact Nat.le_refl _⟩, ⟨by (with_reducible repeat (first | apply Kd.Q_alloc | apply Kd.Q_drewN | apply Kd.Q_drew)); exact Kd.Q_mono HO161.out (fun _ hk => hk.1.2)⟩, ⟨Kd.Q_of_R (pR (Kd.R_mono HO169.out (fun _ hk => hk.1.2)))⟩, ⟨by refine bk ?_; exact BK164.out⟩, ⟨by refine bk ?_; exact BK171.out⟩, ⟨pT HB.out⟩⟩
           case rest => as_aux_lemma =>
            clear HC106
            try clear hcz109_0
            try clear hcz109_1
            try clear hcz109_2
            try clear hcz114_0
            try clear hcz114_1
            try clear hcz114_2
            try clear hcz116_0
            try clear hcz116_1
            try clear hcz116_2
            try clear hcz121_0
            try clear hcz121_1
            try clear hcz121_2
            try clear hfz109_0
            try clear hfz109_1
            try clear hfz109_2
            try clear hfz114_0
            try clear hfz114_1
            try clear hfz114_2
            try clear hfz116_0
            try clear hfz116_1
            try clear hfz116_2
            try clear hfz121_0
            try clear hfz121_1
            try clear hfz121_2
            obtain ⟨kq, x195_105, rfl, HA, HJ105, HO_165002, HO_172002, BK164, BK171, HB⟩ := hcut
            cases kq with
            | zero => exact absurd HA.out (by simp [laws_FnPeaks.j5])
            | succ kj105 =>
             have H := HA.out
             clear HA
             simp only [laws_FnPeaks.j5] at H
             by_cases c131 : x195_105 = true
             ·
              subst c131
              have H1 : (some false) = some r := by rw [if_pos rfl] at H; exact H
              clear H
              have H := H1
              clear H1
              obtain rfl := Option.some.inj H
              go_wp2
              go_ret
              exact ⟨by first | rfl | (simp [errW_none, errW_some] <;> rfl) | (simp [*, errW_none, errW_some] <;> rfl), pT HB.out⟩
             replace c131 := Bool.eq_false_iff.mpr c131
             subst c131
             have H1 : (laws_FnPeaks.l2 kj105 l0 t170 0 t157 t158 t159 t165 t166 t167) = some r := by rw [if_neg (show ¬ (false = true) by decide)] at H; exact H
             clear H
             have H := H1
             clear H1
             have H' := Aside0.mk H
             clear H
             go_wp2
             go_loopg [27] kj105 (fun kq v27 w' => ∃ (x27_7 : Int), v27 = .int .i64 x27_7 ∧ Aside0 (laws_FnPeaks.l2 kq l0 t170 x27_7 t157 t158 t159 t165 t166 t167 = some r) ∧ Aside0 (kq ≤ kj105) ∧ Aside0 (Kd.Q (Kd.int .i64) 3 w' w.heap.size (fun k_ => some k_ ≠ ((.slice Ao115 t167.length co115) : Value).ownBlock) (.slice Ao110 t159.length co110) t159) ∧ Aside0 (Kd.Q (Kd.int .i64) 3 w' w.heap.size (fun k_ => some k_ ≠ ((.slice Ao110 t159.length co110) : Value).ownBlock) (.slice Ao115 t167.length co115) t167) ∧ Aside0 (w'.heap[gb164]? = some (.cells #[.int .i64 t157, .int .i64 t158, (.slice Ao110 t159.length co110)] 26 (0, 0))) ∧ Aside0 (w'.heap[gb171]? = some (.cells #[.int .i64 t165, .int .i64 t166, (.slice Ao115 t167.length co115)] 26 (0, 0))) ∧ Aside0 (Below w.heap.size w w'))
             case atStart => exact ⟨(0), (by first | rfl | (simp; done) | (simp [*]; done)), H', ⟨Nat.le_refl _⟩, ⟨by (with_reducible repeat (first | apply Kd.Q_alloc | apply Kd.Q_drewN | apply Kd.Q_drew)); exact HO_165002.out⟩, ⟨by (with_reducible repeat (first | apply Kd.Q_alloc | apply Kd.Q_drewN | apply Kd.Q_drew)); exact HO_172002.out⟩, ⟨by refine bk ?_; exact BK164.out⟩, ⟨by refine bk ?_; exact BK171.out⟩, ⟨pT HB.out⟩⟩
             case round => as_aux_lemma =>
              clear H'
              obtain ⟨x27_7, rfl, HA, HK7, HO_165002, HO_172002, BK164, BK171, HB⟩ := hrel
              cases gk with
              | zero => exact absurd HA.out (by simp [laws_FnPeaks.l2])
              | succ k7 =>
               have H := HA.out
               clear HA
               simp only [laws_FnPeaks.l2] at H
               have HC132 := Aside0.mk H
               clear H
               go_upto_region 33 with (fail)
               go_cut [203] (fun v203 wc => ∃ (kq : Nat) (x203_131 : Bool), v203 = .bool x203_131 ∧ Aside0 (laws_FnPeaks.j7 kq l0 t170 x27_7 x203_131 t157 t158 t159 t165 t166 t167 = some r) ∧ Aside0 (kq ≤ k7) ∧ Aside0 (Kd.Q (Kd.int .i64) 3 wc w.heap.size (fun k_ => some k_ ≠ ((.slice Ao115 t167.length co115) : Value).ownBlock) (.slice Ao110 t159.length co110) t159) ∧ Aside0 (Kd.Q (Kd.int .i64) 3 wc w.heap.size (fun k_ => some k_ ≠ ((.slice Ao110 t159.length co110) : Value).ownBlock) (.slice Ao115 t167.length co115) t167) ∧ Aside0 (wc.heap[gb164]? = some (.cells #[.int .i64 t157, .int .i64 t158, (.slice Ao110 t159.length co110)] 26 (0, 0))) ∧ Aside0 (wc.heap[gb171]? = some (.cells #[.int .i64 t165, .int .i64 t166, (.slice Ao115 t167.length co115)] 26 (0, 0))) ∧ Aside0 (Below w.heap.size w wc))
               case first => as_aux_lemma =>
                have H := HC132.out
                clear HC132
                by_cases c133 : x27_7 < (t159.length : Int)
                ·
                 rw [if_pos c133] at H
                 have c133b0 : decide (x27_7 < (t159.length : Int)) = true := decide_eq_true c133
                 clear c133
                 (first | rw [c133b0] | (simp only [i64_w, i32_w]; rw [c133b0]) | skip)
                 have H' := Aside0.mk H
                 clear H
                 have hnb134 := NB164_171.out
                 have hnc134 := NB171_164.out
                 obtain ⟨hcz135_0, hcz135_1, hcz135_2, hfz135_0, hfz135_1, hfz135_2⟩ := bc3 BK164.out
                 go_wp2
                 go_meet
                 case rel => exact ⟨_, (t170), (by first | rfl | (simp; done) | (simp [*]; done)), H', ⟨by have := HJ6.out; have := HK2.out; have := HJ55.out; have := HK4.out; have := HJ82.out; have := HJ105.out; have := HK7.out; first | omega | exact Nat.le_refl _⟩, ⟨by (with_reducible repeat (first | apply Kd.Q_alloc | apply Kd.Q_drewN | apply Kd.Q_drew)); exact HO_165002.out⟩, ⟨by (with_reducible repeat (first | apply Kd.Q_alloc | apply Kd.Q_drewN | apply Kd.Q_drew)); exact HO_172002.out⟩, ⟨by refine bk ?_; exact BK164.out⟩, ⟨by refine bk ?_; exact BK171.out⟩, ⟨pT HB.out⟩⟩
                rw [if_neg c133] at H
                have c133b0 : decide (x27_7 < (t159.length : Int)) = false := decide_eq_false c133
                clear c133
                (first | rw [c133b0] | (simp only [i64_w, i32_w]; rw [c133b0]) | skip)
                have H' := Aside0.mk H
                clear H
                have hnb136 := NB164_171.out
                have hnc136 := NB171_164.out
                obtain ⟨hcz137_0, hcz137_1, hcz137_2, hfz137_0, hfz137_1, hfz137_2⟩ := bc3 BK164.out
                go_wp2
                go_meet
                case rel => exact ⟨_, (false), (by first | rfl | (simp; done) | (simp [*]; done)), H', ⟨by have := HJ6.out; have := HK2.out; have := HJ55.out; have := HK4.out; have := HJ82.out; have := HJ105.out; have := HK7.out; first | omega | exact Nat.le_refl _⟩, ⟨by (with_reducible repeat (first | apply Kd.Q_alloc | apply Kd.Q_drewN | apply Kd.Q_drew)); exact HO_165002.out⟩, ⟨by (with_reducible repeat (first | apply Kd.Q_alloc | apply Kd.Q_drewN | apply Kd.Q_drew)); exact HO_172002.out⟩, ⟨by refine bk ?_; exact BK164.out⟩, ⟨by refine bk ?_; exact BK171.out⟩, ⟨pT HB.out⟩⟩
               case rest => as_aux_lemma =>
                clear HC132
                obtain ⟨kq, x203_131, rfl, HA, HJ131, HO_165002, HO_172002, BK164, BK171, HB⟩ := hcut
                cases kq with
                | zero => exact absurd HA.out (by simp [laws_FnPeaks.j7])
                | succ kj131 =>
                 have H := HA.out
                 clear HA
                 simp only [laws_FnPeaks.j7] at H
                 by_cases c138 : x203_131 = true
                 ·
                  subst c138
                  have H1 : (if 0 ≤ x27_7 then (if x27_7 < (t167.length : Int) then (if x27_7 < (t159.length : Int) then (if (rd t167 x27_7) < (rd t159 x27_7) then (some false) else (laws_FnPeaks.l2 kj131 l0 t170 (wrap64 (x27_7 + 1)) t157 t158 t159 t165 t166 t167)) else (none)) else (none)) else (none)) = some r := by rw [if_pos rfl] at H; exact H
                  clear H
                  have H := H1
                  clear H1
                  by_cases c139 : 0 ≤ x27_7
                  ·
                   rw [if_pos c139] at H
                   have c139b0 : decide (0 ≤ x27_7) = true := decide_eq_true c139
                   clear c139
                   by_cases c140 : x27_7 < (t167.length : Int)
                   ·
                    rw [if_pos c140] at H
                    have c140b0 : decide (x27_7 < (t167.length : Int)) = true := decide_eq_true c140
                    clear c140
                    by_cases c141 : x27_7 < (t159.length : Int)
                    ·
                     rw [if_pos c141] at H
                     have c141b0 : decide (x27_7 < (t159.length : Int)) = true := decide_eq_true c141
                     clear c141
                     by_cases c142 : (rd t167 x27_7) < (rd t159 x27_7)
                     ·
                      rw [if_pos c142] at H
                      have c142b0 : decide ((rd t167 x27_7) < (rd t159 x27_7)) = true := decide_eq_true c142
                      clear c142
                      obtain rfl := Option.some.inj H
                      have hnb143 := NB171_164.out
                      have hnc143 := NB164_171.out
                      obtain ⟨hcz144_0, hcz144_1, hcz144_2, hfz144_0, hfz144_1, hfz144_2⟩ := bc3 BK171.out
                      have p180 : 0 ≤ (x27_7 : Int) := of_decide_eq_true (by first | (with_reducible assumption) | assumption)
                      have q180 : x27_7 < (t167.length : Int) := of_decide_eq_true (by first | (with_reducible assumption) | assumption)
                      obtain ⟨ad180, e180, hx180_0⟩ := Kd.at_int (Kd.Q_reads' HO_172002.out).2.2 x27_7 p180 q180
                      cases e180
                      replace p180 := eq_true p180
                      replace q180 := eq_true q180
                      obtain ⟨hcz145_0, hcz145_1, hcz145_2, hfz145_0, hfz145_1, hfz145_2⟩ := bc3 BK164.out
                      have p181 : 0 ≤ (x27_7 : Int) := of_decide_eq_true (by first | (with_reducible assumption) | assumption)
                      have q181 : x27_7 < (t159.length : Int) := of_decide_eq_true (by first | (with_reducible assumption) | assumption)
                      obtain ⟨ad181, e181, hx181_0⟩ := Kd.at_int (Kd.Q_reads' HO_165002.out).2.2 x27_7 p181 q181
                      cases e181
                      replace p181 := eq_true p181
                      replace q181 := eq_true q181
                      go_wp2
                      repeat (go_quiet (fail); try go_wp2)
                      go_ret
                      exact ⟨by first | rfl | (simp [errW_none, errW_some] <;> rfl) | (simp [*, errW_none, errW_some] <;> rfl), pT HB.out⟩
                     rw [if_neg c142] at H
                     have c142b0 : decide ((rd t167 x27_7) < (rd t159 x27_7)) = false := decide_eq_false c142
                     clear c142
                     have H' := Aside0.mk H
                     clear H
                     have hnb146 := NB171_164.out
                     have hnc146 := NB164_171.out
                     obtain ⟨hcz147_0, hcz147_1, hcz147_2, hfz147_0, hfz147_1, hfz147_2⟩ := bc3 BK171.out
                     have p180 : 0 ≤ (x27_7 : Int) := of_decide_eq_true (by first | (with_reducible assumption) | assumption)
                     have q180 : x27_7 < (t167.length : Int) := of_decide_eq_true (by first | (with_reducible assumption) | assumption)
                     obtain ⟨ad180, e180, hx180_0⟩ := Kd.at_int (Kd.Q_reads' HO_172002.out).2.2 x27_7 p180 q180
                     cases e180
                     replace p180 := eq_true p180
                     replace q180 := eq_true q180
                     obtain ⟨hcz148_0, hcz148_1, hcz148_2, hfz148_0, hfz148_1, hfz148_2⟩ := bc3 BK164.out
                     have p181 : 0 ≤ (x27_7 : Int) := of_decide_eq_true (by first | (with_reducible assumption) | assumption)
                     have q181 : x27_7 < (t159.length : Int) := of_decide_eq_true (by first | (with_reducible assumption) | assumption)
                     obtain ⟨ad181, e181, hx181_0⟩ := Kd.at_int (Kd.Q_reads' HO_165002.out).2.2 x27_7 p181 q181
                     cases e181
                     replace p181 := eq_true p181
                     replace q181 := eq_true q181
                     go_wp2
                     repeat (go_quiet (fail); try go_wp2)
                     go_roundg kj131
                     case measure => have := HJ6.out; have := HK2.out; have := HJ55.out; have := HK4.out; have := HJ82.out; have := HJ105.out; have := HK7.out; have := HJ131.out; omega
                     case rel => exact ⟨(wrap64 (x27_7 + 1)), (by first | rfl | (simp; done) | (simp [*]; done)), H', ⟨by have := HJ6.out; have := HK2.out; have := HJ55.out; have := HK4.out; have := HJ82.out; have := HJ105.out; have := HK7.out; have := HJ131.out; omega⟩, ⟨by (with_reducible repeat (first | apply Kd.Q_alloc | apply Kd.Q_drewN | apply Kd.Q_drew)); exact HO_165002.out⟩, ⟨by (with_reducible repeat (first | apply Kd.Q_alloc | apply Kd.Q_drewN | apply Kd.Q_drew)); exact HO_172002.out⟩, ⟨by refine bk ?_; exact BK164.out⟩, ⟨by refine bk ?_; exact BK171.out⟩, ⟨pT HB.out⟩⟩
                    rw [if_neg c141] at H
                    exact absurd H (by simp)
                   rw [if_neg c140] at H
                   exact absurd H (by simp)
                  rw [if_neg c139] at H
                  exact absurd H (by simp)
                 replace c138 := Bool.eq_false_iff.mpr c138
                 subst c138
                 have H1 : ((spec_DrawSmoothChange.f kj131 l0).bind fun bt182 => ((impl_SmoothChange.f kj131 bt182.1 bt182.2.1 bt182.2.2.1 bt182.2.2.2).bind fun bt189 => ((spec_SmoothChange.f kj131 bt182.1 bt182.2.1 bt182.2.2.1 bt182.2.2.2).bind fun bt191 => (if bt189.1 = bt191.1 then (if (bt189.2 == bt191.2) = true then (some (decide (bt189.1 ≥ 0))) else (some false)) else (some false))))) = some r := by rw [if_neg (show ¬ (false = true) by decide)] at H; exact H
                 clear H
                 have H := H1
                 clear H1
                 replace H := Option.bind_eq_some_iff.mp H
                 obtain ⟨⟨t182, t183, t184, t187⟩, A1490, H⟩ := H
                 replace H : ((impl_SmoothChange.f kj131 t182 t183 t184 t187).bind fun bt189 => ((spec_SmoothChange.f kj131 t182 t183 t184 t187).bind fun bt191 => (if bt189.1 = bt191.1 then (if (bt189.2 == bt191.2) = true then (some (decide (bt189.1 ≥ 0))) else (some false)) else (some false)))) = some r := H
                 have A149 := Aside0.mk A1490
                 clear A1490
                 replace H := Option.bind_eq_some_iff.mp H
                 obtain ⟨⟨t189, t190⟩, A1500, H⟩ := H
                 replace H : ((spec_SmoothChange.f kj131 t182 t183 t184 t187).bind fun bt191 => (if t189 = bt191.1 then (if (t190 == bt191.2) = true then (some (decide (t189 ≥ 0))) else (some false)) else (some false))) = some r := H
                 have A150 := Aside0.mk A1500
                 clear A1500
                 replace H := Option.bind_eq_some_iff.mp H
                 obtain ⟨⟨t191, t192⟩, A1510, H⟩ := H
                 replace H : (if t189 = t191 then (if (t190 == t192) = true then (some (decide (t189 ≥ 0))) else (some false)) else (some false)) = some r := H
                 have A151 := Aside0.mk A1510
                 clear A1510
                 by_cases c152 : t189 = t191
                 ·
                  rw [if_pos c152] at H
                  have c152b0 : (t189 == t191) = true := beq_iff_eq.mpr c152
                  have c152b1 : (t189 != t191) = false := bne_eq_false_iff_eq.mpr c152
                  clear c152
                  by_cases c153 : (t190 == t192) = true
                  ·
                   rw [if_pos c153] at H
                   have c153b0 : (t190 == t192) = true := c153
                   (try (have c153b1 : decide (t190 = t192) = true := by simpa using c153))
                   (try (have c153b2 : (t190 == t192) = true := by simpa using c153))
                   clear c153
                   obtain rfl := Option.some.inj H
                   go_wp2_with (first | (go_at_call 39; (with_reducible refine (spec_DrawSmoothChange.calls kj131 _ _ l0 t182 t183 t184 t187 _ ?side1 ?side2 A149.out).mono ?_); (case side1 => exact pC (Kd.C_below HR0.out HB.out)); (case side2 => exact HC0.out); rintro e w154 ⟨v185, rfl, ho0, hb⟩; have n0_ := aK (Kd.Q_elder' (pQ HO_165002.out) (Kd.Q_base ho0) hb); have n1_ := aK (Kd.Q_elder' (pQ HO_172002.out) (Kd.Q_base ho0) hb); have HO186 := aK (Kd.Q_lower (Kd.Q_new' (Kd.Q_new' ho0 (Kd.Q_lt (pQ HO_165002.out))) (Kd.Q_lt (pQ HO_172002.out))) (below_size (pS HB.out))); replace HB := bS HB hb; clear HO_165002 HO_172002; have HO_165002 := n0_; have HO_172002 := n1_; clear n0_ n1_; (try clear hb); (try clear ho0)) | ((with_reducible refine gate_dst (N := 28) rfl ?_); refine bxe (cs := #[.int .i64 0, .int .i64 0, .slice none 0 0]) (t := 26) ?_; intro gb188 hg w155 hbox hb; have n0_ := aK (Kd.Q_below (pQ HO_165002.out) hb); have n1_ := aK (Kd.Q_below (pQ HO_172002.out) hb); have n2_ := aK (Kd.Q_below (pQ HO186.out) hb); have BK188 := aK (hbox); have GW188 := aK (gE hg (pS HB.out)); have GE188 := aK (gE hg (pS HB.out)); replace HB := bS HB hb; clear HO_165002 HO_172002 HO186; have HO_165002 := n0_; have HO_172002 := n1_; have HO186 := n2_; clear n0_ n1_ n2_ hb hbox hg; obtain ⟨hcz156_0, hcz156_1, hcz156_2, hfz156_0, hfz156_1, hfz156_2⟩ := bc3 BK188.out; obtain ⟨Ao157, co157, eo157, _⟩ := Kd.Q_slice HO186.out; subst eo157) | (go_at_call 40; (with_reducible refine (impl_SmoothChange.calls kj131 t182 t183 _ _ t184 t187 t189 t190 _ ?side1 ?side2 A150.out).mono ?_); (case side1 => refine (Kd.Q_reads' (e := 3) (base := w.heap.size) (ok := fun k_ => ((True ∧ some k_ ≠ (.slice Ao110 t159.length co110 : Value).ownBlock) ∧ some k_ ≠ (.slice Ao115 t167.length co115 : Value).ownBlock)) (n := t184.length) (c := co157) ?_).2.2; exact (pQ ((Kd.Q_mono (Kd.Q_far (p := ⟨gb188, 2, none⟩) (Kd.Q_far (p := ⟨gb188, 1, none⟩) (Kd.Q_far (p := ⟨gb188, 0, none⟩) (Kd.Q_types HO186.out BK188.out (by decide)) (fun _ hk => hk.2) (.int .i64 t182)) (fun _ hk => hk.2) (.int .i64 t183)) (fun _ hk => hk.2) (.slice Ao157 t184.length co157)) (fun _ h_ => h_.1))))); (case side2 => exact (Kd.Q_reads' HO186.out).2.1); rintro e w158 ⟨rfl, hb⟩; have n0_ := aK (Kd.Q_below (pQ ((Kd.Q_mono (Kd.Q_far (p := ⟨gb188, 2, none⟩) (Kd.Q_far (p := ⟨gb188, 1, none⟩) (Kd.Q_far (p := ⟨gb188, 0, none⟩) (Kd.Q_types HO_165002.out BK188.out (by decide)) (fun _ hk => hk.2) (.int .i64 t182)) (fun _ hk => hk.2) (.int .i64 t183)) (fun _ hk => hk.2) (.slice Ao157 t184.length co157)) (fun _ h_ => h_.1)))) hb); have n1_ := aK (Kd.Q_below (pQ ((Kd.Q_mono (Kd.Q_far (p := ⟨gb188, 2, none⟩) (Kd.Q_far (p := ⟨gb188, 1, none⟩) (Kd.Q_far (p := ⟨gb188, 0, none⟩) (Kd.Q_types HO_172002.out BK188.out (by decide)) (fun _ hk => hk.2) (.int .i64 t182)) (fun _ hk => hk.2) (.int .i64 t183)) (fun _ hk => hk.2) (.slice Ao157 t184.length co157)) (fun _ h_ => h_.1)))) hb); have n2_ := aK (Kd.Q_below (pQ ((Kd.Q_mono (Kd.Q_far (p := ⟨gb188, 2, none⟩) (Kd.Q_far (p := ⟨gb188, 1, none⟩) (Kd.Q_far (p := ⟨gb188, 0, none⟩) (Kd.Q_types HO186.out BK188.out (by decide)) (fun _ hk => hk.2) (.int .i64 t182)) (fun _ hk => hk.2) (.int .i64 t183)) (fun _ hk => hk.2) (.slice Ao157 t184.length co157)) (fun _ h_ => h_.1)))) hb); have n3_ := aK (blk_below (g := gb188) (o := .cells #[.int .i64 t182, .int .i64 t183, .slice Ao157 t184.length co157] 26 (0, 0)) (by refine bk ?_; refine blk_put (cs := #[.int .i64 t182, .int .i64 t183, .slice none 0 0]) ?_ 2 _ rfl; refine bk ?_; refine blk_put (cs := #[.int .i64 t182, .int .i64 0, .slice none 0 0]) ?_ 1 _ rfl; refine bk ?_; refine blk_put (cs := #[.int .i64 0, .int .i64 0, .slice none 0 0]) ?_ 0 _ rfl; refine bk ?_; exact BK188.out) hb); replace HB := bS HB hb; clear HO_165002 HO_172002 HO186 BK188; have HO_165002 := n0_; have HO_172002 := n1_; have HO186 := n2_; have BK188 := n3_; clear n0_ n1_ n2_ n3_; (try clear hb); obtain ⟨hcz159_0, hcz159_1, hcz159_2, hfz159_0, hfz159_1, hfz159_2⟩ := bc3 BK188.out) | (go_at_call 41; (with_reducible refine (spec_SmoothChange.calls kj131 t182 t183 _ _ t184 t187 t191 t192 _ ?side1 ?side2 A151.out).mono ?_); (case side1 => repeat (first | exact (Kd.Q_reads' HO186.out).2.2 | (with_reducible refine Kd.C_alloc ?_ _) | (with_reducible refine Kd.C_drewN ?_ _) | (with_reducible refine Kd.C_drew ?_))); (case side2 => exact (Kd.Q_reads' HO186.out).2.1); rintro e w160 ⟨rfl, hb⟩; have n0_ := aK (Kd.Q_below (pQ HO_165002.out) hb); have n1_ := aK (Kd.Q_below (pQ HO_172002.out) hb); have n2_ := aK (Kd.Q_below (pQ HO186.out) hb); replace HB := bS HB hb; clear HO_165002 HO_172002 HO186; have HO_165002 := n0_; have HO_172002 := n1_; have HO186 := n2_; clear n0_ n1_ n2_; (try clear hb)))
                   go_ret
                   exact ⟨by first | rfl | (simp [errW_none, errW_some] <;> rfl) | (simp [*, errW_none, errW_some] <;> rfl), pT HB.out⟩
                  rw [if_neg c153] at H
                  have c153b0 : (t190 == t192) = false := by simpa using c153
                  (try (have c153b1 : decide (t190 = t192) = false := by simpa using c153))
                  (try (have c153b2 : (t190 == t192) = false := by simpa using c153))
                  (try (have c153b3 : ¬ (t190 = t192) := by simpa using c153))
                  clear c153
                  obtain rfl := Option.some.inj H
                  go_wp2_with (first | (go_at_call 39; (with_reducible refine (spec_DrawSmoothChange.calls kj131 _ _ l0 t182 t183 t184 t187 _ ?side1 ?side2 A149.out).mono ?_); (case side1 => exact pC (Kd.C_below HR0.out HB.out)); (case side2 => exact HC0.out); rintro e w161 ⟨v185, rfl, ho0, hb⟩; have n0_ := aK (Kd.Q_elder' (pQ HO_165002.out) (Kd.Q_base ho0) hb); have n1_ := aK (Kd.Q_elder' (pQ HO_172002.out) (Kd.Q_base ho0) hb); have HO186 := aK (Kd.Q_lower (Kd.Q_new' (Kd.Q_new' ho0 (Kd.Q_lt (pQ HO_165002.out))) (Kd.Q_lt (pQ HO_172002.out))) (below_size (pS HB.out))); replace HB := bS HB hb; clear HO_165002 HO_172002; have HO_165002 := n0_; have HO_172002 := n1_; clear n0_ n1_; (try clear hb); (try clear ho0)) | ((with_reducible refine gate_dst (N := 28) rfl ?_); refine bxe (cs := #[.int .i64 0, .int .i64 0, .slice none 0 0]) (t := 26) ?_; intro gb188 hg w162 hbox hb; have n0_ := aK (Kd.Q_below (pQ HO_165002.out) hb); have n1_ := aK (Kd.Q_below (pQ HO_172002.out) hb); have n2_ := aK (Kd.Q_below (pQ HO186.out) hb); have BK188 := aK (hbox); have GW188 := aK (gE hg (pS HB.out)); have GE188 := aK (gE hg (pS HB.out)); replace HB := bS HB hb; clear HO_165002 HO_172002 HO186; have HO_165002 := n0_; have HO_172002 := n1_; have HO186 := n2_; clear n0_ n1_ n2_ hb hbox hg; obtain ⟨hcz163_0, hcz163_1, hcz163_2, hfz163_0, hfz163_1, hfz163_2⟩ := bc3 BK188.out; obtain ⟨Ao164, co164, eo164, _⟩ := Kd.Q_slice HO186.out; subst eo164) | (go_at_call 40; (with_reducible refine (impl_SmoothChange.calls kj131 t182 t183 _ _ t184 t187 t189 t190 _ ?side1 ?side2 A150.out).mono ?_); (case side1 => refine (Kd.Q_reads' (e := 3) (base := w.heap.size) (ok := fun k_ => ((True ∧ some k_ ≠ (.slice Ao110 t159.length co110 : Value).ownBlock) ∧ some k_ ≠ (.slice Ao115 t167.length co115 : Value).ownBlock)) (n := t184.length) (c := co164) ?_).2.2; exact (pQ ((Kd.Q_mono (Kd.Q_far (p := ⟨gb188, 2, none⟩) (Kd.Q_far (p := ⟨gb188, 1, none⟩) (Kd.Q_far (p := ⟨gb188, 0, none⟩) (Kd.Q_types HO186.out BK188.out (by decide)) (fun _ hk => hk.2) (.int .i64 t182)) (fun _ hk => hk.2) (.int .i64 t183)) (fun _ hk => hk.2) (.slice Ao164 t184.length co164)) (fun _ h_ => h_.1))))); (case side2 => exact (Kd.Q_reads' HO186.out).2.1); rintro e w165 ⟨rfl, hb⟩; have n0_ := aK (Kd.Q_below (pQ ((Kd.Q_mono (Kd.Q_far (p := ⟨gb188, 2, none⟩) (Kd.Q_far (p := ⟨gb188, 1, none⟩) (Kd.Q_far (p := ⟨gb188, 0, none⟩) (Kd.Q_types HO_165002.out BK188.out (by decide)) (fun _ hk => hk.2) (.int .i64 t182)) (fun _ hk => hk.2) (.int .i64 t183)) (fun _ hk => hk.2) (.slice Ao164 t184.length co164)) (fun _ h_ => h_.1)))) hb); have n1_ := aK (Kd.Q_below (pQ ((Kd.Q_mono (Kd.Q_far (p := ⟨gb188, 2, none⟩) (Kd.Q_far (p := ⟨gb188, 1, none⟩) (Kd.Q_far (p := ⟨gb188, 0, none⟩) (Kd.Q_types HO_172002.out BK188.out (by decide)) (fun _ hk => hk.2) (.int .i64 t182)) (fun _ hk => hk.2) (.int .i64 t183)) (fun _ hk => hk.2) (.slice Ao164 t184.length co164)) (fun _ h_ => h_.1)))) hb); have n2_ := aK (Kd.Q_below (pQ ((Kd.Q_mono (Kd.Q_far (p := ⟨gb188, 2, none⟩) (Kd.Q_far (p := ⟨gb188, 1, none⟩) (Kd.Q_far (p := ⟨gb188, 0, none⟩) (Kd.Q_types HO186.out BK188.out (by decide)) (fun _ hk => hk.2) (.int .i64 t182)) (fun _ hk => hk.2) (.int .i64 t183)) (fun _ hk => hk.2) (.slice Ao164 t184.length co164)) (fun _ h_ => h_.1)))) hb); have n3_ := aK (blk_below (g := gb188) (o := .cells #[.int .i64 t182, .int .i64 t183, .slice Ao164 t184.length co164] 26 (0, 0)) (by refine bk ?_; refine blk_put (cs := #[.int .i64 t182, .int .i64 t183, .slice none 0 0]) ?_ 2 _ rfl; refine bk ?_; refine blk_put (cs := #[.int .i64 t182, .int .i64 0, .slice none 0 0]) ?_ 1 _ rfl; refine bk ?_; refine blk_put (cs := #[.int .i64 0, .int .i64 0, .slice none 0 0]) ?_ 0 _ rfl; refine bk ?_; exact BK188.out) hb); replace HB := bS HB hb; clear HO_165002 HO_172002 HO186 BK188; have HO_165002 := n0_; have HO_172002 := n1_; have HO186 := n2_; have BK188 := n3_; clear n0_ n1_ n2_ n3_; (try clear hb); obtain ⟨hcz166_0, hcz166_1, hcz166_2, hfz166_0, hfz166_1, hfz166_2⟩ := bc3 BK188.out) | (go_at_call 41; (with_reducible refine (spec_SmoothChange.calls kj131 t182 t183 _ _ t184 t187 t191 t192 _ ?side1 ?side2 A151.out).mono ?_); (case side1 => repeat (first | exact (Kd.Q_reads' HO186.out).2.2 | (with_reducible refine Kd.C_alloc ?_ _) | (with_reducible refine Kd.C_drewN ?_ _) | (with_reducible refine Kd.C_drew ?_))); (case side2 => exact (Kd.Q_reads' HO186.out).2.1); rintro e w167 ⟨rfl, hb⟩; have n0_ := aK (Kd.Q_below (pQ HO_165002.out) hb); have n1_ := aK (Kd.Q_below (pQ HO_172002.out) hb); have n2_ := aK (Kd.Q_below (pQ HO186.out) hb); replace HB := bS HB hb; clear HO_165002 HO_172002 HO186; have HO_165002 := n0_; have HO_172002 := n1_; have HO186 := n2_; clear n0_ n1_ n2_; (try clear hb)))
                  go_ret
                  exact ⟨by first | rfl | (simp [errW_none, errW_some] <;> rfl) | (simp [*, errW_none, errW_some] <;> rfl), pT HB.out⟩
                 rw [if_neg c152] at H
                 have c152b0 : (t189 == t191) = false := beq_eq_false_iff_ne.mpr c152
                 have c152b1 : (t189 != t191) = true := bne_iff_ne.mpr c152
                 obtain rfl := Option.some.inj H
                 go_wp2_with (first | (go_at_call 39; (with_reducible refine (spec_DrawSmoothChange.calls kj131 _ _ l0 t182 t183 t184 t187 _ ?side1 ?side2 A149.out).mono ?_); (case side1 => exact pC (Kd.C_below HR0.out HB.out)); (case side2 => exact HC0.out); rintro e w168 ⟨v185, rfl, ho0, hb⟩; have n0_ := aK (Kd.Q_elder' (pQ HO_165002.out) (Kd.Q_base ho0) hb); have n1_ := aK (Kd.Q_elder' (pQ HO_172002.out) (Kd.Q_base ho0) hb); have HO186 := aK (Kd.Q_lower (Kd.Q_new' (Kd.Q_new' ho0 (Kd.Q_lt (pQ HO_165002.out))) (Kd.Q_lt (pQ HO_172002.out))) (below_size (pS HB.out))); replace HB := bS HB hb; clear HO_165002 HO_172002; have HO_165002 := n0_; have HO_172002 := n1_; clear n0_ n1_; (try clear hb); (try clear ho0)) | ((with_reducible refine gate_dst (N := 28) rfl ?_); refine bxe (cs := #[.int .i64 0, .int .i64 0, .slice none 0 0]) (t := 26) ?_; intro gb188 hg w169 hbox hb; have n0_ := aK (Kd.Q_below (pQ HO_165002.out) hb); have n1_ := aK (Kd.Q_below (pQ HO_172002.out) hb); have n2_ := aK (Kd.Q_below (pQ HO186.out) hb); have BK188 := aK (hbox); have GW188 := aK (gE hg (pS HB.out)); have GE188 := aK (gE hg (pS HB.out)); replace HB := bS HB hb; clear HO_165002 HO_172002 HO186; have HO_165002 := n0_; have HO_172002 := n1_; have HO186 := n2_; clear n0_ n1_ n2_ hb hbox hg; obtain ⟨hcz170_0, hcz170_1, hcz170_2, hfz170_0, hfz170_1, hfz170_2⟩ := bc3 BK188.out; obtain ⟨Ao171, co171, eo171, _⟩ := Kd.Q_slice HO186.out; subst eo171) | (go_at_call 40; (with_reducible refine (impl_SmoothChange.calls kj131 t182 t183 _ _ t184 t187 t189 t190 _ ?side1 ?side2 A150.out).mono ?_); (case side1 => refine (Kd.Q_reads' (e := 3) (base := w.heap.size) (ok := fun k_ => ((True ∧ some k_ ≠ (.slice Ao110 t159.length co110 : Value).ownBlock) ∧ some k_ ≠ (.slice Ao115 t167.length co115 : Value).ownBlock)) (n := t184.length) (c := co171) ?_).2.2; exact (pQ ((Kd.Q_mono (Kd.Q_far (p := ⟨gb188, 2, none⟩) (Kd.Q_far (p := ⟨gb188, 1, none⟩) (Kd.Q_far (p := ⟨gb188, 0, none⟩) (Kd.Q_types HO186.out BK188.out (by decide)) (fun _ hk => hk.2) (.int .i64 t182)) (fun _ hk => hk.2) (.int .i64 t183)) (fun _ hk => hk.2) (.slice Ao171 t184.length co171)) (fun _ h_ => h_.1))))); (case side2 => exact (Kd.Q_reads' HO186.out).2.1); rintro e w172 ⟨rfl, hb⟩; have n0_ := aK (Kd.Q_below (pQ ((Kd.Q_mono (Kd.Q_far (p := ⟨gb188, 2, none⟩) (Kd.Q_far (p := ⟨gb188, 1, none⟩) (Kd.Q_far (p := ⟨gb188, 0, none⟩) (Kd.Q_types HO_165002.out BK188.out (by decide)) (fun _ hk => hk.2) (.int .i64 t182)) (fun _ hk => hk.2) (.int .i64 t183)) (fun _ hk => hk.2) (.slice Ao171 t184.length co171)) (fun _ h_ => h_.1)))) hb); have n1_ := aK (Kd.Q_below (pQ ((Kd.Q_mono (Kd.Q_far (p := ⟨gb188, 2, none⟩) (Kd.Q_far (p := ⟨gb188, 1, none⟩) (Kd.Q_far (p := ⟨gb188, 0, none⟩) (Kd.Q_types HO_172002.out BK188.out (by decide)) (fun _ hk => hk.2) (.int .i64 t182)) (fun _ hk => hk.2) (.int .i64 t183)) (fun _ hk => hk.2) (.slice Ao171 t184.length co171)) (fun _ h_ => h_.1)))) hb); have n2_ := aK (Kd.Q_below (pQ ((Kd.Q_mono (Kd.Q_far (p := ⟨gb188, 2, none⟩) (Kd.Q_far (p := ⟨gb188, 1, none⟩) (Kd.Q_far (p := ⟨gb188, 0, none⟩) (Kd.Q_types HO186.out BK188.out (by decide)) (fun _ hk => hk.2) (.int .i64 t182)) (fun _ hk => hk.2) (.int .i64 t183)) (fun _ hk => hk.2) (.slice Ao171 t184.length co171)) (fun _ h_ => h_.1)))) hb); have n3_ := aK (blk_below (g := gb188) (o := .cells #[.int .i64 t182, .int .i64 t183, .slice Ao171 t184.length co171] 26 (0, 0)) (by refine bk ?_; refine blk_put (cs := #[.int .i64 t182, .int .i64 t183, .slice none 0 0]) ?_ 2 _ rfl; refine bk ?_; refine blk_put (cs := #[.int .i64 t182, .int .i64 0, .slice none 0 0]) ?_ 1 _ rfl; refine bk ?_; refine blk_put (cs := #[.int .i64 0, .int .i64 0, .slice none 0 0]) ?_ 0 _ rfl; refine bk ?_; exact BK188.out) hb); replace HB := bS HB hb; clear HO_165002 HO_172002 HO186 BK188; have HO_165002 := n0_; have HO_172002 := n1_; have HO186 := n2_; have BK188 := n3_; clear n0_ n1_ n2_ n3_; (try clear hb); obtain ⟨hcz173_0, hcz173_1, hcz173_2, hfz173_0, hfz173_1, hfz173_2⟩ := bc3 BK188.out) | (go_at_call 41; (with_reducible refine (spec_SmoothChange.calls kj131 t182 t183 _ _ t184 t187 t191 t192 _ ?side1 ?side2 A151.out).mono ?_); (case side1 => repeat (first | exact (Kd.Q_reads' HO186.out).2.2 | (with_reducible refine Kd.C_alloc ?_ _) | (with_reducible refine Kd.C_drewN ?_ _) | (with_reducible refine Kd.C_drew ?_))); (case side2 => exact (Kd.Q_reads' HO186.out).2.1); rintro e w174 ⟨rfl, hb⟩; have n0_ := aK (Kd.Q_below (pQ HO_165002.out) hb); have n1_ := aK (Kd.Q_below (pQ HO_172002.out) hb); have n2_ := aK (Kd.Q_below (pQ HO186.out) hb); replace HB := bS HB hb; clear HO_165002 HO_172002 HO186; have HO_165002 := n0_; have HO_172002 := n1_; have HO186 := n2_; clear n0_ n1_ n2_; (try clear hb)))
                 go_ret
                 exact ⟨by first | rfl | (simp [errW_none, errW_some] <;> rfl) | (simp [*, errW_none, errW_some] <;> rfl), pT HB.out⟩
def laws_FnPeaks.Pure : Prop := ∀ (l0 : List Int), (l0.length ≤ 9223372036854775807 ∧ ∀ z0 ∈ l0, (Lit.int .u8 z0).wf = true) → l0.length * 1 ≤ 140737488351232 → ∃ k, laws_FnPeaks.f k l0 = some true
end Go.Proofs.Ythekngnkajjhnaa.P
