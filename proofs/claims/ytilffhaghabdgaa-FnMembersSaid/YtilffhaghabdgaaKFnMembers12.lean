/- Texts of the claim FnMembers, merged: part 12 of 13: the program's and the reference's functions as Lean functions, the walks that show it, and plain lemmas; no conditions. -/
import Derived.Test.YtilffhaghabdgaaKFnMembers3
import Derived.Test.YtilffhaghabdgaaKFnMembers6
import Derived.Test.YtilffhaghabdgaaKFnMembers7
import Derived.Test.YtilffhaghabdgaaKFnMembers9
import Derived.Test.YtilffhaghabdgaaKFnMembers10
import Derived.Test.YtilffhaghabdgaaKFnMembers11
import Derived.Test.YtilffhaghabdgaaKFnMembers2
import Derived.ProofKit
import Derived.OpenShut
import Derived.Deep.Slices
import Derived.Deep.Strs
import Derived.Deep.Fields
import Derived.Lib.SmallJoins
import Derived.Laws.BitsLemmas
import Derived.Laws.Bits64
import Derived.Laws.CopyOwn
import Derived.Deep.RegionLaw
import Derived.Shelf.RegionOpenPlain
import Derived.Deep.OwnRows
import Derived.RangeFuncRecord
import Derived.Deep.DeepMust
namespace Go.Proofs.Ytilffhaghabdgaa.P
open Go.RowKit Go.Proofs.YtilffhaghabdgaaW.PrintWords Go.Proofs.YtilffhaghabdgaaW.PrintLast Go.Proofs.YtilffhaghabdgaaW.PrintMore
attribute [local go_sem] max2_int min2_int max_two min_two max_three min_three max_four min_four
set_option linter.unusedVariables false
set_option linter.unusedSimpArgs false
set_option maxHeartbeats 8000000
set_option maxRecDepth 100000
mutual
def laws_FnMembers.j0 : Nat → List Int → List (S29) → Int → Bool → Bool → Option (Bool)
 | 0, _, _, _, _, _ => none
 | k + 1, x0, x3, x5, x7, x73 => if x73 = true then (some false) else (if x7 = true then (if 0 ≤ x5 then (if x5 < (x3.length : Int) then ((impl_NearestMember.f k x3 ((rd_T29 x3 x5).f0) ((rd_T29 x3 x5).f1) ((rd_T29 x3 x5).f2)).bind fun bt118 => (if bt118.2.2 = true then (if bt118.2.1 = 0 then (laws_FnMembers.j1 k x0) else (some false)) else (some false))) else (none)) else (none)) else (laws_FnMembers.j1 k x0))
def laws_FnMembers.j1 : Nat → List Int → Option (Bool)
 | 0, _ => none
 | k + 1, x0 => (spec_DrawRankOf.f k x0).bind fun bt121 => ((impl_RankOf.f k bt121.1 bt121.2.1 bt121.2.2.1 bt121.2.2.2).bind fun bt127 => ((spec_RankOf.f k bt121.1 bt121.2.1 bt121.2.2.1 bt121.2.2.2).bind fun bt130 => (if bt127.1 = bt130.1 then (if bt127.2.1 = bt130.2.1 then (laws_FnMembers.j2 k x0 bt121.1 bt121.2.1 bt121.2.2.1 bt121.2.2.2 bt127.1 bt127.2.1 bt127.2.2 (bt127.2.2 != bt130.2.2)) else (laws_FnMembers.j2 k x0 bt121.1 bt121.2.1 bt121.2.2.1 bt121.2.2.2 bt127.1 bt127.2.1 bt127.2.2 true)) else (laws_FnMembers.j2 k x0 bt121.1 bt121.2.1 bt121.2.2.1 bt121.2.2.2 bt127.1 bt127.2.1 bt127.2.2 true))))
def laws_FnMembers.j2 : Nat → List Int → List (S29) → Int → Int → Int → Int → Int → Bool → Bool → Option (Bool)
 | 0, _, _, _, _, _, _, _, _, _ => none
 | k + 1, x0, x14, x15, x16, x17, x18, x19, x20, x128 => if x128 = true then (some false) else (if x20 = true then ((impl_ChanceAt.f k x14 x15 x16 x17).bind fun bt133 => (if bt133.2.2 = true then (if (wrap64 (x18 + bt133.1)) = bt133.2.1 then (if x19 > bt133.1 then (some false) else (if bt133.2.1 > (x14.length : Int) then (some false) else (laws_FnMembers.j3 k x0))) else (some false)) else (some false))) else (laws_FnMembers.j3 k x0))
def laws_FnMembers.j3 : Nat → List Int → Option (Bool)
 | 0, _ => none
 | k + 1, x0 => (spec_DrawWithoutMember.f k x0).bind fun bt136 => ((impl_WithoutMember.f k bt136.1 bt136.2).bind fun bt140 => ((spec_WithoutMember.f k bt136.1 bt136.2).bind fun bt144 => (if (bt140.2 != bt144.2) = true then (laws_FnMembers.j4 k x0 bt140.1 bt144.1 true) else (if (bt140.1.length : Int) = (bt144.1.length : Int) then (if bt140.2 = true then (laws_FnMembers.j4 k x0 bt140.1 bt144.1 ((bt140.1.length : Int) != (wrap64 ((bt136.1.length : Int) - 1)))) else (laws_FnMembers.j4 k x0 bt140.1 bt144.1 false)) else (laws_FnMembers.j4 k x0 bt140.1 bt144.1 true)))))
def laws_FnMembers.j4 : Nat → List Int → List (S29) → List (S29) → Bool → Option (Bool)
 | 0, _, _, _, _ => none
 | k + 1, x0, x29, x31, x196 => if x196 = true then (some false) else (laws_FnMembers.l0 k x0 x29 x31 0)
def laws_FnMembers.l0 : Nat → List Int → List (S29) → List (S29) → Int → Option (Bool)
 | 0, _, _, _, _ => none
 | k + 1, x0, x29, x31, x33 => if x33 < (x29.length : Int) then (if 0 ≤ x33 then (if x33 < (x31.length : Int) then ((laws_rFields.f k ((rd_T29 x29 x33).f0) ((rd_T29 x29 x33).f1) ((rd_T29 x29 x33).f2) ((rd_T29 x31 x33).f0) ((rd_T29 x31 x33).f1) ((rd_T29 x31 x33).f2)).bind fun t150 => (if t150 = true then (laws_FnMembers.l0 k x0 x29 x31 (wrap64 (x33 + 1))) else (some false))) else (none)) else (none)) else ((spec_DrawAgreeingCells.f k x0).bind fun bt151 => ((impl_AgreeingCells.f k bt151.1 bt151.2).bind fun bt155 => ((spec_AgreeingCells.f k bt151.1 bt151.2).bind fun bt157 => (if bt155.1 = bt157.1 then (if (bt155.2 == bt157.2) = true then (if bt155.2 = true then (if 0 < (bt151.1.length : Int) then (some (decide (bt155.1 ≤ (((rd_T29 bt151.1 0).f2).length : Int)))) else (none)) else (some true)) else (some false)) else (some false)))))
end
def laws_FnMembers.f (k : Nat) (l0 : List Int) : Option (Bool) := (laws_rBig.f l0).bind fun t101 => (if t101 = true then (some true) else ((spec_DrawNearestMember.f k l0).bind fun bt102 => ((impl_NearestMember.f k bt102.1 bt102.2.1 bt102.2.2.1 bt102.2.2.2).bind fun bt111 => ((spec_NearestMember.f k bt102.1 bt102.2.1 bt102.2.2.1 bt102.2.2.2).bind fun bt114 => (if bt111.1 = bt114.1 then (if bt111.2.1 = bt114.2.1 then (laws_FnMembers.j0 k l0 bt102.1 bt111.1 bt111.2.2 (bt111.2.2 != bt114.2.2)) else (laws_FnMembers.j0 k l0 bt102.1 bt111.1 bt111.2.2 true)) else (laws_FnMembers.j0 k l0 bt102.1 bt111.1 bt111.2.2 true))))))
def laws_FnMembers.T29 : Bool × List (List Nat × List Nat) := (true, [([], []), ([], []), ([0, 1], [0, 1]), ([2], [2]), ([], []), ([], []), ([4, 5], [4, 5]), ([6], [6]), ([3, 7], [3, 7]), ([8], [8])])
def laws_FnMembers.B29 : List Nat := [0, 0, 3, 7, 0, 0, 48, 112, 255, 511]
theorem laws_FnMembers.tab29 : rtab .any (opsOf Try.f8 29) = laws_FnMembers.T29 := by kernel_rfl
theorem laws_FnMembers.bits29 : waitsOk laws_FnMembers.T29.2 laws_FnMembers.B29 = true := by kernel_rfl
theorem laws_FnMembers.calls (k : Nat) (A0 : Option Addr) (c0 : Nat) (l0 : List Int) (r : Bool) (w : World) (hr0 : Kd.C (Kd.int .u8) w A0 l0.length l0) (hc0 : l0.length ≤ c0) (h : laws_FnMembers.f k l0 = some r) :
  Calls Try.prog 8 #[.slice A0 l0.length c0] w fun e w' => e = .returned (.bool r) ∧ Below w.heap.size w w' := by
 have hu29 := Try.underlying29
 have HR0 := Aside0.mk hr0
 have HC0 := Aside0.mk hc0
 clear hr0 hc0
 have HB := aK (Below.refl w.heap.size w)
 have H : ((laws_rBig.f l0).bind fun t101 => (if t101 = true then (some true) else ((spec_DrawNearestMember.f k l0).bind fun bt102 => ((impl_NearestMember.f k bt102.1 bt102.2.1 bt102.2.2.1 bt102.2.2.2).bind fun bt111 => ((spec_NearestMember.f k bt102.1 bt102.2.1 bt102.2.2.1 bt102.2.2.2).bind fun bt114 => (if bt111.1 = bt114.1 then (if bt111.2.1 = bt114.2.1 then (laws_FnMembers.j0 k l0 bt102.1 bt111.1 bt111.2.2 (bt111.2.2 != bt114.2.2)) else (laws_FnMembers.j0 k l0 bt102.1 bt111.1 bt111.2.2 true)) else (laws_FnMembers.j0 k l0 bt102.1 bt111.1 bt111.2.2 true))))))) = some r := h
 clear h
 replace H := Option.bind_eq_some_iff.mp H
 obtain ⟨t101, A20, H⟩ := H
 replace H : (if t101 = true then (some true) else ((spec_DrawNearestMember.f k l0).bind fun bt102 => ((impl_NearestMember.f k bt102.1 bt102.2.1 bt102.2.2.1 bt102.2.2.2).bind fun bt111 => ((spec_NearestMember.f k bt102.1 bt102.2.1 bt102.2.2.1 bt102.2.2.2).bind fun bt114 => (if bt111.1 = bt114.1 then (if bt111.2.1 = bt114.2.1 then (laws_FnMembers.j0 k l0 bt102.1 bt111.1 bt111.2.2 (bt111.2.2 != bt114.2.2)) else (laws_FnMembers.j0 k l0 bt102.1 bt111.1 bt111.2.2 true)) else (laws_FnMembers.j0 k l0 bt102.1 bt111.1 bt111.2.2 true)))))) = some r := H
 have A2 := Aside0.mk A20
 clear A20
 by_cases c3 : t101 = true
 ·
  subst c3
  have H1 : (some true) = some r := by rw [if_pos rfl] at H; exact H
  clear H
  have H := H1
  clear H1
  obtain rfl := Option.some.inj H
  go_enter Try.func8, Try.ntmps8
  go_wp2_with (first | ((with_reducible refine gate_callee (f := 43) rfl ?_); refine gl (some 41) Try.func43 #[.slice A0 l0.length c0] ?_; (with_reducible refine (laws_rBig.calls _ _ l0 true _ ?side1 ?side2 A2.out).mono ?_); (case side1 => exact pC HR0.out); (case side2 => exact HC0.out); rintro e w' ⟨rfl, ⟨nd, rfl⟩⟩; refine ⟨_, rfl, ?_⟩))
  go_ret
  exact ⟨er, pT HB.out⟩
 replace c3 := Bool.eq_false_iff.mpr c3
 subst c3
 have H1 : ((spec_DrawNearestMember.f k l0).bind fun bt102 => ((impl_NearestMember.f k bt102.1 bt102.2.1 bt102.2.2.1 bt102.2.2.2).bind fun bt111 => ((spec_NearestMember.f k bt102.1 bt102.2.1 bt102.2.2.1 bt102.2.2.2).bind fun bt114 => (if bt111.1 = bt114.1 then (if bt111.2.1 = bt114.2.1 then (laws_FnMembers.j0 k l0 bt102.1 bt111.1 bt111.2.2 (bt111.2.2 != bt114.2.2)) else (laws_FnMembers.j0 k l0 bt102.1 bt111.1 bt111.2.2 true)) else (laws_FnMembers.j0 k l0 bt102.1 bt111.1 bt111.2.2 true))))) = some r := by rw [if_neg (show ¬ (false = true) by decide)] at H; exact H
 clear H
 have H := H1
 clear H1
 replace H := Option.bind_eq_some_iff.mp H
 obtain ⟨⟨t102, t105, t106, t107⟩, A40, H⟩ := H
 replace H : ((impl_NearestMember.f k t102 t105 t106 t107).bind fun bt111 => ((spec_NearestMember.f k t102 t105 t106 t107).bind fun bt114 => (if bt111.1 = bt114.1 then (if bt111.2.1 = bt114.2.1 then (laws_FnMembers.j0 k l0 t102 bt111.1 bt111.2.2 (bt111.2.2 != bt114.2.2)) else (laws_FnMembers.j0 k l0 t102 bt111.1 bt111.2.2 true)) else (laws_FnMembers.j0 k l0 t102 bt111.1 bt111.2.2 true)))) = some r := H
 have A4 := Aside0.mk A40
 clear A40
 replace H := Option.bind_eq_some_iff.mp H
 obtain ⟨⟨t111, t112, t113⟩, A50, H⟩ := H
 replace H : ((spec_NearestMember.f k t102 t105 t106 t107).bind fun bt114 => (if t111 = bt114.1 then (if t112 = bt114.2.1 then (laws_FnMembers.j0 k l0 t102 t111 t113 (t113 != bt114.2.2)) else (laws_FnMembers.j0 k l0 t102 t111 t113 true)) else (laws_FnMembers.j0 k l0 t102 t111 t113 true))) = some r := H
 have A5 := Aside0.mk A50
 clear A50
 replace H := Option.bind_eq_some_iff.mp H
 obtain ⟨⟨t114, t115, t116⟩, A60, H⟩ := H
 replace H : (if t111 = t114 then (if t112 = t115 then (laws_FnMembers.j0 k l0 t102 t111 t113 (t113 != t116)) else (laws_FnMembers.j0 k l0 t102 t111 t113 true)) else (laws_FnMembers.j0 k l0 t102 t111 t113 true)) = some r := H
 have A6 := Aside0.mk A60
 clear A60
 have HC7 := Aside0.mk H
 clear H
 go_enter Try.func8, Try.ntmps8
 go_upto_region 6 with (first | ((with_reducible refine gate_callee (f := 43) rfl ?_); refine gl (some 41) Try.func43 #[.slice A0 l0.length c0] ?_; (with_reducible refine (laws_rBig.calls _ _ l0 false _ ?side1 ?side2 A2.out).mono ?_); (case side1 => exact pC HR0.out); (case side2 => exact HC0.out); rintro e w' ⟨rfl, ⟨nd, rfl⟩⟩; refine ⟨_, rfl, ?_⟩) | ((with_reducible refine gate_callee (f := 44) rfl ?_); refine gl (some 44) Try.func44 #[.slice A0 l0.length c0] ?_; (with_reducible refine (spec_DrawNearestMember.calls k _ _ l0 t102 t105 t106 t107 _ ?side1 ?side2 A4.out).mono ?_); (case side1 => exact pC HR0.out); (case side2 => exact HC0.out); rintro e w8 ⟨v103, v108, rfl, ho0, ho1, hb⟩; refine ⟨_, rfl, ?_⟩; have HO104 := aK (Kd.V_lower (Kd.V_mono (ok' := fun k_ => some k_ ≠ (v108 : Value).ownBlock) ho0 (fun k_ hk_ => hk_.2)) (below_size (pS HB.out))); have HO109 := aK (Kd.Q_lower (Kd.Q_mono (ok' := fun k_ => True) ho1 (fun _ hk_ => trivial)) (below_size (pS HB.out))); replace HB := bS HB hb; (try clear hb); (try clear hb2); (try clear hk); (try clear hi); (try clear ho0); (try clear ho1)) | ((with_reducible refine gate_dst (N := 4) rfl ?_); (try (refine gate_guard (by rfl) ?_; dsimp only)); refine bxe (cs := #[.int .i64 0, .int .i64 0, .slice none 0 0]) (t := 29) ?_; intro gb110 hg w9 hbox hb; have n0_ := aK (Kd.V_below (Kd.V_elderB (by (with_reducible repeat (first | apply Kd.V_alloc | apply Kd.V_drewN | apply Kd.V_drew)); exact HO104.out) gb110 (Nat.le_of_eq hg.symm)) hb); have n1_ := aK (Kd.Q_below (pQ HO109.out) hb); have BK110 := aK (hbox); have GW110 := aK (gE hg (pS HB.out)); have GE110 := GW110; replace HB := bS HB hb; clear HO104 HO109; have HO104 := n0_; have HO109 := n1_; clear n0_ n1_ hb hbox hg; obtain ⟨hcz10_0, hcz10_1, hcz10_2, hfz10_0, hfz10_1, hfz10_2⟩ := bc3 BK110.out; obtain ⟨Ao11, co11, eo11, _⟩ := Kd.Q_slice HO109.out; subst eo11) | ((with_reducible refine gate_store (t := 29) (p := 4) rfl ?_); refine store_event (t := 29) (p := 4) (v := ?vo_w12) (w1 := (((w9.setCell ⟨gb110, 0, none⟩ (.int .i64 t105)).setCell ⟨gb110, 1, none⟩ (.int .i64 t106)).setCell ⟨gb110, 2, none⟩ (.slice Ao11 t107.length co11))) ?hg ?ho ?hn ?hr ?_; (case ho => rfl); (case hg => rfl); (case hn => rfl); (case hr => first | (go_simp; done) | (go_simp; rfl)); intro w12 hw; have n0_ : Aside0 (Kd.V k29 29 w12 w.heap.size (fun k_ => some k_ ≠ (.slice Ao11 t107.length co11 : Value).ownBlock ∧ k_ ≠ gb110) v103 t102) := ⟨(by rw [hw]; exact (by (with_reducible repeat (first | apply Kd.V_alloc | apply Kd.V_drewN | apply Kd.V_drew)); exact Kd.V_mono (Kd.V_far (p := ⟨gb110, 2, none⟩) (Kd.V_far (p := ⟨gb110, 1, none⟩) (Kd.V_far (p := ⟨gb110, 0, none⟩) (Kd.V_mono HO104.out (fun k_ hk => (⟨hk, hk.2⟩ : _ ∧ k_ ≠ gb110))) (fun _ hk => hk.2) (.int .i64 t105)) (fun _ hk => hk.2) (.int .i64 t106)) (fun _ hk => hk.2) (.slice Ao11 t107.length co11)) (fun _ hk => ⟨hk.1.1, hk.1.2⟩)))⟩; have n1_ : Aside0 (Kd.Q (Kd.int .i64) 3 w12 w.heap.size (fun _ => True) (.slice Ao11 t107.length co11) t107) := ⟨(by rw [hw]; exact (pQ (Kd.Q_mono (qF3 HO109.out BK110.out (.int .i64 t105) (.int .i64 t106) (.slice Ao11 t107.length co11)) (fun _ h => trivial))))⟩; have n2_ : Aside0 (w12.heap[gb110]? = some (.cells #[.int .i64 t105, .int .i64 t106, .slice Ao11 t107.length co11] 29 (0, 0))) := ⟨(by rw [hw]; exact (by refine bk ?_; refine blk_put (cs := #[.int .i64 t105, .int .i64 t106, .slice none 0 0]) ?_ 2 _ rfl; refine bk ?_; refine blk_put (cs := #[.int .i64 t105, .int .i64 0, .slice none 0 0]) ?_ 1 _ rfl; refine bk ?_; refine blk_put (cs := #[.int .i64 0, .int .i64 0, .slice none 0 0]) ?_ 0 _ rfl; refine bk ?_; exact BK110.out))⟩; have n3_ : Aside0 (Below w.heap.size w w12) := ⟨(by rw [hw]; exact (pS HB.out))⟩; clear hw HO104 HO109 BK110 HB; have HO104 := n0_; have HO109 := n1_; have BK110 := n2_; have HB := n3_; clear n0_ n1_ n2_ n3_; obtain ⟨hcz13_0, hcz13_1, hcz13_2, hfz13_0, hfz13_1, hfz13_2⟩ := bc3 BK110.out; obtain ⟨Ao14, co14, eo14⟩ := Kd.V_slice HO104.out; subst eo14) | ((with_reducible refine gate_callee (f := 45) rfl ?_); refine gl (some 50) Try.func45 #[.slice Ao14 t102.length co14, .agg #[.int .i64 t105, .int .i64 t106, .slice Ao11 t107.length co11]] ?_; (with_reducible refine (impl_NearestMember.calls k (fun k_ => (some k_ ≠ (.slice Ao11 t107.length co11 : Value).ownBlock ∧ k_ ≠ gb110)) _ _ t102 t105 t106 (fun k_ => some k_ = (.slice Ao11 t107.length co11 : Value).ownBlock) _ _ t107 t111 t112 t113 _ ?side1 ?side2 A5.out).mono ?_); (case side1 => exact HO104.out); (case side2 => exact Kd.Q_V (Kd.Q_tight rfl (Kd.Q_types (HO109.out) BK110.out (by decide)))); rintro e w15 ⟨rfl, hb⟩; refine ⟨_, rfl, ?_⟩; have n0_ := aK (Kd.V_below (by (with_reducible repeat (first | apply Kd.V_alloc | apply Kd.V_drewN | apply Kd.V_drew)); exact HO104.out) hb); have n1_ := aK (Kd.Q_below (pQ HO109.out) hb); replace BK110 := bB BK110 hb; replace HB := bS HB hb; clear HO104 HO109; have HO104 := n0_; have HO109 := n1_; clear n0_ n1_; (try clear hb); (try clear hb2); (try clear hk); (try clear hi); obtain ⟨hcz16_0, hcz16_1, hcz16_2, hfz16_0, hfz16_1, hfz16_2⟩ := bc3 BK110.out) | ((with_reducible refine gate_callee (f := 46) rfl ?_); refine gl (some 57) Try.func46 #[.slice Ao14 t102.length co14, .agg #[.int .i64 t105, .int .i64 t106, .slice Ao11 t107.length co11]] ?_; (with_reducible refine (spec_NearestMember.calls k _ _ t102 t105 t106 _ _ t107 t114 t115 t116 _ ?side1 ?side2 ?side3 ?side4 A6.out).mono ?_); (case side1 => exact pC (Kd.V_reads' HO104.out).2.2); (case side2 => exact (Kd.V_reads' HO104.out).2.1); (case side3 => exact pC (Kd.Q_reads' HO109.out).2.2); (case side4 => exact (Kd.Q_reads' HO109.out).2.1); rintro e w17 ⟨rfl, hb⟩; refine ⟨_, rfl, ?_⟩; have n0_ := aK (Kd.V_below (by (with_reducible repeat (first | apply Kd.V_alloc | apply Kd.V_drewN | apply Kd.V_drew)); exact HO104.out) hb); have n1_ := aK (Kd.Q_below (pQ HO109.out) hb); replace BK110 := bB BK110 hb; replace HB := bS HB hb; clear HO104 HO109; have HO104 := n0_; have HO109 := n1_; clear n0_ n1_; (try clear hb); (try clear hb2); (try clear hk); (try clear hi)))
 (try simp only [Act.put, List.setIfInBounds_toArray, List.set_cons_zero, List.set_cons_succ])
 go_cut [73] (fun v73 wc => ∃ (kq : Nat) (x73_6 : Bool), v73 = .bool x73_6 ∧ Aside0 (laws_FnMembers.j0 kq l0 t102 t111 t113 x73_6 = some r) ∧ Aside0 (kq ≤ k) ∧ Aside0 (Kd.V k29 29 wc w.heap.size (fun k_ => some k_ ≠ ((.slice Ao11 t107.length co11) : Value).ownBlock ∧ k_ ≠ gb110) (.slice Ao14 t102.length co14) t102) ∧ Aside0 (Kd.Q (Kd.int .i64) 3 wc w.heap.size (fun _ => True) (.slice Ao11 t107.length co11) t107) ∧ Aside0 (wc.heap[gb110]? = some (.cells #[.int .i64 t105, .int .i64 t106, (.slice Ao11 t107.length co11)] 29 (0, 0))) ∧ Aside0 (Below w.heap.size w wc))
 case first => as_aux_lemma =>
  have H := HC7.out
  clear HC7
  by_cases c18 : t111 = t114
  ·
   rw [if_pos c18] at H
   have c18b0 : (t111 == t114) = true := beq_iff_eq.mpr c18
   have c18b1 : (t111 != t114) = false := bne_eq_false_iff_eq.mpr c18
   clear c18
   (first | rw [c18b0] | (simp only [i64_w, i32_w]; rw [c18b0]) | skip)
   by_cases c19 : t112 = t115
   ·
    rw [if_pos c19] at H
    have c19b0 : (t112 == t115) = true := beq_iff_eq.mpr c19
    have c19b1 : (t112 != t115) = false := bne_eq_false_iff_eq.mpr c19
    clear c19
    have H' := Aside0.mk H
    clear H
    go_wp2
    go_meet
    case rel => exact ⟨_, ((t113 != t116)), (by first | rfl | (simp; done) | (simp [*]; done)), H', ⟨by first | omega | exact Nat.le_refl _⟩, ⟨by (with_reducible repeat (first | apply Kd.V_alloc | apply Kd.V_drewN | apply Kd.V_drew)); exact HO104.out⟩, ⟨pQ HO109.out⟩, ⟨by refine bk ?_; exact BK110.out⟩, ⟨pT HB.out⟩⟩
   rw [if_neg c19] at H
   have c19b0 : (t112 == t115) = false := beq_eq_false_iff_ne.mpr c19
   have c19b1 : (t112 != t115) = true := bne_iff_ne.mpr c19
   have H' := Aside0.mk H
   clear H
   go_wp2
   go_meet
   case rel => exact ⟨_, (true), (by first | rfl | (simp; done) | (simp [*]; done)), H', ⟨by first | omega | exact Nat.le_refl _⟩, ⟨by (with_reducible repeat (first | apply Kd.V_alloc | apply Kd.V_drewN | apply Kd.V_drew)); exact HO104.out⟩, ⟨pQ HO109.out⟩, ⟨by refine bk ?_; exact BK110.out⟩, ⟨pT HB.out⟩⟩
  rw [if_neg c18] at H
  have c18b0 : (t111 == t114) = false := beq_eq_false_iff_ne.mpr c18
  have c18b1 : (t111 != t114) = true := bne_iff_ne.mpr c18
  (first | rw [c18b0] | (simp only [i64_w, i32_w]; rw [c18b0]) | skip)
  have H' := Aside0.mk H
  clear H
  go_wp2
  go_meet
  case rel => exact ⟨_, (true), (by first | rfl | (simp; done) | (simp [*]; done)), H', ⟨by first | omega | exact Nat.le_refl _⟩, ⟨by (with_reducible repeat (first | apply Kd.V_alloc | apply Kd.V_drewN | apply Kd.V_drew)); exact HO104.out⟩, ⟨pQ HO109.out⟩, ⟨by refine bk ?_; exact BK110.out⟩, ⟨pT HB.out⟩⟩
 case rest => as_aux_lemma =>
  clear HC7
  try clear c1
  try clear p2
  try clear c3
  try clear c4
  try clear c8
  try clear c18
  try clear c18b0
  try clear c18b1
  try clear c19
  try clear c19b0
  try clear c19b1
  try clear hcz10_0
  try clear hcz10_1
  try clear hcz10_2
  try clear hcz13_0
  try clear hcz13_1
  try clear hcz13_2
  try clear hcz16_0
  try clear hcz16_1
  try clear hcz16_2
  try clear hfz10_0
  try clear hfz10_1
  try clear hfz10_2
  try clear hfz13_0
  try clear hfz13_1
  try clear hfz13_2
  try clear hfz16_0
  try clear hfz16_1
  try clear hfz16_2
  obtain ⟨kq, x73_6, rfl, HA, HJ6, HO_3, HO_111002, BK110, HB⟩ := hcut
  cases kq with
  | zero => exact absurd HA.out (by simp [laws_FnMembers.j0])
  | succ kj6 =>
   have H := HA.out
   clear HA
   simp only [laws_FnMembers.j0] at H
   by_cases c20 : x73_6 = true
   ·
    subst c20
    have H1 : (some false) = some r := by rw [if_pos rfl] at H; exact H
    clear H
    have H := H1
    clear H1
    obtain rfl := Option.some.inj H
    go_wp2
    go_ret
    exact ⟨er, pT HB.out⟩
   replace c20 := Bool.eq_false_iff.mpr c20
   subst c20
   have H1 : (if t113 = true then (if 0 ≤ t111 then (if t111 < (t102.length : Int) then ((impl_NearestMember.f kj6 t102 ((rd_T29 t102 t111).f0) ((rd_T29 t102 t111).f1) ((rd_T29 t102 t111).f2)).bind fun bt118 => (if bt118.2.2 = true then (if bt118.2.1 = 0 then (laws_FnMembers.j1 kj6 l0) else (some false)) else (some false))) else (none)) else (none)) else (laws_FnMembers.j1 kj6 l0)) = some r := by rw [if_neg (show ¬ (false = true) by decide)] at H; exact H
   clear H
   have H := H1
   clear H1
   have HC21 := Aside0.mk H
   clear H
   go_upto_if 74 with (fail)
   go_cut [] (fun wc => ∃ (kq : Nat), Aside0 (laws_FnMembers.j1 kq l0 = some r) ∧ Aside0 (kq ≤ kj6) ∧ Aside0 (Kd.Q (Kd.int .i64) 3 wc w.heap.size (fun _ => True) (.slice Ao11 t107.length co11) t107) ∧ Aside0 (wc.heap[gb110]? = some (.cells #[.int .i64 t105, .int .i64 t106, (.slice Ao11 t107.length co11)] 29 (0, 0))) ∧ Aside0 (Below w.heap.size w wc))
   case first => as_aux_lemma =>
    have H := HC21.out
    clear HC21
    by_cases c22 : t113 = true
    ·
     subst c22
     have H1 : (if 0 ≤ t111 then (if t111 < (t102.length : Int) then ((impl_NearestMember.f kj6 t102 ((rd_T29 t102 t111).f0) ((rd_T29 t102 t111).f1) ((rd_T29 t102 t111).f2)).bind fun bt118 => (if bt118.2.2 = true then (if bt118.2.1 = 0 then (laws_FnMembers.j1 kj6 l0) else (some false)) else (some false))) else (none)) else (none)) = some r := by rw [if_pos rfl] at H; exact H
     clear H
     have H := H1
     clear H1
     by_cases c23 : 0 ≤ t111
     ·
      rw [if_pos c23] at H
      have c23b0 : decide (0 ≤ t111) = true := decide_eq_true c23
      clear c23
      (first | rw [c23b0] | (simp only [i64_w, i32_w]; rw [c23b0]) | skip)
      by_cases c24 : t111 < (t102.length : Int)
      ·
       rw [if_pos c24] at H
       have c24b0 : decide (t111 < (t102.length : Int)) = true := decide_eq_true c24
       clear c24
       replace H := Option.bind_eq_some_iff.mp H
       obtain ⟨⟨t118, t119, t120⟩, A250, H⟩ := H
       replace H : (if t120 = true then (if t119 = 0 then (laws_FnMembers.j1 kj6 l0) else (some false)) else (some false)) = some r := H
       have A25 := Aside0.mk A250
       clear A250
       by_cases c26 : t120 = true
       ·
        subst c26
        have H1 : (if t119 = 0 then (laws_FnMembers.j1 kj6 l0) else (some false)) = some r := by rw [if_pos rfl] at H; exact H
        clear H
        have H := H1
        clear H1
        by_cases c27 : t119 = 0
        ·
         rw [if_pos c27] at H
         have c27b0 : (t119 == 0) = true := beq_iff_eq.mpr c27
         have c27b1 : (t119 != 0) = false := bne_eq_false_iff_eq.mpr c27
         clear c27
         have H' := Aside0.mk H
         clear H
         have p117 : 0 ≤ (t111 : Int) := of_decide_eq_true (by first | (with_reducible assumption) | assumption)
         have q117 : t111 < (t102.length : Int) := of_decide_eq_true (by first | (with_reducible assumption) | assumption)
         obtain ⟨ad117, A117_2, c117_2, e117, hx117_0, hx117_1, hx117_2, hl117_2, hi117_2⟩ := at_T29 (Kd.V_reads' HO_3.out).2.2 t111 p117 q117
         cases e117
         obtain ⟨ce117, hce117, hMe117, hcc117⟩ := Kd.V_get HO_3.out z29 t111 p117 (by first | exact q117 | exact of_decide_eq_true (by first | (with_reducible assumption) | assumption) | (have e_ := (Kd.V_reads' HO_3.out).1; omega))
         obtain ⟨ua117_2, uc117_2, rfl, ul117_2, ge117_2⟩ := k29_openF hMe117
         have hv117_2 := hcc117 2 _ rfl
         rw [add_field _ _ 2 (by omega)] at hv117_2
         replace hv117_2 := Option.some.inj (hv117_2.symm.trans hx117_2)
         injection hv117_2 with hva_ hvn_ hvc_
         rw [hva_] at ge117_2
         rw [hvc_] at ul117_2
         have HL117_2 := aK (show Kd.V (Kd.int .i64) 3 _ w.heap.size _ _ ((rd_T29 t102 t111).f2) from Kd.V_mk ul117_2 ge117_2)
         clear hva_ hvn_ hvc_ ge117_2 ul117_2 hcc117 hce117
         have HR117_2 := Aside0.mk hi117_2
         have HC117_2 := Aside0.mk hl117_2
         clear hi117_2 hl117_2
         replace p117 := eq_true p117
         replace q117 := eq_true q117
         go_wp2_with (first | ((with_reducible refine gate_callee (f := 45) rfl ?_); refine gl (some 81) Try.func45 #[.slice (some ad117) t102.length co14, .agg #[.int .i64 ((rd_T29 t102 t111).f0), .int .i64 ((rd_T29 t102 t111).f1), .slice A117_2 ((rd_T29 t102 t111).f2).length c117_2]] ?_; (with_reducible refine (impl_NearestMember.calls kj6 (fun k_ => (some k_ ≠ (.slice Ao11 t107.length co11 : Value).ownBlock ∧ k_ ≠ gb110)) _ _ t102 ((rd_T29 t102 t111).f0) ((rd_T29 t102 t111).f1) (fun k_ => (some k_ ≠ (.slice Ao11 t107.length co11 : Value).ownBlock ∧ k_ ≠ gb110)) _ _ ((rd_T29 t102 t111).f2) t118 t119 true _ ?side1 ?side2 A25.out).mono ?_); (case side1 => exact HO_3.out); (case side2 => exact HL117_2.out); rintro e w28 ⟨rfl, hb⟩; refine ⟨_, rfl, ?_⟩; have n0_ := aK (Kd.V_below (by (with_reducible repeat (first | apply Kd.V_alloc | apply Kd.V_drewN | apply Kd.V_drew)); exact HO_3.out) hb); have n1_ := aK (Kd.Q_below (pQ HO_111002.out) hb); have n2_ := aK (Kd.V_below (by (with_reducible repeat (first | apply Kd.V_alloc | apply Kd.V_drewN | apply Kd.V_drew)); exact HL117_2.out) hb); have n4_ := aK (Kd.C_below (by repeat (first | (with_reducible exact HR117_2.out) | (with_reducible refine Kd.C_alloc ?_ _) | (with_reducible refine Kd.C_drewN ?_ _) | (with_reducible refine Kd.C_drew ?_) | exact HR117_2.out)) hb); replace BK110 := bB BK110 hb; replace HB := bS HB hb; clear HO_3 HO_111002 HL117_2 HR117_2; have HO_3 := n0_; have HO_111002 := n1_; have HL117_2 := n2_; have HR117_2 := n4_; clear n0_ n1_ n2_ n4_; (try clear hb); (try clear hb2); (try clear hk); (try clear hi)))
         go_meet
         case rel => exact ⟨_, H', ⟨by have := HJ6.out; first | omega | exact Nat.le_refl _⟩, ⟨pQ HO_111002.out⟩, ⟨by refine bk ?_; exact BK110.out⟩, ⟨pT HB.out⟩⟩
        rw [if_neg c27] at H
        have c27b0 : (t119 == 0) = false := beq_eq_false_iff_ne.mpr c27
        have c27b1 : (t119 != 0) = true := bne_iff_ne.mpr c27
        obtain rfl := Option.some.inj H
        have p117 : 0 ≤ (t111 : Int) := of_decide_eq_true (by first | (with_reducible assumption) | assumption)
        have q117 : t111 < (t102.length : Int) := of_decide_eq_true (by first | (with_reducible assumption) | assumption)
        obtain ⟨ad117, A117_2, c117_2, e117, hx117_0, hx117_1, hx117_2, hl117_2, hi117_2⟩ := at_T29 (Kd.V_reads' HO_3.out).2.2 t111 p117 q117
        cases e117
        obtain ⟨ce117, hce117, hMe117, hcc117⟩ := Kd.V_get HO_3.out z29 t111 p117 (by first | exact q117 | exact of_decide_eq_true (by first | (with_reducible assumption) | assumption) | (have e_ := (Kd.V_reads' HO_3.out).1; omega))
        obtain ⟨ua117_2, uc117_2, rfl, ul117_2, ge117_2⟩ := k29_openF hMe117
        have hv117_2 := hcc117 2 _ rfl
        rw [add_field _ _ 2 (by omega)] at hv117_2
        replace hv117_2 := Option.some.inj (hv117_2.symm.trans hx117_2)
        injection hv117_2 with hva_ hvn_ hvc_
        rw [hva_] at ge117_2
        rw [hvc_] at ul117_2
        have HL117_2 := aK (show Kd.V (Kd.int .i64) 3 _ w.heap.size _ _ ((rd_T29 t102 t111).f2) from Kd.V_mk ul117_2 ge117_2)
        clear hva_ hvn_ hvc_ ge117_2 ul117_2 hcc117 hce117
        have HR117_2 := Aside0.mk hi117_2
        have HC117_2 := Aside0.mk hl117_2
        clear hi117_2 hl117_2
        replace p117 := eq_true p117
        replace q117 := eq_true q117
        go_wp2_with (first | ((with_reducible refine gate_callee (f := 45) rfl ?_); refine gl (some 81) Try.func45 #[.slice (some ad117) t102.length co14, .agg #[.int .i64 ((rd_T29 t102 t111).f0), .int .i64 ((rd_T29 t102 t111).f1), .slice A117_2 ((rd_T29 t102 t111).f2).length c117_2]] ?_; (with_reducible refine (impl_NearestMember.calls kj6 (fun k_ => (some k_ ≠ (.slice Ao11 t107.length co11 : Value).ownBlock ∧ k_ ≠ gb110)) _ _ t102 ((rd_T29 t102 t111).f0) ((rd_T29 t102 t111).f1) (fun k_ => (some k_ ≠ (.slice Ao11 t107.length co11 : Value).ownBlock ∧ k_ ≠ gb110)) _ _ ((rd_T29 t102 t111).f2) t118 t119 true _ ?side1 ?side2 A25.out).mono ?_); (case side1 => exact HO_3.out); (case side2 => exact HL117_2.out); rintro e w29 ⟨rfl, hb⟩; refine ⟨_, rfl, ?_⟩; have n0_ := aK (Kd.V_below (by (with_reducible repeat (first | apply Kd.V_alloc | apply Kd.V_drewN | apply Kd.V_drew)); exact HO_3.out) hb); have n1_ := aK (Kd.Q_below (pQ HO_111002.out) hb); have n2_ := aK (Kd.V_below (by (with_reducible repeat (first | apply Kd.V_alloc | apply Kd.V_drewN | apply Kd.V_drew)); exact HL117_2.out) hb); have n4_ := aK (Kd.C_below (by repeat (first | (with_reducible exact HR117_2.out) | (with_reducible refine Kd.C_alloc ?_ _) | (with_reducible refine Kd.C_drewN ?_ _) | (with_reducible refine Kd.C_drew ?_) | exact HR117_2.out)) hb); replace BK110 := bB BK110 hb; replace HB := bS HB hb; clear HO_3 HO_111002 HL117_2 HR117_2; have HO_3 := n0_; have HO_111002 := n1_; have HL117_2 := n2_; have HR117_2 := n4_; clear n0_ n1_ n2_ n4_; (try clear hb); (try clear hb2); (try clear hk); (try clear hi)))
        go_ret
        exact ⟨er, pT HB.out⟩
       replace c26 := Bool.eq_false_iff.mpr c26
       subst c26
       have H1 : (some false) = some r := by rw [if_neg (show ¬ (false = true) by decide)] at H; exact H
       clear H
       have H := H1
       clear H1
       obtain rfl := Option.some.inj H
       have p117 : 0 ≤ (t111 : Int) := of_decide_eq_true (by first | (with_reducible assumption) | assumption)
       have q117 : t111 < (t102.length : Int) := of_decide_eq_true (by first | (with_reducible assumption) | assumption)
       obtain ⟨ad117, A117_2, c117_2, e117, hx117_0, hx117_1, hx117_2, hl117_2, hi117_2⟩ := at_T29 (Kd.V_reads' HO_3.out).2.2 t111 p117 q117
       cases e117
       obtain ⟨ce117, hce117, hMe117, hcc117⟩ := Kd.V_get HO_3.out z29 t111 p117 (by first | exact q117 | exact of_decide_eq_true (by first | (with_reducible assumption) | assumption) | (have e_ := (Kd.V_reads' HO_3.out).1; omega))
       obtain ⟨ua117_2, uc117_2, rfl, ul117_2, ge117_2⟩ := k29_openF hMe117
       have hv117_2 := hcc117 2 _ rfl
       rw [add_field _ _ 2 (by omega)] at hv117_2
       replace hv117_2 := Option.some.inj (hv117_2.symm.trans hx117_2)
       injection hv117_2 with hva_ hvn_ hvc_
       rw [hva_] at ge117_2
       rw [hvc_] at ul117_2
       have HL117_2 := aK (show Kd.V (Kd.int .i64) 3 _ w.heap.size _ _ ((rd_T29 t102 t111).f2) from Kd.V_mk ul117_2 ge117_2)
       clear hva_ hvn_ hvc_ ge117_2 ul117_2 hcc117 hce117
       have HR117_2 := Aside0.mk hi117_2
       have HC117_2 := Aside0.mk hl117_2
       clear hi117_2 hl117_2
       replace p117 := eq_true p117
       replace q117 := eq_true q117
       go_wp2_with (first | ((with_reducible refine gate_callee (f := 45) rfl ?_); refine gl (some 81) Try.func45 #[.slice (some ad117) t102.length co14, .agg #[.int .i64 ((rd_T29 t102 t111).f0), .int .i64 ((rd_T29 t102 t111).f1), .slice A117_2 ((rd_T29 t102 t111).f2).length c117_2]] ?_; (with_reducible refine (impl_NearestMember.calls kj6 (fun k_ => (some k_ ≠ (.slice Ao11 t107.length co11 : Value).ownBlock ∧ k_ ≠ gb110)) _ _ t102 ((rd_T29 t102 t111).f0) ((rd_T29 t102 t111).f1) (fun k_ => (some k_ ≠ (.slice Ao11 t107.length co11 : Value).ownBlock ∧ k_ ≠ gb110)) _ _ ((rd_T29 t102 t111).f2) t118 t119 false _ ?side1 ?side2 A25.out).mono ?_); (case side1 => exact HO_3.out); (case side2 => exact HL117_2.out); rintro e w30 ⟨rfl, hb⟩; refine ⟨_, rfl, ?_⟩; have n0_ := aK (Kd.V_below (by (with_reducible repeat (first | apply Kd.V_alloc | apply Kd.V_drewN | apply Kd.V_drew)); exact HO_3.out) hb); have n1_ := aK (Kd.Q_below (pQ HO_111002.out) hb); have n2_ := aK (Kd.V_below (by (with_reducible repeat (first | apply Kd.V_alloc | apply Kd.V_drewN | apply Kd.V_drew)); exact HL117_2.out) hb); have n4_ := aK (Kd.C_below (by repeat (first | (with_reducible exact HR117_2.out) | (with_reducible refine Kd.C_alloc ?_ _) | (with_reducible refine Kd.C_drewN ?_ _) | (with_reducible refine Kd.C_drew ?_) | exact HR117_2.out)) hb); replace BK110 := bB BK110 hb; replace HB := bS HB hb; clear HO_3 HO_111002 HL117_2 HR117_2; have HO_3 := n0_; have HO_111002 := n1_; have HL117_2 := n2_; have HR117_2 := n4_; clear n0_ n1_ n2_ n4_; (try clear hb); (try clear hb2); (try clear hk); (try clear hi)))
       go_ret
       exact ⟨er, pT HB.out⟩
      rw [if_neg c24] at H
      exact absurd H (by simp)
     rw [if_neg c23] at H
     exact absurd H (by simp)
    replace c22 := Bool.eq_false_iff.mpr c22
    subst c22
    have H1 : (laws_FnMembers.j1 kj6 l0) = some r := by rw [if_neg (show ¬ (false = true) by decide)] at H; exact H
    clear H
    have H := H1
    clear H1
    have H' := Aside0.mk H
    clear H
    go_wp2
    go_meet
    case rel => exact ⟨_, H', ⟨by have := HJ6.out; first | omega | exact Nat.le_refl _⟩, ⟨pQ HO_111002.out⟩, ⟨by refine bk ?_; exact BK110.out⟩, ⟨pT HB.out⟩⟩
   case rest => as_aux_lemma =>
    clear HC21
    try clear c1
    try clear p1
    try clear q1
    try clear hx1
    try clear c2
    try clear p2
    try clear c3
    try clear c4
    try clear c8
    try clear c11
    try clear p11
    try clear q11
    try clear hx11
    try clear c18
    try clear c18b0
    try clear c18b1
    try clear c19
    try clear c19b0
    try clear c19b1
    try clear c20
    try clear c22
    try clear c23
    try clear c23b0
    try clear c24
    try clear c24b0
    try clear c26
    try clear c27
    try clear c27b0
    try clear c27b1
    try clear hcz10_0
    try clear hcz10_1
    try clear hcz10_2
    try clear hcz13_0
    try clear hcz13_1
    try clear hcz13_2
    try clear hcz16_0
    try clear hcz16_1
    try clear hcz16_2
    try clear hfz10_0
    try clear hfz10_1
    try clear hfz10_2
    try clear hfz13_0
    try clear hfz13_1
    try clear hfz13_2
    try clear hfz16_0
    try clear hfz16_1
    try clear hfz16_2
    try clear hx117_0
    try clear hx117_1
    try clear hx117_2
    try clear p117
    try clear p2
    try clear q117
    obtain ⟨kq, HA, HJ20, HO_111002, BK110, HB⟩ := hcut
    cases kq with
    | zero => exact absurd HA.out (by simp [laws_FnMembers.j1])
    | succ kj20 =>
     have H := HA.out
     clear HA
     simp only [laws_FnMembers.j1] at H
     replace H := Option.bind_eq_some_iff.mp H
     obtain ⟨⟨t121, t124, t125, t126⟩, A310, H⟩ := H
     replace H : ((impl_RankOf.f kj20 t121 t124 t125 t126).bind fun bt127 => ((spec_RankOf.f kj20 t121 t124 t125 t126).bind fun bt130 => (if bt127.1 = bt130.1 then (if bt127.2.1 = bt130.2.1 then (laws_FnMembers.j2 kj20 l0 t121 t124 t125 t126 bt127.1 bt127.2.1 bt127.2.2 (bt127.2.2 != bt130.2.2)) else (laws_FnMembers.j2 kj20 l0 t121 t124 t125 t126 bt127.1 bt127.2.1 bt127.2.2 true)) else (laws_FnMembers.j2 kj20 l0 t121 t124 t125 t126 bt127.1 bt127.2.1 bt127.2.2 true)))) = some r := H
     have A31 := Aside0.mk A310
     clear A310
     replace H := Option.bind_eq_some_iff.mp H
     obtain ⟨⟨t127, t128, t129⟩, A320, H⟩ := H
     replace H : ((spec_RankOf.f kj20 t121 t124 t125 t126).bind fun bt130 => (if t127 = bt130.1 then (if t128 = bt130.2.1 then (laws_FnMembers.j2 kj20 l0 t121 t124 t125 t126 t127 t128 t129 (t129 != bt130.2.2)) else (laws_FnMembers.j2 kj20 l0 t121 t124 t125 t126 t127 t128 t129 true)) else (laws_FnMembers.j2 kj20 l0 t121 t124 t125 t126 t127 t128 t129 true))) = some r := H
     have A32 := Aside0.mk A320
     clear A320
     replace H := Option.bind_eq_some_iff.mp H
     obtain ⟨⟨t130, t131, t132⟩, A330, H⟩ := H
     replace H : (if t127 = t130 then (if t128 = t131 then (laws_FnMembers.j2 kj20 l0 t121 t124 t125 t126 t127 t128 t129 (t129 != t132)) else (laws_FnMembers.j2 kj20 l0 t121 t124 t125 t126 t127 t128 t129 true)) else (laws_FnMembers.j2 kj20 l0 t121 t124 t125 t126 t127 t128 t129 true)) = some r := H
     have A33 := Aside0.mk A330
     clear A330
     have HC34 := Aside0.mk H
     clear H
     go_upto_region 15 with (first | ((with_reducible refine gate_callee (f := 47) rfl ?_); refine gl (some 93) Try.func47 #[.slice A0 l0.length c0] ?_; (with_reducible refine (spec_DrawRankOf.calls kj20 _ _ l0 t121 t124 t125 t126 _ ?side1 ?side2 A31.out).mono ?_); (case side1 => exact pC (Kd.C_below HR0.out HB.out)); (case side2 => exact HC0.out); rintro e w35 ⟨v122, rfl, ho0, hb⟩; refine ⟨_, rfl, ?_⟩; have n0_ := aK (Kd.Q_below (pQ HO_111002.out) hb); have HO123 := aK (Kd.V_lower (Kd.V_mono (ok' := fun k_ => some k_ ≠ (.slice Ao11 t107.length co11 : Value).ownBlock ∧ k_ ≠ gb110) ho0 (fun k_ hk_ => ⟨(Kd.fresh' (Kd.Q_lt (pQ HO_111002.out)) k_ hk_), (Kd.freshB (g := gb110) (o := .cells #[.int .i64 t105, .int .i64 t106, .slice Ao11 t107.length co11] 29 (0, 0)) (pB BK110.out) k_ hk_)⟩)) (below_size (pS HB.out))); replace BK110 := bB BK110 hb; replace HB := bS HB hb; clear HO_111002; have HO_111002 := n0_; clear n0_; (try clear hb); (try clear hb2); (try clear hk); (try clear hi); (try clear ho0); obtain ⟨Ao36, co36, eo36⟩ := Kd.V_slice HO123.out; subst eo36) | ((with_reducible refine gate_callee (f := 48) rfl ?_); refine gl (some 103) Try.func48 #[.slice Ao36 t121.length co36, .int .i64 t124, .int .i64 t125, .int .i64 t126] ?_; (with_reducible refine (impl_RankOf.calls kj20 _ _ t121 t124 t125 t126 t127 t128 t129 _ ?side1 ?side2 A32.out).mono ?_); (case side1 => exact pC (Kd.V_reads' HO123.out).2.2); (case side2 => exact (Kd.V_reads' HO123.out).2.1); rintro e w37 ⟨rfl, hb⟩; refine ⟨_, rfl, ?_⟩; have n0_ := aK (Kd.Q_below (pQ HO_111002.out) hb); have n1_ := aK (Kd.V_below (by (with_reducible repeat (first | apply Kd.V_alloc | apply Kd.V_drewN | apply Kd.V_drew)); exact HO123.out) hb); replace BK110 := bB BK110 hb; replace HB := bS HB hb; clear HO_111002 HO123; have HO_111002 := n0_; have HO123 := n1_; clear n0_ n1_; (try clear hb); (try clear hb2); (try clear hk); (try clear hi)) | ((with_reducible refine gate_callee (f := 49) rfl ?_); refine gl (some 112) Try.func49 #[.slice Ao36 t121.length co36, .int .i64 t124, .int .i64 t125, .int .i64 t126] ?_; (with_reducible refine (spec_RankOf.calls kj20 _ _ t121 t124 t125 t126 t130 t131 t132 _ ?side1 ?side2 A33.out).mono ?_); (case side1 => exact pC (Kd.V_reads' HO123.out).2.2); (case side2 => exact (Kd.V_reads' HO123.out).2.1); rintro e w38 ⟨rfl, hb⟩; refine ⟨_, rfl, ?_⟩; have n0_ := aK (Kd.Q_below (pQ HO_111002.out) hb); have n1_ := aK (Kd.V_below (by (with_reducible repeat (first | apply Kd.V_alloc | apply Kd.V_drewN | apply Kd.V_drew)); exact HO123.out) hb); replace BK110 := bB BK110 hb; replace HB := bS HB hb; clear HO_111002 HO123; have HO_111002 := n0_; have HO123 := n1_; clear n0_ n1_; (try clear hb); (try clear hb2); (try clear hk); (try clear hi)))
     (try simp only [Act.put, List.setIfInBounds_toArray, List.set_cons_zero, List.set_cons_succ])
     go_cut [128] (fun v128 wc => ∃ (kq : Nat) (x128_33 : Bool), v128 = .bool x128_33 ∧ Aside0 (laws_FnMembers.j2 kq l0 t121 t124 t125 t126 t127 t128 t129 x128_33 = some r) ∧ Aside0 (kq ≤ kj20) ∧ Aside0 (Kd.V k29 29 wc w.heap.size (fun k_ => some k_ ≠ ((.slice Ao11 t107.length co11) : Value).ownBlock ∧ k_ ≠ gb110) (.slice Ao36 t121.length co36) t121) ∧ Aside0 (Kd.Q (Kd.int .i64) 3 wc w.heap.size (fun _ => True) (.slice Ao11 t107.length co11) t107) ∧ Aside0 (wc.heap[gb110]? = some (.cells #[.int .i64 t105, .int .i64 t106, (.slice Ao11 t107.length co11)] 29 (0, 0))) ∧ Aside0 (Below w.heap.size w wc))
     case first => as_aux_lemma =>
      have H := HC34.out
      clear HC34
      by_cases c39 : t127 = t130
      ·
       rw [if_pos c39] at H
       have c39b0 : (t127 == t130) = true := beq_iff_eq.mpr c39
       have c39b1 : (t127 != t130) = false := bne_eq_false_iff_eq.mpr c39
       clear c39
       (first | rw [c39b0] | (simp only [i64_w, i32_w]; rw [c39b0]) | skip)
       by_cases c40 : t128 = t131
       ·
        rw [if_pos c40] at H
        have c40b0 : (t128 == t131) = true := beq_iff_eq.mpr c40
        have c40b1 : (t128 != t131) = false := bne_eq_false_iff_eq.mpr c40
        clear c40
        have H' := Aside0.mk H
        clear H
        go_wp2
        go_meet
        case rel => exact ⟨_, ((t129 != t132)), (by first | rfl | (simp; done) | (simp [*]; done)), H', ⟨by have := HJ6.out; have := HJ20.out; first | omega | exact Nat.le_refl _⟩, ⟨by (with_reducible repeat (first | apply Kd.V_alloc | apply Kd.V_drewN | apply Kd.V_drew)); exact HO123.out⟩, ⟨pQ HO_111002.out⟩, ⟨by refine bk ?_; exact BK110.out⟩, ⟨pT HB.out⟩⟩
       rw [if_neg c40] at H
       have c40b0 : (t128 == t131) = false := beq_eq_false_iff_ne.mpr c40
       have c40b1 : (t128 != t131) = true := bne_iff_ne.mpr c40
       have H' := Aside0.mk H
       clear H
       go_wp2
       go_meet
       case rel => exact ⟨_, (true), (by first | rfl | (simp; done) | (simp [*]; done)), H', ⟨by have := HJ6.out; have := HJ20.out; first | omega | exact Nat.le_refl _⟩, ⟨by (with_reducible repeat (first | apply Kd.V_alloc | apply Kd.V_drewN | apply Kd.V_drew)); exact HO123.out⟩, ⟨pQ HO_111002.out⟩, ⟨by refine bk ?_; exact BK110.out⟩, ⟨pT HB.out⟩⟩
      rw [if_neg c39] at H
      have c39b0 : (t127 == t130) = false := beq_eq_false_iff_ne.mpr c39
      have c39b1 : (t127 != t130) = true := bne_iff_ne.mpr c39
      (first | rw [c39b0] | (simp only [i64_w, i32_w]; rw [c39b0]) | skip)
      have H' := Aside0.mk H
      clear H
      go_wp2
      go_meet
      case rel => exact ⟨_, (true), (by first | rfl | (simp; done) | (simp [*]; done)), H', ⟨by have := HJ6.out; have := HJ20.out; first | omega | exact Nat.le_refl _⟩, ⟨by (with_reducible repeat (first | apply Kd.V_alloc | apply Kd.V_drewN | apply Kd.V_drew)); exact HO123.out⟩, ⟨pQ HO_111002.out⟩, ⟨by refine bk ?_; exact BK110.out⟩, ⟨pT HB.out⟩⟩
     case rest => as_aux_lemma =>
      clear HC34
      try clear c1
      try clear p1
      try clear q1
      try clear hx1
      try clear c2
      try clear p2
      try clear c3
      try clear c4
      try clear c8
      try clear c11
      try clear p11
      try clear q11
      try clear hx11
      try clear c18
      try clear c18b0
      try clear c18b1
      try clear c19
      try clear c19b0
      try clear c19b1
      try clear c20
      try clear c22
      try clear c23
      try clear c23b0
      try clear c24
      try clear c24b0
      try clear c26
      try clear c27
      try clear c27b0
      try clear c27b1
      try clear c39
      try clear c39b0
      try clear c39b1
      try clear c40
      try clear c40b0
      try clear c40b1
      try clear hcz10_0
      try clear hcz10_1
      try clear hcz10_2
      try clear hcz13_0
      try clear hcz13_1
      try clear hcz13_2
      try clear hcz16_0
      try clear hcz16_1
      try clear hcz16_2
      try clear hfz10_0
      try clear hfz10_1
      try clear hfz10_2
      try clear hfz13_0
      try clear hfz13_1
      try clear hfz13_2
      try clear hfz16_0
      try clear hfz16_1
      try clear hfz16_2
      try clear hx117_0
      try clear hx117_1
      try clear hx117_2
      try clear p1
      try clear p11
      try clear p117
      try clear p2
      try clear q1
      try clear q11
      try clear q117
      obtain ⟨kq, x128_33, rfl, HA, HJ33, HO_14, HO_111002, BK110, HB⟩ := hcut
      cases kq with
      | zero => exact absurd HA.out (by simp [laws_FnMembers.j2])
      | succ kj33 =>
       have H := HA.out
       clear HA
       simp only [laws_FnMembers.j2] at H
       by_cases c41 : x128_33 = true
       ·
        subst c41
        have H1 : (some false) = some r := by rw [if_pos rfl] at H; exact H
        clear H
        have H := H1
        clear H1
        obtain rfl := Option.some.inj H
        go_wp2
        go_ret
        exact ⟨er, pT HB.out⟩
       replace c41 := Bool.eq_false_iff.mpr c41
       subst c41
       have H1 : (if t129 = true then ((impl_ChanceAt.f kj33 t121 t124 t125 t126).bind fun bt133 => (if bt133.2.2 = true then (if (wrap64 (t127 + bt133.1)) = bt133.2.1 then (if t128 > bt133.1 then (some false) else (if bt133.2.1 > (t121.length : Int) then (some false) else (laws_FnMembers.j3 kj33 l0))) else (some false)) else (some false))) else (laws_FnMembers.j3 kj33 l0)) = some r := by rw [if_neg (show ¬ (false = true) by decide)] at H; exact H
       clear H
       have H := H1
       clear H1
       have HC42 := Aside0.mk H
       clear H
       go_upto_if 129 with (fail)
       go_cut [] (fun wc => ∃ (kq : Nat), Aside0 (laws_FnMembers.j3 kq l0 = some r) ∧ Aside0 (kq ≤ kj33) ∧ Aside0 (Kd.Q (Kd.int .i64) 3 wc w.heap.size (fun _ => True) (.slice Ao11 t107.length co11) t107) ∧ Aside0 (wc.heap[gb110]? = some (.cells #[.int .i64 t105, .int .i64 t106, (.slice Ao11 t107.length co11)] 29 (0, 0))) ∧ Aside0 (Below w.heap.size w wc))
       case first => as_aux_lemma =>
        have H := HC42.out
        clear HC42
        by_cases c43 : t129 = true
        ·
         subst c43
         have H1 : ((impl_ChanceAt.f kj33 t121 t124 t125 t126).bind fun bt133 => (if bt133.2.2 = true then (if (wrap64 (t127 + bt133.1)) = bt133.2.1 then (if t128 > bt133.1 then (some false) else (if bt133.2.1 > (t121.length : Int) then (some false) else (laws_FnMembers.j3 kj33 l0))) else (some false)) else (some false))) = some r := by rw [if_pos rfl] at H; exact H
         clear H
         have H := H1
         clear H1
         replace H := Option.bind_eq_some_iff.mp H
         obtain ⟨⟨t133, t134, t135⟩, A440, H⟩ := H
         replace H : (if t135 = true then (if (wrap64 (t127 + t133)) = t134 then (if t128 > t133 then (some false) else (if t134 > (t121.length : Int) then (some false) else (laws_FnMembers.j3 kj33 l0))) else (some false)) else (some false)) = some r := H
         have A44 := Aside0.mk A440
         clear A440
         by_cases c45 : t135 = true
         ·
          subst c45
          have H1 : (if (wrap64 (t127 + t133)) = t134 then (if t128 > t133 then (some false) else (if t134 > (t121.length : Int) then (some false) else (laws_FnMembers.j3 kj33 l0))) else (some false)) = some r := by rw [if_pos rfl] at H; exact H
          clear H
          have H := H1
          clear H1
          by_cases c46 : (wrap64 (t127 + t133)) = t134
          ·
           rw [if_pos c46] at H
           have c46b0 : ((wrap64 (t127 + t133)) == t134) = true := beq_iff_eq.mpr c46
           have c46b1 : ((wrap64 (t127 + t133)) != t134) = false := bne_eq_false_iff_eq.mpr c46
           clear c46
           (first | rw [c46b0] | (simp only [i64_w, i32_w]; rw [c46b0]) | skip)
           by_cases c47 : t128 > t133
           ·
            rw [if_pos c47] at H
            have c47b0 : decide (t133 < t128) = true := decide_eq_true c47
            clear c47
            obtain rfl := Option.some.inj H
            go_wp2_with (first | ((with_reducible refine gate_callee (f := 50) rfl ?_); refine gl (some 135) Try.func50 #[.slice Ao36 t121.length co36, .int .i64 t124, .int .i64 t125, .int .i64 t126] ?_; (with_reducible refine (impl_ChanceAt.calls kj33 _ _ t121 t124 t125 t126 t133 t134 true _ ?side1 ?side2 A44.out).mono ?_); (case side1 => exact pC (Kd.V_reads' HO_14.out).2.2); (case side2 => exact (Kd.V_reads' HO_14.out).2.1); rintro e w48 ⟨rfl, hb⟩; refine ⟨_, rfl, ?_⟩; have n0_ := aK (Kd.V_below (by (with_reducible repeat (first | apply Kd.V_alloc | apply Kd.V_drewN | apply Kd.V_drew)); exact HO_14.out) hb); have n1_ := aK (Kd.Q_below (pQ HO_111002.out) hb); replace BK110 := bB BK110 hb; replace HB := bS HB hb; clear HO_14 HO_111002; have HO_14 := n0_; have HO_111002 := n1_; clear n0_ n1_; (try clear hb); (try clear hb2); (try clear hk); (try clear hi)))
            go_ret
            exact ⟨er, pT HB.out⟩
           rw [if_neg c47] at H
           have c47b0 : decide (t133 < t128) = false := decide_eq_false c47
           clear c47
           by_cases c49 : t134 > (t121.length : Int)
           ·
            rw [if_pos c49] at H
            have c49b0 : decide ((t121.length : Int) < t134) = true := decide_eq_true c49
            clear c49
            obtain rfl := Option.some.inj H
            go_wp2_with (first | ((with_reducible refine gate_callee (f := 50) rfl ?_); refine gl (some 135) Try.func50 #[.slice Ao36 t121.length co36, .int .i64 t124, .int .i64 t125, .int .i64 t126] ?_; (with_reducible refine (impl_ChanceAt.calls kj33 _ _ t121 t124 t125 t126 t133 t134 true _ ?side1 ?side2 A44.out).mono ?_); (case side1 => exact pC (Kd.V_reads' HO_14.out).2.2); (case side2 => exact (Kd.V_reads' HO_14.out).2.1); rintro e w50 ⟨rfl, hb⟩; refine ⟨_, rfl, ?_⟩; have n0_ := aK (Kd.V_below (by (with_reducible repeat (first | apply Kd.V_alloc | apply Kd.V_drewN | apply Kd.V_drew)); exact HO_14.out) hb); have n1_ := aK (Kd.Q_below (pQ HO_111002.out) hb); replace BK110 := bB BK110 hb; replace HB := bS HB hb; clear HO_14 HO_111002; have HO_14 := n0_; have HO_111002 := n1_; clear n0_ n1_; (try clear hb); (try clear hb2); (try clear hk); (try clear hi)))
            go_ret
            exact ⟨er, pT HB.out⟩
           rw [if_neg c49] at H
           have c49b0 : decide ((t121.length : Int) < t134) = false := decide_eq_false c49
           clear c49
           have H' := Aside0.mk H
           clear H
           go_wp2_with (first | ((with_reducible refine gate_callee (f := 50) rfl ?_); refine gl (some 135) Try.func50 #[.slice Ao36 t121.length co36, .int .i64 t124, .int .i64 t125, .int .i64 t126] ?_; (with_reducible refine (impl_ChanceAt.calls kj33 _ _ t121 t124 t125 t126 t133 t134 true _ ?side1 ?side2 A44.out).mono ?_); (case side1 => exact pC (Kd.V_reads' HO_14.out).2.2); (case side2 => exact (Kd.V_reads' HO_14.out).2.1); rintro e w51 ⟨rfl, hb⟩; refine ⟨_, rfl, ?_⟩; have n0_ := aK (Kd.V_below (by (with_reducible repeat (first | apply Kd.V_alloc | apply Kd.V_drewN | apply Kd.V_drew)); exact HO_14.out) hb); have n1_ := aK (Kd.Q_below (pQ HO_111002.out) hb); replace BK110 := bB BK110 hb; replace HB := bS HB hb; clear HO_14 HO_111002; have HO_14 := n0_; have HO_111002 := n1_; clear n0_ n1_; (try clear hb); (try clear hb2); (try clear hk); (try clear hi)))
           go_meet
           case rel => exact ⟨_, H', ⟨by have := HJ6.out; have := HJ20.out; have := HJ33.out; first | omega | exact Nat.le_refl _⟩, ⟨pQ HO_111002.out⟩, ⟨by refine bk ?_; exact BK110.out⟩, ⟨pT HB.out⟩⟩
          rw [if_neg c46] at H
          have c46b0 : ((wrap64 (t127 + t133)) == t134) = false := beq_eq_false_iff_ne.mpr c46
          have c46b1 : ((wrap64 (t127 + t133)) != t134) = true := bne_iff_ne.mpr c46
          (first | rw [c46b0] | (simp only [i64_w, i32_w]; rw [c46b0]) | skip)
          obtain rfl := Option.some.inj H
          go_wp2_with (first | ((with_reducible refine gate_callee (f := 50) rfl ?_); refine gl (some 135) Try.func50 #[.slice Ao36 t121.length co36, .int .i64 t124, .int .i64 t125, .int .i64 t126] ?_; (with_reducible refine (impl_ChanceAt.calls kj33 _ _ t121 t124 t125 t126 t133 t134 true _ ?side1 ?side2 A44.out).mono ?_); (case side1 => exact pC (Kd.V_reads' HO_14.out).2.2); (case side2 => exact (Kd.V_reads' HO_14.out).2.1); rintro e w52 ⟨rfl, hb⟩; refine ⟨_, rfl, ?_⟩; have n0_ := aK (Kd.V_below (by (with_reducible repeat (first | apply Kd.V_alloc | apply Kd.V_drewN | apply Kd.V_drew)); exact HO_14.out) hb); have n1_ := aK (Kd.Q_below (pQ HO_111002.out) hb); replace BK110 := bB BK110 hb; replace HB := bS HB hb; clear HO_14 HO_111002; have HO_14 := n0_; have HO_111002 := n1_; clear n0_ n1_; (try clear hb); (try clear hb2); (try clear hk); (try clear hi)))
          go_ret
          exact ⟨er, pT HB.out⟩
         replace c45 := Bool.eq_false_iff.mpr c45
         subst c45
         have H1 : (some false) = some r := by rw [if_neg (show ¬ (false = true) by decide)] at H; exact H
         clear H
         have H := H1
         clear H1
         obtain rfl := Option.some.inj H
         go_wp2_with (first | ((with_reducible refine gate_callee (f := 50) rfl ?_); refine gl (some 135) Try.func50 #[.slice Ao36 t121.length co36, .int .i64 t124, .int .i64 t125, .int .i64 t126] ?_; (with_reducible refine (impl_ChanceAt.calls kj33 _ _ t121 t124 t125 t126 t133 t134 false _ ?side1 ?side2 A44.out).mono ?_); (case side1 => exact pC (Kd.V_reads' HO_14.out).2.2); (case side2 => exact (Kd.V_reads' HO_14.out).2.1); rintro e w53 ⟨rfl, hb⟩; refine ⟨_, rfl, ?_⟩; have n0_ := aK (Kd.V_below (by (with_reducible repeat (first | apply Kd.V_alloc | apply Kd.V_drewN | apply Kd.V_drew)); exact HO_14.out) hb); have n1_ := aK (Kd.Q_below (pQ HO_111002.out) hb); replace BK110 := bB BK110 hb; replace HB := bS HB hb; clear HO_14 HO_111002; have HO_14 := n0_; have HO_111002 := n1_; clear n0_ n1_; (try clear hb); (try clear hb2); (try clear hk); (try clear hi)))
         go_ret
         exact ⟨er, pT HB.out⟩
        replace c43 := Bool.eq_false_iff.mpr c43
        subst c43
        have H1 : (laws_FnMembers.j3 kj33 l0) = some r := by rw [if_neg (show ¬ (false = true) by decide)] at H; exact H
        clear H
        have H := H1
        clear H1
        have H' := Aside0.mk H
        clear H
        go_wp2
        go_meet
        case rel => exact ⟨_, H', ⟨by have := HJ6.out; have := HJ20.out; have := HJ33.out; first | omega | exact Nat.le_refl _⟩, ⟨pQ HO_111002.out⟩, ⟨by refine bk ?_; exact BK110.out⟩, ⟨pT HB.out⟩⟩
       case rest => as_aux_lemma =>
        clear HC42
        try clear c1
        try clear p1
        try clear q1
        try clear hx1
        try clear c2
        try clear p2
        try clear c3
        try clear c4
        try clear c5
        try clear p6
        try clear c8
        try clear c11
        try clear p11
        try clear q11
        try clear hx11
        try clear c18
        try clear c18b0
        try clear c18b1
        try clear c19
        try clear c19b0
        try clear c19b1
        try clear c20
        try clear c22
        try clear c23
        try clear c23b0
        try clear c24
        try clear c24b0
        try clear c26
        try clear c27
        try clear c27b0
        try clear c27b1
        try clear c39
        try clear c39b0
        try clear c39b1
        try clear c40
        try clear c40b0
        try clear c40b1
        try clear c41
        try clear c43
        try clear c44
        try clear c45
        try clear c46
        try clear c46b0
        try clear c46b1
        try clear c47
        try clear c47b0
        try clear c48
        try clear c49
        try clear c49b0
        try clear c50
        try clear hcz10_0
        try clear hcz10_1
        try clear hcz10_2
        try clear hcz13_0
        try clear hcz13_1
        try clear hcz13_2
        try clear hcz16_0
        try clear hcz16_1
        try clear hcz16_2
        try clear hfz10_0
        try clear hfz10_1
        try clear hfz10_2
        try clear hfz13_0
        try clear hfz13_1
        try clear hfz13_2
        try clear hfz16_0
        try clear hfz16_1
        try clear hfz16_2
        try clear hx117_0
        try clear hx117_1
        try clear hx117_2
        try clear p1
        try clear p11
        try clear p117
        try clear p2
        try clear q1
        try clear q11
        try clear q117
        obtain ⟨kq, HA, HJ41, HO_111002, BK110, HB⟩ := hcut
        cases kq with
        | zero => exact absurd HA.out (by simp [laws_FnMembers.j3])
        | succ kj41 =>
         have H := HA.out
         clear HA
         simp only [laws_FnMembers.j3] at H
         replace H := Option.bind_eq_some_iff.mp H
         obtain ⟨⟨t136, t139⟩, A540, H⟩ := H
         replace H : ((impl_WithoutMember.f kj41 t136 t139).bind fun bt140 => ((spec_WithoutMember.f kj41 t136 t139).bind fun bt144 => (if (bt140.2 != bt144.2) = true then (laws_FnMembers.j4 kj41 l0 bt140.1 bt144.1 true) else (if (bt140.1.length : Int) = (bt144.1.length : Int) then (if bt140.2 = true then (laws_FnMembers.j4 kj41 l0 bt140.1 bt144.1 ((bt140.1.length : Int) != (wrap64 ((t136.length : Int) - 1)))) else (laws_FnMembers.j4 kj41 l0 bt140.1 bt144.1 false)) else (laws_FnMembers.j4 kj41 l0 bt140.1 bt144.1 true))))) = some r := H
         have A54 := Aside0.mk A540
         clear A540
         replace H := Option.bind_eq_some_iff.mp H
         obtain ⟨⟨t140, t141⟩, A550, H⟩ := H
         replace H : ((spec_WithoutMember.f kj41 t136 t139).bind fun bt144 => (if (t141 != bt144.2) = true then (laws_FnMembers.j4 kj41 l0 t140 bt144.1 true) else (if (t140.length : Int) = (bt144.1.length : Int) then (if t141 = true then (laws_FnMembers.j4 kj41 l0 t140 bt144.1 ((t140.length : Int) != (wrap64 ((t136.length : Int) - 1)))) else (laws_FnMembers.j4 kj41 l0 t140 bt144.1 false)) else (laws_FnMembers.j4 kj41 l0 t140 bt144.1 true)))) = some r := H
         have A55 := Aside0.mk A550
         clear A550
         replace H := Option.bind_eq_some_iff.mp H
         obtain ⟨⟨t144, t145⟩, A560, H⟩ := H
         replace H : (if (t141 != t145) = true then (laws_FnMembers.j4 kj41 l0 t140 t144 true) else (if (t140.length : Int) = (t144.length : Int) then (if t141 = true then (laws_FnMembers.j4 kj41 l0 t140 t144 ((t140.length : Int) != (wrap64 ((t136.length : Int) - 1)))) else (laws_FnMembers.j4 kj41 l0 t140 t144 false)) else (laws_FnMembers.j4 kj41 l0 t140 t144 true))) = some r := H
         have A56 := Aside0.mk A560
         clear A560
         have HC57 := Aside0.mk H
         clear H
         go_upto_region 24 with (first | ((with_reducible refine gate_callee (f := 51) rfl ?_); refine gl (some 161) Try.func51 #[.slice A0 l0.length c0] ?_; (with_reducible refine (spec_DrawWithoutMember.calls kj41 _ _ l0 t136 t139 _ ?side1 ?side2 A54.out).mono ?_); (case side1 => exact pC (Kd.C_below HR0.out HB.out)); (case side2 => exact HC0.out); rintro e w58 ⟨v137, rfl, ho0, hb⟩; refine ⟨_, rfl, ?_⟩; have n0_ := aK (Kd.Q_below (pQ HO_111002.out) hb); have HO138 := aK (Kd.V_lower (Kd.V_mono (ok' := fun k_ => some k_ ≠ (.slice Ao11 t107.length co11 : Value).ownBlock ∧ k_ ≠ gb110) ho0 (fun k_ hk_ => ⟨(Kd.fresh' (Kd.Q_lt (pQ HO_111002.out)) k_ hk_), (Kd.freshB (g := gb110) (o := .cells #[.int .i64 t105, .int .i64 t106, .slice Ao11 t107.length co11] 29 (0, 0)) (pB BK110.out) k_ hk_)⟩)) (below_size (pS HB.out))); replace BK110 := bB BK110 hb; replace HB := bS HB hb; clear HO_111002; have HO_111002 := n0_; clear n0_; (try clear hb); (try clear hb2); (try clear hk); (try clear hi); (try clear ho0); obtain ⟨Ao59, co59, eo59⟩ := Kd.V_slice HO138.out; subst eo59) | ((with_reducible refine gate_callee (f := 52) rfl ?_); refine gl (some 167) Try.func52 #[.slice Ao59 t136.length co59, .int .i64 t139] ?_; (with_reducible refine (impl_WithoutMember.calls kj41 _ _ t136 t139 t140 t141 _ ?side1 ?side2 A55.out).mono ?_); (case side1 => exact pC (Kd.V_reads' HO138.out).2.2); (case side2 => exact (Kd.V_reads' HO138.out).2.1); rintro e w60 ⟨v142, rfl, ho0, hb⟩; refine ⟨_, rfl, ?_⟩; have n0_ := aK (Kd.Q_below (pQ HO_111002.out) hb); have n1_ := aK (Kd.V_elder' (by (with_reducible repeat (first | apply Kd.V_alloc | apply Kd.V_drewN | apply Kd.V_drew)); exact HO138.out) (Kd.S_base ho0) hb); have HO143 := aK (Kd.S_lower (Kd.S_newB (Kd.S_new' ho0 (Kd.Q_lt (pQ HO_111002.out))) (g := gb110) (o := .cells #[.int .i64 t105, .int .i64 t106, .slice Ao11 t107.length co11] 29 (0, 0)) (pB BK110.out)) (below_size (pS HB.out))); replace BK110 := bB BK110 hb; replace HB := bS HB hb; clear HO_111002 HO138; have HO_111002 := n0_; have HO138 := n1_; clear n0_ n1_; (try clear hb); (try clear hb2); (try clear hk); (try clear hi); (try clear ho0)) | ((with_reducible refine gate_callee (f := 53) rfl ?_); refine gl (some 173) Try.func53 #[.slice Ao59 t136.length co59, .int .i64 t139] ?_; (with_reducible refine (spec_WithoutMember.calls kj41 _ _ t136 t139 t144 t145 _ ?side1 ?side2 A56.out).mono ?_); (case side1 => exact pC (Kd.V_reads' HO138.out).2.2); (case side2 => exact (Kd.V_reads' HO138.out).2.1); rintro e w61 ⟨v146, rfl, ho0, hb⟩; refine ⟨_, rfl, ?_⟩; have n0_ := aK (Kd.Q_below (pQ HO_111002.out) hb); have n1_ := aK (Kd.V_elder' (by (with_reducible repeat (first | apply Kd.V_alloc | apply Kd.V_drewN | apply Kd.V_drew)); exact HO138.out) (Kd.S_base ho0) hb); have n2_ := aK (Kd.S_elder' (by (with_reducible repeat (first | apply Kd.S_alloc | apply Kd.S_drewN | apply Kd.S_drew)); exact HO143.out) (Kd.S_base ho0) hb); have HO147 := aK (Kd.S_lower (Kd.S_newB (Kd.S_new' (Kd.S_new' ho0 (Kd.Q_lt (pQ HO_111002.out))) (Kd.S_lt (by (with_reducible repeat (first | apply Kd.S_alloc | apply Kd.S_drewN | apply Kd.S_drew)); exact HO143.out))) (g := gb110) (o := .cells #[.int .i64 t105, .int .i64 t106, .slice Ao11 t107.length co11] 29 (0, 0)) (pB BK110.out)) (below_size (pS HB.out))); replace BK110 := bB BK110 hb; replace HB := bS HB hb; clear HO_111002 HO138 HO143; have HO_111002 := n0_; have HO138 := n1_; have HO143 := n2_; clear n0_ n1_ n2_; (try clear hb); (try clear hb2); (try clear hk); (try clear hi); (try clear ho0)))
         (try simp only [Act.put, List.setIfInBounds_toArray, List.set_cons_zero, List.set_cons_succ])
         go_cut [196] (fun v196 wc => ∃ (kq : Nat) (x196_56 : Bool), v196 = .bool x196_56 ∧ Aside0 (laws_FnMembers.j4 kq l0 t140 t144 x196_56 = some r) ∧ Aside0 (kq ≤ kj41) ∧ Aside0 (Kd.S k29 29 wc w.heap.size (fun k_ => some k_ ≠ (v146 : Value).ownBlock ∧ some k_ ≠ ((.slice Ao11 t107.length co11) : Value).ownBlock ∧ k_ ≠ gb110) v142 t140) ∧ Aside0 (Kd.S k29 29 wc w.heap.size (fun k_ => some k_ ≠ (v142 : Value).ownBlock ∧ some k_ ≠ ((.slice Ao11 t107.length co11) : Value).ownBlock ∧ k_ ≠ gb110) v146 t144) ∧ Aside0 (Kd.Q (Kd.int .i64) 3 wc w.heap.size (fun _ => True) (.slice Ao11 t107.length co11) t107) ∧ Aside0 (wc.heap[gb110]? = some (.cells #[.int .i64 t105, .int .i64 t106, (.slice Ao11 t107.length co11)] 29 (0, 0))) ∧ Aside0 (Below w.heap.size w wc))
         case first => as_aux_lemma =>
          have H := HC57.out
          clear HC57
          by_cases c62 : (t141 != t145) = true
          ·
           rw [if_pos c62] at H
           have c62b0 : (t141 != t145) = true := c62
           (try (have c62b1 : decide (t141 = t145) = false := by simpa using c62))
           (try (have c62b2 : (t141 == t145) = false := by simpa using c62))
           (try (have c62b3 : ¬ (t141 = t145) := by simpa using c62))
           clear c62
           (first | rw [c62b0] | (simp only [i64_w, i32_w]; rw [c62b0]) | skip)
           have H' := Aside0.mk H
           clear H
           go_wp2
           go_meet
           case rel => exact ⟨_, (true), (by first | rfl | (simp; done) | (simp [*]; done)), H', ⟨by have := HJ6.out; have := HJ20.out; have := HJ33.out; have := HJ41.out; first | omega | exact Nat.le_refl _⟩, ⟨by (with_reducible repeat (first | apply Kd.S_alloc | apply Kd.S_drewN | apply Kd.S_drew)); exact Kd.S_mono HO143.out (fun _ hk => ⟨hk.2, ⟨hk.1.1.2, hk.1.2⟩⟩)⟩, ⟨by (with_reducible repeat (first | apply Kd.S_alloc | apply Kd.S_drewN | apply Kd.S_drew)); exact Kd.S_mono HO147.out (fun _ hk => ⟨hk.1.2, ⟨hk.1.1.2, hk.2⟩⟩)⟩, ⟨pQ HO_111002.out⟩, ⟨by refine bk ?_; exact BK110.out⟩, ⟨pT HB.out⟩⟩
          rw [if_neg c62] at H
          have c62b0 : (t141 != t145) = false := by simpa using c62
          (try (have c62b1 : decide (t141 = t145) = true := by simpa using c62))
          (try (have c62b2 : (t141 == t145) = true := by simpa using c62))
          clear c62
          (first | rw [c62b0] | (simp only [i64_w, i32_w]; rw [c62b0]) | skip)
          by_cases c63 : (t140.length : Int) = (t144.length : Int)
          ·
           rw [if_pos c63] at H
           have c63b0 : ((t140.length : Int) == (t144.length : Int)) = true := beq_iff_eq.mpr c63
           have c63b1 : ((t140.length : Int) != (t144.length : Int)) = false := bne_eq_false_iff_eq.mpr c63
           have c63b2 : (t140.length == t144.length) = true := by first | simpa using c63 | (simp at c63 ⊢; omega)
           clear c63
           by_cases c64 : t141 = true
           ·
            subst c64
            have H1 : (laws_FnMembers.j4 kj41 l0 t140 t144 ((t140.length : Int) != (wrap64 ((t136.length : Int) - 1)))) = some r := by rw [if_pos rfl] at H; exact H
            clear H
            have H := H1
            clear H1
            have H' := Aside0.mk H
            clear H
            obtain ⟨Ao65, co65, eo65⟩ := Kd.S_slice HO143.out
            subst eo65
            obtain ⟨Ao66, co66, eo66⟩ := Kd.S_slice HO147.out
            subst eo66
            go_wp2
            go_meet
            case rel => exact ⟨_, (((t140.length : Int) != (wrap64 ((t136.length : Int) - 1)))), (by first | rfl | (simp; done) | (simp [*]; done)), H', ⟨by have := HJ6.out; have := HJ20.out; have := HJ33.out; have := HJ41.out; first | omega | exact Nat.le_refl _⟩, ⟨by (with_reducible repeat (first | apply Kd.S_alloc | apply Kd.S_drewN | apply Kd.S_drew)); exact Kd.S_mono HO143.out (fun _ hk => ⟨hk.2, ⟨hk.1.1.2, hk.1.2⟩⟩)⟩, ⟨by (with_reducible repeat (first | apply Kd.S_alloc | apply Kd.S_drewN | apply Kd.S_drew)); exact Kd.S_mono HO147.out (fun _ hk => ⟨hk.1.2, ⟨hk.1.1.2, hk.2⟩⟩)⟩, ⟨pQ HO_111002.out⟩, ⟨by refine bk ?_; exact BK110.out⟩, ⟨pT HB.out⟩⟩
           replace c64 := Bool.eq_false_iff.mpr c64
           subst c64
           have H1 : (laws_FnMembers.j4 kj41 l0 t140 t144 false) = some r := by rw [if_neg (show ¬ (false = true) by decide)] at H; exact H
           clear H
           have H := H1
           clear H1
           have H' := Aside0.mk H
           clear H
           obtain ⟨Ao67, co67, eo67⟩ := Kd.S_slice HO143.out
           subst eo67
           obtain ⟨Ao68, co68, eo68⟩ := Kd.S_slice HO147.out
           subst eo68
           go_wp2
           go_meet
           case rel => exact ⟨_, (false), (by first | rfl | (simp; done) | (simp [*]; done)), H', ⟨by have := HJ6.out; have := HJ20.out; have := HJ33.out; have := HJ41.out; first | omega | exact Nat.le_refl _⟩, ⟨by (with_reducible repeat (first | apply Kd.S_alloc | apply Kd.S_drewN | apply Kd.S_drew)); exact Kd.S_mono HO143.out (fun _ hk => ⟨hk.2, ⟨hk.1.1.2, hk.1.2⟩⟩)⟩, ⟨by (with_reducible repeat (first | apply Kd.S_alloc | apply Kd.S_drewN | apply Kd.S_drew)); exact Kd.S_mono HO147.out (fun _ hk => ⟨hk.1.2, ⟨hk.1.1.2, hk.2⟩⟩)⟩, ⟨pQ HO_111002.out⟩, ⟨by refine bk ?_; exact BK110.out⟩, ⟨pT HB.out⟩⟩
          rw [if_neg c63] at H
          have c63b0 : ((t140.length : Int) == (t144.length : Int)) = false := beq_eq_false_iff_ne.mpr c63
          have c63b1 : ((t140.length : Int) != (t144.length : Int)) = true := bne_iff_ne.mpr c63
          have c63b2 : (t140.length == t144.length) = false := by first | simpa using c63 | (simp at c63 ⊢; omega)
          have H' := Aside0.mk H
          clear H
          obtain ⟨Ao69, co69, eo69⟩ := Kd.S_slice HO143.out
          subst eo69
          obtain ⟨Ao70, co70, eo70⟩ := Kd.S_slice HO147.out
          subst eo70
          go_wp2
          go_meet
          case rel => exact ⟨_, (true), (by first | rfl | (simp; done) | (simp [*]; done)), H', ⟨by have := HJ6.out; have := HJ20.out; have := HJ33.out; have := HJ41.out; first | omega | exact Nat.le_refl _⟩, ⟨by (with_reducible repeat (first | apply Kd.S_alloc | apply Kd.S_drewN | apply Kd.S_drew)); exact Kd.S_mono HO143.out (fun _ hk => ⟨hk.2, ⟨hk.1.1.2, hk.1.2⟩⟩)⟩, ⟨by (with_reducible repeat (first | apply Kd.S_alloc | apply Kd.S_drewN | apply Kd.S_drew)); exact Kd.S_mono HO147.out (fun _ hk => ⟨hk.1.2, ⟨hk.1.1.2, hk.2⟩⟩)⟩, ⟨pQ HO_111002.out⟩, ⟨by refine bk ?_; exact BK110.out⟩, ⟨pT HB.out⟩⟩
         case rest => as_aux_lemma =>
          clear HC57
          try clear c1
          try clear p1
          try clear q1
          try clear hx1
          try clear c2
          try clear p2
          try clear c3
          try clear c4
          try clear c5
          try clear c6
          try clear p6
          try clear c8
          try clear c11
          try clear p11
          try clear q11
          try clear hx11
          try clear c18
          try clear c18b0
          try clear c18b1
          try clear c19
          try clear c19b0
          try clear c19b1
          try clear c20
          try clear c22
          try clear c23
          try clear c23b0
          try clear c24
          try clear c24b0
          try clear c26
          try clear c27
          try clear c27b0
          try clear c27b1
          try clear c39
          try clear c39b0
          try clear c39b1
          try clear c40
          try clear c40b0
          try clear c40b1
          try clear c41
          try clear c43
          try clear c44
          try clear c45
          try clear c46
          try clear c46b0
          try clear c46b1
          try clear c47
          try clear c47b0
          try clear c48
          try clear c49
          try clear c49b0
          try clear c50
          try clear c51
          try clear c52
          try clear c53
          try clear c62
          try clear c62b0
          try clear c62b1
          try clear c62b2
          try clear c63
          try clear c63b0
          try clear c63b1
          try clear c63b2
          try clear c64
          try clear p64
          try clear hcz10_0
          try clear hcz10_1
          try clear hcz10_2
          try clear hcz13_0
          try clear hcz13_1
          try clear hcz13_2
          try clear hcz16_0
          try clear hcz16_1
          try clear hcz16_2
          try clear hfz10_0
          try clear hfz10_1
          try clear hfz10_2
          try clear hfz13_0
          try clear hfz13_1
          try clear hfz13_2
          try clear hfz16_0
          try clear hfz16_1
          try clear hfz16_2
          try clear hx117_0
          try clear hx117_1
          try clear hx117_2
          try clear p1
          try clear p11
          try clear p117
          try clear p2
          try clear p6
          try clear q1
          try clear q11
          try clear q117
          obtain ⟨kq, x196_56, rfl, HA, HJ56, HO_29, HO_31, HO_111002, BK110, HB⟩ := hcut
          cases kq with
          | zero => exact absurd HA.out (by simp [laws_FnMembers.j4])
          | succ kj56 =>
           have H := HA.out
           clear HA
           simp only [laws_FnMembers.j4] at H
           by_cases c71 : x196_56 = true
           ·
            subst c71
            have H1 : (some false) = some r := by rw [if_pos rfl] at H; exact H
            clear H
            have H := H1
            clear H1
            obtain rfl := Option.some.inj H
            go_wp2
            go_ret
            exact ⟨er, pT HB.out⟩
           replace c71 := Bool.eq_false_iff.mpr c71
           subst c71
           have H1 : (laws_FnMembers.l0 kj56 l0 t140 t144 0) = some r := by rw [if_neg (show ¬ (false = true) by decide)] at H; exact H
           clear H
           have H := H1
           clear H1
           have H' := Aside0.mk H
           clear H
           go_wp2
           go_loopg [33] kj56 (fun kq v33 w' => ∃ (x33_6 : Int), v33 = .int .i64 x33_6 ∧ Aside0 (laws_FnMembers.l0 kq l0 t140 t144 x33_6 = some r) ∧ Aside0 (kq ≤ kj56) ∧ Aside0 (Kd.S k29 29 w' w.heap.size (fun k_ => some k_ ≠ (v146 : Value).ownBlock ∧ some k_ ≠ ((.slice Ao11 t107.length co11) : Value).ownBlock ∧ k_ ≠ gb110) v142 t140) ∧ Aside0 (Kd.S k29 29 w' w.heap.size (fun k_ => some k_ ≠ (v142 : Value).ownBlock ∧ some k_ ≠ ((.slice Ao11 t107.length co11) : Value).ownBlock ∧ k_ ≠ gb110) v146 t144) ∧ Aside0 (Kd.Q (Kd.int .i64) 3 w' w.heap.size (fun _ => True) (.slice Ao11 t107.length co11) t107) ∧ Aside0 (w'.heap[gb110]? = some (.cells #[.int .i64 t105, .int .i64 t106, (.slice Ao11 t107.length co11)] 29 (0, 0))) ∧ Aside0 (Below w.heap.size w w'))
           case atStart => exact ⟨(0), (by first | rfl | (simp; done) | (simp [*]; done)), H', ⟨Nat.le_refl _⟩, ⟨by (with_reducible repeat (first | apply Kd.S_alloc | apply Kd.S_drewN | apply Kd.S_drew)); exact HO_29.out⟩, ⟨by (with_reducible repeat (first | apply Kd.S_alloc | apply Kd.S_drewN | apply Kd.S_drew)); exact HO_31.out⟩, ⟨pQ HO_111002.out⟩, ⟨by refine bk ?_; exact BK110.out⟩, ⟨pT HB.out⟩⟩
           case round => as_aux_lemma =>
            clear H'
            try clear c1
            try clear p1
            try clear q1
            try clear hx1
            try clear c2
            try clear p2
            try clear c3
            try clear c4
            try clear c5
            try clear c6
            try clear p6
            try clear c7
            try clear c8
            try clear c11
            try clear p11
            try clear q11
            try clear hx11
            try clear c18
            try clear c18b0
            try clear c18b1
            try clear c19
            try clear c19b0
            try clear c19b1
            try clear c20
            try clear c22
            try clear c23
            try clear c23b0
            try clear c24
            try clear c24b0
            try clear c26
            try clear c27
            try clear c27b0
            try clear c27b1
            try clear c39
            try clear c39b0
            try clear c39b1
            try clear c40
            try clear c40b0
            try clear c40b1
            try clear c41
            try clear c43
            try clear c44
            try clear c45
            try clear c46
            try clear c46b0
            try clear c46b1
            try clear c47
            try clear c47b0
            try clear c48
            try clear c49
            try clear c49b0
            try clear c50
            try clear c51
            try clear c52
            try clear c53
            try clear c62
            try clear c62b0
            try clear c62b1
            try clear c62b2
            try clear c63
            try clear c63b0
            try clear c63b1
            try clear c63b2
            try clear c64
            try clear p64
            try clear c71
            try clear hcz10_0
            try clear hcz10_1
            try clear hcz10_2
            try clear hcz13_0
            try clear hcz13_1
            try clear hcz13_2
            try clear hcz16_0
            try clear hcz16_1
            try clear hcz16_2
            try clear hfz10_0
            try clear hfz10_1
            try clear hfz10_2
            try clear hfz13_0
            try clear hfz13_1
            try clear hfz13_2
            try clear hfz16_0
            try clear hfz16_1
            try clear hfz16_2
            try clear hx117_0
            try clear hx117_1
            try clear hx117_2
            try clear p1
            try clear p11
            try clear p117
            try clear p2
            try clear p6
            try clear p64
            try clear q1
            try clear q11
            try clear q117
            obtain ⟨x33_6, rfl, HA, HK6, HO_29, HO_31, HO_111002, BK110, HB⟩ := hrel
            cases gk with
            | zero => exact absurd HA.out (by simp [laws_FnMembers.l0])
            | succ k6 =>
             have H := HA.out
             clear HA
             simp only [laws_FnMembers.l0] at H
             by_cases c72 : x33_6 < (t140.length : Int)
             ·
              rw [if_pos c72] at H
              have c72b0 : decide (x33_6 < (t140.length : Int)) = true := decide_eq_true c72
              clear c72
              by_cases c73 : 0 ≤ x33_6
              ·
               rw [if_pos c73] at H
               have c73b0 : decide (0 ≤ x33_6) = true := decide_eq_true c73
               clear c73
               by_cases c74 : x33_6 < (t144.length : Int)
               ·
                rw [if_pos c74] at H
                have c74b0 : decide (x33_6 < (t144.length : Int)) = true := decide_eq_true c74
                clear c74
                replace H := Option.bind_eq_some_iff.mp H
                obtain ⟨t150, A750, H⟩ := H
                replace H : (if t150 = true then (laws_FnMembers.l0 k6 l0 t140 t144 (wrap64 (x33_6 + 1))) else (some false)) = some r := H
                have A75 := Aside0.mk A750
                clear A750
                by_cases c76 : t150 = true
                ·
                 subst c76
                 have H1 : (laws_FnMembers.l0 k6 l0 t140 t144 (wrap64 (x33_6 + 1))) = some r := by rw [if_pos rfl] at H; exact H
                 clear H
                 have H := H1
                 clear H1
                 have H' := Aside0.mk H
                 clear H
                 obtain ⟨Ao77, co77, eo77⟩ := Kd.S_slice HO_29.out
                 subst eo77
                 try go_wp2
                 have n0_ := aK (Kd.S_drew HO_29.out)
                 have n1_ := aK (Kd.S_drew HO_31.out)
                 have n2_ := aK (Kd.Q_drew HO_111002.out)
                 have n3_ := aK (blk_drew BK110.out)
                 have n4_ := aK (below_drew1 HB.out)
                 clear HO_29 HO_31 HO_111002 BK110 HB
                 have HO_29 := n0_
                 have HO_31 := n1_
                 have HO_111002 := n2_
                 have BK110 := n3_
                 have HB := n4_
                 clear n0_ n1_ n2_ n3_ n4_
                 have p148 : 0 ≤ (x33_6 : Int) := of_decide_eq_true (by first | (with_reducible assumption) | assumption)
                 have q148 : x33_6 < (t140.length : Int) := of_decide_eq_true (by first | (with_reducible assumption) | assumption)
                 obtain ⟨ad148, A148_2, c148_2, e148, hx148_0, hx148_1, hx148_2, hl148_2, hi148_2⟩ := at_T29 (Kd.S_reads' HO_29.out).2.2 x33_6 p148 q148
                 cases e148
                 obtain ⟨ce148, hce148, hMe148, hcc148⟩ := Kd.S_get HO_29.out z29 x33_6 p148 (by first | exact q148 | exact of_decide_eq_true (by first | (with_reducible assumption) | assumption) | (have e_ := (Kd.S_reads' HO_29.out).1; omega))
                 obtain ⟨ve148_2, rfl, ge148_2⟩ := k29_openM hMe148
                 have hv148_2 := hcc148 2 _ rfl
                 rw [add_field _ _ 2 (by omega)] at hv148_2
                 replace hv148_2 := Option.some.inj (hv148_2.symm.trans hx148_2)
                 rw [hv148_2] at ge148_2
                 have HL148_2 := aK (show Kd.R (Kd.int .i64) 3 _ _ _ _ ((rd_T29 t140 x33_6).f2) from ge148_2)
                 clear hv148_2 ge148_2 hcc148 hce148
                 have HR148_2 := Aside0.mk hi148_2
                 have HC148_2 := Aside0.mk hl148_2
                 clear hi148_2 hl148_2
                 replace p148 := eq_true p148
                 replace q148 := eq_true q148
                 obtain ⟨Ao79, co79, eo79⟩ := Kd.S_slice HO_31.out
                 (first | subst eo79 | (obtain ⟨f4_, f5_⟩ := sI eo79; subst f4_; subst f5_))
                 have p149 : 0 ≤ (x33_6 : Int) := of_decide_eq_true (by first | (with_reducible assumption) | assumption)
                 have q149 : x33_6 < (t144.length : Int) := of_decide_eq_true (by first | (with_reducible assumption) | assumption)
                 obtain ⟨ad149, A149_2, c149_2, e149, hx149_0, hx149_1, hx149_2, hl149_2, hi149_2⟩ := at_T29 (Kd.S_reads' HO_31.out).2.2 x33_6 p149 q149
                 cases e149
                 obtain ⟨ce149, hce149, hMe149, hcc149⟩ := Kd.S_get HO_31.out z29 x33_6 p149 (by first | exact q149 | exact of_decide_eq_true (by first | (with_reducible assumption) | assumption) | (have e_ := (Kd.S_reads' HO_31.out).1; omega))
                 obtain ⟨ve149_2, rfl, ge149_2⟩ := k29_openM hMe149
                 have hv149_2 := hcc149 2 _ rfl
                 rw [add_field _ _ 2 (by omega)] at hv149_2
                 replace hv149_2 := Option.some.inj (hv149_2.symm.trans hx149_2)
                 rw [hv149_2] at ge149_2
                 have HL149_2 := aK (show Kd.R (Kd.int .i64) 3 _ _ _ _ ((rd_T29 t144 x33_6).f2) from ge149_2)
                 clear hv149_2 ge149_2 hcc149 hce149
                 have HR149_2 := Aside0.mk hi149_2
                 have HC149_2 := Aside0.mk hl149_2
                 clear hi149_2 hl149_2
                 replace p149 := eq_true p149
                 replace q149 := eq_true q149
                 refine start_ (n := 10) (S := fun w' => w'.cell? (ad148.add ((x33_6).toNat * 3)) = some (.int .i64 ((rd_T29 t140 x33_6).f0)) ∧ w'.cell? ⟨(ad148.add ((x33_6).toNat * 3)).block, (ad148.add ((x33_6).toNat * 3)).off + 1, none⟩ = some (.int .i64 ((rd_T29 t140 x33_6).f1)) ∧ w'.cell? ⟨(ad148.add ((x33_6).toNat * 3)).block, (ad148.add ((x33_6).toNat * 3)).off + 2, none⟩ = some (.slice A148_2 ((rd_T29 t140 x33_6).f2).length c148_2) ∧ w'.cell? (ad149.add ((x33_6).toNat * 3)) = some (.int .i64 ((rd_T29 t144 x33_6).f0)) ∧ w'.cell? ⟨(ad149.add ((x33_6).toNat * 3)).block, (ad149.add ((x33_6).toNat * 3)).off + 1, none⟩ = some (.int .i64 ((rd_T29 t144 x33_6).f1)) ∧ w'.cell? ⟨(ad149.add ((x33_6).toNat * 3)).block, (ad149.add ((x33_6).toNat * 3)).off + 2, none⟩ = some (.slice A149_2 ((rd_T29 t144 x33_6).f2).length c149_2)) (ds := []) #[false, false, false, false, false, false, false, false, false, false] (by kernel_rfl) rfl rfl ⟨hx148_0, hx148_1, hx148_2, hx149_0, hx149_1, hx149_2⟩ (fun hHeld => ?_); refine with_tabW laws_FnMembers.tab29 laws_FnMembers.bits29 (fun HT_ HW_ => ?_)
                 generalize wr.drew = w78 at HO_29 HO_31 HO_111002 BK110 HB HL148_2 HL149_2 HR148_2 HR149_2 hx148_0 hx148_1 hx148_2 hx149_0 hx149_1 hx149_2 hHeld ⊢
                 refine pu (i := 0) (N := some 203) #[true, false, false, false, false, false, false, false, false, false] rfl rfl HT_.out ?_
                 refine pu (i := 1) (N := some 204) #[true, true, false, false, false, false, false, false, false, false] rfl rfl HT_.out ?_
                 refine pu (i := 2) (N := some 205) #[true, true, true, false, false, false, false, false, false, false] rfl rfl HT_.out ?_
                 refine pu (i := 4) (N := some 207) #[true, true, true, false, true, false, false, false, false, false] rfl rfl HT_.out ?_
                 refine pu (i := 5) (N := some 208) #[true, true, true, false, true, true, false, false, false, false] rfl rfl HT_.out ?_
                 refine pu (i := 6) (N := some 209) #[true, true, true, false, true, true, true, false, false, false] rfl rfl HT_.out ?_
                 refine tk (i := 3) (N := some 206) #[true, true, true, true, true, true, true, false, false, false] rfl rfl HT_.out HW_.out (Or.inl ⟨by rfl, by rintro w' ⟨s0, s1, s2, s3, s4, s5⟩; go_simp; with_reducible rfl⟩) hHeld ?_
                 refine tk (i := 7) (N := some 210) #[true, true, true, true, true, true, true, true, false, false] rfl rfl HT_.out HW_.out (Or.inl ⟨by rfl, by rintro w' ⟨s0, s1, s2, s3, s4, s5⟩; go_simp; with_reducible rfl⟩) hHeld ?_
                 refine one_ (i := 8) (N := some 211) #[true, true, true, true, true, true, true, true, true, false] rfl rfl (one_of HT_.out (by kernel_rfl)) (by decide) (fun K hK => ?_)
                 refine goes_ Try.func54 (by kernel_rfl) rfl #[.agg #[.int .i64 ((rd_T29 t140 x33_6).f0), .int .i64 ((rd_T29 t140 x33_6).f1), .slice A148_2 ((rd_T29 t140 x33_6).f2).length c148_2], .agg #[.int .i64 ((rd_T29 t144 x33_6).f0), .int .i64 ((rd_T29 t144 x33_6).f1), .slice A149_2 ((rd_T29 t144 x33_6).f2).length c149_2]] (by rfl) rfl rfl (by (try simp only [List.map_toArray, List.map_cons, List.map_nil]); first | done | rfl | (simp only [List.length_drop, List.length_take]; rfl)) ?_
                 with_reducible refine (laws_rFields.calls k6 ((rd_T29 t140 x33_6).f0) ((rd_T29 t140 x33_6).f1) _ _ ((rd_T29 t140 x33_6).f2) ((rd_T29 t144 x33_6).f0) ((rd_T29 t144 x33_6).f1) _ _ ((rd_T29 t144 x33_6).f2) true _ ?side1 ?side2 ?side3 ?side4 A75.out).mono ?_
                 (case side1 => repeat (first | exact (by repeat (first | (with_reducible exact HR148_2.out) | (with_reducible refine Kd.C_alloc ?_ _) | (with_reducible refine Kd.C_drewN ?_ _) | (with_reducible refine Kd.C_drew ?_) | exact HR148_2.out)) | (with_reducible refine Kd.C_alloc ?_ _) | (with_reducible refine Kd.C_drewN ?_ _) | (with_reducible refine Kd.C_drew ?_)))
                 (case side2 => exact HC148_2.out)
                 (case side3 => repeat (first | exact (by repeat (first | (with_reducible exact HR149_2.out) | (with_reducible refine Kd.C_alloc ?_ _) | (with_reducible refine Kd.C_drewN ?_ _) | (with_reducible refine Kd.C_drew ?_) | exact HR149_2.out)) | (with_reducible refine Kd.C_alloc ?_ _) | (with_reducible refine Kd.C_drewN ?_ _) | (with_reducible refine Kd.C_drew ?_)))
                 (case side4 => exact HC149_2.out)
                 rintro e w80 ⟨rfl, hb⟩
                 have HS0_ := (hb.cell (World.block_lt_of_cell? _ _ (hHeld.1))).trans (hHeld.1)
                 have HS1_ := (hb.cell (World.block_lt_of_cell? _ _ (hHeld.2.1))).trans (hHeld.2.1)
                 have HS2_ := (hb.cell (World.block_lt_of_cell? _ _ (hHeld.2.2.1))).trans (hHeld.2.2.1)
                 have HS3_ := (hb.cell (World.block_lt_of_cell? _ _ (hHeld.2.2.2.1))).trans (hHeld.2.2.2.1)
                 have HS4_ := (hb.cell (World.block_lt_of_cell? _ _ (hHeld.2.2.2.2.1))).trans (hHeld.2.2.2.2.1)
                 have HS5_ := (hb.cell (World.block_lt_of_cell? _ _ (hHeld.2.2.2.2.2))).trans (hHeld.2.2.2.2.2)
                 refine ⟨_, rfl, ?_⟩
                 have n0_ := aK (Kd.S_below (by (with_reducible repeat (first | apply Kd.S_alloc | apply Kd.S_drewN | apply Kd.S_drew)); exact HO_29.out) hb)
                 have n1_ := aK (Kd.S_below (by (with_reducible repeat (first | apply Kd.S_alloc | apply Kd.S_drewN | apply Kd.S_drew)); exact HO_31.out) hb)
                 have n2_ := aK (Kd.Q_below (pQ HO_111002.out) hb)
                 have n3_ := aK (Kd.R_below (pR HL148_2.out) hb)
                 have n4_ := aK (Kd.R_below (pR HL149_2.out) hb)
                 have n6_ := aK (Kd.C_below (by repeat (first | (with_reducible exact HR148_2.out) | (with_reducible refine Kd.C_alloc ?_ _) | (with_reducible refine Kd.C_drewN ?_ _) | (with_reducible refine Kd.C_drew ?_) | exact HR148_2.out)) hb)
                 have n7_ := aK (Kd.C_below (by repeat (first | (with_reducible exact HR149_2.out) | (with_reducible refine Kd.C_alloc ?_ _) | (with_reducible refine Kd.C_drewN ?_ _) | (with_reducible refine Kd.C_drew ?_) | exact HR149_2.out)) hb)
                 replace BK110 := bB BK110 hb
                 replace HB := bS HB hb
                 clear HO_29 HO_31 HO_111002 HL148_2 HL149_2 HR148_2 HR149_2
                 have HO_29 := n0_
                 have HO_31 := n1_
                 have HO_111002 := n2_
                 have HL148_2 := n3_
                 have HL149_2 := n4_
                 have HR148_2 := n6_
                 have HR149_2 := n7_
                 clear n0_ n1_ n2_ n3_ n4_ n6_ n7_
                 (try clear hb)
                 (try clear hb2)
                 (try clear hk)
                 (try clear hi)
                 refine hK.out _ _ ⟨HS0_, HS1_, HS2_, HS3_, HS4_, HS5_⟩ (fun hHeld => ?_)
                 clear hK K
                 refine norm_ (a' := ?_) ?_ ?_
                 rotate_left
                 ·
                  show Act.put _ (some 211) _ = _
                  simp only [sP]
                  rfl
                 refine pu (i := 9) (N := some 212) #[true, true, true, true, true, true, true, true, true, true] rfl rfl HT_.out ?_
                 refine done_ (done_of HT_.out (by kernel_rfl)) ?_
                 try go_wp2
                 go_roundg k6
                 case measure => have := HJ6.out; have := HJ20.out; have := HJ33.out; have := HJ41.out; have := HJ56.out; have := HK6.out; omega
                 case rel => exact ⟨(wrap64 (x33_6 + 1)), (by first | rfl | (simp; done) | (simp [*]; done)), H', ⟨by have := HJ6.out; have := HJ20.out; have := HJ33.out; have := HJ41.out; have := HJ56.out; have := HK6.out; omega⟩, ⟨by (with_reducible repeat (first | apply Kd.S_alloc | apply Kd.S_drewN | apply Kd.S_drew)); exact HO_29.out⟩, ⟨by (with_reducible repeat (first | apply Kd.S_alloc | apply Kd.S_drewN | apply Kd.S_drew)); exact HO_31.out⟩, ⟨pQ HO_111002.out⟩, ⟨by refine bk ?_; exact BK110.out⟩, ⟨pT HB.out⟩⟩
                replace c76 := Bool.eq_false_iff.mpr c76
                subst c76
                have H1 : (some false) = some r := by rw [if_neg (show ¬ (false = true) by decide)] at H; exact H
                clear H
                have H := H1
                clear H1
                obtain rfl := Option.some.inj H
                obtain ⟨Ao81, co81, eo81⟩ := Kd.S_slice HO_29.out
                subst eo81
                try go_wp2
                have n0_ := aK (Kd.S_drew HO_29.out)
                have n1_ := aK (Kd.S_drew HO_31.out)
                have n2_ := aK (Kd.Q_drew HO_111002.out)
                have n3_ := aK (blk_drew BK110.out)
                have n4_ := aK (below_drew1 HB.out)
                clear HO_29 HO_31 HO_111002 BK110 HB
                have HO_29 := n0_
                have HO_31 := n1_
                have HO_111002 := n2_
                have BK110 := n3_
                have HB := n4_
                clear n0_ n1_ n2_ n3_ n4_
                have p148 : 0 ≤ (x33_6 : Int) := of_decide_eq_true (by first | (with_reducible assumption) | assumption)
                have q148 : x33_6 < (t140.length : Int) := of_decide_eq_true (by first | (with_reducible assumption) | assumption)
                obtain ⟨ad148, A148_2, c148_2, e148, hx148_0, hx148_1, hx148_2, hl148_2, hi148_2⟩ := at_T29 (Kd.S_reads' HO_29.out).2.2 x33_6 p148 q148
                cases e148
                obtain ⟨ce148, hce148, hMe148, hcc148⟩ := Kd.S_get HO_29.out z29 x33_6 p148 (by first | exact q148 | exact of_decide_eq_true (by first | (with_reducible assumption) | assumption) | (have e_ := (Kd.S_reads' HO_29.out).1; omega))
                obtain ⟨ve148_2, rfl, ge148_2⟩ := k29_openM hMe148
                have hv148_2 := hcc148 2 _ rfl
                rw [add_field _ _ 2 (by omega)] at hv148_2
                replace hv148_2 := Option.some.inj (hv148_2.symm.trans hx148_2)
                rw [hv148_2] at ge148_2
                have HL148_2 := aK (show Kd.R (Kd.int .i64) 3 _ _ _ _ ((rd_T29 t140 x33_6).f2) from ge148_2)
                clear hv148_2 ge148_2 hcc148 hce148
                have HR148_2 := Aside0.mk hi148_2
                have HC148_2 := Aside0.mk hl148_2
                clear hi148_2 hl148_2
                replace p148 := eq_true p148
                replace q148 := eq_true q148
                obtain ⟨Ao83, co83, eo83⟩ := Kd.S_slice HO_31.out
                (first | subst eo83 | (obtain ⟨f4_, f5_⟩ := sI eo83; subst f4_; subst f5_))
                have p149 : 0 ≤ (x33_6 : Int) := of_decide_eq_true (by first | (with_reducible assumption) | assumption)
                have q149 : x33_6 < (t144.length : Int) := of_decide_eq_true (by first | (with_reducible assumption) | assumption)
                obtain ⟨ad149, A149_2, c149_2, e149, hx149_0, hx149_1, hx149_2, hl149_2, hi149_2⟩ := at_T29 (Kd.S_reads' HO_31.out).2.2 x33_6 p149 q149
                cases e149
                obtain ⟨ce149, hce149, hMe149, hcc149⟩ := Kd.S_get HO_31.out z29 x33_6 p149 (by first | exact q149 | exact of_decide_eq_true (by first | (with_reducible assumption) | assumption) | (have e_ := (Kd.S_reads' HO_31.out).1; omega))
                obtain ⟨ve149_2, rfl, ge149_2⟩ := k29_openM hMe149
                have hv149_2 := hcc149 2 _ rfl
                rw [add_field _ _ 2 (by omega)] at hv149_2
                replace hv149_2 := Option.some.inj (hv149_2.symm.trans hx149_2)
                rw [hv149_2] at ge149_2
                have HL149_2 := aK (show Kd.R (Kd.int .i64) 3 _ _ _ _ ((rd_T29 t144 x33_6).f2) from ge149_2)
                clear hv149_2 ge149_2 hcc149 hce149
                have HR149_2 := Aside0.mk hi149_2
                have HC149_2 := Aside0.mk hl149_2
                clear hi149_2 hl149_2
                replace p149 := eq_true p149
                replace q149 := eq_true q149
                refine start_ (n := 10) (S := fun w' => w'.cell? (ad148.add ((x33_6).toNat * 3)) = some (.int .i64 ((rd_T29 t140 x33_6).f0)) ∧ w'.cell? ⟨(ad148.add ((x33_6).toNat * 3)).block, (ad148.add ((x33_6).toNat * 3)).off + 1, none⟩ = some (.int .i64 ((rd_T29 t140 x33_6).f1)) ∧ w'.cell? ⟨(ad148.add ((x33_6).toNat * 3)).block, (ad148.add ((x33_6).toNat * 3)).off + 2, none⟩ = some (.slice A148_2 ((rd_T29 t140 x33_6).f2).length c148_2) ∧ w'.cell? (ad149.add ((x33_6).toNat * 3)) = some (.int .i64 ((rd_T29 t144 x33_6).f0)) ∧ w'.cell? ⟨(ad149.add ((x33_6).toNat * 3)).block, (ad149.add ((x33_6).toNat * 3)).off + 1, none⟩ = some (.int .i64 ((rd_T29 t144 x33_6).f1)) ∧ w'.cell? ⟨(ad149.add ((x33_6).toNat * 3)).block, (ad149.add ((x33_6).toNat * 3)).off + 2, none⟩ = some (.slice A149_2 ((rd_T29 t144 x33_6).f2).length c149_2)) (ds := []) #[false, false, false, false, false, false, false, false, false, false] (by kernel_rfl) rfl rfl ⟨hx148_0, hx148_1, hx148_2, hx149_0, hx149_1, hx149_2⟩ (fun hHeld => ?_); refine with_tabW laws_FnMembers.tab29 laws_FnMembers.bits29 (fun HT_ HW_ => ?_)
                generalize wr.drew = w82 at HO_29 HO_31 HO_111002 BK110 HB HL148_2 HL149_2 HR148_2 HR149_2 hx148_0 hx148_1 hx148_2 hx149_0 hx149_1 hx149_2 hHeld ⊢
                refine pu (i := 0) (N := some 203) #[true, false, false, false, false, false, false, false, false, false] rfl rfl HT_.out ?_
                refine pu (i := 1) (N := some 204) #[true, true, false, false, false, false, false, false, false, false] rfl rfl HT_.out ?_
                refine pu (i := 2) (N := some 205) #[true, true, true, false, false, false, false, false, false, false] rfl rfl HT_.out ?_
                refine pu (i := 4) (N := some 207) #[true, true, true, false, true, false, false, false, false, false] rfl rfl HT_.out ?_
                refine pu (i := 5) (N := some 208) #[true, true, true, false, true, true, false, false, false, false] rfl rfl HT_.out ?_
                refine pu (i := 6) (N := some 209) #[true, true, true, false, true, true, true, false, false, false] rfl rfl HT_.out ?_
                refine tk (i := 3) (N := some 206) #[true, true, true, true, true, true, true, false, false, false] rfl rfl HT_.out HW_.out (Or.inl ⟨by rfl, by rintro w' ⟨s0, s1, s2, s3, s4, s5⟩; go_simp; with_reducible rfl⟩) hHeld ?_
                refine tk (i := 7) (N := some 210) #[true, true, true, true, true, true, true, true, false, false] rfl rfl HT_.out HW_.out (Or.inl ⟨by rfl, by rintro w' ⟨s0, s1, s2, s3, s4, s5⟩; go_simp; with_reducible rfl⟩) hHeld ?_
                refine one_ (i := 8) (N := some 211) #[true, true, true, true, true, true, true, true, true, false] rfl rfl (one_of HT_.out (by kernel_rfl)) (by decide) (fun K hK => ?_)
                refine goes_ Try.func54 (by kernel_rfl) rfl #[.agg #[.int .i64 ((rd_T29 t140 x33_6).f0), .int .i64 ((rd_T29 t140 x33_6).f1), .slice A148_2 ((rd_T29 t140 x33_6).f2).length c148_2], .agg #[.int .i64 ((rd_T29 t144 x33_6).f0), .int .i64 ((rd_T29 t144 x33_6).f1), .slice A149_2 ((rd_T29 t144 x33_6).f2).length c149_2]] (by rfl) rfl rfl (by (try simp only [List.map_toArray, List.map_cons, List.map_nil]); first | done | rfl | (simp only [List.length_drop, List.length_take]; rfl)) ?_
                with_reducible refine (laws_rFields.calls k6 ((rd_T29 t140 x33_6).f0) ((rd_T29 t140 x33_6).f1) _ _ ((rd_T29 t140 x33_6).f2) ((rd_T29 t144 x33_6).f0) ((rd_T29 t144 x33_6).f1) _ _ ((rd_T29 t144 x33_6).f2) false _ ?side1 ?side2 ?side3 ?side4 A75.out).mono ?_
                (case side1 => repeat (first | exact (by repeat (first | (with_reducible exact HR148_2.out) | (with_reducible refine Kd.C_alloc ?_ _) | (with_reducible refine Kd.C_drewN ?_ _) | (with_reducible refine Kd.C_drew ?_) | exact HR148_2.out)) | (with_reducible refine Kd.C_alloc ?_ _) | (with_reducible refine Kd.C_drewN ?_ _) | (with_reducible refine Kd.C_drew ?_)))
                (case side2 => exact HC148_2.out)
                (case side3 => repeat (first | exact (by repeat (first | (with_reducible exact HR149_2.out) | (with_reducible refine Kd.C_alloc ?_ _) | (with_reducible refine Kd.C_drewN ?_ _) | (with_reducible refine Kd.C_drew ?_) | exact HR149_2.out)) | (with_reducible refine Kd.C_alloc ?_ _) | (with_reducible refine Kd.C_drewN ?_ _) | (with_reducible refine Kd.C_drew ?_)))
                (case side4 => exact HC149_2.out)
                rintro e w84 ⟨rfl, hb⟩
                have HS0_ := (hb.cell (World.block_lt_of_cell? _ _ (hHeld.1))).trans (hHeld.1)
                have HS1_ := (hb.cell (World.block_lt_of_cell? _ _ (hHeld.2.1))).trans (hHeld.2.1)
                have HS2_ := (hb.cell (World.block_lt_of_cell? _ _ (hHeld.2.2.1))).trans (hHeld.2.2.1)
                have HS3_ := (hb.cell (World.block_lt_of_cell? _ _ (hHeld.2.2.2.1))).trans (hHeld.2.2.2.1)
                have HS4_ := (hb.cell (World.block_lt_of_cell? _ _ (hHeld.2.2.2.2.1))).trans (hHeld.2.2.2.2.1)
                have HS5_ := (hb.cell (World.block_lt_of_cell? _ _ (hHeld.2.2.2.2.2))).trans (hHeld.2.2.2.2.2)
                refine ⟨_, rfl, ?_⟩
                have n0_ := aK (Kd.S_below (by (with_reducible repeat (first | apply Kd.S_alloc | apply Kd.S_drewN | apply Kd.S_drew)); exact HO_29.out) hb)
                have n1_ := aK (Kd.S_below (by (with_reducible repeat (first | apply Kd.S_alloc | apply Kd.S_drewN | apply Kd.S_drew)); exact HO_31.out) hb)
                have n2_ := aK (Kd.Q_below (pQ HO_111002.out) hb)
                have n3_ := aK (Kd.R_below (pR HL148_2.out) hb)
                have n4_ := aK (Kd.R_below (pR HL149_2.out) hb)
                have n6_ := aK (Kd.C_below (by repeat (first | (with_reducible exact HR148_2.out) | (with_reducible refine Kd.C_alloc ?_ _) | (with_reducible refine Kd.C_drewN ?_ _) | (with_reducible refine Kd.C_drew ?_) | exact HR148_2.out)) hb)
                have n7_ := aK (Kd.C_below (by repeat (first | (with_reducible exact HR149_2.out) | (with_reducible refine Kd.C_alloc ?_ _) | (with_reducible refine Kd.C_drewN ?_ _) | (with_reducible refine Kd.C_drew ?_) | exact HR149_2.out)) hb)
                replace BK110 := bB BK110 hb
                replace HB := bS HB hb
                clear HO_29 HO_31 HO_111002 HL148_2 HL149_2 HR148_2 HR149_2
                have HO_29 := n0_
                have HO_31 := n1_
                have HO_111002 := n2_
                have HL148_2 := n3_
                have HL149_2 := n4_
                have HR148_2 := n6_
                have HR149_2 := n7_
                clear n0_ n1_ n2_ n3_ n4_ n6_ n7_
                (try clear hb)
                (try clear hb2)
                (try clear hk)
                (try clear hi)
                refine hK.out _ _ ⟨HS0_, HS1_, HS2_, HS3_, HS4_, HS5_⟩ (fun hHeld => ?_)
                clear hK K
                refine norm_ (a' := ?_) ?_ ?_
                rotate_left
                ·
                 show Act.put _ (some 211) _ = _
                 simp only [sP]
                 rfl
                refine pu (i := 9) (N := some 212) #[true, true, true, true, true, true, true, true, true, true] rfl rfl HT_.out ?_
                refine done_ (done_of HT_.out (by kernel_rfl)) ?_
                try go_wp2
                go_ret
                exact ⟨er, pT HB.out⟩
               rw [if_neg c74] at H
               exact absurd H (by simp)
              rw [if_neg c73] at H
              exact absurd H (by simp)
             rw [if_neg c72] at H
             have c72b0 : decide (x33_6 < (t140.length : Int)) = false := decide_eq_false c72
             clear c72
             replace H := Option.bind_eq_some_iff.mp H
             obtain ⟨⟨t151, t154⟩, A850, H⟩ := H
             replace H : ((impl_AgreeingCells.f k6 t151 t154).bind fun bt155 => ((spec_AgreeingCells.f k6 t151 t154).bind fun bt157 => (if bt155.1 = bt157.1 then (if (bt155.2 == bt157.2) = true then (if bt155.2 = true then (if 0 < (t151.length : Int) then (some (decide (bt155.1 ≤ (((rd_T29 t151 0).f2).length : Int)))) else (none)) else (some true)) else (some false)) else (some false)))) = some r := H
             have A85 := Aside0.mk A850
             clear A850
             replace H := Option.bind_eq_some_iff.mp H
             obtain ⟨⟨t155, t156⟩, A860, H⟩ := H
             replace H : ((spec_AgreeingCells.f k6 t151 t154).bind fun bt157 => (if t155 = bt157.1 then (if (t156 == bt157.2) = true then (if t156 = true then (if 0 < (t151.length : Int) then (some (decide (t155 ≤ (((rd_T29 t151 0).f2).length : Int)))) else (none)) else (some true)) else (some false)) else (some false))) = some r := H
             have A86 := Aside0.mk A860
             clear A860
             replace H := Option.bind_eq_some_iff.mp H
             obtain ⟨⟨t157, t158⟩, A870, H⟩ := H
             replace H : (if t155 = t157 then (if (t156 == t158) = true then (if t156 = true then (if 0 < (t151.length : Int) then (some (decide (t155 ≤ (((rd_T29 t151 0).f2).length : Int)))) else (none)) else (some true)) else (some false)) else (some false)) = some r := H
             have A87 := Aside0.mk A870
             clear A870
             by_cases c88 : t155 = t157
             ·
              rw [if_pos c88] at H
              have c88b0 : (t155 == t157) = true := beq_iff_eq.mpr c88
              have c88b1 : (t155 != t157) = false := bne_eq_false_iff_eq.mpr c88
              clear c88
              by_cases c89 : (t156 == t158) = true
              ·
               rw [if_pos c89] at H
               have c89b0 : (t156 == t158) = true := c89
               (try (have c89b1 : decide (t156 = t158) = true := by simpa using c89))
               (try (have c89b2 : (t156 == t158) = true := by simpa using c89))
               clear c89
               by_cases c90 : t156 = true
               ·
                subst c90
                have H1 : (if 0 < (t151.length : Int) then (some (decide (t155 ≤ (((rd_T29 t151 0).f2).length : Int)))) else (none)) = some r := by rw [if_pos rfl] at H; exact H
                clear H
                have H := H1
                clear H1
                by_cases c91 : 0 < (t151.length : Int)
                ·
                 rw [if_pos c91] at H
                 have c91b0 : decide (0 < (t151.length : Int)) = true := decide_eq_true c91
                 have c91b1 : decide (0 < t151.length) = true := decide_eq_true (by omega)
                 clear c91
                 obtain rfl := Option.some.inj H
                 obtain ⟨Ao92, co92, eo92⟩ := Kd.S_slice HO_29.out
                 subst eo92
                 go_wp2_with (first | ((with_reducible refine gate_callee (f := 55) rfl ?_); refine gl (some 215) Try.func55 #[.slice A0 l0.length c0] ?_; (with_reducible refine (spec_DrawAgreeingCells.calls k6 _ _ l0 t151 t154 _ ?side1 ?side2 A85.out).mono ?_); (case side1 => exact pC (Kd.C_below HR0.out HB.out)); (case side2 => exact HC0.out); rintro e w93 ⟨v152, rfl, ho0, hb⟩; refine ⟨_, rfl, ?_⟩; have n0_ := aK (Kd.S_below (by (with_reducible repeat (first | apply Kd.S_alloc | apply Kd.S_drewN | apply Kd.S_drew)); exact HO_29.out) hb); have n1_ := aK (Kd.S_below (by (with_reducible repeat (first | apply Kd.S_alloc | apply Kd.S_drewN | apply Kd.S_drew)); exact HO_31.out) hb); have n2_ := aK (Kd.Q_below (pQ HO_111002.out) hb); have HO153 := aK (Kd.V_lower (Kd.V_mono (ok' := fun k_ => some k_ ≠ (.slice Ao92 t140.length co92 : Value).ownBlock ∧ some k_ ≠ (v146 : Value).ownBlock ∧ some k_ ≠ (.slice Ao11 t107.length co11 : Value).ownBlock ∧ k_ ≠ gb110) ho0 (fun k_ hk_ => ⟨(Kd.fresh' (Kd.S_lt (by (with_reducible repeat (first | apply Kd.S_alloc | apply Kd.S_drewN | apply Kd.S_drew)); exact HO_29.out)) k_ hk_), (Kd.fresh' (Kd.S_lt (by (with_reducible repeat (first | apply Kd.S_alloc | apply Kd.S_drewN | apply Kd.S_drew)); exact HO_31.out)) k_ hk_), (Kd.fresh' (Kd.Q_lt (pQ HO_111002.out)) k_ hk_), (Kd.freshB (g := gb110) (o := .cells #[.int .i64 t105, .int .i64 t106, .slice Ao11 t107.length co11] 29 (0, 0)) (pB BK110.out) k_ hk_)⟩)) (below_size (pS HB.out))); replace BK110 := bB BK110 hb; replace HB := bS HB hb; clear HO_29 HO_31 HO_111002; have HO_29 := n0_; have HO_31 := n1_; have HO_111002 := n2_; clear n0_ n1_ n2_; (try clear hb); (try clear hb2); (try clear hk); (try clear hi); (try clear ho0); obtain ⟨Ao94, co94, eo94⟩ := Kd.V_slice HO153.out; subst eo94) | ((with_reducible refine gate_callee (f := 56) rfl ?_); refine gl (some 221) Try.func56 #[.slice Ao94 t151.length co94, .int .i64 t154] ?_; (with_reducible refine (impl_AgreeingCells.calls k6 _ _ t151 t154 t155 true _ ?side1 ?side2 A86.out).mono ?_); (case side1 => exact pC (Kd.V_reads' HO153.out).2.2); (case side2 => exact (Kd.V_reads' HO153.out).2.1); rintro e w95 ⟨rfl, hb⟩; refine ⟨_, rfl, ?_⟩; have n0_ := aK (Kd.S_below (by (with_reducible repeat (first | apply Kd.S_alloc | apply Kd.S_drewN | apply Kd.S_drew)); exact HO_29.out) hb); have n1_ := aK (Kd.S_below (by (with_reducible repeat (first | apply Kd.S_alloc | apply Kd.S_drewN | apply Kd.S_drew)); exact HO_31.out) hb); have n2_ := aK (Kd.Q_below (pQ HO_111002.out) hb); have n3_ := aK (Kd.V_below (by (with_reducible repeat (first | apply Kd.V_alloc | apply Kd.V_drewN | apply Kd.V_drew)); exact HO153.out) hb); replace BK110 := bB BK110 hb; replace HB := bS HB hb; clear HO_29 HO_31 HO_111002 HO153; have HO_29 := n0_; have HO_31 := n1_; have HO_111002 := n2_; have HO153 := n3_; clear n0_ n1_ n2_ n3_; (try clear hb); (try clear hb2); (try clear hk); (try clear hi)) | ((with_reducible refine gate_callee (f := 57) rfl ?_); refine gl (some 227) Try.func57 #[.slice Ao94 t151.length co94, .int .i64 t154] ?_; (with_reducible refine (spec_AgreeingCells.calls k6 _ _ t151 t154 t157 t158 _ ?side1 ?side2 A87.out).mono ?_); (case side1 => exact pC (Kd.V_reads' HO153.out).2.2); (case side2 => exact (Kd.V_reads' HO153.out).2.1); rintro e w96 ⟨rfl, hb⟩; refine ⟨_, rfl, ?_⟩; have n0_ := aK (Kd.S_below (by (with_reducible repeat (first | apply Kd.S_alloc | apply Kd.S_drewN | apply Kd.S_drew)); exact HO_29.out) hb); have n1_ := aK (Kd.S_below (by (with_reducible repeat (first | apply Kd.S_alloc | apply Kd.S_drewN | apply Kd.S_drew)); exact HO_31.out) hb); have n2_ := aK (Kd.Q_below (pQ HO_111002.out) hb); have n3_ := aK (Kd.V_below (by (with_reducible repeat (first | apply Kd.V_alloc | apply Kd.V_drewN | apply Kd.V_drew)); exact HO153.out) hb); replace BK110 := bB BK110 hb; replace HB := bS HB hb; clear HO_29 HO_31 HO_111002 HO153; have HO_29 := n0_; have HO_31 := n1_; have HO_111002 := n2_; have HO153 := n3_; clear n0_ n1_ n2_ n3_; (try clear hb); (try clear hb2); (try clear hk); (try clear hi); have p159 : 0 ≤ (0 : Int) := (by omega); have q159 : 0 < (t151.length : Int) := of_decide_eq_true (by first | (with_reducible assumption) | assumption); obtain ⟨ad159, A159_2, c159_2, e159, hx159_0, hx159_1, hx159_2, hl159_2, hi159_2⟩ := at_T29 (Kd.V_reads' HO153.out).2.2 0 p159 q159; cases e159; obtain ⟨ce159, hce159, hMe159, hcc159⟩ := Kd.V_get HO153.out z29 0 p159 (by first | exact q159 | exact of_decide_eq_true (by first | (with_reducible assumption) | assumption) | (have e_ := (Kd.V_reads' HO153.out).1; omega)); obtain ⟨ua159_2, uc159_2, rfl, ul159_2, ge159_2⟩ := k29_openF hMe159; have hv159_2 := hcc159 2 _ rfl; rw [add_field _ _ 2 (by omega)] at hv159_2; replace hv159_2 := Option.some.inj (hv159_2.symm.trans hx159_2); injection hv159_2 with hva_ hvn_ hvc_; rw [hva_] at ge159_2; rw [hvc_] at ul159_2; have HL159_2 := aK (show Kd.V (Kd.int .i64) 3 _ w.heap.size _ _ ((rd_T29 t151 0).f2) from Kd.V_mk ul159_2 ge159_2); clear hva_ hvn_ hvc_ ge159_2 ul159_2 hcc159 hce159; have qi159 : (0 < t151.length) = True := eq_true (by omega); (try rw [show ((0 : Int)).toNat = 0 from rfl] at hx159_0); (try rw [show 0 * 3 = 0 from rfl] at hx159_0); (try rw [Addr.add_zero'] at hx159_0); (try rw [show ((0 : Int)).toNat = 0 from rfl] at hx159_1); (try rw [show 0 * 3 = 0 from rfl] at hx159_1); (try rw [Addr.add_zero'] at hx159_1); (try rw [show ((0 : Int)).toNat = 0 from rfl] at hx159_2); (try rw [show 0 * 3 = 0 from rfl] at hx159_2); (try rw [Addr.add_zero'] at hx159_2); have HR159_2 := Aside0.mk hi159_2; have HC159_2 := Aside0.mk hl159_2; clear hi159_2 hl159_2; replace p159 := eq_true p159; replace q159 := eq_true q159))
                 go_ret
                 exact ⟨er, pT HB.out⟩
                rw [if_neg c91] at H
                exact absurd H (by simp)
               replace c90 := Bool.eq_false_iff.mpr c90
               subst c90
               have H1 : (some true) = some r := by rw [if_neg (show ¬ (false = true) by decide)] at H; exact H
               clear H
               have H := H1
               clear H1
               obtain rfl := Option.some.inj H
               obtain ⟨Ao97, co97, eo97⟩ := Kd.S_slice HO_29.out
               subst eo97
               go_wp2_with (first | ((with_reducible refine gate_callee (f := 55) rfl ?_); refine gl (some 215) Try.func55 #[.slice A0 l0.length c0] ?_; (with_reducible refine (spec_DrawAgreeingCells.calls k6 _ _ l0 t151 t154 _ ?side1 ?side2 A85.out).mono ?_); (case side1 => exact pC (Kd.C_below HR0.out HB.out)); (case side2 => exact HC0.out); rintro e w98 ⟨v152, rfl, ho0, hb⟩; refine ⟨_, rfl, ?_⟩; have n0_ := aK (Kd.S_below (by (with_reducible repeat (first | apply Kd.S_alloc | apply Kd.S_drewN | apply Kd.S_drew)); exact HO_29.out) hb); have n1_ := aK (Kd.S_below (by (with_reducible repeat (first | apply Kd.S_alloc | apply Kd.S_drewN | apply Kd.S_drew)); exact HO_31.out) hb); have n2_ := aK (Kd.Q_below (pQ HO_111002.out) hb); have HO153 := aK (Kd.V_lower (Kd.V_mono (ok' := fun k_ => some k_ ≠ (.slice Ao97 t140.length co97 : Value).ownBlock ∧ some k_ ≠ (v146 : Value).ownBlock ∧ some k_ ≠ (.slice Ao11 t107.length co11 : Value).ownBlock ∧ k_ ≠ gb110) ho0 (fun k_ hk_ => ⟨(Kd.fresh' (Kd.S_lt (by (with_reducible repeat (first | apply Kd.S_alloc | apply Kd.S_drewN | apply Kd.S_drew)); exact HO_29.out)) k_ hk_), (Kd.fresh' (Kd.S_lt (by (with_reducible repeat (first | apply Kd.S_alloc | apply Kd.S_drewN | apply Kd.S_drew)); exact HO_31.out)) k_ hk_), (Kd.fresh' (Kd.Q_lt (pQ HO_111002.out)) k_ hk_), (Kd.freshB (g := gb110) (o := .cells #[.int .i64 t105, .int .i64 t106, .slice Ao11 t107.length co11] 29 (0, 0)) (pB BK110.out) k_ hk_)⟩)) (below_size (pS HB.out))); replace BK110 := bB BK110 hb; replace HB := bS HB hb; clear HO_29 HO_31 HO_111002; have HO_29 := n0_; have HO_31 := n1_; have HO_111002 := n2_; clear n0_ n1_ n2_; (try clear hb); (try clear hb2); (try clear hk); (try clear hi); (try clear ho0); obtain ⟨Ao99, co99, eo99⟩ := Kd.V_slice HO153.out; subst eo99) | ((with_reducible refine gate_callee (f := 56) rfl ?_); refine gl (some 221) Try.func56 #[.slice Ao99 t151.length co99, .int .i64 t154] ?_; (with_reducible refine (impl_AgreeingCells.calls k6 _ _ t151 t154 t155 false _ ?side1 ?side2 A86.out).mono ?_); (case side1 => exact pC (Kd.V_reads' HO153.out).2.2); (case side2 => exact (Kd.V_reads' HO153.out).2.1); rintro e w100 ⟨rfl, hb⟩; refine ⟨_, rfl, ?_⟩; have n0_ := aK (Kd.S_below (by (with_reducible repeat (first | apply Kd.S_alloc | apply Kd.S_drewN | apply Kd.S_drew)); exact HO_29.out) hb); have n1_ := aK (Kd.S_below (by (with_reducible repeat (first | apply Kd.S_alloc | apply Kd.S_drewN | apply Kd.S_drew)); exact HO_31.out) hb); have n2_ := aK (Kd.Q_below (pQ HO_111002.out) hb); have n3_ := aK (Kd.V_below (by (with_reducible repeat (first | apply Kd.V_alloc | apply Kd.V_drewN | apply Kd.V_drew)); exact HO153.out) hb); replace BK110 := bB BK110 hb; replace HB := bS HB hb; clear HO_29 HO_31 HO_111002 HO153; have HO_29 := n0_; have HO_31 := n1_; have HO_111002 := n2_; have HO153 := n3_; clear n0_ n1_ n2_ n3_; (try clear hb); (try clear hb2); (try clear hk); (try clear hi)) | ((with_reducible refine gate_callee (f := 57) rfl ?_); refine gl (some 227) Try.func57 #[.slice Ao99 t151.length co99, .int .i64 t154] ?_; (with_reducible refine (spec_AgreeingCells.calls k6 _ _ t151 t154 t157 t158 _ ?side1 ?side2 A87.out).mono ?_); (case side1 => exact pC (Kd.V_reads' HO153.out).2.2); (case side2 => exact (Kd.V_reads' HO153.out).2.1); rintro e w101 ⟨rfl, hb⟩; refine ⟨_, rfl, ?_⟩; have n0_ := aK (Kd.S_below (by (with_reducible repeat (first | apply Kd.S_alloc | apply Kd.S_drewN | apply Kd.S_drew)); exact HO_29.out) hb); have n1_ := aK (Kd.S_below (by (with_reducible repeat (first | apply Kd.S_alloc | apply Kd.S_drewN | apply Kd.S_drew)); exact HO_31.out) hb); have n2_ := aK (Kd.Q_below (pQ HO_111002.out) hb); have n3_ := aK (Kd.V_below (by (with_reducible repeat (first | apply Kd.V_alloc | apply Kd.V_drewN | apply Kd.V_drew)); exact HO153.out) hb); replace BK110 := bB BK110 hb; replace HB := bS HB hb; clear HO_29 HO_31 HO_111002 HO153; have HO_29 := n0_; have HO_31 := n1_; have HO_111002 := n2_; have HO153 := n3_; clear n0_ n1_ n2_ n3_; (try clear hb); (try clear hb2); (try clear hk); (try clear hi)))
               go_ret
               exact ⟨er, pT HB.out⟩
              rw [if_neg c89] at H
              have c89b0 : (t156 == t158) = false := by simpa using c89
              (try (have c89b1 : decide (t156 = t158) = false := by simpa using c89))
              (try (have c89b2 : (t156 == t158) = false := by simpa using c89))
              (try (have c89b3 : ¬ (t156 = t158) := by simpa using c89))
              clear c89
              obtain rfl := Option.some.inj H
              obtain ⟨Ao102, co102, eo102⟩ := Kd.S_slice HO_29.out
              subst eo102
              go_wp2_with (first | ((with_reducible refine gate_callee (f := 55) rfl ?_); refine gl (some 215) Try.func55 #[.slice A0 l0.length c0] ?_; (with_reducible refine (spec_DrawAgreeingCells.calls k6 _ _ l0 t151 t154 _ ?side1 ?side2 A85.out).mono ?_); (case side1 => exact pC (Kd.C_below HR0.out HB.out)); (case side2 => exact HC0.out); rintro e w103 ⟨v152, rfl, ho0, hb⟩; refine ⟨_, rfl, ?_⟩; have n0_ := aK (Kd.S_below (by (with_reducible repeat (first | apply Kd.S_alloc | apply Kd.S_drewN | apply Kd.S_drew)); exact HO_29.out) hb); have n1_ := aK (Kd.S_below (by (with_reducible repeat (first | apply Kd.S_alloc | apply Kd.S_drewN | apply Kd.S_drew)); exact HO_31.out) hb); have n2_ := aK (Kd.Q_below (pQ HO_111002.out) hb); have HO153 := aK (Kd.V_lower (Kd.V_mono (ok' := fun k_ => some k_ ≠ (.slice Ao102 t140.length co102 : Value).ownBlock ∧ some k_ ≠ (v146 : Value).ownBlock ∧ some k_ ≠ (.slice Ao11 t107.length co11 : Value).ownBlock ∧ k_ ≠ gb110) ho0 (fun k_ hk_ => ⟨(Kd.fresh' (Kd.S_lt (by (with_reducible repeat (first | apply Kd.S_alloc | apply Kd.S_drewN | apply Kd.S_drew)); exact HO_29.out)) k_ hk_), (Kd.fresh' (Kd.S_lt (by (with_reducible repeat (first | apply Kd.S_alloc | apply Kd.S_drewN | apply Kd.S_drew)); exact HO_31.out)) k_ hk_), (Kd.fresh' (Kd.Q_lt (pQ HO_111002.out)) k_ hk_), (Kd.freshB (g := gb110) (o := .cells #[.int .i64 t105, .int .i64 t106, .slice Ao11 t107.length co11] 29 (0, 0)) (pB BK110.out) k_ hk_)⟩)) (below_size (pS HB.out))); replace BK110 := bB BK110 hb; replace HB := bS HB hb; clear HO_29 HO_31 HO_111002; have HO_29 := n0_; have HO_31 := n1_; have HO_111002 := n2_; clear n0_ n1_ n2_; (try clear hb); (try clear hb2); (try clear hk); (try clear hi); (try clear ho0); obtain ⟨Ao104, co104, eo104⟩ := Kd.V_slice HO153.out; subst eo104) | ((with_reducible refine gate_callee (f := 56) rfl ?_); refine gl (some 221) Try.func56 #[.slice Ao104 t151.length co104, .int .i64 t154] ?_; (with_reducible refine (impl_AgreeingCells.calls k6 _ _ t151 t154 t155 t156 _ ?side1 ?side2 A86.out).mono ?_); (case side1 => exact pC (Kd.V_reads' HO153.out).2.2); (case side2 => exact (Kd.V_reads' HO153.out).2.1); rintro e w105 ⟨rfl, hb⟩; refine ⟨_, rfl, ?_⟩; have n0_ := aK (Kd.S_below (by (with_reducible repeat (first | apply Kd.S_alloc | apply Kd.S_drewN | apply Kd.S_drew)); exact HO_29.out) hb); have n1_ := aK (Kd.S_below (by (with_reducible repeat (first | apply Kd.S_alloc | apply Kd.S_drewN | apply Kd.S_drew)); exact HO_31.out) hb); have n2_ := aK (Kd.Q_below (pQ HO_111002.out) hb); have n3_ := aK (Kd.V_below (by (with_reducible repeat (first | apply Kd.V_alloc | apply Kd.V_drewN | apply Kd.V_drew)); exact HO153.out) hb); replace BK110 := bB BK110 hb; replace HB := bS HB hb; clear HO_29 HO_31 HO_111002 HO153; have HO_29 := n0_; have HO_31 := n1_; have HO_111002 := n2_; have HO153 := n3_; clear n0_ n1_ n2_ n3_; (try clear hb); (try clear hb2); (try clear hk); (try clear hi)) | ((with_reducible refine gate_callee (f := 57) rfl ?_); refine gl (some 227) Try.func57 #[.slice Ao104 t151.length co104, .int .i64 t154] ?_; (with_reducible refine (spec_AgreeingCells.calls k6 _ _ t151 t154 t157 t158 _ ?side1 ?side2 A87.out).mono ?_); (case side1 => exact pC (Kd.V_reads' HO153.out).2.2); (case side2 => exact (Kd.V_reads' HO153.out).2.1); rintro e w106 ⟨rfl, hb⟩; refine ⟨_, rfl, ?_⟩; have n0_ := aK (Kd.S_below (by (with_reducible repeat (first | apply Kd.S_alloc | apply Kd.S_drewN | apply Kd.S_drew)); exact HO_29.out) hb); have n1_ := aK (Kd.S_below (by (with_reducible repeat (first | apply Kd.S_alloc | apply Kd.S_drewN | apply Kd.S_drew)); exact HO_31.out) hb); have n2_ := aK (Kd.Q_below (pQ HO_111002.out) hb); have n3_ := aK (Kd.V_below (by (with_reducible repeat (first | apply Kd.V_alloc | apply Kd.V_drewN | apply Kd.V_drew)); exact HO153.out) hb); replace BK110 := bB BK110 hb; replace HB := bS HB hb; clear HO_29 HO_31 HO_111002 HO153; have HO_29 := n0_; have HO_31 := n1_; have HO_111002 := n2_; have HO153 := n3_; clear n0_ n1_ n2_ n3_; (try clear hb); (try clear hb2); (try clear hk); (try clear hi)))
              go_ret
              exact ⟨er, pT HB.out⟩
             rw [if_neg c88] at H
             have c88b0 : (t155 == t157) = false := beq_eq_false_iff_ne.mpr c88
             have c88b1 : (t155 != t157) = true := bne_iff_ne.mpr c88
             obtain rfl := Option.some.inj H
             obtain ⟨Ao107, co107, eo107⟩ := Kd.S_slice HO_29.out
             subst eo107
             go_wp2_with (first | ((with_reducible refine gate_callee (f := 55) rfl ?_); refine gl (some 215) Try.func55 #[.slice A0 l0.length c0] ?_; (with_reducible refine (spec_DrawAgreeingCells.calls k6 _ _ l0 t151 t154 _ ?side1 ?side2 A85.out).mono ?_); (case side1 => exact pC (Kd.C_below HR0.out HB.out)); (case side2 => exact HC0.out); rintro e w108 ⟨v152, rfl, ho0, hb⟩; refine ⟨_, rfl, ?_⟩; have n0_ := aK (Kd.S_below (by (with_reducible repeat (first | apply Kd.S_alloc | apply Kd.S_drewN | apply Kd.S_drew)); exact HO_29.out) hb); have n1_ := aK (Kd.S_below (by (with_reducible repeat (first | apply Kd.S_alloc | apply Kd.S_drewN | apply Kd.S_drew)); exact HO_31.out) hb); have n2_ := aK (Kd.Q_below (pQ HO_111002.out) hb); have HO153 := aK (Kd.V_lower (Kd.V_mono (ok' := fun k_ => some k_ ≠ (.slice Ao107 t140.length co107 : Value).ownBlock ∧ some k_ ≠ (v146 : Value).ownBlock ∧ some k_ ≠ (.slice Ao11 t107.length co11 : Value).ownBlock ∧ k_ ≠ gb110) ho0 (fun k_ hk_ => ⟨(Kd.fresh' (Kd.S_lt (by (with_reducible repeat (first | apply Kd.S_alloc | apply Kd.S_drewN | apply Kd.S_drew)); exact HO_29.out)) k_ hk_), (Kd.fresh' (Kd.S_lt (by (with_reducible repeat (first | apply Kd.S_alloc | apply Kd.S_drewN | apply Kd.S_drew)); exact HO_31.out)) k_ hk_), (Kd.fresh' (Kd.Q_lt (pQ HO_111002.out)) k_ hk_), (Kd.freshB (g := gb110) (o := .cells #[.int .i64 t105, .int .i64 t106, .slice Ao11 t107.length co11] 29 (0, 0)) (pB BK110.out) k_ hk_)⟩)) (below_size (pS HB.out))); replace BK110 := bB BK110 hb; replace HB := bS HB hb; clear HO_29 HO_31 HO_111002; have HO_29 := n0_; have HO_31 := n1_; have HO_111002 := n2_; clear n0_ n1_ n2_; (try clear hb); (try clear hb2); (try clear hk); (try clear hi); (try clear ho0); obtain ⟨Ao109, co109, eo109⟩ := Kd.V_slice HO153.out; subst eo109) | ((with_reducible refine gate_callee (f := 56) rfl ?_); refine gl (some 221) Try.func56 #[.slice Ao109 t151.length co109, .int .i64 t154] ?_; (with_reducible refine (impl_AgreeingCells.calls k6 _ _ t151 t154 t155 t156 _ ?side1 ?side2 A86.out).mono ?_); (case side1 => exact pC (Kd.V_reads' HO153.out).2.2); (case side2 => exact (Kd.V_reads' HO153.out).2.1); rintro e w110 ⟨rfl, hb⟩; refine ⟨_, rfl, ?_⟩; have n0_ := aK (Kd.S_below (by (with_reducible repeat (first | apply Kd.S_alloc | apply Kd.S_drewN | apply Kd.S_drew)); exact HO_29.out) hb); have n1_ := aK (Kd.S_below (by (with_reducible repeat (first | apply Kd.S_alloc | apply Kd.S_drewN | apply Kd.S_drew)); exact HO_31.out) hb); have n2_ := aK (Kd.Q_below (pQ HO_111002.out) hb); have n3_ := aK (Kd.V_below (by (with_reducible repeat (first | apply Kd.V_alloc | apply Kd.V_drewN | apply Kd.V_drew)); exact HO153.out) hb); replace BK110 := bB BK110 hb; replace HB := bS HB hb; clear HO_29 HO_31 HO_111002 HO153; have HO_29 := n0_; have HO_31 := n1_; have HO_111002 := n2_; have HO153 := n3_; clear n0_ n1_ n2_ n3_; (try clear hb); (try clear hb2); (try clear hk); (try clear hi)) | ((with_reducible refine gate_callee (f := 57) rfl ?_); refine gl (some 227) Try.func57 #[.slice Ao109 t151.length co109, .int .i64 t154] ?_; (with_reducible refine (spec_AgreeingCells.calls k6 _ _ t151 t154 t157 t158 _ ?side1 ?side2 A87.out).mono ?_); (case side1 => exact pC (Kd.V_reads' HO153.out).2.2); (case side2 => exact (Kd.V_reads' HO153.out).2.1); rintro e w111 ⟨rfl, hb⟩; refine ⟨_, rfl, ?_⟩; have n0_ := aK (Kd.S_below (by (with_reducible repeat (first | apply Kd.S_alloc | apply Kd.S_drewN | apply Kd.S_drew)); exact HO_29.out) hb); have n1_ := aK (Kd.S_below (by (with_reducible repeat (first | apply Kd.S_alloc | apply Kd.S_drewN | apply Kd.S_drew)); exact HO_31.out) hb); have n2_ := aK (Kd.Q_below (pQ HO_111002.out) hb); have n3_ := aK (Kd.V_below (by (with_reducible repeat (first | apply Kd.V_alloc | apply Kd.V_drewN | apply Kd.V_drew)); exact HO153.out) hb); replace BK110 := bB BK110 hb; replace HB := bS HB hb; clear HO_29 HO_31 HO_111002 HO153; have HO_29 := n0_; have HO_31 := n1_; have HO_111002 := n2_; have HO153 := n3_; clear n0_ n1_ n2_ n3_; (try clear hb); (try clear hb2); (try clear hk); (try clear hi)))
             go_ret
             exact ⟨er, pT HB.out⟩
def laws_FnMembers.Pure : Prop := ∀ (l0 : List Int), (l0.length ≤ 9223372036854775807 ∧ ∀ z0 ∈ l0, (Lit.int .u8 z0).wf = true) → l0.length * 1 ≤ 140737488351232 → ∃ k, laws_FnMembers.f k l0 = some true
end Go.Proofs.Ytilffhaghabdgaa.P
namespace Go.Proofs.Ytilffhaghabdgaa.Open
open Go.ChangeShapes Go.WideShapes Go.RowKit Go.Deep Go.Joins Go.Proofs.YtilffhaghabdgaaW.PrintWords
def Opens {α : Type} (P : Program) (t : TypeId) (d : Kd α) (wf : α → Prop) : Prop :=
  ∀ {H : Type} {enc : TypeId × Value → H} {W : World} {fuel : Nat} {cs : List Value} {x : DataW H × List MemPlace},
    DataW.trod enc P W 0 (fun _ => true) true fuel t cs = some x → ∃ y, d.K W y cs ∧ wf y
theorem opens_int {P : Program} {t : TypeId} {k : IntKind} (h : P.underlying t = some (.int k)) : Opens P t (Kd.int k) (fun n => (Lit.int k n).wf = true) := by
  intro H enc W fuel cs x hx
  obtain ⟨n, rfl, _, hw⟩ := DataW.trod_int h hx
  exact ⟨n, rfl, hw⟩
theorem list_of {α : Type} {p : Nat → α → Prop} : ∀ (n : Nat), (∀ i, i < n → ∃ y, p i y) → ∃ ys : List α, ys.length = n ∧ ∀ (i : Nat) (y : α), ys[i]? = some y → p i y
  | 0, _ => ⟨[], rfl, fun i y h => by simp at h⟩
  | n + 1, h => by
    obtain ⟨ys, hl, hy⟩ := list_of n (fun i hi => h i (by omega))
    obtain ⟨y, hp⟩ := h n (by omega)
    refine ⟨ys ++ [y], by simp [hl], fun i z hz => ?_⟩
    by_cases hi : i < n
    · rw [List.getElem?_append_left (by omega)] at hz
      exact hy i z hz
    · have hi2 : i = n := by
        have := (List.getElem?_eq_some_iff.1 hz).1
        simp [hl] at this
        omega
      subst hi2
      rw [List.getElem?_append_right (by omega), hl] at hz
      simp at hz
      subst hz
      exact hp
theorem opens_slice {α : Type} {P : Program} {t e : TypeId} {d : Kd α} {wf : α → Prop} (h : P.underlying t = some (.slice e)) (hc : P.cellsOf e = d.sz) (he : Opens P e d wf) :
    Opens P t (Kd.slice e d) (fun l => l.length ≤ 9223372036854775807 ∧ ∀ x ∈ l, wf x) := by
  intro H enc W fuel cs x hx
  rcases open_slice h hx with ⟨rfl, _⟩ | ⟨a, len, cap, m, n, D, Pl, rfl, _, hl, hm, hmm, _, hx⟩
  · exact ⟨[], ⟨none, 0, rfl, by simp, Kd.C_nil d W⟩, by simp, by simp⟩
  · obtain ⟨ys, hlen, hy⟩ := list_of (p := fun i y => ∃ cs', W.cells? 0 (a.add (i * P.cellsOf e)) (P.cellsOf e) = some cs' ∧ d.K W y cs' ∧ wf y) len (fun i hi => by
      obtain ⟨cs', h1, h2⟩ := hx i (by rw [hmm]; split <;> omega)
      obtain ⟨y, hK, hw⟩ := he h2
      exact ⟨y, cs', h1, hK, hw⟩)
    have hm' : cap ≤ 9223372036854775807 := by simpa [maxLen] using hm
    refine ⟨ys, ⟨some a, cap, by rw [hlen], by omega, ⟨rfl, by omega, fun _ => ⟨a, rfl, fun j y hj => ?_⟩⟩⟩, by omega, fun y hmem => ?_⟩
    · obtain ⟨cs', h1, hK, _⟩ := hy j y hj
      obtain ⟨_, hl2, hcell⟩ := World.cells?_some h1
      refine ⟨cs', d.K_len hK, hK, fun i u hu => ?_⟩
      have hi : i < P.cellsOf e := by
        have := (List.getElem?_eq_some_iff.1 hu).1
        omega
      rw [← hc, ← Go.Deep.add_add, hcell i hi]
      exact hu
    · obtain ⟨j, hj⟩ := List.getElem?_of_mem hmem
      obtain ⟨_, _, _, hw⟩ := hy j y hj
      exact hw
theorem sized_any {H : Type} {enc : TypeId × Value → H} {P : Program} {W : World} {base : Nat} {spare : Nat → Bool} {held : Bool} {t e : TypeId} {a : Option Addr} {len cap : Nat} {d : DataW H} {ps : List MemPlace} {ts : List TypeId} {ds : List (DataW H)} {j : Nat}
    (hsz : (DataW.weightsEach P ts ds).all (· ≤ reachBytes) = true) (ht : ts[j]? = some t) (hd : ds[j]? = some d) (hu : P.underlying t = some (.slice e)) {B : Nat} (hB : P.bytesOf e = B)
    (h : DataW.Trod enc P W base spare held t (.slice a len cap) d ps) : len * B ≤ 140737488351232 := by
  obtain ⟨fuel, hf⟩ := h
  rcases open_slice hu hf with ⟨hcs, _⟩ | ⟨x, l, c, m, n, D, Pl, hcs, _, hl, _, _, hx, _⟩
  · simp [Value.cells] at hcs
    obtain ⟨rfl, rfl, rfl⟩ := hcs
    simp
  · simp [Value.cells] at hcs
    obtain ⟨rfl, rfl, rfl⟩ := hcs
    obtain ⟨hx, _⟩ := Prod.mk.inj hx
    subst hx
    have z := sized_slice hsz ht hd hu
    rw [hB] at z
    refine Nat.le_trans (Nat.mul_le_mul_right _ ?_) z
    simp
theorem slice_at {α : Type} {P : Program} {W : World} {t e : TypeId} {d : Kd α} {wf : List α → Prop} {H : Type} {enc : TypeId × Value → H} {a : Option Addr} {len cap : Nat} {dd : DataW H} {ps : List MemPlace} (ho : Opens P t (Kd.slice e d) wf)
    (h : DataW.Trod enc P W 0 (fun _ => true) true t (.slice a len cap) dd ps) : ∃ l : List α, len = l.length ∧ l.length ≤ cap ∧ d.C W a l.length l ∧ wf l := by
  obtain ⟨fuel, hf⟩ := h
  obtain ⟨l, ⟨A, c, hcs, hl, hC⟩, hw⟩ := ho hf
  simp [Value.cells] at hcs
  obtain ⟨rfl, rfl, rfl⟩ := hcs
  exact ⟨l, rfl, hl, hC, hw⟩
section
variable {P : Program} {t : TypeId} {W : World} {H : Type} {enc : TypeId × Value → H} {r : Reach} {b0 : Nat} {v : Value} {d : DataW H} {p : List MemPlace}
end
end Go.Proofs.Ytilffhaghabdgaa.Open
namespace Go.Proofs.Ytilffhaghabdgaa.P
open Go.RowKit Go.Proofs.YtilffhaghabdgaaW.PrintWords Go.Proofs.YtilffhaghabdgaaW.PrintLast Go.Proofs.YtilffhaghabdgaaW.PrintMore
attribute [local go_sem] max2_int min2_int max_two min_two max_three min_three max_four min_four
set_option linter.unusedVariables false
set_option linter.unusedSimpArgs false
open Go.Proofs.Ytilffhaghabdgaa.Open
end Go.Proofs.Ytilffhaghabdgaa.P
namespace Go.Proofs.Ytilffhaghabdgaa.Pure
set_option linter.unusedVariables false
set_option linter.unusedSimpArgs false
open Go.RowKit Go.Proofs.YtilffhaghabdgaaW.PrintWords Go.Proofs.YtilffhaghabdgaaW.PrintLast Go.Proofs.YtilffhaghabdgaaW.PrintMore
theorem w64 {x : Int} (h0 : -9223372036854775808 ≤ x) (h1 : x ≤ 9223372036854775807) : wrap64 x = x := by
  unfold wrap64
  omega
theorem w64n {n : Nat} (h : n ≤ 9223372036854775807) : wrap64 (n : Int) = (n : Int) := w64 (by omega) (by omega)
theorem rd_nat (xs : List Int) (i : Nat) : rd xs (i : Int) = xs.getD i 0 := by simp [rd]
section
variable {α β : Type} {f g : Nat → Option α} {r : α}
theorem ev_some (r : α) : Ev (fun _ => some r) r := ⟨0, fun _ _ => rfl⟩
theorem ev_ifp {c : Prop} [Decidable c] (h : c) (k : Ev f r) : Ev (fun n => if c then f n else g n) r := Ev.congr (fun _ => if_pos h) k
theorem ev_ifn {c : Prop} [Decidable c] (h : ¬ c) (k : Ev g r) : Ev (fun n => if c then f n else g n) r := Ev.congr (fun _ => if_neg h) k
theorem ev_bind {F : Nat → α → Option β} {q : β} (h : Ev g r) (k : Ev (fun n => F n r) q) : Ev (fun n => (g n).bind (fun x => F n x)) q := by
  obtain ⟨K1, h1⟩ := h
  obtain ⟨K2, h2⟩ := k
  exact ⟨K1 + K2, fun n hn => by show (g n).bind (fun x => F n x) = some q; rw [h1 n (by omega)]; exact h2 n (by omega)⟩
theorem ev_const {a : Option α} (h : a = some r) : Ev (fun _ => a) r := ⟨0, fun _ _ => h⟩
theorem ev_step (h : ∀ k, g (k + 1) = f k) (k : Ev f r) : Ev g r := by
  obtain ⟨K, h1⟩ := k
  refine ⟨K + 1, fun n hn => ?_⟩
  obtain ⟨m, rfl⟩ : ∃ m, n = m + 1 := ⟨n - 1, by omega⟩
  rw [h m]
  exact h1 m (by omega)
end
def iter {σ : Type} (g : Nat → σ → σ) : Nat → Nat → σ → σ
  | _, 0, s => s
  | i, d + 1, s => iter g (i + 1) d (g i s)
theorem loop_ev {σ ρ : Type} (F : Nat → σ → Nat → Option ρ) (n : Nat) (g : Nat → σ → σ) (fin : σ → ρ) (I : Nat → σ → Prop)
    (hs : ∀ i s r, I i s → i < n → Ev (fun k => F k (g i s) (i + 1)) r → Ev (fun k => F k s i) r) (hI : ∀ i s, I i s → i < n → I (i + 1) (g i s))
    (he : ∀ s, I n s → Ev (fun k => F k s n) (fin s)) : ∀ i s, i ≤ n → I i s → Ev (fun k => F k s i) (fin (iter g i (n - i) s)) := by
  have key : ∀ d i s, n - i = d → i ≤ n → I i s → Ev (fun k => F k s i) (fin (iter g i d s)) := by
    intro d
    induction d with
    | zero =>
      intro i s h0 h1 h2
      obtain rfl : i = n := by omega
      exact he s h2
    | succ d ih =>
      intro i s h0 h1 h2
      exact hs i s _ h2 (by omega) (ih (i + 1) (g i s) (by omega) (by omega) (hI i s h2 (by omega)))
  exact fun i s h1 h2 => key (n - i) i s rfl h1 h2
theorem iter_inv {σ : Type} (g : Nat → σ → σ) (I : Nat → σ → Prop) (n : Nat) (hI : ∀ i s, I i s → i < n → I (i + 1) (g i s)) : ∀ d i s, i + d = n → I i s → I n (iter g i d s) := by
  intro d
  induction d with
  | zero => intro i s h0 h1; obtain rfl : i = n := by omega
            exact h1
  | succ d ih => intro i s h0 h1; exact ih (i + 1) _ (by omega) (hI i s h1 (by omega))
def rall (p : Nat → Bool) : Nat → Nat → Bool
  | _, 0 => true
  | i, d + 1 => p i && rall p (i + 1) d
theorem rall_iff (p : Nat → Bool) : ∀ d i, rall p i d = true ↔ ∀ j, i ≤ j → j < i + d → p j = true
  | 0, i => ⟨fun _ j h1 h2 => by omega, fun _ => rfl⟩
  | d + 1, i => by
    show (p i && rall p (i + 1) d) = true ↔ _
    rw [Bool.and_eq_true, rall_iff p d (i + 1)]
    constructor
    · rintro ⟨h0, h1⟩ j h2 h3
      by_cases e : j = i
      · rw [e]; exact h0
      · exact h1 j (by omega) (by omega)
    · intro h
      exact ⟨h i (Nat.le_refl _) (by omega), fun j h2 h3 => h j (by omega) (by omega)⟩
theorem all_ev {ρ : Type} (F : Nat → Nat → Option ρ) (n : Nat) (p : Nat → Bool) (no yes : ρ) (hs : ∀ i r, i < n → p i = true → Ev (fun k => F k (i + 1)) r → Ev (fun k => F k i) r)
    (hn : ∀ i, i < n → p i = false → Ev (fun k => F k i) no) (he : Ev (fun k => F k n) yes) :
    ∀ i, i ≤ n → Ev (fun k => F k i) (if rall p i (n - i) = true then yes else no) := by
  have key : ∀ d i, n - i = d → i ≤ n → Ev (fun k => F k i) (if rall p i d = true then yes else no) := by
    intro d
    induction d with
    | zero =>
      intro i h0 h1
      obtain rfl : i = n := by omega
      rw [show rall p i 0 = true from rfl, if_pos rfl]
      exact he
    | succ d ih =>
      intro i h0 h1
      have h := ih (i + 1) (by omega) (by omega)
      have e : rall p i (d + 1) = (p i && rall p (i + 1) d) := rfl
      cases hp : p i with
      | true =>
        rw [e, hp, Bool.true_and]
        exact hs i _ (by omega) hp h
      | false =>
        rw [e, hp, Bool.false_and, if_neg (by simp)]
        exact hn i (by omega) hp
  exact fun i h1 => key (n - i) i rfl h1
theorem allb_ev (F : Nat → Nat → Option Bool) (n : Nat) (p : Nat → Bool) (hs : ∀ i r, i < n → p i = true → Ev (fun k => F k (i + 1)) r → Ev (fun k => F k i) r)
    (hn : ∀ i, i < n → p i = false → Ev (fun k => F k i) false) (he : Ev (fun k => F k n) true) : Ev (fun k => F k 0) (rall p 0 n) := by
  have h := all_ev F n p false true hs hn he 0 (Nat.zero_le _)
  rw [Nat.sub_zero] at h
  cases e : rall p 0 n <;> simpa [e] using h
theorem getD_eq_get {α : Type} {xs : List α} {i : Nat} (z : α) (h : i < xs.length) : xs.getD i z = xs[i] := by simp [List.getD, List.getElem?_eq_getElem h]
theorem rall_list {α : Type} (xs : List α) (z : α) (p : α → Bool) : rall (fun j => p (xs.getD j z)) 0 xs.length = xs.all p := by
  rw [Bool.eq_iff_iff, rall_iff, List.all_eq_true]
  constructor
  · intro h x hx
    obtain ⟨i, hi, rfl⟩ := List.getElem_of_mem hx
    rw [← getD_eq_get z hi]
    exact h i (Nat.zero_le _) (by omega)
  · intro h j _ hj
    rw [getD_eq_get z (by omega)]
    exact h _ (List.getElem_mem (by omega))
theorem iter_add {σ : Type} (g : Nat → σ → σ) : ∀ a i b s, iter g i (a + b) s = iter g (i + a) b (iter g i a s) := by
  intro a
  induction a with
  | zero => intro i b s; rw [Nat.zero_add]; rfl
  | succ a ih =>
    intro i b s
    rw [show a + 1 + b = (a + b) + 1 by omega]
    show iter g (i + 1) (a + b) (g i s) = _
    rw [ih (i + 1) b (g i s)]
    show _ = iter g (i + (a + 1)) b (iter g (i + 1) a (g i s))
    rw [show i + 1 + a = i + (a + 1) by omega]
end Go.Proofs.Ytilffhaghabdgaa.Pure
namespace Go.Proofs.Ytilffhaghabdgaa.Pure
set_option linter.unusedVariables false
set_option linter.unusedSimpArgs false
open Go.RowKit Go.Proofs.YtilffhaghabdgaaW.PrintWords Go.Proofs.YtilffhaghabdgaaW.PrintLast Go.Proofs.YtilffhaghabdgaaW.PrintMore
end Go.Proofs.Ytilffhaghabdgaa.Pure
namespace Go.Proofs.Ytilffhaghabdgaa.Pure
set_option linter.unusedVariables false
open Go.RowKit Go.Proofs.YtilffhaghabdgaaW.PrintWords Go.Proofs.YtilffhaghabdgaaW.PrintLast
theorem ends_inv {σ ρ : Type} (F : Nat → σ → Nat → Option ρ) (n : Nat) (I : Nat → σ → Prop) (P : ρ → Prop)
    (hs : ∀ i s, I i s → i < n → ∃ s', I (i + 1) s' ∧ ∀ r, Ev (fun k => F k s' (i + 1)) r → Ev (fun k => F k s i) r)
    (he : ∀ s, I n s → ∃ r, Ev (fun k => F k s n) r ∧ P r) : ∀ i s, i ≤ n → I i s → ∃ r, Ev (fun k => F k s i) r ∧ P r := by
  have key : ∀ d i s, n - i = d → i ≤ n → I i s → ∃ r, Ev (fun k => F k s i) r ∧ P r := by
    intro d
    induction d with
    | zero =>
      intro i s h0 h1 h2
      obtain rfl : i = n := by omega
      exact he s h2
    | succ d ih =>
      intro i s h0 h1 h2
      obtain ⟨s', h3, h4⟩ := hs i s h2 (by omega)
      obtain ⟨r, h5, h6⟩ := ih (i + 1) s' (by omega) (by omega) h3
      exact ⟨r, h4 r h5, h6⟩
  exact fun i s h1 h2 => key (n - i) i s rfl h1 h2
end Go.Proofs.Ytilffhaghabdgaa.Pure
namespace Go.Proofs.Ytilffhaghabdgaa.Pure
set_option linter.unusedVariables false
set_option linter.unusedSimpArgs false
open Go Go.RowKit Go.Proofs.Ytilffhaghabdgaa.P Go.Proofs.YtilffhaghabdgaaW.PrintWords Go.Proofs.YtilffhaghabdgaaW.PrintLast
theorem u64_bd (x : Int) : 0 ≤ IntKind.u64.wrap x ∧ IntKind.u64.wrap x < 18446744073709551616 := by
  rw [IntKind.wrap_u64]
  omega
theorem wraps63 (n : Int) (h0 : 0 ≤ n) (h1 : n < 2 ^ 63) : IntKind.u64.wrap n = n := by
  rw [IntKind.wrap_u64]
  omega
theorem and255 (v : Int) (h0 : 0 ≤ v) (h1 : v < 18446744073709551616) : 0 ≤ Go.bits .and .u64 (v / 1099511627776) 255 ∧ Go.bits .and .u64 (v / 1099511627776) 255 ≤ 255 := by
  have h := bits_mask .u64 63 (by decide) wraps63 8 (by decide) (v / 1099511627776) (by omega) (by omega)
  have e : ((2 : Int) ^ 8 - 1) = 255 := by decide
  have e2 : ((2 : Int) ^ 8) = 256 := by decide
  rw [e, e2] at h
  rw [h]
  omega
structure Code (l : List Int) : Prop where
  len : l.length ≤ 65536
  byte : ∀ x ∈ l, 0 ≤ x ∧ x ≤ 255
theorem Code.bd {l : List Int} (h : Code l) (i : Int) : 0 ≤ rd l i ∧ rd l i ≤ 255 := by
  unfold rd
  by_cases hi : i.toNat < l.length
  · rw [getD_eq_get 0 hi]
    exact h.byte _ (List.getElem_mem hi)
  · simp [List.getD, List.getElem?_eq_none (show l.length ≤ i.toNat by omega)]
theorem next_at {l : List Int} (hl : Code l) (i s : Int) (h0 : 0 ≤ i) (h1 : i ≤ 1000000000) : ∃ x s', spec_l1Cur_next.f l i s = some (x, i + 1, s') ∧ 0 ≤ x ∧ x ≤ 255 := by
  unfold spec_l1Cur_next.f
  have hr := hl.bd i
  have w1 : wrap64 (i + 1) = i + 1 := w64 (by omega) (by omega)
  rw [w1]
  by_cases c1 : i < (l.length : Int)
  · rw [if_pos c1, if_pos h0, if_pos (by omega)]
    exact ⟨_, _, rfl, by rw [w64 (by omega) (by omega)]; exact hr.1, by rw [w64 (by omega) (by omega)]; exact hr.2⟩
  · rw [if_neg c1, if_neg (by omega)]
    have hb := u64_bd (IntKind.u64.wrap (IntKind.u64.wrap (s * 6364136223846793005)) + 889889)
    have ha := and255 _ hb.1 hb.2
    exact ⟨_, _, rfl, by rw [w64 (by omega) (by omega)]; exact ha.1, by rw [w64 (by omega) (by omega)]; exact ha.2⟩
theorem pick_at {l : List Int} (hl : Code l) (i s n : Int) (h0 : 0 ≤ i) (h1 : i ≤ 100000000) :
    ∃ x i' s', spec_l1Cur_pick.f l i s n = some (x, i', s') ∧ 0 ≤ x ∧ (1 ≤ n → x < n) ∧ i ≤ i' ∧ i' ≤ i + 2 := by
  unfold spec_l1Cur_pick.f
  by_cases c1 : n ≤ 1
  · rw [if_pos c1]
    exact ⟨_, _, _, rfl, by omega, fun h => by omega, by omega, by omega⟩
  · rw [if_neg c1]
    obtain ⟨x, s1, e1, b1, b2⟩ := next_at hl i s h0 (by omega)
    rw [e1, Option.bind_some]
    have cn : ¬ n = 0 := by omega
    by_cases c2 : n > 200
    · rw [if_pos c2]
      obtain ⟨y, s2, e2, b3, b4⟩ := next_at hl (i + 1) s1 (by omega) (by omega)
      simp only
      rw [e2, Option.bind_some, if_neg cn]
      simp only
      rw [w64 (x := x * 256) (by omega) (by omega), w64 (by omega) (by omega), Int.tmod_eq_emod_of_nonneg (by omega)]
      exact ⟨_, _, _, rfl, Int.emod_nonneg _ cn, fun _ => Int.emod_lt_of_pos _ (by omega), by omega, by omega⟩
    · rw [if_neg c2, if_neg cn]
      simp only
      rw [Int.tmod_eq_emod_of_nonneg (by omega)]
      exact ⟨_, _, _, rfl, Int.emod_nonneg _ cn, fun _ => Int.emod_lt_of_pos _ (by omega), by omega, by omega⟩
theorem one_at {l : List Int} (hl : Code l) (i s n : Int) (h0 : 0 ≤ i) (h1 : i ≤ 100000000) : ∃ b i' s', spec_l1Cur_one.f l i s n = some (b, i', s') ∧ i ≤ i' ∧ i' ≤ i + 2 := by
  unfold spec_l1Cur_one.f
  obtain ⟨x, i', s', e, _, _, b3, b4⟩ := pick_at hl i s n h0 h1
  rw [e, Option.bind_some]
  exact ⟨_, _, _, rfl, b3, b4⟩
theorem among_at {l : List Int} (hl : Code l) (i s : Int) (xs : List Int) (hx : 1 ≤ xs.length) (h0 : 0 ≤ i) (h1 : i ≤ 100000000) :
    ∃ x i' s', spec_l1Cur_among.f l i s xs = some (x, i', s') ∧ x ∈ xs ∧ i ≤ i' ∧ i' ≤ i + 2 := by
  unfold spec_l1Cur_among.f
  obtain ⟨x, i', s', e, b1, b2, b3, b4⟩ := pick_at hl i s (xs.length : Int) h0 h1
  have b5 := b2 (by omega)
  rw [e, Option.bind_some, if_pos b1, if_pos b5]
  refine ⟨_, _, _, rfl, ?_, b3, b4⟩
  unfold rd
  simp only
  have hlt : x.toNat < xs.length := by omega
  rw [getD_eq_get 0 hlt]
  exact List.getElem_mem hlt
end Go.Proofs.Ytilffhaghabdgaa.Pure
namespace Go.Proofs.Ytilffhaghabdgaa.Pure
set_option linter.unusedVariables false
set_option linter.unusedSimpArgs false
open Go.RowKit Go.Proofs.Ytilffhaghabdgaa.P Go.Proofs.YtilffhaghabdgaaW.PrintWords Go.Proofs.YtilffhaghabdgaaW.PrintLast
def inb (x a b : Int) : Bool := decide (a ≤ x) && decide (x ≤ b)
theorem inb_iff {x a b : Int} : inb x a b = true ↔ a ≤ x ∧ x ≤ b := by simp [inb]
theorem l1In_is (x a b : Int) : spec_l1In.f x a b = some (inb x a b) := by
  unfold spec_l1In.f inb
  split
  · rename_i h; simp [show a ≤ x from h]
  · rename_i h; simp [show ¬ a ≤ x from h]
theorem within_is (x a b : Int) : impl_within.f x a b = some (inb x a b) := l1In_is x a b
def cellOk (x : Int) : Bool := decide (x = -9999) || inb x (-9000) 9000
def fieldOk (a b : Int) (l : List Int) : Bool := inb a 1 8 && (inb b 1 8 && (decide ((l.length : Int) = a * b) && l.all cellOk))
theorem cellOk_bd {x : Int} (h : cellOk x = true) : -9999 ≤ x ∧ x ≤ 9000 := by
  unfold cellOk at h
  rw [Bool.or_eq_true, decide_eq_true_eq, inb_iff] at h
  omega
structure FieldIs (a b : Int) (l : List Int) : Prop where
  a1 : 1 ≤ a
  a8 : a ≤ 8
  b1 : 1 ≤ b
  b8 : b ≤ 8
  len : (l.length : Int) = a * b
  cells : ∀ x ∈ l, cellOk x = true
theorem fieldOk_iff {a b : Int} {l : List Int} : fieldOk a b l = true ↔ FieldIs a b l := by
  unfold fieldOk
  rw [Bool.and_eq_true, Bool.and_eq_true, Bool.and_eq_true, inb_iff, inb_iff, decide_eq_true_eq, List.all_eq_true]
  exact ⟨fun ⟨⟨h1, h2⟩, ⟨h3, h4⟩, h5, h6⟩ => ⟨h1, h2, h3, h4, h5, h6⟩, fun h => ⟨⟨h.a1, h.a8⟩, ⟨h.b1, h.b8⟩, h.len, h.cells⟩⟩
theorem mul_bd {a b : Int} (a1 : 1 ≤ a) (a8 : a ≤ 8) (b1 : 1 ≤ b) (b8 : b ≤ 8) : 1 ≤ a * b ∧ a * b ≤ 64 := by
  obtain h | h | h | h | h | h | h | h : a = 1 ∨ a = 2 ∨ a = 3 ∨ a = 4 ∨ a = 5 ∨ a = 6 ∨ a = 7 ∨ a = 8 := by omega
  all_goals subst h; omega
theorem FieldIs.len64 {a b : Int} {l : List Int} (h : FieldIs a b l) : 1 ≤ l.length ∧ l.length ≤ 64 := by
  have := mul_bd h.a1 h.a8 h.b1 h.b8
  have := h.len
  omega
theorem l2Value_is (x : Int) : spec_l2Value.f x = some (cellOk x) := by
  unfold spec_l2Value.f cellOk
  rw [l1In_is]
  by_cases h : x = -9999
  · simp [h]
  · simp [h]
theorem l2Shape_is (a b : Int) : spec_l2Shape.f a b = some (inb a 1 8 && inb b 1 8) := by
  unfold spec_l2Shape.f
  rw [l1In_is, l1In_is]
  cases inb a 1 8 <;> simp
theorem shape_iff {a b : Int} : (inb a 1 8 && inb b 1 8) = true ↔ (1 ≤ a ∧ a ≤ 8) ∧ 1 ≤ b ∧ b ≤ 8 := by rw [Bool.and_eq_true, inb_iff, inb_iff]
theorem l2Good_ev (a b : Int) (l : List Int) (hl : l.length ≤ 9223372036854775806) : Ev (fun k => spec_l2Good.f k a b l) (fieldOk a b l) := by
  have no : Ev (fun k => spec_l2Good.j0 k true a b l) false := ev_step (f := fun _ => some false) (fun k => by simp [spec_l2Good.j0]) (ev_some _)
  unfold spec_l2Good.f
  rw [l2Shape_is]
  simp only [Option.bind_some]
  by_cases hs : (inb a 1 8 && inb b 1 8) = true
  · refine ev_ifp hs ?_
    obtain ⟨⟨a1, a8⟩, b1, b8⟩ := shape_iff.1 hs
    have hm := mul_bd a1 a8 b1 b8
    rw [w64 (by omega) (by omega)]
    by_cases hl2 : (l.length : Int) = a * b
    · have h := allb_ev (fun k i => spec_l2Good.l0 k (i : Int) a b l) l.length (fun i => cellOk (l.getD i 0))
        (fun i r hi hp hh => ev_step (fun k => by
          simp only [spec_l2Good.l0, l2Value_is, Option.bind_some, rd_nat]
          rw [if_pos (by omega), if_pos (by omega), if_pos hp, w64 (by omega) (by omega)]
          rfl) hh)
        (fun i hi hp => ev_step (f := fun _ => some false) (fun k => by
          simp only [spec_l2Good.l0, l2Value_is, Option.bind_some, rd_nat]
          rw [if_pos (by omega), if_pos (by omega), if_neg (by rw [hp]; decide)]) (ev_some _))
        (ev_step (f := fun _ => some true) (fun k => by
          simp only [spec_l2Good.l0]
          rw [if_neg (by omega)]) (ev_some _))
      rw [rall_list] at h
      have e : fieldOk a b l = l.all cellOk := by
        rw [Bool.and_eq_true] at hs
        simp [fieldOk, hs.1, hs.2, hl2]
      rw [e, show ((l.length : Int) != a * b) = false by rw [bne_eq_false_iff_eq]; exact hl2]
      exact ev_step (f := fun k => spec_l2Good.l0 k 0 a b l) (fun k => by simp [spec_l2Good.j0]) h
    · have e : fieldOk a b l = false := by simp [fieldOk, hl2]
      rw [e, show ((l.length : Int) != a * b) = true by rw [bne_iff_ne]; exact hl2]
      exact no
  · refine ev_ifn hs ?_
    have e : fieldOk a b l = false := by
      cases h1 : inb a 1 8 with
      | false => simp [fieldOk, h1]
      | true =>
        cases h2 : inb b 1 8 with
        | false => simp [fieldOk, h2]
        | true => exact absurd (by rw [h1, h2]; rfl) hs
    rw [e]
    exact no
theorem isValidField_is (a b : Int) (l : List Int) : impl_IsValidField.f a b l = some (fieldOk a b l) := by
  unfold impl_IsValidField.f slices_ContainsFunc_int_at_impl_IsValidField_1.f
  rw [within_is, within_is]
  simp only [Option.bind_some]
  cases h1 : inb a 1 8 with
  | false => simp [fieldOk, h1]
  | true =>
    cases h2 : inb b 1 8 with
    | false => simp [fieldOk, h2]
    | true =>
      have hm := mul_bd (inb_iff.1 h1).1 (inb_iff.1 h1).2 (inb_iff.1 h2).1 (inb_iff.1 h2).2
      rw [w64 (by omega) (by omega)]
      by_cases hl : (l.length : Int) = a * b
      · have e : (!l.any slices_ContainsFunc_int_at_impl_IsValidField_1.p) = l.all cellOk := by
          rw [List.not_any_eq_all_not]
          congr 1
          funext x
          simp [slices_ContainsFunc_int_at_impl_IsValidField_1.p, cellOk, inb]
        simp [fieldOk, h1, h2, hl, e]
      · simp [fieldOk, hl]
end Go.Proofs.Ytilffhaghabdgaa.Pure
namespace Go.Proofs.Ytilffhaghabdgaa.P
open Go.RowKit Go.Proofs.YtilffhaghabdgaaW.PrintWords Go.Proofs.YtilffhaghabdgaaW.PrintLast Go.Proofs.YtilffhaghabdgaaW.PrintMore
attribute [local go_sem] max2_int min2_int max_two min_two max_three min_three max_four min_four
set_option linter.unusedVariables false
set_option linter.unusedSimpArgs false
set_option maxHeartbeats 8000000
set_option maxRecDepth 100000
set_option maxRecDepth 100000
end Go.Proofs.Ytilffhaghabdgaa.P
namespace Go.Proofs.Ytilffhaghabdgaa.P
open Go.RowKit Go.Proofs.YtilffhaghabdgaaW.PrintWords Go.Proofs.YtilffhaghabdgaaW.PrintLast Go.Proofs.YtilffhaghabdgaaW.PrintMore
attribute [local go_sem] max2_int min2_int max_two min_two max_three min_three max_four min_four
set_option linter.unusedVariables false
set_option linter.unusedSimpArgs false
end Go.Proofs.Ytilffhaghabdgaa.P
namespace Go.Proofs.Ytilffhaghabdgaa.P
open Go.RowKit Go.Proofs.YtilffhaghabdgaaW.PrintWords Go.Proofs.YtilffhaghabdgaaW.PrintLast Go.Proofs.YtilffhaghabdgaaW.PrintMore
attribute [local go_sem] max2_int min2_int max_two min_two max_three min_three max_four min_four
set_option linter.unusedVariables false
set_option linter.unusedSimpArgs false
set_option maxHeartbeats 8000000
set_option maxRecDepth 100000
end Go.Proofs.Ytilffhaghabdgaa.P
