/- End 3 of the law FnEnsembles' walk; no conditions. -/
import Derived.Test.YtpggcolcabmdeaaKFnEnsembles10a
namespace Go.Proofs.Ytpggcolcabmdeaa.P
open Go.RowKit Go.Proofs.YtpggcolcabmdeaaW.PrintWords Go.Proofs.YtpggcolcabmdeaaW.PrintLast Go.Proofs.YtpggcolcabmdeaaW.PrintMore
attribute [local go_sem] max2_int min2_int max_two min_two max_three min_three max_four min_four
set_option linter.unusedVariables false
set_option linter.unusedSimpArgs false
set_option maxHeartbeats 200000000
set_option maxRecDepth 100000
open laws_FnEnsembles
theorem laws_FnEnsembles.S3 : laws_FnEnsembles.A.2.2.1 := by
 intro k A0 c0 l0 r w hu29 HR0 HC0 A2 t102 t105 A4 t106 t107 t108 t111 A5 t113 t114 t115 t118 A6 z1_ nd w8 Ao9 co9 w10 g112 w11 GW112 Ao13 co13 w14 g119 w15 GW119 N112_119 N119_112 Ao18 co18 HO104 HO110 HO117 u100 kj6 HJ6 t121 t122 t123 t126 A26 t128 t129 t130 t133 A27 t135 t136 t137 t140 A28 t142 t143 t144 t147 A29 w31 g127 w32 GW127 N112_127 N127_112 N119_127 N127_119 Ao36 co36 w37 g134 w38 GW134 N112_134 N134_112 N119_134 N134_119 N127_134 N134_127 Ao43 co43 w44 g141 w45 GW141 N112_141 N141_112 N119_141 N141_119 N127_141 N141_127 N134_141 N141_134 Ao51 co51 w52 g148 w53 GW148 N112_148 N148_112 N119_148 N148_119 N127_148 N148_127 N134_148 N148_134 N141_148 N148_141 Ao60 co60 HO125 HO132 HO139 HO146 u34 u35 u36 u37 u38 u39 u40 u41 u42 u43 u44 u45 u46 u47 u48 u49 u50 u51 u52 u53 u54 u55 u56 u57 u58 u59 u60 u61 u62 u63 u64 u65 u66 u67 u68 u69 u70 u71 u72 u73 u74 u75 u76 u77 u78 u79 u80 u81 u82 u83 u84 u85 u86 u87 u88 u89 u90 u91 u92 u93 u94 u95 u96 u97 u98 u99 u215 u216 u217 u218 u219 u220 u221 u222 u223 u224 u225 u226 u227 u228 u229 u230 u231 u232 u233 u234 u235 u236 u237 u238 u239 u240 u241 u242 u243 u244 u245 u246 u247 u248 u249 u250 u251 u252 u253 u254 u255 u256 u257 u258 u259 u260 u261 u262 u263 kj29 HJ29 z404_ z405_ wr u2 u18 u19 u20 u21 z520_ z521_ z522_ x17_3 k3 z537_ HK3 u152 kj69 HJ69 t150 t151 t152 A86 z651_ z652_ HT_ HW_ w88 w89 hHeld z668_ z669_ z670_ z671_ wc u101 u102 u103 u104 u105 u106 u107 u108 u109 u110 u111 u112 u113 u114 u115 u116 u117 u118 u119 u120 u121 u122 u123 u124 u125 u126 u127 u128 u129 u130 u131 u132 u133 u134 u135 u136 u137 u138 u139 u140 u141 u142 u143 u144 u145 u146 u147 u148 u149 u150 u151 u153 u154 u155 u156 u157 u158 u159 u160 u161 u162 u163 u164 u165 u166 u167 u168 u169 u170 u171 u172 u173 u174 u175 u176 u177 u178 u179 u180 u181 u182 u183 u184 u185 u186 u187 u188 u189 u190 u191 u192 u193 u194 u195 u196 u197 u198 u199 u200 u201 u202 u203 u204 u205 u206 u207 u208 u209 u210 u211 u212 u213 u214 HO_3 O0 O1 O2 O3 O4 O5 B112 B119 B127 B134 B141 B148 HB kj86 HJ86 H c124b0 c125b0 c126b0 c127b0 c157b0 c158b0 c161b0 c164
 rw [if_neg c164] at H
 have c164b0 : decide (0 < t151) = false := decide_eq_false c164
 clear c164
 by_cases c177 : t151 = 0
 rotate_left
 ·
  rw [if_neg c177] at H
  have c177b0 : (t151 == 0) = false := beq_eq_false_iff_ne.mpr c177
  have c177b1 : (t151 != 0) = true := bne_iff_ne.mpr c177
  have H' := aK H; clear H
  try go_wp2
  replace HO_3 := vdw HO_3; replace O0 := rdw O0; replace O1 := rdw O1; replace O2 := rdw O2; replace O3 := rdw O3; replace O4 := rdw O4; replace O5 := rdw O5; replace B112 := bD B112; replace B119 := bD B119; replace B127 := bD B127; replace B134 := bD B134; replace B141 := bD B141; replace B148 := bD B148; replace HB := aK (below_drew1 HB.out); obtain ⟨ad156, e156, hx156_0, p156, q156⟩ := aI O4 x17_3; cases e156; obtain ⟨ad157, e157, hx157_0, p157, q157⟩ := aI O2 x17_3; cases e157
  refine start_ (n := 12) (S := fun w' => w'.cell? ⟨g141, 0, none⟩ = some (.int .i64 t135) ∧ w'.cell? ⟨g141, 1, none⟩ = some (.int .i64 t136) ∧ w'.cell? ⟨g141, 2, none⟩ = some (.slice (some ad156) t137.length co51) ∧ w'.cell? ⟨g127, 0, none⟩ = some (.int .i64 t121) ∧ w'.cell? ⟨g127, 1, none⟩ = some (.int .i64 t122) ∧ w'.cell? ⟨g127, 2, none⟩ = some (.slice (some ad157) t123.length co36) ∧ w'.cell? (ad156.add (x17_3).toNat) = some (.int .i64 (rd t137 x17_3)) ∧ w'.cell? (ad157.add (x17_3).toNat) = some (.int .i64 (rd t123 x17_3))) (ds := []) (bz [0, 12]) (by kernel_rfl) rfl rfl (cj3 B141.out (cj3 B127.out ⟨hx156_0, hx157_0⟩)) (fun hHeld => ?_); refine with_tabW tab20 bits20 (fun HT_ HW_ => ?_)
  generalize wc.drew = w184 at HO_3 O0 O1 O2 O3 O4 O5 B112 B119 B127 B134 B141 B148 HB hx156_0 hx157_0 hHeld ⊢
  refine pz 0 153 [1, 11] HT_ ?_
  refine pz 2 155 [1, 1, 1, 9] HT_ ?_
  refine pz 5 158 [1, 1, 1, 2, 1, 6] HT_ ?_
  refine pz 7 160 [1, 1, 1, 2, 1, 1, 1, 4] HT_ ?_
  refine tz 1 154 [3, 2, 1, 1, 1, 4] HT_ HW_ rfl (by rintro w' ⟨s0, s1, s2, s3, s4, s5, s6, s7⟩; go_simp; with_reducible rfl) hHeld ?_
  refine pz 3 156 [4, 1, 1, 1, 1, 4] HT_ ?_
  refine tz 4 157 [6, 1, 1, 4] HT_ HW_ rfl (by rintro w' ⟨s0, s1, s2, s3, s4, s5, s6, s7⟩; go_simp; with_reducible rfl) hHeld ?_
  refine tz 6 159 [8, 4] HT_ HW_ rfl (by rintro w' ⟨s0, s1, s2, s3, s4, s5, s6, s7⟩; go_simp; with_reducible rfl) hHeld ?_
  refine pz 8 161 [9, 3] HT_ ?_
  refine tz 9 162 [10, 2] HT_ HW_ rfl (by rintro w' ⟨s0, s1, s2, s3, s4, s5, s6, s7⟩; go_simp; with_reducible rfl) hHeld ?_
  refine pz 10 163 [11, 1] HT_ ?_
  refine pz 11 21 [12, 0] HT_ ?_
  refine done_ (done_of HT_.out (by kernel_rfl)) ?_
  try go_wp2
  replace HO_3 := vdw HO_3; replace O0 := rdw O0; replace O1 := rdw O1; replace O2 := rdw O2; replace O3 := rdw O3; replace O4 := rdw O4; replace O5 := rdw O5; replace B112 := bD B112; replace B119 := bD B119; replace B127 := bD B127; replace B134 := bD B134; replace B141 := bD B141; replace B148 := bD B148; replace HB := aK (below_drew1 HB.out); obtain ⟨ad165, e165, hx165_0, p165, q165⟩ := aI O2 x17_3
  obtain rfl : ad157 = ad165 := (by injection e165)
  obtain ⟨ad166, e166, hx166_0, p166, q166⟩ := aI O3 x17_3; cases e166; obtain ⟨ad167, e167, hx167_0, p167, q167⟩ := aI O3 x17_3
  obtain rfl : ad166 = ad167 := (by injection e167)
  obtain ⟨ad168, e168, hx168_0, p168, q168⟩ := aI O4 x17_3
  obtain rfl : ad156 = ad168 := (by injection e168)
  refine start_ (n := 49) (S := fun w' => w'.cell? ⟨g127, 0, none⟩ = some (.int .i64 t121) ∧ w'.cell? ⟨g127, 1, none⟩ = some (.int .i64 t122) ∧ w'.cell? ⟨g127, 2, none⟩ = some (.slice (some ad157) t123.length co36) ∧ w'.cell? ⟨g134, 0, none⟩ = some (.int .i64 t128) ∧ w'.cell? ⟨g134, 1, none⟩ = some (.int .i64 t129) ∧ w'.cell? ⟨g134, 2, none⟩ = some (.slice (some ad166) t130.length co43) ∧ w'.cell? ⟨g141, 0, none⟩ = some (.int .i64 t135) ∧ w'.cell? ⟨g141, 1, none⟩ = some (.int .i64 t136) ∧ w'.cell? ⟨g141, 2, none⟩ = some (.slice (some ad156) t137.length co51) ∧ w'.cell? (ad157.add (x17_3).toNat) = some (.int .i64 (rd t123 x17_3)) ∧ w'.cell? (ad166.add (x17_3).toNat) = some (.int .i64 (rd t130 x17_3)) ∧ w'.cell? (ad166.add (x17_3).toNat) = some (.int .i64 (rd t130 x17_3)) ∧ w'.cell? (ad156.add (x17_3).toNat) = some (.int .i64 (rd t137 x17_3))) (ds := []) (bz [0, 49]) (by kernel_rfl) rfl rfl (cj3 B127.out (cj3 B134.out (cj3 B141.out ⟨hx165_0, hx166_0, hx167_0, hx168_0⟩))) (fun hHeld => ?_); refine with_tabW tab23 bits23 (fun HT_ HW_ => ?_)
  generalize w184.drew = w185 at HO_3 O0 O1 O2 O3 O4 O5 B112 B119 B127 B134 B141 B148 HB hx165_0 hx166_0 hx167_0 hx168_0 hHeld ⊢
  refine pz 0 166 [1, 48] HT_ ?_
  refine pz 2 168 [1, 1, 1, 46] HT_ ?_
  refine pz 5 171 [1, 1, 1, 2, 1, 43] HT_ ?_
  refine pz 7 173 [1, 1, 1, 2, 1, 1, 1, 41] HT_ ?_
  refine tz 1 167 [3, 2, 1, 1, 1, 41] HT_ HW_ rfl (by rintro w' ⟨s0, s1, s2, s3, s4, s5, s6, s7, s8, s9, s10, s11, s12⟩; go_simp; with_reducible rfl) hHeld ?_
  refine pz 3 169 [4, 1, 1, 1, 1, 41] HT_ ?_
  refine tz 4 170 [6, 1, 1, 41] HT_ HW_ rfl (by rintro w' ⟨s0, s1, s2, s3, s4, s5, s6, s7, s8, s9, s10, s11, s12⟩; go_simp; with_reducible rfl) hHeld ?_
  refine tz 6 172 [8, 41] HT_ HW_ rfl (by rintro w' ⟨s0, s1, s2, s3, s4, s5, s6, s7, s8, s9, s10, s11, s12⟩; go_simp; with_reducible rfl) hHeld ?_
  refine pz 8 174 [9, 40] HT_ ?_
  refine tz 9 175 [10, 39] HT_ HW_ rfl (by rintro w' ⟨s0, s1, s2, s3, s4, s5, s6, s7, s8, s9, s10, s11, s12⟩; go_simp; with_reducible rfl) hHeld ?_
  refine pz 10 176 [11, 38] HT_ ?_
  refine pz 11 177 [12, 37] HT_ ?_
  refine pz 12 178 [13, 36] HT_ ?_
  refine pz 14 180 [13, 1, 1, 34] HT_ ?_
  refine pz 17 183 [13, 1, 1, 2, 1, 31] HT_ ?_
  refine pz 19 185 [13, 1, 1, 2, 1, 1, 1, 29] HT_ ?_
  refine tz 13 179 [15, 2, 1, 1, 1, 29] HT_ HW_ rfl (by rintro w' ⟨s0, s1, s2, s3, s4, s5, s6, s7, s8, s9, s10, s11, s12⟩; go_simp; with_reducible rfl) hHeld ?_
  refine pz 15 181 [16, 1, 1, 1, 1, 29] HT_ ?_
  refine tz 16 182 [18, 1, 1, 29] HT_ HW_ rfl (by rintro w' ⟨s0, s1, s2, s3, s4, s5, s6, s7, s8, s9, s10, s11, s12⟩; go_simp; with_reducible rfl) hHeld ?_
  refine tz 18 184 [20, 29] HT_ HW_ rfl (by rintro w' ⟨s0, s1, s2, s3, s4, s5, s6, s7, s8, s9, s10, s11, s12⟩; go_simp; with_reducible rfl) hHeld ?_
  refine pz 20 186 [21, 28] HT_ ?_
  refine tz 21 187 [22, 27] HT_ HW_ rfl (by rintro w' ⟨s0, s1, s2, s3, s4, s5, s6, s7, s8, s9, s10, s11, s12⟩; go_simp; with_reducible rfl) hHeld ?_
  refine pz 22 188 [23, 26] HT_ ?_
  refine pz 23 189 [24, 25] HT_ ?_
  refine pz 24 190 [25, 24] HT_ ?_
  refine pz 25 191 [26, 23] HT_ ?_
  refine pz 26 192 [27, 22] HT_ ?_
  refine pz 27 193 [28, 21] HT_ ?_
  refine pd 28 194 [29, 20] HT_ ?_
  refine pd 29 195 [30, 19] HT_ ?_
  refine pd 30 196 [31, 18] HT_ ?_
  refine pd 31 197 [32, 17] HT_ ?_
  refine pd 32 198 [33, 16] HT_ ?_
  refine pd 33 199 [34, 15] HT_ ?_
  refine pd 34 200 [35, 14] HT_ ?_
  refine pz 35 201 [36, 13] HT_ ?_
  refine pz 36 202 [37, 12] HT_ ?_
  refine pz 37 203 [38, 11] HT_ ?_
  refine pz 38 204 [39, 10] HT_ ?_
  refine pz 39 205 [40, 9] HT_ ?_
  refine pz 40 206 [41, 8] HT_ ?_
  refine pd 41 207 [42, 7] HT_ ?_
  refine pd 42 208 [43, 6] HT_ ?_
  refine pd 43 209 [44, 5] HT_ ?_
  refine pd 44 210 [45, 4] HT_ ?_
  refine pd 45 211 [46, 3] HT_ ?_
  refine pd 46 212 [47, 2] HT_ ?_
  refine pz 47 213 [48, 1] HT_ ?_
  refine pz 48 214 [49, 0] HT_ ?_
  refine done_ (done_of HT_.out (by kernel_rfl)) ?_
  try go_wp2
  go_roundg kj86
  case measure => have := HJ6.out; have := HJ29.out; have := HK3.out; have := HJ69.out; have := HJ86.out; omega
  case rel => exact ⟨(wrap64 (x17_3 + 1)), (by first | rfl | (simp; done) | (simp [*]; done)), H', ⟨by have := HJ6.out; have := HJ29.out; have := HK3.out; have := HJ69.out; have := HJ86.out; omega⟩, ⟨by (with_reducible repeat (first | apply Kd.V_alloc | apply Kd.V_drewN | apply Kd.V_drew)); exact HO_3.out⟩, ⟨pR O0.out⟩, ⟨pR O1.out⟩, ⟨pR O2.out⟩, ⟨pR O3.out⟩, ⟨pR O4.out⟩, ⟨pR O5.out⟩, ⟨by refine bk ?_; exact B112.out⟩, ⟨by refine bk ?_; exact B119.out⟩, ⟨by refine bk ?_; exact B127.out⟩, ⟨by refine bk ?_; exact B134.out⟩, ⟨by refine bk ?_; exact B141.out⟩, ⟨by refine bk ?_; exact B148.out⟩, ⟨pT HB.out⟩⟩
 rw [if_pos c177] at H
 have c177b0 : (t151 == 0) = true := beq_iff_eq.mpr c177
 have c177b1 : (t151 != 0) = false := bne_eq_false_iff_eq.mpr c177
 clear c177
 by_cases c178 : x17_3 < (t144.length : Int)
 rotate_left
 ·
  rw [if_neg c178] at H
  exact absurd H (by simp)
 rw [if_pos c178] at H
 have c178b0 : decide (x17_3 < (t144.length : Int)) = true := decide_eq_true c178
 clear c178
 by_cases c179 : (rd t144 x17_3) = (-9999)
 ·
  rw [if_pos c179] at H
  have c179b0 : ((rd t144 x17_3) == (-9999)) = true := beq_iff_eq.mpr c179
  have c179b1 : ((rd t144 x17_3) != (-9999)) = false := bne_eq_false_iff_eq.mpr c179
  clear c179; have H' := aK H; clear H
  try go_wp2
  replace HO_3 := vdw HO_3; replace O0 := rdw O0; replace O1 := rdw O1; replace O2 := rdw O2; replace O3 := rdw O3; replace O4 := rdw O4; replace O5 := rdw O5; replace B112 := bD B112; replace B119 := bD B119; replace B127 := bD B127; replace B134 := bD B134; replace B141 := bD B141; replace B148 := bD B148; replace HB := aK (below_drew1 HB.out); obtain ⟨ad156, e156, hx156_0, p156, q156⟩ := aI O4 x17_3; cases e156; obtain ⟨ad157, e157, hx157_0, p157, q157⟩ := aI O2 x17_3; cases e157
  refine start_ (n := 12) (S := fun w' => w'.cell? ⟨g141, 0, none⟩ = some (.int .i64 t135) ∧ w'.cell? ⟨g141, 1, none⟩ = some (.int .i64 t136) ∧ w'.cell? ⟨g141, 2, none⟩ = some (.slice (some ad156) t137.length co51) ∧ w'.cell? ⟨g127, 0, none⟩ = some (.int .i64 t121) ∧ w'.cell? ⟨g127, 1, none⟩ = some (.int .i64 t122) ∧ w'.cell? ⟨g127, 2, none⟩ = some (.slice (some ad157) t123.length co36) ∧ w'.cell? (ad156.add (x17_3).toNat) = some (.int .i64 (rd t137 x17_3)) ∧ w'.cell? (ad157.add (x17_3).toNat) = some (.int .i64 (rd t123 x17_3))) (ds := []) (bz [0, 12]) (by kernel_rfl) rfl rfl (cj3 B141.out (cj3 B127.out ⟨hx156_0, hx157_0⟩)) (fun hHeld => ?_); refine with_tabW tab20 bits20 (fun HT_ HW_ => ?_)
  generalize wc.drew = w180 at HO_3 O0 O1 O2 O3 O4 O5 B112 B119 B127 B134 B141 B148 HB hx156_0 hx157_0 hHeld ⊢
  refine pz 0 153 [1, 11] HT_ ?_
  refine pz 2 155 [1, 1, 1, 9] HT_ ?_
  refine pz 5 158 [1, 1, 1, 2, 1, 6] HT_ ?_
  refine pz 7 160 [1, 1, 1, 2, 1, 1, 1, 4] HT_ ?_
  refine tz 1 154 [3, 2, 1, 1, 1, 4] HT_ HW_ rfl (by rintro w' ⟨s0, s1, s2, s3, s4, s5, s6, s7⟩; go_simp; with_reducible rfl) hHeld ?_
  refine pz 3 156 [4, 1, 1, 1, 1, 4] HT_ ?_
  refine tz 4 157 [6, 1, 1, 4] HT_ HW_ rfl (by rintro w' ⟨s0, s1, s2, s3, s4, s5, s6, s7⟩; go_simp; with_reducible rfl) hHeld ?_
  refine tz 6 159 [8, 4] HT_ HW_ rfl (by rintro w' ⟨s0, s1, s2, s3, s4, s5, s6, s7⟩; go_simp; with_reducible rfl) hHeld ?_
  refine pz 8 161 [9, 3] HT_ ?_
  refine tz 9 162 [10, 2] HT_ HW_ rfl (by rintro w' ⟨s0, s1, s2, s3, s4, s5, s6, s7⟩; go_simp; with_reducible rfl) hHeld ?_
  refine pz 10 163 [11, 1] HT_ ?_
  refine pz 11 21 [12, 0] HT_ ?_
  refine done_ (done_of HT_.out (by kernel_rfl)) ?_
  try go_wp2
  replace HO_3 := vdw HO_3; replace O0 := rdw O0; replace O1 := rdw O1; replace O2 := rdw O2; replace O3 := rdw O3; replace O4 := rdw O4; replace O5 := rdw O5; replace B112 := bD B112; replace B119 := bD B119; replace B127 := bD B127; replace B134 := bD B134; replace B141 := bD B141; replace B148 := bD B148; replace HB := aK (below_drew1 HB.out); obtain ⟨ad165, e165, hx165_0, p165, q165⟩ := aI O2 x17_3
  obtain rfl : ad157 = ad165 := (by injection e165)
  obtain ⟨ad166, e166, hx166_0, p166, q166⟩ := aI O3 x17_3; cases e166; obtain ⟨ad167, e167, hx167_0, p167, q167⟩ := aI O3 x17_3
  obtain rfl : ad166 = ad167 := (by injection e167)
  obtain ⟨ad168, e168, hx168_0, p168, q168⟩ := aI O4 x17_3
  obtain rfl : ad156 = ad168 := (by injection e168)
  obtain ⟨ad171, e171, hx171_0, p171, q171⟩ := aI O5 x17_3; cases e171
  refine start_ (n := 49) (S := fun w' => w'.cell? ⟨g127, 0, none⟩ = some (.int .i64 t121) ∧ w'.cell? ⟨g127, 1, none⟩ = some (.int .i64 t122) ∧ w'.cell? ⟨g127, 2, none⟩ = some (.slice (some ad157) t123.length co36) ∧ w'.cell? ⟨g134, 0, none⟩ = some (.int .i64 t128) ∧ w'.cell? ⟨g134, 1, none⟩ = some (.int .i64 t129) ∧ w'.cell? ⟨g134, 2, none⟩ = some (.slice (some ad166) t130.length co43) ∧ w'.cell? ⟨g141, 0, none⟩ = some (.int .i64 t135) ∧ w'.cell? ⟨g141, 1, none⟩ = some (.int .i64 t136) ∧ w'.cell? ⟨g141, 2, none⟩ = some (.slice (some ad156) t137.length co51) ∧ w'.cell? ⟨g148, 0, none⟩ = some (.int .i64 t142) ∧ w'.cell? ⟨g148, 1, none⟩ = some (.int .i64 t143) ∧ w'.cell? ⟨g148, 2, none⟩ = some (.slice (some ad171) t144.length co60) ∧ w'.cell? (ad157.add (x17_3).toNat) = some (.int .i64 (rd t123 x17_3)) ∧ w'.cell? (ad166.add (x17_3).toNat) = some (.int .i64 (rd t130 x17_3)) ∧ w'.cell? (ad166.add (x17_3).toNat) = some (.int .i64 (rd t130 x17_3)) ∧ w'.cell? (ad156.add (x17_3).toNat) = some (.int .i64 (rd t137 x17_3)) ∧ w'.cell? (ad171.add (x17_3).toNat) = some (.int .i64 (rd t144 x17_3))) (ds := []) (bz [0, 49]) (by kernel_rfl) rfl rfl (cj3 B127.out (cj3 B134.out (cj3 B141.out (cj3 B148.out ⟨hx165_0, hx166_0, hx167_0, hx168_0, hx171_0⟩)))) (fun hHeld => ?_); refine with_tabW tab23 bits23 (fun HT_ HW_ => ?_)
  generalize w180.drew = w181 at HO_3 O0 O1 O2 O3 O4 O5 B112 B119 B127 B134 B141 B148 HB hx165_0 hx166_0 hx167_0 hx168_0 hx171_0 hHeld ⊢
  refine pz 0 166 [1, 48] HT_ ?_
  refine pz 2 168 [1, 1, 1, 46] HT_ ?_
  refine pz 5 171 [1, 1, 1, 2, 1, 43] HT_ ?_
  refine pz 7 173 [1, 1, 1, 2, 1, 1, 1, 41] HT_ ?_
  refine tz 1 167 [3, 2, 1, 1, 1, 41] HT_ HW_ rfl (by rintro w' ⟨s0, s1, s2, s3, s4, s5, s6, s7, s8, s9, s10, s11, s12, s13, s14, s15, s16⟩; go_simp; with_reducible rfl) hHeld ?_
  refine pz 3 169 [4, 1, 1, 1, 1, 41] HT_ ?_
  refine tz 4 170 [6, 1, 1, 41] HT_ HW_ rfl (by rintro w' ⟨s0, s1, s2, s3, s4, s5, s6, s7, s8, s9, s10, s11, s12, s13, s14, s15, s16⟩; go_simp; with_reducible rfl) hHeld ?_
  refine tz 6 172 [8, 41] HT_ HW_ rfl (by rintro w' ⟨s0, s1, s2, s3, s4, s5, s6, s7, s8, s9, s10, s11, s12, s13, s14, s15, s16⟩; go_simp; with_reducible rfl) hHeld ?_
  refine pz 8 174 [9, 40] HT_ ?_
  refine tz 9 175 [10, 39] HT_ HW_ rfl (by rintro w' ⟨s0, s1, s2, s3, s4, s5, s6, s7, s8, s9, s10, s11, s12, s13, s14, s15, s16⟩; go_simp; with_reducible rfl) hHeld ?_
  refine pz 10 176 [11, 38] HT_ ?_
  refine pz 11 177 [12, 37] HT_ ?_
  refine pz 12 178 [13, 36] HT_ ?_
  refine pz 14 180 [13, 1, 1, 34] HT_ ?_
  refine pz 17 183 [13, 1, 1, 2, 1, 31] HT_ ?_
  refine pz 19 185 [13, 1, 1, 2, 1, 1, 1, 29] HT_ ?_
  refine tz 13 179 [15, 2, 1, 1, 1, 29] HT_ HW_ rfl (by rintro w' ⟨s0, s1, s2, s3, s4, s5, s6, s7, s8, s9, s10, s11, s12, s13, s14, s15, s16⟩; go_simp; with_reducible rfl) hHeld ?_
  refine pz 15 181 [16, 1, 1, 1, 1, 29] HT_ ?_
  refine tz 16 182 [18, 1, 1, 29] HT_ HW_ rfl (by rintro w' ⟨s0, s1, s2, s3, s4, s5, s6, s7, s8, s9, s10, s11, s12, s13, s14, s15, s16⟩; go_simp; with_reducible rfl) hHeld ?_
  refine tz 18 184 [20, 29] HT_ HW_ rfl (by rintro w' ⟨s0, s1, s2, s3, s4, s5, s6, s7, s8, s9, s10, s11, s12, s13, s14, s15, s16⟩; go_simp; with_reducible rfl) hHeld ?_
  refine pz 20 186 [21, 28] HT_ ?_
  refine tz 21 187 [22, 27] HT_ HW_ rfl (by rintro w' ⟨s0, s1, s2, s3, s4, s5, s6, s7, s8, s9, s10, s11, s12, s13, s14, s15, s16⟩; go_simp; with_reducible rfl) hHeld ?_
  refine pz 22 188 [23, 26] HT_ ?_
  refine pz 23 189 [24, 25] HT_ ?_
  refine pz 24 190 [25, 24] HT_ ?_
  refine pz 25 191 [26, 23] HT_ ?_
  refine pz 26 192 [27, 22] HT_ ?_
  refine pz 27 193 [28, 21] HT_ ?_
  refine pd 28 194 [29, 20] HT_ ?_
  refine pd 29 195 [30, 19] HT_ ?_
  refine pd 30 196 [31, 18] HT_ ?_
  refine pd 31 197 [32, 17] HT_ ?_
  refine pd 32 198 [33, 16] HT_ ?_
  refine pd 33 199 [34, 15] HT_ ?_
  refine pd 34 200 [35, 14] HT_ ?_
  refine pz 35 201 [36, 13] HT_ ?_
  refine pz 36 202 [37, 12] HT_ ?_
  refine pz 37 203 [38, 11] HT_ ?_
  refine pz 38 204 [39, 10] HT_ ?_
  refine pz 39 205 [40, 9] HT_ ?_
  refine pz 40 206 [41, 8] HT_ ?_
  refine pz 41 207 [42, 7] HT_ ?_
  refine pz 43 209 [42, 1, 1, 5] HT_ ?_
  refine tz 42 208 [44, 5] HT_ HW_ rfl (by rintro w' ⟨s0, s1, s2, s3, s4, s5, s6, s7, s8, s9, s10, s11, s12, s13, s14, s15, s16⟩; go_simp; with_reducible rfl) hHeld ?_
  refine pz 44 210 [45, 4] HT_ ?_
  refine tz 45 211 [46, 3] HT_ HW_ rfl (by rintro w' ⟨s0, s1, s2, s3, s4, s5, s6, s7, s8, s9, s10, s11, s12, s13, s14, s15, s16⟩; go_simp; with_reducible rfl) hHeld ?_
  refine pz 46 212 [47, 2] HT_ ?_
  refine pz 47 213 [48, 1] HT_ ?_
  refine pz 48 214 [49, 0] HT_ ?_
  refine done_ (done_of HT_.out (by kernel_rfl)) ?_
  try go_wp2
  go_roundg kj86
  case measure => have := HJ6.out; have := HJ29.out; have := HK3.out; have := HJ69.out; have := HJ86.out; omega
  case rel => exact ⟨(wrap64 (x17_3 + 1)), (by first | rfl | (simp; done) | (simp [*]; done)), H', ⟨by have := HJ6.out; have := HJ29.out; have := HK3.out; have := HJ69.out; have := HJ86.out; omega⟩, ⟨by (with_reducible repeat (first | apply Kd.V_alloc | apply Kd.V_drewN | apply Kd.V_drew)); exact HO_3.out⟩, ⟨pR O0.out⟩, ⟨pR O1.out⟩, ⟨pR O2.out⟩, ⟨pR O3.out⟩, ⟨pR O4.out⟩, ⟨pR O5.out⟩, ⟨by refine bk ?_; exact B112.out⟩, ⟨by refine bk ?_; exact B119.out⟩, ⟨by refine bk ?_; exact B127.out⟩, ⟨by refine bk ?_; exact B134.out⟩, ⟨by refine bk ?_; exact B141.out⟩, ⟨by refine bk ?_; exact B148.out⟩, ⟨pT HB.out⟩⟩
 rw [if_neg c179] at H
 have c179b0 : ((rd t144 x17_3) == (-9999)) = false := beq_eq_false_iff_ne.mpr c179
 have c179b1 : ((rd t144 x17_3) != (-9999)) = true := bne_iff_ne.mpr c179
 obtain rfl := Option.some.inj H
 try go_wp2
 replace HO_3 := vdw HO_3; replace O0 := rdw O0; replace O1 := rdw O1; replace O2 := rdw O2; replace O3 := rdw O3; replace O4 := rdw O4; replace O5 := rdw O5; replace B112 := bD B112; replace B119 := bD B119; replace B127 := bD B127; replace B134 := bD B134; replace B141 := bD B141; replace B148 := bD B148; replace HB := aK (below_drew1 HB.out); obtain ⟨ad156, e156, hx156_0, p156, q156⟩ := aI O4 x17_3; cases e156; obtain ⟨ad157, e157, hx157_0, p157, q157⟩ := aI O2 x17_3; cases e157
 refine start_ (n := 12) (S := fun w' => w'.cell? ⟨g141, 0, none⟩ = some (.int .i64 t135) ∧ w'.cell? ⟨g141, 1, none⟩ = some (.int .i64 t136) ∧ w'.cell? ⟨g141, 2, none⟩ = some (.slice (some ad156) t137.length co51) ∧ w'.cell? ⟨g127, 0, none⟩ = some (.int .i64 t121) ∧ w'.cell? ⟨g127, 1, none⟩ = some (.int .i64 t122) ∧ w'.cell? ⟨g127, 2, none⟩ = some (.slice (some ad157) t123.length co36) ∧ w'.cell? (ad156.add (x17_3).toNat) = some (.int .i64 (rd t137 x17_3)) ∧ w'.cell? (ad157.add (x17_3).toNat) = some (.int .i64 (rd t123 x17_3))) (ds := []) (bz [0, 12]) (by kernel_rfl) rfl rfl (cj3 B141.out (cj3 B127.out ⟨hx156_0, hx157_0⟩)) (fun hHeld => ?_); refine with_tabW tab20 bits20 (fun HT_ HW_ => ?_)
 generalize wc.drew = w182 at HO_3 O0 O1 O2 O3 O4 O5 B112 B119 B127 B134 B141 B148 HB hx156_0 hx157_0 hHeld ⊢
 refine pz 0 153 [1, 11] HT_ ?_
 refine pz 2 155 [1, 1, 1, 9] HT_ ?_
 refine pz 5 158 [1, 1, 1, 2, 1, 6] HT_ ?_
 refine pz 7 160 [1, 1, 1, 2, 1, 1, 1, 4] HT_ ?_
 refine tz 1 154 [3, 2, 1, 1, 1, 4] HT_ HW_ rfl (by rintro w' ⟨s0, s1, s2, s3, s4, s5, s6, s7⟩; go_simp; with_reducible rfl) hHeld ?_
 refine pz 3 156 [4, 1, 1, 1, 1, 4] HT_ ?_
 refine tz 4 157 [6, 1, 1, 4] HT_ HW_ rfl (by rintro w' ⟨s0, s1, s2, s3, s4, s5, s6, s7⟩; go_simp; with_reducible rfl) hHeld ?_
 refine tz 6 159 [8, 4] HT_ HW_ rfl (by rintro w' ⟨s0, s1, s2, s3, s4, s5, s6, s7⟩; go_simp; with_reducible rfl) hHeld ?_
 refine pz 8 161 [9, 3] HT_ ?_
 refine tz 9 162 [10, 2] HT_ HW_ rfl (by rintro w' ⟨s0, s1, s2, s3, s4, s5, s6, s7⟩; go_simp; with_reducible rfl) hHeld ?_
 refine pz 10 163 [11, 1] HT_ ?_
 refine pz 11 21 [12, 0] HT_ ?_
 refine done_ (done_of HT_.out (by kernel_rfl)) ?_
 try go_wp2
 replace HO_3 := vdw HO_3; replace O0 := rdw O0; replace O1 := rdw O1; replace O2 := rdw O2; replace O3 := rdw O3; replace O4 := rdw O4; replace O5 := rdw O5; replace B112 := bD B112; replace B119 := bD B119; replace B127 := bD B127; replace B134 := bD B134; replace B141 := bD B141; replace B148 := bD B148; replace HB := aK (below_drew1 HB.out); obtain ⟨ad165, e165, hx165_0, p165, q165⟩ := aI O2 x17_3
 obtain rfl : ad157 = ad165 := (by injection e165)
 obtain ⟨ad166, e166, hx166_0, p166, q166⟩ := aI O3 x17_3; cases e166; obtain ⟨ad167, e167, hx167_0, p167, q167⟩ := aI O3 x17_3
 obtain rfl : ad166 = ad167 := (by injection e167)
 obtain ⟨ad168, e168, hx168_0, p168, q168⟩ := aI O4 x17_3
 obtain rfl : ad156 = ad168 := (by injection e168)
 obtain ⟨ad171, e171, hx171_0, p171, q171⟩ := aI O5 x17_3; cases e171
 refine start_ (n := 49) (S := fun w' => w'.cell? ⟨g127, 0, none⟩ = some (.int .i64 t121) ∧ w'.cell? ⟨g127, 1, none⟩ = some (.int .i64 t122) ∧ w'.cell? ⟨g127, 2, none⟩ = some (.slice (some ad157) t123.length co36) ∧ w'.cell? ⟨g134, 0, none⟩ = some (.int .i64 t128) ∧ w'.cell? ⟨g134, 1, none⟩ = some (.int .i64 t129) ∧ w'.cell? ⟨g134, 2, none⟩ = some (.slice (some ad166) t130.length co43) ∧ w'.cell? ⟨g141, 0, none⟩ = some (.int .i64 t135) ∧ w'.cell? ⟨g141, 1, none⟩ = some (.int .i64 t136) ∧ w'.cell? ⟨g141, 2, none⟩ = some (.slice (some ad156) t137.length co51) ∧ w'.cell? ⟨g148, 0, none⟩ = some (.int .i64 t142) ∧ w'.cell? ⟨g148, 1, none⟩ = some (.int .i64 t143) ∧ w'.cell? ⟨g148, 2, none⟩ = some (.slice (some ad171) t144.length co60) ∧ w'.cell? (ad157.add (x17_3).toNat) = some (.int .i64 (rd t123 x17_3)) ∧ w'.cell? (ad166.add (x17_3).toNat) = some (.int .i64 (rd t130 x17_3)) ∧ w'.cell? (ad166.add (x17_3).toNat) = some (.int .i64 (rd t130 x17_3)) ∧ w'.cell? (ad156.add (x17_3).toNat) = some (.int .i64 (rd t137 x17_3)) ∧ w'.cell? (ad171.add (x17_3).toNat) = some (.int .i64 (rd t144 x17_3))) (ds := []) (bz [0, 49]) (by kernel_rfl) rfl rfl (cj3 B127.out (cj3 B134.out (cj3 B141.out (cj3 B148.out ⟨hx165_0, hx166_0, hx167_0, hx168_0, hx171_0⟩)))) (fun hHeld => ?_); refine with_tabW tab23 bits23 (fun HT_ HW_ => ?_)
 generalize w182.drew = w183 at HO_3 O0 O1 O2 O3 O4 O5 B112 B119 B127 B134 B141 B148 HB hx165_0 hx166_0 hx167_0 hx168_0 hx171_0 hHeld ⊢
 refine pz 0 166 [1, 48] HT_ ?_
 refine pz 2 168 [1, 1, 1, 46] HT_ ?_
 refine pz 5 171 [1, 1, 1, 2, 1, 43] HT_ ?_
 refine pz 7 173 [1, 1, 1, 2, 1, 1, 1, 41] HT_ ?_
 refine tz 1 167 [3, 2, 1, 1, 1, 41] HT_ HW_ rfl (by rintro w' ⟨s0, s1, s2, s3, s4, s5, s6, s7, s8, s9, s10, s11, s12, s13, s14, s15, s16⟩; go_simp; with_reducible rfl) hHeld ?_
 refine pz 3 169 [4, 1, 1, 1, 1, 41] HT_ ?_
 refine tz 4 170 [6, 1, 1, 41] HT_ HW_ rfl (by rintro w' ⟨s0, s1, s2, s3, s4, s5, s6, s7, s8, s9, s10, s11, s12, s13, s14, s15, s16⟩; go_simp; with_reducible rfl) hHeld ?_
 refine tz 6 172 [8, 41] HT_ HW_ rfl (by rintro w' ⟨s0, s1, s2, s3, s4, s5, s6, s7, s8, s9, s10, s11, s12, s13, s14, s15, s16⟩; go_simp; with_reducible rfl) hHeld ?_
 refine pz 8 174 [9, 40] HT_ ?_
 refine tz 9 175 [10, 39] HT_ HW_ rfl (by rintro w' ⟨s0, s1, s2, s3, s4, s5, s6, s7, s8, s9, s10, s11, s12, s13, s14, s15, s16⟩; go_simp; with_reducible rfl) hHeld ?_
 refine pz 10 176 [11, 38] HT_ ?_
 refine pz 11 177 [12, 37] HT_ ?_
 refine pz 12 178 [13, 36] HT_ ?_
 refine pz 14 180 [13, 1, 1, 34] HT_ ?_
 refine pz 17 183 [13, 1, 1, 2, 1, 31] HT_ ?_
 refine pz 19 185 [13, 1, 1, 2, 1, 1, 1, 29] HT_ ?_
 refine tz 13 179 [15, 2, 1, 1, 1, 29] HT_ HW_ rfl (by rintro w' ⟨s0, s1, s2, s3, s4, s5, s6, s7, s8, s9, s10, s11, s12, s13, s14, s15, s16⟩; go_simp; with_reducible rfl) hHeld ?_
 refine pz 15 181 [16, 1, 1, 1, 1, 29] HT_ ?_
 refine tz 16 182 [18, 1, 1, 29] HT_ HW_ rfl (by rintro w' ⟨s0, s1, s2, s3, s4, s5, s6, s7, s8, s9, s10, s11, s12, s13, s14, s15, s16⟩; go_simp; with_reducible rfl) hHeld ?_
 refine tz 18 184 [20, 29] HT_ HW_ rfl (by rintro w' ⟨s0, s1, s2, s3, s4, s5, s6, s7, s8, s9, s10, s11, s12, s13, s14, s15, s16⟩; go_simp; with_reducible rfl) hHeld ?_
 refine pz 20 186 [21, 28] HT_ ?_
 refine tz 21 187 [22, 27] HT_ HW_ rfl (by rintro w' ⟨s0, s1, s2, s3, s4, s5, s6, s7, s8, s9, s10, s11, s12, s13, s14, s15, s16⟩; go_simp; with_reducible rfl) hHeld ?_
 refine pz 22 188 [23, 26] HT_ ?_
 refine pz 23 189 [24, 25] HT_ ?_
 refine pz 24 190 [25, 24] HT_ ?_
 refine pz 25 191 [26, 23] HT_ ?_
 refine pz 26 192 [27, 22] HT_ ?_
 refine pz 27 193 [28, 21] HT_ ?_
 refine pd 28 194 [29, 20] HT_ ?_
 refine pd 29 195 [30, 19] HT_ ?_
 refine pd 30 196 [31, 18] HT_ ?_
 refine pd 31 197 [32, 17] HT_ ?_
 refine pd 32 198 [33, 16] HT_ ?_
 refine pd 33 199 [34, 15] HT_ ?_
 refine pd 34 200 [35, 14] HT_ ?_
 refine pz 35 201 [36, 13] HT_ ?_
 refine pz 36 202 [37, 12] HT_ ?_
 refine pz 37 203 [38, 11] HT_ ?_
 refine pz 38 204 [39, 10] HT_ ?_
 refine pz 39 205 [40, 9] HT_ ?_
 refine pz 40 206 [41, 8] HT_ ?_
 refine pz 41 207 [42, 7] HT_ ?_
 refine pz 43 209 [42, 1, 1, 5] HT_ ?_
 refine tz 42 208 [44, 5] HT_ HW_ rfl (by rintro w' ⟨s0, s1, s2, s3, s4, s5, s6, s7, s8, s9, s10, s11, s12, s13, s14, s15, s16⟩; go_simp; with_reducible rfl) hHeld ?_
 refine pz 44 210 [45, 4] HT_ ?_
 refine tz 45 211 [46, 3] HT_ HW_ rfl (by rintro w' ⟨s0, s1, s2, s3, s4, s5, s6, s7, s8, s9, s10, s11, s12, s13, s14, s15, s16⟩; go_simp; with_reducible rfl) hHeld ?_
 refine pz 46 212 [47, 2] HT_ ?_
 refine pz 47 213 [48, 1] HT_ ?_
 refine pz 48 214 [49, 0] HT_ ?_
 refine done_ (done_of HT_.out (by kernel_rfl)) ?_
 try go_wp2
 go_ret
 exact ⟨er, pT HB.out⟩
end Go.Proofs.Ytpggcolcabmdeaa.P
