/- Texts of the claim FnExactHoleCount, merged: part 5 of 10: the program's and the reference's functions as Lean functions, the walks that show it, and plain lemmas; no conditions. -/
import Derived.Test.YtnbpcacnbfbjkaaKFnExactHoleCount4
import Derived.Shelf.SlSortCmp.Insertion1
import Derived.Ground.SlsfProg
import Derived.Test.YtnbpcacnbfbjkaaProg
import Derived.Sort.LotA
import Derived.Test.YtnbpcacnbfbjkaaKFnExactHoleCount1
import Derived.Test.YtnbpcacnbfbjkaaKFnExactHoleCount3
set_option linter.unusedVariables false
set_option linter.unusedSimpArgs false
open Go.RowKit Go.Proofs.YtnbpcacnbfbjkaaW.PrintWords Go.Proofs.YtnbpcacnbfbjkaaW.PrintLast Go.Proofs.YtnbpcacnbfbjkaaW.PrintMore
namespace Go.Proofs.Ytnbpcacnbfbjkaa.P
open Go.RowKit Go.Shelf Go.Lib Go.Sort Go.Proofs Go.Proofs.YtnbpcacnbfbjkaaW.PrintWords Go.Proofs.YtnbpcacnbfbjkaaW.PrintLast Go.Proofs.YtnbpcacnbfbjkaaW.PrintMore
section
variable {α : Type} [Inhabited α]
set_option linter.unusedSectionVars false
theorem symC {n : Nat} {d1 : Array α} {blk off cap : Nat} {x y z fv : Value} {w : World} {Q : Ending → World → Prop} (hz : d1.size = n) (h : Calls Try.prog 55 #[.slice (some ⟨blk, off, none⟩) d1.size cap, x, y, z, fv] w Q) :
    Calls Try.prog 55 #[.slice (some ⟨blk, off, none⟩) n cap, x, y, z, fv] w Q := hz ▸ h
theorem rotd_pos {s m e : Nat} {d : Array α} (h : s < m ∧ m < e) : rotd s m e d = rotL m (e - s) (m - s) (e - m) d := if_pos h
theorem rotd_neg {s m e : Nat} {d : Array α} (h : ¬ (s < m ∧ m < e)) : rotd s m e d = d := if_neg h
def LoAt (a m b mid lo r0 : Nat) : Prop := (mid < m ∧ lo + b = mid + m ∧ r0 = mid) ∨ (m ≤ mid ∧ lo = a ∧ r0 = m)
def SymAll (enc : α → Value) (cf : α → α → Int) (g : Nat) (cb : Array Value) (blk off cap : Nat) (d0 : Array α) (w0 : World) (N : Nat) : Prop := ∀ (a m b : Nat) (d : Array α) (w : World), b - a ≤ N → d0.size = d.size → SW enc w0 blk off d w → a < m → m < b → b ≤ d.size → d.size < 4611686018427387904 →
    SortedIn (ltOf cf) a m d → SortedIn (ltOf cf) m b d →
    Calls Try.prog 55 #[.slice (some ⟨blk, off, none⟩) d.size cap, .int .i64 a, .int .i64 m, .int .i64 b, .func (.func g) #[] cb] w (SymPost enc w0 blk off a b cf d)
set_option maxHeartbeats 64000000 in
set_option maxRecDepth 1000000 in
theorem symMerge_step (enc : α → Value) (cf : α → α → Int) (g : Nat) (cb : Array Value) (blk off cap : Nat) (d0 : Array α) (w0 : World) (eg : ∀ args w, (callFunc g args).run Try.prog w = .ok (.enter g args) w)
    (hcmp : CmpLays1 Try.prog g cb enc cf blk off d0.size w0) (R : Row1 enc w0 blk off d0) (W : SWO (ltOf cf)) (N : Nat) (ih0 : SymAll enc cf g cb blk off cap d0 w0 N) (a m b : Nat) (d : Array α) (w : World) (hN : b - a ≤ N + 1) (hs : d0.size = d.size) (S : SW enc w0 blk off d w) (ham : a < m) (hmb : m < b) (hb : b ≤ d.size) (hsz : d.size < 4611686018427387904) (h1 : SortedIn (ltOf cf) a m d) (h2 : SortedIn (ltOf cf) m b d) :
    Calls Try.prog 55 #[.slice (some ⟨blk, off, none⟩) d.size cap, .int .i64 a, .int .i64 m, .int .i64 b, .func (.func g) #[] cb] w (SymPost enc w0 blk off a b cf d) := by
    by_cases e1 : m = a + 1
    · subst e1
      exact symMerge_one enc cf g cb blk off cap d0 w0 eg hcmp R W a b d w hs S hmb hb hsz h2
    by_cases e2 : b = m + 1
    · subst e2
      exact symMerge_last enc cf g cb blk off cap d0 w0 eg hcmp R W a m d w hs S (by omega) hb hsz h1
    have ih := aK (show ∀ (a m b : Nat) (d : Array α) (w : World), b - a ≤ N → d0.size = d.size → SW enc w0 blk off d w → a < m → m < b → b ≤ d.size → d.size < 4611686018427387904 →     SortedIn (ltOf cf) a m d → SortedIn (ltOf cf) m b d →     Calls Try.prog 55 #[.slice (some ⟨blk, off, none⟩) d.size cap, .int .i64 a, .int .i64 m, .int .i64 b, .func (.func g) #[] cb] w (SymPost enc w0 blk off a b cf d) from ih0)
    clear ih0
    have mixed : Try.prog.follows Departure.mixedOrders = true := by kernel_rfl
    have hcl0 := R.hO.cells
    simp only [Value.cells] at hcl0
    have hst := R.hO.store Try.prog
    have HC : Aside _ := hcmp
    have S0 : Aside (SW enc w0 blk off d w) := S
    have WW := aK W
    have H1 := aK h1
    have H2 := aK h2
    clear S hcmp W h1 h2
    obtain ⟨mid, hmid⟩ : ∃ q, q = (a + b) / 2 := ⟨_, rfl⟩
    obtain ⟨n, hn⟩ : ∃ q, q = mid + m := ⟨_, rfl⟩
    obtain ⟨p, hp⟩ : ∃ q, q + 1 = n := ⟨n - 1, by omega⟩
    obtain ⟨q0, hq0⟩ : ∃ q, q = m - a := ⟨_, rfl⟩
    obtain ⟨q1, hq1⟩ : ∃ q, q = b - m := ⟨_, rfl⟩
    have z0 : (m : Int) - (a : Int) = (q0 : Int) := by omega
    have z1 : (b : Int) - (m : Int) = (q1 : Int) := by omega
    have z2 : ((a : Int) + (b : Int)) / 2 = (mid : Int) := by omega
    have z3 : (mid : Int) + (m : Int) = (n : Int) := by omega
    have z4 : (n : Int) - 1 = (p : Int) := by omega
    have zn : ¬ (q0 : Int) = 1 := by omega
    have zm : ¬ (q1 : Int) = 1 := by omega
    have zn2 : ¬ q0 = 1 := by omega
    have zm2 : ¬ q1 = 1 := by omega
    have zb : ((q0 : Int) == 1) = false := beq_eq_false_iff_ne.mpr zn
    have zc : ((q1 : Int) == 1) = false := beq_eq_false_iff_ne.mpr zm
    have y0 : q0 < 9223372036854775807 := by omega
    have y1 : q1 < 9223372036854775807 := by omega
    have y2 : n < 9223372036854775807 := by omega
    have y3 : p < 9223372036854775807 := by omega
    have y4 : mid < 9223372036854775807 := by omega
    have y5 : b < 4611686018427387904 := by omega
    have y8 : a < 4611686018427387904 := by omega
    have y9 : m < 4611686018427387904 := by omega
    have G : Aside0 (a < m ∧ m < b ∧ b ≤ d.size ∧ d.size < 4611686018427387904 ∧ (a + b = 2 * mid ∨ a + b = 2 * mid + 1) ∧ n = mid + m ∧ p + 1 = n ∧ b - a ≤ N + 1 ∧ d0.size = d.size ∧ a + 1 < m ∧ m + 1 < b) := ⟨ham, hmb, hb, hsz, by omega, hn, hp, hN, hs, by omega, by omega⟩
    obtain ⟨lo, r0, hL⟩ : ∃ lo r0, LoAt a m b mid lo r0 := by
      by_cases c : mid < m
      · exact ⟨mid + m - b, mid, .inl ⟨c, by omega, rfl⟩⟩
      · exact ⟨a, m, .inr ⟨by omega, rfl, rfl⟩⟩
    have LL := aK hL
    rcases hL with ⟨c, l1, l2⟩ | ⟨c, l1, l2⟩
    · have c1 : (mid : Int) < (m : Int) := by omega
      have c2 : decide ((mid : Int) < (m : Int)) = true := decide_eq_true c1
      have c3 : mid < m := c
      have c4 : decide (mid < m) = true := decide_eq_true c3
      have z5 : (n : Int) - (b : Int) = (lo : Int) := by omega
      have y6 : lo < 9223372036854775807 := by omega
      rw [l2] at LL
      clear l2
      clear hmid hn hp hq0 hq1 l1 hN hs e1 e2 ham hmb hb hsz
      go_enter Try.func55, Try.ntmps55
      go_wp2
      go_loopg [20, 21] b (fun g1 vi vj wr => ∃ i j : Nat, vi = .int .i64 i ∧ vj = .int .i64 j ∧ Aside0 (∃ lo r0, LoAt a m b mid lo r0 ∧ lo ≤ i ∧ i ≤ j ∧ j ≤ r0 ∧ j - i ≤ g1 ∧ (i = lo ∨ ltOf cf d[n - i]! d[i - 1]! = false) ∧ (j = r0 ∨ ltOf cf d[p - j]! d[j]! = true)) ∧ Aside (SW enc w0 blk off d wr))
      case atStart =>
        have hG := G.out
        refine ⟨_, _, rfl, rfl, ⟨_, _, LL.out, Nat.le_refl _, ?_, Nat.le_refl _, ?_, .inl rfl, .inl rfl⟩, S0⟩
        · have hL := LL.out
          unfold LoAt at hL
          omega
        · have hL := LL.out
          unfold LoAt at hL
          omega
      case round =>
        clear S0 zn zm zn2 zm2 zb zc z0 z1 z2 z3 z4 c1 c2 c3 c4 c LL
        obtain ⟨i, j, rfl, rfl, AA, SJ⟩ := hrel
        have hG := G.out
        obtain ⟨lo2, r2, hA⟩ := AA.out
        have hL := hA.1
        unfold LoAt at hL
        by_cases hlt : i < j
        · have hltz : (i : Int) < (j : Int) := by omega
          have hltd : decide ((i : Int) < (j : Int)) = true := decide_eq_true hltz
          obtain ⟨h, hh⟩ : ∃ h, h = (i + j) / 2 := ⟨_, rfl⟩
          have zh : ((i : Int) + (j : Int)) / 2 = (h : Int) := by omega
          obtain ⟨ph, hph⟩ : ∃ q, q + h = p := ⟨p - h, by omega⟩
          have zp : (p : Int) - (h : Int) = (ph : Int) := by omega
          have zq : (0 : Int) ≤ (ph : Int) := by omega
          have zt : (ph : Int) < (d.size : Int) := by omega
          have zu : (0 : Int) ≤ (h : Int) := by omega
          have zv : (h : Int) < (d.size : Int) := by omega
          have zw : ((ph : Int)).toNat = ph := by omega
          have zx : ((h : Int)).toNat = h := by omega
          have zr : IntKind.i64.wrap (ph : Int) = (ph : Int) := by rw [IntKind.wrap_i64]; omega
          have yi : i < 4611686018427387904 := by omega
          have yj : j < 4611686018427387904 := by omega
          have H := aK hh
          have PH := aK hph
          have hb2 : h < d.size := by omega
          have hb3 : ph < d.size := by omega
          have l1a := SJ.out.cl R (by omega) ph (by omega)
          have l1b := SJ.out.cl R (by omega) h (by omega)
          obtain ⟨x, hx⟩ : ∃ x, x = d[ph]! := ⟨_, rfl⟩
          obtain ⟨y, hy⟩ : ∃ x, x = d[h]! := ⟨_, rfl⟩
          rw [← hx] at l1a
          rw [← hy] at l1b
          have hc := SJ.out.cmp HC.out (by omega) x y
          clear hh hph hG hA hL
          cases hlv : ltOf cf x y with
          | true =>
            have HV : Aside0 (ltOf cf d[ph]! d[h]! = true) := ⟨by rw [← hx, ← hy]; exact hlv⟩
            have hv : cf x y < 0 := of_decide_eq_true hlv
            have hd : decide (cf x y < 0) = true := decide_eq_true hv
            clear hx hy hlv
            go_wp2_with fail
            go_quiet_grown (first | (go_at_fn g; refine Calls.grown_of (hc _ _)))
            have S2 : Aside (SW enc w0 blk off d (grow (wr.drewN nq) osq)) := SJ.out.grown nq osq
            clear l1a l1b hc SJ
            generalize grow (wr.drewN nq) osq = w2 at S2 ⊢
            clear nq osq
            go_wp2
            go_roundg (h - i)
            case measure => obtain ⟨_, _, hA⟩ := AA.out; have := H.out; omega
            case rel =>
              obtain ⟨lo3, r3, hA⟩ := AA.out
              have hh := H.out
              have hp := PH.out
              exact ⟨i, h, rfl, rfl, ⟨lo3, r3, hA.1, hA.2.1, by omega, by omega, Nat.le_refl _, hA.2.2.2.2.2.1, .inr (by rw [show p - h = ph by omega]; exact HV.out)⟩, S2⟩
          | false =>
            have HV : Aside0 (ltOf cf d[ph]! d[h]! = false) := ⟨by rw [← hx, ← hy]; exact hlv⟩
            have hv : ¬ cf x y < 0 := of_decide_eq_false hlv
            have hd : decide (cf x y < 0) = false := decide_eq_false hv
            clear hx hy hlv
            go_wp2_with fail
            go_quiet_grown (first | (go_at_fn g; refine Calls.grown_of (hc _ _)))
            have S2 : Aside (SW enc w0 blk off d (grow (wr.drewN nq) osq)) := SJ.out.grown nq osq
            clear l1a l1b hc SJ
            generalize grow (wr.drewN nq) osq = w2 at S2 ⊢
            clear nq osq
            go_wp2
            go_roundg (j - (h + 1))
            case measure => obtain ⟨_, _, hA⟩ := AA.out; have := H.out; omega
            case rel =>
              obtain ⟨lo3, r3, hA⟩ := AA.out
              have hh := H.out
              have hp := PH.out
              have hG := G.out
              exact ⟨h + 1, j, by first | rfl | go_num, rfl, ⟨lo3, r3, hA.1, by omega, by omega, hA.2.2.2.1, Nat.le_refl _, .inr (by rw [show n - (h + 1) = ph by omega, Nat.add_sub_cancel]; exact HV.out), hA.2.2.2.2.2.2⟩, S2⟩
        · have hltz : ¬ (i : Int) < (j : Int) := by omega
          have hltd : decide ((i : Int) < (j : Int)) = false := decide_eq_false hltz
          have eij : i = j := by omega
          subst eij
          have CT : CutAt (ltOf cf) a m b mid lo2 r2 i d := ⟨⟨hG.1, hG.2.1, hG.2.2.1⟩, hG.2.2.2.2.1, by omega, ⟨hA.2.1, hA.2.2.2.1⟩, by rw [← hG.2.2.2.2.2.1]; exact hA.2.2.2.2.2.1, by rw [show mid + m - 1 - i = p - i by omega]; exact hA.2.2.2.2.2.2⟩
          have num := CT.num
          obtain ⟨e, he⟩ : ∃ q, q = mid + m - i := ⟨_, rfl⟩
          have z6 : (n : Int) - (i : Int) = (e : Int) := by omega
          have y7 : e < 9223372036854775807 := by omega
          have four := CT.four H1.out H2.out
          have first_ := CT.first H1.out H2.out
          have second_ := fun d2 => CT.second (d2 := d2) H1.out H2.out
          have fin_ := fun d2 d3 => CT.fin (d2 := d2) (d3 := d3) WW.out H1.out H2.out
          have zz := size_rotd i m e d
          rw [← he] at four first_ second_ fin_ num
          have F4 := aK four
          have F1 := aK first_
          have F2 := aK second_
          have F3 := aK fin_
          have NM := aK num
          have ZZ := aK zz
          clear four first_ second_ fin_ num zz CT hA hL hlt he hG hltz hltd AA
          go_upto_region 39 with fail
          go_cut [185] from 178 to 185 (fun vq wc => ∃ q : Bool, vq = .bool q ∧ Aside0 (q = true ↔ (i < m ∧ m < e)) ∧ Aside (SW enc w0 blk off d wc))
          case first =>
            by_cases p1 : i < m
            · have p2 : (i : Int) < (m : Int) := by omega
              have p3 : decide ((i : Int) < (m : Int)) = true := decide_eq_true p2
              have p4 : decide (i < m) = true := decide_eq_true p1
              by_cases q1 : m < e
              · have q2 : (m : Int) < (e : Int) := by omega
                have q3 : decide ((m : Int) < (e : Int)) = true := decide_eq_true q2
                have q4 : decide (m < e) = true := decide_eq_true q1
                go_wp2
                go_meet; exact ⟨true, rfl, ⟨by simp [p1, q1]⟩, SJ⟩
              · have q2 : ¬ (m : Int) < (e : Int) := by omega
                have q3 : decide ((m : Int) < (e : Int)) = false := decide_eq_false q2
                have q4 : decide (m < e) = false := decide_eq_false q1
                go_wp2
                go_meet; exact ⟨false, rfl, ⟨by simp [p1, q1]⟩, SJ⟩
            · have p2 : ¬ (i : Int) < (m : Int) := by omega
              have p3 : decide ((i : Int) < (m : Int)) = false := decide_eq_false p2
              have p4 : decide (i < m) = false := decide_eq_false p1
              go_wp2
              go_meet; exact ⟨false, rfl, ⟨by simp [p1]⟩, SJ⟩
          case rest =>
            clear SJ
            obtain ⟨q_, rfl, HQ1, SJ⟩ := hcut
            cases q_ with
            | true =>
              have C1 := aK (HQ1.out.1 rfl)
              clear HQ1
              have IC := aK (rotate_s enc blk off cap i m e d0 d w0 wc (.func (.func g) #[] cb) R (G.out.2.2.2.2.2.2.2.2.1) SJ.out (by have := C1.out; omega) (by have := C1.out; omega) (by have := NM.out; have := G.out; omega) (by have := G.out; omega))
              go_upto_region 41 with (first | (go_at_call 56; refine IC.out.mono ?_; rintro e_ w1 ⟨rfl, hS⟩; rw [← rotd_pos C1.out] at hS; have S1 : Aside (SW enc w0 blk off (rotd i m e d) w1) := hS; clear hS SJ))
              go_cut [199] from 192 to 199 (fun vq wc => ∃ q : Bool, vq = .bool q ∧ Aside0 (q = true ↔ (a < i ∧ i < mid)) ∧ Aside (SW enc w0 blk off (rotd i m e d) wc))
              case first =>
                by_cases p1 : a < i
                · have p2 : (a : Int) < (i : Int) := by omega
                  have p3 : decide ((a : Int) < (i : Int)) = true := decide_eq_true p2
                  have p4 : decide (a < i) = true := decide_eq_true p1
                  by_cases q1 : i < mid
                  · have q2 : (i : Int) < (mid : Int) := by omega
                    have q3 : decide ((i : Int) < (mid : Int)) = true := decide_eq_true q2
                    have q4 : decide (i < mid) = true := decide_eq_true q1
                    go_wp2
                    go_meet; exact ⟨true, rfl, ⟨by simp [p1, q1]⟩, S1⟩
                  · have q2 : ¬ (i : Int) < (mid : Int) := by omega
                    have q3 : decide ((i : Int) < (mid : Int)) = false := decide_eq_false q2
                    have q4 : decide (i < mid) = false := decide_eq_false q1
                    go_wp2
                    go_meet; exact ⟨false, rfl, ⟨by simp [p1, q1]⟩, S1⟩
                · have p2 : ¬ (a : Int) < (i : Int) := by omega
                  have p3 : decide ((a : Int) < (i : Int)) = false := decide_eq_false p2
                  have p4 : decide (a < i) = false := decide_eq_false p1
                  go_wp2
                  go_meet; exact ⟨false, rfl, ⟨by simp [p1]⟩, S1⟩
              case rest =>
                clear S1
                obtain ⟨q_, rfl, HQ2, S1⟩ := hcut
                cases q_ with
                | true =>
                  have C2 := aK (HQ2.out.1 rfl)
                  clear HQ2
                  have IC := aK (symC ZZ.out (ih.out a i mid (rotd i m e d) wc (by have := NM.out; have := G.out; omega) (by rw [ZZ.out]; exact G.out.2.2.2.2.2.2.2.2.1) S1.out (by have := C2.out; omega) (by have := C2.out; omega) (by rw [ZZ.out]; have := NM.out; have := G.out; omega) (by rw [ZZ.out]; have := G.out; omega) F4.out.1 F4.out.2.1))
                  go_upto_region 43 with (first | (go_at_call 55; refine IC.out.mono ?_; rintro e_ w2 ⟨rfl, d2, p2_, s2_, hS2⟩; have P2 := aK p2_; have Q2 := aK s2_; have S2 : Aside (SW enc w0 blk off d2 w2) := hS2; have Z2 := aK (p2_.1.trans ZZ.out); clear p2_ s2_ hS2 S1))
                  go_cut [213] from 206 to 213 (fun vq wc => ∃ q : Bool, vq = .bool q ∧ Aside0 (q = true ↔ (mid < e ∧ e < b)) ∧ Aside (SW enc w0 blk off d2 wc))
                  case first =>
                    by_cases p1 : mid < e
                    · have p2 : (mid : Int) < (e : Int) := by omega
                      have p3 : decide ((mid : Int) < (e : Int)) = true := decide_eq_true p2
                      have p4 : decide (mid < e) = true := decide_eq_true p1
                      by_cases q1 : e < b
                      · have q2 : (e : Int) < (b : Int) := by omega
                        have q3 : decide ((e : Int) < (b : Int)) = true := decide_eq_true q2
                        have q4 : decide (e < b) = true := decide_eq_true q1
                        go_wp2
                        go_meet; exact ⟨true, rfl, ⟨by simp [p1, q1]⟩, S2⟩
                      · have q2 : ¬ (e : Int) < (b : Int) := by omega
                        have q3 : decide ((e : Int) < (b : Int)) = false := decide_eq_false q2
                        have q4 : decide (e < b) = false := decide_eq_false q1
                        go_wp2
                        go_meet; exact ⟨false, rfl, ⟨by simp [p1, q1]⟩, S2⟩
                    · have p2 : ¬ (mid : Int) < (e : Int) := by omega
                      have p3 : decide ((mid : Int) < (e : Int)) = false := decide_eq_false p2
                      have p4 : decide (mid < e) = false := decide_eq_false p1
                      go_wp2
                      go_meet; exact ⟨false, rfl, ⟨by simp [p1]⟩, S2⟩
                  case rest =>
                    clear S2
                    obtain ⟨q_, rfl, HQ3, S2⟩ := hcut
                    cases q_ with
                    | true =>
                      have C3 := aK (HQ3.out.1 rfl)
                      clear HQ3
                      have ID := aK (symC Z2.out (ih.out mid e b d2 wc (by have := NM.out; have := G.out; omega) (by rw [Z2.out]; exact G.out.2.2.2.2.2.2.2.2.1) S2.out (by have := C3.out; omega) (by have := C3.out; omega) (by rw [Z2.out]; have := G.out; omega) (by rw [Z2.out]; have := G.out; omega) (F2.out _ P2.out).1 (F2.out _ P2.out).2.1))
                      go_wp2_with (first | (go_at_call 55; refine ID.out.mono ?_; rintro e_ w3 ⟨rfl, d3, p3_, s3_, hS3⟩; have P3 := aK p3_; have Q3 := aK s3_; have S3 : Aside (SW enc w0 blk off d3 w3) := hS3; clear p3_ s3_ hS3))
                      go_end0
                      obtain ⟨t1, t2⟩ := F3.out _ _ P2.out Q2.out P3.out Q3.out
                      exact ⟨rfl, d3, t1, t2, S3.out⟩
                    | false =>
                      have C3 := aK (show ¬ (mid < e ∧ e < b) from fun h_ => by have := HQ3.out.2 h_; cases this)
                      clear HQ3
                      go_wp2
                      go_end0
                      obtain ⟨t1, t2⟩ := F3.out _ _ P2.out Q2.out (permIn_refl _ _ _) ((F2.out _ P2.out).2.2 C3.out)
                      exact ⟨rfl, d2, t1, t2, S2.out⟩
                | false =>
                  have C2 := aK (show ¬ (a < i ∧ i < mid) from fun h_ => by have := HQ2.out.2 h_; cases this)
                  clear HQ2
                  go_upto_region 43 with fail
                  go_cut [213] from 206 to 213 (fun vq wc => ∃ q : Bool, vq = .bool q ∧ Aside0 (q = true ↔ (mid < e ∧ e < b)) ∧ Aside (SW enc w0 blk off (rotd i m e d) wc))
                  case first =>
                    by_cases p1 : mid < e
                    · have p2 : (mid : Int) < (e : Int) := by omega
                      have p3 : decide ((mid : Int) < (e : Int)) = true := decide_eq_true p2
                      have p4 : decide (mid < e) = true := decide_eq_true p1
                      by_cases q1 : e < b
                      · have q2 : (e : Int) < (b : Int) := by omega
                        have q3 : decide ((e : Int) < (b : Int)) = true := decide_eq_true q2
                        have q4 : decide (e < b) = true := decide_eq_true q1
                        go_wp2
                        go_meet; exact ⟨true, rfl, ⟨by simp [p1, q1]⟩, S1⟩
                      · have q2 : ¬ (e : Int) < (b : Int) := by omega
                        have q3 : decide ((e : Int) < (b : Int)) = false := decide_eq_false q2
                        have q4 : decide (e < b) = false := decide_eq_false q1
                        go_wp2
                        go_meet; exact ⟨false, rfl, ⟨by simp [p1, q1]⟩, S1⟩
                    · have p2 : ¬ (mid : Int) < (e : Int) := by omega
                      have p3 : decide ((mid : Int) < (e : Int)) = false := decide_eq_false p2
                      have p4 : decide (mid < e) = false := decide_eq_false p1
                      go_wp2
                      go_meet; exact ⟨false, rfl, ⟨by simp [p1]⟩, S1⟩
                  case rest =>
                    clear S1
                    obtain ⟨q_, rfl, HQ3, S1⟩ := hcut
                    cases q_ with
                    | true =>
                      have C3 := aK (HQ3.out.1 rfl)
                      clear HQ3
                      have ID := aK (symC ZZ.out (ih.out mid e b (rotd i m e d) wc (by have := NM.out; have := G.out; omega) (by rw [ZZ.out]; exact G.out.2.2.2.2.2.2.2.2.1) S1.out (by have := C3.out; omega) (by have := C3.out; omega) (by rw [ZZ.out]; have := G.out; omega) (by rw [ZZ.out]; have := G.out; omega) (F2.out _ (permIn_refl _ _ _)).1 (F2.out _ (permIn_refl _ _ _)).2.1))
                      go_wp2_with (first | (go_at_call 55; refine ID.out.mono ?_; rintro e_ w3 ⟨rfl, d3, p3_, s3_, hS3⟩; have P3 := aK p3_; have Q3 := aK s3_; have S3 : Aside (SW enc w0 blk off d3 w3) := hS3; clear p3_ s3_ hS3))
                      go_end0
                      obtain ⟨t1, t2⟩ := F3.out _ _ (permIn_refl _ _ _) (F1.out C2.out) P3.out Q3.out
                      exact ⟨rfl, d3, t1, t2, S3.out⟩
                    | false =>
                      have C3 := aK (show ¬ (mid < e ∧ e < b) from fun h_ => by have := HQ3.out.2 h_; cases this)
                      clear HQ3
                      go_wp2
                      go_end0
                      obtain ⟨t1, t2⟩ := F3.out _ _ (permIn_refl _ _ _) (F1.out C2.out) (permIn_refl _ _ _) ((F2.out _ (permIn_refl _ _ _)).2.2 C3.out)
                      exact ⟨rfl, (rotd i m e d), t1, t2, S1.out⟩
            | false =>
              have C1 := aK (show ¬ (i < m ∧ m < e) from fun h_ => by have := HQ1.out.2 h_; cases this)
              clear HQ1
              have S1 : Aside (SW enc w0 blk off (rotd i m e d) wc) := (by rw [rotd_neg C1.out]; exact SJ.out)
              clear SJ
              go_upto_region 41 with fail
              go_cut [199] from 192 to 199 (fun vq wc => ∃ q : Bool, vq = .bool q ∧ Aside0 (q = true ↔ (a < i ∧ i < mid)) ∧ Aside (SW enc w0 blk off (rotd i m e d) wc))
              case first =>
                by_cases p1 : a < i
                · have p2 : (a : Int) < (i : Int) := by omega
                  have p3 : decide ((a : Int) < (i : Int)) = true := decide_eq_true p2
                  have p4 : decide (a < i) = true := decide_eq_true p1
                  by_cases q1 : i < mid
                  · have q2 : (i : Int) < (mid : Int) := by omega
                    have q3 : decide ((i : Int) < (mid : Int)) = true := decide_eq_true q2
                    have q4 : decide (i < mid) = true := decide_eq_true q1
                    go_wp2
                    go_meet; exact ⟨true, rfl, ⟨by simp [p1, q1]⟩, S1⟩
                  · have q2 : ¬ (i : Int) < (mid : Int) := by omega
                    have q3 : decide ((i : Int) < (mid : Int)) = false := decide_eq_false q2
                    have q4 : decide (i < mid) = false := decide_eq_false q1
                    go_wp2
                    go_meet; exact ⟨false, rfl, ⟨by simp [p1, q1]⟩, S1⟩
                · have p2 : ¬ (a : Int) < (i : Int) := by omega
                  have p3 : decide ((a : Int) < (i : Int)) = false := decide_eq_false p2
                  have p4 : decide (a < i) = false := decide_eq_false p1
                  go_wp2
                  go_meet; exact ⟨false, rfl, ⟨by simp [p1]⟩, S1⟩
              case rest =>
                clear S1
                obtain ⟨q_, rfl, HQ2, S1⟩ := hcut
                cases q_ with
                | true =>
                  have C2 := aK (HQ2.out.1 rfl)
                  clear HQ2
                  have IC := aK (symC ZZ.out (ih.out a i mid (rotd i m e d) wc (by have := NM.out; have := G.out; omega) (by rw [ZZ.out]; exact G.out.2.2.2.2.2.2.2.2.1) S1.out (by have := C2.out; omega) (by have := C2.out; omega) (by rw [ZZ.out]; have := NM.out; have := G.out; omega) (by rw [ZZ.out]; have := G.out; omega) F4.out.1 F4.out.2.1))
                  go_upto_region 43 with (first | (go_at_call 55; refine IC.out.mono ?_; rintro e_ w2 ⟨rfl, d2, p2_, s2_, hS2⟩; have P2 := aK p2_; have Q2 := aK s2_; have S2 : Aside (SW enc w0 blk off d2 w2) := hS2; have Z2 := aK (p2_.1.trans ZZ.out); clear p2_ s2_ hS2 S1))
                  go_cut [213] from 206 to 213 (fun vq wc => ∃ q : Bool, vq = .bool q ∧ Aside0 (q = true ↔ (mid < e ∧ e < b)) ∧ Aside (SW enc w0 blk off d2 wc))
                  case first =>
                    by_cases p1 : mid < e
                    · have p2 : (mid : Int) < (e : Int) := by omega
                      have p3 : decide ((mid : Int) < (e : Int)) = true := decide_eq_true p2
                      have p4 : decide (mid < e) = true := decide_eq_true p1
                      by_cases q1 : e < b
                      · have q2 : (e : Int) < (b : Int) := by omega
                        have q3 : decide ((e : Int) < (b : Int)) = true := decide_eq_true q2
                        have q4 : decide (e < b) = true := decide_eq_true q1
                        go_wp2
                        go_meet; exact ⟨true, rfl, ⟨by simp [p1, q1]⟩, S2⟩
                      · have q2 : ¬ (e : Int) < (b : Int) := by omega
                        have q3 : decide ((e : Int) < (b : Int)) = false := decide_eq_false q2
                        have q4 : decide (e < b) = false := decide_eq_false q1
                        go_wp2
                        go_meet; exact ⟨false, rfl, ⟨by simp [p1, q1]⟩, S2⟩
                    · have p2 : ¬ (mid : Int) < (e : Int) := by omega
                      have p3 : decide ((mid : Int) < (e : Int)) = false := decide_eq_false p2
                      have p4 : decide (mid < e) = false := decide_eq_false p1
                      go_wp2
                      go_meet; exact ⟨false, rfl, ⟨by simp [p1]⟩, S2⟩
                  case rest =>
                    clear S2
                    obtain ⟨q_, rfl, HQ3, S2⟩ := hcut
                    cases q_ with
                    | true =>
                      have C3 := aK (HQ3.out.1 rfl)
                      clear HQ3
                      have ID := aK (symC Z2.out (ih.out mid e b d2 wc (by have := NM.out; have := G.out; omega) (by rw [Z2.out]; exact G.out.2.2.2.2.2.2.2.2.1) S2.out (by have := C3.out; omega) (by have := C3.out; omega) (by rw [Z2.out]; have := G.out; omega) (by rw [Z2.out]; have := G.out; omega) (F2.out _ P2.out).1 (F2.out _ P2.out).2.1))
                      go_wp2_with (first | (go_at_call 55; refine ID.out.mono ?_; rintro e_ w3 ⟨rfl, d3, p3_, s3_, hS3⟩; have P3 := aK p3_; have Q3 := aK s3_; have S3 : Aside (SW enc w0 blk off d3 w3) := hS3; clear p3_ s3_ hS3))
                      go_end0
                      obtain ⟨t1, t2⟩ := F3.out _ _ P2.out Q2.out P3.out Q3.out
                      exact ⟨rfl, d3, t1, t2, S3.out⟩
                    | false =>
                      have C3 := aK (show ¬ (mid < e ∧ e < b) from fun h_ => by have := HQ3.out.2 h_; cases this)
                      clear HQ3
                      go_wp2
                      go_end0
                      obtain ⟨t1, t2⟩ := F3.out _ _ P2.out Q2.out (permIn_refl _ _ _) ((F2.out _ P2.out).2.2 C3.out)
                      exact ⟨rfl, d2, t1, t2, S2.out⟩
                | false =>
                  have C2 := aK (show ¬ (a < i ∧ i < mid) from fun h_ => by have := HQ2.out.2 h_; cases this)
                  clear HQ2
                  go_upto_region 43 with fail
                  go_cut [213] from 206 to 213 (fun vq wc => ∃ q : Bool, vq = .bool q ∧ Aside0 (q = true ↔ (mid < e ∧ e < b)) ∧ Aside (SW enc w0 blk off (rotd i m e d) wc))
                  case first =>
                    by_cases p1 : mid < e
                    · have p2 : (mid : Int) < (e : Int) := by omega
                      have p3 : decide ((mid : Int) < (e : Int)) = true := decide_eq_true p2
                      have p4 : decide (mid < e) = true := decide_eq_true p1
                      by_cases q1 : e < b
                      · have q2 : (e : Int) < (b : Int) := by omega
                        have q3 : decide ((e : Int) < (b : Int)) = true := decide_eq_true q2
                        have q4 : decide (e < b) = true := decide_eq_true q1
                        go_wp2
                        go_meet; exact ⟨true, rfl, ⟨by simp [p1, q1]⟩, S1⟩
                      · have q2 : ¬ (e : Int) < (b : Int) := by omega
                        have q3 : decide ((e : Int) < (b : Int)) = false := decide_eq_false q2
                        have q4 : decide (e < b) = false := decide_eq_false q1
                        go_wp2
                        go_meet; exact ⟨false, rfl, ⟨by simp [p1, q1]⟩, S1⟩
                    · have p2 : ¬ (mid : Int) < (e : Int) := by omega
                      have p3 : decide ((mid : Int) < (e : Int)) = false := decide_eq_false p2
                      have p4 : decide (mid < e) = false := decide_eq_false p1
                      go_wp2
                      go_meet; exact ⟨false, rfl, ⟨by simp [p1]⟩, S1⟩
                  case rest =>
                    clear S1
                    obtain ⟨q_, rfl, HQ3, S1⟩ := hcut
                    cases q_ with
                    | true =>
                      have C3 := aK (HQ3.out.1 rfl)
                      clear HQ3
                      have ID := aK (symC ZZ.out (ih.out mid e b (rotd i m e d) wc (by have := NM.out; have := G.out; omega) (by rw [ZZ.out]; exact G.out.2.2.2.2.2.2.2.2.1) S1.out (by have := C3.out; omega) (by have := C3.out; omega) (by rw [ZZ.out]; have := G.out; omega) (by rw [ZZ.out]; have := G.out; omega) (F2.out _ (permIn_refl _ _ _)).1 (F2.out _ (permIn_refl _ _ _)).2.1))
                      go_wp2_with (first | (go_at_call 55; refine ID.out.mono ?_; rintro e_ w3 ⟨rfl, d3, p3_, s3_, hS3⟩; have P3 := aK p3_; have Q3 := aK s3_; have S3 : Aside (SW enc w0 blk off d3 w3) := hS3; clear p3_ s3_ hS3))
                      go_end0
                      obtain ⟨t1, t2⟩ := F3.out _ _ (permIn_refl _ _ _) (F1.out C2.out) P3.out Q3.out
                      exact ⟨rfl, d3, t1, t2, S3.out⟩
                    | false =>
                      have C3 := aK (show ¬ (mid < e ∧ e < b) from fun h_ => by have := HQ3.out.2 h_; cases this)
                      clear HQ3
                      go_wp2
                      go_end0
                      obtain ⟨t1, t2⟩ := F3.out _ _ (permIn_refl _ _ _) (F1.out C2.out) (permIn_refl _ _ _) ((F2.out _ (permIn_refl _ _ _)).2.2 C3.out)
                      exact ⟨rfl, (rotd i m e d), t1, t2, S1.out⟩
    · have c1 : ¬ (mid : Int) < (m : Int) := by omega
      have c2 : decide ((mid : Int) < (m : Int)) = false := decide_eq_false c1
      have c3 : ¬ mid < m := by omega
      have c4 : decide (mid < m) = false := decide_eq_false c3
      rw [l1, l2] at LL
      clear l1 l2
      clear hmid hn hp hq0 hq1 hN hs e1 e2 ham hmb hb hsz
      go_enter Try.func55, Try.ntmps55
      go_wp2
      go_loopg [20, 21] b (fun g1 vi vj wr => ∃ i j : Nat, vi = .int .i64 i ∧ vj = .int .i64 j ∧ Aside0 (∃ lo r0, LoAt a m b mid lo r0 ∧ lo ≤ i ∧ i ≤ j ∧ j ≤ r0 ∧ j - i ≤ g1 ∧ (i = lo ∨ ltOf cf d[n - i]! d[i - 1]! = false) ∧ (j = r0 ∨ ltOf cf d[p - j]! d[j]! = true)) ∧ Aside (SW enc w0 blk off d wr))
      case atStart =>
        have hG := G.out
        refine ⟨_, _, rfl, rfl, ⟨_, _, LL.out, Nat.le_refl _, ?_, Nat.le_refl _, ?_, .inl rfl, .inl rfl⟩, S0⟩
        · have hL := LL.out
          unfold LoAt at hL
          omega
        · have hL := LL.out
          unfold LoAt at hL
          omega
      case round =>
        clear S0 zn zm zn2 zm2 zb zc z0 z1 z2 z3 z4 c1 c2 c3 c4 c LL
        obtain ⟨i, j, rfl, rfl, AA, SJ⟩ := hrel
        have hG := G.out
        obtain ⟨lo2, r2, hA⟩ := AA.out
        have hL := hA.1
        unfold LoAt at hL
        by_cases hlt : i < j
        · have hltz : (i : Int) < (j : Int) := by omega
          have hltd : decide ((i : Int) < (j : Int)) = true := decide_eq_true hltz
          obtain ⟨h, hh⟩ : ∃ h, h = (i + j) / 2 := ⟨_, rfl⟩
          have zh : ((i : Int) + (j : Int)) / 2 = (h : Int) := by omega
          obtain ⟨ph, hph⟩ : ∃ q, q + h = p := ⟨p - h, by omega⟩
          have zp : (p : Int) - (h : Int) = (ph : Int) := by omega
          have zq : (0 : Int) ≤ (ph : Int) := by omega
          have zt : (ph : Int) < (d.size : Int) := by omega
          have zu : (0 : Int) ≤ (h : Int) := by omega
          have zv : (h : Int) < (d.size : Int) := by omega
          have zw : ((ph : Int)).toNat = ph := by omega
          have zx : ((h : Int)).toNat = h := by omega
          have zr : IntKind.i64.wrap (ph : Int) = (ph : Int) := by rw [IntKind.wrap_i64]; omega
          have yi : i < 4611686018427387904 := by omega
          have yj : j < 4611686018427387904 := by omega
          have H := aK hh
          have PH := aK hph
          have hb2 : h < d.size := by omega
          have hb3 : ph < d.size := by omega
          have l1a := SJ.out.cl R (by omega) ph (by omega)
          have l1b := SJ.out.cl R (by omega) h (by omega)
          obtain ⟨x, hx⟩ : ∃ x, x = d[ph]! := ⟨_, rfl⟩
          obtain ⟨y, hy⟩ : ∃ x, x = d[h]! := ⟨_, rfl⟩
          rw [← hx] at l1a
          rw [← hy] at l1b
          have hc := SJ.out.cmp HC.out (by omega) x y
          clear hh hph hG hA hL
          cases hlv : ltOf cf x y with
          | true =>
            have HV : Aside0 (ltOf cf d[ph]! d[h]! = true) := ⟨by rw [← hx, ← hy]; exact hlv⟩
            have hv : cf x y < 0 := of_decide_eq_true hlv
            have hd : decide (cf x y < 0) = true := decide_eq_true hv
            clear hx hy hlv
            go_wp2_with fail
            go_quiet_grown (first | (go_at_fn g; refine Calls.grown_of (hc _ _)))
            have S2 : Aside (SW enc w0 blk off d (grow (wr.drewN nq) osq)) := SJ.out.grown nq osq
            clear l1a l1b hc SJ
            generalize grow (wr.drewN nq) osq = w2 at S2 ⊢
            clear nq osq
            go_wp2
            go_roundg (h - i)
            case measure => obtain ⟨_, _, hA⟩ := AA.out; have := H.out; omega
            case rel =>
              obtain ⟨lo3, r3, hA⟩ := AA.out
              have hh := H.out
              have hp := PH.out
              exact ⟨i, h, rfl, rfl, ⟨lo3, r3, hA.1, hA.2.1, by omega, by omega, Nat.le_refl _, hA.2.2.2.2.2.1, .inr (by rw [show p - h = ph by omega]; exact HV.out)⟩, S2⟩
          | false =>
            have HV : Aside0 (ltOf cf d[ph]! d[h]! = false) := ⟨by rw [← hx, ← hy]; exact hlv⟩
            have hv : ¬ cf x y < 0 := of_decide_eq_false hlv
            have hd : decide (cf x y < 0) = false := decide_eq_false hv
            clear hx hy hlv
            go_wp2_with fail
            go_quiet_grown (first | (go_at_fn g; refine Calls.grown_of (hc _ _)))
            have S2 : Aside (SW enc w0 blk off d (grow (wr.drewN nq) osq)) := SJ.out.grown nq osq
            clear l1a l1b hc SJ
            generalize grow (wr.drewN nq) osq = w2 at S2 ⊢
            clear nq osq
            go_wp2
            go_roundg (j - (h + 1))
            case measure => obtain ⟨_, _, hA⟩ := AA.out; have := H.out; omega
            case rel =>
              obtain ⟨lo3, r3, hA⟩ := AA.out
              have hh := H.out
              have hp := PH.out
              have hG := G.out
              exact ⟨h + 1, j, by first | rfl | go_num, rfl, ⟨lo3, r3, hA.1, by omega, by omega, hA.2.2.2.1, Nat.le_refl _, .inr (by rw [show n - (h + 1) = ph by omega, Nat.add_sub_cancel]; exact HV.out), hA.2.2.2.2.2.2⟩, S2⟩
        · have hltz : ¬ (i : Int) < (j : Int) := by omega
          have hltd : decide ((i : Int) < (j : Int)) = false := decide_eq_false hltz
          have eij : i = j := by omega
          subst eij
          have CT : CutAt (ltOf cf) a m b mid lo2 r2 i d := ⟨⟨hG.1, hG.2.1, hG.2.2.1⟩, hG.2.2.2.2.1, by omega, ⟨hA.2.1, hA.2.2.2.1⟩, by rw [← hG.2.2.2.2.2.1]; exact hA.2.2.2.2.2.1, by rw [show mid + m - 1 - i = p - i by omega]; exact hA.2.2.2.2.2.2⟩
          have num := CT.num
          obtain ⟨e, he⟩ : ∃ q, q = mid + m - i := ⟨_, rfl⟩
          have z6 : (n : Int) - (i : Int) = (e : Int) := by omega
          have y7 : e < 9223372036854775807 := by omega
          have four := CT.four H1.out H2.out
          have first_ := CT.first H1.out H2.out
          have second_ := fun d2 => CT.second (d2 := d2) H1.out H2.out
          have fin_ := fun d2 d3 => CT.fin (d2 := d2) (d3 := d3) WW.out H1.out H2.out
          have zz := size_rotd i m e d
          rw [← he] at four first_ second_ fin_ num
          have F4 := aK four
          have F1 := aK first_
          have F2 := aK second_
          have F3 := aK fin_
          have NM := aK num
          have ZZ := aK zz
          clear four first_ second_ fin_ num zz CT hA hL hlt he hG hltz hltd AA
          go_upto_region 39 with fail
          go_cut [185] from 178 to 185 (fun vq wc => ∃ q : Bool, vq = .bool q ∧ Aside0 (q = true ↔ (i < m ∧ m < e)) ∧ Aside (SW enc w0 blk off d wc))
          case first =>
            by_cases p1 : i < m
            · have p2 : (i : Int) < (m : Int) := by omega
              have p3 : decide ((i : Int) < (m : Int)) = true := decide_eq_true p2
              have p4 : decide (i < m) = true := decide_eq_true p1
              by_cases q1 : m < e
              · have q2 : (m : Int) < (e : Int) := by omega
                have q3 : decide ((m : Int) < (e : Int)) = true := decide_eq_true q2
                have q4 : decide (m < e) = true := decide_eq_true q1
                go_wp2
                go_meet; exact ⟨true, rfl, ⟨by simp [p1, q1]⟩, SJ⟩
              · have q2 : ¬ (m : Int) < (e : Int) := by omega
                have q3 : decide ((m : Int) < (e : Int)) = false := decide_eq_false q2
                have q4 : decide (m < e) = false := decide_eq_false q1
                go_wp2
                go_meet; exact ⟨false, rfl, ⟨by simp [p1, q1]⟩, SJ⟩
            · have p2 : ¬ (i : Int) < (m : Int) := by omega
              have p3 : decide ((i : Int) < (m : Int)) = false := decide_eq_false p2
              have p4 : decide (i < m) = false := decide_eq_false p1
              go_wp2
              go_meet; exact ⟨false, rfl, ⟨by simp [p1]⟩, SJ⟩
          case rest =>
            clear SJ
            obtain ⟨q_, rfl, HQ1, SJ⟩ := hcut
            cases q_ with
            | true =>
              have C1 := aK (HQ1.out.1 rfl)
              clear HQ1
              have IC := aK (rotate_s enc blk off cap i m e d0 d w0 wc (.func (.func g) #[] cb) R (G.out.2.2.2.2.2.2.2.2.1) SJ.out (by have := C1.out; omega) (by have := C1.out; omega) (by have := NM.out; have := G.out; omega) (by have := G.out; omega))
              go_upto_region 41 with (first | (go_at_call 56; refine IC.out.mono ?_; rintro e_ w1 ⟨rfl, hS⟩; rw [← rotd_pos C1.out] at hS; have S1 : Aside (SW enc w0 blk off (rotd i m e d) w1) := hS; clear hS SJ))
              go_cut [199] from 192 to 199 (fun vq wc => ∃ q : Bool, vq = .bool q ∧ Aside0 (q = true ↔ (a < i ∧ i < mid)) ∧ Aside (SW enc w0 blk off (rotd i m e d) wc))
              case first =>
                by_cases p1 : a < i
                · have p2 : (a : Int) < (i : Int) := by omega
                  have p3 : decide ((a : Int) < (i : Int)) = true := decide_eq_true p2
                  have p4 : decide (a < i) = true := decide_eq_true p1
                  by_cases q1 : i < mid
                  · have q2 : (i : Int) < (mid : Int) := by omega
                    have q3 : decide ((i : Int) < (mid : Int)) = true := decide_eq_true q2
                    have q4 : decide (i < mid) = true := decide_eq_true q1
                    go_wp2
                    go_meet; exact ⟨true, rfl, ⟨by simp [p1, q1]⟩, S1⟩
                  · have q2 : ¬ (i : Int) < (mid : Int) := by omega
                    have q3 : decide ((i : Int) < (mid : Int)) = false := decide_eq_false q2
                    have q4 : decide (i < mid) = false := decide_eq_false q1
                    go_wp2
                    go_meet; exact ⟨false, rfl, ⟨by simp [p1, q1]⟩, S1⟩
                · have p2 : ¬ (a : Int) < (i : Int) := by omega
                  have p3 : decide ((a : Int) < (i : Int)) = false := decide_eq_false p2
                  have p4 : decide (a < i) = false := decide_eq_false p1
                  go_wp2
                  go_meet; exact ⟨false, rfl, ⟨by simp [p1]⟩, S1⟩
              case rest =>
                clear S1
                obtain ⟨q_, rfl, HQ2, S1⟩ := hcut
                cases q_ with
                | true =>
                  have C2 := aK (HQ2.out.1 rfl)
                  clear HQ2
                  have IC := aK (symC ZZ.out (ih.out a i mid (rotd i m e d) wc (by have := NM.out; have := G.out; omega) (by rw [ZZ.out]; exact G.out.2.2.2.2.2.2.2.2.1) S1.out (by have := C2.out; omega) (by have := C2.out; omega) (by rw [ZZ.out]; have := NM.out; have := G.out; omega) (by rw [ZZ.out]; have := G.out; omega) F4.out.1 F4.out.2.1))
                  go_upto_region 43 with (first | (go_at_call 55; refine IC.out.mono ?_; rintro e_ w2 ⟨rfl, d2, p2_, s2_, hS2⟩; have P2 := aK p2_; have Q2 := aK s2_; have S2 : Aside (SW enc w0 blk off d2 w2) := hS2; have Z2 := aK (p2_.1.trans ZZ.out); clear p2_ s2_ hS2 S1))
                  go_cut [213] from 206 to 213 (fun vq wc => ∃ q : Bool, vq = .bool q ∧ Aside0 (q = true ↔ (mid < e ∧ e < b)) ∧ Aside (SW enc w0 blk off d2 wc))
                  case first =>
                    by_cases p1 : mid < e
                    · have p2 : (mid : Int) < (e : Int) := by omega
                      have p3 : decide ((mid : Int) < (e : Int)) = true := decide_eq_true p2
                      have p4 : decide (mid < e) = true := decide_eq_true p1
                      by_cases q1 : e < b
                      · have q2 : (e : Int) < (b : Int) := by omega
                        have q3 : decide ((e : Int) < (b : Int)) = true := decide_eq_true q2
                        have q4 : decide (e < b) = true := decide_eq_true q1
                        go_wp2
                        go_meet; exact ⟨true, rfl, ⟨by simp [p1, q1]⟩, S2⟩
                      · have q2 : ¬ (e : Int) < (b : Int) := by omega
                        have q3 : decide ((e : Int) < (b : Int)) = false := decide_eq_false q2
                        have q4 : decide (e < b) = false := decide_eq_false q1
                        go_wp2
                        go_meet; exact ⟨false, rfl, ⟨by simp [p1, q1]⟩, S2⟩
                    · have p2 : ¬ (mid : Int) < (e : Int) := by omega
                      have p3 : decide ((mid : Int) < (e : Int)) = false := decide_eq_false p2
                      have p4 : decide (mid < e) = false := decide_eq_false p1
                      go_wp2
                      go_meet; exact ⟨false, rfl, ⟨by simp [p1]⟩, S2⟩
                  case rest =>
                    clear S2
                    obtain ⟨q_, rfl, HQ3, S2⟩ := hcut
                    cases q_ with
                    | true =>
                      have C3 := aK (HQ3.out.1 rfl)
                      clear HQ3
                      have ID := aK (symC Z2.out (ih.out mid e b d2 wc (by have := NM.out; have := G.out; omega) (by rw [Z2.out]; exact G.out.2.2.2.2.2.2.2.2.1) S2.out (by have := C3.out; omega) (by have := C3.out; omega) (by rw [Z2.out]; have := G.out; omega) (by rw [Z2.out]; have := G.out; omega) (F2.out _ P2.out).1 (F2.out _ P2.out).2.1))
                      go_wp2_with (first | (go_at_call 55; refine ID.out.mono ?_; rintro e_ w3 ⟨rfl, d3, p3_, s3_, hS3⟩; have P3 := aK p3_; have Q3 := aK s3_; have S3 : Aside (SW enc w0 blk off d3 w3) := hS3; clear p3_ s3_ hS3))
                      go_end0
                      obtain ⟨t1, t2⟩ := F3.out _ _ P2.out Q2.out P3.out Q3.out
                      exact ⟨rfl, d3, t1, t2, S3.out⟩
                    | false =>
                      have C3 := aK (show ¬ (mid < e ∧ e < b) from fun h_ => by have := HQ3.out.2 h_; cases this)
                      clear HQ3
                      go_wp2
                      go_end0
                      obtain ⟨t1, t2⟩ := F3.out _ _ P2.out Q2.out (permIn_refl _ _ _) ((F2.out _ P2.out).2.2 C3.out)
                      exact ⟨rfl, d2, t1, t2, S2.out⟩
                | false =>
                  have C2 := aK (show ¬ (a < i ∧ i < mid) from fun h_ => by have := HQ2.out.2 h_; cases this)
                  clear HQ2
                  go_upto_region 43 with fail
                  go_cut [213] from 206 to 213 (fun vq wc => ∃ q : Bool, vq = .bool q ∧ Aside0 (q = true ↔ (mid < e ∧ e < b)) ∧ Aside (SW enc w0 blk off (rotd i m e d) wc))
                  case first =>
                    by_cases p1 : mid < e
                    · have p2 : (mid : Int) < (e : Int) := by omega
                      have p3 : decide ((mid : Int) < (e : Int)) = true := decide_eq_true p2
                      have p4 : decide (mid < e) = true := decide_eq_true p1
                      by_cases q1 : e < b
                      · have q2 : (e : Int) < (b : Int) := by omega
                        have q3 : decide ((e : Int) < (b : Int)) = true := decide_eq_true q2
                        have q4 : decide (e < b) = true := decide_eq_true q1
                        go_wp2
                        go_meet; exact ⟨true, rfl, ⟨by simp [p1, q1]⟩, S1⟩
                      · have q2 : ¬ (e : Int) < (b : Int) := by omega
                        have q3 : decide ((e : Int) < (b : Int)) = false := decide_eq_false q2
                        have q4 : decide (e < b) = false := decide_eq_false q1
                        go_wp2
                        go_meet; exact ⟨false, rfl, ⟨by simp [p1, q1]⟩, S1⟩
                    · have p2 : ¬ (mid : Int) < (e : Int) := by omega
                      have p3 : decide ((mid : Int) < (e : Int)) = false := decide_eq_false p2
                      have p4 : decide (mid < e) = false := decide_eq_false p1
                      go_wp2
                      go_meet; exact ⟨false, rfl, ⟨by simp [p1]⟩, S1⟩
                  case rest =>
                    clear S1
                    obtain ⟨q_, rfl, HQ3, S1⟩ := hcut
                    cases q_ with
                    | true =>
                      have C3 := aK (HQ3.out.1 rfl)
                      clear HQ3
                      have ID := aK (symC ZZ.out (ih.out mid e b (rotd i m e d) wc (by have := NM.out; have := G.out; omega) (by rw [ZZ.out]; exact G.out.2.2.2.2.2.2.2.2.1) S1.out (by have := C3.out; omega) (by have := C3.out; omega) (by rw [ZZ.out]; have := G.out; omega) (by rw [ZZ.out]; have := G.out; omega) (F2.out _ (permIn_refl _ _ _)).1 (F2.out _ (permIn_refl _ _ _)).2.1))
                      go_wp2_with (first | (go_at_call 55; refine ID.out.mono ?_; rintro e_ w3 ⟨rfl, d3, p3_, s3_, hS3⟩; have P3 := aK p3_; have Q3 := aK s3_; have S3 : Aside (SW enc w0 blk off d3 w3) := hS3; clear p3_ s3_ hS3))
                      go_end0
                      obtain ⟨t1, t2⟩ := F3.out _ _ (permIn_refl _ _ _) (F1.out C2.out) P3.out Q3.out
                      exact ⟨rfl, d3, t1, t2, S3.out⟩
                    | false =>
                      have C3 := aK (show ¬ (mid < e ∧ e < b) from fun h_ => by have := HQ3.out.2 h_; cases this)
                      clear HQ3
                      go_wp2
                      go_end0
                      obtain ⟨t1, t2⟩ := F3.out _ _ (permIn_refl _ _ _) (F1.out C2.out) (permIn_refl _ _ _) ((F2.out _ (permIn_refl _ _ _)).2.2 C3.out)
                      exact ⟨rfl, (rotd i m e d), t1, t2, S1.out⟩
            | false =>
              have C1 := aK (show ¬ (i < m ∧ m < e) from fun h_ => by have := HQ1.out.2 h_; cases this)
              clear HQ1
              have S1 : Aside (SW enc w0 blk off (rotd i m e d) wc) := (by rw [rotd_neg C1.out]; exact SJ.out)
              clear SJ
              go_upto_region 41 with fail
              go_cut [199] from 192 to 199 (fun vq wc => ∃ q : Bool, vq = .bool q ∧ Aside0 (q = true ↔ (a < i ∧ i < mid)) ∧ Aside (SW enc w0 blk off (rotd i m e d) wc))
              case first =>
                by_cases p1 : a < i
                · have p2 : (a : Int) < (i : Int) := by omega
                  have p3 : decide ((a : Int) < (i : Int)) = true := decide_eq_true p2
                  have p4 : decide (a < i) = true := decide_eq_true p1
                  by_cases q1 : i < mid
                  · have q2 : (i : Int) < (mid : Int) := by omega
                    have q3 : decide ((i : Int) < (mid : Int)) = true := decide_eq_true q2
                    have q4 : decide (i < mid) = true := decide_eq_true q1
                    go_wp2
                    go_meet; exact ⟨true, rfl, ⟨by simp [p1, q1]⟩, S1⟩
                  · have q2 : ¬ (i : Int) < (mid : Int) := by omega
                    have q3 : decide ((i : Int) < (mid : Int)) = false := decide_eq_false q2
                    have q4 : decide (i < mid) = false := decide_eq_false q1
                    go_wp2
                    go_meet; exact ⟨false, rfl, ⟨by simp [p1, q1]⟩, S1⟩
                · have p2 : ¬ (a : Int) < (i : Int) := by omega
                  have p3 : decide ((a : Int) < (i : Int)) = false := decide_eq_false p2
                  have p4 : decide (a < i) = false := decide_eq_false p1
                  go_wp2
                  go_meet; exact ⟨false, rfl, ⟨by simp [p1]⟩, S1⟩
              case rest =>
                clear S1
                obtain ⟨q_, rfl, HQ2, S1⟩ := hcut
                cases q_ with
                | true =>
                  have C2 := aK (HQ2.out.1 rfl)
                  clear HQ2
                  have IC := aK (symC ZZ.out (ih.out a i mid (rotd i m e d) wc (by have := NM.out; have := G.out; omega) (by rw [ZZ.out]; exact G.out.2.2.2.2.2.2.2.2.1) S1.out (by have := C2.out; omega) (by have := C2.out; omega) (by rw [ZZ.out]; have := NM.out; have := G.out; omega) (by rw [ZZ.out]; have := G.out; omega) F4.out.1 F4.out.2.1))
                  go_upto_region 43 with (first | (go_at_call 55; refine IC.out.mono ?_; rintro e_ w2 ⟨rfl, d2, p2_, s2_, hS2⟩; have P2 := aK p2_; have Q2 := aK s2_; have S2 : Aside (SW enc w0 blk off d2 w2) := hS2; have Z2 := aK (p2_.1.trans ZZ.out); clear p2_ s2_ hS2 S1))
                  go_cut [213] from 206 to 213 (fun vq wc => ∃ q : Bool, vq = .bool q ∧ Aside0 (q = true ↔ (mid < e ∧ e < b)) ∧ Aside (SW enc w0 blk off d2 wc))
                  case first =>
                    by_cases p1 : mid < e
                    · have p2 : (mid : Int) < (e : Int) := by omega
                      have p3 : decide ((mid : Int) < (e : Int)) = true := decide_eq_true p2
                      have p4 : decide (mid < e) = true := decide_eq_true p1
                      by_cases q1 : e < b
                      · have q2 : (e : Int) < (b : Int) := by omega
                        have q3 : decide ((e : Int) < (b : Int)) = true := decide_eq_true q2
                        have q4 : decide (e < b) = true := decide_eq_true q1
                        go_wp2
                        go_meet; exact ⟨true, rfl, ⟨by simp [p1, q1]⟩, S2⟩
                      · have q2 : ¬ (e : Int) < (b : Int) := by omega
                        have q3 : decide ((e : Int) < (b : Int)) = false := decide_eq_false q2
                        have q4 : decide (e < b) = false := decide_eq_false q1
                        go_wp2
                        go_meet; exact ⟨false, rfl, ⟨by simp [p1, q1]⟩, S2⟩
                    · have p2 : ¬ (mid : Int) < (e : Int) := by omega
                      have p3 : decide ((mid : Int) < (e : Int)) = false := decide_eq_false p2
                      have p4 : decide (mid < e) = false := decide_eq_false p1
                      go_wp2
                      go_meet; exact ⟨false, rfl, ⟨by simp [p1]⟩, S2⟩
                  case rest =>
                    clear S2
                    obtain ⟨q_, rfl, HQ3, S2⟩ := hcut
                    cases q_ with
                    | true =>
                      have C3 := aK (HQ3.out.1 rfl)
                      clear HQ3
                      have ID := aK (symC Z2.out (ih.out mid e b d2 wc (by have := NM.out; have := G.out; omega) (by rw [Z2.out]; exact G.out.2.2.2.2.2.2.2.2.1) S2.out (by have := C3.out; omega) (by have := C3.out; omega) (by rw [Z2.out]; have := G.out; omega) (by rw [Z2.out]; have := G.out; omega) (F2.out _ P2.out).1 (F2.out _ P2.out).2.1))
                      go_wp2_with (first | (go_at_call 55; refine ID.out.mono ?_; rintro e_ w3 ⟨rfl, d3, p3_, s3_, hS3⟩; have P3 := aK p3_; have Q3 := aK s3_; have S3 : Aside (SW enc w0 blk off d3 w3) := hS3; clear p3_ s3_ hS3))
                      go_end0
                      obtain ⟨t1, t2⟩ := F3.out _ _ P2.out Q2.out P3.out Q3.out
                      exact ⟨rfl, d3, t1, t2, S3.out⟩
                    | false =>
                      have C3 := aK (show ¬ (mid < e ∧ e < b) from fun h_ => by have := HQ3.out.2 h_; cases this)
                      clear HQ3
                      go_wp2
                      go_end0
                      obtain ⟨t1, t2⟩ := F3.out _ _ P2.out Q2.out (permIn_refl _ _ _) ((F2.out _ P2.out).2.2 C3.out)
                      exact ⟨rfl, d2, t1, t2, S2.out⟩
                | false =>
                  have C2 := aK (show ¬ (a < i ∧ i < mid) from fun h_ => by have := HQ2.out.2 h_; cases this)
                  clear HQ2
                  go_upto_region 43 with fail
                  go_cut [213] from 206 to 213 (fun vq wc => ∃ q : Bool, vq = .bool q ∧ Aside0 (q = true ↔ (mid < e ∧ e < b)) ∧ Aside (SW enc w0 blk off (rotd i m e d) wc))
                  case first =>
                    by_cases p1 : mid < e
                    · have p2 : (mid : Int) < (e : Int) := by omega
                      have p3 : decide ((mid : Int) < (e : Int)) = true := decide_eq_true p2
                      have p4 : decide (mid < e) = true := decide_eq_true p1
                      by_cases q1 : e < b
                      · have q2 : (e : Int) < (b : Int) := by omega
                        have q3 : decide ((e : Int) < (b : Int)) = true := decide_eq_true q2
                        have q4 : decide (e < b) = true := decide_eq_true q1
                        go_wp2
                        go_meet; exact ⟨true, rfl, ⟨by simp [p1, q1]⟩, S1⟩
                      · have q2 : ¬ (e : Int) < (b : Int) := by omega
                        have q3 : decide ((e : Int) < (b : Int)) = false := decide_eq_false q2
                        have q4 : decide (e < b) = false := decide_eq_false q1
                        go_wp2
                        go_meet; exact ⟨false, rfl, ⟨by simp [p1, q1]⟩, S1⟩
                    · have p2 : ¬ (mid : Int) < (e : Int) := by omega
                      have p3 : decide ((mid : Int) < (e : Int)) = false := decide_eq_false p2
                      have p4 : decide (mid < e) = false := decide_eq_false p1
                      go_wp2
                      go_meet; exact ⟨false, rfl, ⟨by simp [p1]⟩, S1⟩
                  case rest =>
                    clear S1
                    obtain ⟨q_, rfl, HQ3, S1⟩ := hcut
                    cases q_ with
                    | true =>
                      have C3 := aK (HQ3.out.1 rfl)
                      clear HQ3
                      have ID := aK (symC ZZ.out (ih.out mid e b (rotd i m e d) wc (by have := NM.out; have := G.out; omega) (by rw [ZZ.out]; exact G.out.2.2.2.2.2.2.2.2.1) S1.out (by have := C3.out; omega) (by have := C3.out; omega) (by rw [ZZ.out]; have := G.out; omega) (by rw [ZZ.out]; have := G.out; omega) (F2.out _ (permIn_refl _ _ _)).1 (F2.out _ (permIn_refl _ _ _)).2.1))
                      go_wp2_with (first | (go_at_call 55; refine ID.out.mono ?_; rintro e_ w3 ⟨rfl, d3, p3_, s3_, hS3⟩; have P3 := aK p3_; have Q3 := aK s3_; have S3 : Aside (SW enc w0 blk off d3 w3) := hS3; clear p3_ s3_ hS3))
                      go_end0
                      obtain ⟨t1, t2⟩ := F3.out _ _ (permIn_refl _ _ _) (F1.out C2.out) P3.out Q3.out
                      exact ⟨rfl, d3, t1, t2, S3.out⟩
                    | false =>
                      have C3 := aK (show ¬ (mid < e ∧ e < b) from fun h_ => by have := HQ3.out.2 h_; cases this)
                      clear HQ3
                      go_wp2
                      go_end0
                      obtain ⟨t1, t2⟩ := F3.out _ _ (permIn_refl _ _ _) (F1.out C2.out) (permIn_refl _ _ _) ((F2.out _ (permIn_refl _ _ _)).2.2 C3.out)
                      exact ⟨rfl, (rotd i m e d), t1, t2, S1.out⟩
theorem symMerge_s (enc : α → Value) (cf : α → α → Int) (g : Nat) (cb : Array Value) (blk off cap : Nat) (d0 : Array α) (w0 : World) (eg : ∀ args w, (callFunc g args).run Try.prog w = .ok (.enter g args) w)
    (hcmp : CmpLays1 Try.prog g cb enc cf blk off d0.size w0) (R : Row1 enc w0 blk off d0) (W : SWO (ltOf cf)) : ∀ N, SymAll enc cf g cb blk off cap d0 w0 N
  | 0 => fun a m b d w hN _ _ ham hmb _ _ _ _ => by omega
  | N + 1 => fun a m b d w hN hs S ham hmb hb hsz h1 h2 => symMerge_step enc cf g cb blk off cap d0 w0 eg hcmp R W N (symMerge_s enc cf g cb blk off cap d0 w0 eg hcmp R W N) a m b d w hN hs S ham hmb hb hsz h1 h2
end
end Go.Proofs.Ytnbpcacnbfbjkaa.P
namespace Go.Proofs.Ytnbpcacnbfbjkaa.P
open Go.RowKit Go.Shelf Go.Lib Go.Sort Go.Proofs Go.Proofs.YtnbpcacnbfbjkaaW.PrintWords Go.Proofs.YtnbpcacnbfbjkaaW.PrintLast Go.Proofs.YtnbpcacnbfbjkaaW.PrintMore
set_option linter.unusedSectionVars false
section
variable {α : Type} [Inhabited α] {lt : α → α → Bool}
def RunsTo (lt : α → α → Bool) (B : Nat) (d : Array α) : Nat → Nat → Prop
  | 0, a => a = 0
  | k + 1, a => ∃ c, a = c + B ∧ SortedIn lt c a d ∧ RunsTo lt B d k c
def RunsFrom (lt : α → α → Bool) (B n : Nat) (d : Array α) : Nat → Nat → Prop
  | 0, a => n ≤ a + B ∧ SortedIn lt a n d
  | k + 1, a => a + B ≤ n ∧ SortedIn lt a (a + B) d ∧ RunsFrom lt B n d k (a + B)
theorem RunsTo.keep {B : Nat} {d d' : Array α} {x y : Nat} (hp : PermIn x y d d') : ∀ (k a : Nat), a ≤ x → RunsTo lt B d k a → RunsTo lt B d' k a
  | 0, _, _, h => h
  | k + 1, a, hx, ⟨c, e, hs, hr⟩ => ⟨c, e, sorted_of_perm_out hs hp (.inl hx), RunsTo.keep hp k c (by omega) hr⟩
theorem RunsFrom.keep {B n : Nat} {d d' : Array α} {x y : Nat} (hp : PermIn x y d d') : ∀ (k a : Nat), y ≤ a → RunsFrom lt B n d k a → RunsFrom lt B n d' k a
  | 0, _, hy, h => ⟨h.1, sorted_of_perm_out h.2 hp (.inr hy)⟩
  | k + 1, a, hy, h => ⟨h.1, sorted_of_perm_out h.2.1 hp (.inr hy), RunsFrom.keep hp k (a + B) (by omega) h.2.2⟩
theorem RunsFrom.all {B n : Nat} {d : Array α} : ∀ (j k a : Nat), RunsTo lt B d j a → a ≤ n → RunsFrom lt B n d k a → ∃ k', RunsFrom lt B n d k' 0
  | 0, k, a, h, _, hf => ⟨k, by rw [show a = 0 from h] at hf; exact hf⟩
  | j + 1, k, a, ⟨c, e, hs, hr⟩, ha, hf => RunsFrom.all j (k + 1) c hr (by omega) ⟨by omega, by rw [← e]; exact hs, by rw [← e]; exact hf⟩
theorem RunsFrom.head {B n : Nat} {d : Array α} : ∀ (k a : Nat), RunsFrom lt B n d k a → n ≤ a + B → SortedIn lt a n d
  | 0, a, h, _ => h.2
  | k + 1, a, h, hn => by
    have h1 := h.2.1
    rw [show a + B = n by have := h.1; omega] at h1
    exact h1
theorem RunsFrom.two {B n : Nat} {d : Array α} (hB : 0 < B) : ∀ (k a : Nat), RunsFrom lt B n d k a → a + 2 * B ≤ n → SortedIn lt a (a + B) d ∧ SortedIn lt (a + B) (a + 2 * B) d ∧ ∃ k', RunsFrom lt B n d k' (a + 2 * B)
  | 0, a, h, hn => by have := h.1; omega
  | 1, a, h, hn => by
    have h2 := h.2.2
    have e : a + 2 * B = n := by have := h2.1; omega
    refine ⟨h.2.1, ?_, 0, ?_, ?_⟩
    · rw [e]; exact h2.2
    · omega
    · rw [e]; intro i j h1 h2 h3; omega
  | k + 2, a, h, hn => by
    have h2 := h.2.2
    have e : a + B + B = a + 2 * B := by omega
    refine ⟨h.2.1, ?_, k, ?_⟩
    · rw [← e]; exact h2.2.1
    · rw [← e]; exact h2.2.2
theorem RunsFrom.rest {B n : Nat} {d : Array α} : ∀ (k a : Nat), RunsFrom lt B n d k a → a + B < n → n ≤ a + 2 * B → SortedIn lt a (a + B) d ∧ SortedIn lt (a + B) n d
  | 0, a, h, h1, h2 => by have := h.1; omega
  | k + 1, a, h, h1, h2 => ⟨h.2.1, RunsFrom.head k (a + B) h.2.2 (by omega)⟩
end
end Go.Proofs.Ytnbpcacnbfbjkaa.P
namespace Go.Proofs
open Go.Shelf
def Try.ins54_ren : Go.Shelf.Ren := ⟨fun | 20 => 54 | n => n, fun | 24 => 36 | 22 => 28 | 3 => 3 | 25 => 60 | 4 => 4 | 0 => 0 | n => n, fun | n => n⟩
theorem Try.ins54 : Go.Proofs.SlLaysF.n20 Try.prog Try.ins54_ren := {
  mixed := by kernel_rfl
  f20 := ⟨Try.f54.name, by decide, Try.func54.trans (congrArg some (by kernel_rfl))⟩
  t0 := Try.underlying0
  a0 := Try.isAgg0
  z0 := Try.sizeOf0
  v0 := Try.zeroValue0
  t3 := Try.underlying3
  a3 := Try.isAgg3
  z3 := Try.sizeOf3
  v3 := Try.zeroValue3
  t4 := Try.underlying4
  a4 := Try.isAgg4
  z4 := Try.sizeOf4
  v4 := Try.zeroValue4
  t22 := Try.underlying28
  a22 := Try.isAgg28
  z22 := Try.sizeOf28
  v22 := Try.zeroValue28
  a24 := Try.isAgg36
  z24 := Try.sizeOf36
  t25 := Try.underlying60
  a25 := Try.isAgg60
  z25 := Try.sizeOf60
  v25 := Try.zeroValue60 }
end Go.Proofs
namespace Go.Proofs.Ytnbpcacnbfbjkaa.P
open Go.RowKit Go.Shelf Go.Lib Go.Sort Go.Proofs Go.Proofs.YtnbpcacnbfbjkaaW.PrintWords Go.Proofs.YtnbpcacnbfbjkaaW.PrintLast Go.Proofs.YtnbpcacnbfbjkaaW.PrintMore
set_option linter.unusedSectionVars false
section
variable {α : Type} [Inhabited α]
theorem ins_s (enc : α → Value) (cf : α → α → Int) (g : Nat) (cb : Array Value) (blk off cap a b n : Nat) (d0 d : Array α) (w0 w : World) (eg : ∀ args w, (callFunc g args).run Try.prog w = .ok (.enter g args) w)
    (hcmp : CmpLays1 Try.prog g cb enc cf blk off d0.size w0) (R : Row1 enc w0 blk off d0) (W : SWO (ltOf cf)) (hs : d0.size = d.size) (S : SW enc w0 blk off d w) (hab : a ≤ b) (hb : b ≤ d.size) (hsz : d.size < 4611686018427387904) (hn : d.size = n) :
    Calls Try.prog 54 #[.slice (some ⟨blk, off, none⟩) n cap, .int .i64 a, .int .i64 b, .func (.func g) #[] cb] w (SymPost enc w0 blk off a b cf d) := by
  subst hn
  refine Calls.mono (Any.insertionSortCmpFunc_s Try.ins54 enc cf g cb blk off cap a b d0 d w0 w eg hcmp R hs S hab hb hsz) ?_
  rintro e w' ⟨rfl, h⟩
  obtain ⟨p, s⟩ := insertionSort_holds W d a b hab hb
  exact ⟨rfl, _, p, s, h⟩
set_option maxHeartbeats 64000000 in
set_option maxRecDepth 1000000 in
theorem stable_s (enc : α → Value) (cf : α → α → Int) (g : Nat) (cb : Array Value) (blk off cap : Nat) (d0 : Array α) (w0 : World) (eg : ∀ args w, (callFunc g args).run Try.prog w = .ok (.enter g args) w)
    (hcmp : CmpLays1 Try.prog g cb enc cf blk off d0.size w0) (R : Row1 enc w0 blk off d0) (W : SWO (ltOf cf)) (d : Array α) (w : World) (hs : d0.size = d.size) (S : SW enc w0 blk off d w) (hsz : d.size < 1000000000) :
    Calls Try.prog 48 #[.slice (some ⟨blk, off, none⟩) d.size cap, .int .i64 (d.size : Int), .func (.func g) #[] cb] w (SymPost enc w0 blk off 0 d.size cf d) := by
  have HC : Aside _ := hcmp
  have S0 : Aside (SW enc w0 blk off d w) := S
  have WW := aK W
  have G : Aside0 (d0.size = d.size ∧ d.size < 1000000000) := ⟨hs, hsz⟩
  clear S hcmp W hs
  go_enter Try.func48, Try.ntmps48
  go_wp2
  go_loopg [7, 8] d.size (fun g1 va vb wr => ∃ (k a b : Nat) (dk : Array α), va = .int .i64 a ∧ vb = .int .i64 b ∧ Aside0 (b = a + 20 ∧ a ≤ d.size ∧ d.size - a ≤ g1 ∧ dk.size = d.size ∧ PermIn 0 d.size d dk ∧ RunsTo (ltOf cf) 20 dk k a) ∧ Aside (SW enc w0 blk off dk wr))
  case atStart => exact ⟨0, 0, 20, d, rfl, rfl, ⟨rfl, by omega, by omega, rfl, permIn_refl _ _ _, rfl⟩, S0⟩
  case round =>
    clear S0
    obtain ⟨k, a, b, dk, rfl, rfl, AA, SJ⟩ := hrel
    have hA := AA.out
    by_cases hle : b ≤ d.size
    · have l1 : (b : Int) ≤ (d.size : Int) := by omega
      have l2 : decide ((b : Int) ≤ (d.size : Int)) = true := decide_eq_true l1
      have y1 : b < 1000000000 := by omega
      have hc := ins_s enc cf g cb blk off cap a b d.size d0 dk w0 wr eg HC.out R WW.out (by have := G.out; omega) SJ.out (by omega) (by omega) (by omega) hA.2.2.2.1
      have IC := aK hc
      have HL := aK hle
      clear hc hA hle
      go_wp2_with (first | (go_at_call 54; refine IC.out.mono ?_; rintro e_ w1 ⟨rfl, d2, p2, s2, hS⟩; have P2 := aK p2; have Q2 := aK s2; have S2 : Aside (SW enc w0 blk off d2 w1) := hS; clear p2 s2 hS))
      go_roundg (d.size - b)
      case measure => have := AA.out; have := HL.out; omega
      case rel =>
        have hA := AA.out
        have hl := HL.out
        have p2 := P2.out
        refine ⟨k + 1, b, b + 20, d2, rfl, by first | rfl | go_num, ⟨rfl, hl, Nat.le_refl _, p2.1.trans hA.2.2.2.1, permIn_trans _ _ _ _ _ hA.2.2.2.2.1 (permIn_mono _ _ _ _ _ _ (Nat.zero_le _) hl (by omega) p2), a, hA.1, Q2.out, hA.2.2.2.2.2.keep p2 k a (Nat.le_refl _)⟩, S2⟩
    · have l1 : ¬ (b : Int) ≤ (d.size : Int) := by omega
      have l2 : decide ((b : Int) ≤ (d.size : Int)) = false := decide_eq_false l1
      have hc := ins_s enc cf g cb blk off cap a d.size d.size d0 dk w0 wr eg HC.out R WW.out (by have := G.out; omega) SJ.out (by omega) (by omega) (by omega) hA.2.2.2.1
      have IC := aK hc
      have HL := aK hle
      clear hc hA hle
      go_wp2_with (first | (go_at_call 54; refine IC.out.mono ?_; rintro e_ w1 ⟨rfl, d2, p2, s2, hS⟩; have P2 := aK p2; have Q2 := aK s2; have S2 : Aside (SW enc w0 blk off d2 w1) := hS; clear p2 s2 hS))
      clear l1 l2
      go_loopg [6] d.size (fun g2 vB wr2 => ∃ (B k : Nat) (dk : Array α), vB = .int .i64 B ∧ Aside0 (20 ≤ B ∧ B ≤ 2 * d.size + 20 ∧ d.size - B ≤ g2 ∧ dk.size = d.size ∧ PermIn 0 d.size d dk ∧ RunsFrom (ltOf cf) B d.size dk k 0) ∧ Aside (SW enc w0 blk off dk wr2))
      case atStart =>
        have hA := AA.out
        have hl := HL.out
        have p2 := P2.out
        obtain ⟨k', hk'⟩ := RunsFrom.all k 0 a (hA.2.2.2.2.2.keep p2 k a (Nat.le_refl _)) hA.2.1 ⟨by omega, Q2.out⟩
        exact ⟨20, k', d2, rfl, ⟨by omega, by omega, by omega, p2.1.trans hA.2.2.2.1, permIn_trans _ _ _ _ _ hA.2.2.2.2.1 (permIn_mono _ _ _ _ _ _ (Nat.zero_le _) (Nat.le_refl _) (by omega) p2), hk'⟩, S2⟩
      case round =>
        clear S2 P2 Q2 IC HL AA SJ
        obtain ⟨B, k2, dk2, rfl, BB, SB⟩ := hrel
        have hB := BB.out
        by_cases hlt : B < d.size
        · have l1 : (B : Int) < (d.size : Int) := by omega
          have l2 : decide ((B : Int) < (d.size : Int)) = true := decide_eq_true l1
          obtain ⟨B2, hB2⟩ : ∃ q, q = 2 * B := ⟨_, rfl⟩
          have z1 : 2 * (B : Int) = (B2 : Int) := by omega
          have y1 : B < 1000000000 := by omega
          have y2 : B2 < 3000000000 := by omega
          have E2 := aK hB2
          have LT := aK hlt
          clear hB2 hB hlt
          go_wp2
          go_loopg [7, 8] d.size (fun g3 va vb wr3 => ∃ (j k a b : Nat) (dk : Array α), va = .int .i64 a ∧ vb = .int .i64 b ∧ Aside0 (b = a + 2 * B ∧ a ≤ d.size ∧ d.size - a ≤ g3 ∧ dk.size = d.size ∧ PermIn 0 d.size d dk ∧ RunsTo (ltOf cf) (2 * B) dk j a ∧ RunsFrom (ltOf cf) B d.size dk k a) ∧ Aside (SW enc w0 blk off dk wr3))
          case atStart =>
            have hB := BB.out
            exact ⟨0, k2, 0, B2, dk2, rfl, rfl, ⟨by have := E2.out; omega, by omega, by omega, hB.2.2.2.1, hB.2.2.2.2.1, rfl, hB.2.2.2.2.2⟩, SB⟩
          case round =>
            clear SB
            obtain ⟨j3, k3, a3, b3, dk3, rfl, rfl, CC, SC⟩ := hrel
            have hC := CC.out
            have hB := BB.out
            have h2 := E2.out
            obtain ⟨c, hc0⟩ : ∃ q, q = a3 + B := ⟨_, rfl⟩
            have z2 : (a3 : Int) + (B : Int) = (c : Int) := by omega
            by_cases hle : b3 ≤ d.size
            · have l3 : (b3 : Int) ≤ (d.size : Int) := by omega
              have l4 : decide ((b3 : Int) ≤ (d.size : Int)) = true := decide_eq_true l3
              obtain ⟨b4, hb4⟩ : ∃ q, q = b3 + B2 := ⟨_, rfl⟩
              have z3 : (b3 : Int) + (B2 : Int) = (b4 : Int) := by omega
              have y3 : b4 < 9000000000 := by omega
              have y4 : c < 9000000000 := by omega
              obtain ⟨t1, t2, t3⟩ := RunsFrom.two (by omega) k3 a3 hC.2.2.2.2.2.2 (by omega)
              rw [← hc0, show a3 + 2 * B = b3 by omega] at t2
              rw [← hc0] at t1
              have hc := symC hC.2.2.2.1 (symMerge_s enc cf g cb blk off cap d0 w0 eg HC.out R WW.out dk3.size a3 c b3 dk3 wr (by omega) (by have := G.out; omega) SC.out (by omega) (by omega) (by omega) (by omega) t1 t2)
              have IC := aK hc
              have T3 := aK t3
              have F := aK (show c = a3 + B ∧ b4 = b3 + B2 ∧ b3 ≤ d.size from ⟨hc0, hb4, hle⟩)
              clear hc hC hB h2 hc0 hb4 t1 t2 t3 hle
              go_wp2_with (first | (go_at_call 55; refine IC.out.mono ?_; rintro e_ w1 ⟨rfl, d2, p2, s2, hS⟩; have P2 := aK p2; have Q2 := aK s2; have S2 : Aside (SW enc w0 blk off d2 w1) := hS; clear p2 s2 hS))
              go_roundg (d.size - b3)
              case measure => have := CC.out; have := F.out; have := BB.out; omega
              case rel =>
                have hC := CC.out
                have hF := F.out
                have h2 := E2.out
                have p2 := P2.out
                obtain ⟨k4, hk4⟩ := T3.out
                rw [← hC.1] at hk4
                refine ⟨j3 + 1, k4, b3, b4, d2, rfl, rfl, ⟨by omega, hF.2.2, Nat.le_refl _, p2.1.trans hC.2.2.2.1, permIn_trans _ _ _ _ _ hC.2.2.2.2.1 (permIn_mono _ _ _ _ _ _ (Nat.zero_le _) hF.2.2 (by omega) p2), ⟨a3, hC.1, Q2.out, hC.2.2.2.2.2.1.keep p2 j3 a3 (Nat.le_refl _)⟩, hk4.keep p2 k4 b3 (Nat.le_refl _)⟩, S2⟩
            · have l3 : ¬ (b3 : Int) ≤ (d.size : Int) := by omega
              have l4 : decide ((b3 : Int) ≤ (d.size : Int)) = false := decide_eq_false l3
              have z4 : (B : Int) * 2 = (B2 : Int) := by omega
              have y4 : c < 9000000000 := by omega
              by_cases hcn : c < d.size
              · have l5 : (c : Int) < (d.size : Int) := by omega
                have l6 : decide ((c : Int) < (d.size : Int)) = true := decide_eq_true l5
                obtain ⟨t1, t2⟩ := RunsFrom.rest k3 a3 hC.2.2.2.2.2.2 (by omega) (by omega)
                rw [← hc0] at t1 t2
                have hc := symC hC.2.2.2.1 (symMerge_s enc cf g cb blk off cap d0 w0 eg HC.out R WW.out dk3.size a3 c d.size dk3 wr (by omega) (by have := G.out; omega) SC.out (by omega) (by omega) (by omega) (by omega) t1 t2)
                have IC := aK hc
                have F := aK (show c = a3 + B ∧ ¬ b3 ≤ d.size from ⟨hc0, hle⟩)
                clear hc hC hB h2 hc0 t1 t2 hle hcn
                go_wp2_with (first | (go_at_call 55; refine IC.out.mono ?_; rintro e_ w1 ⟨rfl, d2, p2, s2, hS⟩; have P2 := aK p2; have Q2 := aK s2; have S2 : Aside (SW enc w0 blk off d2 w1) := hS; clear p2 s2 hS))
                go_roundg (d.size - B2)
                case measure => have := BB.out; have := E2.out; have := LT.out; omega
                case rel =>
                  have hC := CC.out
                  have hB := BB.out
                  have hF := F.out
                  have h2 := E2.out
                  have hl := LT.out
                  have p2 := P2.out
                  obtain ⟨k', hk'⟩ := RunsFrom.all j3 0 a3 (hC.2.2.2.2.2.1.keep p2 j3 a3 (Nat.le_refl _)) hC.2.1 ⟨by omega, Q2.out⟩
                  rw [← h2] at hk'
                  exact ⟨B2, k', d2, rfl, ⟨by omega, by omega, Nat.le_refl _, p2.1.trans hC.2.2.2.1, permIn_trans _ _ _ _ _ hC.2.2.2.2.1 (permIn_mono _ _ _ _ _ _ (Nat.zero_le _) (Nat.le_refl _) (by omega) p2), hk'⟩, S2⟩
              · have l5 : ¬ (c : Int) < (d.size : Int) := by omega
                have l6 : decide ((c : Int) < (d.size : Int)) = false := decide_eq_false l5
                have F := aK (show c = a3 + B ∧ ¬ b3 ≤ d.size ∧ ¬ c < d.size from ⟨hc0, hle, hcn⟩)
                clear hC hB h2 hc0 hle hcn
                go_wp2
                go_roundg (d.size - B2)
                case measure => have := BB.out; have := E2.out; have := LT.out; omega
                case rel =>
                  have hC := CC.out
                  have hB := BB.out
                  have hF := F.out
                  have h2 := E2.out
                  have hl := LT.out
                  obtain ⟨k', hk'⟩ := RunsFrom.all j3 0 a3 hC.2.2.2.2.2.1 hC.2.1 ⟨by omega, RunsFrom.head k3 a3 hC.2.2.2.2.2.2 (by omega)⟩
                  rw [← h2] at hk'
                  exact ⟨B2, k', dk3, rfl, ⟨by omega, by omega, Nat.le_refl _, hC.2.2.2.1, hC.2.2.2.2.1, hk'⟩, SC⟩
        · have l1 : ¬ (B : Int) < (d.size : Int) := by omega
          have l2 : decide ((B : Int) < (d.size : Int)) = false := decide_eq_false l1
          have HL := aK hlt
          clear hB hlt
          go_wp2
          go_end0
          have hB := BB.out
          exact ⟨rfl, dk2, hB.2.2.2.2.1, RunsFrom.head k2 0 hB.2.2.2.2.2 (by have := HL.out; omega), SB.out⟩
end
section
variable {α : Type} [Inhabited α]
set_option maxHeartbeats 4000000 in
set_option maxRecDepth 100000 in
theorem sortStable_s (enc : α → Value) (cf : α → α → Int) (g : Nat) (cb : Array Value) (blk off cap : Nat) (d : Array α) (w : World) (eg : ∀ args w, (callFunc g args).run Try.prog w = .ok (.enter g args) w)
    (hcmp : CmpLays1 Try.prog g cb enc cf blk off d.size w) (R : Row1 enc w blk off d) (W : SWO (ltOf cf)) (hsz : d.size < 1000000000) :
    Calls Try.prog 35 #[.slice (some ⟨blk, off, none⟩) d.size cap, .func (.func g) #[] cb] w (SymPost enc w blk off 0 d.size cf d) := by
  have hc := aK (stable_s enc cf g cb blk off cap d w eg hcmp R W d w rfl (SW.start R.hH) hsz)
  clear hcmp
  go_enter Try.func35, Try.ntmps35
  go_wp2_with (first | (go_at_call 48; refine hc.out.mono ?_; rintro e_ w1 ⟨rfl, d2, p2, s2, hS⟩))
  go_end0
  exact ⟨rfl, d2, p2, s2, hS⟩
set_option maxHeartbeats 4000000 in
set_option maxRecDepth 100000 in
theorem ins_none (A : Option Addr) (cap : Nat) (fv : Value) (w : World) : Calls Try.prog 54 #[.slice A 0 cap, .int .i64 0, .int .i64 0, fv] w fun e w' => e = .returned (.tuple #[]) ∧ w' = w := by
  go_enter Try.func54, Try.ntmps54
  go_wp2
  refine wp_loop_rounds 1 ?_
  rw [rounds_succ]
  go_wp2
  go_end0
  exact ⟨rfl, rfl⟩
set_option maxHeartbeats 4000000 in
set_option maxRecDepth 100000 in
theorem stable_none (A : Option Addr) (cap : Nat) (fv : Value) (w : World) : Calls Try.prog 48 #[.slice A 0 cap, .int .i64 0, fv] w fun e w' => e = .returned (.tuple #[]) ∧ w' = w := by
  have hc := aK (ins_none A cap fv w)
  go_enter Try.func48, Try.ntmps48
  go_wp2
  refine wp_loop_rounds 1 ?_
  rw [rounds_succ]
  go_wp2_with (first | (go_at_call 54; refine hc.out.mono ?_; rintro e_ w1 ⟨rfl, rfl⟩))
  refine wp_loop_rounds 1 ?_
  rw [rounds_succ]
  go_wp2
  go_end0
  exact ⟨rfl, rfl⟩
set_option maxHeartbeats 4000000 in
set_option maxRecDepth 100000 in
theorem sortStable_none (A : Option Addr) (cap : Nat) (fv : Value) (w : World) : Calls Try.prog 35 #[.slice A 0 cap, fv] w fun e w' => e = .returned (.tuple #[]) ∧ w' = w := by
  have hc := aK (stable_none A cap fv w)
  go_enter Try.func35, Try.ntmps35
  go_wp2_with (first | (go_at_call 48; refine hc.out.mono ?_; rintro e_ w1 ⟨rfl, rfl⟩))
  go_end0
  exact ⟨rfl, rfl⟩
end
section
variable {α : Type} {d : Kd α} {e base cap : Nat} {ok : Nat → Prop} {w : World} {xs : List α} {g : Nat}
structure CellsOf (d : Kd α) (e : Nat) (w : World) (base g cap : Nat) (ok : Nat → Prop) (xs : List α) (f : Nat → Nat) (cur : Array Value) (inner : List Value) : Prop where
  hb : w.heap[g]? = some (.cells cur e (0, 0))
  hg : base ≤ g
  hok : ok g
  len : inner.length = xs.length
  le : xs.length ≤ cap
  max : cap ≤ maxLen
  size : cur.size = cap
  take : cur.toList.take xs.length = inner
  elem : ∀ j (hj : j < xs.length), d.M w base (fun k => (ok k ∧ k ≠ g) ∧ f k = j) xs[j] [inner.getD j (.slice none 0 0)]
theorem S_cells (hsz : d.sz = 1) (h : Kd.S d e w base ok (.slice (some ⟨g, 0, none⟩) xs.length cap) xs) : ∃ f cur inner, CellsOf d e w base g cap ok xs f cur inner := by
  obtain ⟨f, h0, inner, ho, hr⟩ := h
  have hsz2 : (Kd.tag f d).sz = 1 := hsz
  rw [hsz2, List.length_zipIdx] at ho
  rw [hsz2] at hr
  obtain ⟨hl, ho⟩ := ho
  rcases ho with ⟨h1, _⟩ | ⟨g2, cap2, cur, h1, h2, h3, h4, h5, h6, h7⟩
  · cases h1
  cases h1
  rw [Nat.mul_one] at hl h6 h7
  refine ⟨f, cur, inner, h3, h2, h0 g rfl, hl, h4, h5, h6, h7, fun j hj => ?_⟩
  have := hr.2 j (xs[j], j) (Kd.zip_at (List.getElem?_eq_getElem hj))
  rw [Nat.mul_one] at this
  have e1 : (inner.drop j).take 1 = [inner.getD j (.slice none 0 0)] := by
    have hj2 : j < inner.length := by omega
    rw [List.drop_eq_getElem_cons hj2, List.getD_eq_getElem?_getD, List.getElem?_eq_getElem hj2]
    rfl
  rw [e1] at this
  refine d.M_mono (fun k hk => ⟨⟨hk.1.1, fun e2 => hk.1.2 (by rw [e2]; rfl)⟩, hk.2⟩) this
theorem idx_of_nodup {σ : List Nat} (hn : σ.Nodup) {j : Nat} (hj : j < σ.length) : σ.idxOf σ[j] = j := List.Nodup.idxOf_getElem hn j hj
theorem S_reorder (hsz : d.sz = 1) {f : Nat → Nat} {cur : Array Value} {inner : List Value} (h : CellsOf d e w base g cap ok xs f cur inner) {σ : List Nat} (hp : σ.Perm (List.range xs.length)) (z : α) {w2 : World} {cur2 : Array Value}
    (hb2 : w2.heap[g]? = some (.cells cur2 e (0, 0))) (hs2 : cur2.size = cap) (ht2 : cur2.toList.take xs.length = σ.map (fun i => inner.getD i (.slice none 0 0))) (hk : ∀ k, k ≠ g → k < w.heap.size → w2.heap[k]? = w.heap[k]?) :
    Kd.S d e w2 base ok (.slice (some ⟨g, 0, none⟩) xs.length cap) (σ.map (fun i => xs.getD i z)) := by
  have hn : σ.Nodup := hp.nodup_iff.2 List.nodup_range
  have hl : σ.length = xs.length := by rw [hp.length_eq, List.length_range]
  have hlt : ∀ i ∈ σ, i < xs.length := fun i hi => List.mem_range.1 (hp.mem_iff.1 hi)
  refine ⟨fun k => σ.idxOf (f k), fun k hk2 => by cases hk2; exact h.hok, σ.map (fun i => inner.getD i (.slice none 0 0)), ?_, ?_, ?_⟩
  · show World.ownsRow w2 base e d.sz _ _ _
    rw [hsz]
    refine ⟨by simp, .inr ⟨g, cap, cur2, by simp [hl], h.hg, hb2, by simpa [hl] using h.le, h.max, by omega, by simpa [hl] using ht2⟩⟩
  · show _ = _ * d.sz
    rw [hsz]
    simp
  · intro j p hj
    have hj1 : j < σ.length := by
      have := (List.getElem?_eq_some_iff.1 hj).1
      simpa using this
    have hp2 : p = (xs.getD σ[j] z, j) := by
      have := (List.getElem?_eq_some_iff.1 hj).2
      rw [← this]
      simp
    subst hp2
    have e1 : ((σ.map (fun i => inner.getD i (.slice none 0 0))).drop (j * d.sz)).take d.sz = [inner.getD σ[j] (.slice none 0 0)] := by
      rw [hsz, Nat.mul_one, List.drop_eq_getElem_cons (by simpa using hj1)]
      simp
    show d.M w2 base _ (xs.getD σ[j] z) _
    have e2 : (Kd.tag (fun k => σ.idxOf (f k)) d).sz = d.sz := rfl
    rw [e2, e1]
    have hs := hlt σ[j] (List.getElem_mem hj1)
    have hm := h.elem σ[j] hs
    rw [List.getD_eq_getElem?_getD, List.getElem?_eq_getElem hs, Option.getD_some]
    refine d.M_mono ?_ (Kd.M_step hm (fun k hk2 hk3 => hk k hk2.1.2 hk3))
    intro k hk2
    refine ⟨⟨hk2.1.1, fun e3 => hk2.1.2 (by simpa [Value.ownBlock] using e3)⟩, ?_⟩
    show σ.idxOf (f k) = j
    rw [hk2.2]
    exact idx_of_nodup hn hj1
end
end Go.Proofs.Ytnbpcacnbfbjkaa.P
namespace Go.Proofs.Ytnbpcacnbfbjkaa.P
attribute [local go_sem] max2_int min2_int max_two min_two max_three min_three max_four min_four
set_option maxHeartbeats 8000000
set_option maxRecDepth 100000
def cmp_Or_int.l0 : Nat → Int → List Int → Int → Int → Option (Int)
 | 0, _, _, _, _ => none
 | k + 1, x3, x6, x7, x8 => if x8 < x7 then (if 0 ≤ x8 then (if x8 < (x6.length : Int) then (if (rd x6 x8) = x3 then (cmp_Or_int.l0 k x3 x6 x7 (wrap64 (x8 + 1))) else (some (rd x6 x8))) else (none)) else (none)) else (some x3)
def cmp_Or_int.f (k : Nat) (l0 : List Int) : Option (Int) := cmp_Or_int.l0 k 0 l0 (l0.length : Int) 0
theorem cmp_Or_int.calls (k : Nat) (A0 : Option Addr) (c0 : Nat) (l0 : List Int) (r : Int) (w : World) (hr0 : Kd.C (Kd.int .i64) w A0 l0.length l0) (hc0 : l0.length ≤ c0) (h : cmp_Or_int.f k l0 = some r) :
  Calls Try.prog 37 #[.slice A0 l0.length c0] w fun e w' => e = .returned (.int .i64 r) ∧ Drawn0 w w' := by
 have HR0 := aK hr0
 have HC0 := aK hc0
 clear hr0 hc0
 have H : (cmp_Or_int.l0 k 0 l0 (l0.length : Int) 0) = some r := h
 clear h
 have H' := aK H
 clear H
 go_enter Try.func37, Try.ntmps37
 go_wp2
 go_loopg [8] k (fun kq v8 w' => ∃ (x8_1 : Int), v8 = .int .i64 x8_1 ∧ Aside0 (cmp_Or_int.l0 kq 0 l0 (l0.length : Int) x8_1 = some r) ∧ Aside0 (kq ≤ k) ∧ Drawn0 w w')
 case atStart => exact ⟨(0), (by first | rfl | (simp; done) | (simp [*]; done)), H', ⟨Nat.le_refl _⟩, by repeat (first | exact Drawn0.refl _ | apply Drawn0.step)⟩
 case round =>
 clear H'
 obtain ⟨x8_1, rfl, HA, HK1, ⟨m1, rfl⟩⟩ := hrel
 cases gk with
 | zero => exact absurd HA.out (by simp [cmp_Or_int.l0])
 | succ k1 =>
 have H := HA.out
 clear HA
 simp only [cmp_Or_int.l0] at H
 by_cases c2 : x8_1 < (l0.length : Int)
 rotate_left
 ·
  rw [if_neg c2] at H
  have c2b0 : decide (x8_1 < (l0.length : Int)) = false := decide_eq_false c2
  clear c2
  obtain rfl := Option.some.inj H
  go_wp2
  go_ret
  exact ⟨by first | rfl | (simp; done) | (simp [*]; done), by repeat (first | exact Drawn0.refl _ | apply Drawn0.step)⟩
 rw [if_pos c2] at H
 have c2b0 : decide (x8_1 < (l0.length : Int)) = true := decide_eq_true c2
 clear c2
 by_cases c3 : 0 ≤ x8_1
 rotate_left
 ·
  rw [if_neg c3] at H
  exact absurd H (by simp)
 rw [if_pos c3] at H
 have c3b0 : decide (0 ≤ x8_1) = true := decide_eq_true c3
 clear c3
 by_cases c4 : x8_1 < (l0.length : Int)
 rotate_left
 ·
  rw [if_neg c4] at H
  exact absurd H (by simp)
 rw [if_pos c4] at H
 have c4b0 : decide (x8_1 < (l0.length : Int)) = true := decide_eq_true c4
 clear c4
 by_cases c5 : (rd l0 x8_1) = 0
 ·
  rw [if_pos c5] at H
  have c5b0 : ((rd l0 x8_1) == 0) = true := beq_iff_eq.mpr c5
  have c5b1 : ((rd l0 x8_1) != 0) = false := bne_eq_false_iff_eq.mpr c5
  clear c5; have H' := aK H; clear H
  have p101 : 0 ≤ (x8_1 : Int) := dA
  have q101 : x8_1 < (l0.length : Int) := dA
  obtain ⟨ad101, e101, hx101_0⟩ := Kd.at_int HR0.out x8_1 p101 q101; cases e101; replace p101 := eq_true p101; replace q101 := eq_true q101
  go_wp2
  go_roundg k1
  case measure => have := HK1.out; omega
  case rel => exact ⟨(wrap64 (x8_1 + 1)), (by first | rfl | (simp; done) | (simp [*]; done)), H', ⟨by have := HK1.out; omega⟩, by repeat (first | exact Drawn0.refl _ | apply Drawn0.step)⟩
 rw [if_neg c5] at H
 have c5b0 : ((rd l0 x8_1) == 0) = false := beq_eq_false_iff_ne.mpr c5
 have c5b1 : ((rd l0 x8_1) != 0) = true := bne_iff_ne.mpr c5
 obtain rfl := Option.some.inj H
 have p101 : 0 ≤ (x8_1 : Int) := dA
 have q101 : x8_1 < (l0.length : Int) := dA
 obtain ⟨ad101, e101, hx101_0⟩ := Kd.at_int HR0.out x8_1 p101 q101
 cases e101
 replace p101 := eq_true p101
 replace q101 := eq_true q101
 go_wp2
 go_ret
 exact ⟨by first | rfl | (simp; done) | (simp [*]; done), by repeat (first | exact Drawn0.refl _ | apply Drawn0.step)⟩
def cmp_isNaN_int.f (a0 : Int) : Option (Bool) := some (a0 != a0)
theorem cmp_isNaN_int.calls (a0 : Int) (r : Bool) (w : World) (h : cmp_isNaN_int.f a0 = some r) :
  Calls Try.prog 49 #[.int .i64 a0] w fun e w' => e = .returned (.bool r) ∧ Drawn0 w w' := by
 have H : (some (a0 != a0)) = some r := h
 clear h
 obtain rfl := Option.some.inj H
 go_enter Try.func49, Try.ntmps49
 go_wp2
 go_ret
 exact ⟨by first | rfl | (simp; done) | (simp [*]; done), by repeat (first | exact Drawn0.refl _ | apply Drawn0.step)⟩
def cmp_Compare_int.f (a0 : Int) (a1 : Int) : Option (Int) := (cmp_isNaN_int.f a0).bind fun t101 => ((cmp_isNaN_int.f a1).bind fun t102 => (if t101 = true then (if t102 = true then (some 0) else (some (-1))) else (if t102 = true then (some 1) else (if a0 < a1 then (some (-1)) else (if a0 > a1 then (some 1) else (some 0))))))
theorem cmp_Compare_int.calls (a0 : Int) (a1 : Int) (r : Int) (w : World) (h : cmp_Compare_int.f a0 a1 = some r) :
  Calls Try.prog 39 #[.int .i64 a0, .int .i64 a1] w fun e w' => e = .returned (.int .i64 r) ∧ Drawn0 w w' := by
 have H : ((cmp_isNaN_int.f a0).bind fun t101 => ((cmp_isNaN_int.f a1).bind fun t102 => (if t101 = true then (if t102 = true then (some 0) else (some (-1))) else (if t102 = true then (some 1) else (if a0 < a1 then (some (-1)) else (if a0 > a1 then (some 1) else (some 0))))))) = some r := h
 clear h
 replace H := oA H
 obtain ⟨t101, A3, H⟩ := H
 replace H : ((cmp_isNaN_int.f a1).bind fun t102 => (if t101 = true then (if t102 = true then (some 0) else (some (-1))) else (if t102 = true then (some 1) else (if a0 < a1 then (some (-1)) else (if a0 > a1 then (some 1) else (some 0)))))) = some r := H
 replace H := oA H
 obtain ⟨t102, A4, H⟩ := H
 replace H : (if t101 = true then (if t102 = true then (some 0) else (some (-1))) else (if t102 = true then (some 1) else (if a0 < a1 then (some (-1)) else (if a0 > a1 then (some 1) else (some 0))))) = some r := H
 by_cases c5 : t101 = true
 ·
  subst c5
  have H1 : (if t102 = true then (some 0) else (some (-1))) = some r := by rw [if_pos rfl] at H; exact H
  clear H; have H := H1; clear H1
  by_cases c6 : t102 = true
  ·
   subst c6
   have H1 : (some 0) = some r := by rw [if_pos rfl] at H; exact H
   clear H; have H := H1; clear H1
   obtain rfl := Option.some.inj H
   go_enter Try.func39, Try.ntmps39
   go_wp2_with (first | ((with_reducible refine gc 49 rfl ?_); refine gl (some 8) Try.func49 #[.int .i64 a0] ?_; (with_reducible refine (cmp_isNaN_int.calls a0 true _ A3.out).mono ?_); rintro e w' ⟨rfl, ⟨nd, rfl⟩⟩; refine ⟨_, rfl, ?_⟩) | ((with_reducible refine gc 49 rfl ?_); refine gl (some 10) Try.func49 #[.int .i64 a1] ?_; (with_reducible refine (cmp_isNaN_int.calls a1 true _ A4.out).mono ?_); rintro e w' ⟨rfl, ⟨nd, rfl⟩⟩; refine ⟨_, rfl, ?_⟩))
   go_ret
   exact ⟨by first | rfl | (simp; done) | (simp [*]; done), by repeat (first | exact Drawn0.refl _ | apply Drawn0.step)⟩
  replace c6 := Bool.eq_false_iff.mpr c6; subst c6
  have H1 : (some (-1)) = some r := by rw [if_neg (show ¬ (false = true) by decide)] at H; exact H
  clear H; have H := H1; clear H1
  obtain rfl := Option.some.inj H
  go_enter Try.func39, Try.ntmps39
  go_wp2_with (first | ((with_reducible refine gc 49 rfl ?_); refine gl (some 8) Try.func49 #[.int .i64 a0] ?_; (with_reducible refine (cmp_isNaN_int.calls a0 true _ A3.out).mono ?_); rintro e w' ⟨rfl, ⟨nd, rfl⟩⟩; refine ⟨_, rfl, ?_⟩) | ((with_reducible refine gc 49 rfl ?_); refine gl (some 10) Try.func49 #[.int .i64 a1] ?_; (with_reducible refine (cmp_isNaN_int.calls a1 false _ A4.out).mono ?_); rintro e w' ⟨rfl, ⟨nd, rfl⟩⟩; refine ⟨_, rfl, ?_⟩))
  go_ret
  exact ⟨by first | rfl | (simp; done) | (simp [*]; done), by repeat (first | exact Drawn0.refl _ | apply Drawn0.step)⟩
 replace c5 := Bool.eq_false_iff.mpr c5
 subst c5
 have H1 : (if t102 = true then (some 1) else (if a0 < a1 then (some (-1)) else (if a0 > a1 then (some 1) else (some 0)))) = some r := by rw [if_neg (show ¬ (false = true) by decide)] at H; exact H
 clear H
 have H := H1
 clear H1
 by_cases c7 : t102 = true
 ·
  subst c7
  have H1 : (some 1) = some r := by rw [if_pos rfl] at H; exact H
  clear H; have H := H1; clear H1
  obtain rfl := Option.some.inj H
  go_enter Try.func39, Try.ntmps39
  go_wp2_with (first | ((with_reducible refine gc 49 rfl ?_); refine gl (some 8) Try.func49 #[.int .i64 a0] ?_; (with_reducible refine (cmp_isNaN_int.calls a0 false _ A3.out).mono ?_); rintro e w' ⟨rfl, ⟨nd, rfl⟩⟩; refine ⟨_, rfl, ?_⟩) | ((with_reducible refine gc 49 rfl ?_); refine gl (some 10) Try.func49 #[.int .i64 a1] ?_; (with_reducible refine (cmp_isNaN_int.calls a1 true _ A4.out).mono ?_); rintro e w' ⟨rfl, ⟨nd, rfl⟩⟩; refine ⟨_, rfl, ?_⟩))
  go_ret
  exact ⟨by first | rfl | (simp; done) | (simp [*]; done), by repeat (first | exact Drawn0.refl _ | apply Drawn0.step)⟩
 replace c7 := Bool.eq_false_iff.mpr c7
 subst c7
 have H1 : (if a0 < a1 then (some (-1)) else (if a0 > a1 then (some 1) else (some 0))) = some r := by rw [if_neg (show ¬ (false = true) by decide)] at H; exact H
 clear H
 have H := H1
 clear H1
 by_cases c8 : a0 < a1
 ·
  rw [if_pos c8] at H
  have c8b0 : decide (a0 < a1) = true := decide_eq_true c8
  clear c8
  obtain rfl := Option.some.inj H
  go_enter Try.func39, Try.ntmps39
  go_wp2_with (first | ((with_reducible refine gc 49 rfl ?_); refine gl (some 8) Try.func49 #[.int .i64 a0] ?_; (with_reducible refine (cmp_isNaN_int.calls a0 false _ A3.out).mono ?_); rintro e w' ⟨rfl, ⟨nd, rfl⟩⟩; refine ⟨_, rfl, ?_⟩) | ((with_reducible refine gc 49 rfl ?_); refine gl (some 10) Try.func49 #[.int .i64 a1] ?_; (with_reducible refine (cmp_isNaN_int.calls a1 false _ A4.out).mono ?_); rintro e w' ⟨rfl, ⟨nd, rfl⟩⟩; refine ⟨_, rfl, ?_⟩))
  go_ret
  exact ⟨by first | rfl | (simp; done) | (simp [*]; done), by repeat (first | exact Drawn0.refl _ | apply Drawn0.step)⟩
 rw [if_neg c8] at H
 have c8b0 : decide (a0 < a1) = false := decide_eq_false c8
 clear c8
 by_cases c9 : a0 > a1
 ·
  rw [if_pos c9] at H
  have c9b0 : decide (a1 < a0) = true := decide_eq_true c9
  clear c9
  obtain rfl := Option.some.inj H
  go_enter Try.func39, Try.ntmps39
  go_wp2_with (first | ((with_reducible refine gc 49 rfl ?_); refine gl (some 8) Try.func49 #[.int .i64 a0] ?_; (with_reducible refine (cmp_isNaN_int.calls a0 false _ A3.out).mono ?_); rintro e w' ⟨rfl, ⟨nd, rfl⟩⟩; refine ⟨_, rfl, ?_⟩) | ((with_reducible refine gc 49 rfl ?_); refine gl (some 10) Try.func49 #[.int .i64 a1] ?_; (with_reducible refine (cmp_isNaN_int.calls a1 false _ A4.out).mono ?_); rintro e w' ⟨rfl, ⟨nd, rfl⟩⟩; refine ⟨_, rfl, ?_⟩))
  go_ret
  exact ⟨by first | rfl | (simp; done) | (simp [*]; done), by repeat (first | exact Drawn0.refl _ | apply Drawn0.step)⟩
 rw [if_neg c9] at H
 have c9b0 : decide (a1 < a0) = false := decide_eq_false c9
 clear c9
 obtain rfl := Option.some.inj H
 go_enter Try.func39, Try.ntmps39
 go_wp2_with (first | ((with_reducible refine gc 49 rfl ?_); refine gl (some 8) Try.func49 #[.int .i64 a0] ?_; (with_reducible refine (cmp_isNaN_int.calls a0 false _ A3.out).mono ?_); rintro e w' ⟨rfl, ⟨nd, rfl⟩⟩; refine ⟨_, rfl, ?_⟩) | ((with_reducible refine gc 49 rfl ?_); refine gl (some 10) Try.func49 #[.int .i64 a1] ?_; (with_reducible refine (cmp_isNaN_int.calls a1 false _ A4.out).mono ?_); rintro e w' ⟨rfl, ⟨nd, rfl⟩⟩; refine ⟨_, rfl, ?_⟩))
 go_ret
 exact ⟨by first | rfl | (simp; done) | (simp [*]; done), by repeat (first | exact Drawn0.refl _ | apply Drawn0.step)⟩
def impl_comparePoints.f (k : Nat) (a0_0 : Int) (a0_1 : Int) (a1_0 : Int) (a1_1 : Int) : Option (Int) := (cmp_Compare_int.f a0_1 a1_1).bind fun t103 => ((cmp_Compare_int.f a0_0 a1_0).bind fun t104 => ((cmp_Or_int.f k (([t103, t104] : List Int))).bind fun t108 => (some t108)))
def impl_comparePoints.T1 : Bool × List (List Nat × List Nat) := (true, [([], []), ([0], [0]), ([], []), ([2], [2]), ([1, 3], [1, 3]), ([], []), ([5], [5]), ([], []), ([7], [7]), ([6, 8, 4], [6, 8]), ([4, 9], [4, 9]), ([10, 9], [10]), ([11, 11, 0, 1, 2, 3, 4, 5, 6, 7, 8, 9, 10, 11], [11])])
def impl_comparePoints.B1 : List Nat := [0, 1, 0, 4, 15, 0, 32, 0, 128, 511, 1023, 2047, 4095]
theorem impl_comparePoints.tab1 : rtab .any (opsOf Try.f38 1) = impl_comparePoints.T1 := by kernel_rfl
theorem impl_comparePoints.bits1 : waitsOk impl_comparePoints.T1.2 impl_comparePoints.B1 = true := by kernel_rfl
theorem impl_comparePoints.calls (k : Nat) (a0_0 : Int) (a0_1 : Int) (a1_0 : Int) (a1_1 : Int) (r : Int) (w : World) (h : impl_comparePoints.f k a0_0 a0_1 a1_0 a1_1 = some r) :
  Calls Try.prog 38 #[.agg #[.int .i64 a0_0, .int .i64 a0_1], .agg #[.int .i64 a1_0, .int .i64 a1_1]] w fun e w' => e = .returned (.int .i64 r) ∧ Below w.heap.size w w' := by
 have hu48 := Try.underlying48
 have HB := aK (Below.refl w.heap.size w)
 have H : ((cmp_Compare_int.f a0_1 a1_1).bind fun t103 => ((cmp_Compare_int.f a0_0 a1_0).bind fun t104 => ((cmp_Or_int.f k (([t103, t104] : List Int))).bind fun t108 => (some t108)))) = some r := h
 clear h
 replace H := oA H
 obtain ⟨t103, A3, H⟩ := H
 replace H : ((cmp_Compare_int.f a0_0 a1_0).bind fun t104 => ((cmp_Or_int.f k (([t103, t104] : List Int))).bind fun t108 => (some t108))) = some r := H
 replace H := oA H
 obtain ⟨t104, A4, H⟩ := H
 replace H : ((cmp_Or_int.f k (([t103, t104] : List Int))).bind fun t108 => (some t108)) = some r := H
 obtain ⟨y105, hy105⟩ : ∃ y_ : List Int, y_ = (([t103, t104] : List Int)) := ⟨_, rfl⟩
 replace H : ((cmp_Or_int.f k y105).bind fun t108 => (some t108)) = some r := by first | (rw [hy105]; first | with_reducible exact H | with_reducible exact (oS H :)) | with_reducible exact (oS H :) | with_reducible exact H | exact H
 have Ny105 := aK hy105
 clear hy105
 replace H := oA H
 obtain ⟨t108, A5, H⟩ := H
 replace H : (some t108) = some r := H
 obtain rfl := Option.some.inj H
 go_enter Try.func38, Try.ntmps38
 try go_wp2_with (first | ((with_reducible refine ga 2 rfl ?_); refine bxa #[.int .i64 a0_0, .int .i64 a0_1] 48 ?_; intro g101 hg w6 B101 hb; have GW101 := gA hg HB; replace HB := bS HB hb; clear hb hg) | ((with_reducible refine ga 3 rfl ?_); refine bxa #[.int .i64 a1_0, .int .i64 a1_1] 48 ?_; intro g102 hg w7 B102 hb; have GW102 := gA hg HB; obtain ⟨N101_102, N102_101⟩ := na hg B101; replace B101 := bB B101 hb; replace HB := bS HB hb; clear hb hg))
 replace B101 := bD B101
 replace B102 := bD B102
 replace HB := aK (below_drew1 HB.out)
 refine start_ (n := 13) (S := fun w' => w'.cell? ⟨g101, 0, none⟩ = some (.int .i64 a0_0) ∧ w'.cell? ⟨g101, 1, none⟩ = some (.int .i64 a0_1) ∧ w'.cell? ⟨g102, 0, none⟩ = some (.int .i64 a1_0) ∧ w'.cell? ⟨g102, 1, none⟩ = some (.int .i64 a1_1)) (ds := []) (bz [0, 13]) (by kernel_rfl) rfl rfl (cj2 B101.out (cz2 B102.out)) (fun hHeld => ?_); refine with_tabW impl_comparePoints.tab1 impl_comparePoints.bits1 (fun HT_ HW_ => ?_)
 generalize w7.drew = w8 at B101 B102 HB hHeld ⊢
 refine pz 0 5 [1, 12] HT_ ?_
 refine pz 2 7 [1, 1, 1, 10] HT_ ?_
 refine pz 5 10 [1, 1, 1, 2, 1, 7] HT_ ?_
 refine pz 7 12 [1, 1, 1, 2, 1, 1, 1, 5] HT_ ?_
 refine tz 1 6 [3, 2, 1, 1, 1, 5] HT_ HW_ rfl (by rintro w' ⟨s0, s1, s2, s3⟩; go_simp; with_reducible rfl) hHeld ?_
 refine tz 3 8 [4, 1, 1, 1, 1, 5] HT_ HW_ rfl (by rintro w' ⟨s0, s1, s2, s3⟩; go_simp; with_reducible rfl) hHeld ?_
 refine tz 6 11 [4, 1, 3, 5] HT_ HW_ rfl (by rintro w' ⟨s0, s1, s2, s3⟩; go_simp; with_reducible rfl) hHeld ?_
 refine tz 8 13 [4, 1, 4, 4] HT_ HW_ rfl (by rintro w' ⟨s0, s1, s2, s3⟩; go_simp; with_reducible rfl) hHeld ?_
 refine oz 4 9 [9, 4] HT_ fun K hK => ?_
 refine gs Try.func39 #[.int .i64 a0_1, .int .i64 a1_1] ?_
 with_reducible refine (cmp_Compare_int.calls a0_1 a1_1 t103 _ A3.out).mono ?_
 rintro e w' ⟨rfl, ⟨nd, rfl⟩⟩
 refine ⟨_, rfl, ?_⟩
 refine hK.out _ _ (cj2 B101.out (cz2 B102.out)) (fun hHeld => ?_)
 clear hK K
 refine nm 9 ?_
 refine oz 9 14 [10, 3] HT_ fun K hK => ?_
 refine gs Try.func39 #[.int .i64 a0_0, .int .i64 a1_0] ?_
 with_reducible refine (cmp_Compare_int.calls a0_0 a1_0 t104 _ A4.out).mono ?_
 rintro e w' ⟨rfl, ⟨nd, rfl⟩⟩
 refine ⟨_, rfl, ?_⟩
 refine hK.out _ _ (cj2 B101.out (cz2 B102.out)) (fun hHeld => ?_)
 clear hK K
 refine nm 14 ?_
 refine oz 10 15 [11, 2] HT_ fun K hK => ?_
 refine Kd.R_lit_step (Kd.int .i64) _ 3 ?hg (N := 15) ?hd (xs := ([t103, t104] : List Int)) (inner := [.int .i64 t103, .int .i64 t104]) (ok := fun _ => True) (okp := fun _ => True) ?hr ?hp (fun _ hk => hk) trivial (Below.refl _ _) (Nat.le_refl _) (by simp) ?_; (case hd => rfl); (case hg => rfl); (case hr => first | (go_simp; done) | (go_simp; rfl)); (case hp => exact (Reps.one (show Kd.M (Kd.int .i64) _ _ _ t103 [.int .i64 t103] from rfl) (Reps.one (show Kd.M (Kd.int .i64) _ _ _ t104 [.int .i64 t104] from rfl) (Reps.none _ _))))
 intro v106 w9 ho10 hb hg_ hnew_
 clear hg_ hnew_
 (first | rw [← Ny105.out] at ho10 | (simp only [Int.reduceToNat] at ho10; rw [← Ny105.out] at ho10))
 have HO107 := aK (Kd.R_lower ho10 (below_size (pS HB.out)))
 replace B101 := bB B101 hb
 replace B102 := bB B102 hb
 replace HB := bS HB hb
 clear hb ho10
 obtain ⟨Ao11, co11, eo11⟩ := Kd.R_slice HO107.out
 (first | subst eo11 | (obtain ⟨f4_, f5_⟩ := sI eo11; subst f4_; subst f5_))
 refine hK.out _ _ (cj2 B101.out (cz2 B102.out)) (fun hHeld => ?_)
 clear hK K
 refine nm 15 ?_
 refine oz 11 16 [12, 1] HT_ fun K hK => ?_
 refine gs Try.func37 #[.slice Ao11 y105.length co11] ?_
 with_reducible refine (cmp_Or_int.calls k _ _ y105 t108 _ ?side1 ?side2 A5.out).mono ?_
 (case side1 => exact pC (Kd.R_reads' HO107.out).2.2)
 (case side2 => exact (Kd.R_reads' HO107.out).2.1)
 rintro e w' ⟨rfl, ⟨nd, rfl⟩⟩
 refine ⟨_, rfl, ?_⟩
 refine hK.out _ _ (cj2 B101.out (cz2 B102.out)) (fun hHeld => ?_)
 clear hK K
 refine nm 16 ?_
 refine pz 12 4 [13, 0] HT_ ?_
 refine done_ (done_of HT_.out (by kernel_rfl)) ?_
 try go_wp2
 go_ret
 exact ⟨er, pT HB.out⟩
def impl_outlines_1.f (k : Nat) (l0 : List (S48)) (l1 : List (S48)) : Option (Int) := if 0 < (l0.length : Int) then (if 0 < (l1.length : Int) then ((impl_comparePoints.f k ((rd_T48 l0 0).f0) ((rd_T48 l0 0).f1) ((rd_T48 l1 0).f0) ((rd_T48 l1 0).f1)).bind fun t103 => ((cmp_Compare_int.f (l0.length : Int) (l1.length : Int)).bind fun t104 => ((cmp_Or_int.f k (([t103, t104] : List Int))).bind fun t108 => (some t108)))) else (none)) else (none)
def impl_outlines_1.T1 : Bool × List (List Nat × List Nat) := (true, [([], []), ([0], [0]), ([1], [1]), ([], []), ([3], [3]), ([4], [4]), ([2, 5], [2, 5]), ([], []), ([7], [7]), ([], []), ([9], [9]), ([8, 10, 6], [8, 10]), ([6, 11], [6, 11]), ([12, 11], [12]), ([13, 13, 0, 1, 2, 3, 4, 5, 6, 7, 8, 9, 10, 11, 12, 13], [13])])
def impl_outlines_1.B1 : List Nat := [0, 1, 3, 0, 8, 24, 63, 0, 128, 0, 512, 2047, 4095, 8191, 16383]
theorem impl_outlines_1.tab1 : rtab .any (opsOf Try.f36 1) = impl_outlines_1.T1 := by kernel_rfl
theorem impl_outlines_1.bits1 : waitsOk impl_outlines_1.T1.2 impl_outlines_1.B1 = true := by kernel_rfl
end Go.Proofs.Ytnbpcacnbfbjkaa.P
namespace Go.Proofs.Ytnbpcacnbfbjkaa.P
attribute [local go_sem] max2_int min2_int max_two min_two max_three min_three max_four min_four
theorem dS {w W0 W : World} (h : Aside0 (w.drawn ≤ W0.drawn)) (step : W0.drawn ≤ W.drawn := by first | exact Nat.le_refl _ | (simp only [World.drew, World.drewN, World.alloc, World.setCell]; done) | (simp only [World.drew, World.drewN, World.alloc, World.setCell]; omega) | omega) : Aside0 (w.drawn ≤ W.drawn) := ⟨Nat.le_trans h.out step⟩
theorem dD {w W0 W w1 : World} (h : Aside0 (w.drawn ≤ W0.drawn)) (hd : w1.drawn = W.drawn) (step : W0.drawn ≤ W.drawn := by first | exact Nat.le_refl _ | (simp only [World.drew, World.drewN, World.alloc, World.setCell]; done) | (simp only [World.drew, World.drewN, World.alloc, World.setCell]; omega) | omega) : Aside0 (w.drawn ≤ w1.drawn) := ⟨by rw [hd]; exact Nat.le_trans h.out step⟩
section
variable {P : Program} {ops : Array Oper} {rest : List Oper} {o : Oper} {a : Act} {Q : Exit → Act → World → Prop} {Kc : Act → World → Prop}
theorem box_eventD {W : World} (hgd : o.guard = none) {N : Tmp} (_hd : o.dst = some N) {cs : Array Value} {t : TypeId}
    (hrun : (execOp a.eval o).run P W = .ok (.value (.pointer (some ⟨W.heap.size, 0, none⟩))) (W.alloc (.cells cs t (0, 0))))
    (h : ∀ g, g = W.heap.size → ∀ w1, w1.heap[g]? = some (.cells cs t (0, 0)) → Below W.heap.size W w1 → w1.drawn = W.drawn → wpList P ops Q rest (a.put o.dst (.pointer (some ⟨g, 0, none⟩))) w1) : wpList P ops Q (o :: rest) a W :=
  Kd.event_run hgd hrun (h _ rfl _ (blk_new W _) (below_alloc (Below.refl _ _) _) rfl)
theorem R_lit_stepD {α : Type} (d : Kd α) {w0 W : World} (base e : Nat) (hw : Region.wanted o (yielded ops a.tmps) = true) {N : Tmp} (_hd : o.dst = some N) {xs : List α} {inner : List Value} {ok okp : Nat → Prop}
    (hrun : (execOp a.eval o).run P W = .ok (.value (.slice (some ⟨W.heap.size, 0, none⟩) xs.length xs.length)) (W.alloc (.cells inner.toArray e)))
    (hrep : Reps (d.M W base okp) d.sz xs inner) (hok : ∀ k, okp k → ok k) (hfresh : ok W.heap.size) (HB : Below base w0 W) (hbase : base ≤ W.heap.size) (hm : xs.length ≤ 9223372036854775807)
    (h : ∀ v1 w1, d.R e w1 base ok v1 xs → Below base w0 w1 → W.grownBy w1 none → (∃ b, v1.ownBlock = some b ∧ W.heap.size ≤ b) → w1.drawn = W.drawn → Kc (a.put o.dst v1) w1) : if Region.wanted o (yielded ops a.tmps) = true then Oper.wp P o a W Kc Q else Kc (a.put o.dst undef) W := by
  have h1 := Kd.R_lit_step (Q := Q) (Kc := fun a' w' => w'.drawn = W.drawn → Kc a' w') d base e hw _hd hrun hrep hok hfresh HB hbase hm (fun v1 w1 r b g x => h v1 w1 r b g x)
  rw [if_pos hw] at h1 ⊢
  unfold Oper.wp at h1 ⊢
  rw [hrun] at h1 ⊢
  exact h1 rfl
end
set_option maxHeartbeats 8000000 in
set_option maxRecDepth 100000 in
theorem impl_comparePoints.lays (k : Nat) (a0_0 : Int) (a0_1 : Int) (a1_0 : Int) (a1_1 : Int) (r : Int) (w : World) (h : impl_comparePoints.f k a0_0 a0_1 a1_0 a1_1 = some r) :
  Calls Try.prog 38 #[.agg #[.int .i64 a0_0, .int .i64 a0_1], .agg #[.int .i64 a1_0, .int .i64 a1_1]] w fun e w' => e = .returned (.int .i64 r) ∧ Below w.heap.size w w' ∧ w.drawn ≤ w'.drawn := by
 have hu48 := Try.underlying48
 have HB := aK (Below.refl w.heap.size w)
 have DR := aK (Nat.le_refl w.drawn)
 have H : ((cmp_Compare_int.f a0_1 a1_1).bind fun t103 => ((cmp_Compare_int.f a0_0 a1_0).bind fun t104 => ((cmp_Or_int.f k (([t103, t104] : List Int))).bind fun t108 => (some t108)))) = some r := h
 clear h
 replace H := Option.bind_eq_some_iff.mp H
 obtain ⟨t103, A30, H⟩ := H
 replace H : ((cmp_Compare_int.f a0_0 a1_0).bind fun t104 => ((cmp_Or_int.f k (([t103, t104] : List Int))).bind fun t108 => (some t108))) = some r := H
 have A3 := Aside0.mk A30
 clear A30
 replace H := Option.bind_eq_some_iff.mp H
 obtain ⟨t104, A40, H⟩ := H
 replace H : ((cmp_Or_int.f k (([t103, t104] : List Int))).bind fun t108 => (some t108)) = some r := H
 have A4 := Aside0.mk A40
 clear A40
 obtain ⟨y105, hy105⟩ : ∃ y_ : List Int, y_ = (([t103, t104] : List Int)) := ⟨_, rfl⟩
 replace H : ((cmp_Or_int.f k y105).bind fun t108 => (some t108)) = some r := by first | (rw [hy105]; with_reducible exact H) | (have H2_ := (Option.bind_some _ _).symm.trans H; rw [hy105]; with_reducible exact H2_) | (have H2_ := (Option.bind_some _ _).symm.trans H; with_reducible exact H2_) | with_reducible exact H | (rw [hy105]; exact H) | exact H
 have Ny105 := Aside0.mk hy105
 clear hy105
 replace H := Option.bind_eq_some_iff.mp H
 obtain ⟨t108, A50, H⟩ := H
 replace H : (some t108) = some r := H
 have A5 := Aside0.mk A50
 clear A50
 obtain rfl := Option.some.inj H
 go_enter Try.func38, Try.ntmps38
 try go_wp2_with (first | ((with_reducible refine gate_dst (N := 2) rfl ?_); refine box_eventD ?hg (N := 2) ?hd (cs := #[.int .i64 a0_0, .int .i64 a0_1]) (t := 48) ?hr ?_; (case hd => rfl); (case hg => rfl); (case hr => first | (go_simp; done) | (go_simp; rfl)); intro gb101 hg w6 hbox hb hd; replace DR := dD DR hd; have BK101 := aK (hbox); have GW101 := aK (gE hg (pS HB.out)); have GE101 := aK (gE hg (pS HB.out)); replace HB := bS HB hb; clear hb hd hbox hg) | ((with_reducible refine gate_dst (N := 3) rfl ?_); refine box_eventD ?hg (N := 3) ?hd (cs := #[.int .i64 a1_0, .int .i64 a1_1]) (t := 48) ?hr ?_; (case hd => rfl); (case hg => rfl); (case hr => first | (go_simp; done) | (go_simp; rfl)); intro gb102 hg w7 hbox hb hd; replace DR := dD DR hd; have BK102 := aK (hbox); have GW102 := aK (gE hg (pS HB.out)); have GE102 := aK (gE hg (pS HB.out)); have NB101_102 := aK (nL hg (pB BK101.out)); have NB102_101 := aK (nG hg (pB BK101.out)); replace BK101 := bB BK101 hb; replace HB := bS HB hb; clear hb hd hbox hg))
 have n0_ := aK (blk_drew BK101.out)
 have n1_ := aK (blk_drew BK102.out)
 have n2_ := aK (below_drew1 HB.out)
 clear BK101 BK102 HB
 have BK101 := n0_
 have BK102 := n1_
 have HB := n2_
 clear n0_ n1_ n2_
 refine start_ (n := 13) (S := fun w' => w'.cell? ⟨gb101, 0, none⟩ = some (.int .i64 a0_0) ∧ w'.cell? ⟨gb101, 1, none⟩ = some (.int .i64 a0_1) ∧ w'.cell? ⟨gb102, 0, none⟩ = some (.int .i64 a1_0) ∧ w'.cell? ⟨gb102, 1, none⟩ = some (.int .i64 a1_1)) (ds := []) #[false, false, false, false, false, false, false, false, false, false, false, false, false] (by kernel_rfl) rfl rfl ⟨(blk_cell BK101.out 0).trans rfl, (blk_cell BK101.out 1).trans rfl, (blk_cell BK102.out 0).trans rfl, (blk_cell BK102.out 1).trans rfl⟩ (fun hHeld => ?_); refine with_tabW impl_comparePoints.tab1 impl_comparePoints.bits1 (fun HT_ HW_ => ?_)
 replace DR := dS (W := w7.drew) DR
 generalize w7.drew = w8 at BK101 BK102 HB hHeld DR ⊢
 refine pure_ (i := 0) (N := some 5) (v := ?_) (a' := ?_) #[true, false, false, false, false, false, false, false, false, false, false, false, false] rfl rfl (any_of HT_.out (by kernel_rfl)) (fun _ _ _ h => h) (Or.inl ⟨by rfl, ?_⟩) ?_ ?_
 rotate_left
 ·
  intro w'
  go_simp
  with_reducible rfl
 rotate_left
 ·
  simp only [Act.put, List.setIfInBounds_toArray, List.set_cons_zero, List.set_cons_succ, i64_w, i32_w]
  rfl
 refine pure_ (i := 2) (N := some 7) (v := ?_) (a' := ?_) #[true, false, true, false, false, false, false, false, false, false, false, false, false] rfl rfl (any_of HT_.out (by kernel_rfl)) (fun _ _ _ h => h) (Or.inl ⟨by rfl, ?_⟩) ?_ ?_
 rotate_left
 ·
  intro w'
  go_simp
  with_reducible rfl
 rotate_left
 ·
  simp only [Act.put, List.setIfInBounds_toArray, List.set_cons_zero, List.set_cons_succ, i64_w, i32_w]
  rfl
 refine pure_ (i := 5) (N := some 10) (v := ?_) (a' := ?_) #[true, false, true, false, false, true, false, false, false, false, false, false, false] rfl rfl (any_of HT_.out (by kernel_rfl)) (fun _ _ _ h => h) (Or.inl ⟨by rfl, ?_⟩) ?_ ?_
 rotate_left
 ·
  intro w'
  go_simp
  with_reducible rfl
 rotate_left
 ·
  simp only [Act.put, List.setIfInBounds_toArray, List.set_cons_zero, List.set_cons_succ, i64_w, i32_w]
  rfl
 refine pure_ (i := 7) (N := some 12) (v := ?_) (a' := ?_) #[true, false, true, false, false, true, false, true, false, false, false, false, false] rfl rfl (any_of HT_.out (by kernel_rfl)) (fun _ _ _ h => h) (Or.inl ⟨by rfl, ?_⟩) ?_ ?_
 rotate_left
 ·
  intro w'
  go_simp
  with_reducible rfl
 rotate_left
 ·
  simp only [Act.put, List.setIfInBounds_toArray, List.set_cons_zero, List.set_cons_succ, i64_w, i32_w]
  rfl
 refine take_ (i := 1) (N := some 6) (v := ?_) (a' := ?_) #[true, true, true, false, false, true, false, true, false, false, false, false, false] rfl rfl (take_ofW HT_.out HW_.out (by kernel_rfl)) (fun _ _ _ h => h) (Or.inl ⟨by rfl, ?_⟩) hHeld ?_ ?_
 rotate_left
 ·
  rintro w' ⟨s0, s1, s2, s3⟩
  go_simp
  with_reducible rfl
 rotate_left
 ·
  simp only [Act.put, List.setIfInBounds_toArray, List.set_cons_zero, List.set_cons_succ, i64_w, i32_w]
  rfl
 refine take_ (i := 3) (N := some 8) (v := ?_) (a' := ?_) #[true, true, true, true, false, true, false, true, false, false, false, false, false] rfl rfl (take_ofW HT_.out HW_.out (by kernel_rfl)) (fun _ _ _ h => h) (Or.inl ⟨by rfl, ?_⟩) hHeld ?_ ?_
 rotate_left
 ·
  rintro w' ⟨s0, s1, s2, s3⟩
  go_simp
  with_reducible rfl
 rotate_left
 ·
  simp only [Act.put, List.setIfInBounds_toArray, List.set_cons_zero, List.set_cons_succ, i64_w, i32_w]
  rfl
 refine take_ (i := 6) (N := some 11) (v := ?_) (a' := ?_) #[true, true, true, true, false, true, true, true, false, false, false, false, false] rfl rfl (take_ofW HT_.out HW_.out (by kernel_rfl)) (fun _ _ _ h => h) (Or.inl ⟨by rfl, ?_⟩) hHeld ?_ ?_
 rotate_left
 ·
  rintro w' ⟨s0, s1, s2, s3⟩
  go_simp
  with_reducible rfl
 rotate_left
 ·
  simp only [Act.put, List.setIfInBounds_toArray, List.set_cons_zero, List.set_cons_succ, i64_w, i32_w]
  rfl
 refine take_ (i := 8) (N := some 13) (v := ?_) (a' := ?_) #[true, true, true, true, false, true, true, true, true, false, false, false, false] rfl rfl (take_ofW HT_.out HW_.out (by kernel_rfl)) (fun _ _ _ h => h) (Or.inl ⟨by rfl, ?_⟩) hHeld ?_ ?_
 rotate_left
 ·
  rintro w' ⟨s0, s1, s2, s3⟩
  go_simp
  with_reducible rfl
 rotate_left
 ·
  simp only [Act.put, List.setIfInBounds_toArray, List.set_cons_zero, List.set_cons_succ, i64_w, i32_w]
  rfl
 refine one_ (i := 4) (N := some 9) #[true, true, true, true, true, true, true, true, true, false, false, false, false] rfl rfl (one_of HT_.out (by kernel_rfl)) (by decide) (fun K hK => ?_)
 refine goes_ Try.func39 (by kernel_rfl) rfl #[.int .i64 a0_1, .int .i64 a1_1] (by rfl) rfl rfl (by (try simp only [List.map_toArray, List.map_cons, List.map_nil]); first | done | rfl | (simp only [List.length_drop, List.length_take]; rfl)) ?_
 with_reducible refine (cmp_Compare_int.calls a0_1 a1_1 t103 _ A3.out).mono ?_
 rintro e w' ⟨rfl, ⟨nd, rfl⟩⟩
 refine ⟨_, rfl, ?_⟩
 refine hK.out _ _ ⟨(blk_cell BK101.out 0).trans rfl, (blk_cell BK101.out 1).trans rfl, (blk_cell BK102.out 0).trans rfl, (blk_cell BK102.out 1).trans rfl⟩ (fun hHeld => ?_)
 clear hK K
 refine norm_ (a' := ?_) ?_ ?_
 rotate_left
 ·
  show Act.put _ (some 9) _ = _
  simp only [Act.put, List.setIfInBounds_toArray, List.set_cons_zero, List.set_cons_succ, i64_w, i32_w]
  rfl
 refine one_ (i := 9) (N := some 14) #[true, true, true, true, true, true, true, true, true, true, false, false, false] rfl rfl (one_of HT_.out (by kernel_rfl)) (by decide) (fun K hK => ?_)
 refine goes_ Try.func39 (by kernel_rfl) rfl #[.int .i64 a0_0, .int .i64 a1_0] (by rfl) rfl rfl (by (try simp only [List.map_toArray, List.map_cons, List.map_nil]); first | done | rfl | (simp only [List.length_drop, List.length_take]; rfl)) ?_
 with_reducible refine (cmp_Compare_int.calls a0_0 a1_0 t104 _ A4.out).mono ?_
 rintro e w' ⟨rfl, ⟨nd, rfl⟩⟩
 refine ⟨_, rfl, ?_⟩
 refine hK.out _ _ ⟨(blk_cell BK101.out 0).trans rfl, (blk_cell BK101.out 1).trans rfl, (blk_cell BK102.out 0).trans rfl, (blk_cell BK102.out 1).trans rfl⟩ (fun hHeld => ?_)
 clear hK K
 refine norm_ (a' := ?_) ?_ ?_
 rotate_left
 ·
  show Act.put _ (some 14) _ = _
  simp only [Act.put, List.setIfInBounds_toArray, List.set_cons_zero, List.set_cons_succ, i64_w, i32_w]
  rfl
 refine one_ (i := 10) (N := some 15) #[true, true, true, true, true, true, true, true, true, true, true, false, false] rfl rfl (one_of HT_.out (by kernel_rfl)) (by decide) (fun K hK => ?_)
 refine R_lit_stepD (Kd.int .i64) _ 3 ?hg (N := 15) ?hd (xs := ([t103, t104] : List Int)) (inner := [.int .i64 t103, .int .i64 t104]) (ok := fun _ => True) (okp := fun _ => True) ?hr ?hp (fun _ hk => hk) trivial (Below.refl _ _) (Nat.le_refl _) (by simp) ?_; (case hd => rfl); (case hg => rfl); (case hr => first | (go_simp; done) | (go_simp; rfl)); (case hp => exact (Reps.one (show Kd.M (Kd.int .i64) _ _ _ t103 [.int .i64 t103] from rfl) (Reps.one (show Kd.M (Kd.int .i64) _ _ _ t104 [.int .i64 t104] from rfl) (Reps.none _ _))))
 intro v106 w9 ho10 hb hg_ hnew_ hd
 replace DR := dD DR hd
 clear hd
 clear hg_ hnew_
 (first | rw [← Ny105.out] at ho10 | (simp only [Int.reduceToNat] at ho10; rw [← Ny105.out] at ho10))
 have HO107 := aK (Kd.R_lower ho10 (below_size (pS HB.out)))
 replace BK101 := bB BK101 hb
 replace BK102 := bB BK102 hb
 replace HB := bS HB hb
 clear hb ho10
 obtain ⟨Ao11, co11, eo11⟩ := Kd.R_slice HO107.out
 (first | subst eo11 | (injection eo11 with f1_ f2_ f3_; have f4_ := f1_.symm; have f5_ := f3_.symm; clear f1_ f2_ f3_; subst f4_; subst f5_))
 refine hK.out _ _ ⟨(blk_cell BK101.out 0).trans rfl, (blk_cell BK101.out 1).trans rfl, (blk_cell BK102.out 0).trans rfl, (blk_cell BK102.out 1).trans rfl⟩ (fun hHeld => ?_)
 clear hK K
 refine norm_ (a' := ?_) ?_ ?_
 rotate_left
 ·
  show Act.put _ (some 15) _ = _
  simp only [Act.put, List.setIfInBounds_toArray, List.set_cons_zero, List.set_cons_succ, i64_w, i32_w]
  rfl
 refine one_ (i := 11) (N := some 16) #[true, true, true, true, true, true, true, true, true, true, true, true, false] rfl rfl (one_of HT_.out (by kernel_rfl)) (by decide) (fun K hK => ?_)
 refine goes_ Try.func37 (by kernel_rfl) rfl #[.slice Ao11 y105.length co11] (by rfl) rfl rfl (by (try simp only [List.map_toArray, List.map_cons, List.map_nil]); first | done | rfl | (simp only [List.length_drop, List.length_take]; rfl)) ?_
 with_reducible refine (cmp_Or_int.calls k _ _ y105 t108 _ ?side1 ?side2 A5.out).mono ?_
 (case side1 => repeat (first | exact (Kd.R_reads' HO107.out).2.2 | (with_reducible refine Kd.C_alloc ?_ _) | (with_reducible refine Kd.C_drewN ?_ _) | (with_reducible refine Kd.C_drew ?_)))
 (case side2 => exact (Kd.R_reads' HO107.out).2.1)
 rintro e w' ⟨rfl, ⟨nd, rfl⟩⟩
 refine ⟨_, rfl, ?_⟩
 refine hK.out _ _ ⟨(blk_cell BK101.out 0).trans rfl, (blk_cell BK101.out 1).trans rfl, (blk_cell BK102.out 0).trans rfl, (blk_cell BK102.out 1).trans rfl⟩ (fun hHeld => ?_)
 clear hK K
 refine norm_ (a' := ?_) ?_ ?_
 rotate_left
 ·
  show Act.put _ (some 16) _ = _
  simp only [Act.put, List.setIfInBounds_toArray, List.set_cons_zero, List.set_cons_succ, i64_w, i32_w]
  rfl
 refine pure_ (i := 12) (N := some 4) (v := ?_) (a' := ?_) #[true, true, true, true, true, true, true, true, true, true, true, true, true] rfl rfl (any_of HT_.out (by kernel_rfl)) (fun _ _ _ h => h) (Or.inl ⟨by rfl, ?_⟩) ?_ ?_
 rotate_left
 ·
  intro w'
  go_simp
  with_reducible rfl
 rotate_left
 ·
  simp only [Act.put, List.setIfInBounds_toArray, List.set_cons_zero, List.set_cons_succ, i64_w, i32_w]
  rfl
 refine done_ (done_of HT_.out (by kernel_rfl)) ?_
 try go_wp2
 go_ret
 exact ⟨by first | rfl | (simp [errW_none, errW_some] <;> rfl) | (simp [*, errW_none, errW_some] <;> rfl), by repeat (first | (with_reducible first | exact HB.out | apply below_alloc | apply pw_below_drewN | apply below_drew1 | refine below_set ?_ GE101.out | refine below_set ?_ GE102.out) | exact HB.out), (dS DR).out⟩
set_option maxHeartbeats 8000000 in
set_option maxRecDepth 100000 in
theorem impl_outlines_1.lays (k : Nat) (A0 : Option Addr) (c0 : Nat) (l0 : List (S48)) (A1 : Option Addr) (c1 : Nat) (l1 : List (S48)) (r : Int) (w : World) (hr0 : Kd.C k48 w A0 l0.length l0) (hc0 : l0.length ≤ c0) (hr1 : Kd.C k48 w A1 l1.length l1) (hc1 : l1.length ≤ c1) (h : impl_outlines_1.f k l0 l1 = some r) :
  Calls Try.prog 36 #[.slice A0 l0.length c0, .slice A1 l1.length c1] w fun e w' => e = .returned (.int .i64 r) ∧ Below w.heap.size w w' ∧ w.drawn ≤ w'.drawn := by
 have hu48 := Try.underlying48
 have HR0 := Aside0.mk hr0
 have HC0 := Aside0.mk hc0
 clear hr0 hc0
 have HR1 := Aside0.mk hr1
 have HC1 := Aside0.mk hc1
 clear hr1 hc1
 have HB := aK (Below.refl w.heap.size w)
 have DR := aK (Nat.le_refl w.drawn)
 have H : (if 0 < (l0.length : Int) then (if 0 < (l1.length : Int) then ((impl_comparePoints.f k ((rd_T48 l0 0).f0) ((rd_T48 l0 0).f1) ((rd_T48 l1 0).f0) ((rd_T48 l1 0).f1)).bind fun t103 => ((cmp_Compare_int.f (l0.length : Int) (l1.length : Int)).bind fun t104 => ((cmp_Or_int.f k (([t103, t104] : List Int))).bind fun t108 => (some t108)))) else (none)) else (none)) = some r := h
 clear h
 by_cases c3 : 0 < (l0.length : Int)
 ·
  rw [if_pos c3] at H
  have c3b0 : decide (0 < (l0.length : Int)) = true := decide_eq_true c3
  have c3b1 : decide (0 < l0.length) = true := decide_eq_true (by omega)
  clear c3
  by_cases c4 : 0 < (l1.length : Int)
  ·
   rw [if_pos c4] at H
   have c4b0 : decide (0 < (l1.length : Int)) = true := decide_eq_true c4
   have c4b1 : decide (0 < l1.length) = true := decide_eq_true (by omega)
   clear c4
   replace H := Option.bind_eq_some_iff.mp H
   obtain ⟨t103, A50, H⟩ := H
   replace H : ((cmp_Compare_int.f (l0.length : Int) (l1.length : Int)).bind fun t104 => ((cmp_Or_int.f k (([t103, t104] : List Int))).bind fun t108 => (some t108))) = some r := H
   have A5 := Aside0.mk A50
   clear A50
   replace H := Option.bind_eq_some_iff.mp H
   obtain ⟨t104, A60, H⟩ := H
   replace H : ((cmp_Or_int.f k (([t103, t104] : List Int))).bind fun t108 => (some t108)) = some r := H
   have A6 := Aside0.mk A60
   clear A60
   obtain ⟨y105, hy105⟩ : ∃ y_ : List Int, y_ = (([t103, t104] : List Int)) := ⟨_, rfl⟩
   replace H : ((cmp_Or_int.f k y105).bind fun t108 => (some t108)) = some r := by first | (rw [hy105]; with_reducible exact H) | (have H2_ := (Option.bind_some _ _).symm.trans H; rw [hy105]; with_reducible exact H2_) | (have H2_ := (Option.bind_some _ _).symm.trans H; with_reducible exact H2_) | with_reducible exact H | (rw [hy105]; exact H) | exact H
   have Ny105 := Aside0.mk hy105
   clear hy105
   replace H := Option.bind_eq_some_iff.mp H
   obtain ⟨t108, A70, H⟩ := H
   replace H : (some t108) = some r := H
   have A7 := Aside0.mk A70
   clear A70
   obtain rfl := Option.some.inj H
   go_enter Try.func36, Try.ntmps36
   try go_wp2
   have n0_ := aK (below_drew1 HB.out)
   clear HB
   have HB := n0_
   clear n0_
   have p101 : 0 ≤ (0 : Int) := (by omega)
   have q101 : 0 < (l0.length : Int) := of_decide_eq_true (by first | (with_reducible assumption) | assumption)
   obtain ⟨ad101, e101, hx101_0, hx101_1⟩ := at_T48 HR0.out 0 p101 q101
   have hw101_1 := hx101_1
   (try rw [show ((0 : Int)).toNat = 0 from rfl] at hw101_1)
   (try rw [show 0 * 2 = 0 from rfl] at hw101_1)
   (try rw [Addr.add_zero'] at hw101_1)
   have hw101_0 := hx101_0
   (try rw [show ((0 : Int)).toNat = 0 from rfl] at hw101_0)
   (try rw [show 0 * 2 = 0 from rfl] at hw101_0)
   (try rw [Addr.add_zero'] at hw101_0)
   cases e101
   have qi101 : (0 < l0.length) = True := eq_true (by omega)
   (try rw [show ((0 : Int)).toNat = 0 from rfl] at hx101_0)
   (try rw [show 0 * 2 = 0 from rfl] at hx101_0)
   (try rw [Addr.add_zero'] at hx101_0)
   (try rw [show ((0 : Int)).toNat = 0 from rfl] at hx101_1)
   (try rw [show 0 * 2 = 0 from rfl] at hx101_1)
   (try rw [Addr.add_zero'] at hx101_1)
   replace hx101_0 := (HB.out.cell (World.block_lt_of_cell? w _ hx101_0)).trans hx101_0
   replace hx101_1 := (HB.out.cell (World.block_lt_of_cell? w _ hx101_1)).trans hx101_1
   replace p101 := eq_true p101
   replace q101 := eq_true q101
   have p102 : 0 ≤ (0 : Int) := (by omega)
   have q102 : 0 < (l1.length : Int) := of_decide_eq_true (by first | (with_reducible assumption) | assumption)
   obtain ⟨ad102, e102, hx102_0, hx102_1⟩ := at_T48 HR1.out 0 p102 q102
   have hw102_1 := hx102_1
   (try rw [show ((0 : Int)).toNat = 0 from rfl] at hw102_1)
   (try rw [show 0 * 2 = 0 from rfl] at hw102_1)
   (try rw [Addr.add_zero'] at hw102_1)
   have hw102_0 := hx102_0
   (try rw [show ((0 : Int)).toNat = 0 from rfl] at hw102_0)
   (try rw [show 0 * 2 = 0 from rfl] at hw102_0)
   (try rw [Addr.add_zero'] at hw102_0)
   cases e102
   have qi102 : (0 < l1.length) = True := eq_true (by omega)
   (try rw [show ((0 : Int)).toNat = 0 from rfl] at hx102_0)
   (try rw [show 0 * 2 = 0 from rfl] at hx102_0)
   (try rw [Addr.add_zero'] at hx102_0)
   (try rw [show ((0 : Int)).toNat = 0 from rfl] at hx102_1)
   (try rw [show 0 * 2 = 0 from rfl] at hx102_1)
   (try rw [Addr.add_zero'] at hx102_1)
   replace hx102_0 := (HB.out.cell (World.block_lt_of_cell? w _ hx102_0)).trans hx102_0
   replace hx102_1 := (HB.out.cell (World.block_lt_of_cell? w _ hx102_1)).trans hx102_1
   replace p102 := eq_true p102
   replace q102 := eq_true q102
   refine start_ (n := 15) (S := fun w' => w'.cell? ad101 = some (.int .i64 ((rd_T48 l0 0).f0)) ∧ w'.cell? ⟨ad101.block, ad101.off + 1, none⟩ = some (.int .i64 ((rd_T48 l0 0).f1)) ∧ w'.cell? ad102 = some (.int .i64 ((rd_T48 l1 0).f0)) ∧ w'.cell? ⟨ad102.block, ad102.off + 1, none⟩ = some (.int .i64 ((rd_T48 l1 0).f1))) (ds := []) #[false, false, false, false, false, false, false, false, false, false, false, false, false, false, false] (by kernel_rfl) rfl rfl ⟨((HB.out.cell (World.block_lt_of_cell? w _ hw101_0)).trans hw101_0), ((HB.out.cell (World.block_lt_of_cell? w _ hw101_1)).trans hw101_1), ((HB.out.cell (World.block_lt_of_cell? w _ hw102_0)).trans hw102_0), ((HB.out.cell (World.block_lt_of_cell? w _ hw102_1)).trans hw102_1)⟩ (fun hHeld => ?_); refine with_tabW impl_outlines_1.tab1 impl_outlines_1.bits1 (fun HT_ HW_ => ?_)
   replace DR := dS (W := w.drew) DR
   generalize w.drew = w8 at HB hx101_0 hx101_1 hx102_0 hx102_1 hHeld DR ⊢
   refine pure_ (i := 0) (N := some 5) (v := ?_) (a' := ?_) #[true, false, false, false, false, false, false, false, false, false, false, false, false, false, false] rfl rfl (any_of HT_.out (by kernel_rfl)) (fun _ _ _ h => h) (Or.inl ⟨by rfl, ?_⟩) ?_ ?_
   rotate_left
   ·
    intro w'
    go_simp
    with_reducible rfl
   rotate_left
   ·
    simp only [Act.put, List.setIfInBounds_toArray, List.set_cons_zero, List.set_cons_succ, i64_w, i32_w]
    rfl
   refine pure_ (i := 1) (N := some 6) (v := ?_) (a' := ?_) #[true, true, false, false, false, false, false, false, false, false, false, false, false, false, false] rfl rfl (any_of HT_.out (by kernel_rfl)) (fun _ _ _ h => h) (Or.inl ⟨by rfl, ?_⟩) ?_ ?_
   rotate_left
   ·
    intro w'
    go_simp
    with_reducible rfl
   rotate_left
   ·
    simp only [Act.put, List.setIfInBounds_toArray, List.set_cons_zero, List.set_cons_succ, i64_w, i32_w]
    rfl
   refine pure_ (i := 3) (N := some 8) (v := ?_) (a' := ?_) #[true, true, false, true, false, false, false, false, false, false, false, false, false, false, false] rfl rfl (any_of HT_.out (by kernel_rfl)) (fun _ _ _ h => h) (Or.inl ⟨by rfl, ?_⟩) ?_ ?_
   rotate_left
   ·
    intro w'
    go_simp
    with_reducible rfl
   rotate_left
   ·
    simp only [Act.put, List.setIfInBounds_toArray, List.set_cons_zero, List.set_cons_succ, i64_w, i32_w]
    rfl
   refine pure_ (i := 4) (N := some 9) (v := ?_) (a' := ?_) #[true, true, false, true, true, false, false, false, false, false, false, false, false, false, false] rfl rfl (any_of HT_.out (by kernel_rfl)) (fun _ _ _ h => h) (Or.inl ⟨by rfl, ?_⟩) ?_ ?_
   rotate_left
   ·
    intro w'
    go_simp
    with_reducible rfl
   rotate_left
   ·
    simp only [Act.put, List.setIfInBounds_toArray, List.set_cons_zero, List.set_cons_succ, i64_w, i32_w]
    rfl
   refine pure_ (i := 7) (N := some 12) (v := ?_) (a' := ?_) #[true, true, false, true, true, false, false, true, false, false, false, false, false, false, false] rfl rfl (any_of HT_.out (by kernel_rfl)) (fun _ _ _ h => h) (Or.inl ⟨by rfl, ?_⟩) ?_ ?_
   rotate_left
   ·
    intro w'
    go_simp
    with_reducible rfl
   rotate_left
   ·
    simp only [Act.put, List.setIfInBounds_toArray, List.set_cons_zero, List.set_cons_succ, i64_w, i32_w]
    rfl
   refine pure_ (i := 8) (N := some 13) (v := ?_) (a' := ?_) #[true, true, false, true, true, false, false, true, true, false, false, false, false, false, false] rfl rfl (any_of HT_.out (by kernel_rfl)) (fun _ _ _ h => h) (Or.inl ⟨by rfl, ?_⟩) ?_ ?_
   rotate_left
   ·
    intro w'
    go_simp
    with_reducible rfl
   rotate_left
   ·
    simp only [Act.put, List.setIfInBounds_toArray, List.set_cons_zero, List.set_cons_succ, i64_w, i32_w]
    rfl
   refine pure_ (i := 9) (N := some 14) (v := ?_) (a' := ?_) #[true, true, false, true, true, false, false, true, true, true, false, false, false, false, false] rfl rfl (any_of HT_.out (by kernel_rfl)) (fun _ _ _ h => h) (Or.inl ⟨by rfl, ?_⟩) ?_ ?_
   rotate_left
   ·
    intro w'
    go_simp
    with_reducible rfl
   rotate_left
   ·
    simp only [Act.put, List.setIfInBounds_toArray, List.set_cons_zero, List.set_cons_succ, i64_w, i32_w]
    rfl
   refine pure_ (i := 10) (N := some 15) (v := ?_) (a' := ?_) #[true, true, false, true, true, false, false, true, true, true, true, false, false, false, false] rfl rfl (any_of HT_.out (by kernel_rfl)) (fun _ _ _ h => h) (Or.inl ⟨by rfl, ?_⟩) ?_ ?_
   rotate_left
   ·
    intro w'
    go_simp
    with_reducible rfl
   rotate_left
   ·
    simp only [Act.put, List.setIfInBounds_toArray, List.set_cons_zero, List.set_cons_succ, i64_w, i32_w]
    rfl
   refine take_ (i := 2) (N := some 7) (v := ?_) (a' := ?_) #[true, true, true, true, true, false, false, true, true, true, true, false, false, false, false] rfl rfl (take_ofW HT_.out HW_.out (by kernel_rfl)) (fun _ _ _ h => h) (Or.inl ⟨by rfl, ?_⟩) hHeld ?_ ?_
   rotate_left
   ·
    rintro w' ⟨s0, s1, s2, s3⟩
    go_simp
    with_reducible rfl
   rotate_left
   ·
    simp only [Act.put, List.setIfInBounds_toArray, List.set_cons_zero, List.set_cons_succ, i64_w, i32_w]
    rfl
   refine take_ (i := 5) (N := some 10) (v := ?_) (a' := ?_) #[true, true, true, true, true, true, false, true, true, true, true, false, false, false, false] rfl rfl (take_ofW HT_.out HW_.out (by kernel_rfl)) (fun _ _ _ h => h) (Or.inl ⟨by rfl, ?_⟩) hHeld ?_ ?_
   rotate_left
   ·
    rintro w' ⟨s0, s1, s2, s3⟩
    go_simp
    with_reducible rfl
   rotate_left
   ·
    simp only [Act.put, List.setIfInBounds_toArray, List.set_cons_zero, List.set_cons_succ, i64_w, i32_w]
    rfl
   refine one_ (i := 6) (N := some 11) #[true, true, true, true, true, true, true, true, true, true, true, false, false, false, false] rfl rfl (one_of HT_.out (by kernel_rfl)) (by decide) (fun K hK => ?_)
   refine goes_ Try.func38 (by kernel_rfl) rfl #[.agg #[.int .i64 ((rd_T48 l0 0).f0), .int .i64 ((rd_T48 l0 0).f1)], .agg #[.int .i64 ((rd_T48 l1 0).f0), .int .i64 ((rd_T48 l1 0).f1)]] (by rfl) rfl rfl (by (try simp only [List.map_toArray, List.map_cons, List.map_nil]); first | done | rfl | (simp only [List.length_drop, List.length_take]; rfl)) ?_
   with_reducible refine (impl_comparePoints.lays k ((rd_T48 l0 0).f0) ((rd_T48 l0 0).f1) ((rd_T48 l1 0).f0) ((rd_T48 l1 0).f1) t103 _ A5.out).mono ?_
   rintro e w9 ⟨rfl, hb, hd9⟩
   replace DR := aK (Nat.le_trans (dS DR).out hd9)
   clear hd9
   refine ⟨_, rfl, ?_⟩
   replace HB := bS HB hb
   (try clear hb)
   (try clear hb2)
   (try clear hk)
   (try clear hi)
   refine hK.out _ _ ⟨((HB.out.cell (World.block_lt_of_cell? w _ hw101_0)).trans hw101_0), ((HB.out.cell (World.block_lt_of_cell? w _ hw101_1)).trans hw101_1), ((HB.out.cell (World.block_lt_of_cell? w _ hw102_0)).trans hw102_0), ((HB.out.cell (World.block_lt_of_cell? w _ hw102_1)).trans hw102_1)⟩ (fun hHeld => ?_)
   clear hK K
   refine norm_ (a' := ?_) ?_ ?_
   rotate_left
   ·
    show Act.put _ (some 11) _ = _
    simp only [Act.put, List.setIfInBounds_toArray, List.set_cons_zero, List.set_cons_succ, i64_w, i32_w]
    rfl
   refine one_ (i := 11) (N := some 16) #[true, true, true, true, true, true, true, true, true, true, true, true, false, false, false] rfl rfl (one_of HT_.out (by kernel_rfl)) (by decide) (fun K hK => ?_)
   refine goes_ Try.func39 (by kernel_rfl) rfl #[.int .i64 (l0.length : Int), .int .i64 (l1.length : Int)] (by rfl) rfl rfl (by (try simp only [List.map_toArray, List.map_cons, List.map_nil]); first | done | rfl | (simp only [List.length_drop, List.length_take]; rfl)) ?_
   with_reducible refine (cmp_Compare_int.calls (l0.length : Int) (l1.length : Int) t104 _ A6.out).mono ?_
   rintro e w' ⟨rfl, ⟨nd, rfl⟩⟩
   refine ⟨_, rfl, ?_⟩
   refine hK.out _ _ ⟨((HB.out.cell (World.block_lt_of_cell? w _ hw101_0)).trans hw101_0), ((HB.out.cell (World.block_lt_of_cell? w _ hw101_1)).trans hw101_1), ((HB.out.cell (World.block_lt_of_cell? w _ hw102_0)).trans hw102_0), ((HB.out.cell (World.block_lt_of_cell? w _ hw102_1)).trans hw102_1)⟩ (fun hHeld => ?_)
   clear hK K
   refine norm_ (a' := ?_) ?_ ?_
   rotate_left
   ·
    show Act.put _ (some 16) _ = _
    simp only [Act.put, List.setIfInBounds_toArray, List.set_cons_zero, List.set_cons_succ, i64_w, i32_w]
    rfl
   refine one_ (i := 12) (N := some 17) #[true, true, true, true, true, true, true, true, true, true, true, true, true, false, false] rfl rfl (one_of HT_.out (by kernel_rfl)) (by decide) (fun K hK => ?_)
   refine R_lit_stepD (Kd.int .i64) _ 3 ?hg (N := 17) ?hd (xs := ([t103, t104] : List Int)) (inner := [.int .i64 t103, .int .i64 t104]) (ok := fun _ => True) (okp := fun _ => True) ?hr ?hp (fun _ hk => hk) trivial (Below.refl _ _) (Nat.le_refl _) (by simp) ?_; (case hd => rfl); (case hg => rfl); (case hr => first | (go_simp; done) | (go_simp; rfl)); (case hp => exact (Reps.one (show Kd.M (Kd.int .i64) _ _ _ t103 [.int .i64 t103] from rfl) (Reps.one (show Kd.M (Kd.int .i64) _ _ _ t104 [.int .i64 t104] from rfl) (Reps.none _ _))))
   intro v106 w10 ho11 hb hg_ hnew_ hd
   replace DR := dD DR hd
   clear hd
   clear hg_ hnew_
   (first | rw [← Ny105.out] at ho11 | (simp only [Int.reduceToNat] at ho11; rw [← Ny105.out] at ho11))
   have HO107 := aK (Kd.R_lower ho11 (below_size (pS HB.out)))
   replace HB := bS HB hb
   clear hb ho11
   obtain ⟨Ao12, co12, eo12⟩ := Kd.R_slice HO107.out
   (first | subst eo12 | (injection eo12 with f1_ f2_ f3_; have f4_ := f1_.symm; have f5_ := f3_.symm; clear f1_ f2_ f3_; subst f4_; subst f5_))
   refine hK.out _ _ ⟨((HB.out.cell (World.block_lt_of_cell? w _ hw101_0)).trans hw101_0), ((HB.out.cell (World.block_lt_of_cell? w _ hw101_1)).trans hw101_1), ((HB.out.cell (World.block_lt_of_cell? w _ hw102_0)).trans hw102_0), ((HB.out.cell (World.block_lt_of_cell? w _ hw102_1)).trans hw102_1)⟩ (fun hHeld => ?_)
   clear hK K
   refine norm_ (a' := ?_) ?_ ?_
   rotate_left
   ·
    show Act.put _ (some 17) _ = _
    simp only [Act.put, List.setIfInBounds_toArray, List.set_cons_zero, List.set_cons_succ, i64_w, i32_w]
    rfl
   refine one_ (i := 13) (N := some 18) #[true, true, true, true, true, true, true, true, true, true, true, true, true, true, false] rfl rfl (one_of HT_.out (by kernel_rfl)) (by decide) (fun K hK => ?_)
   refine goes_ Try.func37 (by kernel_rfl) rfl #[.slice Ao12 y105.length co12] (by rfl) rfl rfl (by (try simp only [List.map_toArray, List.map_cons, List.map_nil]); first | done | rfl | (simp only [List.length_drop, List.length_take]; rfl)) ?_
   with_reducible refine (cmp_Or_int.calls k _ _ y105 t108 _ ?side1 ?side2 A7.out).mono ?_
   (case side1 => repeat (first | exact (Kd.R_reads' HO107.out).2.2 | (with_reducible refine Kd.C_alloc ?_ _) | (with_reducible refine Kd.C_drewN ?_ _) | (with_reducible refine Kd.C_drew ?_)))
   (case side2 => exact (Kd.R_reads' HO107.out).2.1)
   rintro e w' ⟨rfl, ⟨nd, rfl⟩⟩
   refine ⟨_, rfl, ?_⟩
   refine hK.out _ _ ⟨((HB.out.cell (World.block_lt_of_cell? w _ hw101_0)).trans hw101_0), ((HB.out.cell (World.block_lt_of_cell? w _ hw101_1)).trans hw101_1), ((HB.out.cell (World.block_lt_of_cell? w _ hw102_0)).trans hw102_0), ((HB.out.cell (World.block_lt_of_cell? w _ hw102_1)).trans hw102_1)⟩ (fun hHeld => ?_)
   clear hK K
   refine norm_ (a' := ?_) ?_ ?_
   rotate_left
   ·
    show Act.put _ (some 18) _ = _
    simp only [Act.put, List.setIfInBounds_toArray, List.set_cons_zero, List.set_cons_succ, i64_w, i32_w]
    rfl
   refine pure_ (i := 14) (N := some 4) (v := ?_) (a' := ?_) #[true, true, true, true, true, true, true, true, true, true, true, true, true, true, true] rfl rfl (any_of HT_.out (by kernel_rfl)) (fun _ _ _ h => h) (Or.inl ⟨by rfl, ?_⟩) ?_ ?_
   rotate_left
   ·
    intro w'
    go_simp
    with_reducible rfl
   rotate_left
   ·
    simp only [Act.put, List.setIfInBounds_toArray, List.set_cons_zero, List.set_cons_succ, i64_w, i32_w]
    rfl
   refine done_ (done_of HT_.out (by kernel_rfl)) ?_
   try go_wp2
   go_ret
   exact ⟨by first | rfl | (simp [errW_none, errW_some] <;> rfl) | (simp [*, errW_none, errW_some] <;> rfl), by repeat (first | (with_reducible first | exact HB.out | apply below_alloc | apply pw_below_drewN | apply below_drew1) | exact HB.out), (dS DR).out⟩
  ·
   rw [if_neg c4] at H
   exact absurd H (by simp)
 ·
  rw [if_neg c3] at H
  exact absurd H (by simp)
end Go.Proofs.Ytnbpcacnbfbjkaa.P
