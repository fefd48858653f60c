/- What the laws' helpers for lists of points come to. No conditions. -/
import Derived.Test.YtlneoigiodneeaaPureBase
import Derived.Test.YtlneoigiodneeaaPf31
import Derived.Test.YtlneoigiodneeaaPf33
import Derived.Test.YtlneoigiodneeaaPf29
namespace Go.Proofs.Ytlneoigiodneeaa.Pure
set_option linter.unusedVariables false
set_option linter.unusedSimpArgs false
open Go.RowKit Go.Proofs.Ytlneoigiodneeaa.P Go.Proofs.YtlneoigiodneeaaW.PrintWords Go.Proofs.YtlneoigiodneeaaW.PrintLast
theorem rdp (xs : List S108) (i : Nat) : rd_T108 xs (i : Int) = xs.getD i z108 := by simp [rd_T108]
theorem rdlp (xs : List S111) (i : Nat) : rd_T111 xs (i : Int) = xs.getD i z111 := by simp [rd_T111]
def ofP (p : S111) : S108 := ⟨p.f0, p.f1⟩
theorem toPointS_ev (xs : List S111) (hm : xs.length ≤ 17592186044416) : Ev (fun k => laws_toPointS.f k xs) (xs.map ofP) := by
  have h := copy_ev (fun k ys i => laws_toPointS.l0 k xs ys (i : Int)) xs ofP z111 z108
    (fun i ys r hl hi h => ev_step (fun k => by
      show laws_toPointS.l0 (k + 1) xs ys (i : Int) = laws_toPointS.l0 k xs (ys.set i (ofP (xs.getD i _))) ((i + 1 : Nat) : Int)
      simp only [laws_toPointS.l0, laws_toPoint.f, Option.bind_some]
      rw [if_pos (by omega), if_pos (by omega), if_pos (by omega), w64 (by omega) (by omega), rdlp]
      rfl) h)
    (fun ys hl => ev_step (f := fun _ => some ys) (fun k => by
      simp only [laws_toPointS.l0]
      rw [if_neg (by omega)]) (ev_some _)) (List.replicate xs.length z108) (by simp)
  refine Ev.congr (fun k => ?_) h
  unfold laws_toPointS.f
  rw [if_pos (by omega), if_pos (by omega)]
  rfl
theorem eqPointS_self (xs : List S108) (hm : xs.length ≤ 9223372036854775806) : Ev (fun k => laws_eqPointS.f k xs xs) true := by
  have h := allb_ev (fun k i => laws_eqPointS.l0 k xs xs (i : Int)) xs.length (fun _ => true)
    (fun i r hi _ h => ev_step (fun k => by
      simp only [laws_eqPointS.l0, laws_eqPoint.f]
      rw [if_pos (by omega), if_pos (by omega), if_pos (by omega), if_pos trivial, if_pos trivial, Option.bind_some, if_pos rfl, w64 (by omega) (by omega)]
      rfl) h)
    (fun i hi hp => by cases hp)
    (ev_step (f := fun _ => some true) (fun k => by
      simp only [laws_eqPointS.l0]
      rw [if_neg (by omega)]) (ev_some _))
  rw [(rall_iff (fun _ => true) xs.length 0).2 (fun _ _ _ => rfl)] at h
  refine Ev.congr (fun k => ?_) h
  unfold laws_eqPointS.f
  rw [if_pos rfl]
  rfl
theorem szPointS_is (l : List S111) (hl : l.length ≤ 9223372036854775807) :
    (∃ r, laws_szPointS.f l 1048576 = some r ∧ r < 0) ∨ ∃ r, laws_szPointS.f l 1048576 = some r ∧ ¬ r < 0 ∧ l.length ≤ 1048576 := by
  unfold laws_szPointS.f
  rw [w64 (by omega) (by omega)]
  by_cases h : (1048576 : Int) - l.length < 0
  · rw [if_pos h]
    exact .inl ⟨_, rfl, by omega⟩
  · rw [if_neg h]
    exact .inr ⟨_, rfl, h, by omega⟩
end Go.Proofs.Ytlneoigiodneeaa.Pure
