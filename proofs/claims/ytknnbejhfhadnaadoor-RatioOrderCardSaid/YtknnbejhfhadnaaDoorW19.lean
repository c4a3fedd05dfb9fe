/- What Parse reckons. No walk. -/
import Derived.Test.YtknnbejhfhadnaaDoorW18
namespace Go.Proofs.YtknnbejhfhadnaaDoor
namespace Rt
open Go.Lib
/-- Parse's answer where both parts are numbers. -/
theorem par_two {l : List UInt8} {p q : Int} (h1 : atoiAll (cutF l) = .ok p) (h2 : atoiAll (cutS l) = .ok q) (hne : l ≠ []) : par l = if !(q == 0) && decide (txt p q = l) then (p, q, 0) else (0, 0, 2) := by
  cases hr : (!(q == 0) && decide (txt p q = l)) with
  | true =>
    rw [if_pos rfl]
    simp only [Bool.and_eq_true, decide_eq_true_eq, Bool.not_eq_true', beq_eq_false_iff_ne] at hr
    exact par_of hr.1 hne hr.2
  | false =>
    rw [if_neg (by decide)]
    refine par_no fun ⟨P, Q, hv, k1, e⟩ => ?_
    obtain ⟨c1, c2⟩ := txt_cut hv k1
    have bP := num_bd hv
    have bQ := den_pos hv
    unfold den at bQ
    rw [if_neg (by omega)] at bQ
    rw [← e, c1, itoa_all P (by omega)] at h1
    rw [← e, c2, itoa_all Q (by omega)] at h2
    injection h1 with h1
    injection h2 with h2
    subst h1 h2
    have : (P ≠ P) = False := by simp
    have hq : (Q == 0) = false := by simp; omega
    rw [hq, e] at hr
    simp at hr
/-- .. and where one is none. -/
theorem par_bad {l : List UInt8} (h : (∀ p, atoiAll (cutF l) ≠ .ok p) ∨ (∀ q, atoiAll (cutS l) ≠ .ok q)) : par l = (0, 0, 2) := by
  refine par_no fun ⟨P, Q, hv, k1, e⟩ => ?_
  obtain ⟨c1, c2⟩ := txt_cut hv k1
  have bP := num_bd hv
  have bQ := den_pos hv
  unfold den at bQ
  rw [if_neg (by omega)] at bQ
  rcases h with h | h
  · exact h P (by rw [← e, c1]; exact itoa_all P (by omega))
  · exact h Q (by rw [← e, c2]; exact itoa_all Q (by omega))
end Rt
end Go.Proofs.YtknnbejhfhadnaaDoor
