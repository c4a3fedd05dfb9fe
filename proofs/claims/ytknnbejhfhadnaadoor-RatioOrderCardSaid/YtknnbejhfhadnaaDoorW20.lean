/- strings.Cut at a slash. No walk. -/
import Derived.Test.YtknnbejhfhadnaaDoorW19
import Derived.Lib.IndexMore
namespace Go.Proofs.YtknnbejhfhadnaaDoor
namespace Rt
open Go.Lib
theorem index_cons (c : UInt8) (l : List UInt8) : index (c :: l) [47] = if c = 47 then 0 else if 0 ≤ index l [47] then index l [47] + 1 else -1 := by
  have hg := index_ge l [47]
  rw [index]
  by_cases h : c = 47
  · subst h; simp [List.isPrefixOf]
  · have h1 : ([47] : List UInt8).isPrefixOf (c :: l) = false := by simp [List.isPrefixOf]; exact Ne.symm h
    rw [if_neg (by rw [h1]; decide), if_neg h]
    by_cases h2 : 0 ≤ index l [47]
    · rw [if_pos h2, if_neg (by simp; omega)]
    · have : index l [47] = -1 := by omega
      rw [if_neg h2, this]; rfl
/-- The two parts, as Parse takes them. -/
theorem cut_is (l : List UInt8) : (cut l [47]).1 = cutF l ∧ (if (cut l [47]).2.2 then (cut l [47]).2.1 else [49]) = cutS l := by
  induction l with
  | nil => exact ⟨rfl, rfl⟩
  | cons c l ih =>
    have hg := index_ge l [47]
    unfold cut at ih ⊢
    rw [index_cons]
    by_cases h : c = 47
    · subst h; simp [cutF, cutS]
    · rw [if_neg h]
      by_cases h2 : 0 ≤ index l [47]
      · rw [if_pos h2] at ih ⊢
        have h3 : (0 : Int) ≤ index l [47] + 1 := by omega
        have e : (index l [47] + 1).toNat = (index l [47]).toNat + 1 := by omega
        rw [if_pos h3, e]
        obtain ⟨a, b⟩ := ih
        refine ⟨?_, ?_⟩
        · simp only [List.take_succ_cons, cutF, if_neg h]; exact congrArg _ a
        · simp only [if_true, cutS, if_neg h] at b ⊢
          rw [← b]
          simp only [List.length_cons, List.length_nil]
          rw [show (index l [47]).toNat + 1 + (0 + 1) = ((index l [47]).toNat + (0 + 1)) + 1 by omega, List.drop_succ_cons]
      · rw [if_neg h2] at ih ⊢
        rw [if_neg (by decide)]
        obtain ⟨a, b⟩ := ih
        refine ⟨?_, ?_⟩
        · simp only [cutF, if_neg h]; exact congrArg _ a
        · simp only [Bool.false_eq_true, if_false, cutS, if_neg h] at b ⊢
          exact b
end Rt
end Go.Proofs.YtknnbejhfhadnaaDoor
