/- Plain facts on the moments with the local time of a moment. -/
import Derived.Test.YtlfgjpidamkpdaaDoorW25
namespace Go.Proofs.YtlfgjpidamkpdaaDoor
open Go
theorem loc_cases {M o s f t : Int} (hz : zok o s f t = true) : loc M o s f t = (0, 0, 5) ∨
    (knownB (locN (M + o) s f t / 1440) = true ∧ loc M o s f t = (locN (M + o) s f t / 1440, locN (M + o) s f t % 1440, 0)) := by
  cases h1 : knownB ((M + o) / 1440)
  · exact .inl (loc_out hz h1)
  · cases h2 : knownB (locN (M + o) s f t / 1440)
    · exact .inl (loc_out2 hz h1 h2)
    · exact .inr ⟨rfl, loc_ok hz h1 h2⟩
theorem locN_cases (n s f t : Int) : locN n s f t = n ∨ locN n s f t = n + s := by unfold locN; split <;> simp
theorem hit_self {M o s f t D I : Int} (h : loc M o s f t = (D, I, 0)) : hitB M D I o s f t = true := by unfold hitB; rw [h]; simp
/-- The moments with the local time of a moment. -/
theorem moms {M o s f t D I : Int} (hz : zok o s f t = true) (h : loc M o s f t = (D, I, 0)) :
    momL D I o s f t = [M] ∨ ∃ x y, momL D I o s f t = [x, y] ∧ x < y ∧ (x = M ∨ y = M) := by
  have hs := hit_self h
  obtain ⟨_, _, z0, z1, _⟩ := zok_iff.1 hz
  have hat := hit_at hs hz
  unfold momL tryL
  cases hA : hitB (1440 * D + I - o - s) D I o s f t
  · cases hB : hitB (1440 * D + I - o) D I o s f t
    · rcases hat with e | e
      · rw [e, hA] at hs; cases hs
      · rw [e, hB] at hs; cases hs
    · rcases hat with e | e
      · rw [e, hA] at hs; cases hs
      · left; simp [e]
  · cases hB : hitB (1440 * D + I - o) D I o s f t
    · rcases hat with e | e
      · left; simp [e]
      · rw [e, hB] at hs; cases hs
    · by_cases h0 : s = 0
      · subst h0; left; rcases hat with e | e <;> simp [e]
      · have hne : ¬ (1440 * D + I - o = 1440 * D + I - o - s) := by omega
        right
        refine ⟨1440 * D + I - o - s, 1440 * D + I - o, by simp [hne], by omega, ?_⟩
        rcases hat with e | e
        · exact .inl e.symm
        · exact .inr e.symm
theorem mom_zero {D I o f t : Int} : (momL D I o 0 f t).length ≤ 1 := by
  unfold momL tryL
  rw [Int.sub_zero]
  cases hB : hitB (1440 * D + I - o) D I o 0 f t <;> simp
def StepIs (X s : Int) : Prop := X = 1 ∨ X = 1 + s ∨ X = 1 - s
/-- What the statement asks of a moment. -/
inductive MomLaw (M o s f t : Int) : Prop where
  | out (h : loc M o s f t = (0, 0, 5))
  | one (D I : Int) (L : List Int) (h : loc M o s f t = (D, I, 0)) (hk : Cal.known D) (h0 : 0 ≤ I) (h1 : I ≤ 1439) (hL : momL D I o s f t = L) (hM : L = [M])
      (hn : loc (M + 1) o s f t = (0, 0, 5) ∨ ∃ P Q, loc (M + 1) o s f t = (P, Q, 0) ∧ Cal.known P ∧ 0 ≤ Q ∧ Q ≤ 1439 ∧ StepIs (1440 * P + Q - 1440 * D - I) s)
  | two (D I x y : Int) (L : List Int) (h : loc M o s f t = (D, I, 0)) (hk : Cal.known D) (h0 : 0 ≤ I) (h1 : I ≤ 1439) (hL : momL D I o s f t = L) (hM : L = [x, y]) (hxy : x < y) (hin : x = M ∨ y = M) (hs : s ≠ 0)
      (hn : loc (M + 1) o s f t = (0, 0, 5) ∨ ∃ P Q, loc (M + 1) o s f t = (P, Q, 0) ∧ Cal.known P ∧ 0 ≤ Q ∧ Q ≤ 1439 ∧ StepIs (1440 * P + Q - 1440 * D - I) s)
theorem momLaw (M o s f t : Int) (hz : zok o s f t = true) : MomLaw M o s f t := by
  rcases loc_cases (M := M) hz with h | ⟨hk, h⟩
  · exact .out h
  · have hkd := knownB_true hk
    have hn : loc (M + 1) o s f t = (0, 0, 5) ∨ ∃ P Q, loc (M + 1) o s f t = (P, Q, 0) ∧ Cal.known P ∧ 0 ≤ Q ∧ Q ≤ 1439 ∧ StepIs (1440 * P + Q - 1440 * (locN (M + o) s f t / 1440) - locN (M + o) s f t % 1440) s := by
      rcases loc_cases (M := M + 1) hz with h' | ⟨hk', h'⟩
      · exact .inl h'
      · refine .inr ⟨_, _, h', knownB_true hk', by omega, by omega, ?_⟩
        have a := locN_cases (M + o) s f t
        have b := locN_cases (M + 1 + o) s f t
        generalize locN (M + o) s f t = N at *
        generalize locN (M + 1 + o) s f t = N' at *
        unfold StepIs
        omega
    rcases moms hz h with hm | ⟨x, y, hm, hxy, hin⟩
    · exact .one _ _ _ h hkd (by omega) (by omega) rfl hm hn
    · refine .two _ _ x y _ h hkd (by omega) (by omega) rfl hm hxy hin (fun h0 => ?_) hn
      subst h0
      have := @mom_zero (locN (M + o) 0 f t / 1440) (locN (M + o) 0 f t % 1440) o f t
      rw [hm] at this
      simp at this
end Go.Proofs.YtlfgjpidamkpdaaDoor
