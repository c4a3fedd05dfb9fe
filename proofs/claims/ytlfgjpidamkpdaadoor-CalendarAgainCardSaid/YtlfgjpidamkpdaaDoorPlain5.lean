/- Plain facts on counting working days. -/
import Derived.Test.YtlfgjpidamkpdaaDoorW20
namespace Go.Proofs.YtlfgjpidamkpdaaDoor
open Go
def one (H : List Int) (d : Int) : Nat := if workB H d then 1 else 0
/-- The working days among the next k days, in steps of st. -/
def cnt (H : List Int) (st : Int) : Int → Nat → Nat
  | _, 0 => 0
  | day, k + 1 => one H (day + st) + cnt H st (day + st) k
theorem one_le (H : List Int) (d : Int) : one H d ≤ 1 := by unfold one; split <;> omega
theorem cnt_back (H : List Int) (st : Int) : ∀ (k : Nat) (day : Int), cnt H st day (k + 1) = cnt H st day k + one H (day + (k + 1 : Nat) * st)
  | 0, day => by simp [cnt]
  | k + 1, day => by
    have h := cnt_back H st k (day + st)
    rw [cnt, h]
    show one H (day + st) + (cnt H st (day + st) k + _) = (one H (day + st) + cnt H st (day + st) k) + _
    have e : day + st + (k + 1 : Nat) * st = day + (k + 1 + 1 : Nat) * st := by
      have : ((k + 1 + 1 : Nat) : Int) = ((k + 1 : Nat) : Int) + 1 := by omega
      rw [this, Int.add_mul, Int.one_mul]; omega
    rw [e]; omega
theorem cnt_add (H : List Int) (st : Int) : ∀ (k j : Nat) (day : Int), cnt H st day (k + j) = cnt H st day k + cnt H st (day + k * st) j
  | 0, j, day => by simp [cnt]
  | k + 1, j, day => by
    have h := cnt_add H st k j (day + st)
    rw [show k + 1 + j = (k + j) + 1 by omega, cnt, h, cnt]
    have e : day + st + k * st = day + (k + 1 : Nat) * st := by
      have : ((k + 1 : Nat) : Int) = (k : Int) + 1 := by omega
      rw [this, Int.add_mul, Int.one_mul]; omega
    rw [e]; omega
theorem cnt_rev (H : List Int) (st : Int) : ∀ (k : Nat) (day : Int), cnt H (-st) (day + k * st) k + one H (day + k * st) = cnt H st day k + one H day
  | 0, day => by simp [cnt]
  | k + 1, day => by
    have h := cnt_rev H st k day
    have e : day + ((k + 1 : Nat) : Int) * st + -st = day + k * st := by
      have : ((k + 1 : Nat) : Int) = (k : Int) + 1 := by omega
      rw [this, Int.add_mul, Int.one_mul]; omega
    rw [cnt_back H st k day, cnt, e]
    omega
theorem cnt_le (H : List Int) (st : Int) (day : Int) (k j : Nat) (h : k ≤ j) : cnt H st day k ≤ cnt H st day j := by
  obtain ⟨i, rfl⟩ := Nat.exists_eq_add_of_le h
  rw [cnt_add]; omega
/-- Where counting ends. -/
theorem wk_end_at (H : List Int) (st : Int) : ∀ (d : Nat) (day : Int) (n : Nat) (x : Int), wk H st d day n = (x, 0) → ∃ k : Nat, k ≤ d ∧ x = day + k * st ∧ cnt H st day k = n ∧ (k = 0 ∨ workB H x = true)
  | d, day, 0, x, h => by
    rw [wk_zero] at h
    exact ⟨0, Nat.zero_le _, by have := congrArg Prod.fst h; simp at this ⊢; omega, rfl, .inl rfl⟩
  | 0, day, n + 1, x, h => by
    rw [wk] at h
    have := congrArg Prod.snd h
    simp at this
  | d + 1, day, n + 1, x, h => by
    rw [wk] at h
    obtain ⟨k, hk, hx, hc, hw⟩ := wk_end_at H st d (day + st) _ x h
    have e : day + st + k * st = day + (k + 1 : Nat) * st := by
      have : ((k + 1 : Nat) : Int) = (k : Int) + 1 := by omega
      rw [this, Int.add_mul, Int.one_mul]; omega
    refine ⟨k + 1, by omega, by rw [hx, e], ?_, .inr ?_⟩
    · rw [cnt, hc]; unfold one; split <;> omega
    · rcases hw with rfl | hw
      · have hb : workB H (day + st) = true := by
          cases hb : workB H (day + st)
          · rw [hb] at hc; simp [cnt] at hc
          · rfl
        rw [hx]; simpa using hb
      · exact hw
theorem wk_to (H : List Int) (st : Int) : ∀ (k d : Nat) (day : Int), k ≤ d → (k = 0 ∨ workB H (day + k * st) = true) → wk H st d day (cnt H st day k) = (day + k * st, 0)
  | 0, d, day, _, _ => by rw [cnt, wk_zero]; simp
  | k + 1, 0, day, h, _ => by omega
  | k + 1, d + 1, day, h, hw => by
    have e : day + st + k * st = day + (k + 1 : Nat) * st := by
      have : ((k + 1 : Nat) : Int) = (k : Int) + 1 := by omega
      rw [this, Int.add_mul, Int.one_mul]; omega
    have hw' : workB H (day + (k + 1 : Nat) * st) = true := by
      rcases hw with h0 | hw
      · omega
      · exact hw
    have hpos : 0 < cnt H st day (k + 1) := by rw [cnt_back]; unfold one; rw [if_pos hw']; omega
    have ih := wk_to H st k d (day + st) (by omega) (.inr (by rw [e]; exact hw'))
    rw [e] at ih
    rw [← ih]
    have hc : cnt H st day (k + 1) = one H (day + st) + cnt H st (day + st) k := rfl
    obtain ⟨m, hm⟩ : ∃ m, cnt H st day (k + 1) = m + 1 := ⟨_, (Nat.succ_pred_eq_of_pos hpos).symm⟩
    rw [hm, wk]
    congr 1
    rw [hc] at hm
    unfold one at hm
    split
    · rename_i hb; rw [if_pos hb] at hm; omega
    · rename_i hb; rw [if_neg hb] at hm; omega
theorem wk_err (H : List Int) (st : Int) : ∀ (d : Nat) (day : Int) (n : Nat), (wk H st d day n).2 = 0 ∨ wk H st d day n = (0, 5)
  | d, day, 0 => by rw [wk_zero]; exact .inl rfl
  | 0, day, n + 1 => .inr rfl
  | d + 1, day, n + 1 => by rw [wk]; exact wk_err H st d (day + st) _
/-- A smaller number is met on the way. -/
theorem cnt_meet (H : List Int) (st : Int) (day : Int) (p : Nat) (hp : 0 < p) : ∀ k : Nat, p ≤ cnt H st day k → ∃ j : Nat, j ≤ k ∧ cnt H st day j = p ∧ workB H (day + j * st) = true
  | 0, h => by simp [cnt] at h; omega
  | k + 1, h => by
    by_cases hk : p ≤ cnt H st day k
    · obtain ⟨j, a, b, c⟩ := cnt_meet H st day p hp k hk
      exact ⟨j, by omega, b, c⟩
    · rw [cnt_back] at h
      have h1 := one_le H (day + (k + 1 : Nat) * st)
      have hb : workB H (day + (k + 1 : Nat) * st) = true := by
        cases hb : workB H (day + (k + 1 : Nat) * st)
        · unfold one at h; rw [hb] at h; simp at h; omega
        · rfl
      exact ⟨k + 1, Nat.le_refl _, by rw [cnt_back]; omega, hb⟩
theorem dist_le {st day : Int} (hs : st = 1 ∨ st = -1) {k : Nat} (hk : k ≤ dist st day) (hd : Cal.known day) : Cal.known (day + k * st) := by
  obtain ⟨a, b⟩ := hd
  unfold dist at hk
  rcases hs with rfl | rfl
  · rw [if_pos rfl] at hk; exact ⟨by omega, by omega⟩
  · rw [if_neg (by decide)] at hk; exact ⟨by omega, by omega⟩
theorem le_dist {st day : Int} (hs : st = 1 ∨ st = -1) {k : Nat} (h : Cal.known (day + k * st)) : k ≤ dist st day := by
  obtain ⟨a, b⟩ := h
  unfold dist
  rcases hs with rfl | rfl
  · rw [if_pos rfl]; omega
  · rw [if_neg (by decide)]; omega
/-- Work, of a number that is not nought, by its sign. -/
theorem work_st {day st : Int} {N : Nat} {H : List Int} (hs : st = 1 ∨ st = -1) (h0 : 0 < N) (h1 : N ≤ 1000) (hH : H.length ≤ 400) (hd : Cal.known day) : work day (st * N) H = wk H st (dist st day) day N := by
  unfold work
  rw [if_neg (by rcases hs with rfl | rfl <;> omega), if_neg (by rw [knownB_of hd]; simp)]
  rcases hs with rfl | rfl
  · rw [if_pos (by omega)]; unfold dist; rw [if_pos rfl]; congr 1; omega
  · rw [if_neg (by omega)]; unfold dist; rw [if_neg (by decide)]; congr 1; omega
/-- The law. -/
theorem again (day st : Int) (p q : Nat) (H : List Int) (hs : st = 1 ∨ st = -1) (hp : 0 < p) (hq : 0 < q) (hp2 : p ≤ 100) (hq2 : q ≤ 100) (hH : H.length ≤ 400) (hd : Cal.known day) :
    ((work day (st * p) H).2 = 5 ∧ (work day (st * p + st * q) H).2 = 5) ∨ ((work day (st * p) H).2 = 0 ∧ (work day (st * p + st * q) H).2 = 5) ∨
    ∃ x y : Int, work day (st * p) H = (x, 0) ∧ work day (st * p + st * q) H = (y, 0) ∧ work x (st * q) H = (y, 0) ∧ workB H x = true ∧ workB H y = true ∧ Cal.known x ∧ Cal.known y ∧ (workB H day = true → work x (-(st * p)) H = (day, 0)) := by
  have e : st * p + st * q = st * ((p + q : Nat) : Int) := by rw [Int.natCast_add, Int.mul_add]
  rw [e, work_st hs hp (by omega) hH hd, work_st hs (by omega) (by omega) hH hd]
  rcases wk_err H st (dist st day) day (p + q) with h2 | h2
  · obtain ⟨y, hy⟩ : ∃ y, wk H st (dist st day) day (p + q) = (y, 0) := ⟨_, Prod.ext rfl h2⟩
    obtain ⟨k2, hk2, hy2, hc2, hw2⟩ := wk_end_at H st _ _ _ _ hy
    obtain ⟨k, hk, hc, hw⟩ := cnt_meet H st day p hp k2 (by omega)
    have hx := wk_to H st k (dist st day) day (by omega) (.inr hw)
    rw [hc] at hx
    have hkx := dist_le hs (show k ≤ dist st day by omega) hd
    have hky := dist_le hs hk2 hd
    rw [← hy2] at hky
    obtain ⟨j, rfl⟩ := Nat.exists_eq_add_of_le hk
    have hcj : cnt H st (day + k * st) j = q := by rw [cnt_add] at hc2; omega
    have ey : day + k * st + j * st = y := by rw [hy2, Int.natCast_add, Int.add_mul]; omega
    have hwy : workB H y = true := by
      rcases hw2 with h0 | h
      · have : k + j = 0 := h0
        obtain ⟨rfl, rfl⟩ : k = 0 ∧ j = 0 := by omega
        simp [cnt] at hc; omega
      · exact h
    refine .inr (.inr ⟨day + k * st, y, hx, hy, ?_, hw, hwy, hkx, hky, fun hwd => ?_⟩)
    · rw [work_st hs hq (by omega) hH hkx]
      have := wk_to H st j (dist st (day + k * st)) (day + k * st) (le_dist hs (by rw [ey]; exact hky)) (.inr (by rw [ey]; exact hwy))
      rw [hcj, ey] at this
      exact this
    · have hs' : -st = 1 ∨ -st = -1 := by rcases hs with rfl | rfl <;> simp
      rw [show -(st * (p : Int)) = -st * p by rw [Int.neg_mul], work_st hs' hp (by omega) hH hkx]
      have hr := cnt_rev H st k day
      have hback : day + k * st + k * -st = day := by rw [Int.mul_neg]; omega
      have hcr : cnt H (-st) (day + k * st) k = p := by
        have o1 : one H (day + k * st) = 1 := by unfold one; rw [if_pos hw]
        have o2 : one H day = 1 := by unfold one; rw [if_pos hwd]
        omega
      have := wk_to H (-st) k (dist (-st) (day + k * st)) (day + k * st) (le_dist hs' (by rw [hback]; exact hd)) (.inr (by rw [hback]; exact hwd))
      rw [hcr, hback] at this
      exact this
  · have e5 : (wk H st (dist st day) day (p + q)).2 = 5 := by rw [h2]
    rcases wk_err H st (dist st day) day p with h1 | h1
    · exact .inr (.inl ⟨h1, e5⟩)
    · exact .inl ⟨by rw [h1], e5⟩
end Go.Proofs.YtlfgjpidamkpdaaDoor
