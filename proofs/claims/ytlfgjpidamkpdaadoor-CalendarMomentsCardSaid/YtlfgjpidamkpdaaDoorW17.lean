/- Moments of the reference, and that both are the same list. -/
import Derived.Test.YtlfgjpidamkpdaaDoorW16
namespace Go.Proofs.YtlfgjpidamkpdaaDoor
open Go.RowKit
set_option maxHeartbeats 4000000 in
theorem rMoments_bad (day mi o s f t : Int) (w : World) (E : Int) (hz : (zok o s f t = false ∧ E = 1) ∨ (zok o s f t = true ∧ knownB day = false ∧ E = 5) ∨ (zok o s f t = true ∧ knownB day = true ∧ mi < 0 ∧ E = 5) ∨ (zok o s f t = true ∧ knownB day = true ∧ 0 ≤ mi ∧ 1439 < mi ∧ E = 5)) :
    Calls Tryd.prog 30 #[.int .i64 day, .int .i64 mi, .agg #[.int .i64 o, .int .i64 s, .int .i64 f, .int .i64 t]] w fun e w' => SlRes [] E w w' e := by
  have hbb := Below.refl (w.heap.size + 1) (w.alloc (.cells #[.int .i64 o, .int .i64 s, .int .i64 f, .int .i64 t] 41))
  rcases hz with ⟨h1, rfl⟩ | ⟨h1, h2, rfl⟩ | ⟨h1, h2, h3, rfl⟩ | ⟨h1, h2, h3, h4, rfl⟩
  all_goals
    go_enter Tryd.func30, Tryd.ntmps30
    go_wp2_with (first
      | (go_at_call 50; refine (proper_any _ _ _ _ _).mono ?_; rintro e w1 ⟨rfl, hb1⟩; have hbb := step_box hbb hb1; clear hb1)
      | (go_at_call 39; refine (rKnown_any _ _).mono ?_; rintro e w1 ⟨rfl, rfl⟩))
    go_ret2
    exact SlRes.nil (of_box hbb)
/-- A hit stands at the local time without or with the summer time. -/
theorem hit_at {n day mi o s f t : Int} (h : hitB n day mi o s f t = true) (hz : zok o s f t = true) : n = 1440 * day + mi - o - s ∨ n = 1440 * day + mi - o := by
  have hl := hit_yes h
  unfold loc at hl
  rw [if_neg (by rw [hz]; simp)] at hl
  split at hl
  · simp at hl
  · split at hl
    · simp at hl
    · have e1 := congrArg (fun x : Int × Int × Int => x.1) hl
      have e2 := congrArg (fun x : Int × Int × Int => x.2.1) hl
      simp only at e1 e2
      unfold locN at e1 e2
      split at e1
      · left; omega
      · right; omega
theorem rmL_eq (day mi o s f t : Int) (hz : zok o s f t = true) (hs0 : 0 ≤ s) (hs1 : s ≤ 120) : ∀ k : Nat, k ≤ 121 →
    rmL day mi o s f t k = (if 120 - s < k ∧ hitB (1440 * day + mi - o - s) day mi o s f t = true then [1440 * day + mi - o - s] else []) ++
      (if 120 < k ∧ s ≠ 0 ∧ hitB (1440 * day + mi - o) day mi o s f t = true then [1440 * day + mi - o] else []) := by
  intro k
  induction k with
  | zero =>
    intro _
    rw [if_neg (by omega), if_neg (by omega)]; rfl
  | succ k ih =>
    intro hk
    unfold rmL
    rw [ih (by omega)]
    by_cases hN : (k : Int) = 120
    · rw [show 1440 * day + mi - o - 120 + (k : Int) = 1440 * day + mi - o by omega]
      by_cases h0 : s = 0
      · subst h0
        simp only [Int.sub_zero]
        rw [if_neg (by omega), if_neg (by omega)]
        by_cases hh : hitB (1440 * day + mi - o) day mi o 0 f t = true
        · rw [if_pos hh, if_pos ⟨by omega, hh⟩, if_neg (by simp)]; rfl
        · rw [if_neg hh, if_neg (by intro h; exact hh h.2), if_neg (by simp)]; rfl
      · rw [if_neg (show ¬ (120 < k ∧ _) by omega), List.append_nil]
        congr 1
        · congr 1
          apply propext
          constructor <;> rintro ⟨_, h⟩ <;> exact ⟨by omega, h⟩
        · by_cases hh : hitB (1440 * day + mi - o) day mi o s f t = true
          · rw [if_pos hh, if_pos ⟨by omega, h0, hh⟩]
          · rw [if_neg hh, if_neg (fun h => hh h.2.2)]
    · rw [if_neg (show ¬ (120 < k ∧ _) by omega), if_neg (show ¬ (120 < k + 1 ∧ _) by omega), List.append_nil, List.append_nil]
      by_cases hS : (k : Int) = 120 - s
      · rw [show 1440 * day + mi - o - 120 + (k : Int) = 1440 * day + mi - o - s by omega]
        rw [if_neg (show ¬ (120 - s < (k : Int) ∧ _) by omega), List.nil_append]
        congr 1
        apply propext
        constructor
        · intro h; exact ⟨by omega, h⟩
        · intro h; exact h.2
      · have hno : ¬ hitB (1440 * day + mi - o - 120 + k) day mi o s f t = true := fun h => by
          rcases hit_at h hz with h' | h' <;> omega
        rw [if_neg hno, List.append_nil]
        congr 1
        apply propext
        constructor <;> rintro ⟨_, h⟩ <;> exact ⟨by omega, h⟩
theorem momL_eq (day mi o s f t : Int) (hz : zok o s f t = true) : rmL day mi o s f t 121 = momL day mi o s f t := by
  obtain ⟨_, _, h0, h1, _⟩ := zok_iff.1 hz
  rw [rmL_eq day mi o s f t hz h0 h1 121 (Nat.le_refl _)]
  have a : (120 - s < ((121 : Nat) : Int)) := by omega
  simp only [a, true_and, show (120 < 121) by decide]
  unfold momL tryL
  cases hA : hitB (1440 * day + mi - o - s) day mi o s f t
  · cases hB : hitB (1440 * day + mi - o) day mi o s f t
    · simp
    · by_cases hs : s = 0
      · subst hs; rw [Int.sub_zero] at hA; rw [hA] at hB; cases hB
      · simp [hs]
  · cases hB : hitB (1440 * day + mi - o) day mi o s f t
    · simp
    · by_cases hs : s = 0
      · subst hs; simp
      · have hne : ¬ (1440 * day + mi - o = 1440 * day + mi - o - s) := by omega
        simp [hs, hne]
theorem rMoments_any (day mi o s f t : Int) (w : World) :
    Calls Tryd.prog 30 #[.int .i64 day, .int .i64 mi, .agg #[.int .i64 o, .int .i64 s, .int .i64 f, .int .i64 t]] w fun e w' =>
      SlRes (if zok o s f t && knownB day && decide (0 ≤ mi) && decide (mi ≤ 1439) then momL day mi o s f t else []) (if zok o s f t then (if knownB day && decide (0 ≤ mi) && decide (mi ≤ 1439) then 0 else 5) else 1) w w' e := by
  cases hz : zok o s f t
  · exact rMoments_bad day mi o s f t w 1 (.inl ⟨hz, rfl⟩)
  · cases hk : knownB day
    · exact rMoments_bad day mi o s f t w 5 (.inr (.inl ⟨hz, hk, rfl⟩))
    · by_cases h0 : 0 ≤ mi
      · by_cases h1 : mi ≤ 1439
        · simp only [h0, h1, decide_true, Bool.and_true, if_true]
          rw [← momL_eq day mi o s f t hz]
          exact rMoments_ok day mi o s f t w hz hk h0 h1
        · simp only [h0, h1, decide_true, decide_false, Bool.and_true, Bool.and_false, if_true, Bool.false_eq_true, if_false]
          exact rMoments_bad day mi o s f t w 5 (.inr (.inr (.inr ⟨hz, hk, h0, by omega, rfl⟩)))
      · simp only [h0, decide_false, Bool.and_false, Bool.false_and, if_true, Bool.false_eq_true, if_false]
        exact rMoments_bad day mi o s f t w 5 (.inr (.inr (.inl ⟨hz, hk, by omega, rfl⟩)))
/-- Two lists of ints are compared. -/
theorem sameInts_len (A A' : Option Addr) (n n' c c' : Nat) (w : World) (h : ((n : Int) != n') = true) (_hn : n ≤ 1000000) (_hn' : n' ≤ 1000000) :
    Calls Tryd.prog 31 #[.slice A n c, .slice A' n' c'] w fun e w' => e = .returned (.bool false) ∧ Below w.heap.size w w' := by
  go_enter Tryd.func31, Tryd.ntmps31
  go_wp2_with fail
  go_ret
  exact ⟨rfl, Below.refl _ _⟩
set_option maxHeartbeats 4000000 in
theorem sameInts_self (A A' : Option Addr) (n c c' B B' : Nat) (L : List Int) (w : World) (h : Ints w B A n L) (h' : Ints w B' A' n L) (hn : n ≤ 1000) :
    Calls Tryd.prog 31 #[.slice A n c, .slice A' n c'] w fun e w' => e = .returned (.bool true) ∧ Below w.heap.size w w' := by
  have hl := h.len
  go_enter Tryd.func31, Tryd.ntmps31
  go_wp2_with fail
  go_loopw [5] (fun i wr => ∃ k : Nat, k ≤ n ∧ i = .int .i64 k ∧ Ints wr B A n L ∧ Ints wr B' A' n L ∧ Below w.heap.size w wr) (fun i _ => n - (intOf i).toNat)
  case atStart => exact ⟨0, by omega, rfl, h, h', Below.refl _ _⟩
  case round =>
    obtain ⟨k, hk, rfl, i1, i2, hb⟩ := hrel
    have J1 := Lib.hid i1; have J2 := Lib.hid i2
    by_cases hlt : k < n
    · obtain ⟨b1, o1, rfl, _, c1⟩ := i1.form (by omega)
      obtain ⟨b2, o2, rfl, _, c2⟩ := i2.form (by omega)
      have d1 := c1 k (by omega)
      have d2 := c2 k (by omega)
      generalize L.getD k 0 = x at d1 d2
      clear c1 c2 i1 i2 h h'
      go_wp2_with fail
      go_quiet (fail)
      go_wp2_with fail
      go_roundw
      case rel => exact ⟨k + 1, by omega, by go_num, J1.out, J2.out, hb.trans ⟨rfl, rfl, rfl, Nat.le_refl _, fun _ _ => rfl⟩⟩
      case measure => simp [intOf]; omega
    · clear i1 i2 h h'
      go_wp2_with fail
      go_ret
      exact ⟨rfl, hb⟩
end Go.Proofs.YtlfgjpidamkpdaaDoor
