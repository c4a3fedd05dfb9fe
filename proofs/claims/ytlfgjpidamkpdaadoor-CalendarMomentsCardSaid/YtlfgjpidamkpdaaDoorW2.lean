/- More small functions of the calendar and of its reference. -/
import Derived.Test.YtlfgjpidamkpdaaDoorW1
import Derived.Handy
namespace Go.Proofs.YtlfgjpidamkpdaaDoor
open Go.RowKit
theorem ret_pair {k j : IntKind} {a b c d : Int} (h : a = b) (h' : c = d) : Ending.returned (.tuple #[.int k a, .int j c]) = .returned (.tuple #[.int k b, .int j d]) := by rw [h, h']

set_option maxHeartbeats 400000 in
theorem modulo_any (n m : Int) (w : World) (h1 : 1 ≤ m) (h2 : m ≤ 1000000) (_h3 : -9223372036854775808 ≤ n) (_h4 : n ≤ 9223372036854775807) :
    Calls Tryd.prog 42 #[.int .i64 n, .int .i64 m] w fun e w' => e = .returned (.int .i64 (n % m)) ∧ w = w' := by
  have k1 : n.tmod m < m := Int.tmod_lt_of_pos n (by omega)
  have k2 : -m < n.tmod m := by have := Int.lt_tmod_of_pos n (show 0 < m by omega); omega
  have HS : Hid ((n.tmod m + m) % m = n % m) := by
    show (n.tmod m + m) % m = n % m
    have e := Int.tmod_def n m
    rw [Int.add_emod_right, e, Int.sub_emod, Int.mul_emod_right, Int.sub_zero, Int.emod_emod]
  go_enter Tryd.func42, Tryd.ntmps42
  go_wp2
  go_ret
  exact ⟨ret_int HS.out, rfl⟩
set_option maxHeartbeats 4000000 in
theorem length_any (y m : Int) (w : World) (h1 : 0 ≤ y) (h2 : y ≤ 10000) (h3 : 1 ≤ m) (h4 : m ≤ 12) :
    Calls Tryd.prog 38 #[.int .i64 y, .int .i64 m] w fun e w' => e = .returned (.int .i64 (Cal.md y m)) ∧ Below w.heap.size w w' := by
  by_cases hm : m = 2
  · subst hm
    cases hl : Cal.leap y
    all_goals
      have H : Hid (Cal.lp y = if Cal.leap y then 1 else 0) := rfl
      rw [hl] at H
      go_enter Tryd.func38, Tryd.ntmps38
      go_wp2_with (go_at_call 55; refine (leap_any _ _ (by omega) (by omega)).mono ?_; rintro e w' ⟨rfl, rfl⟩)
      go_ret
      exact ⟨ret_int (by unfold Cal.md; rw [H.out]; rfl), by go_grown⟩
  · have h : m = 1 ∨ m = 3 ∨ m = 4 ∨ m = 5 ∨ m = 6 ∨ m = 7 ∨ m = 8 ∨ m = 9 ∨ m = 10 ∨ m = 11 ∨ m = 12 := by omega
    clear hm h3 h4
    rcases h with h | h | h | h | h | h | h | h | h | h | h <;> subst h
    all_goals
      go_enter Tryd.func38, Tryd.ntmps38
      go_wp2
      go_ret
      exact ⟨ret_int (by simp [Cal.md]), by go_grown⟩
set_option maxHeartbeats 400000 in
theorem rYearDays_any (y : Int) (w : World) (h1 : 0 ≤ y) (h2 : y ≤ 10000) :
    Calls Tryd.prog 40 #[.int .i64 y] w fun e w' => e = .returned (.int .i64 (365 + Cal.lp y)) ∧ w = w' := by
  by_cases a : y % 4 = 0 <;> by_cases b : y % 100 = 0 <;> by_cases c : y % 400 = 0
  all_goals
    try (exfalso; omega)
  all_goals
    have a' : (y % 4 == 0) = decide (y % 4 = 0) := rfl
    have b' : (y % 100 == 0) = decide (y % 100 = 0) := rfl
    have b'' : (y % 100 != 0) = !decide (y % 100 = 0) := rfl
    have c' : (y % 400 == 0) = decide (y % 400 = 0) := rfl
    simp only [a, b, c, decide_true, decide_false, Bool.not_true, Bool.not_false] at a' b' b'' c'
    go_enter Tryd.func40, Tryd.ntmps40
    go_wp2
    go_ret
    exact ⟨ret_int (by unfold Cal.lp Cal.leap; simp [*]), rfl⟩
set_option maxHeartbeats 400000 in
theorem rMonthDays_any (y m : Int) (w : World) (h1 : 0 ≤ y) (h2 : y ≤ 10000) :
    Calls Tryd.prog 41 #[.int .i64 y, .int .i64 m] w fun e w' => e = .returned (.int .i64 (Cal.md y m)) ∧ w = w' := by
  have := Cal.lp_lo y
  have := Cal.lp_hi y
  by_cases a : m = 2
  · subst a
    go_enter Tryd.func41, Tryd.ntmps41
    go_wp2_with (go_at_call 40; refine (rYearDays_any _ _ (by omega) (by omega)).mono ?_; rintro e w' ⟨rfl, rfl⟩)
    go_ret
    exact ⟨ret_int (by simp [Cal.md]; omega), rfl⟩
  · by_cases b : m = 4
    · subst b; go_enter Tryd.func41, Tryd.ntmps41; go_wp2; go_ret; exact ⟨ret_int (by simp [Cal.md]), rfl⟩
    by_cases c : m = 6
    · subst c; go_enter Tryd.func41, Tryd.ntmps41; go_wp2; go_ret; exact ⟨ret_int (by simp [Cal.md]), rfl⟩
    by_cases d : m = 9
    · subst d; go_enter Tryd.func41, Tryd.ntmps41; go_wp2; go_ret; exact ⟨ret_int (by simp [Cal.md]), rfl⟩
    by_cases f : m = 11
    · subst f; go_enter Tryd.func41, Tryd.ntmps41; go_wp2; go_ret; exact ⟨ret_int (by simp [Cal.md]), rfl⟩
    have b' : (m == 4) = false := by simpa using b
    have c' : (m == 6) = false := by simpa using c
    have d' : (m == 9) = false := by simpa using d
    have f' : (m == 11) = false := by simpa using f
    go_enter Tryd.func41, Tryd.ntmps41
    go_wp2
    go_ret
    exact ⟨ret_int (by simp [Cal.md, a, b, c, d, f]), rfl⟩
set_option maxHeartbeats 400000 in
theorem weekday_any (d : Int) (w : World) (h1 : -9223372036854775808 ≤ d) (h2 : d ≤ 9223372036854775807) :
    Calls Tryd.prog 13 #[.int .i64 d] w fun e w' => e = .returned (.int .i64 (Cal.wd d)) ∧ w = w' := by
  cases hk : knownB d
  · have hn := knownB_false hk
    go_enter Tryd.func13, Tryd.ntmps13
    go_wp2_with (go_at_call 36; refine (known_any _ _).mono ?_; rintro e w' ⟨rfl, rfl⟩)
    go_ret
    exact ⟨ret_int (by unfold Cal.wd; rw [if_neg hn]), rfl⟩
  · have hn := knownB_true hk
    obtain ⟨b1, b2⟩ := hn
    go_enter Tryd.func13, Tryd.ntmps13
    go_wp2_with (go_at_call 36; refine (known_any _ _).mono ?_; rintro e w' ⟨rfl, rfl⟩)
    go_ret
    exact ⟨ret_int (by unfold Cal.wd; rw [if_pos ⟨b1, b2⟩]; omega), rfl⟩
set_option maxHeartbeats 400000 in
theorem rWeekday_any (d : Int) (w : World) (h1 : -9223372036854775808 ≤ d) (h2 : d ≤ 9223372036854775807) :
    Calls Tryd.prog 14 #[.int .i64 d] w fun e w' => e = .returned (.int .i64 (Cal.wd d)) ∧ w = w' := by
  cases hk : knownB d
  · have hn := knownB_false hk
    go_enter Tryd.func14, Tryd.ntmps14
    go_wp2_with (go_at_call 39; refine (rKnown_any _ _).mono ?_; rintro e w' ⟨rfl, rfl⟩)
    go_ret
    exact ⟨ret_int (by unfold Cal.wd; rw [if_neg hn]), rfl⟩
  · have hn := knownB_true hk
    obtain ⟨b1, b2⟩ := hn
    go_enter Tryd.func14, Tryd.ntmps14
    go_wp2_with (first | (go_at_call 39; refine (rKnown_any _ _).mono ?_; rintro e w' ⟨rfl, rfl⟩) | (go_at_call 42; refine (modulo_any _ _ _ (by omega) (by omega) (by omega) (by omega)).mono ?_; rintro e w' ⟨rfl, rfl⟩))
    go_ret
    exact ⟨ret_int (by unfold Cal.wd; rw [if_pos ⟨b1, b2⟩]), rfl⟩
end Go.Proofs.YtlfgjpidamkpdaaDoor
