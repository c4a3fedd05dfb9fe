/- The makers of inputs: Around, Short, Some. -/
import Derived.Test.YtlfgjpidamkpdaaDoorW9
namespace Go.Proofs.YtlfgjpidamkpdaaDoor
open Go.RowKit
def around (n m : Int) : Int := if m < 1 then 0 else (if n < 0 then -(n + 1) else n) % m
theorem around_bd (n m : Int) (h : 1 ≤ m) : 0 ≤ around n m ∧ around n m < m := by
  unfold around
  rw [if_neg (by omega)]
  exact ⟨Int.emod_nonneg _ (by omega), Int.emod_lt_of_pos _ (by omega)⟩
def inI (n : Int) : Prop := -9223372036854775808 ≤ n ∧ n ≤ 9223372036854775807
theorem around_lo {n m : Int} (h : m < 1) : around n m = 0 := by unfold around; rw [if_pos h]
theorem around_neg {n m : Int} (h0 : n < 0) (hm : ¬ m < 1) : around n m = -((n + 1).tmod m) := by
  unfold around
  rw [if_neg hm, if_pos h0, ← Int.neg_tmod, Int.tmod_eq_emod_of_nonneg (by omega)]
theorem around_pos {n m : Int} (h0 : ¬ n < 0) (hm : ¬ m < 1) : around n m = n % m := by
  unfold around
  rw [if_neg hm, if_neg h0]
set_option maxHeartbeats 400000 in
theorem around_any (n m : Int) (w : World) (h1 : -9223372036854775808 ≤ n) (h2 : n ≤ 9223372036854775807) :
    Calls Tryd.prog 17 #[.int .i64 n, .int .i64 m] w fun e w' => e = .returned (.int .i64 (around n m)) ∧ w = w' := by
  by_cases h0 : n < 0
  · by_cases hm : m < 1
    · go_enter Tryd.func17, Tryd.ntmps17
      go_wp2
      go_ret
      exact ⟨ret_int (around_lo (by omega)).symm, rfl⟩
    · go_enter Tryd.func17, Tryd.ntmps17
      go_wp2
      go_ret
      exact ⟨ret_int (around_neg (by omega) (by omega)).symm, rfl⟩
  · by_cases hm : m < 1
    · go_enter Tryd.func17, Tryd.ntmps17
      go_wp2
      go_ret
      exact ⟨ret_int (around_lo (by omega)).symm, rfl⟩
    · go_enter Tryd.func17, Tryd.ntmps17
      go_wp2
      go_ret
      exact ⟨ret_int (around_pos (by omega) (by omega)).symm, rfl⟩
theorem tdiv_in (n k : Int) (h1 : -9223372036854775808 ≤ n) (h2 : n ≤ 9223372036854775807) (hk : 1 ≤ k) : -9223372036854775808 ≤ n.tdiv k ∧ n.tdiv k ≤ 9223372036854775807 := by
  by_cases h0 : 0 ≤ n
  · rw [Int.tdiv_eq_ediv_of_nonneg h0]
    have := Int.ediv_le_self k h0
    have := Int.ediv_nonneg h0 (show 0 ≤ k by omega)
    omega
  · have e : n.tdiv k = -((-n) / k) := by rw [← Int.tdiv_eq_ediv_of_nonneg (by omega), Int.neg_tdiv, Int.neg_neg]
    rw [e]
    have := Int.ediv_le_self k (show 0 ≤ -n by omega)
    have := Int.ediv_nonneg (show 0 ≤ -n by omega) (show 0 ≤ k by omega)
    omega
/-- The days that the generator picks by a number. -/
def six (i : Int) : Int := if i = 0 then -146097 else if i = 1 then 146096 else if i = 2 then 0 else if i = 3 then -1 else if i = 4 then -146096 else 146095
def som (n : Int) : Int :=
  if around n 6 = 0 then Cal.num (1600 + around (n.tdiv 6) 800) 3 1 - 1 + around (n.tdiv 4800) 2
  else if around n 6 = 1 then Cal.num (1601 + around (n.tdiv 6) 799) 1 1 - 1 + around (n.tdiv 4800) 2
  else if around n 6 = 2 then six (around (n.tdiv 6) 6)
  else around n 292194 - 146097
theorem som_known (n : Int) : Cal.known (som n) := by
  unfold som
  split
  · have a := around_bd (n.tdiv 6) 800 (by omega)
    have b := around_bd (n.tdiv 4800) 2 (by omega)
    have l := Cal.lp_lo (1600 + around (n.tdiv 6) 800)
    have hv : Cal.valid (1600 + around (n.tdiv 6) 800) 3 1 := ⟨by omega, by omega, by omega, by omega, by omega, by have := (Cal.md_bd (1600 + around (n.tdiv 6) 800) 3).1; omega⟩
    have hk := Cal.num_known hv
    have f := (Cal.fst_bd (1600 + around (n.tdiv 6) 800) (by omega) (by omega)).1
    have e : Cal.num (1600 + around (n.tdiv 6) 800) 3 1 = Cal.fst (1600 + around (n.tdiv 6) 800) + (Cal.lp (1600 + around (n.tdiv 6) 800) + 59) := by simp [Cal.num, Cal.cum]
    obtain ⟨k1, k2⟩ := hk
    exact ⟨by omega, by omega⟩
  · split
    · have a := around_bd (n.tdiv 6) 799 (by omega)
      have b := around_bd (n.tdiv 4800) 2 (by omega)
      have hv : Cal.valid (1601 + around (n.tdiv 6) 799) 1 1 := ⟨by omega, by omega, by omega, by omega, by omega, by have := (Cal.md_bd (1601 + around (n.tdiv 6) 799) 1).1; omega⟩
      have hk := Cal.num_known hv
      have f := Cal.fst_mono 1601 (1601 + around (n.tdiv 6) 799) (by omega)
      have g : Cal.fst 1601 = -145731 := by decide
      have e : Cal.num (1601 + around (n.tdiv 6) 799) 1 1 = Cal.fst (1601 + around (n.tdiv 6) 799) := by simp [Cal.num, Cal.cum]
      obtain ⟨k1, k2⟩ := hk
      exact ⟨by omega, by omega⟩
    · split
      · unfold six
        repeat' split
        all_goals decide
      · have a := around_bd n 292194 (by omega)
        exact ⟨by omega, by omega⟩
theorem six_at (k : Int) (h0 : 0 ≤ k) (h1 : k < 6) (hp : k.toNat < 6) : [Value.int IntKind.i64 (-146097), Value.int IntKind.i64 146096, Value.int IntKind.i64 0, Value.int IntKind.i64 (-1), Value.int IntKind.i64 (-146096), Value.int IntKind.i64 146095][k.toNat]'hp = .int .i64 (six k) := by
  have h : k = 0 ∨ k = 1 ∨ k = 2 ∨ k = 3 ∨ k = 4 ∨ k = 5 := by omega
  rcases h with h | h | h | h | h | h <;> subst h <;> rfl
set_option maxHeartbeats 1000000 in
theorem some_any (n : Int) (w : World) (h1 : -9223372036854775808 ≤ n) (h2 : n ≤ 9223372036854775807) :
    Calls Tryd.prog 10 #[.int .i64 n] w fun e w' => e = .returned (.int .i64 (som n)) ∧ Below w.heap.size w w' := by
  have t6 := tdiv_in n 6 h1 h2 (by omega)
  have t48 := tdiv_in n 4800 h1 h2 (by omega)
  have b6 := around_bd n 6 (by omega)
  have a8 := around_bd (n.tdiv 6) 800 (by omega)
  have a7 := around_bd (n.tdiv 6) 799 (by omega)
  have a6 := around_bd (n.tdiv 6) 6 (by omega)
  have a2 := around_bd (n.tdiv 4800) 2 (by omega)
  have a9 := around_bd n 292194 (by omega)
  by_cases c0 : around n 6 = 0
  · have hv : Cal.valid (1600 + around (n.tdiv 6) 800) 3 1 := ⟨by omega, by omega, by omega, by omega, by omega, by have := (Cal.md_bd (1600 + around (n.tdiv 6) 800) 3).1; omega⟩
    have HV := Lib.hid (dayV_ok hv)
    obtain ⟨k1, k2⟩ := Cal.num_known hv
    have HC := Lib.hid c0
    have c0' : (around n 6 == 0) = true := by simpa using c0
    clear c0 hv
    go_enter Tryd.func10, Tryd.ntmps10
    go_wp2_with (first
      | (go_at_call 17; refine (around_any _ _ _ (by omega) (by omega)).mono ?_; rintro e w' ⟨rfl, rfl⟩)
      | (go_at_call 19; refine (rDay_any _ _ _ _).mono ?_; rintro e w' ⟨rfl, rfl⟩; rw [HV.out]))
    go_ret
    exact ⟨ret_int (by unfold som; rw [if_pos HC.out]), by go_grown⟩
  have c0' : (around n 6 == 0) = false := by simpa using c0
  by_cases c1 : around n 6 = 1
  · have hv : Cal.valid (1601 + around (n.tdiv 6) 799) 1 1 := ⟨by omega, by omega, by omega, by omega, by omega, by have := (Cal.md_bd (1601 + around (n.tdiv 6) 799) 1).1; omega⟩
    have HV := Lib.hid (dayV_ok hv)
    obtain ⟨k1, k2⟩ := Cal.num_known hv
    have HC := Lib.hid c0
    have HC1 := Lib.hid c1
    have c1' : (around n 6 == 1) = true := by simpa using c1
    clear c0 c1 hv
    go_enter Tryd.func10, Tryd.ntmps10
    go_wp2_with (first
      | (go_at_call 17; refine (around_any _ _ _ (by omega) (by omega)).mono ?_; rintro e w' ⟨rfl, rfl⟩)
      | (go_at_call 19; refine (rDay_any _ _ _ _).mono ?_; rintro e w' ⟨rfl, rfl⟩; rw [HV.out]))
    go_ret
    exact ⟨ret_int (by unfold som; rw [if_neg HC.out, if_pos HC1.out]), by go_grown⟩
  have c1' : (around n 6 == 1) = false := by simpa using c1
  by_cases c2 : around n 6 = 2
  · have HC := Lib.hid c0
    have HC1 := Lib.hid c1
    have HC2 := Lib.hid c2
    have c2' : (around n 6 == 2) = true := by simpa using c2
    clear c0 c1 c2
    go_enter Tryd.func10, Tryd.ntmps10
    go_wp2_with (first
      | (go_at_call 17; refine (around_any _ _ _ (by omega) (by omega)).mono ?_; rintro e w' ⟨rfl, rfl⟩)
      | (go_at_call 19; refine (rDay_any _ _ _ _).mono ?_; rintro e w' ⟨rfl, rfl⟩; rw [HV.out]))
    go_ret
    exact ⟨(congrArg Ending.returned (six_at (around (n.tdiv 6) 6) (by omega) (by omega) _)).trans (ret_int (by unfold som; rw [if_neg HC.out, if_neg HC1.out, if_pos HC2.out])), by go_grown⟩
  have c2' : (around n 6 == 2) = false := by simpa using c2
  have HS : Hid (som n = around n 292194 - 146097) := by unfold Hid som; rw [if_neg c0, if_neg c1, if_neg c2]
  clear c0 c1 c2
  go_enter Tryd.func10, Tryd.ntmps10
  go_wp2_with (go_at_call 17; refine (around_any _ _ _ (by omega) (by omega)).mono ?_; rintro e w' ⟨rfl, rfl⟩)
  go_ret
  exact ⟨ret_int HS.out.symm, by go_grown⟩
end Go.Proofs.YtlfgjpidamkpdaaDoor
