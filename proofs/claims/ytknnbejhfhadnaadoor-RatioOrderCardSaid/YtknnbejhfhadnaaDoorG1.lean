/- The makers of inputs: Around, At, Short, Some. -/
import Derived.Test.YtknnbejhfhadnaaDoorW25
namespace Go.Proofs.YtknnbejhfhadnaaDoor
open Go.RowKit Go.Sort
set_option maxHeartbeats 400000 in
theorem around_any (n m : Int) (w : World) (h1 : -9223372036854775808 ≤ n) (h2 : n ≤ 9223372036854775807) :
    Calls Tryd.prog 18 #[.int .i64 n, .int .i64 m] w fun e w' => e = .returned (.int .i64 (around n m)) ∧ w = w' := by
  by_cases h0 : n < 0
  · by_cases hm : m < 1
    · go_enter Tryd.func18, Tryd.ntmps18
      go_wp2
      go_ret
      exact ⟨ret_int (around_lo (by omega)).symm, rfl⟩
    · go_enter Tryd.func18, Tryd.ntmps18
      go_wp2
      go_ret
      exact ⟨ret_int (around_neg (by omega) (by omega)).symm, rfl⟩
  · by_cases hm : m < 1
    · go_enter Tryd.func18, Tryd.ntmps18
      go_wp2
      go_ret
      exact ⟨ret_int (around_lo (by omega)).symm, rfl⟩
    · go_enter Tryd.func18, Tryd.ntmps18
      go_wp2
      go_ret
      exact ⟨ret_int (around_pos (by omega) (by omega)).symm, rfl⟩
set_option maxHeartbeats 1000000 in
theorem at_any (A : Option Addr) (n c B : Nat) (L : List Int) (i : Nat) (m : Int) (w : World) (hi : Ints w B A n L) (hL : AllI L) (hn : n ≤ 9223372036854775807) (hib : i ≤ 10000) :
    Calls Tryd.prog 17 #[.slice A n c, .int .i64 i, .int .i64 m] w fun e w' => e = .returned (.int .i64 (atL L i m)) ∧ w = w' := by
  have hl := hi.len
  by_cases hlt : i < n
  · obtain ⟨b1, o1, rfl, _, c1⟩ := hi.form (by omega)
    have d1 := c1 i (by omega)
    obtain ⟨q1, q2⟩ := hL.get (k := i) (by omega)
    have HV : Hid (atL L i m = around (L.getD i 0) m) := by unfold Hid atL; rw [if_pos ⟨by omega, by omega⟩]; simp
    generalize L.getD i 0 = x at d1 q1 q2 HV
    clear c1 hi hL
    go_enter Tryd.func17, Tryd.ntmps17
    go_wp2_with (go_at_call 18; refine (around_any _ _ _ (by omega) (by omega)).mono ?_; rintro e w' ⟨rfl, rfl⟩)
    go_ret
    exact ⟨ret_int HV.out.symm, rfl⟩
  · have HV : Hid (atL L i m = 0) := by unfold Hid atL; rw [if_neg (by omega)]
    clear hi hL
    go_enter Tryd.func17, Tryd.ntmps17
    go_wp2_with fail
    go_ret
    exact ⟨ret_int HV.out.symm, rfl⟩
def shortB (s : ByteArray) : ByteArray := if 30 < s.size then s.extract 0 30 else s
set_option maxHeartbeats 1000000 in
theorem short_any (s : ByteArray) (w : World) (hs : s.size ≤ 9223372036854775807) :
    Calls Tryd.prog 19 #[.string s, .int .i64 30] w fun e w' => e = .returned (.string (shortB s)) ∧ w = w' := by
  by_cases h : 30 < s.size
  · have HV : Hid (shortB s = s.extract 0 30) := by unfold Hid shortB; rw [if_pos h]
    go_enter Tryd.func19, Tryd.ntmps19
    go_wp2_with fail
    go_ret
    exact ⟨ret_str HV.out.symm, rfl⟩
  · have HV : Hid (shortB s = s) := by unfold Hid shortB; rw [if_neg h]
    go_enter Tryd.func19, Tryd.ntmps19
    go_wp2_with fail
    go_ret
    exact ⟨ret_str HV.out.symm, rfl⟩
end Go.Proofs.YtknnbejhfhadnaaDoor
