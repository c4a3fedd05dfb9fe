/- The small functions of the calendar and of its reference: each call returns what the plain function gives. -/
import Derived.Test.YtlfgjpidamkpdaaDoorRows
import Derived.Test.YtlfgjpidamkpdaaDoorPlain
import Derived.WalkKit
import Derived.WalkSpells
import Derived.WalkLawsBesides
import Derived.Deep.QuietTactic
import Derived.BigQuiet
import Derived.Handy
import Derived.Lib.Hide
namespace Go.Proofs.YtlfgjpidamkpdaaDoor
open Go.RowKit
theorem ret_int {k : IntKind} {a b : Int} (h : a = b) : Ending.returned (.int k a) = .returned (.int k b) := by rw [h]
theorem ret_bool {a b : Bool} (h : a = b) : Ending.returned (.bool a) = .returned (.bool b) := by rw [h]

theorem _root_.Go.Calls.quiet_of_same' {P : Program} {f : FuncId} {args : Array Value} {w : World} {n : Nat} {v : Value}
    (h : Calls P f args (w.drewN n) fun e w' => e = .returned v ∧ w.drewN n = w') : Calls P f args (w.drewN n) fun e w'' => e = .returned v ∧ ∃ m, w'' = w.drewN m :=
  h.mono fun _ _ ⟨he, hm⟩ => ⟨he, n, hm.symm⟩

def knownB (d : Int) : Bool := decide (-146097 ≤ d) && decide (d ≤ 146096)
theorem knownB_iff {d : Int} : knownB d = true ↔ Cal.known d := by unfold knownB Cal.known; simp
theorem knownB_true {d : Int} (h : knownB d = true) : Cal.known d := knownB_iff.1 h
theorem knownB_false {d : Int} (h : knownB d = false) : ¬ Cal.known d := fun k => by rw [knownB_iff.2 k] at h; cases h
theorem knownB_of {d : Int} (h : Cal.known d) : knownB d = true := knownB_iff.2 h
theorem knownB_not {d : Int} (h : ¬ Cal.known d) : knownB d = false := by
  cases e : knownB d
  · rfl
  · exact absurd (knownB_true e) h

set_option maxHeartbeats 400000 in
theorem known_any (d : Int) (w : World) :
    Calls Tryd.prog 36 #[.int .i64 d] w fun e w' => e = .returned (.bool (knownB d)) ∧ w = w' := by
  by_cases h : -146097 ≤ d
  · go_enter Tryd.func36, Tryd.ntmps36
    go_wp2
    go_ret
    exact ⟨ret_bool (by unfold knownB; rw [Bool.eq_iff_iff]; simp; omega), rfl⟩
  · go_enter Tryd.func36, Tryd.ntmps36
    go_wp2
    go_ret
    exact ⟨ret_bool (by unfold knownB; rw [Bool.eq_iff_iff]; simp; omega), rfl⟩
set_option maxHeartbeats 400000 in
theorem rKnown_any (d : Int) (w : World) :
    Calls Tryd.prog 39 #[.int .i64 d] w fun e w' => e = .returned (.bool (knownB d)) ∧ w = w' := by
  by_cases h : -146097 ≤ d
  · go_enter Tryd.func39, Tryd.ntmps39
    go_wp2
    go_ret
    exact ⟨ret_bool (by unfold knownB; rw [Bool.eq_iff_iff]; simp; omega), rfl⟩
  · go_enter Tryd.func39, Tryd.ntmps39
    go_wp2
    go_ret
    exact ⟨ret_bool (by unfold knownB; rw [Bool.eq_iff_iff]; simp; omega), rfl⟩
set_option maxHeartbeats 400000 in
theorem first1_any (k n : Int) (p : Addr) (w : World) (hc : w.cell? p = some (.int .i64 n)) (h1 : 0 ≤ n) (h2 : n ≤ 10000) (h3 : 1 ≤ k) (h4 : k ≤ 400) :
    Calls Tryd.prog 54 #[.int .i64 k, .pointer (some p)] w fun e w' => e = .returned (.int .i64 ((n + k - 1) / k)) ∧ w = w' := by
  go_enter Tryd.func54, Tryd.ntmps54
  go_wp2
  go_ret
  exact ⟨rfl, rfl⟩
set_option maxHeartbeats 400000 in
theorem first_any (y : Int) (w : World) (h1 : 1600 ≤ y) (h2 : y ≤ 2400) :
    Calls Tryd.prog 37 #[.int .i64 y] w fun e w' => e = .returned (.int .i64 (Cal.fst y)) ∧ Below w.heap.size w w' := by
  go_enter Tryd.func37, Tryd.ntmps37
  go_wp2
  go_quiet ((go_at_call 54; exact Calls.quiet_of_same' (first1_any _ (y - 1600) _ _ (by simp) (by omega) (by omega) (by omega) (by omega))))
  go_wp2
  go_ret
  exact ⟨ret_int (by unfold Cal.fst; omega), ((Below.refl _ _).alloc (Nat.le_refl _) _).trans ⟨rfl, rfl, rfl, Nat.le_refl _, fun _ _ => rfl⟩⟩
set_option maxHeartbeats 400000 in
theorem leap_any (y : Int) (w : World) (h1 : 0 ≤ y) (h2 : y ≤ 10000) :
    Calls Tryd.prog 55 #[.int .i64 y] w fun e w' => e = .returned (.bool (Cal.leap y)) ∧ w = w' := by
  by_cases a : y % 4 = 0 <;> by_cases b : y % 100 = 0 <;> by_cases c : y % 400 = 0
  all_goals
    go_enter Tryd.func55, Tryd.ntmps55
    go_wp2
    go_ret
    exact ⟨ret_bool (by unfold Cal.leap; simp [*]), rfl⟩
end Go.Proofs.YtlfgjpidamkpdaaDoor
