/- The reference's number. -/
import Derived.Test.YtknnbejhfhadnaaDoorW16
namespace Go.Proofs.YtknnbejhfhadnaaDoor
open Go.RowKit Go.Sort
namespace Rt
def decV (l : List UInt8) : Nat := l.foldl (fun a c => 10 * a + (c.toNat - 48)) 0
theorem decV_snoc (l : List UInt8) (c : UInt8) : decV (l ++ [c]) = 10 * decV l + (c.toNat - 48) := by unfold decV; rw [List.foldl_append]; rfl
theorem foldl_lt : ∀ (l : List UInt8) (a : Nat), l.all isDig = true → l.foldl (fun a c => 10 * a + (c.toNat - 48)) a < (a + 1) * 10 ^ l.length
  | [], a, _ => by simp
  | c :: l, a, h => by
    rw [List.all_cons, Bool.and_eq_true] at h
    have hc := h.1
    simp only [isDig, Bool.and_eq_true, decide_eq_true_eq] at hc
    have ih := foldl_lt l (10 * a + (c.toNat - 48)) h.2
    rw [List.foldl_cons, List.length_cons, Nat.pow_succ]
    refine Nat.lt_of_lt_of_le ih ?_
    have : (10 * a + (c.toNat - 48) + 1) ≤ (a + 1) * 10 := by omega
    calc (10 * a + (c.toNat - 48) + 1) * 10 ^ l.length ≤ ((a + 1) * 10) * 10 ^ l.length := Nat.mul_le_mul_right _ this
      _ = (a + 1) * (10 ^ l.length * 10) := by rw [Nat.mul_assoc, Nat.mul_comm 10]
theorem decV_lt (l : List UInt8) (h : l.all isDig = true) : decV l < 10 ^ l.length := by
  have := foldl_lt l 0 h
  simpa [decV] using this
/-- What number gives of a text. -/
def numOk (l : List UInt8) : Bool := l.all isDig && decide (l.length ≤ 10)
def numV (l : List UInt8) : Int := if numOk l then (decV l : Int) else 0
def numB (l : List UInt8) : Bool := numOk l && !l.isEmpty
end Rt
theorem take_snoc (s : ByteArray) (k : Nat) (h : k < s.size) : s.data.toList.take (k + 1) = s.data.toList.take k ++ [s[k]] := by
  rw [List.take_succ_eq_append_getElem (by simpa using h)]; rfl
theorem num_bad (s : ByteArray) (k : Nat) (h : k < s.size) (hc : ¬ (48 ≤ (s[k].toNat : Int) ∧ (s[k].toNat : Int) ≤ 57) ∨ 9 < k) : Rt.numOk s.data.toList = false := by
  unfold Rt.numOk
  rcases hc with hc | hc
  · rw [Bool.and_eq_false_iff]
    left
    cases ha : s.data.toList.all Rt.isDig with
    | false => rfl
    | true =>
      have hm : s[k] ∈ s.data.toList := Array.mem_toList_iff.2 (Array.getElem_mem _)
      have := List.all_eq_true.1 ha _ hm
      simp only [Rt.isDig, Bool.and_eq_true, decide_eq_true_eq] at this
      exact absurd ⟨by omega, by omega⟩ hc
  · have e : s.data.toList.length = s.size := Array.length_toList
    rw [Bool.and_eq_false_iff]
    exact .inr (decide_eq_false (by omega))
def NumIs (l : List UInt8) (e : Ending) : Prop := e = .returned (.tuple #[.int .i64 (Rt.numV l), .bool (Rt.numB l)])
theorem numIs_bad {l : List UInt8} (h : Rt.numOk l = false) : NumIs l (.returned (.tuple #[.int .i64 0, .bool false])) := by
  unfold NumIs Rt.numV Rt.numB; rw [h]; rfl
theorem numIs_good {s : ByteArray} {q k : Nat} (hq : q = Rt.decV (s.data.toList.take k)) (ha : (s.data.toList.take k).all Rt.isDig = true) (hk : s.size = k) (h10 : k ≤ 10) : NumIs s.data.toList (.returned (.tuple #[.int .i64 (q : Int), .bool (decide (0 < k))])) := by
  subst hk
  have e : s.data.toList.length = s.size := Array.length_toList
  rw [List.take_of_length_le (by omega)] at hq ha
  have hok : Rt.numOk s.data.toList = true := by
    unfold Rt.numOk
    rw [ha, Bool.true_and]
    exact decide_eq_true (by omega)
  have h0 : decide (0 < s.size) = !s.data.toList.isEmpty := by
    cases hl : s.data.toList with
    | nil => rw [hl] at e; simp at e; simp [← e]
    | cons c l => rw [hl] at e; simp at e; simp; omega
  unfold NumIs Rt.numV Rt.numB
  rw [if_pos hok, hok, hq, h0]; rfl
set_option maxHeartbeats 1000000 in
theorem number_any (s : ByteArray) (w : World) (hs : s.size ≤ 9223372036854775807) :
    Calls Tryd.prog 38 #[.string s] w fun e w' => NumIs s.data.toList e ∧ w = w' := by
  go_enter Tryd.func38, Tryd.ntmps38
  go_wp2_with fail
  go_loop [4, 5] (fun n i => ∃ k : Nat, k ≤ s.size ∧ k ≤ 10 ∧ i = .int .i64 k ∧ n = .int .i64 ((Rt.decV (s.data.toList.take k) : Nat) : Int) ∧ (s.data.toList.take k).all Rt.isDig = true) (fun _ i => s.size - (intOf i).toNat)
  case atStart => exact ⟨0, by omega, by omega, rfl, rfl, rfl⟩
  case round =>
    obtain ⟨k, hk, hk10, rfl, rfl, hall⟩ := hrel
    have hlt10 := Rt.decV_lt _ hall
    have hl : (s.data.toList.take k).length = k := by rw [List.length_take, Array.length_toList]; exact Nat.min_eq_left hk
    rw [hl] at hlt10
    have hp : 10 ^ k ≤ 10 ^ 10 := Nat.pow_le_pow_right (by decide) (by omega)
    obtain ⟨q, hq⟩ : ∃ q, q = Rt.decV (s.data.toList.take k) := ⟨_, rfl⟩
    have hqb : (q : Int) ≤ 10000000000 := by rw [hq]; omega
    simp only [← hq]
    have HQ := Lib.hid hq
    have HA := Lib.hid hall
    clear hq hall hlt10 hp hl
    by_cases hlt : k < s.size
    · have HT := Lib.hid (take_snoc s k hlt)
      by_cases hd : 48 ≤ (s[k].toNat : Int)
      · by_cases hd2 : (s[k].toNat : Int) ≤ 57
        · by_cases h9 : (k : Int) ≤ 9
          · go_wp2_with fail
            go_round
            case rel =>
              refine ⟨k + 1, by omega, by omega, by go_num, ?_, ?_⟩
              · rw [HT.out, Rt.decV_snoc, ← HQ.out]; congr 1; omega
              · rw [HT.out, List.all_append, HA.out]; simp [Rt.isDig]; omega
            case measure => simp [intOf]; omega
          · have HB := Lib.hid (num_bad s k hlt (.inr (by omega)))
            go_wp2_with fail
            go_returns
            exact ⟨numIs_bad HB.out, rfl⟩
        · have HB := Lib.hid (num_bad s k hlt (.inl (by omega)))
          go_wp2_with fail
          go_returns
          exact ⟨numIs_bad HB.out, rfl⟩
      · have HB := Lib.hid (num_bad s k hlt (.inl (by omega)))
        go_wp2_with fail
        go_returns
        exact ⟨numIs_bad HB.out, rfl⟩
    · have hks' : s.size = k := by omega
      go_wp2_with fail
      go_returns
      exact ⟨numIs_good HQ.out HA.out hks' hk10, rfl⟩
end Go.Proofs.YtknnbejhfhadnaaDoor
