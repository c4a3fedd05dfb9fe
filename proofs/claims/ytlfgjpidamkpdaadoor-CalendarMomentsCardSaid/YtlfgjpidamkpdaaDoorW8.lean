/- The reference's Text, number and Parse. -/
import Derived.Test.YtlfgjpidamkpdaaDoorW7
import Derived.Test.YtlfgjpidamkpdaaDoorPlain3
namespace Go.Proofs.YtlfgjpidamkpdaaDoor
open Go.RowKit
open Cal (isDig decV numV)
theorem digits_int (n m : Int) (w : World) (h0 : 0 ≤ n) (h1 : n ≤ 9999) (h2 : 0 ≤ m) (h3 : m ≤ 100) :
    Calls Tryd.prog 45 #[.int .i64 n, .int .i64 m] w fun e w' => e = .returned (.string ⟨(Cal.digs n.toNat m.toNat).toArray⟩) ∧ Below w.heap.size w w' := by
  obtain ⟨N, rfl⟩ := Int.eq_ofNat_of_zero_le h0
  obtain ⟨M, rfl⟩ := Int.eq_ofNat_of_zero_le h2
  exact digits_any N M w (by omega) (by omega)
set_option maxHeartbeats 1000000 in
theorem rText_any (day : Int) (w : World) :
    Calls Tryd.prog 16 #[.int .i64 day] w fun e w' => e = .returned (.string ⟨(Cal.txt day).toArray⟩) ∧ Below w.heap.size w w' := by
  cases hk : knownB day
  · have hn := knownB_false hk
    go_enter Tryd.func16, Tryd.ntmps16
    go_wp2_with (go_at_call 39; refine (rKnown_any _ _).mono ?_; rintro e w' ⟨rfl, rfl⟩)
    go_ret
    exact ⟨ret_str (by apply str_eq; unfold Cal.txt; rw [if_neg hn]), by go_grown⟩
  · have hn := knownB_true hk
    obtain ⟨c1, c2, c3, c4, c5, c6⟩ := Cal.civil_range hn
    have HN := Lib.hid hn
    clear hn
    have hb := Below.refl w.heap.size w
    go_enter Tryd.func16, Tryd.ntmps16
    go_wp2_with (first
      | (go_at_call 39; refine (rKnown_any _ _).mono ?_; rintro e w' ⟨rfl, rfl⟩)
      | (go_at_call 12; refine (rCivil_any _ _).mono ?_; rintro e w1 ⟨rfl, rfl⟩)
      | (go_at_call 45; refine (digits_int _ _ _ (by omega) (by omega) (by omega) (by omega)).mono ?_; rintro e w1 ⟨rfl, hb1⟩; have hb := hb.trans (hb1.mono hb.size); clear hb1))
    go_ret
    exact ⟨ret_str (by apply str_eq; unfold Cal.txt; rw [if_pos HN.out]; simp), hb⟩
theorem take_snoc (s : ByteArray) (k : Nat) (h : k < s.size) : s.data.toList.take (k + 1) = s.data.toList.take k ++ [s[k]] := by
  rw [List.take_succ_eq_append_getElem (by simpa using h)]; rfl
theorem num_bad (s : ByteArray) (k : Nat) (h : k < s.size) (hc : ¬ (48 ≤ (s[k].toNat : Int) ∧ (s[k].toNat : Int) ≤ 57)) : numV s.data.toList = -1 := by
  unfold Cal.numV
  rw [if_neg]
  intro ha
  have hm : s[k] ∈ s.data.toList := Array.mem_toList_iff.2 (Array.getElem_mem _)
  have := List.all_eq_true.1 ha _ hm
  simp only [isDig, Bool.and_eq_true, decide_eq_true_eq] at this
  exact hc ⟨by omega, by omega⟩
set_option maxHeartbeats 1000000 in
theorem number_any (s : ByteArray) (w : World) (hs : s.size ≤ 10) :
    Calls Tryd.prog 47 #[.string s] w fun e w' => e = .returned (.int .i64 (numV s.data.toList)) ∧ w = w' := by
  go_enter Tryd.func47, Tryd.ntmps47
  go_wp2_with fail
  go_loop [3, 4] (fun n i => ∃ k : Nat, k ≤ s.size ∧ i = .int .i64 k ∧ n = .int .i64 ((decV (s.data.toList.take k) : Nat) : Int) ∧ (s.data.toList.take k).all isDig = true) (fun _ i => s.size - (intOf i).toNat)
  case atStart => exact ⟨0, by omega, rfl, rfl, rfl⟩
  case round =>
    obtain ⟨k, hk, rfl, rfl, hall⟩ := hrel
    have hlt10 := Cal.decV_lt _ hall
    have hl : (s.data.toList.take k).length = k := by rw [List.length_take]; have := size_list s; omega
    rw [hl] at hlt10
    have hp : 10 ^ k ≤ 10 ^ 10 := Nat.pow_le_pow_right (by decide) (by omega)
    obtain ⟨q, hq⟩ : ∃ q, q = decV (s.data.toList.take k) := ⟨_, rfl⟩
    have hqb : (q : Int) ≤ 10000000000 := by rw [hq]; omega
    simp only [← hq]
    have HQ := Lib.hid hq
    have HA := Lib.hid hall
    clear hq hall hlt10 hp hl
    by_cases hlt : k < s.size
    · have HT := Lib.hid (take_snoc s k hlt)
      by_cases hd : 48 ≤ (s[k].toNat : Int)
      · by_cases hd2 : (s[k].toNat : Int) ≤ 57
        · go_wp2_with fail
          go_round
          case rel =>
            refine ⟨k + 1, by omega, by go_num, ?_, ?_⟩
            · rw [HT.out, Cal.decV_snoc, ← HQ.out]; congr 1; omega
            · rw [HT.out, List.all_append, HA.out]; simp [isDig]; omega
          case measure => simp [intOf]; omega
        · have hbad : numV s.data.toList = -1 := num_bad s k hlt (by omega)
          have HB := Lib.hid hbad
          clear hbad
          go_wp2_with fail
          go_ret
          exact ⟨ret_int HB.out.symm, rfl⟩
      · have hbad : numV s.data.toList = -1 := num_bad s k hlt (by omega)
        have HB := Lib.hid hbad
        clear hbad
        go_wp2_with fail
        go_ret
        exact ⟨ret_int HB.out.symm, rfl⟩
    · go_wp2_with fail
      go_ret
      refine ⟨ret_int ?_, rfl⟩
      have ht : s.data.toList.take k = s.data.toList := List.take_of_length_le (by have := size_list s; omega)
      have h1 := HA.out; have h2 := HQ.out
      rw [ht] at h1 h2
      unfold Cal.numV
      rw [if_pos h1, h2]
end Go.Proofs.YtlfgjpidamkpdaaDoor
