/- Work of both, for all days and numbers. -/
import Derived.Test.YtlfgjpidamkpdaaDoorW18
namespace Go.Proofs.YtlfgjpidamkpdaaDoor
open Go.RowKit
set_option maxHeartbeats 8000000 in
theorem rWork_loop (A : Option Addr) (n c B : Nat) (L : List Int) (day num : Int) (st : Int) (N0 : Nat) (w : World) (hi : Ints w B A n L) (hn : n ≤ 400)
    (hs : (0 ≤ num ∧ st = 1 ∧ num = N0) ∨ (num < 0 ∧ st = -1 ∧ num = -N0)) (hb1 : -1000 ≤ num) (hb2 : num ≤ 1000) (R : Int × Int) (hR : Hid (WkIs L st day N0 R)) :
    Calls Tryd.prog 33 #[.int .i64 day, .int .i64 num, .slice A n c] w fun e w' => e = .returned (.tuple #[.int .i64 R.1, .int .i64 R.2]) ∧ w = w' := by
  rcases hs with ⟨hs1, rfl, rfl⟩ | ⟨hs1, rfl, rfl⟩
  · have hst := trivial
    cases hk0 : knownB day
    · have HR := Lib.hid (WkIs.out hR.out hk0)
      clear hR
      go_enter Tryd.func33, Tryd.ntmps33
      go_wp2_with (first
        | (go_at_call 39; refine (rKnown_any _ _).mono ?_; rintro e w' ⟨rfl, rfl⟩)
        | (go_at_call 35; refine (working_any _ _ _ _ _ _ _ hi (by omega) (by omega) (by omega)).mono ?_; rintro e w' ⟨rfl, rfl⟩))
      go_ret2
      exact ⟨ret_work HR.out, rfl⟩
    · obtain ⟨k3, k4⟩ := knownB_true hk0
      go_enter Tryd.func33, Tryd.ntmps33
      go_wp2_with (first
        | (go_at_call 39; refine (rKnown_any _ _).mono ?_; rintro e w' ⟨rfl, rfl⟩)
        | (go_at_call 35; refine (working_any _ _ _ _ _ _ _ hi (by omega) (by omega) (by omega)).mono ?_; rintro e w' ⟨rfl, rfl⟩))
      go_loop [0, 1] (fun dv nv => ∃ (d : Int) (N : Nat), dv = .int .i64 d ∧ nv = .int .i64 ((N : Int)) ∧ N ≤ 1000 ∧ -146097 ≤ d ∧ d ≤ 146096 ∧ WkIs L 1 d N R) (fun dv _ => (146098 - intOf dv).toNat)
      case atStart => exact ⟨day, N0, rfl, by first | rfl | simp, by omega, k3, k4, hR.out⟩
      case round =>
        obtain ⟨d, N, rfl, rfl, hN, hd1, hd2, hW⟩ := hrel
        have hk := knownB_of (d := d) ⟨hd1, hd2⟩
        by_cases hN0 : N = 0
        · subst hN0
          have HR := Lib.hid (hW.at_zero hk)
          clear hW hR
          go_wp2_with (first
            | (go_at_call 39; refine (rKnown_any _ _).mono ?_; rintro e w' ⟨rfl, rfl⟩)
            | (go_at_call 35; refine (working_any _ _ _ _ _ _ _ hi (by omega) (by omega) (by omega)).mono ?_; rintro e w' ⟨rfl, rfl⟩))
          go_ret2
          exact ⟨ret_work HR.out, rfl⟩
        · have hNp : 0 < N := by omega
          have hN0' : (((N : Int) : Int) == 0) = false := by simp; omega
          have hN0'' : (((N : Int) : Int) != 0) = true := by simp; omega
          have hnx := hW.next (.inl rfl) hk hNp
          have HW := Lib.hid hW
          clear hW hR
          rcases hnx with ⟨hk2, hnx⟩ | ⟨hk2, hnx⟩
          · obtain ⟨q1, q2⟩ := knownB_true hk2
            cases hwb : workB L (d + 1)
            · rw [if_neg (by rw [hwb]; simp)] at hnx
              have HN := Lib.hid hnx
              clear hnx
              go_wp2_with (first
                | (go_at_call 39; refine (rKnown_any _ _).mono ?_; rintro e w' ⟨rfl, rfl⟩)
                | (go_at_call 35; refine (working_any _ _ _ _ _ _ _ hi (by omega) (by omega) (by omega)).mono ?_; rintro e w' ⟨rfl, rfl⟩))
              go_round
              case rel => exact ⟨d + 1, N, rfl, by first | rfl | simp, by omega, by omega, by omega, HN.out⟩
              case measure => simp [intOf]; omega
            · rw [if_pos hwb] at hnx
              have HN := Lib.hid hnx
              clear hnx
              go_wp2_with (first
                | (go_at_call 39; refine (rKnown_any _ _).mono ?_; rintro e w' ⟨rfl, rfl⟩)
                | (go_at_call 35; refine (working_any _ _ _ _ _ _ _ hi (by omega) (by omega) (by omega)).mono ?_; rintro e w' ⟨rfl, rfl⟩))
              go_round
              case rel => exact ⟨d + 1, N - 1, rfl, by congr 1; omega, by omega, by omega, by omega, HN.out⟩
              case measure => simp [intOf]; omega
          · have HN := Lib.hid (WkIs.out (hnx 0) hk2)
            clear hnx
            go_wp2_with (first
              | (go_at_call 39; refine (rKnown_any _ _).mono ?_; rintro e w' ⟨rfl, rfl⟩)
              | (go_at_call 35; refine (working_any _ _ _ _ _ _ _ hi (by omega) (by omega) (by omega)).mono ?_; rintro e w' ⟨rfl, rfl⟩))
            go_ret2
            exact ⟨ret_work HN.out, rfl⟩
  · have hp : 0 < N0 := by omega
    cases hk0 : knownB day
    · have HR := Lib.hid (WkIs.out hR.out hk0)
      clear hR
      go_enter Tryd.func33, Tryd.ntmps33
      go_wp2_with (first
        | (go_at_call 39; refine (rKnown_any _ _).mono ?_; rintro e w' ⟨rfl, rfl⟩)
        | (go_at_call 35; refine (working_any _ _ _ _ _ _ _ hi (by omega) (by omega) (by omega)).mono ?_; rintro e w' ⟨rfl, rfl⟩))
      go_ret2
      exact ⟨ret_work HR.out, rfl⟩
    · obtain ⟨k3, k4⟩ := knownB_true hk0
      go_enter Tryd.func33, Tryd.ntmps33
      go_wp2_with (first
        | (go_at_call 39; refine (rKnown_any _ _).mono ?_; rintro e w' ⟨rfl, rfl⟩)
        | (go_at_call 35; refine (working_any _ _ _ _ _ _ _ hi (by omega) (by omega) (by omega)).mono ?_; rintro e w' ⟨rfl, rfl⟩))
      go_loop [0, 1] (fun dv nv => ∃ (d : Int) (N : Nat), dv = .int .i64 d ∧ nv = .int .i64 (-(N : Int)) ∧ N ≤ 1000 ∧ -146097 ≤ d ∧ d ≤ 146096 ∧ WkIs L (-1) d N R) (fun dv _ => (intOf dv + 146099).toNat)
      case atStart => exact ⟨day, N0, rfl, by first | rfl | simp, by omega, k3, k4, hR.out⟩
      case round =>
        obtain ⟨d, N, rfl, rfl, hN, hd1, hd2, hW⟩ := hrel
        have hk := knownB_of (d := d) ⟨hd1, hd2⟩
        by_cases hN0 : N = 0
        · subst hN0
          have HR := Lib.hid (hW.at_zero hk)
          clear hW hR
          go_wp2_with (first
            | (go_at_call 39; refine (rKnown_any _ _).mono ?_; rintro e w' ⟨rfl, rfl⟩)
            | (go_at_call 35; refine (working_any _ _ _ _ _ _ _ hi (by omega) (by omega) (by omega)).mono ?_; rintro e w' ⟨rfl, rfl⟩))
          go_ret2
          exact ⟨ret_work HR.out, rfl⟩
        · have hNp : 0 < N := by omega
          have hN0' : ((-(N : Int) : Int) == 0) = false := by simp; omega
          have hN0'' : ((-(N : Int) : Int) != 0) = true := by simp; omega
          have hnx := hW.next (.inr rfl) hk hNp
          rw [show d + -1 = d - 1 by omega] at hnx
          have HW := Lib.hid hW
          clear hW hR
          rcases hnx with ⟨hk2, hnx⟩ | ⟨hk2, hnx⟩
          · obtain ⟨q1, q2⟩ := knownB_true hk2
            cases hwb : workB L (d - 1)
            · rw [if_neg (by rw [hwb]; simp)] at hnx
              have HN := Lib.hid hnx
              clear hnx
              go_wp2_with (first
                | (go_at_call 39; refine (rKnown_any _ _).mono ?_; rintro e w' ⟨rfl, rfl⟩)
                | (go_at_call 35; refine (working_any _ _ _ _ _ _ _ hi (by omega) (by omega) (by omega)).mono ?_; rintro e w' ⟨rfl, rfl⟩))
              go_round
              case rel => exact ⟨d - 1, N, rfl, by first | rfl | simp, by omega, by omega, by omega, HN.out⟩
              case measure => simp [intOf]; omega
            · rw [if_pos hwb] at hnx
              have HN := Lib.hid hnx
              clear hnx
              go_wp2_with (first
                | (go_at_call 39; refine (rKnown_any _ _).mono ?_; rintro e w' ⟨rfl, rfl⟩)
                | (go_at_call 35; refine (working_any _ _ _ _ _ _ _ hi (by omega) (by omega) (by omega)).mono ?_; rintro e w' ⟨rfl, rfl⟩))
              go_round
              case rel => exact ⟨d - 1, N - 1, rfl, by congr 1; omega, by omega, by omega, by omega, HN.out⟩
              case measure => simp [intOf]; omega
          · have HN := Lib.hid (WkIs.out (hnx 0) hk2)
            clear hnx
            go_wp2_with (first
              | (go_at_call 39; refine (rKnown_any _ _).mono ?_; rintro e w' ⟨rfl, rfl⟩)
              | (go_at_call 35; refine (working_any _ _ _ _ _ _ _ hi (by omega) (by omega) (by omega)).mono ?_; rintro e w' ⟨rfl, rfl⟩))
            go_ret2
            exact ⟨ret_work HN.out, rfl⟩
theorem work_lim {day n : Int} {H : List Int} (h : n < -1000 ∨ 1000 < n ∨ 400 < H.length) : work day n H = (0, 4) := by unfold work; rw [if_pos h]
theorem work_is {day n : Int} {H : List Int} (h : ¬ (n < -1000 ∨ 1000 < n ∨ 400 < H.length)) :
    (0 ≤ n → WkIs H 1 day n.toNat (work day n H)) ∧ (n < 0 → WkIs H (-1) day (-n).toNat (work day n H)) := by
  unfold work
  rw [if_neg h]
  constructor
  · intro h0
    cases hk : knownB day
    · rw [if_pos rfl]; exact .inr ⟨hk, rfl⟩
    · rw [if_neg (by simp), if_pos h0]; exact .inl ⟨hk, rfl⟩
  · intro h0
    cases hk : knownB day
    · rw [if_pos rfl]; exact .inr ⟨hk, rfl⟩
    · rw [if_neg (by simp), if_neg (by omega)]; exact .inl ⟨hk, rfl⟩
set_option maxHeartbeats 4000000 in
theorem work_bad (A : Option Addr) (n c : Nat) (day num : Int) (w : World) (hn : n ≤ 1000000) (h : num < -1000 ∨ (-1000 ≤ num ∧ 1000 < num) ∨ (-1000 ≤ num ∧ num ≤ 1000 ∧ 400 < n)) :
    Calls Tryd.prog 32 #[.int .i64 day, .int .i64 num, .slice A n c] w fun e w' => e = .returned (.tuple #[.int .i64 0, .int .i64 4]) ∧ w = w' := by
  rcases h with h | ⟨h, h1⟩ | ⟨h, h1, h2⟩
  all_goals
    go_enter Tryd.func32, Tryd.ntmps32
    go_wp2_with fail
    go_ret2
    exact ⟨rfl, rfl⟩
set_option maxHeartbeats 4000000 in
theorem rWork_bad (A : Option Addr) (n c : Nat) (day num : Int) (w : World) (hn : n ≤ 1000000) (h : num < -1000 ∨ (-1000 ≤ num ∧ 1000 < num) ∨ (-1000 ≤ num ∧ num ≤ 1000 ∧ 400 < n)) :
    Calls Tryd.prog 33 #[.int .i64 day, .int .i64 num, .slice A n c] w fun e w' => e = .returned (.tuple #[.int .i64 0, .int .i64 4]) ∧ w = w' := by
  rcases h with h | ⟨h, h1⟩ | ⟨h, h1, h2⟩
  all_goals
    go_enter Tryd.func33, Tryd.ntmps33
    go_wp2_with fail
    go_ret2
    exact ⟨rfl, rfl⟩
theorem work_any (A : Option Addr) (n c B : Nat) (L : List Int) (day num : Int) (w : World) (hi : Ints w B A n L) (hn : n ≤ 1000) (h1 : -9223372036854775808 ≤ day) (h2 : day ≤ 9223372036854775807) :
    Calls Tryd.prog 32 #[.int .i64 day, .int .i64 num, .slice A n c] w fun e w' => e = .returned (.tuple #[.int .i64 (work day num L).1, .int .i64 (work day num L).2]) ∧ w = w' := by
  have hl := hi.len
  by_cases hb : num < -1000 ∨ 1000 < num ∨ 400 < L.length
  · rw [work_lim hb]
    exact work_bad A n c day num w (by omega) (by omega)
  · obtain ⟨a, b⟩ := work_is (day := day) hb
    by_cases h0 : 0 ≤ num
    · exact work_loop A n c B L day num 1 num.toNat w hi (by omega) h1 h2 (.inl ⟨h0, rfl, by omega⟩) (by omega) (by omega) _ (a h0)
    · exact work_loop A n c B L day num (-1) (-num).toNat w hi (by omega) h1 h2 (.inr ⟨by omega, rfl, by omega⟩) (by omega) (by omega) _ (b (by omega))
theorem rWork_any (A : Option Addr) (n c B : Nat) (L : List Int) (day num : Int) (w : World) (hi : Ints w B A n L) (hn : n ≤ 1000) :
    Calls Tryd.prog 33 #[.int .i64 day, .int .i64 num, .slice A n c] w fun e w' => e = .returned (.tuple #[.int .i64 (work day num L).1, .int .i64 (work day num L).2]) ∧ w = w' := by
  have hl := hi.len
  by_cases hb : num < -1000 ∨ 1000 < num ∨ 400 < L.length
  · rw [work_lim hb]
    exact rWork_bad A n c day num w (by omega) (by omega)
  · obtain ⟨a, b⟩ := work_is (day := day) hb
    by_cases h0 : 0 ≤ num
    · exact rWork_loop A n c B L day num 1 num.toNat w hi (by omega) (.inl ⟨h0, rfl, by omega⟩) (by omega) (by omega) _ (a h0)
    · exact rWork_loop A n c B L day num (-1) (-num).toNat w hi (by omega) (.inr ⟨by omega, rfl, by omega⟩) (by omega) (by omega) _ (b (by omega))
end Go.Proofs.YtlfgjpidamkpdaaDoor
