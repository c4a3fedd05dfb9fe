/- Working days. -/
import Derived.Test.YtlfgjpidamkpdaaDoorW17
namespace Go.Proofs.YtlfgjpidamkpdaaDoor
open Go.RowKit
def wdB (d : Int) : Bool := decide (Cal.wd d ≤ 4)
def hasB (L : List Int) (x : Int) : Bool := L.contains x
theorem contains_has {w : World} {B n : Nat} {A : Option Addr} {L : List Int} (x : Int) (c : Nat) (h : Ints w B A n L) (hn : n ≤ 9223372036854775807) :
    Calls Tryd.prog 53 #[.slice A n c, .int .i64 x] w fun e w' => e = .returned (.bool (hasB L x)) ∧ w = w' := contains_any x c h hn
def workB (H : List Int) (d : Int) : Bool := !hasB H d && wdB d
/-- Counting working days: d steps are left to the end of the known days. -/
def wk (H : List Int) (step : Int) : Nat → Int → Nat → Int × Int
  | _, day, 0 => (day, 0)
  | 0, _, _ + 1 => (0, 5)
  | d + 1, day, n + 1 => wk H step d (day + step) (if workB H (day + step) then n else n + 1)
def work (day n : Int) (H : List Int) : Int × Int :=
  if n < -1000 ∨ 1000 < n ∨ 400 < H.length then (0, 4)
  else if knownB day = false then (0, 5)
  else if 0 ≤ n then wk H 1 (146096 - day).toNat day n.toNat
  else wk H (-1) (day + 146097).toNat day (-n).toNat
theorem wd_bd (d : Int) : 0 ≤ Cal.wd d ∧ Cal.wd d ≤ 6 := by unfold Cal.wd; split <;> omega
theorem take_one {L : List Int} {k : Nat} (h : k < L.length) : L.take (k + 1) = L.take k ++ [L.getD k 0] := by
  rw [List.take_succ_eq_append_getElem h, List.getD, List.getElem?_eq_getElem h]; rfl
set_option maxHeartbeats 4000000 in
theorem working_any (A : Option Addr) (n c B : Nat) (L : List Int) (day : Int) (w : World) (hi : Ints w B A n L) (hn : n ≤ 1000) (h1 : -9223372036854775808 ≤ day) (h2 : day ≤ 9223372036854775807) :
    Calls Tryd.prog 35 #[.int .i64 day, .slice A n c] w fun e w' => e = .returned (.bool (workB L day)) ∧ w = w' := by
  have hl := hi.len
  have hwd := wd_bd day
  go_enter Tryd.func35, Tryd.ntmps35
  go_wp2_with fail
  go_loop [5] (fun i => ∃ k : Nat, k ≤ n ∧ i = .int .i64 k ∧ (L.take k).contains day = false) (fun i => n - (intOf i).toNat)
  case atStart => exact ⟨0, by omega, rfl, by simp⟩
  case round =>
    obtain ⟨k, hk, rfl, hno⟩ := hrel
    have HN := Lib.hid hno
    clear hno
    by_cases hlt : k < n
    · obtain ⟨b1, o1, rfl, _, c1⟩ := hi.form (by omega)
      have d1 := c1 k (by omega)
      have HT := Lib.hid (take_one (L := L) (k := k) (by omega))
      have hmem : L.getD k 0 ∈ L := by rw [List.getD, List.getElem?_eq_getElem (show k < L.length by omega)]; exact List.getElem_mem _
      generalize L.getD k 0 = x at d1 HT hmem
      have HM := Lib.hid hmem
      clear c1 hi hmem
      by_cases hx : x = day
      · subst hx
        go_wp2_with fail
        go_ret
        exact ⟨ret_bool (by unfold workB hasB; rw [List.contains_iff_mem.2 HM.out]; rfl), rfl⟩
      · have hx' : (x == day) = false := by simpa using hx
        have HX := Lib.hid hx
        clear hx
        go_wp2_with fail
        go_round
        case rel => exact ⟨k + 1, by omega, by go_num, by rw [HT.out, List.contains_append, HN.out]; simp; exact fun h => HX.out h.symm⟩
        case measure => simp [intOf]; omega
    · have hno := HN.out
      rw [List.take_of_length_le (by omega)] at hno
      have HN2 := Lib.hid hno
      clear hno hi
      by_cases h4 : Cal.wd day ≤ 4
      · go_wp2_with (go_at_call 14; refine (rWeekday_any _ _ (by omega) (by omega)).mono ?_; rintro e w' ⟨rfl, rfl⟩)
        go_ret
        exact ⟨ret_bool (by unfold workB wdB hasB; rw [HN2.out]; simp [h4]), rfl⟩
      · go_wp2_with (go_at_call 14; refine (rWeekday_any _ _ (by omega) (by omega)).mono ?_; rintro e w' ⟨rfl, rfl⟩)
        go_ret
        exact ⟨ret_bool (by unfold workB wdB hasB; rw [HN2.out]; simp), rfl⟩
def dist (st day : Int) : Nat := if st = 1 then (146096 - day).toNat else (day + 146097).toNat
theorem wk_zero (H : List Int) (st : Int) (d : Nat) (day : Int) : wk H st d day 0 = (day, 0) := by cases d <;> rfl
theorem wk_end (H : List Int) (st : Int) (day : Int) (n : Nat) (h : 0 < n) : wk H st 0 day n = (0, 5) := by
  cases n
  · omega
  · rfl
theorem wk_step (H : List Int) (st : Int) (d : Nat) (day : Int) (n : Nat) (h : 0 < n) : wk H st (d + 1) day n = wk H st d (day + st) (if workB H (day + st) then n - 1 else n) := by
  cases n
  · omega
  · rfl
def WkIs (L : List Int) (st day : Int) (N : Nat) (R : Int × Int) : Prop := (knownB day = true ∧ wk L st (dist st day) day N = R) ∨ (knownB day = false ∧ R = (0, 5))
theorem WkIs.next {L : List Int} {st day : Int} {N : Nat} {R : Int × Int} (h : WkIs L st day N R) (hs : st = 1 ∨ st = -1) (hk : knownB day = true) (hN : 0 < N) :
    (knownB (day + st) = true ∧ WkIs L st (day + st) (if workB L (day + st) then N - 1 else N) R) ∨ (knownB (day + st) = false ∧ ∀ M, WkIs L st (day + st) M R) := by
  rcases h with ⟨_, h⟩ | ⟨h, _⟩
  · obtain ⟨k1, k2⟩ := knownB_true hk
    by_cases hd : dist st day = 0
    · rw [hd, wk_end _ _ _ _ hN] at h
      have hu : knownB (day + st) = false := knownB_not fun ⟨a, b⟩ => by
        unfold dist at hd
        rcases hs with rfl | rfl
        · rw [if_pos rfl] at hd; omega
        · rw [if_neg (by decide)] at hd; omega
      exact .inr ⟨hu, fun M => .inr ⟨hu, h.symm⟩⟩
    · have hd1 : dist st day = dist st (day + st) + 1 := by
        unfold dist at hd ⊢
        rcases hs with rfl | rfl
        · rw [if_pos rfl] at hd ⊢; rw [if_pos rfl]; omega
        · rw [if_neg (by decide)] at hd ⊢; rw [if_neg (by decide)]; omega
      have hu : knownB (day + st) = true := knownB_of ⟨by
        unfold dist at hd
        rcases hs with rfl | rfl
        · omega
        · rw [if_neg (by decide)] at hd; omega, by
        unfold dist at hd
        rcases hs with rfl | rfl
        · rw [if_pos rfl] at hd; omega
        · omega⟩
      rw [hd1, wk_step _ _ _ _ _ hN] at h
      exact .inl ⟨hu, .inl ⟨hu, h⟩⟩
  · rw [hk] at h; cases h
theorem WkIs.at_zero {L : List Int} {st day : Int} {R : Int × Int} (h : WkIs L st day 0 R) (hk : knownB day = true) : R = (day, 0) := by
  rcases h with ⟨_, h⟩ | ⟨h, _⟩
  · rw [wk_zero] at h; exact h.symm
  · rw [hk] at h; cases h
theorem WkIs.out {L : List Int} {st day : Int} {N : Nat} {R : Int × Int} (h : WkIs L st day N R) (hk : knownB day = false) : R = (0, 5) := by
  rcases h with ⟨h, _⟩ | ⟨_, h⟩
  · rw [hk] at h; cases h
  · exact h
theorem ret_work {a b : Int} {R : Int × Int} (h : R = (a, b)) : Ending.returned (.tuple #[.int .i64 a, .int .i64 b]) = .returned (.tuple #[.int .i64 R.1, .int .i64 R.2]) := by rw [h]
set_option maxHeartbeats 8000000 in
theorem work_loop (A : Option Addr) (n c B : Nat) (L : List Int) (day num : Int) (st : Int) (N0 : Nat) (w : World) (hi : Ints w B A n L) (hn : n ≤ 400) (h1 : -9223372036854775808 ≤ day) (h2 : day ≤ 9223372036854775807)
    (hs : (0 ≤ num ∧ st = 1 ∧ num = N0) ∨ (num < 0 ∧ st = -1 ∧ num = -N0)) (hb1 : -1000 ≤ num) (hb2 : num ≤ 1000) (R : Int × Int) (hR : Hid (WkIs L st day N0 R)) :
    Calls Tryd.prog 32 #[.int .i64 day, .int .i64 num, .slice A n c] w fun e w' => e = .returned (.tuple #[.int .i64 R.1, .int .i64 R.2]) ∧ w = w' := by
  rcases hs with ⟨hs1, rfl, rfl⟩ | ⟨hs1, rfl, rfl⟩
  · go_enter Tryd.func32, Tryd.ntmps32
    go_wp2_with fail
    go_loop [0, 1] (fun dv nv => ∃ (d : Int) (N : Nat), dv = .int .i64 d ∧ nv = .int .i64 N ∧ N ≤ 1000 ∧ -9223372036854775808 ≤ d ∧ d ≤ 9223372036854775807 ∧ WkIs L 1 d N R) (fun dv _ => (146098 - intOf dv).toNat)
    case atStart => exact ⟨day, N0, rfl, by first | rfl | simp, by omega, h1, h2, hR.out⟩
    case round =>
      obtain ⟨d, N, rfl, rfl, hN, hd1, hd2, hW⟩ := hrel
      cases hk : knownB d
      · have HR := Lib.hid (hW.out hk)
        clear hW hR
        go_wp2_with (first
          | (go_at_call 36; refine (known_any _ _).mono ?_; rintro e w' ⟨rfl, rfl⟩)
          | (go_at_call 13; refine (weekday_any _ _ (by omega) (by omega)).mono ?_; rintro e w' ⟨rfl, rfl⟩)
          | (go_at_call 53; refine (contains_has _ _ hi (by omega)).mono ?_; rintro e w' ⟨rfl, rfl⟩))
        go_ret2
        exact ⟨ret_work HR.out, rfl⟩
      · obtain ⟨k1, k2⟩ := knownB_true hk
        by_cases hN0 : N = 0
        · subst hN0
          have HR := Lib.hid (hW.at_zero hk)
          clear hW hR
          go_wp2_with (first
          | (go_at_call 36; refine (known_any _ _).mono ?_; rintro e w' ⟨rfl, rfl⟩)
          | (go_at_call 13; refine (weekday_any _ _ (by omega) (by omega)).mono ?_; rintro e w' ⟨rfl, rfl⟩)
          | (go_at_call 53; refine (contains_has _ _ hi (by omega)).mono ?_; rintro e w' ⟨rfl, rfl⟩))
          go_ret2
          exact ⟨ret_work HR.out, rfl⟩
        · have hNp : 0 < N := by omega
          have hnx := hW.next (.inl rfl) hk hNp
          have HW := Lib.hid hW
          clear hW hR
          rcases hnx with ⟨hk2, hnx⟩ | ⟨hk2, hnx⟩
          · obtain ⟨q1, q2⟩ := knownB_true hk2
            have hwd := wd_bd (d + (1))
            by_cases h5 : Cal.wd (d + (1)) < 5
            · cases hc : hasB L (d + (1))
              · have hwb : workB L (d + (1)) = true := by unfold workB wdB; rw [hc]; simp; omega
                rw [if_pos hwb] at hnx
                have HN := Lib.hid hnx
                clear hnx hwb
                go_wp2_with (first
          | (go_at_call 36; refine (known_any _ _).mono ?_; rintro e w' ⟨rfl, rfl⟩)
          | (go_at_call 13; refine (weekday_any _ _ (by omega) (by omega)).mono ?_; rintro e w' ⟨rfl, rfl⟩)
          | (go_at_call 53; refine (contains_has _ _ hi (by omega)).mono ?_; rintro e w' ⟨rfl, rfl⟩))
                go_round
                case rel => exact ⟨d + (1), N - 1, rfl, by congr 1; omega, by omega, by omega, by omega, HN.out⟩
                case measure => simp [intOf]; omega
              · have hwb : ¬ workB L (d + (1)) = true := by unfold workB wdB; rw [hc]; simp
                rw [if_neg hwb] at hnx
                have HN := Lib.hid hnx
                clear hnx hwb
                go_wp2_with (first
          | (go_at_call 36; refine (known_any _ _).mono ?_; rintro e w' ⟨rfl, rfl⟩)
          | (go_at_call 13; refine (weekday_any _ _ (by omega) (by omega)).mono ?_; rintro e w' ⟨rfl, rfl⟩)
          | (go_at_call 53; refine (contains_has _ _ hi (by omega)).mono ?_; rintro e w' ⟨rfl, rfl⟩))
                go_round
                case rel => exact ⟨d + (1), N, rfl, rfl, by omega, by omega, by omega, HN.out⟩
                case measure => simp [intOf]; omega
            · have hwb : ¬ workB L (d + (1)) = true := by unfold workB wdB; simp; omega
              rw [if_neg hwb] at hnx
              have HN := Lib.hid hnx
              clear hnx hwb
              go_wp2_with (first
          | (go_at_call 36; refine (known_any _ _).mono ?_; rintro e w' ⟨rfl, rfl⟩)
          | (go_at_call 13; refine (weekday_any _ _ (by omega) (by omega)).mono ?_; rintro e w' ⟨rfl, rfl⟩)
          | (go_at_call 53; refine (contains_has _ _ hi (by omega)).mono ?_; rintro e w' ⟨rfl, rfl⟩))
              go_round
              case rel => exact ⟨d + (1), N, rfl, rfl, by omega, by omega, by omega, HN.out⟩
              case measure => simp [intOf]; omega
          · have HN := Lib.hid (hnx N)
            clear hnx
            go_wp2_with (first
          | (go_at_call 36; refine (known_any _ _).mono ?_; rintro e w' ⟨rfl, rfl⟩)
          | (go_at_call 13; refine (weekday_any _ _ (by omega) (by omega)).mono ?_; rintro e w' ⟨rfl, rfl⟩)
          | (go_at_call 53; refine (contains_has _ _ hi (by omega)).mono ?_; rintro e w' ⟨rfl, rfl⟩))
            go_round
            case rel => exact ⟨d + (1), N, rfl, rfl, by omega, by omega, by omega, HN.out⟩
            case measure => simp [intOf]; omega
  · have hp : 0 < N0 := by omega
    go_enter Tryd.func32, Tryd.ntmps32
    go_wp2_with fail
    go_loop [0, 1] (fun dv nv => ∃ (d : Int) (N : Nat), dv = .int .i64 d ∧ nv = .int .i64 N ∧ N ≤ 1000 ∧ -9223372036854775808 ≤ d ∧ d ≤ 9223372036854775807 ∧ WkIs L (-1) d N R) (fun dv _ => (intOf dv + 146099).toNat)
    case atStart => exact ⟨day, N0, rfl, by first | rfl | simp, by omega, h1, h2, hR.out⟩
    case round =>
      obtain ⟨d, N, rfl, rfl, hN, hd1, hd2, hW⟩ := hrel
      cases hk : knownB d
      · have HR := Lib.hid (hW.out hk)
        clear hW hR
        go_wp2_with (first
          | (go_at_call 36; refine (known_any _ _).mono ?_; rintro e w' ⟨rfl, rfl⟩)
          | (go_at_call 13; refine (weekday_any _ _ (by omega) (by omega)).mono ?_; rintro e w' ⟨rfl, rfl⟩)
          | (go_at_call 53; refine (contains_has _ _ hi (by omega)).mono ?_; rintro e w' ⟨rfl, rfl⟩))
        go_ret2
        exact ⟨ret_work HR.out, rfl⟩
      · obtain ⟨k1, k2⟩ := knownB_true hk
        by_cases hN0 : N = 0
        · subst hN0
          have HR := Lib.hid (hW.at_zero hk)
          clear hW hR
          go_wp2_with (first
          | (go_at_call 36; refine (known_any _ _).mono ?_; rintro e w' ⟨rfl, rfl⟩)
          | (go_at_call 13; refine (weekday_any _ _ (by omega) (by omega)).mono ?_; rintro e w' ⟨rfl, rfl⟩)
          | (go_at_call 53; refine (contains_has _ _ hi (by omega)).mono ?_; rintro e w' ⟨rfl, rfl⟩))
          go_ret2
          exact ⟨ret_work HR.out, rfl⟩
        · have hNp : 0 < N := by omega
          have hnx := hW.next (.inr rfl) hk hNp
          have HW := Lib.hid hW
          clear hW hR
          rcases hnx with ⟨hk2, hnx⟩ | ⟨hk2, hnx⟩
          · obtain ⟨q1, q2⟩ := knownB_true hk2
            have hwd := wd_bd (d + (-1))
            by_cases h5 : Cal.wd (d + (-1)) < 5
            · cases hc : hasB L (d + (-1))
              · have hwb : workB L (d + (-1)) = true := by unfold workB wdB; rw [hc]; simp; omega
                rw [if_pos hwb] at hnx
                have HN := Lib.hid hnx
                clear hnx hwb
                go_wp2_with (first
          | (go_at_call 36; refine (known_any _ _).mono ?_; rintro e w' ⟨rfl, rfl⟩)
          | (go_at_call 13; refine (weekday_any _ _ (by omega) (by omega)).mono ?_; rintro e w' ⟨rfl, rfl⟩)
          | (go_at_call 53; refine (contains_has _ _ hi (by omega)).mono ?_; rintro e w' ⟨rfl, rfl⟩))
                go_round
                case rel => exact ⟨d + (-1), N - 1, rfl, by congr 1; omega, by omega, by omega, by omega, HN.out⟩
                case measure => simp [intOf]; omega
              · have hwb : ¬ workB L (d + (-1)) = true := by unfold workB wdB; rw [hc]; simp
                rw [if_neg hwb] at hnx
                have HN := Lib.hid hnx
                clear hnx hwb
                go_wp2_with (first
          | (go_at_call 36; refine (known_any _ _).mono ?_; rintro e w' ⟨rfl, rfl⟩)
          | (go_at_call 13; refine (weekday_any _ _ (by omega) (by omega)).mono ?_; rintro e w' ⟨rfl, rfl⟩)
          | (go_at_call 53; refine (contains_has _ _ hi (by omega)).mono ?_; rintro e w' ⟨rfl, rfl⟩))
                go_round
                case rel => exact ⟨d + (-1), N, rfl, rfl, by omega, by omega, by omega, HN.out⟩
                case measure => simp [intOf]; omega
            · have hwb : ¬ workB L (d + (-1)) = true := by unfold workB wdB; simp; omega
              rw [if_neg hwb] at hnx
              have HN := Lib.hid hnx
              clear hnx hwb
              go_wp2_with (first
          | (go_at_call 36; refine (known_any _ _).mono ?_; rintro e w' ⟨rfl, rfl⟩)
          | (go_at_call 13; refine (weekday_any _ _ (by omega) (by omega)).mono ?_; rintro e w' ⟨rfl, rfl⟩)
          | (go_at_call 53; refine (contains_has _ _ hi (by omega)).mono ?_; rintro e w' ⟨rfl, rfl⟩))
              go_round
              case rel => exact ⟨d + (-1), N, rfl, rfl, by omega, by omega, by omega, HN.out⟩
              case measure => simp [intOf]; omega
          · have HN := Lib.hid (hnx N)
            clear hnx
            go_wp2_with (first
          | (go_at_call 36; refine (known_any _ _).mono ?_; rintro e w' ⟨rfl, rfl⟩)
          | (go_at_call 13; refine (weekday_any _ _ (by omega) (by omega)).mono ?_; rintro e w' ⟨rfl, rfl⟩)
          | (go_at_call 53; refine (contains_has _ _ hi (by omega)).mono ?_; rintro e w' ⟨rfl, rfl⟩))
            go_round
            case rel => exact ⟨d + (-1), N, rfl, rfl, by omega, by omega, by omega, HN.out⟩
            case measure => simp [intOf]; omega
end Go.Proofs.YtlfgjpidamkpdaaDoor
