/- The reference's Civil, and Day of both. -/
import Derived.Test.YtlfgjpidamkpdaaDoorW3
namespace Go.Proofs.YtlfgjpidamkpdaaDoor
open Go.RowKit
set_option maxHeartbeats 2000000 in
theorem rCivil_any (day : Int) (w : World) :
    Calls Tryd.prog 12 #[.int .i64 day] w fun e w' => e = .returned (.tuple #[.int .i64 (Cal.cy day), .int .i64 (Cal.cm day), .int .i64 (Cal.cd day)]) ∧ w = w' := by
  cases hk : knownB day
  · have hn := Cal.civil_no (knownB_false hk)
    go_enter Tryd.func12, Tryd.ntmps12
    go_wp2_with (go_at_call 39; refine (rKnown_any _ _).mono ?_; rintro e w' ⟨rfl, rfl⟩)
    go_ret3
    exact ⟨ret_tri hn.1.symm hn.2.1.symm hn.2.2.symm, rfl⟩
  · have hn := knownB_true hk
    have hkn := Lib.hid hn
    obtain ⟨b1, b2⟩ := hn
    go_enter Tryd.func12, Tryd.ntmps12
    go_wp2_with (go_at_call 39; refine (rKnown_any _ _).mono ?_; rintro e w' ⟨rfl, rfl⟩)
    go_loop [5, 6] (fun l t => ∃ y : Int, 1600 ≤ y ∧ y ≤ 2399 ∧ Cal.fst y ≤ day ∧ t = .int .i64 y ∧ l = .int .i64 (day - Cal.fst y)) (fun _ t => (2399 - intOf t).toNat)
    case atStart => exact ⟨1600, by omega, by omega, by rw [Cal.fst_1600]; exact b1, rfl, by rw [Cal.fst_1600]; congr 1⟩
    case round =>
      obtain ⟨y, hy1, hy2, hy3, rfl, rfl⟩ := hrel
      have hs := Cal.fst_succ y
      have hl1 := Cal.lp_lo y
      have hl2 := Cal.lp_hi y
      have hfb := Cal.fst_bd y (by omega) (by omega)
      by_cases hd : 365 + Cal.lp y ≤ day - Cal.fst y
      · have hlt : y < 2399 := by
          by_cases e : y = 2399
          · exfalso; subst e; have e1 := Cal.fst_2400; rw [show (2399 : Int) + 1 = 2400 from rfl, e1] at hs; omega
          · omega
        have HS := Lib.hid hs
        clear hs
        go_wp2_with (go_at_call 40; refine (rYearDays_any _ _ (by omega) (by omega)).mono ?_; rintro e w1 ⟨rfl, rfl⟩)
        go_round
        case rel => exact ⟨y + 1, by omega, by omega, by rw [HS.out]; omega, rfl, by rw [HS.out]; congr 1; omega⟩
        case measure => simp [intOf]; omega
      · have HS := Lib.hid hs
        clear hs
        go_wp2_with (go_at_call 40; refine (rYearDays_any _ _ (by omega) (by omega)).mono ?_; rintro e w1 ⟨rfl, rfl⟩)
        go_loop [5, 7] (fun r k => ∃ m : Int, 1 ≤ m ∧ m ≤ 12 ∧ k = .int .i64 m ∧ 0 ≤ day - Cal.fst y - Cal.cum y m ∧ r = .int .i64 (day - Cal.fst y - Cal.cum y m)) (fun _ k => (12 - intOf k).toNat)
        case atStart => exact ⟨1, by omega, by omega, rfl, by rw [Cal.cum_1]; omega, by rw [Cal.cum_1]; simp⟩
        case round =>
          obtain ⟨m, hm1, hm2, rfl, hr, rfl⟩ := hrel
          have cb := Cal.cum_bd y m hm1 (by omega)
          have db := Cal.md_bd y m
          have cs := Cal.cum_succ y m hm1 hm2
          by_cases hc : Cal.md y m ≤ day - Cal.fst y - Cal.cum y m
          · have hm : m < 12 := by
              by_cases e : m = 12
              · exfalso; subst e; have e1 := Cal.cum_13 y; rw [show (12 : Int) + 1 = 13 from rfl, e1] at cs; omega
              · omega
            have CS := Lib.hid cs
            clear cs
            go_wp2_with (go_at_call 41; refine (rMonthDays_any _ _ _ (by omega) (by omega)).mono ?_; rintro e w1 ⟨rfl, rfl⟩)
            go_round
            case rel => exact ⟨m + 1, by omega, by omega, rfl, by rw [CS.out]; omega, by rw [CS.out]; congr 1; omega⟩
            case measure => simp [intOf]; omega
          · have CS := Lib.hid cs
            clear cs
            have hciv : Cal.IsCivil day y m (day - Cal.fst y - Cal.cum y m + 1) := ⟨⟨hy1, hy2, hm1, hm2, by omega, by omega⟩, by unfold Cal.num; omega⟩
            have HC := Lib.hid (Cal.civil_eq hciv)
            clear hciv
            go_wp2_with (go_at_call 41; refine (rMonthDays_any _ _ _ (by omega) (by omega)).mono ?_; rintro e w1 ⟨rfl, rfl⟩)
            go_ret3
            exact ⟨ret_tri HC.out.1.symm HC.out.2.1.symm HC.out.2.2.symm, rfl⟩
theorem dayV_ok {y m d : Int} (h : Cal.valid y m d) : Cal.dayV y m d = Cal.num y m d := by unfold Cal.dayV; rw [if_pos h]
theorem dayE_ok {y m d : Int} (h : Cal.valid y m d) : Cal.dayE y m d = 0 := by unfold Cal.dayE; rw [if_pos h]
theorem dayV_no {y m d : Int} (h : ¬ Cal.valid y m d) : Cal.dayV y m d = 0 := by unfold Cal.dayV; rw [if_neg h]
theorem dayE_no {y m d : Int} (h : ¬ Cal.valid y m d) : Cal.dayE y m d = 5 := by unfold Cal.dayE; rw [if_neg h]
set_option maxHeartbeats 4000000 in
theorem day_any (y m d : Int) (w : World) (hd2 : d ≤ 9223372036854775807) :
    Calls Tryd.prog 18 #[.int .i64 y, .int .i64 m, .int .i64 d] w fun e w' => e = .returned (.tuple #[.int .i64 (Cal.dayV y m d), .int .i64 (Cal.dayE y m d)]) ∧ Below w.heap.size w w' := by
  by_cases c1 : y < 1600
  · have hn : ¬ Cal.valid y m d := fun h => by have := h.1; omega
    go_enter Tryd.func18, Tryd.ntmps18
    go_wp2
    go_ret2
    exact ⟨ret_pair (dayV_no hn).symm (dayE_no hn).symm, by go_grown⟩
  by_cases c2 : 2400 ≤ y
  · have hn : ¬ Cal.valid y m d := fun h => by have := h.2.1; omega
    go_enter Tryd.func18, Tryd.ntmps18
    go_wp2
    go_ret2
    exact ⟨ret_pair (dayV_no hn).symm (dayE_no hn).symm, by go_grown⟩
  by_cases c3 : m < 1
  · have hn : ¬ Cal.valid y m d := fun h => by have := h.2.2.1; omega
    go_enter Tryd.func18, Tryd.ntmps18
    go_wp2
    go_ret2
    exact ⟨ret_pair (dayV_no hn).symm (dayE_no hn).symm, by go_grown⟩
  by_cases c4 : 12 < m
  · have hn : ¬ Cal.valid y m d := fun h => by have := h.2.2.2.1; omega
    go_enter Tryd.func18, Tryd.ntmps18
    go_wp2
    go_ret2
    exact ⟨ret_pair (dayV_no hn).symm (dayE_no hn).symm, by go_grown⟩
  by_cases c5 : d < 1
  · have hn : ¬ Cal.valid y m d := fun h => by have := h.2.2.2.2.1; omega
    go_enter Tryd.func18, Tryd.ntmps18
    go_wp2
    go_ret2
    exact ⟨ret_pair (dayV_no hn).symm (dayE_no hn).symm, by go_grown⟩
  by_cases c6 : Cal.md y m < d
  · have hn : ¬ Cal.valid y m d := fun h => by have := h.2.2.2.2.2; omega
    go_enter Tryd.func18, Tryd.ntmps18
    go_wp2_with (go_at_call 38; refine (length_any _ _ _ (by omega) (by omega) (by omega) (by omega)).mono ?_; rintro e w1 ⟨rfl, hb⟩)
    go_ret2
    exact ⟨ret_pair (dayV_no hn).symm (dayE_no hn).symm, hb⟩
  have hv : Cal.valid y m d := ⟨by omega, by omega, by omega, by omega, by omega, by omega⟩
  have hfb := Cal.fst_bd y (by omega) (by omega)
  have hmb := Cal.md_bd y m
  have hl2 := Cal.lp_hi y
  have hb := Below.refl w.heap.size w
  go_enter Tryd.func18, Tryd.ntmps18
  go_wp2_with (first
    | (go_at_call 38; refine (length_any _ _ _ (by omega) (by omega) (by omega) (by omega)).mono ?_; rintro e w1 ⟨rfl, hb1⟩; have hb := hb.trans (hb1.mono hb.size); clear hb1)
    | (go_at_call 37; refine (first_any _ _ (by omega) (by omega)).mono ?_; rintro e w1 ⟨rfl, hb1⟩; have hb := hb.trans (hb1.mono hb.size); clear hb1))
  go_loopw [8, 9] (fun r k wr => ∃ j : Int, 1 ≤ j ∧ j ≤ m ∧ k = .int .i64 j ∧ r = .int .i64 (Cal.fst y + d - 1 + Cal.cum y j) ∧ Below w.heap.size w wr) (fun _ k _ => (m - intOf k).toNat)
  case atStart => exact ⟨1, by omega, by omega, rfl, by rw [Cal.cum_1]; simp, hb⟩
  case round =>
    obtain ⟨j, hj1, hj2, rfl, rfl, hb⟩ := hrel
    have cb := Cal.cum_bd y j hj1 (by omega)
    have db := Cal.md_bd y j
    have cs := Cal.cum_succ y j hj1 (by omega)
    have CS := Lib.hid cs
    clear cs
    by_cases hlt : j < m
    · go_wp2_with (go_at_call 38; refine (length_any _ _ _ (by omega) (by omega) (by omega) (by omega)).mono ?_; rintro e w1 ⟨rfl, hb1⟩; have hb := hb.trans (hb1.mono hb.size); clear hb1)
      go_roundw
      case rel => exact ⟨j + 1, by omega, by omega, rfl, by rw [CS.out]; congr 1; omega, hb⟩
      case measure => simp [intOf]; omega
    · obtain rfl : j = m := by omega
      go_wp2
      go_ret2
      exact ⟨ret_pair (by rw [dayV_ok hv]; unfold Cal.num; omega) (dayE_ok hv).symm, hb⟩
set_option maxHeartbeats 4000000 in
theorem rDay_any (y m d : Int) (w : World) :
    Calls Tryd.prog 19 #[.int .i64 y, .int .i64 m, .int .i64 d] w fun e w' => e = .returned (.tuple #[.int .i64 (Cal.dayV y m d), .int .i64 (Cal.dayE y m d)]) ∧ w = w' := by
  by_cases c1 : y < 1600
  · have hn : ¬ Cal.valid y m d := fun h => by have := h.1; omega
    go_enter Tryd.func19, Tryd.ntmps19
    go_wp2
    go_ret2
    exact ⟨ret_pair (dayV_no hn).symm (dayE_no hn).symm, rfl⟩
  by_cases c2 : 2399 < y
  · have hn : ¬ Cal.valid y m d := fun h => by have := h.2.1; omega
    go_enter Tryd.func19, Tryd.ntmps19
    go_wp2
    go_ret2
    exact ⟨ret_pair (dayV_no hn).symm (dayE_no hn).symm, rfl⟩
  by_cases c3 : m < 1
  · have hn : ¬ Cal.valid y m d := fun h => by have := h.2.2.1; omega
    go_enter Tryd.func19, Tryd.ntmps19
    go_wp2
    go_ret2
    exact ⟨ret_pair (dayV_no hn).symm (dayE_no hn).symm, rfl⟩
  by_cases c4 : 12 < m
  · have hn : ¬ Cal.valid y m d := fun h => by have := h.2.2.2.1; omega
    go_enter Tryd.func19, Tryd.ntmps19
    go_wp2
    go_ret2
    exact ⟨ret_pair (dayV_no hn).symm (dayE_no hn).symm, rfl⟩
  by_cases c5 : d < 1
  · have hn : ¬ Cal.valid y m d := fun h => by have := h.2.2.2.2.1; omega
    go_enter Tryd.func19, Tryd.ntmps19
    go_wp2
    go_ret2
    exact ⟨ret_pair (dayV_no hn).symm (dayE_no hn).symm, rfl⟩
  have hmb1 := (Cal.md_bd y m).1
  have hmb2 := (Cal.md_bd y m).2
  by_cases c7 : 31 < d
  · have hn : ¬ Cal.valid y m d := fun h => by have := h.2.2.2.2.2; omega
    go_enter Tryd.func19, Tryd.ntmps19
    go_wp2
    go_ret2
    exact ⟨ret_pair (dayV_no hn).symm (dayE_no hn).symm, rfl⟩
  by_cases c6 : Cal.md y m < d
  · have hn : ¬ Cal.valid y m d := fun h => by have := h.2.2.2.2.2; omega
    go_enter Tryd.func19, Tryd.ntmps19
    go_wp2_with (go_at_call 41; refine (rMonthDays_any _ _ _ (by omega) (by omega)).mono ?_; rintro e w1 ⟨rfl, rfl⟩)
    go_ret2
    exact ⟨ret_pair (dayV_no hn).symm (dayE_no hn).symm, rfl⟩
  have hv : Cal.valid y m d := ⟨by omega, by omega, by omega, by omega, by omega, by omega⟩
  go_enter Tryd.func19, Tryd.ntmps19
  go_wp2_with (go_at_call 41; refine (rMonthDays_any _ _ _ (by omega) (by omega)).mono ?_; rintro e w1 ⟨rfl, rfl⟩)
  go_loop [8, 9] (fun r k => ∃ j : Int, 1600 ≤ j ∧ j ≤ y ∧ k = .int .i64 j ∧ r = .int .i64 (Cal.fst j + d - 1)) (fun _ k => (y - intOf k).toNat)
  case atStart => exact ⟨1600, by omega, by omega, rfl, by rw [Cal.fst_1600]⟩
  case round =>
    obtain ⟨j, hj1, hj2, rfl, rfl⟩ := hrel
    have hfb := Cal.fst_bd j (by omega) (by omega)
    have hl1 := Cal.lp_lo j
    have hl2 := Cal.lp_hi j
    by_cases hlt : j < y
    · have HS := Lib.hid (Cal.fst_succ j)
      go_wp2_with (go_at_call 40; refine (rYearDays_any _ _ (by omega) (by omega)).mono ?_; rintro e w1 ⟨rfl, rfl⟩)
      go_round
      case rel => exact ⟨j + 1, by omega, by omega, rfl, by rw [HS.out]; congr 1; omega⟩
      case measure => simp [intOf]; omega
    · obtain rfl : j = y := by omega
      go_wp2
      go_loop [8, 10] (fun r k => ∃ i : Int, 1 ≤ i ∧ i ≤ m ∧ k = .int .i64 i ∧ r = .int .i64 (Cal.fst j + d - 1 + Cal.cum j i)) (fun _ k => (m - intOf k).toNat)
      case atStart => exact ⟨1, by omega, by omega, rfl, by rw [Cal.cum_1]; simp⟩
      case round =>
        obtain ⟨i, hi1, hi2, rfl, rfl⟩ := hrel
        have cb := Cal.cum_bd j i hi1 (by omega)
        have db := Cal.md_bd j i
        have CS := Lib.hid (Cal.cum_succ j i hi1 (by omega))
        by_cases hlt : i < m
        · go_wp2_with (go_at_call 41; refine (rMonthDays_any _ _ _ (by omega) (by omega)).mono ?_; rintro e w1 ⟨rfl, rfl⟩)
          go_round
          case rel => exact ⟨i + 1, by omega, by omega, rfl, by rw [CS.out]; congr 1; omega⟩
          case measure => simp [intOf]; omega
        · obtain rfl : i = m := by omega
          go_wp2
          go_ret2
          exact ⟨ret_pair (by rw [dayV_ok hv]; unfold Cal.num; omega) (dayE_ok hv).symm, rfl⟩
end Go.Proofs.YtlfgjpidamkpdaaDoor
