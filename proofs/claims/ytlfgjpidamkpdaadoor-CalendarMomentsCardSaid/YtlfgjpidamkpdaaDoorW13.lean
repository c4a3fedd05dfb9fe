/- Local times of the reference. -/
import Derived.Test.YtlfgjpidamkpdaaDoorW12
namespace Go.Proofs.YtlfgjpidamkpdaaDoor
open Go.RowKit
theorem january {y : Int} (h1 : 1600 ≤ y) (h2 : y ≤ 2399) : Cal.dayV y 1 1 = Cal.fst y := by
  have hv : Cal.valid y 1 1 := ⟨h1, h2, by omega, by omega, by omega, by have := (Cal.md_bd y 1).1; omega⟩
  rw [dayV_ok hv]
  simp [Cal.num, Cal.cum]
set_option maxHeartbeats 4000000 in
theorem rLocal_any (mo o s f t : Int) (w : World) (hm1 : -9223372036854775808 ≤ mo) (hm2 : mo ≤ 9223372036854775807) :
    Calls Tryd.prog 27 #[.int .i64 mo, .agg #[.int .i64 o, .int .i64 s, .int .i64 f, .int .i64 t]] w fun e w' =>
      e = .returned (.tuple #[.int .i64 (loc mo o s f t).1, .int .i64 (loc mo o s f t).2.1, .int .i64 (loc mo o s f t).2.2]) ∧ Below w.heap.size w w' := by
  have hbb := Below.refl (w.heap.size + 1) (w.alloc (.cells #[.int .i64 o, .int .i64 s, .int .i64 f, .int .i64 t] 41))
  have bc := trivial
  cases hz : zok o s f t
  · have HL := Lib.hid (loc_bad (mo := mo) hz)
    go_enter Tryd.func27, Tryd.ntmps27
    go_wp2_with (first
      | (go_at_call 50; refine (proper_any _ _ _ _ _).mono ?_; rintro e w1 ⟨rfl, hb1⟩; have hbb := step_box hbb hb1; clear hb1 bc; have bc := box_cell hbb)
      | (go_at_call 51; refine (dayOf_any _ _ (by omega) (by omega)).mono ?_; rintro e w' ⟨rfl, rfl⟩)
      | (go_at_call 39; refine (rKnown_any _ _).mono ?_; rintro e w' ⟨rfl, rfl⟩)
      | (go_at_call 42; refine (modulo_any _ _ _ (by omega) (by omega) (by omega) (by omega)).mono ?_; rintro e w' ⟨rfl, rfl⟩)
      | (go_at_call 12; refine (rCivil_any _ _).mono ?_; rintro e w1 ⟨rfl, rfl⟩))
    go_ret3
    exact ⟨ret_loc HL.out, of_box hbb⟩
  obtain ⟨z1, z2, z3, z4, z5, z6, z7⟩ := zok_iff.1 hz
  by_cases c1 : mo < -1000000000
  · have HL := Lib.hid (loc_out hz (not_known_1440 (n := mo + o) (by omega)))
    go_enter Tryd.func27, Tryd.ntmps27
    go_wp2_with (first
      | (go_at_call 50; refine (proper_any _ _ _ _ _).mono ?_; rintro e w1 ⟨rfl, hb1⟩; have hbb := step_box hbb hb1; clear hb1 bc; have bc := box_cell hbb)
      | (go_at_call 51; refine (dayOf_any _ _ (by omega) (by omega)).mono ?_; rintro e w' ⟨rfl, rfl⟩)
      | (go_at_call 39; refine (rKnown_any _ _).mono ?_; rintro e w' ⟨rfl, rfl⟩)
      | (go_at_call 42; refine (modulo_any _ _ _ (by omega) (by omega) (by omega) (by omega)).mono ?_; rintro e w' ⟨rfl, rfl⟩)
      | (go_at_call 12; refine (rCivil_any _ _).mono ?_; rintro e w1 ⟨rfl, rfl⟩))
    go_ret3
    exact ⟨ret_loc HL.out, of_box hbb⟩
  by_cases c2 : 1000000000 < mo
  · have HL := Lib.hid (loc_out hz (not_known_1440 (n := mo + o) (by omega)))
    go_enter Tryd.func27, Tryd.ntmps27
    go_wp2_with (first
      | (go_at_call 50; refine (proper_any _ _ _ _ _).mono ?_; rintro e w1 ⟨rfl, hb1⟩; have hbb := step_box hbb hb1; clear hb1 bc; have bc := box_cell hbb)
      | (go_at_call 51; refine (dayOf_any _ _ (by omega) (by omega)).mono ?_; rintro e w' ⟨rfl, rfl⟩)
      | (go_at_call 39; refine (rKnown_any _ _).mono ?_; rintro e w' ⟨rfl, rfl⟩)
      | (go_at_call 42; refine (modulo_any _ _ _ (by omega) (by omega) (by omega) (by omega)).mono ?_; rintro e w' ⟨rfl, rfl⟩)
      | (go_at_call 12; refine (rCivil_any _ _).mono ?_; rintro e w1 ⟨rfl, rfl⟩))
    go_ret3
    exact ⟨ret_loc HL.out, of_box hbb⟩
  cases hk : knownB ((mo + o) / 1440)
  · have HL := Lib.hid (loc_out hz hk)
    go_enter Tryd.func27, Tryd.ntmps27
    go_wp2_with (first
      | (go_at_call 50; refine (proper_any _ _ _ _ _).mono ?_; rintro e w1 ⟨rfl, hb1⟩; have hbb := step_box hbb hb1; clear hb1 bc; have bc := box_cell hbb)
      | (go_at_call 51; refine (dayOf_any _ _ (by omega) (by omega)).mono ?_; rintro e w' ⟨rfl, rfl⟩)
      | (go_at_call 39; refine (rKnown_any _ _).mono ?_; rintro e w' ⟨rfl, rfl⟩)
      | (go_at_call 42; refine (modulo_any _ _ _ (by omega) (by omega) (by omega) (by omega)).mono ?_; rintro e w' ⟨rfl, rfl⟩)
      | (go_at_call 12; refine (rCivil_any _ _).mono ?_; rintro e w1 ⟨rfl, rfl⟩))
    go_ret3
    exact ⟨ret_loc HL.out, of_box hbb⟩
  obtain ⟨y1, y2, _⟩ := Cal.civil_range (knownB_true hk)
  have yb := Cal.fst_bd (Cal.cy ((mo + o) / 1440)) y1 (by omega)
  have HJ := Lib.hid (january y1 y2)
  have dk := knownB_true hk
  obtain ⟨d1, d2⟩ := dk
  have HY : Hid (yday (mo + o) = (mo + o) / 1440 - Cal.fst (Cal.cy ((mo + o) / 1440)) + 1) := rfl
  have HK := Lib.hid hk
  by_cases c3 : f ≤ (mo + o) / 1440 - Cal.fst (Cal.cy ((mo + o) / 1440)) + 1
  · by_cases c4 : (mo + o) / 1440 - Cal.fst (Cal.cy ((mo + o) / 1440)) + 1 < t
    · have HN : Hid (locN (mo + o) s f t = mo + o + s) := by unfold Hid locN; rw [if_pos]; rw [HY.out]; exact ⟨c3, c4⟩
      cases hk2 : knownB ((mo + o + s) / 1440)
      · have HL := Lib.hid (loc_out2 (mo := mo) hz HK.out (by rw [HN.out]; exact hk2))
        go_enter Tryd.func27, Tryd.ntmps27
        go_wp2_with (first
          | (go_at_call 50; refine (proper_any _ _ _ _ _).mono ?_; rintro e w1 ⟨rfl, hb1⟩; have hbb := step_box hbb hb1; clear hb1 bc; have bc := box_cell hbb)
          | (go_at_call 51; refine (dayOf_any _ _ (by omega) (by omega)).mono ?_; rintro e w' ⟨rfl, rfl⟩)
          | (go_at_call 39; refine (rKnown_any _ _).mono ?_; rintro e w' ⟨rfl, rfl⟩)
          | (go_at_call 42; refine (modulo_any _ _ _ (by omega) (by omega) (by omega) (by omega)).mono ?_; rintro e w' ⟨rfl, rfl⟩)
          | (go_at_call 12; refine (rCivil_any _ _).mono ?_; rintro e w1 ⟨rfl, rfl⟩)
          | (go_at_call 19; refine (rDay_any _ _ _ _).mono ?_; rintro e w1 ⟨rfl, rfl⟩; rw [HJ.out]))
        go_ret3
        exact ⟨ret_loc HL.out, of_box hbb⟩
      · have HL := Lib.hid ((loc_ok (mo := mo) hz HK.out (by rw [HN.out]; exact hk2)).trans (by rw [HN.out]))
        go_enter Tryd.func27, Tryd.ntmps27
        go_wp2_with (first
          | (go_at_call 50; refine (proper_any _ _ _ _ _).mono ?_; rintro e w1 ⟨rfl, hb1⟩; have hbb := step_box hbb hb1; clear hb1 bc; have bc := box_cell hbb)
          | (go_at_call 51; refine (dayOf_any _ _ (by omega) (by omega)).mono ?_; rintro e w' ⟨rfl, rfl⟩)
          | (go_at_call 39; refine (rKnown_any _ _).mono ?_; rintro e w' ⟨rfl, rfl⟩)
          | (go_at_call 42; refine (modulo_any _ _ _ (by omega) (by omega) (by omega) (by omega)).mono ?_; rintro e w' ⟨rfl, rfl⟩)
          | (go_at_call 12; refine (rCivil_any _ _).mono ?_; rintro e w1 ⟨rfl, rfl⟩)
          | (go_at_call 19; refine (rDay_any _ _ _ _).mono ?_; rintro e w1 ⟨rfl, rfl⟩; rw [HJ.out]))
        go_ret3
        exact ⟨ret_loc HL.out, of_box hbb⟩
    · have HN : Hid (locN (mo + o) s f t = mo + o) := by unfold Hid locN; rw [if_neg]; rw [HY.out]; exact fun h => c4 h.2
      have HL := Lib.hid ((loc_ok (mo := mo) hz HK.out (by rw [HN.out]; exact HK.out)).trans (by rw [HN.out]))
      go_enter Tryd.func27, Tryd.ntmps27
      go_wp2_with (first
        | (go_at_call 50; refine (proper_any _ _ _ _ _).mono ?_; rintro e w1 ⟨rfl, hb1⟩; have hbb := step_box hbb hb1; clear hb1 bc; have bc := box_cell hbb)
        | (go_at_call 51; refine (dayOf_any _ _ (by omega) (by omega)).mono ?_; rintro e w' ⟨rfl, rfl⟩)
        | (go_at_call 39; refine (rKnown_any _ _).mono ?_; rintro e w' ⟨rfl, rfl⟩)
        | (go_at_call 42; refine (modulo_any _ _ _ (by omega) (by omega) (by omega) (by omega)).mono ?_; rintro e w' ⟨rfl, rfl⟩)
        | (go_at_call 12; refine (rCivil_any _ _).mono ?_; rintro e w1 ⟨rfl, rfl⟩)
        | (go_at_call 19; refine (rDay_any _ _ _ _).mono ?_; rintro e w1 ⟨rfl, rfl⟩; rw [HJ.out]))
      go_ret3
      exact ⟨ret_loc HL.out, of_box hbb⟩
  · have HN : Hid (locN (mo + o) s f t = mo + o) := by unfold Hid locN; rw [if_neg]; rw [HY.out]; exact fun h => c3 h.1
    have HL := Lib.hid ((loc_ok (mo := mo) hz HK.out (by rw [HN.out]; exact HK.out)).trans (by rw [HN.out]))
    go_enter Tryd.func27, Tryd.ntmps27
    go_wp2_with (first
      | (go_at_call 50; refine (proper_any _ _ _ _ _).mono ?_; rintro e w1 ⟨rfl, hb1⟩; have hbb := step_box hbb hb1; clear hb1 bc; have bc := box_cell hbb)
      | (go_at_call 51; refine (dayOf_any _ _ (by omega) (by omega)).mono ?_; rintro e w' ⟨rfl, rfl⟩)
      | (go_at_call 39; refine (rKnown_any _ _).mono ?_; rintro e w' ⟨rfl, rfl⟩)
      | (go_at_call 42; refine (modulo_any _ _ _ (by omega) (by omega) (by omega) (by omega)).mono ?_; rintro e w' ⟨rfl, rfl⟩)
      | (go_at_call 12; refine (rCivil_any _ _).mono ?_; rintro e w1 ⟨rfl, rfl⟩)
      | (go_at_call 19; refine (rDay_any _ _ _ _).mono ?_; rintro e w1 ⟨rfl, rfl⟩; rw [HJ.out]))
    go_ret3
    exact ⟨ret_loc HL.out, of_box hbb⟩
end Go.Proofs.YtlfgjpidamkpdaaDoor
