/- Local times, of the calendar and of the reference. -/
import Derived.Test.YtlfgjpidamkpdaaDoorW11
namespace Go.Proofs.YtlfgjpidamkpdaaDoor
open Go.RowKit
/-- Old cells and their marks read as before. -/
theorem bcell {W w1 : World} (hb : Below W.heap.size W w1) : (∀ b o, b < W.heap.size → w1.cell? ⟨b, o, none⟩ = W.cell? ⟨b, o, none⟩) ∧ (∀ b o, b < W.heap.size → w1.frozen? ⟨b, o, none⟩ = W.frozen? ⟨b, o, none⟩) :=
  ⟨fun b o h => hb.cell (p := ⟨b, o, none⟩) h, fun b o h => hb.frozen (p := ⟨b, o, none⟩) h⟩
/-- A world behind a box that the call made first. -/
theorem step_box {w w1 w2 : World} {o : Obj} (h : Below (w.heap.size + 1) (w.alloc o) w1) (hb : Below w1.heap.size w1 w2) : Below (w.heap.size + 1) (w.alloc o) w2 :=
  h.trans (hb.mono (by have := h.size; simpa using this))
theorem box_cell {w w1 : World} {o : Obj} (h : Below (w.heap.size + 1) (w.alloc o) w1) : ∀ i, w1.cell? ⟨w.heap.size, i, none⟩ = (w.alloc o).cell? ⟨w.heap.size, i, none⟩ :=
  fun i => h.cell (p := ⟨w.heap.size, i, none⟩) (Nat.lt_succ_self _)
theorem of_box {w w1 : World} {o : Obj} (h : Below (w.heap.size + 1) (w.alloc o) w1) : Below w.heap.size w w1 :=
  ((Below.refl _ _).alloc (Nat.le_refl _) _).trans (h.mono (Nat.le_succ _))
/-- The day of the year, from 1 on, of a standard time n. -/
noncomputable def yday (n : Int) : Int := n / 1440 - Cal.fst (Cal.cy (n / 1440)) + 1
open Classical in
noncomputable def locN (n s f t : Int) : Int := if f ≤ yday n ∧ yday n < t then n + s else n
noncomputable def loc (mo o s f t : Int) : Int × Int × Int :=
  if zok o s f t = false then (0, 0, 1)
  else if knownB ((mo + o) / 1440) = false then (0, 0, 5)
  else if knownB (locN (mo + o) s f t / 1440) = false then (0, 0, 5)
  else (locN (mo + o) s f t / 1440, locN (mo + o) s f t % 1440, 0)
theorem loc_bad {mo o s f t : Int} (h : zok o s f t = false) : loc mo o s f t = (0, 0, 1) := by unfold loc; rw [if_pos h]
theorem loc_out {mo o s f t : Int} (h : zok o s f t = true) (h1 : knownB ((mo + o) / 1440) = false) : loc mo o s f t = (0, 0, 5) := by
  unfold loc; rw [if_neg (by rw [h]; simp), if_pos h1]
theorem loc_out2 {mo o s f t : Int} (h : zok o s f t = true) (h1 : knownB ((mo + o) / 1440) = true) (h2 : knownB (locN (mo + o) s f t / 1440) = false) : loc mo o s f t = (0, 0, 5) := by
  unfold loc; rw [if_neg (by rw [h]; simp), if_neg (by rw [h1]; simp), if_pos h2]
theorem loc_ok {mo o s f t : Int} (h : zok o s f t = true) (h1 : knownB ((mo + o) / 1440) = true) (h2 : knownB (locN (mo + o) s f t / 1440) = true) :
    loc mo o s f t = (locN (mo + o) s f t / 1440, locN (mo + o) s f t % 1440, 0) := by
  unfold loc; rw [if_neg (by rw [h]; simp), if_neg (by rw [h1]; simp), if_neg (by rw [h2]; simp)]
theorem known_1440 {n : Int} (h : knownB (n / 1440) = true) : -210379680 ≤ n ∧ n < 210379680 := by
  obtain ⟨a, b⟩ := knownB_true h
  omega
theorem not_known_1440 {n : Int} (h : n < -210379680 ∨ 210379680 ≤ n) : knownB (n / 1440) = false := by
  refine knownB_not fun ⟨a, b⟩ => ?_
  omega
theorem ret_loc {a b c : Int} {x : Int × Int × Int} (h : x = (a, b, c)) : Ending.returned (.tuple #[.int .i64 a, .int .i64 b, .int .i64 c]) = .returned (.tuple #[.int .i64 x.1, .int .i64 x.2.1, .int .i64 x.2.2]) := by rw [h]
set_option maxHeartbeats 4000000 in
theorem local_any (mo o s f t : Int) (w : World) (hm1 : -9223372036854775808 ≤ mo) (hm2 : mo ≤ 9223372036854775807) :
    Calls Tryd.prog 26 #[.int .i64 mo, .agg #[.int .i64 o, .int .i64 s, .int .i64 f, .int .i64 t]] w fun e w' =>
      e = .returned (.tuple #[.int .i64 (loc mo o s f t).1, .int .i64 (loc mo o s f t).2.1, .int .i64 (loc mo o s f t).2.2]) ∧ Below w.heap.size w w' := by
  have hbx := (Below.refl w.heap.size w).alloc (Nat.le_refl _) (.cells #[.int .i64 o, .int .i64 s, .int .i64 f, .int .i64 t] 39)
  cases hz : zok o s f t
  · have HL := Lib.hid (loc_bad (mo := mo) hz)
    go_enter Tryd.func26, Tryd.ntmps26
    go_wp2_with (go_at_call 48; refine (valid_any _ _ _ _ _).mono ?_; rintro e w1 ⟨rfl, hb1⟩)
    go_ret3
    exact ⟨ret_loc HL.out, hbx.trans (hb1.mono hbx.size)⟩
  obtain ⟨z1, z2, z3, z4, z5, z6, z7⟩ := zok_iff.1 hz
  by_cases c1 : mo < -210382560
  · have HL := Lib.hid (loc_out hz (not_known_1440 (n := mo + o) (by omega)))
    go_enter Tryd.func26, Tryd.ntmps26
    go_wp2_with (go_at_call 48; refine (valid_any _ _ _ _ _).mono ?_; rintro e w1 ⟨rfl, hb1⟩)
    go_ret3
    exact ⟨ret_loc HL.out, hbx.trans (hb1.mono hbx.size)⟩
  by_cases c2 : 210382560 < mo
  · have HL := Lib.hid (loc_out hz (not_known_1440 (n := mo + o) (by omega)))
    go_enter Tryd.func26, Tryd.ntmps26
    go_wp2_with (go_at_call 48; refine (valid_any _ _ _ _ _).mono ?_; rintro e w1 ⟨rfl, hb1⟩)
    go_ret3
    exact ⟨ret_loc HL.out, hbx.trans (hb1.mono hbx.size)⟩
  have hbb := Below.refl (w.heap.size + 1) (w.alloc (.cells #[.int .i64 o, .int .i64 s, .int .i64 f, .int .i64 t] 39))
  have bc := trivial
  cases hk : knownB ((mo + o) / 1440)
  · have HL := Lib.hid (loc_out hz hk)
    go_enter Tryd.func26, Tryd.ntmps26
    go_wp2_with (first
      | (go_at_call 48; refine (valid_any _ _ _ _ _).mono ?_; rintro e w1 ⟨rfl, hb1⟩; have hbb := step_box hbb hb1; clear hb1 bc; have bc := box_cell hbb)
      | (go_at_call 49; refine (floor_any _ _ (by omega) (by omega)).mono ?_; rintro e w' ⟨rfl, rfl⟩)
      | (go_at_call 36; refine (known_any _ _).mono ?_; rintro e w' ⟨rfl, rfl⟩)
      | (go_at_call 11; refine (civil_any _ _).mono ?_; rintro e w1 ⟨rfl, hb1⟩; have hbb := step_box hbb hb1; clear hb1 bc; have bc := box_cell hbb)
      | (go_at_call 37; refine (first_any _ _ (by omega) (by omega)).mono ?_; rintro e w1 ⟨rfl, hb1⟩; have hbb := step_box hbb hb1; clear hb1 bc; have bc := box_cell hbb))
    go_ret3
    exact ⟨ret_loc HL.out, of_box hbb⟩
  obtain ⟨y1, y2, _⟩ := Cal.civil_range (knownB_true hk)
  have yb := Cal.fst_bd (Cal.cy ((mo + o) / 1440)) y1 (by omega)
  have dk := knownB_true hk
  obtain ⟨d1, d2⟩ := dk
  have HY : Hid (yday (mo + o) = (mo + o) / 1440 - Cal.fst (Cal.cy ((mo + o) / 1440)) + 1) := rfl
  have HK := Lib.hid hk
  by_cases c3 : f ≤ (mo + o) / 1440 - Cal.fst (Cal.cy ((mo + o) / 1440)) + 1
  · by_cases c4 : (mo + o) / 1440 - Cal.fst (Cal.cy ((mo + o) / 1440)) + 1 < t
    · have HN : Hid (locN (mo + o) s f t = mo + o + s) := by unfold Hid locN; rw [if_pos]; rw [HY.out]; exact ⟨c3, c4⟩
      cases hk2 : knownB ((mo + o + s) / 1440)
      · have HL := Lib.hid (loc_out2 (mo := mo) hz HK.out (by rw [HN.out]; exact hk2))
        go_enter Tryd.func26, Tryd.ntmps26
        go_wp2_with (first
          | (go_at_call 48; refine (valid_any _ _ _ _ _).mono ?_; rintro e w1 ⟨rfl, hb1⟩; have hbb := step_box hbb hb1; clear hb1 bc; have bc := box_cell hbb)
          | (go_at_call 49; refine (floor_any _ _ (by omega) (by omega)).mono ?_; rintro e w' ⟨rfl, rfl⟩)
          | (go_at_call 36; refine (known_any _ _).mono ?_; rintro e w' ⟨rfl, rfl⟩)
          | (go_at_call 11; refine (civil_any _ _).mono ?_; rintro e w1 ⟨rfl, hb1⟩; have hbb := step_box hbb hb1; clear hb1 bc; have bc := box_cell hbb)
          | (go_at_call 37; refine (first_any _ _ (by omega) (by omega)).mono ?_; rintro e w1 ⟨rfl, hb1⟩; have hbb := step_box hbb hb1; clear hb1 bc; have bc := box_cell hbb))
        go_ret3
        exact ⟨ret_loc HL.out, of_box hbb⟩
      · have HL := Lib.hid ((loc_ok (mo := mo) hz HK.out (by rw [HN.out]; exact hk2)).trans (by rw [HN.out]))
        go_enter Tryd.func26, Tryd.ntmps26
        go_wp2_with (first
          | (go_at_call 48; refine (valid_any _ _ _ _ _).mono ?_; rintro e w1 ⟨rfl, hb1⟩; have hbb := step_box hbb hb1; clear hb1 bc; have bc := box_cell hbb)
          | (go_at_call 49; refine (floor_any _ _ (by omega) (by omega)).mono ?_; rintro e w' ⟨rfl, rfl⟩)
          | (go_at_call 36; refine (known_any _ _).mono ?_; rintro e w' ⟨rfl, rfl⟩)
          | (go_at_call 11; refine (civil_any _ _).mono ?_; rintro e w1 ⟨rfl, hb1⟩; have hbb := step_box hbb hb1; clear hb1 bc; have bc := box_cell hbb)
          | (go_at_call 37; refine (first_any _ _ (by omega) (by omega)).mono ?_; rintro e w1 ⟨rfl, hb1⟩; have hbb := step_box hbb hb1; clear hb1 bc; have bc := box_cell hbb))
        go_ret3
        exact ⟨ret_loc HL.out, of_box hbb⟩
    · have HN : Hid (locN (mo + o) s f t = mo + o) := by unfold Hid locN; rw [if_neg]; rw [HY.out]; exact fun h => c4 h.2
      · have HL := Lib.hid ((loc_ok (mo := mo) hz HK.out (by rw [HN.out]; exact HK.out)).trans (by rw [HN.out]))
        go_enter Tryd.func26, Tryd.ntmps26
        go_wp2_with (first
          | (go_at_call 48; refine (valid_any _ _ _ _ _).mono ?_; rintro e w1 ⟨rfl, hb1⟩; have hbb := step_box hbb hb1; clear hb1 bc; have bc := box_cell hbb)
          | (go_at_call 49; refine (floor_any _ _ (by omega) (by omega)).mono ?_; rintro e w' ⟨rfl, rfl⟩)
          | (go_at_call 36; refine (known_any _ _).mono ?_; rintro e w' ⟨rfl, rfl⟩)
          | (go_at_call 11; refine (civil_any _ _).mono ?_; rintro e w1 ⟨rfl, hb1⟩; have hbb := step_box hbb hb1; clear hb1 bc; have bc := box_cell hbb)
          | (go_at_call 37; refine (first_any _ _ (by omega) (by omega)).mono ?_; rintro e w1 ⟨rfl, hb1⟩; have hbb := step_box hbb hb1; clear hb1 bc; have bc := box_cell hbb))
        go_ret3
        exact ⟨ret_loc HL.out, of_box hbb⟩
  · have HN : Hid (locN (mo + o) s f t = mo + o) := by unfold Hid locN; rw [if_neg]; rw [HY.out]; exact fun h => c3 h.1
    · have HL := Lib.hid ((loc_ok (mo := mo) hz HK.out (by rw [HN.out]; exact HK.out)).trans (by rw [HN.out]))
      go_enter Tryd.func26, Tryd.ntmps26
      go_wp2_with (first
        | (go_at_call 48; refine (valid_any _ _ _ _ _).mono ?_; rintro e w1 ⟨rfl, hb1⟩; have hbb := step_box hbb hb1; clear hb1 bc; have bc := box_cell hbb)
        | (go_at_call 49; refine (floor_any _ _ (by omega) (by omega)).mono ?_; rintro e w' ⟨rfl, rfl⟩)
        | (go_at_call 36; refine (known_any _ _).mono ?_; rintro e w' ⟨rfl, rfl⟩)
        | (go_at_call 11; refine (civil_any _ _).mono ?_; rintro e w1 ⟨rfl, hb1⟩; have hbb := step_box hbb hb1; clear hb1 bc; have bc := box_cell hbb)
        | (go_at_call 37; refine (first_any _ _ (by omega) (by omega)).mono ?_; rintro e w1 ⟨rfl, hb1⟩; have hbb := step_box hbb hb1; clear hb1 bc; have bc := box_cell hbb))
      go_ret3
      exact ⟨ret_loc HL.out, of_box hbb⟩
end Go.Proofs.YtlfgjpidamkpdaaDoor
