/- Zones and local times, of the calendar and of the reference. -/
import Derived.Test.YtlfgjpidamkpdaaDoorW10
namespace Go.Proofs.YtlfgjpidamkpdaaDoor
open Go.RowKit
def zok (o s f t : Int) : Bool := decide (-900 ≤ o) && decide (o ≤ 900) && decide (0 ≤ s) && decide (s ≤ 120) && decide (1 ≤ f) && decide (t ≤ 367) && decide (f ≤ t)
theorem zok_iff {o s f t : Int} : zok o s f t = true ↔ -900 ≤ o ∧ o ≤ 900 ∧ 0 ≤ s ∧ s ≤ 120 ∧ 1 ≤ f ∧ t ≤ 367 ∧ f ≤ t := by
  unfold zok; simp only [Bool.and_eq_true, decide_eq_true_eq]; omega
def zone (o s f t : Int) : Value := .agg #[.int .i64 o, .int .i64 s, .int .i64 f, .int .i64 t]
theorem zok_t {o s f t : Int} (h : -900 ≤ o ∧ o ≤ 900 ∧ 0 ≤ s ∧ s ≤ 120 ∧ 1 ≤ f ∧ t ≤ 367 ∧ f ≤ t) : zok o s f t = true := zok_iff.2 h
theorem zok_f {o s f t : Int} (h : ¬ (-900 ≤ o ∧ o ≤ 900 ∧ 0 ≤ s ∧ s ≤ 120 ∧ 1 ≤ f ∧ t ≤ 367 ∧ f ≤ t)) : zok o s f t = false := by
  cases e : zok o s f t
  · rfl
  · exact absurd (zok_iff.1 e) h
set_option maxHeartbeats 4000000 in
theorem valid_any (o s f t : Int) (w : World) :
    Calls Tryd.prog 48 #[.agg #[.int .i64 o, .int .i64 s, .int .i64 f, .int .i64 t]] w fun e w' => e = .returned (.bool (zok o s f t)) ∧ Below w.heap.size w w' := by
  by_cases c1 : -900 ≤ o
  · by_cases c2 : o ≤ 900
    · by_cases c3 : 0 ≤ s
      · by_cases c4 : s ≤ 120
        · by_cases c5 : 1 ≤ f
          · by_cases c6 : t ≤ 367
            · by_cases c7 : f ≤ t
              · have H := Lib.hid (zok_t ⟨c1, c2, c3, c4, c5, c6, c7⟩)
                go_enter Tryd.func48, Tryd.ntmps48
                go_wp2
                go_ret
                exact ⟨ret_bool H.out.symm, by go_grown⟩
              · have H := Lib.hid (zok_f (fun h : _ ∧ _ ∧ _ ∧ _ ∧ _ ∧ _ ∧ f ≤ t => c7 h.2.2.2.2.2.2) : zok o s f t = false)
                go_enter Tryd.func48, Tryd.ntmps48
                go_wp2
                go_ret
                exact ⟨ret_bool H.out.symm, by go_grown⟩
            · have H := Lib.hid (zok_f (fun h => c6 h.2.2.2.2.2.1) : zok o s f t = false)
              go_enter Tryd.func48, Tryd.ntmps48
              go_wp2
              go_ret
              exact ⟨ret_bool H.out.symm, by go_grown⟩
          · have H := Lib.hid (zok_f (fun h => c5 h.2.2.2.2.1) : zok o s f t = false)
            go_enter Tryd.func48, Tryd.ntmps48
            go_wp2
            go_ret
            exact ⟨ret_bool H.out.symm, by go_grown⟩
        · have H := Lib.hid (zok_f (fun h => c4 h.2.2.2.1) : zok o s f t = false)
          go_enter Tryd.func48, Tryd.ntmps48
          go_wp2
          go_ret
          exact ⟨ret_bool H.out.symm, by go_grown⟩
      · have H := Lib.hid (zok_f (fun h => c3 h.2.2.1) : zok o s f t = false)
        go_enter Tryd.func48, Tryd.ntmps48
        go_wp2
        go_ret
        exact ⟨ret_bool H.out.symm, by go_grown⟩
    · have H := Lib.hid (zok_f (fun h => c2 h.2.1) : zok o s f t = false)
      go_enter Tryd.func48, Tryd.ntmps48
      go_wp2
      go_ret
      exact ⟨ret_bool H.out.symm, by go_grown⟩
  · have H := Lib.hid (zok_f (fun h => c1 h.1) : zok o s f t = false)
    go_enter Tryd.func48, Tryd.ntmps48
    go_wp2
    go_ret
    exact ⟨ret_bool H.out.symm, by go_grown⟩
set_option maxHeartbeats 4000000 in
theorem proper_any (o s f t : Int) (w : World) :
    Calls Tryd.prog 50 #[.agg #[.int .i64 o, .int .i64 s, .int .i64 f, .int .i64 t]] w fun e w' => e = .returned (.bool (zok o s f t)) ∧ Below w.heap.size w w' := by
  by_cases c1 : -900 ≤ o
  · by_cases c2 : o ≤ 900
    · by_cases c3 : 0 ≤ s
      · by_cases c4 : s ≤ 120
        · by_cases c5 : 1 ≤ f
          · by_cases c7 : f ≤ t
            · by_cases c6 : t ≤ 367
              · have H := Lib.hid (zok_t ⟨c1, c2, c3, c4, c5, c6, c7⟩)
                go_enter Tryd.func50, Tryd.ntmps50
                go_wp2
                go_ret
                exact ⟨ret_bool H.out.symm, by go_grown⟩
              · have H := Lib.hid (zok_f (fun h => c6 h.2.2.2.2.2.1) : zok o s f t = false)
                go_enter Tryd.func50, Tryd.ntmps50
                go_wp2
                go_ret
                exact ⟨ret_bool H.out.symm, by go_grown⟩
            · have H := Lib.hid (zok_f (fun h => c7 h.2.2.2.2.2.2) : zok o s f t = false)
              go_enter Tryd.func50, Tryd.ntmps50
              go_wp2
              go_ret
              exact ⟨ret_bool H.out.symm, by go_grown⟩
          · have H := Lib.hid (zok_f (fun h => c5 h.2.2.2.2.1) : zok o s f t = false)
            go_enter Tryd.func50, Tryd.ntmps50
            go_wp2
            go_ret
            exact ⟨ret_bool H.out.symm, by go_grown⟩
        · have H := Lib.hid (zok_f (fun h => c4 h.2.2.2.1) : zok o s f t = false)
          go_enter Tryd.func50, Tryd.ntmps50
          go_wp2
          go_ret
          exact ⟨ret_bool H.out.symm, by go_grown⟩
      · have H := Lib.hid (zok_f (fun h => c3 h.2.2.1) : zok o s f t = false)
        go_enter Tryd.func50, Tryd.ntmps50
        go_wp2
        go_ret
        exact ⟨ret_bool H.out.symm, by go_grown⟩
    · have H := Lib.hid (zok_f (fun h => c2 h.2.1) : zok o s f t = false)
      go_enter Tryd.func50, Tryd.ntmps50
      go_wp2
      go_ret
      exact ⟨ret_bool H.out.symm, by go_grown⟩
  · have H := Lib.hid (zok_f (fun h => c1 h.1) : zok o s f t = false)
    go_enter Tryd.func50, Tryd.ntmps50
    go_wp2
    go_ret
    exact ⟨ret_bool H.out.symm, by go_grown⟩
theorem tdiv_neg_1440 (n : Int) (h : n < 0) : n.tdiv 1440 = -((-n) / 1440) ∧ n.tmod 1440 = -((-n) % 1440) := by
  constructor
  · rw [← Int.tdiv_eq_ediv_of_nonneg (by omega), Int.neg_tdiv, Int.neg_neg]
  · rw [← Int.tmod_eq_emod_of_nonneg (by omega), Int.neg_tmod, Int.neg_neg]
set_option maxHeartbeats 1000000 in
theorem floor_any (n : Int) (w : World) (h1 : -1000000000000 ≤ n) (h2 : n ≤ 1000000000000) :
    Calls Tryd.prog 49 #[.int .i64 n] w fun e w' => e = .returned (.tuple #[.int .i64 (n / 1440), .int .i64 (n % 1440)]) ∧ w = w' := by
  by_cases h0 : 0 ≤ n
  · go_enter Tryd.func49, Tryd.ntmps49
    go_wp2
    go_ret2
    exact ⟨ret_pair rfl (by omega), rfl⟩
  · have ht := (tdiv_neg_1440 n (by omega)).1
    have hm := (tdiv_neg_1440 n (by omega)).2
    have b1 : -800000000 ≤ n.tdiv 1440 := by omega
    have b2 : n.tdiv 1440 ≤ 0 := by omega
    have HT := Lib.hid ht
    have HM := Lib.hid hm
    by_cases hz : (-n) % 1440 = 0
    · have hmz : ¬ n.tmod 1440 < 0 := by omega
      have b3 : 1440 * n.tdiv 1440 = n := by omega
      have B3 := Lib.hid b3
      clear ht hm b3
      go_enter Tryd.func49, Tryd.ntmps49
      go_wp2
      go_ret2
      exact ⟨ret_pair (by have := HT.out; omega) (by have := HT.out; omega), rfl⟩
    · have hmz : n.tmod 1440 < 0 := by omega
      clear ht hm
      go_enter Tryd.func49, Tryd.ntmps49
      go_wp2
      go_ret2
      exact ⟨ret_pair (by have := HT.out; omega) (by have := HT.out; omega), rfl⟩
set_option maxHeartbeats 1000000 in
theorem dayOf_any (n : Int) (w : World) (h1 : -1000000000000 ≤ n) (h2 : n ≤ 1000000000000) :
    Calls Tryd.prog 51 #[.int .i64 n] w fun e w' => e = .returned (.int .i64 (n / 1440)) ∧ w = w' := by
  have e1 : n - n % 1440 = 1440 * (n / 1440) := by omega
  have HE : Hid ((n - n % 1440).tdiv 1440 = n / 1440) := by
    show (n - n % 1440).tdiv 1440 = n / 1440
    rw [e1, Int.mul_tdiv_cancel_left _ (by decide)]
  have b1 : 0 ≤ n % 1440 := by omega
  have b2 : n % 1440 < 1440 := by omega
  clear e1
  by_cases h0 : 0 ≤ n - n % 1440
  · have b3 : (n - n % 1440) / 1440 = n / 1440 := by omega
    have B3 := Lib.hid b3
    clear b3
    go_enter Tryd.func51, Tryd.ntmps51
    go_wp2_with (go_at_call 42; refine (modulo_any _ _ _ (by omega) (by omega) (by omega) (by omega)).mono ?_; rintro e w' ⟨rfl, rfl⟩)
    go_ret
    exact ⟨ret_int B3.out, rfl⟩
  · go_enter Tryd.func51, Tryd.ntmps51
    go_wp2_with (go_at_call 42; refine (modulo_any _ _ _ (by omega) (by omega) (by omega) (by omega)).mono ?_; rintro e w' ⟨rfl, rfl⟩)
    go_ret
    exact ⟨ret_int HE.out, rfl⟩
end Go.Proofs.YtlfgjpidamkpdaaDoor
