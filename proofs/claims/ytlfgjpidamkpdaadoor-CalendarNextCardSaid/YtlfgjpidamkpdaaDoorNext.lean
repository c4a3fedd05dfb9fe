/- The statement CalendarNext: the walk. -/
import Derived.Test.YtlfgjpidamkpdaaDoorW24
import Derived.Test.YtlfgjpidamkpdaaDoorPlain4
import Derived.Laws.Cover1
namespace Go.Proofs.YtlfgjpidamkpdaaDoor
open Go.RowKit
theorem civil_v {day y m d : Int} (w : World) (h : Hid (Cal.cy day = y ∧ Cal.cm day = m ∧ Cal.cd day = d)) :
    Calls Tryd.prog 11 #[.int .i64 day] w fun e w' => e = .returned (.tuple #[.int .i64 y, .int .i64 m, .int .i64 d]) ∧ Below w.heap.size w w' := by
  obtain ⟨rfl, rfl, rfl⟩ := h.out; exact civil_any day w
theorem wd_v {day x : Int} (w : World) (h : Hid (Cal.wd day = x)) (h1 : -9223372036854775808 ≤ day) (h2 : day ≤ 9223372036854775807) :
    Calls Tryd.prog 13 #[.int .i64 day] w fun e w' => e = .returned (.int .i64 x) ∧ w = w' := by
  rw [← h.out]; exact weekday_any day w h1 h2
theorem text_v {day : Int} {T : ByteArray} (w : World) (h : Hid (T = ⟨(Cal.txt day).toArray⟩)) (ht : TEnv w) :
    Calls Tryd.prog 15 #[.int .i64 day] w fun e w' => e = .returned (.string T) ∧ Below w.heap.size w w' := by
  rw [h.out]; exact text_any day w ht
theorem parse_v {day : Int} {T : ByteArray} (w : World) (h : Hid (T = ⟨(Cal.txt day).toArray⟩)) (hk : Hid (Cal.known day)) (ht : TEnv w) :
    Calls Tryd.prog 22 #[.string T] w fun e w' => e = .returned (.tuple #[.int .i64 day, .int .i64 0]) ∧ Below w.heap.size w w' := by
  obtain ⟨a, b⟩ := Cal.par_ok hk.out
  have hs : T.size ≤ 9223372036854775807 := by
    have := (Cal.txt_parts hk.out).2.2.2.1
    rw [h.out, ByteArray.size]; simp [this]
  have := parse_any T w ht hs
  rw [h.out] at this ⊢
  simp only at this
  rwa [a, b] at this
theorem day_v {day y m d : Int} (w : World) (h : Hid (Cal.cy day = y ∧ Cal.cm day = m ∧ Cal.cd day = d)) (hk : Hid (Cal.known day)) :
    Calls Tryd.prog 18 #[.int .i64 y, .int .i64 m, .int .i64 d] w fun e w' => e = .returned (.tuple #[.int .i64 day, .int .i64 0]) ∧ Below w.heap.size w w' := by
  obtain ⟨rfl, rfl, rfl⟩ := h.out
  obtain ⟨hv, hn⟩ := Cal.civil_is hk.out
  have hr := Cal.civil_range hk.out
  have := day_any (Cal.cy day) (Cal.cm day) (Cal.cd day) w (by omega)
  rw [show Cal.dayV (Cal.cy day) (Cal.cm day) (Cal.cd day) = day by unfold Cal.dayV; rw [if_pos hv, hn], show Cal.dayE (Cal.cy day) (Cal.cm day) (Cal.cd day) = 0 by unfold Cal.dayE; rw [if_pos hv]] at this
  exact this
theorem bytes_list (l : List UInt8) : (ByteArray.mk l.toArray).toList = l := by rw [ByteArray.toList_eq]
theorem some_v {n day : Int} (w : World) (h : Hid (som n = day)) (h1 : -9223372036854775808 ≤ n) (h2 : n ≤ 9223372036854775807) :
    Calls Tryd.prog 10 #[.int .i64 n] w fun e w' => e = .returned (.int .i64 day) ∧ Below w.heap.size w w' := by
  rw [← h.out]; exact some_any n w h1 h2
set_option maxRecDepth 10000 in
set_option maxHeartbeats 8000000 in
theorem next_a (n day y m d W : Int) (T T1 : ByteArray) (w : World) (ht : TEnv w) (n1 : -9223372036854775808 ≤ n) (n2 : n ≤ 9223372036854775807) (hday : Hid (som n = day)) (s1 : -146097 ≤ day) (s2 : day ≤ 146096)
    (y1 : 1600 ≤ y) (y2 : y ≤ 2399) (m1 : 1 ≤ m) (m2 : m ≤ 12) (d1 : 1 ≤ d) (d2 : d ≤ 31) (W1 : 0 ≤ W) (W2 : W ≤ 6)
    (hc : Hid (Cal.cy day = y ∧ Cal.cm day = m ∧ Cal.cd day = d)) (hT : Hid (T = ⟨(Cal.txt day).toArray⟩)) (hW : Hid (Cal.wd day = W)) (hk : Hid (Cal.known day))
    (h1 : day < 146096) (hc1 : Hid (Cal.cy (day + 1) = y ∧ Cal.cm (day + 1) = m ∧ Cal.cd (day + 1) = d + 1)) (hT1 : Hid (T1 = ⟨(Cal.txt (day + 1)).toArray⟩)) (hW1 : Hid (Cal.wd (day + 1) = (W + 1) % 7))
    (hl : Op.bytesLess T1.toList T.toList = false) (hl2 : (T1.toList == T.toList) = false)
    (hc4 : day < 0 → Hid (Cal.cy (day + 146097) = y + 400 ∧ Cal.cm (day + 146097) = m ∧ Cal.cd (day + 146097) = d)) (hW4 : day < 0 → Hid (Cal.wd (day + 146097) = W)) :
    Calls Tryd.prog 7 #[.int .i64 n] w fun e w' => e = .returned (.bool true) ∧ Below w.heap.size w w' := by
  have hb := Below.refl w.heap.size w
  have hsz := ht.sz
  have ht0 := ht
  by_cases hneg : day < 0
  all_goals
    first | (have hc4 := hc4 hneg; have hW4 := hW4 hneg) | clear hc4 hW4
    go_enter Tryd.func7, Tryd.ntmps7
    go_wp2_with (first
      | (go_at_call 10; refine (some_v _ hday (by omega) (by omega)).mono ?_; rintro e w1 ⟨rfl, hb1⟩; have hb := hb.trans (hb1.mono hb.size); clear hb1; have ht := ht0.below hb hsz)
      | (go_at_call 11; refine (civil_v _ (by assumption)).mono ?_; rintro e w1 ⟨rfl, hb1⟩; have hb := hb.trans (hb1.mono hb.size); clear hb1; have ht := ht0.below hb hsz)
      | (go_at_call 18; refine (day_v _ hc hk).mono ?_; rintro e w1 ⟨rfl, hb1⟩; have hb := hb.trans (hb1.mono hb.size); clear hb1; have ht := ht0.below hb hsz)
      | (go_at_call 15; refine (text_v _ (by assumption) ht).mono ?_; rintro e w1 ⟨rfl, hb1⟩; have hb := hb.trans (hb1.mono hb.size); clear hb1; have ht := ht0.below hb hsz)
      | (go_at_call 22; refine (parse_v _ hT hk ht).mono ?_; rintro e w1 ⟨rfl, hb1⟩; have hb := hb.trans (hb1.mono hb.size); clear hb1; have ht := ht0.below hb hsz)
      | (go_at_call 13; refine (wd_v _ (by assumption) (by omega) (by omega)).mono ?_; rintro e w1 ⟨rfl, rfl⟩)
      | (go_at_call 20; refine (lives_any _ ht).mono ?_; rintro e w1 ⟨rfl, hb1⟩; have hb := hb.trans (hb1.mono hb.size); clear hb1; have ht := ht0.below hb hsz))
    go_ret
    exact ⟨rfl, hb⟩
set_option maxRecDepth 10000 in
set_option maxHeartbeats 8000000 in
theorem next_b (n day y m d W : Int) (T T1 : ByteArray) (w : World) (ht : TEnv w) (n1 : -9223372036854775808 ≤ n) (n2 : n ≤ 9223372036854775807) (hday : Hid (som n = day)) (s1 : -146097 ≤ day) (s2 : day ≤ 146096)
    (y1 : 1600 ≤ y) (y2 : y ≤ 2399) (m1 : 1 ≤ m) (m2 : m ≤ 12) (d1 : 1 ≤ d) (d2 : d ≤ 31) (W1 : 0 ≤ W) (W2 : W ≤ 6)
    (hc : Hid (Cal.cy day = y ∧ Cal.cm day = m ∧ Cal.cd day = d)) (hT : Hid (T = ⟨(Cal.txt day).toArray⟩)) (hW : Hid (Cal.wd day = W)) (hk : Hid (Cal.known day))
    (h1 : day < 146096) (hc1 : Hid (Cal.cy (day + 1) = y ∧ Cal.cm (day + 1) = m + 1 ∧ Cal.cd (day + 1) = 1)) (hT1 : Hid (T1 = ⟨(Cal.txt (day + 1)).toArray⟩)) (hW1 : Hid (Cal.wd (day + 1) = (W + 1) % 7))
    (hl : Op.bytesLess T1.toList T.toList = false) (hl2 : (T1.toList == T.toList) = false)
    (hc4 : day < 0 → Hid (Cal.cy (day + 146097) = y + 400 ∧ Cal.cm (day + 146097) = m ∧ Cal.cd (day + 146097) = d)) (hW4 : day < 0 → Hid (Cal.wd (day + 146097) = W)) :
    Calls Tryd.prog 7 #[.int .i64 n] w fun e w' => e = .returned (.bool true) ∧ Below w.heap.size w w' := by
  have hb := Below.refl w.heap.size w
  have hsz := ht.sz
  have ht0 := ht
  by_cases hneg : day < 0
  all_goals
    first | (have hc4 := hc4 hneg; have hW4 := hW4 hneg) | clear hc4 hW4
    go_enter Tryd.func7, Tryd.ntmps7
    go_wp2_with (first
      | (go_at_call 10; refine (some_v _ hday (by omega) (by omega)).mono ?_; rintro e w1 ⟨rfl, hb1⟩; have hb := hb.trans (hb1.mono hb.size); clear hb1; have ht := ht0.below hb hsz)
      | (go_at_call 11; refine (civil_v _ (by assumption)).mono ?_; rintro e w1 ⟨rfl, hb1⟩; have hb := hb.trans (hb1.mono hb.size); clear hb1; have ht := ht0.below hb hsz)
      | (go_at_call 18; refine (day_v _ hc hk).mono ?_; rintro e w1 ⟨rfl, hb1⟩; have hb := hb.trans (hb1.mono hb.size); clear hb1; have ht := ht0.below hb hsz)
      | (go_at_call 15; refine (text_v _ (by assumption) ht).mono ?_; rintro e w1 ⟨rfl, hb1⟩; have hb := hb.trans (hb1.mono hb.size); clear hb1; have ht := ht0.below hb hsz)
      | (go_at_call 22; refine (parse_v _ hT hk ht).mono ?_; rintro e w1 ⟨rfl, hb1⟩; have hb := hb.trans (hb1.mono hb.size); clear hb1; have ht := ht0.below hb hsz)
      | (go_at_call 13; refine (wd_v _ (by assumption) (by omega) (by omega)).mono ?_; rintro e w1 ⟨rfl, rfl⟩)
      | (go_at_call 20; refine (lives_any _ ht).mono ?_; rintro e w1 ⟨rfl, hb1⟩; have hb := hb.trans (hb1.mono hb.size); clear hb1; have ht := ht0.below hb hsz))
    go_ret
    exact ⟨rfl, hb⟩
set_option maxRecDepth 10000 in
set_option maxHeartbeats 8000000 in
theorem next_c (n day y m d W : Int) (T T1 : ByteArray) (w : World) (ht : TEnv w) (n1 : -9223372036854775808 ≤ n) (n2 : n ≤ 9223372036854775807) (hday : Hid (som n = day)) (s1 : -146097 ≤ day) (s2 : day ≤ 146096)
    (y1 : 1600 ≤ y) (y2 : y ≤ 2399) (m1 : 1 ≤ m) (m2 : m ≤ 12) (d1 : 1 ≤ d) (d2 : d ≤ 31) (W1 : 0 ≤ W) (W2 : W ≤ 6)
    (hc : Hid (Cal.cy day = y ∧ Cal.cm day = 12 ∧ Cal.cd day = d)) (hT : Hid (T = ⟨(Cal.txt day).toArray⟩)) (hW : Hid (Cal.wd day = W)) (hk : Hid (Cal.known day))
    (h1 : day < 146096) (hc1 : Hid (Cal.cy (day + 1) = y + 1 ∧ Cal.cm (day + 1) = 1 ∧ Cal.cd (day + 1) = 1)) (hT1 : Hid (T1 = ⟨(Cal.txt (day + 1)).toArray⟩)) (hW1 : Hid (Cal.wd (day + 1) = (W + 1) % 7))
    (hl : Op.bytesLess T1.toList T.toList = false) (hl2 : (T1.toList == T.toList) = false)
    (hc4 : day < 0 → Hid (Cal.cy (day + 146097) = y + 400 ∧ Cal.cm (day + 146097) = 12 ∧ Cal.cd (day + 146097) = d)) (hW4 : day < 0 → Hid (Cal.wd (day + 146097) = W)) :
    Calls Tryd.prog 7 #[.int .i64 n] w fun e w' => e = .returned (.bool true) ∧ Below w.heap.size w w' := by
  have hb := Below.refl w.heap.size w
  have hsz := ht.sz
  have ht0 := ht
  by_cases hneg : day < 0
  all_goals
    first | (have hc4 := hc4 hneg; have hW4 := hW4 hneg) | clear hc4 hW4
    go_enter Tryd.func7, Tryd.ntmps7
    go_wp2_with (first
      | (go_at_call 10; refine (some_v _ hday (by omega) (by omega)).mono ?_; rintro e w1 ⟨rfl, hb1⟩; have hb := hb.trans (hb1.mono hb.size); clear hb1; have ht := ht0.below hb hsz)
      | (go_at_call 11; refine (civil_v _ (by assumption)).mono ?_; rintro e w1 ⟨rfl, hb1⟩; have hb := hb.trans (hb1.mono hb.size); clear hb1; have ht := ht0.below hb hsz)
      | (go_at_call 18; refine (day_v _ hc hk).mono ?_; rintro e w1 ⟨rfl, hb1⟩; have hb := hb.trans (hb1.mono hb.size); clear hb1; have ht := ht0.below hb hsz)
      | (go_at_call 15; refine (text_v _ (by assumption) ht).mono ?_; rintro e w1 ⟨rfl, hb1⟩; have hb := hb.trans (hb1.mono hb.size); clear hb1; have ht := ht0.below hb hsz)
      | (go_at_call 22; refine (parse_v _ hT hk ht).mono ?_; rintro e w1 ⟨rfl, hb1⟩; have hb := hb.trans (hb1.mono hb.size); clear hb1; have ht := ht0.below hb hsz)
      | (go_at_call 13; refine (wd_v _ (by assumption) (by omega) (by omega)).mono ?_; rintro e w1 ⟨rfl, rfl⟩)
      | (go_at_call 20; refine (lives_any _ ht).mono ?_; rintro e w1 ⟨rfl, hb1⟩; have hb := hb.trans (hb1.mono hb.size); clear hb1; have ht := ht0.below hb hsz))
    go_ret
    exact ⟨rfl, hb⟩
set_option maxRecDepth 10000 in
set_option maxHeartbeats 8000000 in
theorem next_d (n day y m d W : Int) (T T1 : ByteArray) (w : World) (ht : TEnv w) (n1 : -9223372036854775808 ≤ n) (n2 : n ≤ 9223372036854775807) (hday : Hid (som n = day)) (s1 : -146097 ≤ day) (s2 : day ≤ 146096)
    (y1 : 1600 ≤ y) (y2 : y ≤ 2399) (m1 : 1 ≤ m) (m2 : m ≤ 12) (d1 : 1 ≤ d) (d2 : d ≤ 31) (W1 : 0 ≤ W) (W2 : W ≤ 6)
    (hc : Hid (Cal.cy day = y ∧ Cal.cm day = m ∧ Cal.cd day = d)) (hT : Hid (T = ⟨(Cal.txt day).toArray⟩)) (hW : Hid (Cal.wd day = W)) (hk : Hid (Cal.known day))
    (h1 : ¬ day < 146096)
    (hc4 : day < 0 → Hid (Cal.cy (day + 146097) = y + 400 ∧ Cal.cm (day + 146097) = m ∧ Cal.cd (day + 146097) = d)) (hW4 : day < 0 → Hid (Cal.wd (day + 146097) = W)) :
    Calls Tryd.prog 7 #[.int .i64 n] w fun e w' => e = .returned (.bool true) ∧ Below w.heap.size w w' := by
  have hb := Below.refl w.heap.size w
  have hsz := ht.sz
  have ht0 := ht
  have hneg : ¬ day < 0 := by omega
  clear hc4 hW4
  all_goals
    go_enter Tryd.func7, Tryd.ntmps7
    go_wp2_with (first
      | (go_at_call 10; refine (some_v _ hday (by omega) (by omega)).mono ?_; rintro e w1 ⟨rfl, hb1⟩; have hb := hb.trans (hb1.mono hb.size); clear hb1; have ht := ht0.below hb hsz)
      | (go_at_call 11; refine (civil_v _ (by assumption)).mono ?_; rintro e w1 ⟨rfl, hb1⟩; have hb := hb.trans (hb1.mono hb.size); clear hb1; have ht := ht0.below hb hsz)
      | (go_at_call 18; refine (day_v _ hc hk).mono ?_; rintro e w1 ⟨rfl, hb1⟩; have hb := hb.trans (hb1.mono hb.size); clear hb1; have ht := ht0.below hb hsz)
      | (go_at_call 15; refine (text_v _ (by assumption) ht).mono ?_; rintro e w1 ⟨rfl, hb1⟩; have hb := hb.trans (hb1.mono hb.size); clear hb1; have ht := ht0.below hb hsz)
      | (go_at_call 22; refine (parse_v _ hT hk ht).mono ?_; rintro e w1 ⟨rfl, hb1⟩; have hb := hb.trans (hb1.mono hb.size); clear hb1; have ht := ht0.below hb hsz)
      | (go_at_call 13; refine (wd_v _ (by assumption) (by omega) (by omega)).mono ?_; rintro e w1 ⟨rfl, rfl⟩)
      | (go_at_call 20; refine (lives_any _ ht).mono ?_; rintro e w1 ⟨rfl, hb1⟩; have hb := hb.trans (hb1.mono hb.size); clear hb1; have ht := ht0.below hb hsz))
    go_ret
    exact ⟨rfl, hb⟩

theorem next_x (n : Int) (w : World) (ht : TEnv w) (hn : inI n) : Calls Tryd.prog 7 #[.int .i64 n] w fun e w' => e = .returned (.bool true) ∧ Below w.heap.size w w' := by
  have hk := som_known n
  generalize hday : som n = day at hk
  have hr := Cal.civil_range hk
  have hw : 0 ≤ Cal.wd day ∧ Cal.wd day ≤ 6 := wd_bd day
  obtain ⟨r1, r2, r3, r4, r5, r6⟩ := hr
  obtain ⟨T, hT⟩ : ∃ T : ByteArray, T = ⟨(Cal.txt day).toArray⟩ := ⟨_, rfl⟩
  obtain ⟨T1, hT1⟩ : ∃ T : ByteArray, T = ⟨(Cal.txt (day + 1)).toArray⟩ := ⟨_, rfl⟩
  have e0 : T.toList = Cal.txt day := by rw [hT]; exact bytes_list _
  have e1 : T1.toList = Cal.txt (day + 1) := by rw [hT1]; exact bytes_list _
  have k0 := hk
  obtain ⟨ka, kb⟩ := k0
  by_cases h1 : day < 146096
  · have hl := Cal.txt_less hk h1
    have hl2 : (T1.toList == T.toList) = false := by rw [e0, e1]; simpa using Cal.txt_ne hk h1
    rw [← e0, ← e1] at hl
    rcases Cal.civil_next hk h1 with ⟨c1, c2, c3⟩ | ⟨c1, c2, c3⟩ | ⟨c1, c2, c3, c4⟩
    · exact next_a n day _ _ _ _ T T1 w ht hn.1 hn.2 hday ka kb r1 r2 r3 r4 r5 r6 hw.1 hw.2 ⟨rfl, rfl, rfl⟩ hT rfl hk h1 ⟨c1, c2, c3⟩ hT1 (Cal.wd_next hk h1) hl hl2 (fun h => Cal.civil_400 hk h) (fun h => Cal.wd_400 hk h)
    · exact next_b n day _ _ _ _ T T1 w ht hn.1 hn.2 hday ka kb r1 r2 r3 r4 r5 r6 hw.1 hw.2 ⟨rfl, rfl, rfl⟩ hT rfl hk h1 ⟨c1, c2, c3⟩ hT1 (Cal.wd_next hk h1) hl hl2 (fun h => Cal.civil_400 hk h) (fun h => Cal.wd_400 hk h)
    · exact next_c n day _ 12 _ _ T T1 w ht hn.1 hn.2 hday ka kb r1 r2 (by omega) (by omega) r5 r6 hw.1 hw.2 ⟨rfl, c3, rfl⟩ hT rfl hk h1 ⟨c1, c2, c4⟩ hT1 (Cal.wd_next hk h1) hl hl2 (fun h => by have := Cal.civil_400 hk h; rw [c3] at this; exact this) (fun h => Cal.wd_400 hk h)
  · exact next_d n day _ _ _ _ T T1 w ht hn.1 hn.2 hday ka kb r1 r2 r3 r4 r5 r6 hw.1 hw.2 ⟨rfl, rfl, rfl⟩ hT rfl hk h1 (fun h => Cal.civil_400 hk h) (fun h => Cal.wd_400 hk h)
end Go.Proofs.YtlfgjpidamkpdaaDoor
