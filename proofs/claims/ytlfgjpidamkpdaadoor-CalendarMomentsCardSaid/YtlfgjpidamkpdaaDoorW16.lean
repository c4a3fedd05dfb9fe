/- Moments of the reference. -/
import Derived.Test.YtlfgjpidamkpdaaDoorW15
namespace Go.Proofs.YtlfgjpidamkpdaaDoor
open Go.RowKit
theorem own_below {w w' : World} {base n : Nat} {e : TypeId} {v : Value} {xs : List Value} (h : w.ownsRow base e 1 v n xs) (hb : Below w.heap.size w w') : w'.ownsRow base e 1 v n xs :=
  h.kept (row := none) ⟨hb.os, hb.tape, hb.output, hb.size, fun i hi _ => hb.block i hi⟩ (by cases v <;> simp [Value.ownBlock]; rename_i a _ _; cases a <;> simp)
theorem hit_no {n day mi o s f t : Int} (hB : hitB n day mi o s f t = false) :
    ((loc n o s f t).2.2 == 0) = false ∨ (((loc n o s f t).2.2 == 0) = true ∧ ((loc n o s f t).1 == day) = false) ∨ (((loc n o s f t).2.2 == 0) = true ∧ ((loc n o s f t).1 == day) = true ∧ ((loc n o s f t).2.1 == mi) = false) := by
  unfold hitB at hB
  by_cases h1 : (loc n o s f t).2.2 = 0
  · by_cases h2 : (loc n o s f t).1 = day
    · by_cases h3 : (loc n o s f t).2.1 = mi
      · simp [h1, h2, h3] at hB
      · exact .inr (.inr ⟨beq_iff_eq.2 h1, beq_iff_eq.2 h2, beq_eq_false_iff_ne.2 h3⟩)
    · exact .inr (.inl ⟨beq_iff_eq.2 h1, beq_eq_false_iff_ne.2 h2⟩)
  · exact .inl (beq_eq_false_iff_ne.2 h1)
theorem hit_yes {n day mi o s f t : Int} (hB : hitB n day mi o s f t = true) : loc n o s f t = (day, mi, 0) := by
  unfold hitB at hB
  simp only [Bool.and_eq_true, decide_eq_true_eq] at hB
  obtain ⟨⟨h1, h2⟩, h3⟩ := hB
  exact Prod.ext h2 (Prod.ext h3 h1)
noncomputable def rmL (day mi o s f t : Int) : Nat → List Int
  | 0 => []
  | k + 1 => rmL day mi o s f t k ++ (if hitB (1440 * day + mi - o - 120 + k) day mi o s f t then [1440 * day + mi - o - 120 + k] else [])
theorem rmL_len (day mi o s f t : Int) : ∀ k, (rmL day mi o s f t k).length ≤ k
  | 0 => Nat.le_refl _
  | k + 1 => by
    have := rmL_len day mi o s f t k
    unfold rmL
    rw [List.length_append]
    split <;> simp <;> omega
set_option maxHeartbeats 4000000 in
theorem rMoments_ok (day mi o s f t : Int) (w : World) (hz : zok o s f t = true) (hk : knownB day = true) (h0 : 0 ≤ mi) (h1 : mi ≤ 1439) :
    Calls Tryd.prog 30 #[.int .i64 day, .int .i64 mi, .agg #[.int .i64 o, .int .i64 s, .int .i64 f, .int .i64 t]] w fun e w' => SlRes (rmL day mi o s f t 121) 0 w w' e := by
  obtain ⟨z1, z2, z3, z4, z5, z6, z7⟩ := zok_iff.1 hz
  have dk := knownB_true hk
  obtain ⟨d1, d2⟩ := dk
  have hbb := Below.refl (w.heap.size + 1) (w.alloc (.cells #[.int .i64 o, .int .i64 s, .int .i64 f, .int .i64 t] 41))
  go_enter Tryd.func30, Tryd.ntmps30
  go_wp2_with (first
    | (go_at_call 50; refine (proper_any _ _ _ _ _).mono ?_; rintro e w1 ⟨rfl, hb1⟩; have hbb := step_box hbb hb1; clear hb1)
    | (go_at_call 39; refine (rKnown_any _ _).mono ?_; rintro e w1 ⟨rfl, rfl⟩))
  go_loopw [8, 9] (fun v i wr => ∃ k : Nat, k ≤ 121 ∧ i = .int .i64 k ∧ wr.ownsRow (w.heap.size + 1) 3 1 v (rmL day mi o s f t k).length (intVals (rmL day mi o s f t k)) ∧ Below (w.heap.size + 1) (w.alloc (.cells #[.int .i64 o, .int .i64 s, .int .i64 f, .int .i64 t] 41)) wr) (fun _ i _ => 121 - (intOf i).toNat)
  case atStart => exact ⟨0, by omega, rfl, ⟨by simp [intVals, rmL], .inl ⟨rfl, rfl⟩⟩, hbb⟩
  case round =>
    obtain ⟨k, hkk, rfl, hown, hbb⟩ := hrel
    have hlen := rmL_len day mi o s f t k
    obtain ⟨A, c, rfl⟩ := own_form hown
    have bc := box_cell hbb
    by_cases hlt : k ≤ 120
    · have HR : Hid (rmL day mi o s f t (k + 1) = rmL day mi o s f t k ++ (if hitB (1440 * day + mi - o - 120 + k) day mi o s f t then [1440 * day + mi - o - 120 + k] else [])) := rfl
      have hsz := hbb.size
      simp only [World.size_alloc] at hsz
      cases hB : hitB (1440 * day + mi - o - 120 + k) day mi o s f t
      · rw [hB] at HR
        have hh := hit_no hB
        generalize hD : (loc (1440 * day + mi - o - 120 + k) o s f t).1 = D at hh
        generalize hM : (loc (1440 * day + mi - o - 120 + k) o s f t).2.1 = M at hh
        generalize hE : (loc (1440 * day + mi - o - 120 + k) o s f t).2.2 = E at hh
        have HD := Lib.hid hD; have HM := Lib.hid hM; have HE := Lib.hid hE
        clear hD hM hE hB
        have step : ∀ w2 : World, Below wr.heap.size wr w2 → w2.ownsRow (w.heap.size + 1) 3 1 (.slice A (rmL day mi o s f t k).length c) (rmL day mi o s f t (k + 1)).length (intVals (rmL day mi o s f t (k + 1))) := fun w2 hb => by
          rw [HR.out]
          simp only [Bool.false_eq_true, if_false, List.append_nil]
          exact own_below hown hb
        have step := Lib.hid step
        have hbb' : ∀ w2 : World, Below wr.heap.size wr w2 → Below (w.heap.size + 1) (w.alloc (.cells #[.int .i64 o, .int .i64 s, .int .i64 f, .int .i64 t] 41)) w2 := fun w2 hb => step_box hbb hb
        have hbb' := Lib.hid hbb'
        have hlen' : (rmL day mi o s f t (k + 1)).length = (rmL day mi o s f t k).length := by rw [HR.out]; simp
        have hlen' := Lib.hid hlen'
        clear hbb hown
        rcases hh with h1 | ⟨h1, h2⟩ | ⟨h1, h2, h3⟩
        all_goals
          go_wp2_with (go_at_call 27; refine (rLocal_any _ _ _ _ _ _ (by omega) (by omega)).mono ?_; rintro e w2 ⟨rfl, hb2⟩; rw [HD.out, HM.out, HE.out])
          go_roundw
          case rel => exact ⟨k + 1, by omega, by go_num, step.out _ hb2, hbb'.out _ hb2⟩
          case measure => simp [intOf]; omega
      · rw [hB] at HR
        have HL := Lib.hid (hit_yes hB)
        have HI := Lib.hid (info_parts int_info)
        have HO := Lib.hid hown
        clear hB hown
        go_wp2_with (first
          | (go_at_call 27; refine (rLocal_any _ _ _ _ _ _ (by omega) (by omega)).mono ?_; rintro e w2 ⟨rfl, hb2⟩; rw [HL.out]; have hbb := step_box hbb hb2; have hsz2 := hb2.size; have hown2 := own_below HO.out hb2; clear hb2 bc)
          | (at_builtin
             obtain ⟨i0, hi0, hi1, hi2, hi3⟩ := HI.out
             refine wpList_append_any _ rfl (.tmp 61) (.tmp 63) 23 rfl (w.heap.size + 1) 3 i0 _ 1 8 Tryd.underlying23 hi0 hi1 hi2 hi3 rfl (by omega) (.slice A (rmL day mi o s f t k).length c) (rmL day mi o s f t k).length (intVals (rmL day mi o s f t k)) rfl
               (hown2.alloc _) (w2.heap.size + 1) (some ⟨w2.heap.size, 0, none⟩) 1 1 [.int .i64 (1440 * day + mi - o - 120 + ↑k)] rfl (reads_lit w2 3 _) (by simp [Value.oneCell']) (by unfold maxLen; omega) (by omega) (by simp only [World.size_alloc]; omega) ?_
             intro v3 w3 hown3 hg3 hat3
             have hb3 := (hbb.alloc (by omega) (.cells #[.int .i64 (1440 * day + mi - o - 120 + ↑k)] 3)).grown hg3 (by simp only [World.size_alloc]; omega) (fun g he => (hown2.lt g he).1)
             clear hi0 hi1 hi2 hi3 hat3 hg3))
        go_roundw
        case rel => exact ⟨k + 1, by omega, by go_num, by rw [HR.out]; simp only [if_true, intVals_append, List.length_append]; exact hown3, hb3⟩
        case measure => simp [intOf]; omega
    · go_wp2_with fail
      obtain rfl : k = 121 := by omega
      go_ret2
      exact ⟨A, c, rfl, own_ints hown, of_box hbb⟩
end Go.Proofs.YtlfgjpidamkpdaaDoor
