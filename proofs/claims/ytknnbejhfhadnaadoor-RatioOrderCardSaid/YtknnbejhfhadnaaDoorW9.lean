/- Add, Sub, Compare, Floor. -/
import Derived.Test.YtknnbejhfhadnaaDoorW8
namespace Go.Proofs.YtknnbejhfhadnaaDoor
open Go.RowKit
set_option maxHeartbeats 4000000 in
theorem add_any (P Q P' Q' : Int) (w : World) (hP : inI P) (hQ : inI Q) (hP' : inI P') (hQ' : inI Q') : Calls Tryd.prog 26 #[.agg #[.int .i64 P, .int .i64 Q], .agg #[.int .i64 P', .int .i64 Q']] w fun e w' => TupIs (Rt.add P Q P' Q') e ∧ Below w.heap.size w w' := by
  have cs := fun w => sum_any 1 P Q P' Q' (.inl rfl) w hP hQ hP' hQ'
  have T0 := Lib.hid (three0 P Q P' Q' w)
  have hr : Rt.sm 1 P Q P' Q' = Rt.add P Q P' Q' := by unfold Rt.sm; rw [if_pos rfl]
  rw [hr] at cs
  generalize Rt.add P Q P' Q' = R at cs
  obtain ⟨a, b, c⟩ := R
  unfold TupIs at cs
  have CS := Lib.hid cs
  clear cs hr hP hQ hP' hQ'
  go_enter Tryd.func26, Tryd.ntmps26
  go_wp2_with (first | (go_at_call 46; ((with_reducible refine (CS.out _).mono ?_)); rintro e w2 ⟨rfl, hb2⟩; have T2 := Lib.hid (Three.below (T0.out) hb2); clear hb2; obtain ⟨c4, c5, f4, f5⟩ := cells_of T2.out.b2))
  obtain ⟨k1, k2⟩ := T2.out.res a b
  exact fin2 rfl rfl rfl rfl k1 ⟨rfl, k2⟩
set_option maxHeartbeats 4000000 in
theorem sub_any (P Q P' Q' : Int) (w : World) (hP : inI P) (hQ : inI Q) (hP' : inI P') (hQ' : inI Q') : Calls Tryd.prog 28 #[.agg #[.int .i64 P, .int .i64 Q], .agg #[.int .i64 P', .int .i64 Q']] w fun e w' => TupIs (Rt.sub P Q P' Q') e ∧ Below w.heap.size w w' := by
  have cs := fun w => sum_any (-1) P Q P' Q' (.inr rfl) w hP hQ hP' hQ'
  have T0 := Lib.hid (three0 P Q P' Q' w)
  have hr : Rt.sm (-1) P Q P' Q' = Rt.sub P Q P' Q' := by unfold Rt.sm; rw [if_neg (by decide)]
  rw [hr] at cs
  generalize Rt.sub P Q P' Q' = R at cs
  obtain ⟨a, b, c⟩ := R
  unfold TupIs at cs
  have CS := Lib.hid cs
  clear cs hr hP hQ hP' hQ'
  go_enter Tryd.func28, Tryd.ntmps28
  go_wp2_with (first | (go_at_call 46; ((with_reducible refine (CS.out _).mono ?_)); rintro e w2 ⟨rfl, hb2⟩; have T2 := Lib.hid (Three.below (T0.out) hb2); clear hb2; obtain ⟨c4, c5, f4, f5⟩ := cells_of T2.out.b2))
  obtain ⟨k1, k2⟩ := T2.out.res a b
  exact fin2 rfl rfl rfl rfl k1 ⟨rfl, k2⟩
/-- Two boxes. -/
structure Two (P Q P' Q' : Int) (w w' : World) : Prop where
  b0 : Blk w' w.heap.size 23 #[.int .i64 P, .int .i64 Q]
  b1 : Blk w' (w.heap.size + 1) 23 #[.int .i64 P', .int .i64 Q']
  bl : Below w.heap.size w w'
theorem two0 (P Q P' Q' : Int) (w : World) : Two P Q P' Q' w ((w.alloc (.cells #[.int .i64 P, .int .i64 Q] 23)).alloc (.cells #[.int .i64 P', .int .i64 Q'] 23)) where
  b0 := (Blk.new w 23 #[.int .i64 P, .int .i64 Q]).alloc (.cells #[.int .i64 P', .int .i64 Q'] 23)
  b1 := Blk.new2 w (.cells #[.int .i64 P, .int .i64 Q] 23) 23 #[.int .i64 P', .int .i64 Q']
  bl := ((Below.refl _ _).alloc (Nat.le_refl _) _).alloc (by simp) _
theorem Two.below {P Q P' Q' : Int} {w w' w'' : World} (h : Two P Q P' Q' w w') (hb : Below w'.heap.size w' w'') : Two P Q P' Q' w w'' :=
  ⟨h.b0.below hb h.b0.lt, h.b1.below hb h.b1.lt, h.bl.trans (hb.mono (by have := h.b0.lt; omega))⟩
theorem Two.drew {P Q P' Q' : Int} {w w' : World} (h : Two P Q P' Q' w w') : Two P Q P' Q' w w'.drew :=
  ⟨h.b0, h.b1, h.bl.trans ⟨rfl, rfl, rfl, Nat.le_refl _, fun _ _ => rfl⟩⟩
theorem Two.set {P Q P' Q' : Int} {w w' : World} (h : Two P Q P' Q' w w') (a b c d : Int) : Two a b c d w ((((w'.setCell ⟨w.heap.size, 0, none⟩ (.int .i64 a)).setCell ⟨w.heap.size, 1, none⟩ (.int .i64 b)).setCell ⟨w.heap.size + 1, 0, none⟩ (.int .i64 c)).setCell ⟨w.heap.size + 1, 1, none⟩ (.int .i64 d)) where
  b0 := Blk.far (Blk.far (set2 h.b0 _ _) (by simp) _) (by simp) _
  b1 := set2 (Blk.far (Blk.far h.b1 (by simp) _) (by simp) _) _ _
  bl := (((h.bl.setCell (p := ⟨w.heap.size, 0, none⟩) (Nat.le_refl _) _).setCell (p := ⟨w.heap.size, 1, none⟩) (Nat.le_refl _) _).setCell (p := ⟨w.heap.size + 1, 0, none⟩) (by simp) _).setCell (p := ⟨w.heap.size + 1, 1, none⟩) (by simp) _
/-- What Compare comes to. -/
inductive CmpIs (x y c : Int) : Prop where
  | eq (h : x = y) (e : c = 0)
  | lt (h0 : ¬ x = y) (h : x < y) (e : c = -1)
  | gt (h0 : ¬ x = y) (h : ¬ x < y) (e : c = 1)
theorem prod_in {a b : Int} (h1 : -2147483648 ≤ a) (h2 : a ≤ 2147483648) (h3 : 0 ≤ b) (h4 : b ≤ 2147483648) : inI (a * b) := by
  have := Rt.prod_bd h1 h2 h3 h4
  unfold inI; omega
theorem cmpIs {P Q P' Q' X Y : Int} (h : (Rt.vld P Q && Rt.vld P' Q') = true) (hX : P * Rt.den Q' = X) (hY : P' * Rt.den Q = Y) : CmpIs X Y (Rt.cmp P Q P' Q') := by
  unfold Rt.cmp
  rw [if_pos h, hX, hY]
  by_cases h1 : X < Y
  · rw [if_pos h1]; exact .lt (by omega) h1 rfl
  · rw [if_neg h1]
    by_cases h2 : Y < X
    · rw [if_pos h2]; exact .gt (by omega) h1 rfl
    · rw [if_neg h2]; exact .eq (by omega) rfl
set_option maxHeartbeats 4000000 in
theorem compare_any (P Q P' Q' : Int) (w : World) (hP : inI P) (hQ : inI Q) (hP' : inI P') (hQ' : inI Q') : Calls Tryd.prog 24 #[.agg #[.int .i64 P, .int .i64 Q], .agg #[.int .i64 P', .int .i64 Q']] w fun e w' => e = .returned (.int .i64 (Rt.cmp P Q P' Q')) ∧ Below w.heap.size w w' := by
  have cb := fun w => both_any P Q P' Q' w hP hQ hP' hQ'
  unfold BothIs at cb
  have T0 := Lib.hid (two0 P Q P' Q' w)
  cases hv : (Rt.vld P Q && Rt.vld P' Q')
  · have HR := Lib.hid (show Rt.cmp P Q P' Q' = 0 by unfold Rt.cmp; rw [hv]; rfl)
    rw [hv] at cb
    generalize Rt.den Q = d at cb
    generalize Rt.den Q' = d' at cb
    obtain ⟨X, hX⟩ : ∃ X, IntKind.i64.wrap (P * d') = X := ⟨_, rfl⟩
    obtain ⟨Y, hY⟩ : ∃ Y, IntKind.i64.wrap (P' * d) = Y := ⟨_, rfl⟩
    have CB := Lib.hid cb
    clear cb hP hQ hP' hQ' hv
    go_enter Tryd.func24, Tryd.ntmps24
    go_wp2_with (first | (go_at_call 40; ((with_reducible refine (CB.out _).mono ?_)); rintro e w2 ⟨rfl, hb2⟩; have T2 := Lib.hid (Two.below (T0.out) hb2); clear hb2; obtain ⟨c0, c1, f0, f1⟩ := cells_of T2.out.b0; obtain ⟨c2, c3, f2, f3⟩ := cells_of T2.out.b1; have T3 := Lib.hid (T2.out.set P d P' d')))
    apply wp_region_typed (C := fun w' => Two P d P' d' w w') (n := 37) (m := 12) (l1 := [_, _, _, _, _, _, _, _, _, _, _, _]) (l2 := [])
    · rfl
    · rfl
    · kernel_rfl
    · rfl
    · kernel_rfl
    · exact T3.out.drew
    · exact fun u u' h hb => h.below hb
    repeat ((apply wpT_exact; · (intro w' hC hf; unfold Gives; obtain ⟨c0, c1, f0, f1⟩ := cells_of hC.b0; obtain ⟨c2, c3, f2, f3⟩ := cells_of hC.b1; clear hf hC; go_wp2_with (fail); apply postT_val rfl (Below.refl _ _); simp only [valAt, Array.getD_eq_getD_getElem?, List.getElem?_toArray, List.getElem?_cons_succ, List.getElem?_cons_zero, Option.getD_some]; exact rfl)); (try simp only [Act.put, List.setIfInBounds_toArray, List.set_cons_zero, List.set_cons_succ]))
    apply wpT_done
    intro w4 hCw4 _
    have T4 := Lib.hid hCw4
    clear hCw4
    go_wp2
    go_ret
    exact ⟨by rw [HR.out]; rfl, T4.out.bl⟩
  · have hv2 := hv
    rw [Bool.and_eq_true, Rt.vld_iff, Rt.vld_iff] at hv2
    obtain ⟨h1, h2⟩ := hv2
    obtain ⟨X, hX⟩ : ∃ X, P * Rt.den Q' = X := ⟨_, rfl⟩
    obtain ⟨Y, hY⟩ : ∃ Y, P' * Rt.den Q = Y := ⟨_, rfl⟩
    have hc := cmpIs hv hX hY
    have wX : IntKind.i64.wrap X = X := by
      rw [← hX]; have := Rt.num_bd h1; have := Rt.den_pos h2; exact wrapI (prod_in (by omega) (by omega) (by omega) (by omega))
    have wY : IntKind.i64.wrap Y = Y := by
      rw [← hY]; have := Rt.num_bd h2; have := Rt.den_pos h1; exact wrapI (prod_in (by omega) (by omega) (by omega) (by omega))
    rw [hv] at cb
    clear h1 h2 hv hP hQ hP' hQ'
    generalize Rt.den Q = d at *
    generalize Rt.den Q' = d' at *
    have CB := Lib.hid cb
    clear cb
    generalize Rt.cmp P Q P' Q' = c at hc
    go_enter Tryd.func24, Tryd.ntmps24
    go_wp2_with (first | (go_at_call 40; ((with_reducible refine (CB.out _).mono ?_)); rintro e w2 ⟨rfl, hb2⟩; have T2 := Lib.hid (Two.below (T0.out) hb2); clear hb2; obtain ⟨c0, c1, f0, f1⟩ := cells_of T2.out.b0; obtain ⟨c2, c3, f2, f3⟩ := cells_of T2.out.b1; have T3 := Lib.hid (T2.out.set P d P' d')))
    apply wp_region_typed (C := fun w' => Two P d P' d' w w') (n := 37) (m := 12) (l1 := [_, _, _, _, _, _, _, _, _, _, _, _]) (l2 := [])
    · rfl
    · rfl
    · kernel_rfl
    · rfl
    · kernel_rfl
    · exact T3.out.drew
    · exact fun u u' h hb => h.below hb
    repeat ((apply wpT_exact; · (intro w' hC hf; unfold Gives; obtain ⟨c0, c1, f0, f1⟩ := cells_of hC.b0; obtain ⟨c2, c3, f2, f3⟩ := cells_of hC.b1; clear hf hC; go_wp2_with (fail); apply postT_val rfl (Below.refl _ _); simp only [valAt, Array.getD_eq_getD_getElem?, List.getElem?_toArray, List.getElem?_cons_succ, List.getElem?_cons_zero, Option.getD_some]; exact rfl)); (try simp only [Act.put, List.setIfInBounds_toArray, List.set_cons_zero, List.set_cons_succ]))
    apply wpT_done
    intro w4 hCw4 _
    have T4 := Lib.hid hCw4
    clear hCw4
    rcases hc with ⟨h, e⟩ | ⟨h0, h, e⟩ | ⟨h0, h, e⟩
    · have b1 : (X == Y) = true := by simpa using h
      clear h
      go_wp2
      go_ret
      exact ⟨by rw [e]; rfl, T4.out.bl⟩
    · have b1 : (X == Y) = false := by simpa using h0
      have b2 : decide (X < Y) = true := by simpa using h
      clear h h0
      go_wp2
      go_ret
      exact ⟨by rw [e]; rfl, T4.out.bl⟩
    · have b1 : (X == Y) = false := by simpa using h0
      have b2 : decide (X < Y) = false := by simpa using h
      clear h h0
      go_wp2
      go_ret
      exact ⟨by rw [e]; rfl, T4.out.bl⟩
end Go.Proofs.YtknnbejhfhadnaaDoor
