/- The reference's Sub, Mul, Compare, Floor. -/
import Derived.Test.YtknnbejhfhadnaaDoorW11
namespace Go.Proofs.YtknnbejhfhadnaaDoor
open Go.RowKit
theorem Two.upd {P Q P' Q' : Int} {w w' : World} (h : Three P Q P' Q' w w') : Two P Q P' Q' w w' := ⟨h.b0, h.b1, h.bl⟩
set_option maxHeartbeats 8000000 in
theorem rSub_any (P Q P' Q' : Int) (w : World) (hP : inI P) (hQ : inI Q) (hP' : inI P') (hQ' : inI Q') : Calls Tryd.prog 42 #[.agg #[.int .i64 P, .int .i64 Q], .agg #[.int .i64 P', .int .i64 Q']] w fun e w' => TupIs (Rt.sub P Q P' Q') e ∧ Below w.heap.size w w' := by
  have cv := fun w => rValid_any P Q w hP hQ
  have cv' := fun w => rValid_any P' Q' w hP' hQ'
  have T0 := Lib.hid (three0 P Q P' Q' w)
  cases hv : Rt.vld P Q
  · have HR := Lib.hid (show Rt.sub P Q P' Q' = (0, 0, 1) by unfold Rt.sub; rw [hv, Bool.false_and]; rfl)
    rw [hv] at cv
    generalize Rt.vld P' Q' = v' at cv'
    have CV := Lib.hid cv; have CV' := Lib.hid cv'
    clear cv cv' hP hQ hP' hQ' hv
    go_enter Tryd.func42, Tryd.ntmps42
    go_wp2_with (first | (go_at_call 13; ((with_reducible refine (CV.out _).mono ?_)); rintro e w2 ⟨rfl, hb2⟩; replace T0 := Lib.hid (T0.out.below hb2); clear hb2; obtain ⟨c0, c1, f0, f1⟩ := cells_of T0.out.b0; obtain ⟨c2, c3, f2, f3⟩ := cells_of T0.out.b1; obtain ⟨c4, c5, f4, f5⟩ := cells_of T0.out.b2) | (go_at_call 13; ((with_reducible refine (CV'.out _).mono ?_)); rintro e w2 ⟨rfl, hb2⟩; replace T0 := Lib.hid (T0.out.below hb2); clear hb2; obtain ⟨c0, c1, f0, f1⟩ := cells_of T0.out.b0; obtain ⟨c2, c3, f2, f3⟩ := cells_of T0.out.b1; obtain ⟨c4, c5, f4, f5⟩ := cells_of T0.out.b2))
    obtain ⟨k1, k2⟩ := T0.out.res 0 0
    exact fin2 rfl rfl rfl rfl k1 ⟨TupIs.mk HR.out, k2⟩
  · cases hv' : Rt.vld P' Q'
    · have HR := Lib.hid (show Rt.sub P Q P' Q' = (0, 0, 1) by unfold Rt.sub; rw [hv', Bool.and_false]; rfl)
      rw [hv] at cv
      rw [hv'] at cv'
      have CV := Lib.hid cv; have CV' := Lib.hid cv'
      clear cv cv' hP hQ hP' hQ' hv hv'
      go_enter Tryd.func42, Tryd.ntmps42
      go_wp2_with (first | (go_at_call 13; ((with_reducible refine (CV.out _).mono ?_)); rintro e w2 ⟨rfl, hb2⟩; replace T0 := Lib.hid (T0.out.below hb2); clear hb2; obtain ⟨c0, c1, f0, f1⟩ := cells_of T0.out.b0; obtain ⟨c2, c3, f2, f3⟩ := cells_of T0.out.b1; obtain ⟨c4, c5, f4, f5⟩ := cells_of T0.out.b2) | (go_at_call 13; ((with_reducible refine (CV'.out _).mono ?_)); rintro e w2 ⟨rfl, hb2⟩; replace T0 := Lib.hid (T0.out.below hb2); clear hb2; obtain ⟨c0, c1, f0, f1⟩ := cells_of T0.out.b0; obtain ⟨c2, c3, f2, f3⟩ := cells_of T0.out.b1; obtain ⟨c4, c5, f4, f5⟩ := cells_of T0.out.b2))
      obtain ⟨k1, k2⟩ := T0.out.res 0 0
      exact fin2 rfl rfl rfl rfl k1 ⟨TupIs.mk HR.out, k2⟩
    · rw [hv] at cv
      rw [hv'] at cv'
      have h1 := Rt.vld_iff.1 hv
      have h2 := Rt.vld_iff.1 hv'
      have q1 : 0 ≤ Q := by rcases h1 with ⟨_, a⟩ | ⟨a, _⟩ <;> omega
      have q2 : 0 ≤ Q' := by rcases h2 with ⟨_, a⟩ | ⟨a, _⟩ <;> omega
      have cd := fun w => den_any P Q w q1
      have cd' := fun w => den_any P' Q' w q2
      have in' : inI (-P') := by have := Rt.num_bd h2; unfold inI; omega
      have ca := fun w => rAdd_any P Q (-P') Q' w hP hQ in' hQ'
      have e : Rt.add P Q (-P') Q' = Rt.sub P Q P' Q' := by rw [Rt.add_ok h1 (Rt.vld_neg h2), Rt.sub_ok h1 h2, Rt.val_neg, ← Rat.sub_eq_add_neg]
      rw [e] at ca
      generalize Rt.sub P Q P' Q' = R at ca
      obtain ⟨a, b, c⟩ := R
      unfold TupIs at ca
      have wN := wrapI in'
      obtain ⟨N, hN⟩ : ∃ N, -P' = N := ⟨_, rfl⟩
      rw [hN] at ca wN
      have CV := Lib.hid cv; have CV' := Lib.hid cv'; have CA := Lib.hid ca
      clear ca cv cv' cd cd' hv hv' h1 h2 q1 q2 hP hQ hP' hQ' in' e
      go_enter Tryd.func42, Tryd.ntmps42
      go_wp2_with (first | (go_at_call 13; ((with_reducible refine (CV.out _).mono ?_)); rintro e w2 ⟨rfl, hb2⟩; replace T0 := Lib.hid (T0.out.below hb2); clear hb2; obtain ⟨c0, c1, f0, f1⟩ := cells_of T0.out.b0; obtain ⟨c2, c3, f2, f3⟩ := cells_of T0.out.b1; obtain ⟨c4, c5, f4, f5⟩ := cells_of T0.out.b2) | (go_at_call 13; ((with_reducible refine (CV'.out _).mono ?_)); rintro e w2 ⟨rfl, hb2⟩; replace T0 := Lib.hid (T0.out.below hb2); clear hb2; obtain ⟨c0, c1, f0, f1⟩ := cells_of T0.out.b0; obtain ⟨c2, c3, f2, f3⟩ := cells_of T0.out.b1; obtain ⟨c4, c5, f4, f5⟩ := cells_of T0.out.b2) | (go_at_call 41; ((with_reducible refine (CA.out _).mono ?_)); rintro e w2 ⟨rfl, hb2⟩; replace T0 := Lib.hid (T0.out.below hb2); clear hb2; obtain ⟨c0, c1, f0, f1⟩ := cells_of T0.out.b0; obtain ⟨c2, c3, f2, f3⟩ := cells_of T0.out.b1; obtain ⟨c4, c5, f4, f5⟩ := cells_of T0.out.b2))
      obtain ⟨k1, k2⟩ := T0.out.res a b
      exact fin2 rfl rfl rfl rfl k1 ⟨rfl, k2⟩
set_option maxHeartbeats 8000000 in
theorem rMul_any (P Q P' Q' : Int) (w : World) (hP : inI P) (hQ : inI Q) (hP' : inI P') (hQ' : inI Q') : Calls Tryd.prog 43 #[.agg #[.int .i64 P, .int .i64 Q], .agg #[.int .i64 P', .int .i64 Q']] w fun e w' => TupIs (Rt.mul P Q P' Q') e ∧ Below w.heap.size w w' := by
  have cv := fun w => rValid_any P Q w hP hQ
  have cv' := fun w => rValid_any P' Q' w hP' hQ'
  have T0 := Lib.hid (three0 P Q P' Q' w)
  cases hv : Rt.vld P Q
  · have HR := Lib.hid (show Rt.mul P Q P' Q' = (0, 0, 1) by unfold Rt.mul; rw [hv, Bool.false_and]; rfl)
    rw [hv] at cv
    generalize Rt.vld P' Q' = v' at cv'
    have CV := Lib.hid cv; have CV' := Lib.hid cv'
    clear cv cv' hP hQ hP' hQ' hv
    go_enter Tryd.func43, Tryd.ntmps43
    go_wp2_with (first | (go_at_call 13; ((with_reducible refine (CV.out _).mono ?_)); rintro e w2 ⟨rfl, hb2⟩; replace T0 := Lib.hid (T0.out.below hb2); clear hb2; obtain ⟨c0, c1, f0, f1⟩ := cells_of T0.out.b0; obtain ⟨c2, c3, f2, f3⟩ := cells_of T0.out.b1; obtain ⟨c4, c5, f4, f5⟩ := cells_of T0.out.b2) | (go_at_call 13; ((with_reducible refine (CV'.out _).mono ?_)); rintro e w2 ⟨rfl, hb2⟩; replace T0 := Lib.hid (T0.out.below hb2); clear hb2; obtain ⟨c0, c1, f0, f1⟩ := cells_of T0.out.b0; obtain ⟨c2, c3, f2, f3⟩ := cells_of T0.out.b1; obtain ⟨c4, c5, f4, f5⟩ := cells_of T0.out.b2))
    obtain ⟨k1, k2⟩ := T0.out.res 0 0
    exact fin2 rfl rfl rfl rfl k1 ⟨TupIs.mk HR.out, k2⟩
  · cases hv' : Rt.vld P' Q'
    · have HR := Lib.hid (show Rt.mul P Q P' Q' = (0, 0, 1) by unfold Rt.mul; rw [hv', Bool.and_false]; rfl)
      rw [hv] at cv
      rw [hv'] at cv'
      have CV := Lib.hid cv; have CV' := Lib.hid cv'
      clear cv cv' hP hQ hP' hQ' hv hv'
      go_enter Tryd.func43, Tryd.ntmps43
      go_wp2_with (first | (go_at_call 13; ((with_reducible refine (CV.out _).mono ?_)); rintro e w2 ⟨rfl, hb2⟩; replace T0 := Lib.hid (T0.out.below hb2); clear hb2; obtain ⟨c0, c1, f0, f1⟩ := cells_of T0.out.b0; obtain ⟨c2, c3, f2, f3⟩ := cells_of T0.out.b1; obtain ⟨c4, c5, f4, f5⟩ := cells_of T0.out.b2) | (go_at_call 13; ((with_reducible refine (CV'.out _).mono ?_)); rintro e w2 ⟨rfl, hb2⟩; replace T0 := Lib.hid (T0.out.below hb2); clear hb2; obtain ⟨c0, c1, f0, f1⟩ := cells_of T0.out.b0; obtain ⟨c2, c3, f2, f3⟩ := cells_of T0.out.b1; obtain ⟨c4, c5, f4, f5⟩ := cells_of T0.out.b2))
      obtain ⟨k1, k2⟩ := T0.out.res 0 0
      exact fin2 rfl rfl rfl rfl k1 ⟨TupIs.mk HR.out, k2⟩
    · rw [hv] at cv
      rw [hv'] at cv'
      have h1 := Rt.vld_iff.1 hv
      have h2 := Rt.vld_iff.1 hv'
      have q1 : 0 ≤ Q := by rcases h1 with ⟨_, a⟩ | ⟨a, _⟩ <;> omega
      have q2 : 0 ≤ Q' := by rcases h2 with ⟨_, a⟩ | ⟨a, _⟩ <;> omega
      have cd := fun w => den_any P Q w q1
      have cd' := fun w => den_any P' Q' w q2
      have i1 : inI (P * P') := by
        obtain ⟨a1, a2⟩ := Rt.num_bd h1; obtain ⟨a3, a4⟩ := Rt.num_bd h2
        rcases Int.lt_or_le P' 0 with hn | hn
        · have := Rt.prod_bd (a := -P) (b := -P') (by omega) (by omega) (by omega) (by omega)
          rw [Int.neg_mul_neg] at this; unfold inI; omega
        · have := Rt.prod_bd a1 a2 hn a4
          unfold inI; omega
      have i2 : inI (Rt.den Q * Rt.den Q') := by
        obtain ⟨a1, a2⟩ := Rt.den_pos h1; obtain ⟨a3, a4⟩ := Rt.den_pos h2
        exact prod_in (by omega) a2 (by omega) a4
      have cm := fun w => rMake_any (P * P') (Rt.den Q * Rt.den Q') w i1 i2
      rw [Rt.mul_calc' h1 h2, ← Rt.mul_ok h1 h2] at cm
      have w1 := wrapI i1
      have w2 := wrapI i2
      obtain ⟨X, hX⟩ : ∃ X, P * P' = X := ⟨_, rfl⟩
      obtain ⟨Y, hY⟩ : ∃ Y, Rt.den Q * Rt.den Q' = Y := ⟨_, rfl⟩
      rw [hX] at w1 cm; rw [hY] at w2 cm
      clear i1 i2 hv hv' h1 h2 q1 q2 hP hQ hP' hQ'
      generalize Rt.den Q = d at *
      generalize Rt.den Q' = d' at *
      generalize Rt.mul P Q P' Q' = R at cm
      obtain ⟨a, b, c⟩ := R
      unfold TupIs at cm
      have CV := Lib.hid cv; have CV' := Lib.hid cv'; have CD := Lib.hid cd; have CD' := Lib.hid cd'; have CM := Lib.hid cm
      clear cm cv cv' cd cd'
      go_enter Tryd.func43, Tryd.ntmps43
      go_wp2_with (first | (go_at_call 13; ((with_reducible refine (CV.out _).mono ?_)); rintro e w2 ⟨rfl, hb2⟩; replace T0 := Lib.hid (T0.out.below hb2); clear hb2; obtain ⟨c0, c1, f0, f1⟩ := cells_of T0.out.b0; obtain ⟨c2, c3, f2, f3⟩ := cells_of T0.out.b1; obtain ⟨c4, c5, f4, f5⟩ := cells_of T0.out.b2) | (go_at_call 13; ((with_reducible refine (CV'.out _).mono ?_)); rintro e w2 ⟨rfl, hb2⟩; replace T0 := Lib.hid (T0.out.below hb2); clear hb2; obtain ⟨c0, c1, f0, f1⟩ := cells_of T0.out.b0; obtain ⟨c2, c3, f2, f3⟩ := cells_of T0.out.b1; obtain ⟨c4, c5, f4, f5⟩ := cells_of T0.out.b2))
      apply wp_region_typed (C := fun w' => Three P Q P' Q' w w') (n := 28) (m := 13) (l1 := [_, _, _, _, _, _, _, _, _, _, _, _, _]) (l2 := [_, _])
      · rfl
      · rfl
      · kernel_rfl
      · rfl
      · kernel_rfl
      · exact T0.out.drew
      · exact fun u u' h hb => h.below hb
      repeat (first
        | ((apply wpT_exact; · (intro w' hC hf; unfold Gives; obtain ⟨c0, c1, f0, f1⟩ := cells_of hC.b0; obtain ⟨c2, c3, f2, f3⟩ := cells_of hC.b1; clear hf hC; go_wp2_with (fail); apply postT_val rfl (Below.refl _ _); simp only [valAt, Array.getD_eq_getD_getElem?, List.getElem?_toArray, List.getElem?_cons_succ, List.getElem?_cons_zero, Option.getD_some]; exact rfl)); (try simp only [Act.put, List.setIfInBounds_toArray, List.set_cons_zero, List.set_cons_succ]))
        | ((apply wpT_exact; · (intro w' hC hf; unfold Gives; obtain ⟨c0, c1, f0, f1⟩ := cells_of hC.b0; obtain ⟨c2, c3, f2, f3⟩ := cells_of hC.b1; clear hf hC; go_wp2_with (first | (go_at_call 35; ((with_reducible refine (CD.out _).mono ?_)); rintro e w2 ⟨rfl, hb2⟩) | (go_at_call 35; ((with_reducible refine (CD'.out _).mono ?_)); rintro e w2 ⟨rfl, hb2⟩) | (go_at_call 11; ((with_reducible refine (CM.out _).mono ?_)); rintro e w2 ⟨rfl, hb2⟩)); apply postT_val rfl (by first | exact Below.refl _ _ | assumption); simp only [valAt, Array.getD_eq_getD_getElem?, List.getElem?_toArray, List.getElem?_cons_succ, List.getElem?_cons_zero, Option.getD_some]; exact rfl)); (try simp only [Act.put, List.setIfInBounds_toArray, List.set_cons_zero, List.set_cons_succ])))
      apply wpT_done
      intro w4 hCw4 _
      replace T0 := Lib.hid hCw4
      clear hCw4
      obtain ⟨c4, c5, f4, f5⟩ := cells_of T0.out.b2
      go_wp2
      obtain ⟨k1, k2⟩ := T0.out.res a b
      exact fin2 rfl rfl rfl rfl k1 ⟨rfl, k2⟩
set_option maxHeartbeats 8000000 in
theorem rCompare_any (P Q P' Q' : Int) (w : World) (hP : inI P) (hQ : inI Q) (hP' : inI P') (hQ' : inI Q') : Calls Tryd.prog 44 #[.agg #[.int .i64 P, .int .i64 Q], .agg #[.int .i64 P', .int .i64 Q']] w fun e w' => e = .returned (.int .i64 (Rt.cmp P Q P' Q')) ∧ Below w.heap.size w w' := by
  have cv := fun w => rValid_any P Q w hP hQ
  have cv' := fun w => rValid_any P' Q' w hP' hQ'
  have T0 := Lib.hid (two0 P Q P' Q' w)
  cases hv : Rt.vld P Q
  · have HR := Lib.hid (show Rt.cmp P Q P' Q' = 0 by unfold Rt.cmp; rw [hv, Bool.false_and]; rfl)
    rw [hv] at cv
    generalize Rt.vld P' Q' = v' at cv'
    have CV := Lib.hid cv; have CV' := Lib.hid cv'
    clear cv cv' hP hQ hP' hQ' hv
    go_enter Tryd.func44, Tryd.ntmps44
    go_wp2_with (first | (go_at_call 13; ((with_reducible refine (CV.out _).mono ?_)); rintro e w2 ⟨rfl, hb2⟩; replace T0 := Lib.hid (T0.out.below hb2); clear hb2; obtain ⟨c0, c1, f0, f1⟩ := cells_of T0.out.b0; obtain ⟨c2, c3, f2, f3⟩ := cells_of T0.out.b1) | (go_at_call 13; ((with_reducible refine (CV'.out _).mono ?_)); rintro e w2 ⟨rfl, hb2⟩; replace T0 := Lib.hid (T0.out.below hb2); clear hb2; obtain ⟨c0, c1, f0, f1⟩ := cells_of T0.out.b0; obtain ⟨c2, c3, f2, f3⟩ := cells_of T0.out.b1))
    go_ret
    exact ⟨by rw [HR.out]; rfl, T0.out.bl⟩
  · cases hv' : Rt.vld P' Q'
    · have HR := Lib.hid (show Rt.cmp P Q P' Q' = 0 by unfold Rt.cmp; rw [hv', Bool.and_false]; rfl)
      rw [hv] at cv
      rw [hv'] at cv'
      have CV := Lib.hid cv; have CV' := Lib.hid cv'
      clear cv cv' hP hQ hP' hQ' hv hv'
      go_enter Tryd.func44, Tryd.ntmps44
      go_wp2_with (first | (go_at_call 13; ((with_reducible refine (CV.out _).mono ?_)); rintro e w2 ⟨rfl, hb2⟩; replace T0 := Lib.hid (T0.out.below hb2); clear hb2; obtain ⟨c0, c1, f0, f1⟩ := cells_of T0.out.b0; obtain ⟨c2, c3, f2, f3⟩ := cells_of T0.out.b1) | (go_at_call 13; ((with_reducible refine (CV'.out _).mono ?_)); rintro e w2 ⟨rfl, hb2⟩; replace T0 := Lib.hid (T0.out.below hb2); clear hb2; obtain ⟨c0, c1, f0, f1⟩ := cells_of T0.out.b0; obtain ⟨c2, c3, f2, f3⟩ := cells_of T0.out.b1))
      go_ret
      exact ⟨by rw [HR.out]; rfl, T0.out.bl⟩
    · rw [hv] at cv
      rw [hv'] at cv'
      have h1 := Rt.vld_iff.1 hv
      have h2 := Rt.vld_iff.1 hv'
      have q1 : 0 ≤ Q := by rcases h1 with ⟨_, a⟩ | ⟨a, _⟩ <;> omega
      have q2 : 0 ≤ Q' := by rcases h2 with ⟨_, a⟩ | ⟨a, _⟩ <;> omega
      have cd := fun w => den_any P Q w q1
      have cd' := fun w => den_any P' Q' w q2
      obtain ⟨X, hX⟩ : ∃ X, P * Rt.den Q' = X := ⟨_, rfl⟩
      obtain ⟨Y, hY⟩ : ∃ Y, P' * Rt.den Q = Y := ⟨_, rfl⟩
      have hc := cmpIs (P := P) (Q := Q) (P' := P') (Q' := Q') (by rw [hv, hv']; rfl) hX hY
      have wX : IntKind.i64.wrap X = X := by
        rw [← hX]; have := Rt.num_bd h1; have := Rt.den_pos h2; exact wrapI (prod_in (by omega) (by omega) (by omega) (by omega))
      have wY : IntKind.i64.wrap Y = Y := by
        rw [← hY]; have := Rt.num_bd h2; have := Rt.den_pos h1; exact wrapI (prod_in (by omega) (by omega) (by omega) (by omega))
      clear hv hv' h1 h2 q1 q2 hP hQ hP' hQ'
      generalize Rt.den Q = d at *
      generalize Rt.den Q' = d' at *
      generalize Rt.cmp P Q P' Q' = c at hc
      have CV := Lib.hid cv; have CV' := Lib.hid cv'; have CD := Lib.hid cd; have CD' := Lib.hid cd'
      clear cv cv' cd cd'
      go_enter Tryd.func44, Tryd.ntmps44
      go_wp2_with (first | (go_at_call 13; ((with_reducible refine (CV.out _).mono ?_)); rintro e w2 ⟨rfl, hb2⟩; replace T0 := Lib.hid (T0.out.below hb2); clear hb2; obtain ⟨c0, c1, f0, f1⟩ := cells_of T0.out.b0; obtain ⟨c2, c3, f2, f3⟩ := cells_of T0.out.b1) | (go_at_call 13; ((with_reducible refine (CV'.out _).mono ?_)); rintro e w2 ⟨rfl, hb2⟩; replace T0 := Lib.hid (T0.out.below hb2); clear hb2; obtain ⟨c0, c1, f0, f1⟩ := cells_of T0.out.b0; obtain ⟨c2, c3, f2, f3⟩ := cells_of T0.out.b1))
      apply wp_region_typed (C := fun w' => Two P Q P' Q' w w') (n := 31) (m := 6) (l1 := [_, _, _, _, _, _]) (l2 := [])
      · rfl
      · rfl
      · kernel_rfl
      · rfl
      · kernel_rfl
      · exact T0.out.drew
      · exact fun u u' h hb => h.below hb
      repeat (first
        | ((apply wpT_exact; · (intro w' hC hf; unfold Gives; obtain ⟨c0, c1, f0, f1⟩ := cells_of hC.b0; obtain ⟨c2, c3, f2, f3⟩ := cells_of hC.b1; clear hf hC; go_wp2_with (fail); apply postT_val rfl (Below.refl _ _); simp only [valAt, Array.getD_eq_getD_getElem?, List.getElem?_toArray, List.getElem?_cons_succ, List.getElem?_cons_zero, Option.getD_some]; exact rfl)); (try simp only [Act.put, List.setIfInBounds_toArray, List.set_cons_zero, List.set_cons_succ]))
        | ((apply wpT_exact; · (intro w' hC hf; unfold Gives; obtain ⟨c0, c1, f0, f1⟩ := cells_of hC.b0; obtain ⟨c2, c3, f2, f3⟩ := cells_of hC.b1; clear hf hC; go_wp2_with (first | (go_at_call 35; ((with_reducible refine (CD.out _).mono ?_)); rintro e w2 ⟨rfl, hb2⟩) | (go_at_call 35; ((with_reducible refine (CD'.out _).mono ?_)); rintro e w2 ⟨rfl, hb2⟩)); apply postT_val rfl (by first | exact Below.refl _ _ | assumption); simp only [valAt, Array.getD_eq_getD_getElem?, List.getElem?_toArray, List.getElem?_cons_succ, List.getElem?_cons_zero, Option.getD_some]; exact rfl)); (try simp only [Act.put, List.setIfInBounds_toArray, List.set_cons_zero, List.set_cons_succ])))
      apply wpT_done
      intro w4 hCw4 _
      replace T0 := Lib.hid hCw4
      clear hCw4
      go_wp2
      apply wp_region_typed (C := fun w' => Two P Q P' Q' w w') (n := 31) (m := 6) (l1 := [_, _, _, _, _, _]) (l2 := [])
      · rfl
      · rfl
      · kernel_rfl
      · rfl
      · kernel_rfl
      · exact T0.out.drew
      · exact fun u u' h hb => h.below hb
      repeat (first
        | ((apply wpT_exact; · (intro w' hC hf; unfold Gives; obtain ⟨c0, c1, f0, f1⟩ := cells_of hC.b0; obtain ⟨c2, c3, f2, f3⟩ := cells_of hC.b1; clear hf hC; go_wp2_with (fail); apply postT_val rfl (Below.refl _ _); simp only [valAt, Array.getD_eq_getD_getElem?, List.getElem?_toArray, List.getElem?_cons_succ, List.getElem?_cons_zero, Option.getD_some]; exact rfl)); (try simp only [Act.put, List.setIfInBounds_toArray, List.set_cons_zero, List.set_cons_succ]))
        | ((apply wpT_exact; · (intro w' hC hf; unfold Gives; obtain ⟨c0, c1, f0, f1⟩ := cells_of hC.b0; obtain ⟨c2, c3, f2, f3⟩ := cells_of hC.b1; clear hf hC; go_wp2_with (first | (go_at_call 35; ((with_reducible refine (CD.out _).mono ?_)); rintro e w2 ⟨rfl, hb2⟩) | (go_at_call 35; ((with_reducible refine (CD'.out _).mono ?_)); rintro e w2 ⟨rfl, hb2⟩)); apply postT_val rfl (by first | exact Below.refl _ _ | assumption); simp only [valAt, Array.getD_eq_getD_getElem?, List.getElem?_toArray, List.getElem?_cons_succ, List.getElem?_cons_zero, Option.getD_some]; exact rfl)); (try simp only [Act.put, List.setIfInBounds_toArray, List.set_cons_zero, List.set_cons_succ])))
      apply wpT_done
      intro w5 hCw5 _
      replace T0 := Lib.hid hCw5
      clear hCw5
      rcases hc with ⟨h, e⟩ | ⟨h0, h, e⟩ | ⟨h0, h, e⟩
      · have b1 : decide (X < Y) = false := by simp; omega
        have b2 : decide (Y < X) = false := by simp; omega
        clear h
        go_wp2
        go_ret
        exact ⟨by rw [e]; rfl, T0.out.bl⟩
      · have b1 : decide (X < Y) = true := by simp; omega
        clear h h0
        go_wp2
        go_ret
        exact ⟨by rw [e]; rfl, T0.out.bl⟩
      · have b1 : decide (X < Y) = false := by simp; omega
        have b2 : decide (Y < X) = true := by simp; omega
        clear h h0
        go_wp2
        go_ret
        exact ⟨by rw [e]; rfl, T0.out.bl⟩
end Go.Proofs.YtknnbejhfhadnaaDoor
