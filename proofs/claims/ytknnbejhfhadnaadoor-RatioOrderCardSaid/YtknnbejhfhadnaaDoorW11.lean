/- The reference's Add. -/
import Derived.Test.YtknnbejhfhadnaaDoorW10
namespace Go.Proofs.YtknnbejhfhadnaaDoor
open Go.RowKit
theorem Rt.smMore {P Q P' Q' : Int} (h : Rt.vldP P Q) (h' : Rt.vldP P' Q') {u v g : Nat} {x y E D : Int} (hu : (Rt.den Q).natAbs = u) (hv : (Rt.den Q').natAbs = v) (hg : Nat.gcd u v = g)
    (hx : (Rt.den Q).tdiv (g : Int) = x) (hy : (Rt.den Q').tdiv (g : Int) = y) (hE : x * y = E) (hD : x * Rt.den Q' = D) : inI E ∧ E * (g : Int) = D := by
  obtain ⟨a1, a2⟩ := Rt.den_pos h
  obtain ⟨a3, a4⟩ := Rt.den_pos h'
  have hgpos : 0 < g := by rw [← hg]; exact Nat.gcd_pos_of_pos_left _ (by omega)
  have dx : (g : Int) ∣ Rt.den Q := Int.ofNat_dvd_left.2 (by rw [hu, ← hg]; exact Nat.gcd_dvd_left _ _)
  have dy : (g : Int) ∣ Rt.den Q' := Int.ofNat_dvd_left.2 (by rw [hv, ← hg]; exact Nat.gcd_dvd_right _ _)
  have ex : Rt.den Q = (g : Int) * x := by rw [← hx, Int.mul_tdiv_cancel' dx]
  have ey : Rt.den Q' = (g : Int) * y := by rw [← hy, Int.mul_tdiv_cancel' dy]
  have x0 : 0 ≤ x := by rw [← hx]; exact Int.tdiv_nonneg (by omega) (by omega)
  have y0 : 0 ≤ y := by rw [← hy]; exact Int.tdiv_nonneg (by omega) (by omega)
  have hg1 : (1 : Int) ≤ g := by omega
  have xl : x ≤ 2147483648 := by
    have m := Int.mul_le_mul_of_nonneg_right hg1 x0
    omega
  have yl : y ≤ 2147483648 := by
    have m := Int.mul_le_mul_of_nonneg_right hg1 y0
    omega
  refine ⟨by rw [← hE]; exact prod_in (by omega) xl y0 yl, ?_⟩
  rw [← hE, ← hD, ey]
  simp only [Int.mul_assoc, Int.mul_comm, Int.mul_left_comm]
set_option maxHeartbeats 8000000 in
theorem rAdd_any (P Q P' Q' : Int) (w : World) (hP : inI P) (hQ : inI Q) (hP' : inI P') (hQ' : inI Q') : Calls Tryd.prog 41 #[.agg #[.int .i64 P, .int .i64 Q], .agg #[.int .i64 P', .int .i64 Q']] w fun e w' => TupIs (Rt.add P Q P' Q') e ∧ Below w.heap.size w w' := by
  have cv := fun w => rValid_any P Q w hP hQ
  have cv' := fun w => rValid_any P' Q' w hP' hQ'
  have T0 := Lib.hid (three0 P Q P' Q' w)
  cases hv : Rt.vld P Q
  · have HR := Lib.hid (show Rt.add P Q P' Q' = (0, 0, 1) by unfold Rt.add; rw [hv, Bool.false_and]; rfl)
    rw [hv] at cv
    generalize Rt.vld P' Q' = v' at cv'
    have CV := Lib.hid cv; have CV' := Lib.hid cv'
    clear cv cv' hP hQ hP' hQ' hv
    go_enter Tryd.func41, Tryd.ntmps41
    go_wp2_with (first | (go_at_call 13; ((with_reducible refine (CV.out _).mono ?_)); rintro e w2 ⟨rfl, hb2⟩; replace T0 := Lib.hid (T0.out.below hb2); clear hb2; obtain ⟨c0, c1, f0, f1⟩ := cells_of T0.out.b0; obtain ⟨c2, c3, f2, f3⟩ := cells_of T0.out.b1; obtain ⟨c4, c5, f4, f5⟩ := cells_of T0.out.b2) | (go_at_call 13; ((with_reducible refine (CV'.out _).mono ?_)); rintro e w2 ⟨rfl, hb2⟩; replace T0 := Lib.hid (T0.out.below hb2); clear hb2; obtain ⟨c0, c1, f0, f1⟩ := cells_of T0.out.b0; obtain ⟨c2, c3, f2, f3⟩ := cells_of T0.out.b1; obtain ⟨c4, c5, f4, f5⟩ := cells_of T0.out.b2))
    obtain ⟨k1, k2⟩ := T0.out.res 0 0
    exact fin2 rfl rfl rfl rfl k1 ⟨TupIs.mk HR.out, k2⟩
  · cases hv' : Rt.vld P' Q'
    · have HR := Lib.hid (show Rt.add P Q P' Q' = (0, 0, 1) by unfold Rt.add; rw [hv', Bool.and_false]; rfl)
      rw [hv] at cv
      rw [hv'] at cv'
      have CV := Lib.hid cv; have CV' := Lib.hid cv'
      clear cv cv' hP hQ hP' hQ' hv hv'
      go_enter Tryd.func41, Tryd.ntmps41
      go_wp2_with (first | (go_at_call 13; ((with_reducible refine (CV.out _).mono ?_)); rintro e w2 ⟨rfl, hb2⟩; replace T0 := Lib.hid (T0.out.below hb2); clear hb2; obtain ⟨c0, c1, f0, f1⟩ := cells_of T0.out.b0; obtain ⟨c2, c3, f2, f3⟩ := cells_of T0.out.b1; obtain ⟨c4, c5, f4, f5⟩ := cells_of T0.out.b2) | (go_at_call 13; ((with_reducible refine (CV'.out _).mono ?_)); rintro e w2 ⟨rfl, hb2⟩; replace T0 := Lib.hid (T0.out.below hb2); clear hb2; obtain ⟨c0, c1, f0, f1⟩ := cells_of T0.out.b0; obtain ⟨c2, c3, f2, f3⟩ := cells_of T0.out.b1; obtain ⟨c4, c5, f4, f5⟩ := cells_of T0.out.b2))
      obtain ⟨k1, k2⟩ := T0.out.res 0 0
      exact fin2 rfl rfl rfl rfl k1 ⟨TupIs.mk HR.out, k2⟩
    · rw [hv] at cv
      rw [hv'] at cv'
      have h1 := Rt.vld_iff.1 hv
      have h2 := Rt.vld_iff.1 hv'
      have q1 : 0 ≤ Q := by rcases h1 with ⟨_, a⟩ | ⟨a, _⟩ <;> omega
      have q2 : 0 ≤ Q' := by rcases h2 with ⟨_, a⟩ | ⟨a, _⟩ <;> omega
      have cd := fun w => den_any P Q w q1
      have cd' := fun w => den_any P' Q' w q2
      obtain ⟨u, hu⟩ : ∃ u, (Rt.den Q).natAbs = u := ⟨_, rfl⟩
      obtain ⟨v, hvv⟩ : ∃ v, (Rt.den Q').natAbs = v := ⟨_, rfl⟩
      obtain ⟨g, hg⟩ : ∃ g, Nat.gcd u v = g := ⟨_, rfl⟩
      obtain ⟨x, hx⟩ : ∃ x, (Rt.den Q).tdiv (g : Int) = x := ⟨_, rfl⟩
      obtain ⟨y, hy⟩ : ∃ y, (Rt.den Q').tdiv (g : Int) = y := ⟨_, rfl⟩
      obtain ⟨A, hA⟩ : ∃ A, P * y = A := ⟨_, rfl⟩
      obtain ⟨B, hB⟩ : ∃ B, P' * x = B := ⟨_, rfl⟩
      obtain ⟨S, hS⟩ : ∃ S, A + B = S := ⟨_, rfl⟩
      obtain ⟨D, hD⟩ : ∃ D, x * Rt.den Q' = D := ⟨_, rfl⟩
      obtain ⟨E, hE⟩ : ∃ E, x * y = E := ⟨_, rfl⟩
      have hf := Rt.smFacts (.inl rfl) h1 h2 hu hvv hg hx hy hA (by rw [Int.one_mul]; exact hB) hS hD
      have hh := Rt.smMore h1 h2 hu hvv hg hx hy hE hD
      have id : inI (Rt.den Q) := by have := Rt.den_pos h1; unfold inI; omega
      have id' : inI (Rt.den Q') := by have := Rt.den_pos h2; unfold inI; omega
      have uu : isU u := by rw [← hu]; exact isU_abs id
      have uv : isU v := by rw [← hvv]; exact isU_abs id'
      have HU := Lib.hid hu; have HV := Lib.hid hvv; have HG := Lib.hid hg
      have cu := fun w => rSize_v w id HU
      have cw := fun w => rSize_v w id' HV
      have cg := fun w => rGcd_v w uu uv HG
      have cm := fun w => rMake_any S D w hf.iS hf.iD
      have hsm : Rt.sm 1 P Q P' Q' = Rt.add P Q P' Q' := by unfold Rt.sm; rw [if_pos rfl]
      rw [hf.e, hsm] at cm
      have wx := wrapI hf.ix; have wy := wrapI hf.iy; have wA := wrapI hf.iA; have wB := wrapI hf.iB; have wS := wrapI hf.iS; have wD := wrapI hf.iD; have wg := wrapI hf.ig; have wE := wrapI hh.1; have hED := hh.2
      have hgz : ((g : Int) == 0) = false := by simpa using hf.g0
      have hgn : ¬ g = 0 := by have := hf.g0; omega
      have hD0 := Lib.hid hD
      clear hf hh hu hvv hg h1 h2 hP hQ hP' hQ' uu uv id id' HU HV HG hv hv' q1 q2 hsm hD
      generalize Rt.den Q = d at *
      generalize Rt.den Q' = d' at *
      generalize Rt.add P Q P' Q' = R at cm
      obtain ⟨a, b, c⟩ := R
      unfold TupIs at cm
      have CV := Lib.hid cv; have CV' := Lib.hid cv'; have CD := Lib.hid cd; have CD' := Lib.hid cd'
      have CM := Lib.hid cm; have CU := Lib.hid cu; have CW := Lib.hid cw; have CG := Lib.hid cg
      clear cm cu cw cg cv cv' cd cd'
      go_enter Tryd.func41, Tryd.ntmps41
      go_wp2_with (first | (go_at_call 13; ((with_reducible refine (CV.out _).mono ?_)); rintro e w2 ⟨rfl, hb2⟩; replace T0 := Lib.hid (T0.out.below hb2); clear hb2; obtain ⟨c0, c1, f0, f1⟩ := cells_of T0.out.b0; obtain ⟨c2, c3, f2, f3⟩ := cells_of T0.out.b1; obtain ⟨c4, c5, f4, f5⟩ := cells_of T0.out.b2) | (go_at_call 13; ((with_reducible refine (CV'.out _).mono ?_)); rintro e w2 ⟨rfl, hb2⟩; replace T0 := Lib.hid (T0.out.below hb2); clear hb2; obtain ⟨c0, c1, f0, f1⟩ := cells_of T0.out.b0; obtain ⟨c2, c3, f2, f3⟩ := cells_of T0.out.b1; obtain ⟨c4, c5, f4, f5⟩ := cells_of T0.out.b2))
      apply wp_region_typed (C := fun w' => Three P Q P' Q' w w') (n := 51) (m := 9) (l1 := [_, _, _, _, _, _, _, _, _]) (l2 := [])
      · rfl
      · rfl
      · kernel_rfl
      · rfl
      · kernel_rfl
      · exact T0.out.drew
      · exact fun u u' h hb => h.below hb
      repeat (first
        | ((apply wpT_exact; · (intro w' hC hf; unfold Gives; obtain ⟨c0, c1, f0, f1⟩ := cells_of hC.b0; obtain ⟨c2, c3, f2, f3⟩ := cells_of hC.b1; clear hf hC; go_wp2_with (fail); apply postT_val rfl (Below.refl _ _); simp only [valAt, Array.getD_eq_getD_getElem?, List.getElem?_toArray, List.getElem?_cons_succ, List.getElem?_cons_zero, Option.getD_some]; exact rfl)); (try simp only [Act.put, List.setIfInBounds_toArray, List.set_cons_zero, List.set_cons_succ]))
        | ((apply wpT_exact; · (intro w' hC hf; unfold Gives; obtain ⟨c0, c1, f0, f1⟩ := cells_of hC.b0; obtain ⟨c2, c3, f2, f3⟩ := cells_of hC.b1; clear hf hC; go_wp2_with (first | (go_at_call 35; ((with_reducible refine (CD.out _).mono ?_)); rintro e w2 ⟨rfl, hb2⟩) | (go_at_call 35; ((with_reducible refine (CD'.out _).mono ?_)); rintro e w2 ⟨rfl, hb2⟩) | (go_at_call 33; ((with_reducible refine (CU.out _).mono ?_)); rintro e w2 ⟨rfl, rfl⟩) | (go_at_call 33; ((with_reducible refine (CW.out _).mono ?_)); rintro e w2 ⟨rfl, rfl⟩) | (go_at_call 32; ((with_reducible refine (CG.out _).mono ?_)); rintro e w2 ⟨rfl, rfl⟩)); apply postT_val rfl (by first | exact Below.refl _ _ | assumption); simp only [valAt, Array.getD_eq_getD_getElem?, List.getElem?_toArray, List.getElem?_cons_succ, List.getElem?_cons_zero, Option.getD_some]; exact rfl)); (try simp only [Act.put, List.setIfInBounds_toArray, List.set_cons_zero, List.set_cons_succ])))
      apply wpT_done
      intro w4 hCw4 _
      replace T0 := Lib.hid hCw4
      clear hCw4
      obtain ⟨c0, c1, f0, f1⟩ := cells_of T0.out.b0; obtain ⟨c2, c3, f2, f3⟩ := cells_of T0.out.b1
      go_wp2_with (first | (go_at_call 35; ((with_reducible refine (CD.out _).mono ?_)); rintro e w2 ⟨rfl, hb2⟩; replace T0 := Lib.hid (T0.out.below hb2); clear hb2; obtain ⟨c0, c1, f0, f1⟩ := cells_of T0.out.b0; obtain ⟨c2, c3, f2, f3⟩ := cells_of T0.out.b1; obtain ⟨c4, c5, f4, f5⟩ := cells_of T0.out.b2) | (go_at_call 35; ((with_reducible refine (CD'.out _).mono ?_)); rintro e w2 ⟨rfl, hb2⟩; replace T0 := Lib.hid (T0.out.below hb2); clear hb2; obtain ⟨c0, c1, f0, f1⟩ := cells_of T0.out.b0; obtain ⟨c2, c3, f2, f3⟩ := cells_of T0.out.b1; obtain ⟨c4, c5, f4, f5⟩ := cells_of T0.out.b2) | (go_at_call 11; ((with_reducible refine (CM.out _).mono ?_)); rintro e w2 ⟨rfl, hb2⟩; replace T0 := Lib.hid (T0.out.below hb2); clear hb2; obtain ⟨c0, c1, f0, f1⟩ := cells_of T0.out.b0; obtain ⟨c2, c3, f2, f3⟩ := cells_of T0.out.b1; obtain ⟨c4, c5, f4, f5⟩ := cells_of T0.out.b2))
      obtain ⟨k1, k2⟩ := T0.out.res a b
      exact fin2 rfl rfl rfl rfl k1 ⟨rfl, k2⟩
end Go.Proofs.YtknnbejhfhadnaaDoor
