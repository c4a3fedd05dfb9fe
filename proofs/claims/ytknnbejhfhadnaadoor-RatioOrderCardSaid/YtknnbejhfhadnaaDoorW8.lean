/- sum, Add, Sub. -/
import Derived.Test.YtknnbejhfhadnaaDoorW7
namespace Go.Proofs.YtknnbejhfhadnaaDoor
open Go.RowKit
namespace Rt
/-- The sum or the difference. -/
def sm (s P Q P' Q' : Int) : Int × Int × Int := if s = 1 then add P Q P' Q' else sub P Q P' Q'
theorem sm_no {s P Q P' Q' : Int} (h : (vld P Q && vld P' Q') = false) : sm s P Q P' Q' = (0, 0, 1) := by
  unfold sm add sub; rw [h]; split <;> rfl
/-- What a sum is reckoned by. -/
structure SmFacts (s P Q P' Q' : Int) (u v g : Nat) (x y A B S D : Int) : Prop where
  i0 : inI (s * P')
  ix : inI x
  iy : inI y
  iA : inI A
  iB : inI B
  iS : inI S
  iD : inI D
  ig : inI (g : Int)
  g0 : (g : Int) ≠ 0
  e : mk S D = sm s P Q P' Q'
theorem smFacts {s P Q P' Q' : Int} (hs : s = 1 ∨ s = -1) (h : vldP P Q) (h' : vldP P' Q') {u v g : Nat} {x y A B S D : Int} (hu : (den Q).natAbs = u) (hv : (den Q').natAbs = v) (hg : Nat.gcd u v = g)
    (hx : (den Q).tdiv (g : Int) = x) (hy : (den Q').tdiv (g : Int) = y) (hA : P * y = A) (hB : s * P' * x = B) (hS : A + B = S) (hD : x * den Q' = D) : SmFacts s P Q P' Q' u v g x y A B S D := by
  obtain ⟨a1, a2⟩ := den_pos h
  obtain ⟨a3, a4⟩ := den_pos h'
  have hgpos : 0 < g := by rw [← hg]; exact Nat.gcd_pos_of_pos_left _ (by omega)
  have hgle : g ≤ u := by rw [← hg]; exact Nat.gcd_le_left _ (by omega)
  have dx : (g : Int) ∣ den Q := Int.ofNat_dvd_left.2 (by rw [hu, ← hg]; exact Nat.gcd_dvd_left _ _)
  have dy : (g : Int) ∣ den Q' := Int.ofNat_dvd_left.2 (by rw [hv, ← hg]; exact Nat.gcd_dvd_right _ _)
  have ex : den Q = (g : Int) * x := by rw [← hx, Int.mul_tdiv_cancel' dx]
  have ey : den Q' = (g : Int) * y := by rw [← hy, Int.mul_tdiv_cancel' dy]
  have x0 : 0 ≤ x := by rw [← hx]; exact Int.tdiv_nonneg (by omega) (by omega)
  have y0 : 0 ≤ y := by rw [← hy]; exact Int.tdiv_nonneg (by omega) (by omega)
  have hg1 : (1 : Int) ≤ g := by omega
  have xl : x ≤ 2147483648 := by
    have m := Int.mul_le_mul_of_nonneg_right hg1 x0
    omega
  have yl : y ≤ 2147483648 := by
    have m := Int.mul_le_mul_of_nonneg_right hg1 y0
    omega
  have hn : vldP (s * P') Q' := by
    rcases hs with rfl | rfl
    · rw [Int.one_mul]; exact h'
    · rw [Int.neg_one_mul]; exact vld_neg h'
  obtain ⟨p1, p2⟩ := num_bd h
  obtain ⟨p3, p4⟩ := num_bd hn
  have bA := prod_bd p1 p2 y0 yl
  have bB := prod_bd p3 p4 x0 xl
  have bD := prod_bd (a := x) (b := den Q') (by omega) xl (by omega) a4
  have bS := sum_top h hn hg1 ex ey x0 y0
  have hc := sum_calc h hn hg1 ex ey
  rw [hA] at bA; rw [hB] at bB; rw [hD] at bD; rw [hA, hB, hS] at bS; rw [hA, hB, hS, hD] at hc
  refine ⟨by unfold inI; omega, by unfold inI; omega, by unfold inI; omega, by unfold inI; omega, by unfold inI; omega, by unfold inI; omega, by unfold inI; omega, by unfold inI; omega, by omega, ?_⟩
  rw [hc]
  unfold sm
  rcases hs with rfl | rfl
  · rw [if_pos rfl, add_ok h h', Int.one_mul]
  · rw [if_neg (by decide), sub_ok h h', Int.neg_one_mul, val_neg, ← Rat.sub_eq_add_neg]
end Rt
set_option maxHeartbeats 8000000 in
theorem sum_any (s P Q P' Q' : Int) (hs : s = 1 ∨ s = -1) (w : World) (hP : inI P) (hQ : inI Q) (hP' : inI P') (hQ' : inI Q') : Calls Tryd.prog 46 #[.agg #[.int .i64 P, .int .i64 Q], .agg #[.int .i64 P', .int .i64 Q'], .int .i64 s] w fun e w' => TupIs (Rt.sm s P Q P' Q') e ∧ Below w.heap.size w w' := by
  have cb := fun w => both_any P Q P' Q' w hP hQ hP' hQ'
  unfold BothIs at cb
  have T0 := Lib.hid (three0 P Q P' Q' w)
  cases hv : (Rt.vld P Q && Rt.vld P' Q')
  · have HR := Lib.hid (Rt.sm_no (s := s) hv)
    rw [hv] at cb
    generalize Rt.den Q = d at cb
    generalize Rt.den Q' = d' at cb
    have CB := Lib.hid cb
    clear cb hP hQ hP' hQ' hv
    go_enter Tryd.func46, Tryd.ntmps46
    go_wp2_with (first | (go_at_call 40; ((with_reducible refine (CB.out _).mono ?_)); rintro e w2 ⟨rfl, hb2⟩; have T2 := Lib.hid (Three.below (T0.out) hb2); clear hb2; obtain ⟨c0, c1, f0, f1⟩ := cells_of T2.out.b0; obtain ⟨c2, c3, f2, f3⟩ := cells_of T2.out.b1; obtain ⟨c4, c5, f4, f5⟩ := cells_of T2.out.b2))
    obtain ⟨k1, k2⟩ := (T2.out.set P d P' d').res 0 0
    exact fin2 rfl rfl rfl rfl k1 ⟨TupIs.mk HR.out, k2⟩
  · rw [hv] at cb
    rw [Bool.and_eq_true, Rt.vld_iff, Rt.vld_iff] at hv
    obtain ⟨h1, h2⟩ := hv
    obtain ⟨u, hu⟩ : ∃ u, (Rt.den Q).natAbs = u := ⟨_, rfl⟩
    obtain ⟨v, hv⟩ : ∃ v, (Rt.den Q').natAbs = v := ⟨_, rfl⟩
    obtain ⟨g, hg⟩ : ∃ g, Nat.gcd u v = g := ⟨_, rfl⟩
    obtain ⟨x, hx⟩ : ∃ x, (Rt.den Q).tdiv (g : Int) = x := ⟨_, rfl⟩
    obtain ⟨y, hy⟩ : ∃ y, (Rt.den Q').tdiv (g : Int) = y := ⟨_, rfl⟩
    obtain ⟨A, hA⟩ : ∃ A, P * y = A := ⟨_, rfl⟩
    obtain ⟨p, hp⟩ : ∃ p, s * P' = p := ⟨_, rfl⟩
    obtain ⟨B, hB⟩ : ∃ B, p * x = B := ⟨_, rfl⟩
    obtain ⟨S, hS⟩ : ∃ S, A + B = S := ⟨_, rfl⟩
    obtain ⟨D, hD⟩ : ∃ D, x * Rt.den Q' = D := ⟨_, rfl⟩
    have hf := Rt.smFacts hs h1 h2 hu hv hg hx hy hA (by rw [hp]; exact hB) hS hD
    have id : inI (Rt.den Q) := by have := Rt.den_pos h1; unfold inI; omega
    have id' : inI (Rt.den Q') := by have := Rt.den_pos h2; unfold inI; omega
    have uu : isU u := by rw [← hu]; exact isU_abs id
    have uv : isU v := by rw [← hv]; exact isU_abs id'
    have HU := Lib.hid hu; have HV := Lib.hid hv; have HG := Lib.hid hg
    have cu := fun w => size_v w id HU
    have cv := fun w => size_v w id' HV
    have cg := fun w => gcd_v w uu uv HG
    have cm := fun w => make_any S D w hf.iS hf.iD
    rw [hf.e] at cm
    have w0 := wrapI hf.i0; rw [hp] at w0
    have wx := wrapI hf.ix; have wy := wrapI hf.iy; have wA := wrapI hf.iA; have wB := wrapI hf.iB; have wS := wrapI hf.iS; have wD := wrapI hf.iD; have wg := wrapI hf.ig
    have hgz : ((g : Int) == 0) = false := by simpa using hf.g0
    have hgn : ¬ g = 0 := by have := hf.g0; omega
    clear hf hu hv hg h1 h2 hP hQ hP' hQ' uu uv id id' HU HV HG
    generalize Rt.den Q = d at *
    generalize Rt.den Q' = d' at *
    generalize Rt.sm s P Q P' Q' = R at cm
    obtain ⟨a, b, c⟩ := R
    unfold TupIs at cm
    have CB := Lib.hid cb; have CM := Lib.hid cm; have CU := Lib.hid cu; have CV := Lib.hid cv; have CG := Lib.hid cg
    clear cb cm cu cv cg hs
    go_enter Tryd.func46, Tryd.ntmps46
    go_wp2_with (first | (go_at_call 40; ((with_reducible refine (CB.out _).mono ?_)); rintro e w2 ⟨rfl, hb2⟩; have T2 := Lib.hid (Three.below (T0.out) hb2); clear hb2; obtain ⟨c0, c1, f0, f1⟩ := cells_of T2.out.b0; obtain ⟨c2, c3, f2, f3⟩ := cells_of T2.out.b1; have T3 := Lib.hid (T2.out.set P d P' d')))
    apply wp_region_typed (C := fun w' => Three P d P' d' w w') (n := 57) (m := 9) (l1 := [_, _, _, _, _, _, _, _, _]) (l2 := [])
    · rfl
    · rfl
    · kernel_rfl
    · rfl
    · kernel_rfl
    · exact T3.out.drew
    · exact fun u u' h hb => h.below hb
    repeat (first
      | ((apply wpT_exact; · (intro w' hC hf; unfold Gives; obtain ⟨c0, c1, f0, f1⟩ := cells_of hC.b0; obtain ⟨c2, c3, f2, f3⟩ := cells_of hC.b1; clear hf hC; go_wp2_with (fail); apply postT_val rfl (Below.refl _ _); simp only [valAt, Array.getD_eq_getD_getElem?, List.getElem?_toArray, List.getElem?_cons_succ, List.getElem?_cons_zero, Option.getD_some]; exact rfl)); (try simp only [Act.put, List.setIfInBounds_toArray, List.set_cons_zero, List.set_cons_succ]))
      | ((apply wpT_exact; · (intro w' hC hf; unfold Gives; obtain ⟨c0, c1, f0, f1⟩ := cells_of hC.b0; obtain ⟨c2, c3, f2, f3⟩ := cells_of hC.b1; clear hf hC; go_wp2_with (first | (go_at_call 30; ((with_reducible refine (CU.out _).mono ?_)); rintro e w2 ⟨rfl, rfl⟩) | (go_at_call 30; ((with_reducible refine (CV.out _).mono ?_)); rintro e w2 ⟨rfl, rfl⟩) | (go_at_call 31; ((with_reducible refine (CG.out _).mono ?_)); rintro e w2 ⟨rfl, hb2⟩)); apply postT_val rfl (by first | exact Below.refl _ _ | assumption); simp only [valAt, Array.getD_eq_getD_getElem?, List.getElem?_toArray, List.getElem?_cons_succ, List.getElem?_cons_zero, Option.getD_some]; exact rfl)); (try simp only [Act.put, List.setIfInBounds_toArray, List.set_cons_zero, List.set_cons_succ])))
    apply wpT_done
    intro w4 hCw4 _
    have T4 := Lib.hid hCw4
    clear hCw4
    go_wp2
    apply wp_region_typed (C := fun w' => Three P d P' d' w w') (n := 57) (m := 18) (l1 := [_, _, _, _, _, _, _, _, _, _, _, _, _, _, _, _, _, _]) (l2 := [])
    · rfl
    · rfl
    · kernel_rfl
    · rfl
    · kernel_rfl
    · exact T4.out.drew
    · exact fun u u' h hb => h.below hb
    repeat ((apply wpT_exact; · (intro w' hC hf; unfold Gives; obtain ⟨c0, c1, f0, f1⟩ := cells_of hC.b0; obtain ⟨c2, c3, f2, f3⟩ := cells_of hC.b1; clear hf hC; go_wp2_with (fail); apply postT_val rfl (Below.refl _ _); simp only [valAt, Array.getD_eq_getD_getElem?, List.getElem?_toArray, List.getElem?_cons_succ, List.getElem?_cons_zero, Option.getD_some]; exact rfl)); (try simp only [Act.put, List.setIfInBounds_toArray, List.set_cons_zero, List.set_cons_succ]))
    apply wpT_done
    intro w5 hCw5 _
    have T5 := Lib.hid hCw5
    clear hCw5
    go_wp2
    apply wp_region_typed (C := fun w' => Three P d P' d' w w') (n := 57) (m := 11) (l1 := [_, _, _, _, _, _, _, _, _, _, _]) (l2 := [_, _])
    · rfl
    · rfl
    · kernel_rfl
    · rfl
    · kernel_rfl
    · exact T5.out.drew
    · exact fun u u' h hb => h.below hb
    repeat (first
      | ((apply wpT_exact; · (intro w' hC hf; unfold Gives; obtain ⟨c0, c1, f0, f1⟩ := cells_of hC.b0; obtain ⟨c2, c3, f2, f3⟩ := cells_of hC.b1; clear hf hC; go_wp2_with (fail); apply postT_val rfl (Below.refl _ _); simp only [valAt, Array.getD_eq_getD_getElem?, List.getElem?_toArray, List.getElem?_cons_succ, List.getElem?_cons_zero, Option.getD_some]; exact rfl)); (try simp only [Act.put, List.setIfInBounds_toArray, List.set_cons_zero, List.set_cons_succ]))
      | ((apply wpT_exact; · (intro w' hC hf; unfold Gives; obtain ⟨c0, c1, f0, f1⟩ := cells_of hC.b0; obtain ⟨c2, c3, f2, f3⟩ := cells_of hC.b1; clear hf hC; go_wp2_with (first | (go_at_call 10; ((with_reducible refine (CM.out _).mono ?_)); rintro e w2 ⟨rfl, hb2⟩)); apply postT_val rfl (by first | exact Below.refl _ _ | assumption); simp only [valAt, Array.getD_eq_getD_getElem?, List.getElem?_toArray, List.getElem?_cons_succ, List.getElem?_cons_zero, Option.getD_some]; exact rfl)); (try simp only [Act.put, List.setIfInBounds_toArray, List.set_cons_zero, List.set_cons_succ])))
    apply wpT_done
    intro w6 hCw6 _
    have T6 := Lib.hid hCw6
    clear hCw6
    obtain ⟨c4, c5, f4, f5⟩ := cells_of T6.out.b2
    go_wp2
    obtain ⟨k1, k2⟩ := T6.out.res a b
    exact fin2 rfl rfl rfl rfl k1 ⟨rfl, k2⟩
end Go.Proofs.YtknnbejhfhadnaaDoor
