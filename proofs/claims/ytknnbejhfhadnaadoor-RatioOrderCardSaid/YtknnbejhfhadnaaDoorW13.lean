/- The reference's Floor. -/
import Derived.Test.YtknnbejhfhadnaaDoorW12
namespace Go.Proofs.YtknnbejhfhadnaaDoor
open Go.RowKit
set_option maxHeartbeats 4000000 in
theorem rFloor_any (P Q : Int) (w : World) (hP : inI P) (hQ : inI Q) : Calls Tryd.prog 45 #[.agg #[.int .i64 P, .int .i64 Q]] w fun e w' => e = .returned (.int .i64 (Rt.flr P Q)) ∧ Below w.heap.size w w' := by
  have cv := fun w => rValid_any P Q w hP hQ
  have T0 := Lib.hid (one0 P Q w)
  cases hv : Rt.vld P Q
  · have HR := Lib.hid (show Rt.flr P Q = 0 by unfold Rt.flr; rw [hv]; rfl)
    rw [hv] at cv
    have CV := Lib.hid cv
    clear cv hP hQ hv
    go_enter Tryd.func45, Tryd.ntmps45
    go_wp2_with (first | (go_at_call 13; ((with_reducible refine (CV.out _).mono ?_)); rintro e w2 ⟨rfl, hb2⟩; replace T0 := Lib.hid (T0.out.below hb2); clear hb2; obtain ⟨c0, c1, f0, f1⟩ := cells_of T0.out.b0))
    go_ret
    exact ⟨by rw [HR.out]; rfl, T0.out.bl⟩
  · rw [hv] at cv
    have hvp := Rt.vld_iff.1 hv
    have q1 : 0 ≤ Q := by rcases hvp with ⟨_, a⟩ | ⟨a, _⟩ <;> omega
    have cd := fun w => den_any P Q w q1
    have hf : Rt.flr P Q = P / Rt.den Q := by unfold Rt.flr; rw [if_pos hv]
    have hd := Rt.den_pos hvp
    have bp := Rt.num_bd hvp
    have bf := Rt.flr_bd hvp
    rw [hf] at bf ⊢
    clear hf hv hvp q1 hP hQ
    generalize Rt.den Q = d at *
    have hdz : (d == 0) = false := by simp; omega
    have hdn : ¬ d = 0 := by omega
    have CV := Lib.hid cv; have CD := Lib.hid cd
    clear cv cd
    by_cases h0 : 0 ≤ P
    · obtain ⟨n, hn⟩ : ∃ n, P.tdiv d = n := ⟨_, rfl⟩
      have e : P / d = n := by rw [← hn, Int.tdiv_eq_ediv_of_nonneg h0]
      have wn : IntKind.i64.wrap n = n := wrapI (by unfold inI; omega)
      have b1 : decide (0 ≤ P) = true := by simpa using h0
      clear h0 bp bf hd
      go_enter Tryd.func45, Tryd.ntmps45
      go_wp2_with (first | (go_at_call 13; ((with_reducible refine (CV.out _).mono ?_)); rintro e w2 ⟨rfl, hb2⟩; replace T0 := Lib.hid (T0.out.below hb2); clear hb2; obtain ⟨c0, c1, f0, f1⟩ := cells_of T0.out.b0))
      apply wp_region_typed (C := fun w' => One P Q w w') (n := 25) (m := 6) (l1 := [_, _, _, _, _, _]) (l2 := [])
      · rfl
      · rfl
      · kernel_rfl
      · rfl
      · kernel_rfl
      · exact T0.out.drew
      · exact fun u u' h hb => h.below hb
      repeat (first
        | ((apply wpT_exact; · (intro w' hC hf; unfold Gives; obtain ⟨c0, c1, f0, f1⟩ := cells_of hC.b0; clear hf hC; go_wp2_with (fail); apply postT_val rfl (Below.refl _ _); simp only [valAt, Array.getD_eq_getD_getElem?, List.getElem?_toArray, List.getElem?_cons_succ, List.getElem?_cons_zero, Option.getD_some]; exact rfl)); (try simp only [Act.put, List.setIfInBounds_toArray, List.set_cons_zero, List.set_cons_succ]))
        | ((apply wpT_exact; · (intro w' hC hf; unfold Gives; obtain ⟨c0, c1, f0, f1⟩ := cells_of hC.b0; clear hf hC; go_wp2_with (first | (go_at_call 35; ((with_reducible refine (CD.out _).mono ?_)); rintro e w2 ⟨rfl, hb2⟩)); apply postT_val rfl (by first | exact Below.refl _ _ | assumption); simp only [valAt, Array.getD_eq_getD_getElem?, List.getElem?_toArray, List.getElem?_cons_succ, List.getElem?_cons_zero, Option.getD_some]; exact rfl)); (try simp only [Act.put, List.setIfInBounds_toArray, List.set_cons_zero, List.set_cons_succ])))
      apply wpT_done
      intro w4 hCw4 _
      replace T0 := Lib.hid hCw4
      clear hCw4
      go_wp2
      go_ret
      exact ⟨by rw [e]; rfl, T0.out.bl⟩
    · obtain ⟨N, hN⟩ : ∃ N, -P = N := ⟨_, rfl⟩
      obtain ⟨A, hA⟩ : ∃ A, N + d = A := ⟨_, rfl⟩
      obtain ⟨B, hB⟩ : ∃ B, A - 1 = B := ⟨_, rfl⟩
      obtain ⟨n, hn⟩ : ∃ n, B.tdiv d = n := ⟨_, rfl⟩
      obtain ⟨F, hF⟩ : ∃ F, -n = F := ⟨_, rfl⟩
      have e : P / d = F := by
        rw [← hF, ← hn, Int.tdiv_eq_ediv_of_nonneg (by omega), ← hB, ← hA, ← hN, ceil_neg hd.1]
      have wN : IntKind.i64.wrap N = N := wrapI (by unfold inI; omega)
      have wA : IntKind.i64.wrap A = A := wrapI (by unfold inI; omega)
      have wB : IntKind.i64.wrap B = B := wrapI (by unfold inI; omega)
      have wn : IntKind.i64.wrap n = n := wrapI (by unfold inI; omega)
      have wF : IntKind.i64.wrap F = F := wrapI (by unfold inI; omega)
      have b1 : decide (0 ≤ P) = false := by simpa using h0
      clear h0 bp bf hd
      go_enter Tryd.func45, Tryd.ntmps45
      go_wp2_with (first | (go_at_call 13; ((with_reducible refine (CV.out _).mono ?_)); rintro e w2 ⟨rfl, hb2⟩; replace T0 := Lib.hid (T0.out.below hb2); clear hb2; obtain ⟨c0, c1, f0, f1⟩ := cells_of T0.out.b0))
      apply wp_region_typed (C := fun w' => One P Q w w') (n := 25) (m := 12) (l1 := [_, _, _, _, _, _, _, _, _, _, _, _]) (l2 := [])
      · rfl
      · rfl
      · kernel_rfl
      · rfl
      · kernel_rfl
      · exact T0.out.drew
      · exact fun u u' h hb => h.below hb
      repeat (first
        | ((apply wpT_exact; · (intro w' hC hf; unfold Gives; obtain ⟨c0, c1, f0, f1⟩ := cells_of hC.b0; clear hf hC; go_wp2_with (fail); apply postT_val rfl (Below.refl _ _); simp only [valAt, Array.getD_eq_getD_getElem?, List.getElem?_toArray, List.getElem?_cons_succ, List.getElem?_cons_zero, Option.getD_some]; exact rfl)); (try simp only [Act.put, List.setIfInBounds_toArray, List.set_cons_zero, List.set_cons_succ]))
        | ((apply wpT_exact; · (intro w' hC hf; unfold Gives; obtain ⟨c0, c1, f0, f1⟩ := cells_of hC.b0; clear hf hC; go_wp2_with (first | (go_at_call 35; ((with_reducible refine (CD.out _).mono ?_)); rintro e w2 ⟨rfl, hb2⟩)); apply postT_val rfl (by first | exact Below.refl _ _ | assumption); simp only [valAt, Array.getD_eq_getD_getElem?, List.getElem?_toArray, List.getElem?_cons_succ, List.getElem?_cons_zero, Option.getD_some]; exact rfl)); (try simp only [Act.put, List.setIfInBounds_toArray, List.set_cons_zero, List.set_cons_succ])))
      apply wpT_done
      intro w4 hCw4 _
      replace T0 := Lib.hid hCw4
      clear hCw4
      go_wp2
      go_ret
      exact ⟨by rw [e]; rfl, T0.out.bl⟩
end Go.Proofs.YtknnbejhfhadnaaDoor
