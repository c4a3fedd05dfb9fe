/- Valid: the program's and the reference's. -/
import Derived.Test.YtknnbejhfhadnaaDoorW3
namespace Go.Proofs.YtknnbejhfhadnaaDoor
open Go.RowKit
inductive VldIs (P Q : Int) (g : Nat) (b : Bool) : Prop where
  | zero (hP : P = 0) (hQ : Q = 0) (e : b = true)
  | small (h0 : ¬ (P = 0 ∧ Q = 0)) (h1 : Q < 1) (e : b = false)
  | large (h1 : 1 ≤ Q) (h2 : 2147483648 < Q) (e : b = false)
  | low (h1 : 1 ≤ Q) (h2 : Q ≤ 2147483648) (h3 : P < -2147483648) (e : b = false)
  | high (h1 : 1 ≤ Q) (h2 : Q ≤ 2147483648) (h3 : -2147483648 ≤ P) (h4 : 2147483648 < P) (e : b = false)
  | fits (h1 : 1 ≤ Q) (h2 : Q ≤ 2147483648) (h3 : -2147483648 ≤ P) (h4 : P ≤ 2147483648) (e : decide (g = 1) = b)
theorem vldIs (P Q : Int) {u v g : Nat} (hu : P.natAbs = u) (hv : Q.natAbs = v) (hg : Nat.gcd u v = g) : VldIs P Q g (Rt.vld P Q) := by
  subst hu hv
  by_cases h0 : P = 0 ∧ Q = 0
  · exact .zero h0.1 h0.2 (Rt.vld_iff.2 (.inl h0))
  · have no : ∀ (h : ¬ (1 ≤ Q ∧ Q ≤ 2147483648 ∧ -2147483648 ≤ P ∧ P ≤ 2147483648 ∧ Nat.gcd P.natAbs Q.natAbs = 1)), Rt.vld P Q = false := fun h => Rt.vld_no.2 fun h' => h'.elim h0 h
    by_cases h1 : Q < 1
    · exact .small h0 h1 (no (by omega))
    · by_cases h2 : 2147483648 < Q
      · exact .large (by omega) h2 (no (by omega))
      · by_cases h3 : P < -2147483648
        · exact .low (by omega) (by omega) h3 (no (by omega))
        · by_cases h4 : 2147483648 < P
          · exact .high (by omega) (by omega) (by omega) h4 (no (by omega))
          · refine .fits (by omega) (by omega) (by omega) (by omega) ?_
            rw [← hg]
            by_cases hh : Nat.gcd P.natAbs Q.natAbs = 1
            · rw [Rt.vld_iff.2 (.inr ⟨by omega, by omega, by omega, by omega, hh⟩)]; simpa using hh
            · rw [no (fun h => hh h.2.2.2.2)]; simpa using hh
set_option maxHeartbeats 4000000 in
theorem valid_any (P Q : Int) (w : World) (hP : inI P) (hQ : inI Q) : Calls Tryd.prog 12 #[.agg #[.int .i64 P, .int .i64 Q]] w fun e w' => e = .returned (.bool (Rt.vld P Q)) ∧ Below w.heap.size w w' := by
  obtain ⟨u, hu⟩ : ∃ u, P.natAbs = u := ⟨_, rfl⟩
  obtain ⟨v, hv⟩ : ∃ v, Q.natAbs = v := ⟨_, rfl⟩
  obtain ⟨g, hg⟩ : ∃ g, Nat.gcd u v = g := ⟨_, rfl⟩
  have hv0 := vldIs P Q hu hv hg
  have uu : isU u := by rw [← hu]; exact isU_abs hP
  have uv : isU v := by rw [← hv]; exact isU_abs hQ
  have HU := Lib.hid hu; have HV := Lib.hid hv; have HG := Lib.hid hg; have HP := Lib.hid hP; have HQ := Lib.hid hQ
  have cp := fun w => size_v w HP.out HU
  have cq := fun w => size_v w HQ.out HV
  have cg := fun w => gcd_v w uu uv HG
  have CP := Lib.hid cp; have CQ := Lib.hid cq; have CG := Lib.hid cg
  have HZ := Lib.hid (Blk.new w 23 #[.int .i64 P, .int .i64 Q])
  clear cp cq cg hP hQ hu hv hg
  generalize Rt.vld P Q = b at hv0
  rcases hv0 with ⟨rfl, rfl, rfl⟩ | ⟨h0, h1, rfl⟩ | ⟨h1, h2, rfl⟩ | ⟨h1, h2, h3, rfl⟩ | ⟨h1, h2, h3, h4, rfl⟩ | ⟨h1, h2, h3, h4, hb⟩
  · go_enter Tryd.func12, Tryd.ntmps12
    go_wp2
    go_ret
    exact ⟨rfl, (Below.refl _ _).alloc (Nat.le_refl _) _⟩
  · by_cases hq0 : Q = 0
    · have hp0 : (P == 0) = false := by simp; omega
      have hq1 : (Q == 0) = true := by simpa using hq0
      clear hq0 h0
      have b1 : decide (1 ≤ Q) = false := by simp; omega
      go_enter Tryd.func12, Tryd.ntmps12
      go_wp2
      apply wp_region_typed (C := fun w' => Below (w.heap.size + 1) (w.alloc (.cells #[.int .i64 P, .int .i64 Q] 23)) w') (n := 34) (m := 29) (l1 := [_, _, _, _, _, _, _, _, _, _, _, _, _, _, _, _, _, _, _, _, _, _, _, _, _, _, _, _, _]) (l2 := [])
      · rfl
      · rfl
      · kernel_rfl
      · rfl
      · kernel_rfl
      · exact ⟨rfl, rfl, rfl, Nat.le_refl _, fun _ _ => rfl⟩
      · exact fun u u' h hb => h.trans (hb.mono (by have := h.size; simpa using this))
      repeat (first
        | ((apply wpT_exact; · (intro w' hC hf; unfold Gives; have c0 : w'.cell? ⟨w.heap.size, 0, none⟩ = some (.int .i64 P) := (HZ.out.below hC (Nat.lt_succ_self _)).cell 0; have c1 : w'.cell? ⟨w.heap.size, 1, none⟩ = some (.int .i64 Q) := (HZ.out.below hC (Nat.lt_succ_self _)).cell 1; clear hf hC; go_wp2_with (fail); apply postT_val rfl (Below.refl _ _); simp only [valAt, Array.getD_eq_getD_getElem?, List.getElem?_toArray, List.getElem?_cons_succ, List.getElem?_cons_zero, Option.getD_some]; exact rfl)); (try simp only [Act.put, List.setIfInBounds_toArray, List.set_cons_zero, List.set_cons_succ]))
        | ((apply wpT_exact; · (intro w' hC hf; unfold Gives; have c0 : w'.cell? ⟨w.heap.size, 0, none⟩ = some (.int .i64 P) := (HZ.out.below hC (Nat.lt_succ_self _)).cell 0; have c1 : w'.cell? ⟨w.heap.size, 1, none⟩ = some (.int .i64 Q) := (HZ.out.below hC (Nat.lt_succ_self _)).cell 1; clear hf hC; go_wp2_with (first | (go_at_call 30; ((with_reducible refine (CP.out _).mono ?_)); rintro e w2 ⟨rfl, rfl⟩) | (go_at_call 30; ((with_reducible refine (CQ.out _).mono ?_)); rintro e w2 ⟨rfl, rfl⟩) | (go_at_call 31; ((with_reducible refine (CG.out _).mono ?_)); rintro e w2 ⟨rfl, hb2⟩)); apply postT_val rfl (by first | exact Below.refl _ _ | assumption); simp only [valAt, Array.getD_eq_getD_getElem?, List.getElem?_toArray, List.getElem?_cons_succ, List.getElem?_cons_zero, Option.getD_some]; exact rfl)); (try simp only [Act.put, List.setIfInBounds_toArray, List.set_cons_zero, List.set_cons_succ])))
      apply wpT_done
      intro w3 hC _
      go_wp2
      go_ret
      exact ⟨rfl, of_box hC⟩
    · have hq1 : (Q == 0) = false := by simpa using hq0
      clear hq0 h0
      have b1 : decide (1 ≤ Q) = false := by simp; omega
      go_enter Tryd.func12, Tryd.ntmps12
      go_wp2
      apply wp_region_typed (C := fun w' => Below (w.heap.size + 1) (w.alloc (.cells #[.int .i64 P, .int .i64 Q] 23)) w') (n := 34) (m := 29) (l1 := [_, _, _, _, _, _, _, _, _, _, _, _, _, _, _, _, _, _, _, _, _, _, _, _, _, _, _, _, _]) (l2 := [])
      · rfl
      · rfl
      · kernel_rfl
      · rfl
      · kernel_rfl
      · exact ⟨rfl, rfl, rfl, Nat.le_refl _, fun _ _ => rfl⟩
      · exact fun u u' h hb => h.trans (hb.mono (by have := h.size; simpa using this))
      repeat (first
        | ((apply wpT_exact; · (intro w' hC hf; unfold Gives; have c0 : w'.cell? ⟨w.heap.size, 0, none⟩ = some (.int .i64 P) := (HZ.out.below hC (Nat.lt_succ_self _)).cell 0; have c1 : w'.cell? ⟨w.heap.size, 1, none⟩ = some (.int .i64 Q) := (HZ.out.below hC (Nat.lt_succ_self _)).cell 1; clear hf hC; go_wp2_with (fail); apply postT_val rfl (Below.refl _ _); simp only [valAt, Array.getD_eq_getD_getElem?, List.getElem?_toArray, List.getElem?_cons_succ, List.getElem?_cons_zero, Option.getD_some]; exact rfl)); (try simp only [Act.put, List.setIfInBounds_toArray, List.set_cons_zero, List.set_cons_succ]))
        | ((apply wpT_exact; · (intro w' hC hf; unfold Gives; have c0 : w'.cell? ⟨w.heap.size, 0, none⟩ = some (.int .i64 P) := (HZ.out.below hC (Nat.lt_succ_self _)).cell 0; have c1 : w'.cell? ⟨w.heap.size, 1, none⟩ = some (.int .i64 Q) := (HZ.out.below hC (Nat.lt_succ_self _)).cell 1; clear hf hC; go_wp2_with (first | (go_at_call 30; ((with_reducible refine (CP.out _).mono ?_)); rintro e w2 ⟨rfl, rfl⟩) | (go_at_call 30; ((with_reducible refine (CQ.out _).mono ?_)); rintro e w2 ⟨rfl, rfl⟩) | (go_at_call 31; ((with_reducible refine (CG.out _).mono ?_)); rintro e w2 ⟨rfl, hb2⟩)); apply postT_val rfl (by first | exact Below.refl _ _ | assumption); simp only [valAt, Array.getD_eq_getD_getElem?, List.getElem?_toArray, List.getElem?_cons_succ, List.getElem?_cons_zero, Option.getD_some]; exact rfl)); (try simp only [Act.put, List.setIfInBounds_toArray, List.set_cons_zero, List.set_cons_succ])))
      apply wpT_done
      intro w3 hC _
      go_wp2
      go_ret
      exact ⟨rfl, of_box hC⟩
  · have hq1 : (Q == 0) = false := by simp; omega
    have b1 : decide (1 ≤ Q) = true := by simp; omega
    have b2 : decide (Q ≤ 2147483648) = false := by simp; omega
    go_enter Tryd.func12, Tryd.ntmps12
    go_wp2
    apply wp_region_typed (C := fun w' => Below (w.heap.size + 1) (w.alloc (.cells #[.int .i64 P, .int .i64 Q] 23)) w') (n := 34) (m := 29) (l1 := [_, _, _, _, _, _, _, _, _, _, _, _, _, _, _, _, _, _, _, _, _, _, _, _, _, _, _, _, _]) (l2 := [])
    · rfl
    · rfl
    · kernel_rfl
    · rfl
    · kernel_rfl
    · exact ⟨rfl, rfl, rfl, Nat.le_refl _, fun _ _ => rfl⟩
    · exact fun u u' h hb => h.trans (hb.mono (by have := h.size; simpa using this))
    repeat (first
      | ((apply wpT_exact; · (intro w' hC hf; unfold Gives; have c0 : w'.cell? ⟨w.heap.size, 0, none⟩ = some (.int .i64 P) := (HZ.out.below hC (Nat.lt_succ_self _)).cell 0; have c1 : w'.cell? ⟨w.heap.size, 1, none⟩ = some (.int .i64 Q) := (HZ.out.below hC (Nat.lt_succ_self _)).cell 1; clear hf hC; go_wp2_with (fail); apply postT_val rfl (Below.refl _ _); simp only [valAt, Array.getD_eq_getD_getElem?, List.getElem?_toArray, List.getElem?_cons_succ, List.getElem?_cons_zero, Option.getD_some]; exact rfl)); (try simp only [Act.put, List.setIfInBounds_toArray, List.set_cons_zero, List.set_cons_succ]))
      | ((apply wpT_exact; · (intro w' hC hf; unfold Gives; have c0 : w'.cell? ⟨w.heap.size, 0, none⟩ = some (.int .i64 P) := (HZ.out.below hC (Nat.lt_succ_self _)).cell 0; have c1 : w'.cell? ⟨w.heap.size, 1, none⟩ = some (.int .i64 Q) := (HZ.out.below hC (Nat.lt_succ_self _)).cell 1; clear hf hC; go_wp2_with (first | (go_at_call 30; ((with_reducible refine (CP.out _).mono ?_)); rintro e w2 ⟨rfl, rfl⟩) | (go_at_call 30; ((with_reducible refine (CQ.out _).mono ?_)); rintro e w2 ⟨rfl, rfl⟩) | (go_at_call 31; ((with_reducible refine (CG.out _).mono ?_)); rintro e w2 ⟨rfl, hb2⟩)); apply postT_val rfl (by first | exact Below.refl _ _ | assumption); simp only [valAt, Array.getD_eq_getD_getElem?, List.getElem?_toArray, List.getElem?_cons_succ, List.getElem?_cons_zero, Option.getD_some]; exact rfl)); (try simp only [Act.put, List.setIfInBounds_toArray, List.set_cons_zero, List.set_cons_succ])))
    apply wpT_done
    intro w3 hC _
    go_wp2
    go_ret
    exact ⟨rfl, of_box hC⟩
  · have hq1 : (Q == 0) = false := by simp; omega
    have b1 : decide (1 ≤ Q) = true := by simp; omega
    have b2 : decide (Q ≤ 2147483648) = true := by simp; omega
    have b3 : decide (-2147483648 ≤ P) = false := by simp; omega
    go_enter Tryd.func12, Tryd.ntmps12
    go_wp2
    apply wp_region_typed (C := fun w' => Below (w.heap.size + 1) (w.alloc (.cells #[.int .i64 P, .int .i64 Q] 23)) w') (n := 34) (m := 29) (l1 := [_, _, _, _, _, _, _, _, _, _, _, _, _, _, _, _, _, _, _, _, _, _, _, _, _, _, _, _, _]) (l2 := [])
    · rfl
    · rfl
    · kernel_rfl
    · rfl
    · kernel_rfl
    · exact ⟨rfl, rfl, rfl, Nat.le_refl _, fun _ _ => rfl⟩
    · exact fun u u' h hb => h.trans (hb.mono (by have := h.size; simpa using this))
    repeat (first
      | ((apply wpT_exact; · (intro w' hC hf; unfold Gives; have c0 : w'.cell? ⟨w.heap.size, 0, none⟩ = some (.int .i64 P) := (HZ.out.below hC (Nat.lt_succ_self _)).cell 0; have c1 : w'.cell? ⟨w.heap.size, 1, none⟩ = some (.int .i64 Q) := (HZ.out.below hC (Nat.lt_succ_self _)).cell 1; clear hf hC; go_wp2_with (fail); apply postT_val rfl (Below.refl _ _); simp only [valAt, Array.getD_eq_getD_getElem?, List.getElem?_toArray, List.getElem?_cons_succ, List.getElem?_cons_zero, Option.getD_some]; exact rfl)); (try simp only [Act.put, List.setIfInBounds_toArray, List.set_cons_zero, List.set_cons_succ]))
      | ((apply wpT_exact; · (intro w' hC hf; unfold Gives; have c0 : w'.cell? ⟨w.heap.size, 0, none⟩ = some (.int .i64 P) := (HZ.out.below hC (Nat.lt_succ_self _)).cell 0; have c1 : w'.cell? ⟨w.heap.size, 1, none⟩ = some (.int .i64 Q) := (HZ.out.below hC (Nat.lt_succ_self _)).cell 1; clear hf hC; go_wp2_with (first | (go_at_call 30; ((with_reducible refine (CP.out _).mono ?_)); rintro e w2 ⟨rfl, rfl⟩) | (go_at_call 30; ((with_reducible refine (CQ.out _).mono ?_)); rintro e w2 ⟨rfl, rfl⟩) | (go_at_call 31; ((with_reducible refine (CG.out _).mono ?_)); rintro e w2 ⟨rfl, hb2⟩)); apply postT_val rfl (by first | exact Below.refl _ _ | assumption); simp only [valAt, Array.getD_eq_getD_getElem?, List.getElem?_toArray, List.getElem?_cons_succ, List.getElem?_cons_zero, Option.getD_some]; exact rfl)); (try simp only [Act.put, List.setIfInBounds_toArray, List.set_cons_zero, List.set_cons_succ])))
    apply wpT_done
    intro w3 hC _
    go_wp2
    go_ret
    exact ⟨rfl, of_box hC⟩
  · have hq1 : (Q == 0) = false := by simp; omega
    have b1 : decide (1 ≤ Q) = true := by simp; omega
    have b2 : decide (Q ≤ 2147483648) = true := by simp; omega
    have b3 : decide (-2147483648 ≤ P) = true := by simp; omega
    have b4 : decide (P ≤ 2147483648) = false := by simp; omega
    go_enter Tryd.func12, Tryd.ntmps12
    go_wp2
    apply wp_region_typed (C := fun w' => Below (w.heap.size + 1) (w.alloc (.cells #[.int .i64 P, .int .i64 Q] 23)) w') (n := 34) (m := 29) (l1 := [_, _, _, _, _, _, _, _, _, _, _, _, _, _, _, _, _, _, _, _, _, _, _, _, _, _, _, _, _]) (l2 := [])
    · rfl
    · rfl
    · kernel_rfl
    · rfl
    · kernel_rfl
    · exact ⟨rfl, rfl, rfl, Nat.le_refl _, fun _ _ => rfl⟩
    · exact fun u u' h hb => h.trans (hb.mono (by have := h.size; simpa using this))
    repeat (first
      | ((apply wpT_exact; · (intro w' hC hf; unfold Gives; have c0 : w'.cell? ⟨w.heap.size, 0, none⟩ = some (.int .i64 P) := (HZ.out.below hC (Nat.lt_succ_self _)).cell 0; have c1 : w'.cell? ⟨w.heap.size, 1, none⟩ = some (.int .i64 Q) := (HZ.out.below hC (Nat.lt_succ_self _)).cell 1; clear hf hC; go_wp2_with (fail); apply postT_val rfl (Below.refl _ _); simp only [valAt, Array.getD_eq_getD_getElem?, List.getElem?_toArray, List.getElem?_cons_succ, List.getElem?_cons_zero, Option.getD_some]; exact rfl)); (try simp only [Act.put, List.setIfInBounds_toArray, List.set_cons_zero, List.set_cons_succ]))
      | ((apply wpT_exact; · (intro w' hC hf; unfold Gives; have c0 : w'.cell? ⟨w.heap.size, 0, none⟩ = some (.int .i64 P) := (HZ.out.below hC (Nat.lt_succ_self _)).cell 0; have c1 : w'.cell? ⟨w.heap.size, 1, none⟩ = some (.int .i64 Q) := (HZ.out.below hC (Nat.lt_succ_self _)).cell 1; clear hf hC; go_wp2_with (first | (go_at_call 30; ((with_reducible refine (CP.out _).mono ?_)); rintro e w2 ⟨rfl, rfl⟩) | (go_at_call 30; ((with_reducible refine (CQ.out _).mono ?_)); rintro e w2 ⟨rfl, rfl⟩) | (go_at_call 31; ((with_reducible refine (CG.out _).mono ?_)); rintro e w2 ⟨rfl, hb2⟩)); apply postT_val rfl (by first | exact Below.refl _ _ | assumption); simp only [valAt, Array.getD_eq_getD_getElem?, List.getElem?_toArray, List.getElem?_cons_succ, List.getElem?_cons_zero, Option.getD_some]; exact rfl)); (try simp only [Act.put, List.setIfInBounds_toArray, List.set_cons_zero, List.set_cons_succ])))
    apply wpT_done
    intro w3 hC _
    go_wp2
    go_ret
    exact ⟨rfl, of_box hC⟩
  · have hq1 : (Q == 0) = false := by simp; omega
    have b1 : decide (1 ≤ Q) = true := by simp; omega
    have b2 : decide (Q ≤ 2147483648) = true := by simp; omega
    have b3 : decide (-2147483648 ≤ P) = true := by simp; omega
    have b4 : decide (P ≤ 2147483648) = true := by simp; omega
    have hbb : ((g : Int) == 1) = b := by
      rw [← hb]
      by_cases h : g = 1
      · subst h; rfl
      · have : ¬ ((g : Int) = 1) := by omega
        simp [h, this]
    have HBB := Lib.hid hbb; clear hbb hb
    go_enter Tryd.func12, Tryd.ntmps12
    go_wp2
    apply wp_region_typed (C := fun w' => Below (w.heap.size + 1) (w.alloc (.cells #[.int .i64 P, .int .i64 Q] 23)) w') (n := 34) (m := 29) (l1 := [_, _, _, _, _, _, _, _, _, _, _, _, _, _, _, _, _, _, _, _, _, _, _, _, _, _, _, _, _]) (l2 := [])
    · rfl
    · rfl
    · kernel_rfl
    · rfl
    · kernel_rfl
    · exact ⟨rfl, rfl, rfl, Nat.le_refl _, fun _ _ => rfl⟩
    · exact fun u u' h hb => h.trans (hb.mono (by have := h.size; simpa using this))
    repeat (first
      | ((apply wpT_exact; · (intro w' hC hf; unfold Gives; have c0 : w'.cell? ⟨w.heap.size, 0, none⟩ = some (.int .i64 P) := (HZ.out.below hC (Nat.lt_succ_self _)).cell 0; have c1 : w'.cell? ⟨w.heap.size, 1, none⟩ = some (.int .i64 Q) := (HZ.out.below hC (Nat.lt_succ_self _)).cell 1; clear hf hC; go_wp2_with (fail); apply postT_val rfl (Below.refl _ _); simp only [valAt, Array.getD_eq_getD_getElem?, List.getElem?_toArray, List.getElem?_cons_succ, List.getElem?_cons_zero, Option.getD_some]; exact rfl)); (try simp only [Act.put, List.setIfInBounds_toArray, List.set_cons_zero, List.set_cons_succ]))
      | ((apply wpT_exact; · (intro w' hC hf; unfold Gives; have c0 : w'.cell? ⟨w.heap.size, 0, none⟩ = some (.int .i64 P) := (HZ.out.below hC (Nat.lt_succ_self _)).cell 0; have c1 : w'.cell? ⟨w.heap.size, 1, none⟩ = some (.int .i64 Q) := (HZ.out.below hC (Nat.lt_succ_self _)).cell 1; clear hf hC; go_wp2_with (first | (go_at_call 30; ((with_reducible refine (CP.out _).mono ?_)); rintro e w2 ⟨rfl, rfl⟩) | (go_at_call 30; ((with_reducible refine (CQ.out _).mono ?_)); rintro e w2 ⟨rfl, rfl⟩) | (go_at_call 31; ((with_reducible refine (CG.out _).mono ?_)); rintro e w2 ⟨rfl, hb2⟩)); apply postT_val rfl (by first | exact Below.refl _ _ | assumption); simp only [valAt, Array.getD_eq_getD_getElem?, List.getElem?_toArray, List.getElem?_cons_succ, List.getElem?_cons_zero, Option.getD_some]; exact rfl)); (try simp only [Act.put, List.setIfInBounds_toArray, List.set_cons_zero, List.set_cons_succ])))
    apply wpT_done
    intro w3 hC _
    go_wp2
    go_ret
    exact ⟨ret_bool HBB.out, of_box hC⟩
end Go.Proofs.YtknnbejhfhadnaaDoor
