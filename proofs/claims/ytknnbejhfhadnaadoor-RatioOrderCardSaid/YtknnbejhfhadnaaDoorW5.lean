/- Valid: the reference's. -/
import Derived.Test.YtknnbejhfhadnaaDoorW4
namespace Go.Proofs.YtknnbejhfhadnaaDoor
open Go.RowKit
set_option maxHeartbeats 4000000 in
theorem rValid_any (P Q : Int) (w : World) (hP : inI P) (hQ : inI Q) : Calls Tryd.prog 13 #[.agg #[.int .i64 P, .int .i64 Q]] w fun e w' => e = .returned (.bool (Rt.vld P Q)) ∧ Below w.heap.size w w' := by
  obtain ⟨u, hu⟩ : ∃ u, P.natAbs = u := ⟨_, rfl⟩
  obtain ⟨v, hv⟩ : ∃ v, Q.natAbs = v := ⟨_, rfl⟩
  obtain ⟨g, hg⟩ : ∃ g, Nat.gcd u v = g := ⟨_, rfl⟩
  have hv0 := vldIs P Q hu hv hg
  have uu : isU u := by rw [← hu]; exact isU_abs hP
  have uv : isU v := by rw [← hv]; exact isU_abs hQ
  have HU := Lib.hid hu; have HV := Lib.hid hv; have HG := Lib.hid hg; have HP := Lib.hid hP; have HQ := Lib.hid hQ
  have cp := fun w => rSize_v w HP.out HU
  have cq := fun w => rSize_v w HQ.out HV
  have cg := fun w => rGcd_v w uu uv HG
  have CP := Lib.hid cp; have CQ := Lib.hid cq; have CG := Lib.hid cg
  have HZ := Lib.hid (Blk.new w 23 #[.int .i64 P, .int .i64 Q])
  clear cp cq cg hP hQ hu hv hg
  generalize Rt.vld P Q = b at hv0
  rcases hv0 with ⟨rfl, rfl, rfl⟩ | ⟨h0, h1, rfl⟩ | ⟨h1, h2, rfl⟩ | ⟨h1, h2, h3, rfl⟩ | ⟨h1, h2, h3, h4, rfl⟩ | ⟨h1, h2, h3, h4, hb⟩
  · go_enter Tryd.func13, Tryd.ntmps13
    go_wp2
    go_ret
    exact ⟨rfl, (Below.refl _ _).alloc (Nat.le_refl _) _⟩
  · by_cases hq0 : Q = 0
    · have hp0 : (P == 0) = false := by simp; omega
      have hq1 : (Q == 0) = true := by simpa using hq0
      clear hq0 h0
      have b1 : decide (Q < 1) = true := by simp; omega
      go_enter Tryd.func13, Tryd.ntmps13
      go_wp2
      go_ret
      exact ⟨rfl, (Below.refl _ _).alloc (Nat.le_refl _) _⟩
    · have hq1 : (Q == 0) = false := by simpa using hq0
      clear hq0 h0
      cases hp : (P == 0)
      · have b1 : decide (Q < 1) = true := by simp; omega
        go_enter Tryd.func13, Tryd.ntmps13
        go_wp2
        go_ret
        exact ⟨rfl, (Below.refl _ _).alloc (Nat.le_refl _) _⟩
      · have b1 : decide (Q < 1) = true := by simp; omega
        go_enter Tryd.func13, Tryd.ntmps13
        go_wp2
        go_ret
        exact ⟨rfl, (Below.refl _ _).alloc (Nat.le_refl _) _⟩
  · have hq1 : (Q == 0) = false := by simp; omega
    cases hp : (P == 0)
    · have b1 : decide (Q < 1) = false := by simp; omega
      have b2 : decide (2147483648 < Q) = true := by simp; omega
      go_enter Tryd.func13, Tryd.ntmps13
      go_wp2
      go_ret
      exact ⟨rfl, (Below.refl _ _).alloc (Nat.le_refl _) _⟩
    · have b1 : decide (Q < 1) = false := by simp; omega
      have b2 : decide (2147483648 < Q) = true := by simp; omega
      go_enter Tryd.func13, Tryd.ntmps13
      go_wp2
      go_ret
      exact ⟨rfl, (Below.refl _ _).alloc (Nat.le_refl _) _⟩
  · have hq1 : (Q == 0) = false := by simp; omega
    cases hp : (P == 0)
    · have b1 : decide (Q < 1) = false := by simp; omega
      have b2 : decide (2147483648 < Q) = false := by simp; omega
      have b3 : decide (P < -2147483648) = true := by simp; omega
      go_enter Tryd.func13, Tryd.ntmps13
      go_wp2
      go_ret
      exact ⟨rfl, (Below.refl _ _).alloc (Nat.le_refl _) _⟩
    · have b1 : decide (Q < 1) = false := by simp; omega
      have b2 : decide (2147483648 < Q) = false := by simp; omega
      have b3 : decide (P < -2147483648) = true := by simp; omega
      go_enter Tryd.func13, Tryd.ntmps13
      go_wp2
      go_ret
      exact ⟨rfl, (Below.refl _ _).alloc (Nat.le_refl _) _⟩
  · have hq1 : (Q == 0) = false := by simp; omega
    cases hp : (P == 0)
    · have b1 : decide (Q < 1) = false := by simp; omega
      have b2 : decide (2147483648 < Q) = false := by simp; omega
      have b3 : decide (P < -2147483648) = false := by simp; omega
      have b4 : decide (2147483648 < P) = true := by simp; omega
      go_enter Tryd.func13, Tryd.ntmps13
      go_wp2
      go_ret
      exact ⟨rfl, (Below.refl _ _).alloc (Nat.le_refl _) _⟩
    · have b1 : decide (Q < 1) = false := by simp; omega
      have b2 : decide (2147483648 < Q) = false := by simp; omega
      have b3 : decide (P < -2147483648) = false := by simp; omega
      have b4 : decide (2147483648 < P) = true := by simp; omega
      go_enter Tryd.func13, Tryd.ntmps13
      go_wp2
      go_ret
      exact ⟨rfl, (Below.refl _ _).alloc (Nat.le_refl _) _⟩
  · have hq1 : (Q == 0) = false := by simp; omega
    cases hp : (P == 0)
    · have b1 : decide (Q < 1) = false := by simp; omega
      have b2 : decide (2147483648 < Q) = false := by simp; omega
      have b3 : decide (P < -2147483648) = false := by simp; omega
      have b4 : decide (2147483648 < P) = false := by simp; omega
      have hbb : ((g : Int) == 1) = b := by
        rw [← hb]
        by_cases h : g = 1
        · subst h; rfl
        · have : ¬ ((g : Int) = 1) := by omega
          simp [h, this]
      have HBB := Lib.hid hbb; clear hbb hb
      go_enter Tryd.func13, Tryd.ntmps13
      go_wp2
      apply wp_region_typed (C := fun w' => Below (w.heap.size + 1) (w.alloc (.cells #[.int .i64 P, .int .i64 Q] 23)) w') (n := 37) (m := 9) (l1 := [_, _, _, _, _, _, _, _, _]) (l2 := [])
      · rfl
      · rfl
      · kernel_rfl
      · rfl
      · kernel_rfl
      · exact ⟨rfl, rfl, rfl, Nat.le_refl _, fun _ _ => rfl⟩
      · exact fun u u' h hb => h.trans (hb.mono (by have := h.size; simpa using this))
      repeat (first
        | ((apply wpT_exact; · (intro w' hC hf; unfold Gives; have c0 : w'.cell? ⟨w.heap.size, 0, none⟩ = some (.int .i64 P) := (HZ.out.below hC (Nat.lt_succ_self _)).cell 0; have c1 : w'.cell? ⟨w.heap.size, 1, none⟩ = some (.int .i64 Q) := (HZ.out.below hC (Nat.lt_succ_self _)).cell 1; clear hf hC; go_wp2_with (fail); apply postT_val rfl (Below.refl _ _); simp only [valAt, Array.getD_eq_getD_getElem?, List.getElem?_toArray, List.getElem?_cons_succ, List.getElem?_cons_zero, Option.getD_some]; exact rfl)); (try simp only [Act.put, List.setIfInBounds_toArray, List.set_cons_zero, List.set_cons_succ]))
        | ((apply wpT_exact; · (intro w' hC hf; unfold Gives; have c0 : w'.cell? ⟨w.heap.size, 0, none⟩ = some (.int .i64 P) := (HZ.out.below hC (Nat.lt_succ_self _)).cell 0; have c1 : w'.cell? ⟨w.heap.size, 1, none⟩ = some (.int .i64 Q) := (HZ.out.below hC (Nat.lt_succ_self _)).cell 1; clear hf hC; go_wp2_with (first | (go_at_call 33; ((with_reducible refine (CP.out _).mono ?_)); rintro e w2 ⟨rfl, rfl⟩) | (go_at_call 33; ((with_reducible refine (CQ.out _).mono ?_)); rintro e w2 ⟨rfl, rfl⟩) | (go_at_call 32; ((with_reducible refine (CG.out _).mono ?_)); rintro e w2 ⟨rfl, rfl⟩)); apply postT_val rfl (by first | exact Below.refl _ _ | assumption); simp only [valAt, Array.getD_eq_getD_getElem?, List.getElem?_toArray, List.getElem?_cons_succ, List.getElem?_cons_zero, Option.getD_some]; exact rfl)); (try simp only [Act.put, List.setIfInBounds_toArray, List.set_cons_zero, List.set_cons_succ])))
      apply wpT_done
      intro w3 hC _
      go_wp2
      go_ret
      exact ⟨ret_bool HBB.out, of_box hC⟩
    · have b1 : decide (Q < 1) = false := by simp; omega
      have b2 : decide (2147483648 < Q) = false := by simp; omega
      have b3 : decide (P < -2147483648) = false := by simp; omega
      have b4 : decide (2147483648 < P) = false := by simp; omega
      have hbb : ((g : Int) == 1) = b := by
        rw [← hb]
        by_cases h : g = 1
        · subst h; rfl
        · have : ¬ ((g : Int) = 1) := by omega
          simp [h, this]
      have HBB := Lib.hid hbb; clear hbb hb
      go_enter Tryd.func13, Tryd.ntmps13
      go_wp2
      apply wp_region_typed (C := fun w' => Below (w.heap.size + 1) (w.alloc (.cells #[.int .i64 P, .int .i64 Q] 23)) w') (n := 37) (m := 9) (l1 := [_, _, _, _, _, _, _, _, _]) (l2 := [])
      · rfl
      · rfl
      · kernel_rfl
      · rfl
      · kernel_rfl
      · exact ⟨rfl, rfl, rfl, Nat.le_refl _, fun _ _ => rfl⟩
      · exact fun u u' h hb => h.trans (hb.mono (by have := h.size; simpa using this))
      repeat (first
        | ((apply wpT_exact; · (intro w' hC hf; unfold Gives; have c0 : w'.cell? ⟨w.heap.size, 0, none⟩ = some (.int .i64 P) := (HZ.out.below hC (Nat.lt_succ_self _)).cell 0; have c1 : w'.cell? ⟨w.heap.size, 1, none⟩ = some (.int .i64 Q) := (HZ.out.below hC (Nat.lt_succ_self _)).cell 1; clear hf hC; go_wp2_with (fail); apply postT_val rfl (Below.refl _ _); simp only [valAt, Array.getD_eq_getD_getElem?, List.getElem?_toArray, List.getElem?_cons_succ, List.getElem?_cons_zero, Option.getD_some]; exact rfl)); (try simp only [Act.put, List.setIfInBounds_toArray, List.set_cons_zero, List.set_cons_succ]))
        | ((apply wpT_exact; · (intro w' hC hf; unfold Gives; have c0 : w'.cell? ⟨w.heap.size, 0, none⟩ = some (.int .i64 P) := (HZ.out.below hC (Nat.lt_succ_self _)).cell 0; have c1 : w'.cell? ⟨w.heap.size, 1, none⟩ = some (.int .i64 Q) := (HZ.out.below hC (Nat.lt_succ_self _)).cell 1; clear hf hC; go_wp2_with (first | (go_at_call 33; ((with_reducible refine (CP.out _).mono ?_)); rintro e w2 ⟨rfl, rfl⟩) | (go_at_call 33; ((with_reducible refine (CQ.out _).mono ?_)); rintro e w2 ⟨rfl, rfl⟩) | (go_at_call 32; ((with_reducible refine (CG.out _).mono ?_)); rintro e w2 ⟨rfl, rfl⟩)); apply postT_val rfl (by first | exact Below.refl _ _ | assumption); simp only [valAt, Array.getD_eq_getD_getElem?, List.getElem?_toArray, List.getElem?_cons_succ, List.getElem?_cons_zero, Option.getD_some]; exact rfl)); (try simp only [Act.put, List.setIfInBounds_toArray, List.set_cons_zero, List.set_cons_succ])))
      apply wpT_done
      intro w3 hC _
      go_wp2
      go_ret
      exact ⟨ret_bool HBB.out, of_box hC⟩
end Go.Proofs.YtknnbejhfhadnaaDoor
