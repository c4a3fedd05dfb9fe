/- Floor. -/
import Derived.Test.YtknnbejhfhadnaaDoorW9
namespace Go.Proofs.YtknnbejhfhadnaaDoor
open Go.RowKit
/-- What Floor comes to, by the quotient towards nought. -/
inductive FlrIs (P n M F : Int) : Prop where
  | less (h : P < M) (e : F = n - 1)
  | same (h : ¬ P < M) (e : F = n)
theorem flrIs {P Q n M : Int} (hQ : 1 ≤ Q) (hn : P.tdiv Q = n) (hM : n * Q = M) : FlrIs P n M (P / Q) := by
  have h1 := Int.mul_ediv_add_emod P Q
  have h2 := Int.emod_nonneg P (show Q ≠ 0 by omega)
  have h3 := Int.emod_lt_of_pos P (show 0 < Q by omega)
  rw [Int.tdiv_eq_ediv] at hn
  split at hn
  · have e : P / Q = n := by omega
    rw [e, Int.mul_comm, hM] at h1
    exact .same (by omega) e
  · rw [Int.sign_eq_one_of_pos (by omega)] at hn
    have e : P / Q = n - 1 := by omega
    rw [e, Int.mul_comm, Int.sub_mul, hM] at h1
    exact .less (by omega) e
theorem ceil_neg {P d : Int} (h : 1 ≤ d) : -((-P + d - 1) / d) = P / d := by
  have h1 := Int.mul_ediv_add_emod P d
  have h2 := Int.emod_nonneg P (show d ≠ 0 by omega)
  have h3 := Int.emod_lt_of_pos P (show 0 < d by omega)
  have e : -P + d - 1 = (d - 1 - P % d) + d * (-(P / d)) := by rw [Int.mul_neg]; omega
  rw [e, Int.add_mul_ediv_left _ _ (by omega), Int.ediv_eq_zero_of_lt (by omega) (by omega)]
  omega
theorem blk1 (P Q : Int) (w : World) : Blk (w.alloc (.cells #[.int .i64 P, .int .i64 Q] 23)) w.heap.size 23 #[.int .i64 P, .int .i64 Q] ∧ Below w.heap.size w (w.alloc (.cells #[.int .i64 P, .int .i64 Q] 23)) :=
  ⟨Blk.new w 23 _, (Below.refl _ _).alloc (Nat.le_refl _) _⟩
structure One (P Q : Int) (w w' : World) : Prop where
  b0 : Blk w' w.heap.size 23 #[.int .i64 P, .int .i64 Q]
  bl : Below w.heap.size w w'
theorem one0 (P Q : Int) (w : World) : One P Q w (w.alloc (.cells #[.int .i64 P, .int .i64 Q] 23)) := ⟨(blk1 P Q w).1, (blk1 P Q w).2⟩
theorem One.below {P Q : Int} {w w' w'' : World} (h : One P Q w w') (hb : Below w'.heap.size w' w'') : One P Q w w'' := ⟨h.b0.below hb h.b0.lt, h.bl.trans (hb.mono (by have := h.b0.lt; omega))⟩
theorem One.drew {P Q : Int} {w w' : World} (h : One P Q w w') : One P Q w w'.drew := ⟨h.b0, h.bl.trans ⟨rfl, rfl, rfl, Nat.le_refl _, fun _ _ => rfl⟩⟩
set_option maxHeartbeats 4000000 in
theorem floor_any (P Q : Int) (w : World) (hP : inI P) (hQ : inI Q) : Calls Tryd.prog 29 #[.agg #[.int .i64 P, .int .i64 Q]] w fun e w' => e = .returned (.int .i64 (Rt.flr P Q)) ∧ Below w.heap.size w w' := by
  have cv := fun w => valid_any P Q w hP hQ
  have T0 := Lib.hid (one0 P Q w)
  cases hv : Rt.vld P Q
  · have HR := Lib.hid (show Rt.flr P Q = 0 by unfold Rt.flr; rw [hv]; rfl)
    rw [hv] at cv
    have CV := Lib.hid cv
    clear cv hP hQ hv
    go_enter Tryd.func29, Tryd.ntmps29
    go_wp2_with (first | (go_at_call 12; ((with_reducible refine (CV.out _).mono ?_)); rintro e w2 ⟨rfl, hb2⟩; have T2 := Lib.hid (One.below (T0.out) hb2); clear hb2; obtain ⟨c0, c1, f0, f1⟩ := cells_of T2.out.b0))
    go_ret
    exact ⟨by rw [HR.out]; rfl, T2.out.bl⟩
  · rw [hv] at cv
    have hvp := Rt.vld_iff.1 hv
    by_cases hq0 : Q = 0
    · have hp0 : P = 0 := by rcases hvp with ⟨a, _⟩ | ⟨a, _⟩ <;> omega
      subst hq0 hp0
      have HR := Lib.hid (show Rt.flr 0 0 = 0 by decide +kernel)
      have CV := Lib.hid cv
      clear cv hP hQ hv hvp
      go_enter Tryd.func29, Tryd.ntmps29
      go_wp2_with (first | (go_at_call 12; ((with_reducible refine (CV.out _).mono ?_)); rintro e w2 ⟨rfl, hb2⟩; have T2 := Lib.hid (One.below (T0.out) hb2); clear hb2; obtain ⟨c0, c1, f0, f1⟩ := cells_of T2.out.b0))
      go_ret
      exact ⟨by rw [HR.out]; rfl, T2.out.bl⟩
    · obtain ⟨n, hn⟩ : ∃ n, P.tdiv Q = n := ⟨_, rfl⟩
      obtain ⟨M, hM⟩ : ∃ M, n * Q = M := ⟨_, rfl⟩
      have hd : Rt.den Q = Q := by unfold Rt.den; rw [if_neg hq0]
      have hp := Rt.den_pos hvp
      rw [hd] at hp
      have hf := flrIs hp.1 hn hM
      have hfl : Rt.flr P Q = P / Q := by unfold Rt.flr; rw [if_pos hv, hd]
      rw [← hfl] at hf
      have bf := Rt.flr_bd hvp
      have bp := Rt.num_bd hvp
      have bn : -2147483649 ≤ n ∧ n ≤ 2147483649 := by rcases hf with ⟨h, e⟩ | ⟨h, e⟩ <;> omega
      have wn : IntKind.i64.wrap n = n := wrapI (by unfold inI; omega)
      have wn1 : IntKind.i64.wrap (n - 1) = n - 1 := wrapI (by unfold inI; omega)
      have wM : IntKind.i64.wrap M = M := by
        have h1 := Int.mul_le_mul_of_nonneg_right bn.2 (show 0 ≤ Q by omega)
        have h2 := Int.mul_le_mul_of_nonneg_right bn.1 (show 0 ≤ Q by omega)
        rw [hM] at h1 h2
        exact wrapI (by unfold inI; omega)
      have hqz : (Q == 0) = false := by simpa using hq0
      have CV := Lib.hid cv
      generalize Rt.flr P Q = F at hf
      obtain ⟨k, hk⟩ : ∃ k, n - 1 = k := ⟨_, rfl⟩
      rw [hk] at wn1
      clear cv hP hQ hv hvp bf bp bn hp hfl hd
      rcases hf with ⟨h, e⟩ | ⟨h, e⟩
      · have b1 : decide (P < M) = true := by simpa using h
        rw [hk] at e
        clear h
        go_enter Tryd.func29, Tryd.ntmps29
        go_wp2_with (first | (go_at_call 12; ((with_reducible refine (CV.out _).mono ?_)); rintro e w2 ⟨rfl, hb2⟩; have T2 := Lib.hid (One.below (T0.out) hb2); clear hb2; obtain ⟨c0, c1, f0, f1⟩ := cells_of T2.out.b0))
        go_ret
        exact ⟨by rw [e]; rfl, T2.out.bl⟩
      · have b1 : decide (P < M) = false := by simpa using h
        clear h
        go_enter Tryd.func29, Tryd.ntmps29
        go_wp2_with (first | (go_at_call 12; ((with_reducible refine (CV.out _).mono ?_)); rintro e w2 ⟨rfl, hb2⟩; have T2 := Lib.hid (One.below (T0.out) hb2); clear hb2; obtain ⟨c0, c1, f0, f1⟩ := cells_of T2.out.b0))
        go_ret
        exact ⟨by rw [e]; rfl, T2.out.bl⟩
end Go.Proofs.YtknnbejhfhadnaaDoor
