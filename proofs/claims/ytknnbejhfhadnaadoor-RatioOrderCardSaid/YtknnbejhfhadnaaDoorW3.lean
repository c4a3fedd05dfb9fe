/- Make: the reference's. -/
import Derived.Test.YtknnbejhfhadnaaDoorW2
namespace Go.Proofs.YtknnbejhfhadnaaDoor
open Go.RowKit
set_option maxHeartbeats 4000000 in
theorem rMake_any (p q : Int) (w : World) (hp : inI p) (hq : inI q) : Calls Tryd.prog 11 #[.int .i64 p, .int .i64 q] w fun e w' => TupIs (Rt.mk p q) e ∧ Below w.heap.size w w' := by
  by_cases h0 : q = 0
  · subst h0
    have hR := Lib.hid (show Rt.mk p 0 = (0, 0, 1) by unfold Rt.mk; rw [if_pos rfl])
    go_enter Tryd.func11, Tryd.ntmps11
    go_wp2
    exact bodyPost_ret (v := .tuple #[.agg #[.int .i64 0, .int .i64 0], .int .i64 1]) (by simp [results, Tryd.results11, go_sem]) rfl ⟨TupIs.mk hR.out, (Below.refl _ _).alloc (Nat.le_refl _) _⟩
  · obtain ⟨u, hu⟩ : ∃ u, p.natAbs = u := ⟨_, rfl⟩
    obtain ⟨v, hv⟩ : ∃ v, q.natAbs = v := ⟨_, rfl⟩
    obtain ⟨g, hg⟩ : ∃ g, Nat.gcd u v = g := ⟨_, rfl⟩
    obtain ⟨X, hX⟩ : ∃ X, (u : Int) / (g : Int) = X := ⟨_, rfl⟩
    obtain ⟨Y, hY⟩ : ∃ Y, (v : Int) / (g : Int) = Y := ⟨_, rfl⟩
    have hmk := mkIs h0 hu hv hg hX hY
    have hg0 : 0 < (g : Int) := by
      have := Nat.gcd_pos_of_pos_right u (show 0 < v by omega)
      omega
    have hzb : (q == 0) = false := by simpa using h0
    have hgz : ((g : Int) == 0) = false := by simp; omega
    have uu : isU u := by rw [← hu]; exact isU_abs hp
    have uv : isU v := by rw [← hv]; exact isU_abs hq
    have hwX := wrap_quo uu hX
    have hwY := wrap_quo uv hY
    have HU := Lib.hid hu; have HV := Lib.hid hv; have HG := Lib.hid hg
    clear hu hv hg
    generalize Rt.mk p q = R at hmk
    have HP := Lib.hid hp; have HQ := Lib.hid hq
    have cp := fun w => rSize_v w HP.out HU
    have cq := fun w => rSize_v w HQ.out HV
    have cg := fun w => rGcd_v w uu uv HG
    have CP := Lib.hid cp; have CQ := Lib.hid cq; have CG := Lib.hid cg
    clear cp cq cg hp hq
    rcases hmk with ⟨h, e⟩ | ⟨h, h', e⟩ | ⟨x0, h, y0, h', hp, hq, e⟩ | ⟨x0, h, y0, h', hp, hq, e⟩ | ⟨x0, h, y0, h', hp, hq, e⟩ | ⟨x0, h, y0, h', hp, hq, e, hz⟩
    case pn =>
      have hq2 : ¬ 0 < q := by omega
      have b1 : decide (2147483648 < X) = false := by simpa using h
      have b2 : decide (2147483648 < Y) = false := by simpa using h'
      clear h0
      by_cases hp2 : 0 < p
      · clear hz
        subst e
        go_enter Tryd.func11, Tryd.ntmps11
        go_wp2_with (first | (go_at_call 33; ((with_reducible refine (CP.out _).mono ?_)); rintro e w1 ⟨rfl, rfl⟩) | (go_at_call 33; ((with_reducible refine (CQ.out _).mono ?_)); rintro e w1 ⟨rfl, rfl⟩) | (go_at_call 32; ((with_reducible refine (CG.out _).mono ?_)); rintro e w1 ⟨rfl, rfl⟩))
        exact bodyPost_ret (v := .tuple #[.agg #[.int .i64 (-X), .int .i64 Y], .int .i64 0]) (by simp [results, Tryd.results11, go_sem]) rfl ⟨TupIs.mk rfl, (Below.refl _ _).alloc (Nat.le_refl _) _⟩
      · have hX0 := hz (by omega)
        clear hz
        subst e
        have HX := Lib.hid hX0
        clear hX0
        go_enter Tryd.func11, Tryd.ntmps11
        go_wp2_with (first | (go_at_call 33; ((with_reducible refine (CP.out _).mono ?_)); rintro e w1 ⟨rfl, rfl⟩) | (go_at_call 33; ((with_reducible refine (CQ.out _).mono ?_)); rintro e w1 ⟨rfl, rfl⟩) | (go_at_call 32; ((with_reducible refine (CG.out _).mono ?_)); rintro e w1 ⟨rfl, rfl⟩))
        exact bodyPost_ret (v := .tuple #[.agg #[.int .i64 X, .int .i64 Y], .int .i64 0]) (by simp [results, Tryd.results11, go_sem]) rfl ⟨TupIs.mk (by rw [HX.out]; rfl), (Below.refl _ _).alloc (Nat.le_refl _) _⟩
    all_goals
      first
        | (have b1 : decide (2147483648 < X) = true := by simpa using h)
        | (have b1 : decide (2147483648 < X) = false := by simpa using h
           have b2 : decide (2147483648 < Y) = true := by simpa using h')
        | (have b1 : decide (2147483648 < X) = false := by simpa using h
           have b2 : decide (2147483648 < Y) = false := by simpa using h'
           first | (have hq3 : 0 < q := by omega) | (have hq3 : ¬ 0 < q := by omega))
      clear h0
      subst e
      go_enter Tryd.func11, Tryd.ntmps11
      go_wp2_with (first | (go_at_call 33; ((with_reducible refine (CP.out _).mono ?_)); rintro e w1 ⟨rfl, rfl⟩) | (go_at_call 33; ((with_reducible refine (CQ.out _).mono ?_)); rintro e w1 ⟨rfl, rfl⟩) | (go_at_call 32; ((with_reducible refine (CG.out _).mono ?_)); rintro e w1 ⟨rfl, rfl⟩))
      all_goals first
        | exact bodyPost_ret (v := .tuple #[.agg #[.int .i64 0, .int .i64 0], .int .i64 5]) (by simp [results, Tryd.results11, go_sem]) rfl ⟨TupIs.mk rfl, (Below.refl _ _).alloc (Nat.le_refl _) _⟩
        | exact bodyPost_ret (v := .tuple #[.agg #[.int .i64 X, .int .i64 Y], .int .i64 0]) (by simp [results, Tryd.results11, go_sem]) rfl ⟨TupIs.mk rfl, (Below.refl _ _).alloc (Nat.le_refl _) _⟩
        | exact bodyPost_ret (v := .tuple #[.agg #[.int .i64 (-X), .int .i64 Y], .int .i64 0]) (by simp [results, Tryd.results11, go_sem]) rfl ⟨TupIs.mk rfl, (Below.refl _ _).alloc (Nat.le_refl _) _⟩
end Go.Proofs.YtknnbejhfhadnaaDoor
