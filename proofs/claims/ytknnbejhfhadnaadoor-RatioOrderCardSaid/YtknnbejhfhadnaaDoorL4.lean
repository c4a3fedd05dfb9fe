/- RatioTerms: the walk. -/
import Derived.Test.YtknnbejhfhadnaaDoorL3
namespace Go.Proofs.YtknnbejhfhadnaaDoor
open Go.RowKit Go.Sort
theorem terms_mul {a c : Int} (h1 : -1073741824 ≤ a) (h2 : a ≤ 1073741823) (h3 : -2147483648 ≤ c) (h4 : c ≤ 2147483648) : inI (a * c) := by
  rcases Int.lt_or_le c 0 with hn | hn
  · have := Rt.prod_bd (a := -a) (b := -c) (by omega) (by omega) (by omega) (by omega)
    rw [Int.neg_mul_neg] at this; unfold inI; omega
  · have := Rt.prod_bd (a := a) (b := c) (by omega) (by omega) hn h4
    unfold inI; omega
set_option maxHeartbeats 4000000 in
theorem terms_x (p q k : Int) (w : World) (ht : TEnv w) (hp : inI p) (hq : inI q) (hk : inI k) : Calls Tryd.prog 5 #[.int .i64 p, .int .i64 q, .int .i64 k] w fun e w' => e = .returned (.bool true) ∧ Below w.heap.size w w' := by
  have T0 := Lib.hid (hold0 w)
  have HE := Lib.hid ht; have HZ := Lib.hid ht.sz
  have HV := Lib.hid lives_any
  have c1 := fun w => around_any p 2147483648 w hp.1 hp.2
  have c2 := fun w => around_any q 2147483648 w hq.1 hq.2
  have c3 := fun w => around_any k 2147483648 w hk.1 hk.2
  have b1 := around_bd p 2147483648 (by omega)
  have b2 := around_bd q 2147483648 (by omega)
  have b3 := around_bd k 2147483648 (by omega)
  generalize around p 2147483648 = A1 at *
  generalize around q 2147483648 = A2 at *
  generalize around k 2147483648 = A3 at *
  obtain ⟨a, ha⟩ : ∃ a, A1 - 1073741824 = a := ⟨_, rfl⟩
  obtain ⟨b, hb⟩ : ∃ b, A2 - 1073741824 = b := ⟨_, rfl⟩
  obtain ⟨d, hd⟩ : ∃ d, 1 + A3 = d := ⟨_, rfl⟩
  obtain ⟨c, hc⟩ : ∃ c, c = if k < 0 then -d else d := ⟨_, rfl⟩
  have hc0 : c ≠ 0 ∧ -2147483648 ≤ c ∧ c ≤ 2147483648 := by split at hc <;> omega
  have iX := terms_mul (a := a) (c := c) (by omega) (by omega) (by omega) (by omega)
  have iY := terms_mul (a := b) (c := c) (by omega) (by omega) (by omega) (by omega)
  have m1 := fun w => make_any a b w (by unfold inI; omega) (by unfold inI; omega)
  have m2 := fun w => make_any (a * c) (b * c) w iX iY
  rw [Rt.mk_terms a b c hc0.1] at m2
  have h0 : b = 0 → (Rt.mk a b).2.2 = 1 := fun h => by unfold Rt.mk; rw [if_pos h]
  generalize Rt.mk a b = R at *
  obtain ⟨X, Y, Z⟩ := R
  unfold TupIs at m1 m2
  dsimp only at m1 m2 h0
  obtain ⟨U, hU⟩ : ∃ U, a * c = U := ⟨_, rfl⟩
  obtain ⟨V, hV⟩ : ∃ V, b * c = V := ⟨_, rfl⟩
  rw [hU] at m2 iX; rw [hV] at m2 iY
  have wU := wrapI iX; have wV := wrapI iY
  have wa : IntKind.i64.wrap a = a := wrapI (by unfold inI; omega)
  have wb : IntKind.i64.wrap b = b := wrapI (by unfold inI; omega)
  have wd : IntKind.i64.wrap d = d := wrapI (by unfold inI; omega)
  have C1 := Lib.hid c1; have C2 := Lib.hid c2; have C3 := Lib.hid c3; have M1 := Lib.hid m1; have M2 := Lib.hid m2
  have BD : 1 ≤ d ∧ d ≤ 2147483648 := by omega
  obtain ⟨bd1, bd2⟩ := BD
  clear c1 c2 c3 m1 m2 hc0 iX iY hp hq hk ht
  by_cases hk0 : k < 0
  · have k1 : decide (k < 0) = true := by simpa using hk0
    rw [if_pos hk0] at hc
    subst hc
    clear hk0
    by_cases hb0 : b = 0
    · have q1 : (b == 0) = true := by simpa using hb0
      have q2 : (b != 0) = false := by simpa using hb0
      obtain rfl := h0 hb0
      clear h0 hb0
      go_enter Tryd.func5, Tryd.ntmps5
      go_wp2_with (first | (go_at_call 18; ((with_reducible refine (C1.out _).mono ?_)); rintro e w2 ⟨rfl, rfl⟩) | (go_at_call 18; ((with_reducible refine (C2.out _).mono ?_)); rintro e w2 ⟨rfl, rfl⟩) | (go_at_call 18; ((with_reducible refine (C3.out _).mono ?_)); rintro e w2 ⟨rfl, rfl⟩) | (go_at_call 10; ((with_reducible refine (M1.out _).mono ?_)); rintro e w2 ⟨rfl, hb2⟩; replace T0 := Lib.hid (T0.out.below hb2); clear hb2; replace T0 := Lib.hid (T0.out.new (two X Y) 23 rfl)) | (go_at_call 10; ((with_reducible refine (M2.out _).mono ?_)); rintro e w2 ⟨rfl, hb2⟩; replace T0 := Lib.hid (T0.out.below hb2); clear hb2; replace T0 := Lib.hid (T0.out.new (two X Y) 23 rfl); obtain ⟨x0, y0, _, _⟩ := cells_of T0.out.tl.at1; obtain ⟨x1, y1, _, _⟩ := cells_of T0.out.at1) | (go_at_call 14; ((with_reducible refine (HV.out _ (HE.out.below T0.out.bl HZ.out)).mono ?_)); rintro e w2 ⟨rfl, hb2⟩; replace T0 := Lib.hid (T0.out.below hb2); clear hb2))
      go_ret
      exact ⟨rfl, T0.out.bl⟩
    · have q1 : (b == 0) = false := by simpa using hb0
      have q2 : (b != 0) = true := by simpa using hb0
      clear h0 hb0
      go_enter Tryd.func5, Tryd.ntmps5
      go_wp2_with (first | (go_at_call 18; ((with_reducible refine (C1.out _).mono ?_)); rintro e w2 ⟨rfl, rfl⟩) | (go_at_call 18; ((with_reducible refine (C2.out _).mono ?_)); rintro e w2 ⟨rfl, rfl⟩) | (go_at_call 18; ((with_reducible refine (C3.out _).mono ?_)); rintro e w2 ⟨rfl, rfl⟩) | (go_at_call 10; ((with_reducible refine (M1.out _).mono ?_)); rintro e w2 ⟨rfl, hb2⟩; replace T0 := Lib.hid (T0.out.below hb2); clear hb2; replace T0 := Lib.hid (T0.out.new (two X Y) 23 rfl)) | (go_at_call 10; ((with_reducible refine (M2.out _).mono ?_)); rintro e w2 ⟨rfl, hb2⟩; replace T0 := Lib.hid (T0.out.below hb2); clear hb2; replace T0 := Lib.hid (T0.out.new (two X Y) 23 rfl); obtain ⟨x0, y0, _, _⟩ := cells_of T0.out.tl.at1; obtain ⟨x1, y1, _, _⟩ := cells_of T0.out.at1) | (go_at_call 14; ((with_reducible refine (HV.out _ (HE.out.below T0.out.bl HZ.out)).mono ?_)); rintro e w2 ⟨rfl, hb2⟩; replace T0 := Lib.hid (T0.out.below hb2); clear hb2))
      go_ret
      exact ⟨rfl, T0.out.bl⟩
  · have k1 : decide (k < 0) = false := by simpa using hk0
    rw [if_neg hk0] at hc
    subst hc
    clear hk0
    by_cases hb0 : b = 0
    · have q1 : (b == 0) = true := by simpa using hb0
      have q2 : (b != 0) = false := by simpa using hb0
      obtain rfl := h0 hb0
      clear h0 hb0
      go_enter Tryd.func5, Tryd.ntmps5
      go_wp2_with (first | (go_at_call 18; ((with_reducible refine (C1.out _).mono ?_)); rintro e w2 ⟨rfl, rfl⟩) | (go_at_call 18; ((with_reducible refine (C2.out _).mono ?_)); rintro e w2 ⟨rfl, rfl⟩) | (go_at_call 18; ((with_reducible refine (C3.out _).mono ?_)); rintro e w2 ⟨rfl, rfl⟩) | (go_at_call 10; ((with_reducible refine (M1.out _).mono ?_)); rintro e w2 ⟨rfl, hb2⟩; replace T0 := Lib.hid (T0.out.below hb2); clear hb2; replace T0 := Lib.hid (T0.out.new (two X Y) 23 rfl)) | (go_at_call 10; ((with_reducible refine (M2.out _).mono ?_)); rintro e w2 ⟨rfl, hb2⟩; replace T0 := Lib.hid (T0.out.below hb2); clear hb2; replace T0 := Lib.hid (T0.out.new (two X Y) 23 rfl); obtain ⟨x0, y0, _, _⟩ := cells_of T0.out.tl.at1; obtain ⟨x1, y1, _, _⟩ := cells_of T0.out.at1) | (go_at_call 14; ((with_reducible refine (HV.out _ (HE.out.below T0.out.bl HZ.out)).mono ?_)); rintro e w2 ⟨rfl, hb2⟩; replace T0 := Lib.hid (T0.out.below hb2); clear hb2))
      go_ret
      exact ⟨rfl, T0.out.bl⟩
    · have q1 : (b == 0) = false := by simpa using hb0
      have q2 : (b != 0) = true := by simpa using hb0
      clear h0 hb0
      go_enter Tryd.func5, Tryd.ntmps5
      go_wp2_with (first | (go_at_call 18; ((with_reducible refine (C1.out _).mono ?_)); rintro e w2 ⟨rfl, rfl⟩) | (go_at_call 18; ((with_reducible refine (C2.out _).mono ?_)); rintro e w2 ⟨rfl, rfl⟩) | (go_at_call 18; ((with_reducible refine (C3.out _).mono ?_)); rintro e w2 ⟨rfl, rfl⟩) | (go_at_call 10; ((with_reducible refine (M1.out _).mono ?_)); rintro e w2 ⟨rfl, hb2⟩; replace T0 := Lib.hid (T0.out.below hb2); clear hb2; replace T0 := Lib.hid (T0.out.new (two X Y) 23 rfl)) | (go_at_call 10; ((with_reducible refine (M2.out _).mono ?_)); rintro e w2 ⟨rfl, hb2⟩; replace T0 := Lib.hid (T0.out.below hb2); clear hb2; replace T0 := Lib.hid (T0.out.new (two X Y) 23 rfl); obtain ⟨x0, y0, _, _⟩ := cells_of T0.out.tl.at1; obtain ⟨x1, y1, _, _⟩ := cells_of T0.out.at1) | (go_at_call 14; ((with_reducible refine (HV.out _ (HE.out.below T0.out.bl HZ.out)).mono ?_)); rintro e w2 ⟨rfl, hb2⟩; replace T0 := Lib.hid (T0.out.below hb2); clear hb2))
      go_ret
      exact ⟨rfl, T0.out.bl⟩
end Go.Proofs.YtknnbejhfhadnaaDoor
