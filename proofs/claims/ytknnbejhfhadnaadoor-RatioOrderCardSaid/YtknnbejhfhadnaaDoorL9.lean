/- RatioLaws: the walk. -/
import Derived.Test.YtknnbejhfhadnaaDoorL6
namespace Go.Proofs.YtknnbejhfhadnaaDoor
open Go.RowKit Go.Sort
namespace Rt
theorem ofR_vld (r : Rat) : vldP (ofR r).1 (ofR r).2.1 := by
  rcases ofR_err r with h | h
  · exact (ofR_ok h).1
  · rw [h]; exact .inl ⟨rfl, rfl⟩
section
variable {P Q P' Q' X Y e : Int}
theorem add_vld (h : vldP P Q) (h' : vldP P' Q') (hr : add P Q P' Q' = (X, Y, e)) : vldP X Y := by
  have := ofR_vld (val P Q + val P' Q'); rw [← add_ok h h', hr] at this; exact this
theorem sub_vld (h : vldP P Q) (h' : vldP P' Q') (hr : sub P Q P' Q' = (X, Y, e)) : vldP X Y := by
  have := ofR_vld (val P Q - val P' Q'); rw [← sub_ok h h', hr] at this; exact this
theorem mul_vld (h : vldP P Q) (h' : vldP P' Q') (hr : mul P Q P' Q' = (X, Y, e)) : vldP X Y := by
  have := ofR_vld (val P Q * val P' Q'); rw [← mul_ok h h', hr] at this; exact this
end
end Rt
section
variable {P Q P' Q' X Y e : Int}
theorem add_c (h : Rt.vldP P Q) (h' : Rt.vldP P' Q') (hr : Rt.add P Q P' Q' = (X, Y, e)) (w : World) : Calls Tryd.prog 26 #[.agg #[.int .i64 P, .int .i64 Q], .agg #[.int .i64 P', .int .i64 Q']] w (TupP X Y e w) :=
  (add_any P Q P' Q' w (vld_in h).1 (vld_in h).2 (vld_in h').1 (vld_in h').2).mono fun _ _ ⟨a, b⟩ => ⟨tup_of hr a, b⟩
theorem sub_c (h : Rt.vldP P Q) (h' : Rt.vldP P' Q') (hr : Rt.sub P Q P' Q' = (X, Y, e)) (w : World) : Calls Tryd.prog 28 #[.agg #[.int .i64 P, .int .i64 Q], .agg #[.int .i64 P', .int .i64 Q']] w (TupP X Y e w) :=
  (sub_any P Q P' Q' w (vld_in h).1 (vld_in h).2 (vld_in h').1 (vld_in h').2).mono fun _ _ ⟨a, b⟩ => ⟨tup_of hr a, b⟩
theorem mul_c (h : Rt.vldP P Q) (h' : Rt.vldP P' Q') (hr : Rt.mul P Q P' Q' = (X, Y, e)) (w : World) : Calls Tryd.prog 27 #[.agg #[.int .i64 P, .int .i64 Q], .agg #[.int .i64 P', .int .i64 Q']] w (TupP X Y e w) :=
  (mul_any P Q P' Q' w (vld_in h).1 (vld_in h).2 (vld_in h').1 (vld_in h').2).mono fun _ _ ⟨a, b⟩ => ⟨tup_of hr a, b⟩
theorem cmp_c {z : Int} (h : Rt.vldP P Q) (h' : Rt.vldP P' Q') (hr : Rt.cmp P Q P' Q' = z) (w : World) : Calls Tryd.prog 24 #[.agg #[.int .i64 P, .int .i64 Q], .agg #[.int .i64 P', .int .i64 Q']] w (IntP z w) :=
  (compare_any P Q P' Q' w (vld_in h).1 (vld_in h).2 (vld_in h').1 (vld_in h').2).mono fun _ _ ⟨a, b⟩ => ⟨int_of hr a, b⟩
end
theorem split3 (R : Int × Int × Int) : ∃ X Y e, R = (X, Y, e) := ⟨_, _, _, rfl⟩
set_option maxRecDepth 100000 in
set_option maxHeartbeats 16000000 in
theorem laws_x (A : Option Addr) (n c : Nat) (L : List Int) (w : World) (ht : TEnv w) (I : Inp A n L w) : Calls Tryd.prog 8 #[.slice A n c] w fun e w' => e = .returned (.bool true) ∧ Below w.heap.size w w' := by
  have T0 := Lib.hid (hold0 w)
  have v0 := thr_vld L 0; have v1 := thr_vld L 1; have v2 := thr_vld L 2
  obtain ⟨p0, hp0⟩ : ∃ p, thr L 0 = p := ⟨_, rfl⟩
  obtain ⟨p1, hp1⟩ : ∃ p, thr L 1 = p := ⟨_, rfl⟩
  obtain ⟨p2, hp2⟩ : ∃ p, thr L 2 = p := ⟨_, rfl⟩
  rw [hp0] at v0; rw [hp1] at v1; rw [hp2] at v2
  obtain ⟨P0, Q0⟩ := p0
  obtain ⟨P1, Q1⟩ := p1
  obtain ⟨P2, Q2⟩ := p2
  dsimp only at v0 v1 v2
  have C3 := Lib.hid (three_c (c := c) I hp0 hp1 hp2)
  obtain ⟨X1, Y1, e1, r1⟩ := split3 (Rt.add P0 Q0 P1 Q1)
  obtain ⟨X2, Y2, e2, r2⟩ := split3 (Rt.add P1 Q1 P2 Q2)
  obtain ⟨X3, Y3, e3, r3⟩ := split3 (Rt.mul P0 Q0 P1 Q1)
  obtain ⟨X4, Y4, e4, r4⟩ := split3 (Rt.mul P1 Q1 P2 Q2)
  have u1 := Rt.add_vld v0 v1 r1; have u2 := Rt.add_vld v1 v2 r2; have u3 := Rt.mul_vld v0 v1 r3; have u4 := Rt.mul_vld v1 v2 r4
  obtain ⟨X5, Y5, e5, r5⟩ := split3 (Rt.add X1 Y1 P2 Q2)
  obtain ⟨X6, Y6, e6, r6⟩ := split3 (Rt.mul X3 Y3 P2 Q2)
  obtain ⟨X7, Y7, e7, r7⟩ := split3 (Rt.mul P0 Q0 P2 Q2)
  obtain ⟨X8, Y8, e8, r8⟩ := split3 (Rt.mul P0 Q0 X2 Y2)
  have u7 := Rt.mul_vld v0 v2 r7; have u8 := Rt.mul_vld v0 u2 r8
  obtain ⟨X9, Y9, e9, r9⟩ := split3 (Rt.add X3 Y3 X7 Y7)
  have A1 := Lib.hid (add_c v0 v1 r1); have A2 := Lib.hid (add_c v1 v0 (show Rt.add P1 Q1 P0 Q0 = (X1, Y1, e1) by rw [Rt.add_comm]; exact r1)); have A3 := Lib.hid (add_c v1 v2 r2)
  have M1 := Lib.hid (mul_c v0 v1 r3); have M2 := Lib.hid (mul_c v1 v0 (show Rt.mul P1 Q1 P0 Q0 = (X3, Y3, e3) by rw [Rt.mul_comm]; exact r3)); have M3 := Lib.hid (mul_c v1 v2 r4)
  have A5 := Lib.hid (add_c u1 v2 r5)
  have a6 := fun (h1 : e1 = 0) (h2 : e2 = 0) => add_c (X := X5) (Y := Y5) (e := e5) v0 u2 (by rw [h1] at r1; rw [h2] at r2; rw [← Rt.add_assoc v0 v1 v2 r1 r2]; exact r5)
  have sb := fun (h1 : e1 = 0) => Rt.sub_back (P := P0) (Q := Q0) (P' := P1) (Q' := Q1) (X := X1) (Y := Y1) v0 v1 (by rw [h1] at r1; exact r1)
  have s1 := fun (h1 : e1 = 0) => sub_c u1 v1 (sb h1).1
  have k1 := fun (h1 : e1 = 0) => cmp_c (Rt.vld_den v0) v0 (sb h1).2
  have M5 := Lib.hid (mul_c u3 v2 r6)
  have m6 := fun (h1 : e3 = 0) (h2 : e4 = 0) => mul_c (X := X6) (Y := Y6) (e := e6) v0 u4 (by rw [h1] at r3; rw [h2] at r4; rw [← Rt.mul_assoc v0 v1 v2 r3 r4]; exact r6)
  have M7 := Lib.hid (mul_c v0 v2 r7); have M8 := Lib.hid (mul_c v0 u2 r8); have A9 := Lib.hid (add_c u3 u7 r9)
  have HD := Lib.hid (show e2 = 0 → e3 = 0 → e7 = 0 → e8 = 0 → e9 = 0 → X8 = X9 ∧ Y8 = Y9 from fun h2 h3 h7 h8 h9 => by
    subst h2 h3 h7 h8 h9
    exact Rt.distrib v0 v1 v2 r2 r3 r7 r8 r9)
  generalize Rt.den Q0 = D0 at *
  have A6' := Lib.hid a6; have S1' := Lib.hid s1; have K1' := Lib.hid k1; have M6' := Lib.hid m6
  have HE := Lib.hid ht; have HZ := Lib.hid ht.sz
  have HV := Lib.hid lives_any
  clear a6 sb s1 k1 m6 r1 r2 r3 r4 r5 r6 r7 r8 r9 u1 u2 u3 u4 u7 u8 v0 v1 v2 hp0 hp1 hp2 I ht
  obtain ⟨c1, hc1⟩ : ∃ c, ((e1 == 0) && (e2 == 0)) = c := ⟨_, rfl⟩
  obtain ⟨c2, hc2⟩ : ∃ c, ((e3 == 0) && (e4 == 0)) = c := ⟨_, rfl⟩
  have HC1 := Lib.hid hc1; have HC2 := Lib.hid hc2
  clear hc1 hc2
  go_enter Tryd.func8, Tryd.ntmps8
  go_upto_region 10 with (first | (go_at_call 22; ((with_reducible refine (C3.out).mono ?_)); rintro e wa ⟨rfl, hb2⟩; replace T0 := Lib.hid (T0.out.below hb2); clear hb2; replace T0 := Lib.hid (((T0.out.new (two P0 Q0) 23 rfl).new (two P1 Q1) 23 (N := wa.heap.size + 1) (by simp)).new (two P2 Q2) 23 (N := wa.heap.size + 1 + 1) (by simp))) | (go_at_call 26; ((with_reducible refine (A1.out _).mono ?_)); rintro e wab ⟨rfl, hb2⟩; replace T0 := Lib.hid (T0.out.below hb2); clear hb2; replace T0 := Lib.hid (T0.out.new (two X1 Y1) 23 rfl); obtain ⟨x_c, y_c, _, _⟩ := cells_of T0.out.tl.at1; obtain ⟨x_b, y_b, _, _⟩ := cells_of T0.out.tl.tl.at1; obtain ⟨x_a, y_a, _, _⟩ := cells_of T0.out.tl.tl.tl.at1) | (go_at_call 26; ((with_reducible refine (A2.out _).mono ?_)); rintro e wba ⟨rfl, hb2⟩; replace T0 := Lib.hid (T0.out.below hb2); clear hb2; replace T0 := Lib.hid (T0.out.new (two X1 Y1) 23 rfl); obtain ⟨x_c, y_c, _, _⟩ := cells_of T0.out.tl.tl.at1; obtain ⟨x_b, y_b, _, _⟩ := cells_of T0.out.tl.tl.tl.at1; obtain ⟨x_a, y_a, _, _⟩ := cells_of T0.out.tl.tl.tl.tl.at1) | (go_at_call 26; ((with_reducible refine (A3.out _).mono ?_)); rintro e wbc ⟨rfl, hb2⟩; replace T0 := Lib.hid (T0.out.below hb2); clear hb2; replace T0 := Lib.hid (T0.out.new (two X2 Y2) 23 rfl); obtain ⟨x_c, y_c, _, _⟩ := cells_of T0.out.tl.tl.tl.at1; obtain ⟨x_b, y_b, _, _⟩ := cells_of T0.out.tl.tl.tl.tl.at1; obtain ⟨x_a, y_a, _, _⟩ := cells_of T0.out.tl.tl.tl.tl.tl.at1) | (go_at_call 27; ((with_reducible refine (M1.out _).mono ?_)); rintro e wx ⟨rfl, hb2⟩; replace T0 := Lib.hid (T0.out.below hb2); clear hb2; replace T0 := Lib.hid (T0.out.new (two X3 Y3) 23 rfl); obtain ⟨x_c, y_c, _, _⟩ := cells_of T0.out.tl.tl.tl.tl.at1; obtain ⟨x_b, y_b, _, _⟩ := cells_of T0.out.tl.tl.tl.tl.tl.at1; obtain ⟨x_a, y_a, _, _⟩ := cells_of T0.out.tl.tl.tl.tl.tl.tl.at1) | (go_at_call 27; ((with_reducible refine (M2.out _).mono ?_)); rintro e wy ⟨rfl, hb2⟩; replace T0 := Lib.hid (T0.out.below hb2); clear hb2; replace T0 := Lib.hid (T0.out.new (two X3 Y3) 23 rfl); obtain ⟨x_c, y_c, _, _⟩ := cells_of T0.out.tl.tl.tl.tl.tl.at1; obtain ⟨x_b, y_b, _, _⟩ := cells_of T0.out.tl.tl.tl.tl.tl.tl.at1; obtain ⟨x_a, y_a, _, _⟩ := cells_of T0.out.tl.tl.tl.tl.tl.tl.tl.at1) | (go_at_call 27; ((with_reducible refine (M3.out _).mono ?_)); rintro e wz ⟨rfl, hb2⟩; replace T0 := Lib.hid (T0.out.below hb2); clear hb2; replace T0 := Lib.hid (T0.out.new (two X4 Y4) 23 rfl); obtain ⟨x_c, y_c, _, _⟩ := cells_of T0.out.tl.tl.tl.tl.tl.tl.at1; obtain ⟨x_b, y_b, _, _⟩ := cells_of T0.out.tl.tl.tl.tl.tl.tl.tl.at1; obtain ⟨x_a, y_a, _, _⟩ := cells_of T0.out.tl.tl.tl.tl.tl.tl.tl.tl.at1; obtain ⟨x_ab, y_ab, _, _⟩ := cells_of T0.out.tl.tl.tl.tl.tl.at1; obtain ⟨x_ba, y_ba, _, _⟩ := cells_of T0.out.tl.tl.tl.tl.at1; obtain ⟨x_x, y_x, _, _⟩ := cells_of T0.out.tl.tl.at1; obtain ⟨x_y, y_y, _, _⟩ := cells_of T0.out.tl.at1))
  go_cut [99] from 94 to 99 (fun v w' => v = .bool c1 ∧ Hold w w' [(wz.heap.size, 23, two X4 Y4), (wy.heap.size, 23, two X3 Y3), (wx.heap.size, 23, two X3 Y3), (wbc.heap.size, 23, two X2 Y2), (wba.heap.size, 23, two X1 Y1), (wab.heap.size, 23, two X1 Y1), (wa.heap.size + 1 + 1, 23, two P2 Q2), (wa.heap.size + 1, 23, two P1 Q1), (wa.heap.size, 23, two P0 Q0)])
  case first =>
    cases h1 : (e1 == 0) <;> cases h2 : (e2 == 0)
    all_goals
      go_wp2_with fail
      go_meet
      case rel => exact ⟨by rw [← HC1.out, h1, h2]; rfl, T0.out⟩
  case rest =>
    obtain ⟨rfl, hH⟩ := hcut
    replace T0 := Lib.hid hH
    clear hH
    go_upto_if 99 with fail
    go_cut [] from 100 to 133 (fun w' => Hold w w' [(wz.heap.size, 23, two X4 Y4), (wy.heap.size, 23, two X3 Y3), (wx.heap.size, 23, two X3 Y3), (wbc.heap.size, 23, two X2 Y2), (wba.heap.size, 23, two X1 Y1), (wab.heap.size, 23, two X1 Y1), (wa.heap.size + 1 + 1, 23, two P2 Q2), (wa.heap.size + 1, 23, two P1 Q1), (wa.heap.size, 23, two P0 Q0)])
    case first =>
      cases c1
      · go_wp2_with fail
        go_meet
        case rel => exact T0.out
      · have hc := HC1.out
        rw [Bool.and_eq_true] at hc
        obtain ⟨q1, q2⟩ := hc
        have q1' : e1 = 0 := by simpa using q1
        have q2' : e2 = 0 := by simpa using q2
        have A6 := Lib.hid (A6'.out q1' q2'); have S1 := Lib.hid (S1'.out q1'); have K1 := Lib.hid (K1'.out q1')
        obtain ⟨x_ab, y_ab, _, _⟩ := cells_of T0.out.tl.tl.tl.tl.tl.at1; obtain ⟨x_c, y_c, _, _⟩ := cells_of T0.out.tl.tl.tl.tl.tl.tl.at1; obtain ⟨x_a, y_a, _, _⟩ := cells_of T0.out.tl.tl.tl.tl.tl.tl.tl.tl.at1; obtain ⟨x_bc, y_bc, _, _⟩ := cells_of T0.out.tl.tl.tl.at1; obtain ⟨x_b, y_b, _, _⟩ := cells_of T0.out.tl.tl.tl.tl.tl.tl.tl.at1
        clear q1' q2'
        go_wp2_with (first | (go_at_call 26; ((with_reducible refine (A5.out _).mono ?_)); rintro e wp ⟨rfl, hb2⟩; replace T0 := Lib.hid (T0.out.below hb2); clear hb2; replace T0 := Lib.hid (T0.out.new (two X5 Y5) 23 rfl); obtain ⟨x_a, y_a, _, _⟩ := cells_of T0.out.tl.tl.tl.tl.tl.tl.tl.tl.tl.at1; obtain ⟨x_bc, y_bc, _, _⟩ := cells_of T0.out.tl.tl.tl.tl.at1; obtain ⟨x_ab, y_ab, _, _⟩ := cells_of T0.out.tl.tl.tl.tl.tl.tl.at1; obtain ⟨x_b, y_b, _, _⟩ := cells_of T0.out.tl.tl.tl.tl.tl.tl.tl.tl.at1) | (go_at_call 26; ((with_reducible refine (A6.out _).mono ?_)); rintro e wq ⟨rfl, hb2⟩; replace T0 := Lib.hid (T0.out.below hb2); clear hb2; replace T0 := Lib.hid (T0.out.new (two X5 Y5) 23 rfl); obtain ⟨x_p5, y_p5, _, _⟩ := cells_of T0.out.tl.at1; obtain ⟨x_q5, y_q5, _, _⟩ := cells_of T0.out.at1; obtain ⟨x_ab, y_ab, _, _⟩ := cells_of T0.out.tl.tl.tl.tl.tl.tl.tl.at1; obtain ⟨x_b, y_b, _, _⟩ := cells_of T0.out.tl.tl.tl.tl.tl.tl.tl.tl.tl.at1) | (go_at_call 28; ((with_reducible refine (S1.out _).mono ?_)); rintro e wk ⟨rfl, hb2⟩; replace T0 := Lib.hid (T0.out.below hb2); clear hb2; replace T0 := Lib.hid (T0.out.new (two P0 D0) 23 rfl); obtain ⟨x_bk, y_bk, _, _⟩ := cells_of T0.out.at1; obtain ⟨x_a, y_a, _, _⟩ := cells_of T0.out.tl.tl.tl.tl.tl.tl.tl.tl.tl.tl.tl.at1) | (go_at_call 24; ((with_reducible refine (K1.out _).mono ?_)); rintro e wm ⟨rfl, hb2⟩; replace T0 := Lib.hid (T0.out.below hb2); clear hb2))
        go_meet
        case rel => exact T0.out.tl.tl.tl
    case rest =>
      replace T0 := Lib.hid hcut
      clear hcut
      go_upto_region 18 with fail
      go_cut [139] from 134 to 139 (fun v w' => v = .bool c2 ∧ Hold w w' [(wz.heap.size, 23, two X4 Y4), (wy.heap.size, 23, two X3 Y3), (wx.heap.size, 23, two X3 Y3), (wbc.heap.size, 23, two X2 Y2), (wba.heap.size, 23, two X1 Y1), (wab.heap.size, 23, two X1 Y1), (wa.heap.size + 1 + 1, 23, two P2 Q2), (wa.heap.size + 1, 23, two P1 Q1), (wa.heap.size, 23, two P0 Q0)])
      case first =>
        cases h1 : (e3 == 0) <;> cases h2 : (e4 == 0)
        all_goals
          go_wp2_with fail
          go_meet
          case rel => exact ⟨by rw [← HC2.out, h1, h2]; rfl, T0.out⟩
      case rest =>
        obtain ⟨rfl, hH⟩ := hcut
        replace T0 := Lib.hid hH
        clear hH
        go_upto_if 139 with fail
        go_cut [] from 140 to 159 (fun w' => Hold w w' [(wz.heap.size, 23, two X4 Y4), (wy.heap.size, 23, two X3 Y3), (wx.heap.size, 23, two X3 Y3), (wbc.heap.size, 23, two X2 Y2), (wba.heap.size, 23, two X1 Y1), (wab.heap.size, 23, two X1 Y1), (wa.heap.size + 1 + 1, 23, two P2 Q2), (wa.heap.size + 1, 23, two P1 Q1), (wa.heap.size, 23, two P0 Q0)])
        case first =>
          cases c2
          · go_wp2_with fail
            go_meet
            case rel => exact T0.out
          · have hc := HC2.out
            rw [Bool.and_eq_true] at hc
            obtain ⟨q1, q2⟩ := hc
            have q1' : e3 = 0 := by simpa using q1
            have q2' : e4 = 0 := by simpa using q2
            have M6 := Lib.hid (M6'.out q1' q2')
            obtain ⟨x_x, y_x, _, _⟩ := cells_of T0.out.tl.tl.at1; obtain ⟨x_c, y_c, _, _⟩ := cells_of T0.out.tl.tl.tl.tl.tl.tl.at1; obtain ⟨x_a, y_a, _, _⟩ := cells_of T0.out.tl.tl.tl.tl.tl.tl.tl.tl.at1; obtain ⟨x_z, y_z, _, _⟩ := cells_of T0.out.at1
            clear q1' q2'
            go_wp2_with (first | (go_at_call 27; ((with_reducible refine (M5.out _).mono ?_)); rintro e wp ⟨rfl, hb2⟩; replace T0 := Lib.hid (T0.out.below hb2); clear hb2; replace T0 := Lib.hid (T0.out.new (two X6 Y6) 23 rfl); obtain ⟨x_a, y_a, _, _⟩ := cells_of T0.out.tl.tl.tl.tl.tl.tl.tl.tl.tl.at1; obtain ⟨x_z, y_z, _, _⟩ := cells_of T0.out.tl.at1) | (go_at_call 27; ((with_reducible refine (M6.out _).mono ?_)); rintro e wq ⟨rfl, hb2⟩; replace T0 := Lib.hid (T0.out.below hb2); clear hb2; replace T0 := Lib.hid (T0.out.new (two X6 Y6) 23 rfl); obtain ⟨x_p6, y_p6, _, _⟩ := cells_of T0.out.tl.at1; obtain ⟨x_q6, y_q6, _, _⟩ := cells_of T0.out.at1))
            go_meet
            case rel => exact T0.out.tl.tl
        case rest =>
          replace T0 := Lib.hid hcut
          clear hcut
          obtain ⟨x_a, y_a, _, _⟩ := cells_of T0.out.tl.tl.tl.tl.tl.tl.tl.tl.at1; obtain ⟨x_c, y_c, _, _⟩ := cells_of T0.out.tl.tl.tl.tl.tl.tl.at1; obtain ⟨x_bc, y_bc, _, _⟩ := cells_of T0.out.tl.tl.tl.at1; obtain ⟨x_x, y_x, _, _⟩ := cells_of T0.out.tl.tl.at1
          have hz : e2 ≠ 0 ∨ (e2 = 0 ∧ e3 ≠ 0) ∨ (e2 = 0 ∧ e3 = 0 ∧ e7 ≠ 0) ∨ (e2 = 0 ∧ e3 = 0 ∧ e7 = 0 ∧ e8 ≠ 0) ∨ (e2 = 0 ∧ e3 = 0 ∧ e7 = 0 ∧ e8 = 0 ∧ e9 ≠ 0) ∨ (e2 = 0 ∧ e3 = 0 ∧ e7 = 0 ∧ e8 = 0 ∧ e9 = 0) := by omega
          rcases hz with h2 | ⟨h2, h3⟩ | ⟨h2, h3, h7⟩ | ⟨h2, h3, h7, h8⟩ | ⟨h2, h3, h7, h8, h9⟩ | ⟨h2, h3, h7, h8, h9⟩
          · have qe2 : (e2 != 0) = true := by simp; omega
            have pe2 : (e2 == 0) = false := by simp; omega
            clear h2
            go_wp2_with (first | (go_at_call 27; ((with_reducible refine (M7.out _).mono ?_)); rintro e wac ⟨rfl, hb2⟩; replace T0 := Lib.hid (T0.out.below hb2); clear hb2; replace T0 := Lib.hid (T0.out.new (two X7 Y7) 23 rfl); obtain ⟨x_a, y_a, _, _⟩ := cells_of T0.out.tl.tl.tl.tl.tl.tl.tl.tl.tl.at1; obtain ⟨x_bc, y_bc, _, _⟩ := cells_of T0.out.tl.tl.tl.tl.at1) | (go_at_call 27; ((with_reducible refine (M8.out _).mono ?_)); rintro e wal ⟨rfl, hb2⟩; replace T0 := Lib.hid (T0.out.below hb2); clear hb2; replace T0 := Lib.hid (T0.out.new (two X8 Y8) 23 rfl); obtain ⟨x_x, y_x, _, _⟩ := cells_of T0.out.tl.tl.tl.tl.at1; obtain ⟨x_ac, y_ac, _, _⟩ := cells_of T0.out.tl.at1) | (go_at_call 26; ((with_reducible refine (A9.out _).mono ?_)); rintro e wsm ⟨rfl, hb2⟩; replace T0 := Lib.hid (T0.out.below hb2); clear hb2; replace T0 := Lib.hid (T0.out.new (two X9 Y9) 23 rfl); obtain ⟨x_all, y_all, _, _⟩ := cells_of T0.out.tl.at1; obtain ⟨x_sum, y_sum, _, _⟩ := cells_of T0.out.at1) | (go_at_call 14; ((with_reducible refine (HV.out _ (HE.out.below T0.out.bl HZ.out)).mono ?_)); rintro e wv ⟨rfl, hb2⟩; replace T0 := Lib.hid (T0.out.below hb2); clear hb2))
            go_ret
            exact ⟨rfl, T0.out.bl⟩
          · have qe2 : (e2 != 0) = false := by simp; omega
            have pe2 : (e2 == 0) = true := by simp; omega
            have qe3 : (e3 != 0) = true := by simp; omega
            have pe3 : (e3 == 0) = false := by simp; omega
            clear h2 h3
            go_wp2_with (first | (go_at_call 27; ((with_reducible refine (M7.out _).mono ?_)); rintro e wac ⟨rfl, hb2⟩; replace T0 := Lib.hid (T0.out.below hb2); clear hb2; replace T0 := Lib.hid (T0.out.new (two X7 Y7) 23 rfl); obtain ⟨x_a, y_a, _, _⟩ := cells_of T0.out.tl.tl.tl.tl.tl.tl.tl.tl.tl.at1; obtain ⟨x_bc, y_bc, _, _⟩ := cells_of T0.out.tl.tl.tl.tl.at1) | (go_at_call 27; ((with_reducible refine (M8.out _).mono ?_)); rintro e wal ⟨rfl, hb2⟩; replace T0 := Lib.hid (T0.out.below hb2); clear hb2; replace T0 := Lib.hid (T0.out.new (two X8 Y8) 23 rfl); obtain ⟨x_x, y_x, _, _⟩ := cells_of T0.out.tl.tl.tl.tl.at1; obtain ⟨x_ac, y_ac, _, _⟩ := cells_of T0.out.tl.at1) | (go_at_call 26; ((with_reducible refine (A9.out _).mono ?_)); rintro e wsm ⟨rfl, hb2⟩; replace T0 := Lib.hid (T0.out.below hb2); clear hb2; replace T0 := Lib.hid (T0.out.new (two X9 Y9) 23 rfl); obtain ⟨x_all, y_all, _, _⟩ := cells_of T0.out.tl.at1; obtain ⟨x_sum, y_sum, _, _⟩ := cells_of T0.out.at1) | (go_at_call 14; ((with_reducible refine (HV.out _ (HE.out.below T0.out.bl HZ.out)).mono ?_)); rintro e wv ⟨rfl, hb2⟩; replace T0 := Lib.hid (T0.out.below hb2); clear hb2))
            go_ret
            exact ⟨rfl, T0.out.bl⟩
          · have qe2 : (e2 != 0) = false := by simp; omega
            have pe2 : (e2 == 0) = true := by simp; omega
            have qe3 : (e3 != 0) = false := by simp; omega
            have pe3 : (e3 == 0) = true := by simp; omega
            have qe7 : (e7 != 0) = true := by simp; omega
            have pe7 : (e7 == 0) = false := by simp; omega
            clear h2 h3 h7
            go_wp2_with (first | (go_at_call 27; ((with_reducible refine (M7.out _).mono ?_)); rintro e wac ⟨rfl, hb2⟩; replace T0 := Lib.hid (T0.out.below hb2); clear hb2; replace T0 := Lib.hid (T0.out.new (two X7 Y7) 23 rfl); obtain ⟨x_a, y_a, _, _⟩ := cells_of T0.out.tl.tl.tl.tl.tl.tl.tl.tl.tl.at1; obtain ⟨x_bc, y_bc, _, _⟩ := cells_of T0.out.tl.tl.tl.tl.at1) | (go_at_call 27; ((with_reducible refine (M8.out _).mono ?_)); rintro e wal ⟨rfl, hb2⟩; replace T0 := Lib.hid (T0.out.below hb2); clear hb2; replace T0 := Lib.hid (T0.out.new (two X8 Y8) 23 rfl); obtain ⟨x_x, y_x, _, _⟩ := cells_of T0.out.tl.tl.tl.tl.at1; obtain ⟨x_ac, y_ac, _, _⟩ := cells_of T0.out.tl.at1) | (go_at_call 26; ((with_reducible refine (A9.out _).mono ?_)); rintro e wsm ⟨rfl, hb2⟩; replace T0 := Lib.hid (T0.out.below hb2); clear hb2; replace T0 := Lib.hid (T0.out.new (two X9 Y9) 23 rfl); obtain ⟨x_all, y_all, _, _⟩ := cells_of T0.out.tl.at1; obtain ⟨x_sum, y_sum, _, _⟩ := cells_of T0.out.at1) | (go_at_call 14; ((with_reducible refine (HV.out _ (HE.out.below T0.out.bl HZ.out)).mono ?_)); rintro e wv ⟨rfl, hb2⟩; replace T0 := Lib.hid (T0.out.below hb2); clear hb2))
            go_ret
            exact ⟨rfl, T0.out.bl⟩
          · have qe2 : (e2 != 0) = false := by simp; omega
            have pe2 : (e2 == 0) = true := by simp; omega
            have qe3 : (e3 != 0) = false := by simp; omega
            have pe3 : (e3 == 0) = true := by simp; omega
            have qe7 : (e7 != 0) = false := by simp; omega
            have pe7 : (e7 == 0) = true := by simp; omega
            have qe8 : (e8 != 0) = true := by simp; omega
            have pe8 : (e8 == 0) = false := by simp; omega
            clear h2 h3 h7 h8
            go_wp2_with (first | (go_at_call 27; ((with_reducible refine (M7.out _).mono ?_)); rintro e wac ⟨rfl, hb2⟩; replace T0 := Lib.hid (T0.out.below hb2); clear hb2; replace T0 := Lib.hid (T0.out.new (two X7 Y7) 23 rfl); obtain ⟨x_a, y_a, _, _⟩ := cells_of T0.out.tl.tl.tl.tl.tl.tl.tl.tl.tl.at1; obtain ⟨x_bc, y_bc, _, _⟩ := cells_of T0.out.tl.tl.tl.tl.at1) | (go_at_call 27; ((with_reducible refine (M8.out _).mono ?_)); rintro e wal ⟨rfl, hb2⟩; replace T0 := Lib.hid (T0.out.below hb2); clear hb2; replace T0 := Lib.hid (T0.out.new (two X8 Y8) 23 rfl); obtain ⟨x_x, y_x, _, _⟩ := cells_of T0.out.tl.tl.tl.tl.at1; obtain ⟨x_ac, y_ac, _, _⟩ := cells_of T0.out.tl.at1) | (go_at_call 26; ((with_reducible refine (A9.out _).mono ?_)); rintro e wsm ⟨rfl, hb2⟩; replace T0 := Lib.hid (T0.out.below hb2); clear hb2; replace T0 := Lib.hid (T0.out.new (two X9 Y9) 23 rfl); obtain ⟨x_all, y_all, _, _⟩ := cells_of T0.out.tl.at1; obtain ⟨x_sum, y_sum, _, _⟩ := cells_of T0.out.at1) | (go_at_call 14; ((with_reducible refine (HV.out _ (HE.out.below T0.out.bl HZ.out)).mono ?_)); rintro e wv ⟨rfl, hb2⟩; replace T0 := Lib.hid (T0.out.below hb2); clear hb2))
            go_ret
            exact ⟨rfl, T0.out.bl⟩
          · have qe2 : (e2 != 0) = false := by simp; omega
            have pe2 : (e2 == 0) = true := by simp; omega
            have qe3 : (e3 != 0) = false := by simp; omega
            have pe3 : (e3 == 0) = true := by simp; omega
            have qe7 : (e7 != 0) = false := by simp; omega
            have pe7 : (e7 == 0) = true := by simp; omega
            have qe8 : (e8 != 0) = false := by simp; omega
            have pe8 : (e8 == 0) = true := by simp; omega
            have qe9 : (e9 != 0) = true := by simp; omega
            have pe9 : (e9 == 0) = false := by simp; omega
            clear h2 h3 h7 h8 h9
            go_wp2_with (first | (go_at_call 27; ((with_reducible refine (M7.out _).mono ?_)); rintro e wac ⟨rfl, hb2⟩; replace T0 := Lib.hid (T0.out.below hb2); clear hb2; replace T0 := Lib.hid (T0.out.new (two X7 Y7) 23 rfl); obtain ⟨x_a, y_a, _, _⟩ := cells_of T0.out.tl.tl.tl.tl.tl.tl.tl.tl.tl.at1; obtain ⟨x_bc, y_bc, _, _⟩ := cells_of T0.out.tl.tl.tl.tl.at1) | (go_at_call 27; ((with_reducible refine (M8.out _).mono ?_)); rintro e wal ⟨rfl, hb2⟩; replace T0 := Lib.hid (T0.out.below hb2); clear hb2; replace T0 := Lib.hid (T0.out.new (two X8 Y8) 23 rfl); obtain ⟨x_x, y_x, _, _⟩ := cells_of T0.out.tl.tl.tl.tl.at1; obtain ⟨x_ac, y_ac, _, _⟩ := cells_of T0.out.tl.at1) | (go_at_call 26; ((with_reducible refine (A9.out _).mono ?_)); rintro e wsm ⟨rfl, hb2⟩; replace T0 := Lib.hid (T0.out.below hb2); clear hb2; replace T0 := Lib.hid (T0.out.new (two X9 Y9) 23 rfl); obtain ⟨x_all, y_all, _, _⟩ := cells_of T0.out.tl.at1; obtain ⟨x_sum, y_sum, _, _⟩ := cells_of T0.out.at1) | (go_at_call 14; ((with_reducible refine (HV.out _ (HE.out.below T0.out.bl HZ.out)).mono ?_)); rintro e wv ⟨rfl, hb2⟩; replace T0 := Lib.hid (T0.out.below hb2); clear hb2))
            go_ret
            exact ⟨rfl, T0.out.bl⟩
          · have qe2 : (e2 != 0) = false := by simp; omega
            have pe2 : (e2 == 0) = true := by simp; omega
            have qe3 : (e3 != 0) = false := by simp; omega
            have pe3 : (e3 == 0) = true := by simp; omega
            have qe7 : (e7 != 0) = false := by simp; omega
            have pe7 : (e7 == 0) = true := by simp; omega
            have qe8 : (e8 != 0) = false := by simp; omega
            have pe8 : (e8 == 0) = true := by simp; omega
            have qe9 : (e9 != 0) = false := by simp; omega
            have pe9 : (e9 == 0) = true := by simp; omega
            obtain ⟨hX, hY⟩ := HD.out h2 h3 h7 h8 h9
            have A9' := A9.out
            rw [← hX, ← hY] at A9'
            replace A9' := Lib.hid A9'
            clear hX hY
            clear h2 h3 h7 h8 h9
            go_wp2_with (first | (go_at_call 27; ((with_reducible refine (M7.out _).mono ?_)); rintro e wac ⟨rfl, hb2⟩; replace T0 := Lib.hid (T0.out.below hb2); clear hb2; replace T0 := Lib.hid (T0.out.new (two X7 Y7) 23 rfl); obtain ⟨x_a, y_a, _, _⟩ := cells_of T0.out.tl.tl.tl.tl.tl.tl.tl.tl.tl.at1; obtain ⟨x_bc, y_bc, _, _⟩ := cells_of T0.out.tl.tl.tl.tl.at1) | (go_at_call 27; ((with_reducible refine (M8.out _).mono ?_)); rintro e wal ⟨rfl, hb2⟩; replace T0 := Lib.hid (T0.out.below hb2); clear hb2; replace T0 := Lib.hid (T0.out.new (two X8 Y8) 23 rfl); obtain ⟨x_x, y_x, _, _⟩ := cells_of T0.out.tl.tl.tl.tl.at1; obtain ⟨x_ac, y_ac, _, _⟩ := cells_of T0.out.tl.at1) | (go_at_call 26; ((with_reducible refine (A9'.out _).mono ?_)); rintro e wsm ⟨rfl, hb2⟩; replace T0 := Lib.hid (T0.out.below hb2); clear hb2; replace T0 := Lib.hid (T0.out.new (two X8 Y8) 23 rfl); obtain ⟨x_all, y_all, _, _⟩ := cells_of T0.out.tl.at1; obtain ⟨x_sum, y_sum, _, _⟩ := cells_of T0.out.at1) | (go_at_call 14; ((with_reducible refine (HV.out _ (HE.out.below T0.out.bl HZ.out)).mono ?_)); rintro e wv ⟨rfl, hb2⟩; replace T0 := Lib.hid (T0.out.below hb2); clear hb2))
            go_ret
            exact ⟨rfl, T0.out.bl⟩
end Go.Proofs.YtknnbejhfhadnaaDoor
