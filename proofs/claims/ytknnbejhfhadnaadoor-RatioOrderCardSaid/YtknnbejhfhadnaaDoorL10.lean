/- RatioOrder: the walk. -/
import Derived.Test.YtknnbejhfhadnaaDoorL9
namespace Go.Proofs.YtknnbejhfhadnaaDoor
open Go.RowKit Go.Sort
theorem Rt.cmp_bd (P Q P' Q' : Int) : -1 ≤ Rt.cmp P Q P' Q' ∧ Rt.cmp P Q P' Q' ≤ 1 := by
  unfold Rt.cmp
  repeat' split
  all_goals omega
theorem make_c {p q X Y e : Int} (h : inI p) (h' : inI q) (hr : Rt.mk p q = (X, Y, e)) (w : World) : Calls Tryd.prog 10 #[.int .i64 p, .int .i64 q] w (TupP X Y e w) :=
  (make_any p q w h h').mono fun _ _ ⟨a, b⟩ => ⟨tup_of hr a, b⟩
theorem ordB {z X : Int} (h : (z = 0 ↔ X = 0) ∧ (z < 0 ↔ X < 0)) : ((z == 0) = (X == 0)) ∧ (decide (z < 0) = decide (X < 0)) := by
  obtain ⟨h1, h2⟩ := h
  constructor
  · rw [Bool.eq_iff_iff]; simpa using h1
  · rw [Bool.eq_iff_iff]; simpa using h2
set_option maxRecDepth 100000 in
set_option maxHeartbeats 16000000 in
theorem order_x (A : Option Addr) (n c : Nat) (L : List Int) (w : World) (ht : TEnv w) (I : Inp A n L w) : Calls Tryd.prog 9 #[.slice A n c] w fun e w' => e = .returned (.bool true) ∧ Below w.heap.size w w' := by
  have T0 := Lib.hid (hold0 w)
  have v0 := thr_vld L 0; have v1 := thr_vld L 1; have v2 := thr_vld L 2
  obtain ⟨p0, hp0⟩ : ∃ p, thr L 0 = p := ⟨_, rfl⟩
  obtain ⟨p1, hp1⟩ : ∃ p, thr L 1 = p := ⟨_, rfl⟩
  obtain ⟨p2, hp2⟩ : ∃ p, thr L 2 = p := ⟨_, rfl⟩
  rw [hp0] at v0; rw [hp1] at v1; rw [hp2] at v2
  obtain ⟨P0, Q0⟩ := p0
  obtain ⟨P1, Q1⟩ := p1
  obtain ⟨P2, Q2⟩ := p2
  dsimp only at v0 v1 v2
  have C3 := Lib.hid (three_c (c := c) I hp0 hp1 hp2)
  obtain ⟨X1, Y1, e1, r1⟩ := split3 (Rt.sub P0 Q0 P1 Q1)
  obtain ⟨X2, Y2, e2, r2⟩ := split3 (Rt.add P0 Q0 P2 Q2)
  obtain ⟨X3, Y3, e3, r3⟩ := split3 (Rt.add P1 Q1 P2 Q2)
  have u2 := Rt.add_vld v0 v2 r2; have u3 := Rt.add_vld v1 v2 r3
  obtain ⟨X4, Y4, r4, b4⟩ := Rt.below_ok v0
  have u4 : Rt.vldP X4 Y4 := by rw [Rt.mk_one] at r4; exact (Rt.of_ok r4).1
  obtain ⟨X5, Y5, e5, r5⟩ := split3 (Rt.mk (Rt.flr P0 Q0 + 1) 1)
  have u5 : Rt.vldP X5 Y5 := by have := Rt.ofR_vld ((Rt.flr P0 Q0 + 1 : Int) : Rat); rw [← Rt.mk_one, r5] at this; exact this
  obtain ⟨z, hz⟩ : ∃ z, Rt.cmp P0 Q0 P1 Q1 = z := ⟨_, rfl⟩
  obtain ⟨z', hz'⟩ : ∃ z, Rt.cmp P1 Q1 P0 Q0 = z := ⟨_, rfl⟩
  obtain ⟨z4, hz4⟩ : ∃ z, Rt.cmp X2 Y2 X3 Y3 = z := ⟨_, rfl⟩
  obtain ⟨z5, hz5⟩ : ∃ z, Rt.cmp X4 Y4 P0 Q0 = z := ⟨_, rfl⟩
  obtain ⟨z6, hz6⟩ : ∃ z, Rt.cmp P0 Q0 X5 Y5 = z := ⟨_, rfl⟩
  have fb := Rt.flr_bd v0
  obtain ⟨f, hf⟩ : ∃ z, Rt.flr P0 Q0 = z := ⟨_, rfl⟩
  have zz := Rt.cmp_neg v0 v1
  rw [hz, hz'] at zz
  have zb := Rt.cmp_bd P1 Q1 P0 Q0
  rw [hz'] at zb
  have H1 := Lib.hid (show e1 = 0 → ((z == 0) = (X1 == 0)) ∧ (decide (z < 0) = decide (X1 < 0)) from fun h => ordB (by rw [← hz]; rw [h] at r1; exact Rt.sub_sign v0 v1 r1))
  have H2 := Lib.hid (show e2 = 0 → e3 = 0 → z4 = z from fun h h' => by rw [← hz, ← hz4]; rw [h] at r2; rw [h'] at r3; exact Rt.cmp_add v0 v1 v2 r2 r3)
  rw [hz5] at b4
  have H6 : e5 ≠ 0 ∨ (e5 = 0 ∧ z6 < 0) := by
    rcases Rt.above_ok v0 with h | ⟨X, Y, h, hc⟩
    · rw [r5] at h; injection h with _ h; injection h with _ h; left; omega
    · rw [r5] at h; injection h with h0 h; injection h with h1 h2
      subst h0 h1
      exact .inr ⟨h2, by rw [← hz6]; exact hc⟩
  have S1 := Lib.hid (sub_c v0 v1 r1)
  have K1 := Lib.hid (cmp_c v0 v1 hz); have K2 := Lib.hid (cmp_c v1 v0 hz'); have K3 := Lib.hid (cmp_c v0 v0 (Rt.cmp_self v0))
  have A2 := Lib.hid (add_c v0 v2 r2); have A3 := Lib.hid (add_c v1 v2 r3)
  have K4 := Lib.hid (cmp_c u2 u3 hz4)
  have f1 := fun w => floor_any P0 Q0 w (vld_in v0).1 (vld_in v0).2
  rw [hf] at f1 r4 r5 fb
  have F1 := Lib.hid f1
  have M4 := Lib.hid (make_c (show inI f by unfold inI; omega) (by decide) r4); have M5 := Lib.hid (make_c (show inI (f + 1) by unfold inI; omega) (by decide) r5)
  have K5 := Lib.hid (cmp_c u4 v0 hz5); have K6 := Lib.hid (cmp_c v0 u5 hz6)
  have HE := Lib.hid ht; have HZ := Lib.hid ht.sz
  have HV := Lib.hid lives_any
  obtain ⟨zb1, zb2⟩ := zb
  obtain ⟨fb1, fb2⟩ := fb
  have nz : -z' = z := zz.symm
  have wz : IntKind.i64.wrap z = z := wrapI (by unfold inI; omega)
  have B4 := Lib.hid b4
  have H6' := Lib.hid H6
  clear f1 H6 b4 r1 r2 r3 r4 r5 hz hz' hz4 hz5 hz6 hf zz u2 u3 u4 u5 v0 v1 v2 hp0 hp1 hp2 I ht
  go_enter Tryd.func9, Tryd.ntmps9
  go_upto_region 4 with (first | (go_at_call 22; ((with_reducible refine (C3.out).mono ?_)); rintro e wa ⟨rfl, hb2⟩; replace T0 := Lib.hid (T0.out.below hb2); clear hb2; replace T0 := Lib.hid (((T0.out.new (two P0 Q0) 23 rfl).new (two P1 Q1) 23 (N := wa.heap.size + 1) (by simp)).new (two P2 Q2) 23 (N := wa.heap.size + 1 + 1) (by simp))) | (go_at_call 28; ((with_reducible refine (S1.out _).mono ?_)); rintro e wd ⟨rfl, hb2⟩; replace T0 := Lib.hid (T0.out.below hb2); clear hb2; replace T0 := Lib.hid (T0.out.new (two X1 Y1) 23 rfl); obtain ⟨x_a, y_a, _, _⟩ := cells_of T0.out.tl.tl.tl.at1; obtain ⟨x_b, y_b, _, _⟩ := cells_of T0.out.tl.tl.at1) | (go_at_call 24; ((with_reducible refine (K1.out _).mono ?_)); rintro e wk ⟨rfl, hb2⟩; replace T0 := Lib.hid (T0.out.below hb2); clear hb2; obtain ⟨x_a, y_a, _, _⟩ := cells_of T0.out.tl.tl.tl.at1; obtain ⟨x_b, y_b, _, _⟩ := cells_of T0.out.tl.tl.at1; obtain ⟨x_d, y_d, _, _⟩ := cells_of T0.out.at1))
  go_cut [68] from 33 to 68 (fun v w' => v = .bool false ∧ Hold w w' [(wd.heap.size, 23, two X1 Y1), (wa.heap.size + 1 + 1, 23, two P2 Q2), (wa.heap.size + 1, 23, two P1 Q1), (wa.heap.size, 23, two P0 Q0)])
  case first =>
    by_cases h1 : e1 = 0
    · have q1 : (e1 == 0) = true := by simpa using h1
      obtain ⟨o1, o2⟩ := H1.out h1
      cases t1 : (z == 0) <;> cases t2 : decide (z < 0)
      all_goals
        rw [t1] at o1; rw [t2] at o2
        have o1' := o1.symm; have o2' := o2.symm
        clear o1 o2 h1
        go_wp2_with (first | (go_at_call 24; ((with_reducible refine (K2.out _).mono ?_)); rintro e wk2 ⟨rfl, hb2⟩; replace T0 := Lib.hid (T0.out.below hb2); clear hb2; obtain ⟨x_a, y_a, _, _⟩ := cells_of T0.out.tl.tl.tl.at1; obtain ⟨x_b, y_b, _, _⟩ := cells_of T0.out.tl.tl.at1; obtain ⟨x_d, y_d, _, _⟩ := cells_of T0.out.at1) | (go_at_call 24; ((with_reducible refine (K3.out _).mono ?_)); rintro e wk3 ⟨rfl, hb2⟩; replace T0 := Lib.hid (T0.out.below hb2); clear hb2; obtain ⟨x_a, y_a, _, _⟩ := cells_of T0.out.tl.tl.tl.at1; obtain ⟨x_b, y_b, _, _⟩ := cells_of T0.out.tl.tl.at1; obtain ⟨x_d, y_d, _, _⟩ := cells_of T0.out.at1))
        go_meet
        case rel => exact ⟨rfl, T0.out⟩
    · have q1 : (e1 == 0) = false := by simpa using h1
      clear h1
      go_wp2_with (first | (go_at_call 24; ((with_reducible refine (K2.out _).mono ?_)); rintro e wk2 ⟨rfl, hb2⟩; replace T0 := Lib.hid (T0.out.below hb2); clear hb2; obtain ⟨x_a, y_a, _, _⟩ := cells_of T0.out.tl.tl.tl.at1; obtain ⟨x_b, y_b, _, _⟩ := cells_of T0.out.tl.tl.at1; obtain ⟨x_d, y_d, _, _⟩ := cells_of T0.out.at1) | (go_at_call 24; ((with_reducible refine (K3.out _).mono ?_)); rintro e wk3 ⟨rfl, hb2⟩; replace T0 := Lib.hid (T0.out.below hb2); clear hb2; obtain ⟨x_a, y_a, _, _⟩ := cells_of T0.out.tl.tl.tl.at1; obtain ⟨x_b, y_b, _, _⟩ := cells_of T0.out.tl.tl.at1; obtain ⟨x_d, y_d, _, _⟩ := cells_of T0.out.at1))
      go_meet
      case rel => exact ⟨rfl, T0.out⟩
  case rest =>
    obtain ⟨rfl, hH⟩ := hcut
    replace T0 := Lib.hid hH
    clear hH
    obtain ⟨x_a, y_a, _, _⟩ := cells_of T0.out.tl.tl.tl.at1; obtain ⟨x_b, y_b, _, _⟩ := cells_of T0.out.tl.tl.at1; obtain ⟨x_c, y_c, _, _⟩ := cells_of T0.out.tl.at1; obtain ⟨x_d, y_d, _, _⟩ := cells_of T0.out.at1
    go_upto_region 8 with (first | (go_at_call 26; ((with_reducible refine (A2.out _).mono ?_)); rintro e wx ⟨rfl, hb2⟩; replace T0 := Lib.hid (T0.out.below hb2); clear hb2; replace T0 := Lib.hid (T0.out.new (two X2 Y2) 23 rfl); obtain ⟨x_b, y_b, _, _⟩ := cells_of T0.out.tl.tl.tl.at1; obtain ⟨x_c, y_c, _, _⟩ := cells_of T0.out.tl.tl.at1) | (go_at_call 26; ((with_reducible refine (A3.out _).mono ?_)); rintro e wy ⟨rfl, hb2⟩; replace T0 := Lib.hid (T0.out.below hb2); clear hb2; replace T0 := Lib.hid (T0.out.new (two X3 Y3) 23 rfl); obtain ⟨x_x, y_x, _, _⟩ := cells_of T0.out.tl.at1; obtain ⟨x_y, y_y, _, _⟩ := cells_of T0.out.at1))
    go_cut [93] from 81 to 93 (fun v w' => v = .bool false ∧ Hold w w' [(wy.heap.size, 23, two X3 Y3), (wx.heap.size, 23, two X2 Y2), (wd.heap.size, 23, two X1 Y1), (wa.heap.size + 1 + 1, 23, two P2 Q2), (wa.heap.size + 1, 23, two P1 Q1), (wa.heap.size, 23, two P0 Q0)])
    case first =>
      by_cases h2 : e2 = 0
      · have q2 : (e2 == 0) = true := by simpa using h2
        by_cases h3 : e3 = 0
        · have q3 : (e3 == 0) = true := by simpa using h3
          obtain rfl := H2.out h2 h3
          clear h2 h3
          go_wp2_with (first | (go_at_call 24; ((with_reducible refine (K4.out _).mono ?_)); rintro e wk4 ⟨rfl, hb2⟩; replace T0 := Lib.hid (T0.out.below hb2); clear hb2))
          go_meet
          case rel => exact ⟨rfl, T0.out⟩
        · have q3 : (e3 == 0) = false := by simpa using h3
          clear h2 h3
          go_wp2_with (first | (go_at_call 24; ((with_reducible refine (K4.out _).mono ?_)); rintro e wk4 ⟨rfl, hb2⟩; replace T0 := Lib.hid (T0.out.below hb2); clear hb2))
          go_meet
          case rel => exact ⟨rfl, T0.out⟩
      · have q2 : (e2 == 0) = false := by simpa using h2
        clear h2
        go_wp2_with (first | (go_at_call 24; ((with_reducible refine (K4.out _).mono ?_)); rintro e wk4 ⟨rfl, hb2⟩; replace T0 := Lib.hid (T0.out.below hb2); clear hb2))
        go_meet
        case rel => exact ⟨rfl, T0.out⟩
    case rest =>
      obtain ⟨rfl, hH⟩ := hcut
      replace T0 := Lib.hid hH
      clear hH
      obtain ⟨x_a, y_a, _, _⟩ := cells_of T0.out.tl.tl.tl.tl.tl.at1
      have q5 : decide (0 < z5) = false := by have := B4.out; simp; omega
      have fw : IntKind.i64.wrap (f + 1) = f + 1 := wrapI (by unfold inI; omega)
      rcases H6'.out with h6 | ⟨h6, h7⟩
      · have q6 : (e5 == 0) = false := by simpa using h6
        have q7 : (e5 != 0) = true := by simpa using h6
        clear h6
        go_wp2_with (first | (go_at_call 29; ((with_reducible refine (F1.out _).mono ?_)); rintro e wf ⟨rfl, hb2⟩; replace T0 := Lib.hid (T0.out.below hb2); clear hb2; obtain ⟨x_a, y_a, _, _⟩ := cells_of T0.out.tl.tl.tl.tl.tl.at1) | (go_at_call 10; ((with_reducible refine (M4.out _).mono ?_)); rintro e wbl ⟨rfl, hb2⟩; replace T0 := Lib.hid (T0.out.below hb2); clear hb2; replace T0 := Lib.hid (T0.out.new (two X4 Y4) 23 rfl); obtain ⟨x_bl, y_bl, _, _⟩ := cells_of T0.out.at1; obtain ⟨x_a, y_a, _, _⟩ := cells_of T0.out.tl.tl.tl.tl.tl.tl.at1) | (go_at_call 24; ((with_reducible refine (K5.out _).mono ?_)); rintro e wk5 ⟨rfl, hb2⟩; replace T0 := Lib.hid (T0.out.below hb2); clear hb2; obtain ⟨x_a, y_a, _, _⟩ := cells_of T0.out.tl.tl.tl.tl.tl.tl.at1) | (go_at_call 10; ((with_reducible refine (M5.out _).mono ?_)); rintro e wab ⟨rfl, hb2⟩; replace T0 := Lib.hid (T0.out.below hb2); clear hb2; replace T0 := Lib.hid (T0.out.new (two X5 Y5) 23 rfl); obtain ⟨x_ab, y_ab, _, _⟩ := cells_of T0.out.at1; obtain ⟨x_a, y_a, _, _⟩ := cells_of T0.out.tl.tl.tl.tl.tl.tl.tl.at1) | (go_at_call 24; ((with_reducible refine (K6.out _).mono ?_)); rintro e wk6 ⟨rfl, hb2⟩; replace T0 := Lib.hid (T0.out.below hb2); clear hb2) | (go_at_call 14; ((with_reducible refine (HV.out _ (HE.out.below T0.out.bl HZ.out)).mono ?_)); rintro e wv ⟨rfl, hb2⟩; replace T0 := Lib.hid (T0.out.below hb2); clear hb2))
        go_ret
        exact ⟨rfl, T0.out.bl⟩
      · have q6 : (e5 == 0) = true := by simpa using h6
        have q7 : (e5 != 0) = false := by simpa using h6
        have q8 : decide (z6 < 0) = true := by simpa using h7
        clear h6 h7
        go_wp2_with (first | (go_at_call 29; ((with_reducible refine (F1.out _).mono ?_)); rintro e wf ⟨rfl, hb2⟩; replace T0 := Lib.hid (T0.out.below hb2); clear hb2; obtain ⟨x_a, y_a, _, _⟩ := cells_of T0.out.tl.tl.tl.tl.tl.at1) | (go_at_call 10; ((with_reducible refine (M4.out _).mono ?_)); rintro e wbl ⟨rfl, hb2⟩; replace T0 := Lib.hid (T0.out.below hb2); clear hb2; replace T0 := Lib.hid (T0.out.new (two X4 Y4) 23 rfl); obtain ⟨x_bl, y_bl, _, _⟩ := cells_of T0.out.at1; obtain ⟨x_a, y_a, _, _⟩ := cells_of T0.out.tl.tl.tl.tl.tl.tl.at1) | (go_at_call 24; ((with_reducible refine (K5.out _).mono ?_)); rintro e wk5 ⟨rfl, hb2⟩; replace T0 := Lib.hid (T0.out.below hb2); clear hb2; obtain ⟨x_a, y_a, _, _⟩ := cells_of T0.out.tl.tl.tl.tl.tl.tl.at1) | (go_at_call 10; ((with_reducible refine (M5.out _).mono ?_)); rintro e wab ⟨rfl, hb2⟩; replace T0 := Lib.hid (T0.out.below hb2); clear hb2; replace T0 := Lib.hid (T0.out.new (two X5 Y5) 23 rfl); obtain ⟨x_ab, y_ab, _, _⟩ := cells_of T0.out.at1; obtain ⟨x_a, y_a, _, _⟩ := cells_of T0.out.tl.tl.tl.tl.tl.tl.tl.at1) | (go_at_call 24; ((with_reducible refine (K6.out _).mono ?_)); rintro e wk6 ⟨rfl, hb2⟩; replace T0 := Lib.hid (T0.out.below hb2); clear hb2) | (go_at_call 14; ((with_reducible refine (HV.out _ (HE.out.below T0.out.bl HZ.out)).mono ?_)); rintro e wv ⟨rfl, hb2⟩; replace T0 := Lib.hid (T0.out.below hb2); clear hb2))
        go_ret
        exact ⟨rfl, T0.out.bl⟩
end Go.Proofs.YtknnbejhfhadnaaDoor
