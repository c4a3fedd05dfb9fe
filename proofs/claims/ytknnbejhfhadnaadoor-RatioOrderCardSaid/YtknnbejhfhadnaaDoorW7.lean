/- Mul. -/
import Derived.Test.YtknnbejhfhadnaaDoorW6
namespace Go.Proofs.YtknnbejhfhadnaaDoor
open Go.RowKit
theorem cells_of {w : World} {g : Nat} {t : TypeId} {a b : Value} (h : Blk w g t #[a, b]) : w.cell? ⟨g, 0, none⟩ = some a ∧ w.cell? ⟨g, 1, none⟩ = some b ∧ w.frozen? ⟨g, 0, none⟩ = false ∧ w.frozen? ⟨g, 1, none⟩ = false := ⟨h.cell 0, h.cell 1, h.frozen 0, h.frozen 1⟩
/-- Two boxes and a result. -/
def boxed3 (P Q P' Q' : Int) (w : World) : World := ((w.alloc (.cells #[.int .i64 P, .int .i64 Q] 23)).alloc (.cells #[.int .i64 P', .int .i64 Q'] 23)).alloc (.cells #[.int .i64 0, .int .i64 0] 23)
structure Three (P Q P' Q' : Int) (w w' : World) : Prop where
  b0 : Blk w' w.heap.size 23 #[.int .i64 P, .int .i64 Q]
  b1 : Blk w' (w.heap.size + 1) 23 #[.int .i64 P', .int .i64 Q']
  b2 : Blk w' (w.heap.size + 1 + 1) 23 #[.int .i64 0, .int .i64 0]
  bl : Below w.heap.size w w'
theorem three0 (P Q P' Q' : Int) (w : World) : Three P Q P' Q' w (boxed3 P Q P' Q' w) where
  b0 := ((Blk.new w 23 #[.int .i64 P, .int .i64 Q]).alloc (.cells #[.int .i64 P', .int .i64 Q'] 23)).alloc (.cells #[.int .i64 0, .int .i64 0] 23)
  b1 := (Blk.new2 w (.cells #[.int .i64 P, .int .i64 Q] 23) 23 #[.int .i64 P', .int .i64 Q']).alloc (.cells #[.int .i64 0, .int .i64 0] 23)
  b2 := by
    have := Blk.new2 (w.alloc (.cells #[.int .i64 P, .int .i64 Q] 23)) (.cells #[.int .i64 P', .int .i64 Q'] 23) 23 #[.int .i64 0, .int .i64 0]
    simpa [boxed3, Nat.add_assoc] using this
  bl := (((Below.refl _ _).alloc (Nat.le_refl _) _).alloc (by simp) _).alloc (by simp; omega) _
theorem Three.below {P Q P' Q' : Int} {w w' w'' : World} (h : Three P Q P' Q' w w') (hb : Below w'.heap.size w' w'') : Three P Q P' Q' w w'' :=
  ⟨h.b0.below hb h.b0.lt, h.b1.below hb h.b1.lt, h.b2.below hb h.b2.lt, h.bl.trans (hb.mono (by have := h.b0.lt; omega))⟩
theorem Three.drew {P Q P' Q' : Int} {w w' : World} (h : Three P Q P' Q' w w') : Three P Q P' Q' w w'.drew :=
  ⟨h.b0, h.b1, h.b2, h.bl.trans ⟨rfl, rfl, rfl, Nat.le_refl _, fun _ _ => rfl⟩⟩
/-- The two fractions are laid anew. -/
theorem Three.set {P Q P' Q' : Int} {w w' : World} (h : Three P Q P' Q' w w') (a b c d : Int) : Three a b c d w ((((w'.setCell ⟨w.heap.size, 0, none⟩ (.int .i64 a)).setCell ⟨w.heap.size, 1, none⟩ (.int .i64 b)).setCell ⟨w.heap.size + 1, 0, none⟩ (.int .i64 c)).setCell ⟨w.heap.size + 1, 1, none⟩ (.int .i64 d)) where
  b0 := Blk.far (Blk.far (set2 h.b0 _ _) (by simp) _) (by simp) _
  b1 := set2 (Blk.far (Blk.far h.b1 (by simp) _) (by simp) _) _ _
  b2 := Blk.far (Blk.far (Blk.far (Blk.far h.b2 (by simp; omega) _) (by simp; omega) _) (by simp) _) (by simp) _
  bl := (((h.bl.setCell (p := ⟨w.heap.size, 0, none⟩) (Nat.le_refl _) _).setCell (p := ⟨w.heap.size, 1, none⟩) (Nat.le_refl _) _).setCell (p := ⟨w.heap.size + 1, 0, none⟩) (by simp) _).setCell (p := ⟨w.heap.size + 1, 1, none⟩) (by simp) _
/-- The result is laid. -/
theorem Three.res {P Q P' Q' : Int} {w w' : World} (h : Three P Q P' Q' w w') (a b : Int) : Blk ((w'.setCell ⟨w.heap.size + 1 + 1, 0, none⟩ (.int .i64 a)).setCell ⟨w.heap.size + 1 + 1, 1, none⟩ (.int .i64 b)) (w.heap.size + 1 + 1) 23 #[.int .i64 a, .int .i64 b] ∧
    Below w.heap.size w ((w'.setCell ⟨w.heap.size + 1 + 1, 0, none⟩ (.int .i64 a)).setCell ⟨w.heap.size + 1 + 1, 1, none⟩ (.int .i64 b)) :=
  ⟨set2 h.b2 _ _, (h.bl.setCell (p := ⟨w.heap.size + 1 + 1, 0, none⟩) (by simp; omega) _).setCell (p := ⟨w.heap.size + 1 + 1, 1, none⟩) (by simp; omega) _⟩
theorem wrapI {x : Int} (h : inI x) : IntKind.i64.wrap x = x := by
  unfold inI at h
  simp only [IntKind.wrap, IntKind.signed, IntKind.bits]
  simp
  omega
set_option maxHeartbeats 4000000 in
theorem mul_any (P Q P' Q' : Int) (w : World) (hP : inI P) (hQ : inI Q) (hP' : inI P') (hQ' : inI Q') : Calls Tryd.prog 27 #[.agg #[.int .i64 P, .int .i64 Q], .agg #[.int .i64 P', .int .i64 Q']] w fun e w' => TupIs (Rt.mul P Q P' Q') e ∧ Below w.heap.size w w' := by
  have cb := fun w => both_any P Q P' Q' w hP hQ hP' hQ'
  unfold BothIs at cb
  have T0 := Lib.hid (three0 P Q P' Q' w)
  cases hv : (Rt.vld P Q && Rt.vld P' Q')
  · have HR := Lib.hid (show Rt.mul P Q P' Q' = (0, 0, 1) by unfold Rt.mul; rw [hv]; rfl)
    rw [hv] at cb
    generalize Rt.den Q = d at cb
    generalize Rt.den Q' = d' at cb
    have CB := Lib.hid cb
    clear cb hP hQ hP' hQ' hv
    go_enter Tryd.func27, Tryd.ntmps27
    go_wp2_with (first | (go_at_call 40; ((with_reducible refine (CB.out _).mono ?_)); rintro e w2 ⟨rfl, hb2⟩; have T2 := Lib.hid (Three.below (T0.out) hb2); clear hb2; obtain ⟨c0, c1, f0, f1⟩ := cells_of T2.out.b0; obtain ⟨c2, c3, f2, f3⟩ := cells_of T2.out.b1; obtain ⟨c4, c5, f4, f5⟩ := cells_of T2.out.b2))
    obtain ⟨k1, k2⟩ := (T2.out.set P d P' d').res 0 0
    exact fin2 rfl rfl rfl rfl k1 ⟨TupIs.mk HR.out, k2⟩
  · rw [Bool.and_eq_true, Rt.vld_iff, Rt.vld_iff] at hv
    obtain ⟨h1, h2⟩ := hv
    have hm := Rt.mul_calc' h1 h2
    have hmm := Rt.mul_ok h1 h2
    have i1 : inI (P * P') := by
      obtain ⟨a1, a2⟩ := Rt.num_bd h1; obtain ⟨a3, a4⟩ := Rt.num_bd h2
      rcases Int.lt_or_le P' 0 with hn | hn
      · have := Rt.prod_bd (a := -P) (b := -P') (by omega) (by omega) (by omega) (by omega)
        rw [Int.neg_mul_neg] at this; unfold inI; omega
      · have := Rt.prod_bd a1 a2 hn a4
        unfold inI; omega
    have i2 : inI (Rt.den Q * Rt.den Q') := by
      obtain ⟨a1, a2⟩ := Rt.den_pos h1; obtain ⟨a3, a4⟩ := Rt.den_pos h2
      have := Rt.prod_bd (a := Rt.den Q) (b := Rt.den Q') (by omega) a2 (by omega) a4
      unfold inI; omega
    have cm := fun w => make_any (P * P') (Rt.den Q * Rt.den Q') w i1 i2
    rw [hm, ← hmm] at cm
    have hv : (Rt.vld P Q && Rt.vld P' Q') = true := by rw [Rt.vld_iff.2 h1, Rt.vld_iff.2 h2]; rfl
    rw [hv] at cb
    clear hm hmm h1 h2 hv hP hQ hP' hQ'
    generalize Rt.den Q = d at cb cm i2
    generalize Rt.den Q' = d' at cb cm i2
    generalize Rt.mul P Q P' Q' = R at cm
    obtain ⟨a, b, c⟩ := R
    unfold TupIs at cm
    have hw1 := wrapI i1
    have hw2 := wrapI i2
    obtain ⟨X, hX⟩ : ∃ X, P * P' = X := ⟨_, rfl⟩
    obtain ⟨Y, hY⟩ : ∃ Y, d * d' = Y := ⟨_, rfl⟩
    rw [hX] at hw1 cm; rw [hY] at hw2 cm
    have CB := Lib.hid cb; have CM := Lib.hid cm
    clear cb cm i1 i2
    go_enter Tryd.func27, Tryd.ntmps27
    go_wp2_with (first | (go_at_call 40; ((with_reducible refine (CB.out _).mono ?_)); rintro e w2 ⟨rfl, hb2⟩; have T2 := Lib.hid (Three.below (T0.out) hb2); clear hb2; obtain ⟨c0, c1, f0, f1⟩ := cells_of T2.out.b0; obtain ⟨c2, c3, f2, f3⟩ := cells_of T2.out.b1; have T3 := Lib.hid (T2.out.set P d P' d'); clear T2) | (go_at_call 10; ((with_reducible refine (CM.out _).mono ?_)); rintro e w4 ⟨rfl, hb4⟩; have T4 := Lib.hid (Three.below (T3.out) hb4); clear hb4; obtain ⟨c4, c5, f4, f5⟩ := cells_of T4.out.b2))
    obtain ⟨k1, k2⟩ := T4.out.res a b
    exact fin2 rfl rfl rfl rfl k1 ⟨rfl, k2⟩
end Go.Proofs.YtknnbejhfhadnaaDoor
