/- Some. -/
import Derived.Test.YtknnbejhfhadnaaDoorG1
namespace Go.Proofs.YtknnbejhfhadnaaDoor
open Go.RowKit Go.Sort
def somPQ (n k : Int) : Int × Int :=
  if around (n.tdiv 200) 8 = 0 then (2147483648 - around (k.tdiv 24) 5, 1 + around k 24)
  else if around (n.tdiv 200) 8 = 1 then (around n 200 - 100, 2147483648 - around (k.tdiv 24) 5)
  else if around (n.tdiv 200) 8 = 2 then (1000003 * (around n 200 - 100) + 7, 65537 * (1 + around k 24))
  else (around n 200 - 100, 1 + around k 24)
def som (n k : Int) : Int × Int :=
  if (Rt.mk (somPQ n k).1 (somPQ n k).2).1 = 0 ∧ around k 2 = 0 then (0, 0) else ((Rt.mk (somPQ n k).1 (somPQ n k).2).1, (Rt.mk (somPQ n k).1 (somPQ n k).2).2.1)
theorem somPQ_bd (n k : Int) : inI (somPQ n k).1 ∧ inI (somPQ n k).2 ∧ 1 ≤ (somPQ n k).2 := by
  have a := around_bd n 200 (by omega)
  have b := around_bd k 24 (by omega)
  have c := around_bd (k.tdiv 24) 5 (by omega)
  unfold somPQ inI
  repeat' split
  all_goals (dsimp only; omega)
theorem som_vld (n k : Int) : Rt.vldP (som n k).1 (som n k).2 := by
  obtain ⟨_, _, h⟩ := somPQ_bd n k
  have e : Rt.mk (somPQ n k).1 (somPQ n k).2 = Rt.ofR (Rat.divInt (somPQ n k).1 (somPQ n k).2) := by unfold Rt.mk; rw [if_neg (by omega)]
  unfold som
  split
  · exact .inl ⟨rfl, rfl⟩
  · rw [e]
    rcases Rt.ofR_err (Rat.divInt (somPQ n k).1 (somPQ n k).2) with h0 | h0
    · exact (Rt.ofR_ok h0).1
    · rw [h0]; exact .inl ⟨rfl, rfl⟩
theorem vld_in {P Q : Int} (h : Rt.vldP P Q) : inI P ∧ inI Q := by
  have a := Rt.num_bd h
  unfold inI
  rcases h with ⟨_, rfl⟩ | ⟨h1, h2, _⟩ <;> omega
structure ResB (w w' : World) : Prop where
  b2 : Blk w' w.heap.size 23 #[.int .i64 0, .int .i64 0]
  bl : Below w.heap.size w w'
theorem ResB.below {w w' w'' : World} (h : ResB w w') (hb : Below w'.heap.size w' w'') : ResB w w'' := ⟨h.b2.below hb h.b2.lt, h.bl.trans (hb.mono (by have := h.b2.lt; omega))⟩
theorem resB0 (w : World) : ResB w (w.alloc (.cells #[.int .i64 0, .int .i64 0] 23)) := ⟨Blk.new w 23 _, (Below.refl _ _).alloc (Nat.le_refl _) _⟩
structure BX (p q : Int) (N : Nat) (w w' : World) : Prop where
  b2 : Blk w' w.heap.size 23 #[.int .i64 0, .int .i64 0]
  ba : Blk w' N 23 #[.int .i64 p, .int .i64 q]
  bl : Below w.heap.size w w'
theorem bx1 {w w' : World} (p q : Int) (h : ResB w w') : BX p q w'.heap.size w (w'.alloc (.cells #[.int .i64 p, .int .i64 q] 23)) :=
  ⟨h.b2.alloc _, Blk.new _ _ _, h.bl.alloc (Nat.le_of_lt h.b2.lt) _⟩
theorem BX.res {p q : Int} {N : Nat} {w w' : World} (h : BX p q N w w') (a b : Int) : Blk ((w'.setCell ⟨w.heap.size, 0, none⟩ (.int .i64 a)).setCell ⟨w.heap.size, 1, none⟩ (.int .i64 b)) w.heap.size 23 #[.int .i64 a, .int .i64 b] ∧
    Below w.heap.size w ((w'.setCell ⟨w.heap.size, 0, none⟩ (.int .i64 a)).setCell ⟨w.heap.size, 1, none⟩ (.int .i64 b)) :=
  ⟨set2 h.b2 _ _, (h.bl.setCell (p := ⟨w.heap.size, 0, none⟩) (Nat.le_refl _) _).setCell (p := ⟨w.heap.size, 1, none⟩) (Nat.le_refl _) _⟩
set_option maxHeartbeats 4000000 in
theorem some_any (n k : Int) (w : World) (hn : inI n) (hk : inI k) : Calls Tryd.prog 16 #[.int .i64 n, .int .i64 k] w fun e w' => e = .returned (.agg #[.int .i64 (som n k).1, .int .i64 (som n k).2]) ∧ Below w.heap.size w w' := by
  have R0 := Lib.hid (resB0 w)
  obtain ⟨iX, iY, _⟩ := somPQ_bd n k
  have cm := fun w => rMake_any (somPQ n k).1 (somPQ n k).2 w iX iY
  have hs : som n k = if (Rt.mk (somPQ n k).1 (somPQ n k).2).1 = 0 ∧ around k 2 = 0 then (0, 0) else ((Rt.mk (somPQ n k).1 (somPQ n k).2).1, (Rt.mk (somPQ n k).1 (somPQ n k).2).2.1) := rfl
  have hpq : somPQ n k = if around (n.tdiv 200) 8 = 0 then (2147483648 - around (k.tdiv 24) 5, 1 + around k 24)
    else if around (n.tdiv 200) 8 = 1 then (around n 200 - 100, 2147483648 - around (k.tdiv 24) 5)
    else if around (n.tdiv 200) 8 = 2 then (1000003 * (around n 200 - 100) + 7, 65537 * (1 + around k 24))
    else (around n 200 - 100, 1 + around k 24) := rfl
  generalize somPQ n k = pq at *
  obtain ⟨p, q⟩ := pq
  dsimp only at cm hs iX iY
  generalize Rt.mk p q = R at *
  obtain ⟨X, Y, Z⟩ := R
  dsimp only at hs
  unfold TupIs at cm
  dsimp only at cm
  have t1 := tdiv_in n 200 hn.1 hn.2 (by omega)
  have t2 := tdiv_in k 24 hk.1 hk.2 (by omega)
  have c1 := fun w => around_any n 200 w hn.1 hn.2
  have c2 := fun w => around_any k 24 w hk.1 hk.2
  have c3 := fun w => around_any (n.tdiv 200) 8 w t1.1 t1.2
  have c4 := fun w => around_any (k.tdiv 24) 5 w t2.1 t2.2
  have c5 := fun w => around_any k 2 w hk.1 hk.2
  have wn : IntKind.i64.wrap (n.tdiv 200) = n.tdiv 200 := wrapI t1
  have wk : IntKind.i64.wrap (k.tdiv 24) = k.tdiv 24 := wrapI t2
  have a1 := around_bd n 200 (by omega)
  have a2 := around_bd k 24 (by omega)
  have a3 := around_bd (n.tdiv 200) 8 (by omega)
  have a4 := around_bd (k.tdiv 24) 5 (by omega)
  generalize around n 200 = A1 at *
  generalize around k 24 = A2 at *
  generalize around (n.tdiv 200) 8 = A3 at *
  generalize around (k.tdiv 24) 5 = A4 at *
  generalize around k 2 = A5 at *
  have C1 := Lib.hid c1; have C2 := Lib.hid c2; have C3 := Lib.hid c3; have C4 := Lib.hid c4; have C5 := Lib.hid c5
  have hz : A3 = 0 ∨ A3 = 1 ∨ A3 = 2 ∨ (2 < A3) := by omega
  clear c1 c2 c3 c4 c5 t1 t2
  rcases hz with h | h | h | h
  all_goals
    first
      | (have b0 : (A3 == 0) = true := by simpa using h)
      | (have b0 : (A3 == 0) = false := by simp; omega)
    first
      | (have b1 : (A3 == 1) = true := by simpa using h)
      | (have b1 : (A3 == 1) = false := by simp; omega)
    first
      | (have b2 : (A3 == 2) = true := by simpa using h)
      | (have b2 : (A3 == 2) = false := by simp; omega)
    simp only [show (A3 = 0) ↔ _ from by rw [← beq_iff_eq, b0], show (A3 = 1) ↔ _ from by rw [← beq_iff_eq, b1], show (A3 = 2) ↔ _ from by rw [← beq_iff_eq, b2], Bool.false_eq_true, if_true, if_false, Prod.mk.injEq] at hpq
    obtain ⟨rfl, rfl⟩ := hpq
    have CM := Lib.hid cm
    clear cm h iX iY hn hk
    by_cases hX : X = 0
    · have bX : (X == 0) = true := by simpa using hX
      by_cases h5 : A5 = 0
      · have b5 : (A5 == 0) = true := by simpa using h5
        have HS := Lib.hid (show som n k = (0, 0) by rw [hs, if_pos ⟨hX, h5⟩])
        clear hs hX h5
        go_enter Tryd.func16, Tryd.ntmps16
        go_wp2_with (first | (go_at_call 18; ((with_reducible refine (C1.out _).mono ?_)); rintro e w2 ⟨rfl, rfl⟩) | (go_at_call 18; ((with_reducible refine (C2.out _).mono ?_)); rintro e w2 ⟨rfl, rfl⟩) | (go_at_call 18; ((with_reducible refine (C3.out _).mono ?_)); rintro e w2 ⟨rfl, rfl⟩) | (go_at_call 18; ((with_reducible refine (C4.out _).mono ?_)); rintro e w2 ⟨rfl, rfl⟩) | (go_at_call 18; ((with_reducible refine (C5.out _).mono ?_)); rintro e w2 ⟨rfl, rfl⟩) | (go_at_call 11; ((with_reducible refine (CM.out _).mono ?_)); rintro e w2 ⟨rfl, hb2⟩; have R1 := Lib.hid (R0.out.below hb2); have P0 := Lib.hid (bx1 X Y R1.out); clear hb2; obtain ⟨c0, c1, f0, f1⟩ := cells_of P0.out.ba; obtain ⟨c2, c3, f2, f3⟩ := cells_of P0.out.b2))
        obtain ⟨k1, k2⟩ := P0.out.res 0 0
        exact fin1 rfl rfl rfl k1 ⟨by rw [HS.out], k2⟩
      · have b5 : (A5 == 0) = false := by simpa using h5
        have HS := Lib.hid (show som n k = (X, Y) by rw [hs, if_neg (fun h => h5 h.2)])
        clear hs hX h5
        go_enter Tryd.func16, Tryd.ntmps16
        go_wp2_with (first | (go_at_call 18; ((with_reducible refine (C1.out _).mono ?_)); rintro e w2 ⟨rfl, rfl⟩) | (go_at_call 18; ((with_reducible refine (C2.out _).mono ?_)); rintro e w2 ⟨rfl, rfl⟩) | (go_at_call 18; ((with_reducible refine (C3.out _).mono ?_)); rintro e w2 ⟨rfl, rfl⟩) | (go_at_call 18; ((with_reducible refine (C4.out _).mono ?_)); rintro e w2 ⟨rfl, rfl⟩) | (go_at_call 18; ((with_reducible refine (C5.out _).mono ?_)); rintro e w2 ⟨rfl, rfl⟩) | (go_at_call 11; ((with_reducible refine (CM.out _).mono ?_)); rintro e w2 ⟨rfl, hb2⟩; have R1 := Lib.hid (R0.out.below hb2); have P0 := Lib.hid (bx1 X Y R1.out); clear hb2; obtain ⟨c0, c1, f0, f1⟩ := cells_of P0.out.ba; obtain ⟨c2, c3, f2, f3⟩ := cells_of P0.out.b2))
        obtain ⟨k1, k2⟩ := P0.out.res X Y
        exact fin1 rfl rfl rfl k1 ⟨by rw [HS.out], k2⟩
    · have bX : (X == 0) = false := by simpa using hX
      have HS := Lib.hid (show som n k = (X, Y) by rw [hs, if_neg (fun h => hX h.1)])
      clear hs hX
      go_enter Tryd.func16, Tryd.ntmps16
      go_wp2_with (first | (go_at_call 18; ((with_reducible refine (C1.out _).mono ?_)); rintro e w2 ⟨rfl, rfl⟩) | (go_at_call 18; ((with_reducible refine (C2.out _).mono ?_)); rintro e w2 ⟨rfl, rfl⟩) | (go_at_call 18; ((with_reducible refine (C3.out _).mono ?_)); rintro e w2 ⟨rfl, rfl⟩) | (go_at_call 18; ((with_reducible refine (C4.out _).mono ?_)); rintro e w2 ⟨rfl, rfl⟩) | (go_at_call 18; ((with_reducible refine (C5.out _).mono ?_)); rintro e w2 ⟨rfl, rfl⟩) | (go_at_call 11; ((with_reducible refine (CM.out _).mono ?_)); rintro e w2 ⟨rfl, hb2⟩; have R1 := Lib.hid (R0.out.below hb2); have P0 := Lib.hid (bx1 X Y R1.out); clear hb2; obtain ⟨c0, c1, f0, f1⟩ := cells_of P0.out.ba; obtain ⟨c2, c3, f2, f3⟩ := cells_of P0.out.b2))
      obtain ⟨k1, k2⟩ := P0.out.res X Y
      exact fin1 rfl rfl rfl k1 ⟨by rw [HS.out], k2⟩
end Go.Proofs.YtknnbejhfhadnaaDoor
