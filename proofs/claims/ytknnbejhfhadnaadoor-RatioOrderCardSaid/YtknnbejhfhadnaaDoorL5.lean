/- RatioMakes: the walk. -/
import Derived.Test.YtknnbejhfhadnaaDoorL4
import Derived.Deep.RegionHeld3
import Derived.Deep.LoopGhost
import Derived.Deep.CutRange
namespace Go.Proofs.YtknnbejhfhadnaaDoor
open Go.RowKit Go.Sort
/-- A pointer to a new box. -/
def BoxAt (w w' : World) (L : List (Nat × TypeId × Array Value)) (X Y : Int) (v : Value) : Prop := ∃ N, v = .pointer (some ⟨N, 0, none⟩) ∧ Hold w w' ((N, 23, two X Y) :: L)
def psA (p q x : Int) : Array Value := #[.int .i64 p, .int .i64 q, .int .i64 x, .int .i64 0, .int .i64 2147483648]
def qsA (p q y : Int) : Array Value := #[.int .i64 q, .int .i64 p, .int .i64 y, .int .i64 1]
theorem psA_get (p q x : Int) (hp : inI p) (hq : inI q) (hx : inI x) (i : Nat) (hi : i < 5) : ∃ a, inI a ∧ (psA p q x)[i]? = some (.int .i64 a) := by
  match i, hi with
  | 0, _ => exact ⟨p, hp, rfl⟩
  | 1, _ => exact ⟨q, hq, rfl⟩
  | 2, _ => exact ⟨x, hx, rfl⟩
  | 3, _ => exact ⟨0, by decide, rfl⟩
  | 4, _ => exact ⟨2147483648, by decide, rfl⟩
theorem qsA_get (p q y : Int) (hp : inI p) (hq : inI q) (hy : inI y) (i : Nat) (hi : i < 4) : ∃ a, inI a ∧ (qsA p q y)[i]? = some (.int .i64 a) := by
  match i, hi with
  | 0, _ => exact ⟨q, hq, rfl⟩
  | 1, _ => exact ⟨p, hp, rfl⟩
  | 2, _ => exact ⟨y, hy, rfl⟩
  | 3, _ => exact ⟨1, by decide, rfl⟩
theorem tmod_in (n k : Int) (hn : inI n) (hk : 1 ≤ k) : inI (n.tmod k) := by
  unfold inI at *
  by_cases h0 : 0 ≤ n
  · rw [Int.tmod_eq_emod_of_nonneg h0]
    have := Int.emod_nonneg n (show k ≠ 0 by omega)
    have : n % k ≤ n := (by have := Int.emod_add_mul_ediv n k; have := Int.mul_nonneg (show 0 ≤ k by omega) (Int.ediv_nonneg h0 (show 0 ≤ k by omega)); omega)
    omega
  · have e : n.tmod k = -((-n) % k) := by rw [← Int.tmod_eq_emod_of_nonneg (by omega), Int.neg_tmod, Int.neg_neg]
    rw [e]
    have := Int.emod_nonneg (-n) (show k ≠ 0 by omega)
    have : (-n) % k ≤ -n := (by have := Int.emod_add_mul_ediv (-n) k; have := Int.mul_nonneg (show 0 ≤ k by omega) (Int.ediv_nonneg (show 0 ≤ -n by omega) (show 0 ≤ k by omega)); omega)
    omega
theorem Hold.fill {w w1 w3 : World} {L : List (Nat × TypeId × Array Value)} (h : Hold w w1 L) (hb : Below (w1.alloc (.cells (two 0 0) 23)).drew.heap.size (w1.alloc (.cells (two 0 0) 23)).drew w3) (X Y : Int) :
    Hold w ((w3.setCell ⟨w1.heap.size, 0, none⟩ (.int .i64 X)).setCell ⟨w1.heap.size, 1, none⟩ (.int .i64 Y)) ((w1.heap.size, 23, two X Y) :: L) := by
  have h1 := ((h.new (two 0 0) 23 rfl).drew.below hb)
  refine ⟨(h1.bl.setCell (p := ⟨w1.heap.size, 0, none⟩) h.bl.size _).setCell (p := ⟨w1.heap.size, 1, none⟩) h.bl.size _, fun x hx => ?_⟩
  rcases List.mem_cons.1 hx with rfl | hx
  · exact ⟨h.bl.size, set2 h1.at1 _ _⟩
  · have hlt := (h.bs x hx).2.lt
    exact ⟨(h.bs x hx).1, Blk.far (Blk.far (h1.tl.bs x hx).2 (by simp; omega) _) (by simp; omega) _⟩
theorem lt_blk {w w' : World} {x0 : Nat × TypeId × Array Value} {L : List (Nat × TypeId × Array Value)} (h : Hold w w' (x0 :: L)) : x0.1 < w'.heap.size := (h.bs _ (.head _)).2.lt
set_option maxRecDepth 100000 in
set_option maxHeartbeats 8000000 in
theorem makes_x (p q P Q : Int) (w : World) (ht : TEnv w) (hp : inI p) (hq : inI q) (hP : inI P) (hQ : inI Q) : Calls Tryd.prog 3 #[.int .i64 p, .int .i64 q, .agg (two P Q)] w fun e w' => e = .returned (.bool true) ∧ Below w.heap.size w w' := by
  obtain ⟨x, hx⟩ : ∃ x, p.tmod 1000 = x := ⟨_, rfl⟩
  obtain ⟨y, hy⟩ : ∃ y, q.tmod 1000 = y := ⟨_, rfl⟩
  have ix : inI x := by rw [← hx]; exact tmod_in _ _ hp (by omega)
  have iy : inI y := by rw [← hy]; exact tmod_in _ _ hq (by omega)
  have wx := wrapI ix; have wy := wrapI iy
  have PS := Lib.hid (psA_get p q x hp hq ix)
  have QS := Lib.hid (qsA_get p q y hp hq iy)
  have T0 := Lib.hid ((((hold0 w).new (two P Q) 23 rfl).new (psA p q x) 3 (N := w.heap.size + 1) (by simp)).new (qsA p q y) 3 (N := w.heap.size + 1 + 1) (by simp))
  have MK := Lib.hid make_any
  have RK := Lib.hid rMake_any
  have HE := Lib.hid ht; have HZ := Lib.hid ht.sz
  have HV := Lib.hid lives_any
  have d1 := fun w => valid_any P Q w hP hQ
  have d2 := fun w => rValid_any P Q w hP hQ
  have d3 := fun w => valid_any p q w hp hq
  have d4 := fun w => rValid_any p q w hp hq
  generalize Rt.vld P Q = v1 at d1 d2
  generalize Rt.vld p q = v2 at d3 d4
  have D1 := Lib.hid d1; have D2 := Lib.hid d2; have D3 := Lib.hid d3; have D4 := Lib.hid d4
  clear d1 d2 d3 d4 hP hQ hp hq ix iy ht
  go_enter Tryd.func3, Tryd.ntmps3
  go_wp2_with fail
  go_loopg [9] 5 (fun r i wr => ∃ k : Nat, k + r = 5 ∧ i = .int .i64 k ∧ Hold w wr [(w.heap.size + 1 + 1, 3, qsA p q y), (w.heap.size + 1, 3, psA p q x), (w.heap.size, 23, two P Q)])
  case atStart => exact ⟨0, rfl, rfl, T0.out⟩
  case round =>
    obtain ⟨i, hi, rfl, hH⟩ := hrel
    obtain ⟨gq, rfl⟩ : ∃ g, g = gk := ⟨_, rfl⟩
    have T1 := Lib.hid hH
    clear hH T0
    by_cases hlt : i < 5
    · obtain ⟨a, ia, ei0⟩ := PS.out i hlt
      have i0 : (0 : Int) ≤ (i : Int) := Int.natCast_nonneg _
      have i1 : (i : Int) < 5 := by omega
      have ei := Lib.hid ei0
      clear ei0
      go_wp2_with fail
      obtain ⟨wo, hwo⟩ : ∃ wo : World, wo = wr := ⟨_, rfl⟩
      rw [← hwo] at T1 ⊢
      clear hwo wr
      go_loopg [10] 4 (fun r j wr => ∃ k : Nat, k + r = 4 ∧ j = .int .i64 k ∧ Hold w wr [(w.heap.size + 1 + 1, 3, qsA p q y), (w.heap.size + 1, 3, psA p q x), (w.heap.size, 23, two P Q)])
      case atStart => exact ⟨0, rfl, rfl, T1.out⟩
      case round =>
        obtain ⟨j, hj, rfl, hH⟩ := hrel
        have T2 := Lib.hid hH
        clear hH T1
        by_cases hlj : j < 4
        · obtain ⟨b, ib, ej0⟩ := QS.out j hlj
          have ej := Lib.hid ej0
          clear ej0
          have m1 := fun w => MK.out a b w ia ib
          have m2 := fun w => RK.out a b w ia ib
          generalize Rt.mk a b = R at m1 m2
          obtain ⟨X, Y, Z⟩ := R
          unfold TupIs at m1 m2
          dsimp only at m1 m2
          have M1 := Lib.hid m1; have M2 := Lib.hid m2
          clear m1 m2 ia ib
          have j0 : (0 : Int) ≤ (j : Int) := Int.natCast_nonneg _
          have j1 : (j : Int) < 4 := by omega
          go_upto_region 9 with fail
          go_cut [11, 12] from 37 to 68 (fun a b w' => BoxAt w w' ([(w.heap.size + 1 + 1, 3, qsA p q y), (w.heap.size + 1, 3, psA p q x), (w.heap.size, 23, two P Q)]) X Y a ∧ b = .int .i64 Z)
          case first =>
            have g0 := T2.out.tl.at1.cell i
            have g1 := T2.out.at1.cell j
            rw [ei.out] at g0; rw [ej.out] at g1
            have lz := T2.out.at1.lt
            have n1 : ¬ wr.heap.size = w.heap.size + 1 := by omega
            have n2 : ¬ w.heap.size + 1 = wr.heap.size := by omega
            have n3 : ¬ wr.heap.size = w.heap.size + 1 + 1 := by omega
            have n4 : ¬ w.heap.size + 1 + 1 = wr.heap.size := by omega
            go_region_held3 (fun w' => w'.cell? ⟨w.heap.size + 1, i, none⟩ = some (.int .i64 a) ∧ w'.cell? ⟨w.heap.size + 1 + 1, j, none⟩ = some (.int .i64 b))
              (go_keep)
              ((go_at_call 10; ((with_reducible refine (M1.out _).mono ?_)); rintro e w3 ⟨rfl, hb3⟩; have q0 := hb3.cell (p := ⟨w.heap.size + 1, i, none⟩) (by simp; omega); have q1 := hb3.cell (p := ⟨w.heap.size + 1 + 1, j, none⟩) (by simp; omega); have q2 := hb3.cell (p := ⟨wr.heap.size, 0, none⟩); (try simp at q2); have q3 := hb3.cell (p := ⟨wr.heap.size, 1, none⟩); (try simp at q3); have q4 := hb3.frozen (p := ⟨wr.heap.size, 0, none⟩); (try simp at q4); have q5 := hb3.frozen (p := ⟨wr.heap.size, 1, none⟩); (try simp at q5); have hb4 := Lib.hid hb3; clear hb3))
            all_goals
              go_wp2_with fail
              go_meet
              case rel => first
                | exact ⟨⟨_, rfl, T2.out.fill hb4.out X Y⟩, rfl⟩
                | exact ⟨⟨_, rfl, (T2.out.drew.below hb4.out).new (two X Y) 23 rfl⟩, rfl⟩
          case rest =>
            obtain ⟨⟨N1, rfl, hH⟩, rfl⟩ := hcut
            have T3 := Lib.hid hH
            clear hH
            go_upto_region 10 with fail
            go_cut [13, 14] from 37 to 68 (fun a b w' => BoxAt w w' ((N1, 23, two X Y) :: [(w.heap.size + 1 + 1, 3, qsA p q y), (w.heap.size + 1, 3, psA p q x), (w.heap.size, 23, two P Q)]) X Y a ∧ b = .int .i64 Z)
            case first =>
              have g0 := T3.out.tl.tl.at1.cell i
              have g1 := T3.out.tl.at1.cell j
              rw [ei.out] at g0; rw [ej.out] at g1
              have lz := T3.out.tl.at1.lt
              have n1 : ¬ wc.heap.size = w.heap.size + 1 := by omega
              have n2 : ¬ w.heap.size + 1 = wc.heap.size := by omega
              have n3 : ¬ wc.heap.size = w.heap.size + 1 + 1 := by omega
              have n4 : ¬ w.heap.size + 1 + 1 = wc.heap.size := by omega
              go_region_held3 (fun w' => w'.cell? ⟨w.heap.size + 1, i, none⟩ = some (.int .i64 a) ∧ w'.cell? ⟨w.heap.size + 1 + 1, j, none⟩ = some (.int .i64 b))
                (go_keep)
                ((go_at_call 11; ((with_reducible refine (M2.out _).mono ?_)); rintro e w3 ⟨rfl, hb3⟩; have q0 := hb3.cell (p := ⟨w.heap.size + 1, i, none⟩) (by simp; omega); have q1 := hb3.cell (p := ⟨w.heap.size + 1 + 1, j, none⟩) (by simp; omega); have q2 := hb3.cell (p := ⟨wc.heap.size, 0, none⟩); (try simp at q2); have q3 := hb3.cell (p := ⟨wc.heap.size, 1, none⟩); (try simp at q3); have q4 := hb3.frozen (p := ⟨wc.heap.size, 0, none⟩); (try simp at q4); have q5 := hb3.frozen (p := ⟨wc.heap.size, 1, none⟩); (try simp at q5); have hb4 := Lib.hid hb3; clear hb3))
              all_goals
                go_wp2_with fail
                go_meet
                case rel => first
                  | exact ⟨⟨_, rfl, T3.out.fill hb4.out X Y⟩, rfl⟩
                  | exact ⟨⟨_, rfl, (T3.out.drew.below hb4.out).new (two X Y) 23 rfl⟩, rfl⟩
            case rest =>
              obtain ⟨⟨N2, rfl, hH⟩, rfl⟩ := hcut
              have T4 := Lib.hid hH
              obtain ⟨x0, y0, _, _⟩ := cells_of hH.tl.at1
              obtain ⟨x1, y1, _, _⟩ := cells_of hH.at1
              clear hH
              go_wp2_with fail
              go_roundg (gk - 1)
              case measure => omega
              case rel => exact ⟨j + 1, by omega, by go_num, T4.out.tl.tl⟩
        · have j1 : ¬ (j : Int) < 4 := by omega
          go_wp2_with fail
          go_roundg (gq - 1)
          case measure => omega
          case rel => exact ⟨i + 1, by omega, by go_num, T2.out⟩
    · have i1 : ¬ (i : Int) < 5 := by omega
      go_wp2_with fail
      apply wp_region_typed (C := fun w' => Hold w w' [(w.heap.size + 1 + 1, 3, qsA p q y), (w.heap.size + 1, 3, psA p q x), (w.heap.size, 23, two P Q)]) (n := 88) (m := 20) (l1 := [_, _, _, _, _, _, _, _, _, _, _, _, _, _, _, _, _, _, _, _]) (l2 := [])
      · rfl
      · rfl
      · kernel_rfl
      · rfl
      · kernel_rfl
      · exact T1.out.drew
      · exact fun u u' h hb => h.below hb
      repeat (first
        | ((apply wpT_exact; · (intro w' hC hf; unfold Gives; obtain ⟨x0, y0, _, _⟩ := cells_of hC.tl.tl.at1; clear hf hC; go_wp2_with (fail); apply postT_val rfl (Below.refl _ _); simp only [valAt, Array.getD_eq_getD_getElem?, List.getElem?_toArray, List.getElem?_cons_succ, List.getElem?_cons_zero, Option.getD_some]; exact rfl)); (try simp only [Act.put, List.setIfInBounds_toArray, List.set_cons_zero, List.set_cons_succ]))
        | ((apply wpT_exact; · (intro w' hC hf; unfold Gives; obtain ⟨x0, y0, _, _⟩ := cells_of hC.tl.tl.at1; have HB := Lib.hid (HE.out.below hC.bl HZ.out); clear hf hC; go_wp2_with (first | (go_at_call 12; ((with_reducible refine (D1.out _).mono ?_)); rintro e w2 ⟨rfl, hb2⟩) | (go_at_call 12; ((with_reducible refine (D3.out _).mono ?_)); rintro e w2 ⟨rfl, hb2⟩) | (go_at_call 13; ((with_reducible refine (D2.out _).mono ?_)); rintro e w2 ⟨rfl, hb2⟩) | (go_at_call 13; ((with_reducible refine (D4.out _).mono ?_)); rintro e w2 ⟨rfl, hb2⟩) | (go_at_call 14; ((with_reducible refine (HV.out _ HB.out).mono ?_)); rintro e w2 ⟨rfl, hb2⟩)); apply postT_val rfl (by first | exact Below.refl _ _ | assumption); simp only [valAt, Array.getD_eq_getD_getElem?, List.getElem?_toArray, List.getElem?_cons_succ, List.getElem?_cons_zero, Option.getD_some]; exact rfl)); (try simp only [Act.put, List.setIfInBounds_toArray, List.set_cons_zero, List.set_cons_succ])))
      apply wpT_done
      intro w3 hC _
      go_wp2
      go_ret
      exact ⟨rfl, hC.bl⟩
end Go.Proofs.YtknnbejhfhadnaaDoor
