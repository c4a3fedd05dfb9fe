/- RatioWorks: the walk. -/
import Derived.Test.YtknnbejhfhadnaaDoorL5
namespace Go.Proofs.YtknnbejhfhadnaaDoor
open Go.RowKit Go.Sort
def wkA (x0 x1 y0 y1 a0 a1 b0 b1 : Int) : Array Value := #[.int .i64 x0, .int .i64 x1, .int .i64 y0, .int .i64 y1, .int .i64 a0, .int .i64 a1, .int .i64 b0, .int .i64 b1, .int .i64 0, .int .i64 0, .int .i64 (-2147483648), .int .i64 1, .int .i64 1, .int .i64 2147483648]
theorem wkA_get (x0 x1 y0 y1 a0 a1 b0 b1 : Int) (h0 : inI x0) (h1 : inI x1) (h2 : inI y0) (h3 : inI y1) (h4 : inI a0) (h5 : inI a1) (h6 : inI b0) (h7 : inI b1) (i : Nat) (hi : i < 7) :
    ∃ a b, inI a ∧ inI b ∧ (wkA x0 x1 y0 y1 a0 a1 b0 b1)[i * 2]? = some (.int .i64 a) ∧ (wkA x0 x1 y0 y1 a0 a1 b0 b1)[i * 2 + 1]? = some (.int .i64 b) := by
  match i, hi with
  | 0, _ => exact ⟨x0, x1, h0, h1, rfl, rfl⟩
  | 1, _ => exact ⟨y0, y1, h2, h3, rfl, rfl⟩
  | 2, _ => exact ⟨a0, a1, h4, h5, rfl, rfl⟩
  | 3, _ => exact ⟨b0, b1, h6, h7, rfl, rfl⟩
  | 4, _ => exact ⟨0, 0, by decide, by decide, rfl, rfl⟩
  | 5, _ => exact ⟨-2147483648, 1, by decide, by decide, rfl, rfl⟩
  | 6, _ => exact ⟨1, 2147483648, by decide, by decide, rfl, rfl⟩
set_option maxRecDepth 100000 in
set_option maxHeartbeats 8000000 in
theorem works_x (P Q P' Q' : Int) (A : Option Addr) (n c : Nat) (L : List Int) (w : World) (ht : TEnv w) (I : Inp A n L w) (hP : inI P) (hQ : inI Q) (hP' : inI P') (hQ' : inI Q') : Calls Tryd.prog 7 #[.slice A n c, .agg (two P Q), .agg (two P' Q')] w fun e w' => e = .returned (.bool true) ∧ Below w.heap.size w w' := by
  have T0 := Lib.hid (((hold0 w).new (two P Q) 23 rfl).new (two P' Q') 23 (N := w.heap.size + 1) (by simp))
  have i0 := at_in L 0 1600 (by omega) (by omega); have i1 := at_in L 1 120 (by omega) (by omega)
  have i2 := at_in L 2 1600 (by omega) (by omega); have i3 := at_in L 3 120 (by omega) (by omega)
  generalize h0 : atL L 0 1600 = a0 at *
  generalize h1 : atL L 1 120 = a1 at *
  generalize h2 : atL L 2 1600 = a2 at *
  generalize h3 : atL L 3 120 = a3 at *
  obtain ⟨p0, hp0⟩ : ∃ p, som a0 a1 = p := ⟨_, rfl⟩
  obtain ⟨p1, hp1⟩ : ∃ p, som a2 a3 = p := ⟨_, rfl⟩
  have v0 := vld_in (som_vld a0 a1)
  have v1 := vld_in (som_vld a2 a3)
  rw [hp0] at v0; rw [hp1] at v1
  obtain ⟨P0, Q0⟩ := p0
  obtain ⟨P1, Q1⟩ := p1
  dsimp only at v0 v1
  have WK := Lib.hid (wkA_get P0 Q0 P1 Q1 P Q P' Q' v0.1 v0.2 v1.1 v1.2 hP hQ hP' hQ')
  have c0 := fun w1 (hb : Below w.heap.size w w1) => at_c (c := c) I hb (by omega) (by omega) h0
  have c1 := fun w1 (hb : Below w.heap.size w w1) => at_c (c := c) I hb (by omega) (by omega) h1
  have c2 := fun w1 (hb : Below w.heap.size w w1) => at_c (c := c) I hb (by omega) (by omega) h2
  have c3 := fun w1 (hb : Below w.heap.size w w1) => at_c (c := c) I hb (by omega) (by omega) h3
  have s0 := fun w => some_c (w := w) i0 i1 hp0
  have s1 := fun w => some_c (w := w) i2 i3 hp1
  have SM := Lib.hid same_any
  have C0 := Lib.hid c0; have C1 := Lib.hid c1; have C2 := Lib.hid c2; have C3 := Lib.hid c3
  have S0 := Lib.hid s0; have S1 := Lib.hid s1
  have HE := Lib.hid ht; have HZ := Lib.hid ht.sz
  have HV := Lib.hid lives_any
  clear c0 c1 c2 c3 s0 s1 h0 h1 h2 h3 hp0 hp1 i0 i1 i2 i3 I v0 v1 hP hQ hP' hQ' ht
  go_enter Tryd.func7, Tryd.ntmps7
  go_wp2_with (first | (go_at_call 17; ((with_reducible refine (C0.out _ T0.out.bl).mono ?_)); rintro e w2 ⟨rfl, rfl⟩) | (go_at_call 17; ((with_reducible refine (C1.out _ T0.out.bl).mono ?_)); rintro e w2 ⟨rfl, rfl⟩) | (go_at_call 17; ((with_reducible refine (C2.out _ T0.out.bl).mono ?_)); rintro e w2 ⟨rfl, rfl⟩) | (go_at_call 17; ((with_reducible refine (C3.out _ T0.out.bl).mono ?_)); rintro e w2 ⟨rfl, rfl⟩) | (go_at_call 16; ((with_reducible refine (S0.out _).mono ?_)); rintro e wa ⟨rfl, hb2⟩; replace T0 := Lib.hid (T0.out.below hb2); clear hb2; replace T0 := Lib.hid (T0.out.new (two P0 Q0) 23 rfl)) | (go_at_call 16; ((with_reducible refine (S1.out _).mono ?_)); rintro e wb ⟨rfl, hb2⟩; replace T0 := Lib.hid (T0.out.below hb2); clear hb2; replace T0 := Lib.hid (T0.out.new (two P1 Q1) 23 rfl); obtain ⟨x0, y0, _, _⟩ := cells_of T0.out.at1; obtain ⟨x1, y1, _, _⟩ := cells_of T0.out.tl.at1; obtain ⟨x2, y2, _, _⟩ := cells_of T0.out.tl.tl.at1; obtain ⟨x3, y3, _, _⟩ := cells_of T0.out.tl.tl.tl.at1))
  replace T0 := Lib.hid (T0.out.new (wkA P0 Q0 P1 Q1 P Q P' Q') 23 (N := wb.heap.size + 1) (by simp))
  clear x0 x1 x2 x3 y0 y1 y2 y3
  go_loopg [10] 7 (fun r i wr => ∃ k : Nat, k + r = 7 ∧ i = .int .i64 k ∧ Hold w wr [(wb.heap.size + 1, 23, wkA P0 Q0 P1 Q1 P Q P' Q')])
  case atStart => exact ⟨0, rfl, rfl, T0.out.bl, fun x hx => by rw [List.mem_singleton] at hx; subst hx; exact T0.out.bs _ (.head _)⟩
  case round =>
    obtain ⟨i, hi, rfl, hH⟩ := hrel
    obtain ⟨gq, rfl⟩ : ∃ g, g = gk := ⟨_, rfl⟩
    have T1 := Lib.hid hH
    clear hH T0
    by_cases hlt : i < 7
    · have i0 : (0 : Int) ≤ (i : Int) := Int.natCast_nonneg _
      have i1 : (i : Int) < 7 := by omega
      obtain ⟨a, a', ia, ia', ei0, ei1⟩ := WK.out i hlt
      have EI := Lib.hid ei0; have EI' := Lib.hid ei1
      clear ei0 ei1
      go_wp2_with fail
      obtain ⟨wo, hwo⟩ : ∃ wo : World, wo = wr := ⟨_, rfl⟩
      rw [← hwo] at T1 ⊢
      clear hwo wr
      go_loopg [11] 7 (fun r i wr => ∃ k : Nat, k + r = 7 ∧ i = .int .i64 k ∧ Hold w wr [(wb.heap.size + 1, 23, wkA P0 Q0 P1 Q1 P Q P' Q')])
      case atStart => exact ⟨0, rfl, rfl, T1.out⟩
      case round =>
        obtain ⟨j, hj, rfl, hH⟩ := hrel
        have T2 := Lib.hid hH
        clear hH T1
        by_cases hlj : j < 7
        · have j0 : (0 : Int) ≤ (j : Int) := Int.natCast_nonneg _
          have j1 : (j : Int) < 7 := by omega
          obtain ⟨b, b', ib, ib', ej0, ej1⟩ := WK.out j hlj
          have EJ := Lib.hid ej0; have EJ' := Lib.hid ej1
          have CM := Lib.hid (fun w h => SM.out a a' b b' w h ia ia' ib ib')
          clear ej0 ej1 ia ia' ib ib'
          go_wp2_with fail
          apply wp_region_typed (C := fun w' => Hold w w' [(wb.heap.size + 1, 23, wkA P0 Q0 P1 Q1 P Q P' Q')]) (n := 53) (m := 10) (l1 := [_, _, _, _, _, _, _, _, _, _]) (l2 := [])
          · rfl
          · rfl
          · kernel_rfl
          · rfl
          · kernel_rfl
          · exact T2.out.drew
          · exact fun u u' h hb => h.below hb
          repeat (first
            | ((apply wpT_exact; · (intro w' hC hf; unfold Gives; have x0 := (hC.at1.cell (i * 2)).trans EI.out; have x1 := (hC.at1.cell (i * 2 + 1)).trans EI'.out; have y0 := (hC.at1.cell (j * 2)).trans EJ.out; have y1 := (hC.at1.cell (j * 2 + 1)).trans EJ'.out; clear hf hC; go_wp2_with (fail); apply postT_val rfl (Below.refl _ _); simp only [valAt, Array.getD_eq_getD_getElem?, List.getElem?_toArray, List.getElem?_cons_succ, List.getElem?_cons_zero, Option.getD_some]; exact rfl)); (try simp only [Act.put, List.setIfInBounds_toArray, List.set_cons_zero, List.set_cons_succ]))
            | ((apply wpT_exact; · (intro w' hC hf; unfold Gives; have HB := Lib.hid (HE.out.below hC.bl HZ.out); clear hf hC; go_wp2_with (first | (go_at_call 25; ((with_reducible refine (CM.out _ HB.out).mono ?_)); rintro e w2 ⟨rfl, hb2⟩)); apply postT_val rfl (by first | exact Below.refl _ _ | assumption); simp only [valAt, Array.getD_eq_getD_getElem?, List.getElem?_toArray, List.getElem?_cons_succ, List.getElem?_cons_zero, Option.getD_some]; exact rfl)); (try simp only [Act.put, List.setIfInBounds_toArray, List.set_cons_zero, List.set_cons_succ])))
          apply wpT_done
          intro w3 hC _
          have T4 := Lib.hid hC
          clear hC
          go_wp2_with fail
          go_roundg (gk - 1)
          case measure => omega
          case rel => exact ⟨j + 1, by omega, by go_num, T4.out⟩
        · have j1 : ¬ (j : Int) < 7 := by omega
          go_wp2_with fail
          go_roundg (gq - 1)
          case measure => omega
          case rel => exact ⟨i + 1, by omega, by go_num, T2.out⟩
    · have i1 : ¬ (i : Int) < 7 := by omega
      go_wp2_with (go_at_call 14; ((with_reducible refine (HV.out _ (HE.out.below T1.out.bl HZ.out)).mono ?_)); rintro e w2 ⟨rfl, hb2⟩; replace T1 := Lib.hid (T1.out.below hb2); clear hb2)
      go_ret
      exact ⟨rfl, T1.out.bl⟩
end Go.Proofs.YtknnbejhfhadnaaDoor
