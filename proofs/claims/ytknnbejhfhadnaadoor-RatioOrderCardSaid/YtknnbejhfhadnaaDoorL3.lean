/- same: the program's and the reference's results. -/
import Derived.Test.YtknnbejhfhadnaaDoorL2
namespace Go.Proofs.YtknnbejhfhadnaaDoor
open Go.RowKit Go.Sort
set_option maxRecDepth 100000 in
set_option maxHeartbeats 8000000 in
theorem same_any (P Q P' Q' : Int) (w : World) (ht : TEnv w) (hP : inI P) (hQ : inI Q) (hP' : inI P') (hQ' : inI Q') : Calls Tryd.prog 25 #[.agg (two P Q), .agg (two P' Q')] w fun e w' => e = .returned (.bool true) ∧ Below w.heap.size w w' := by
  have T0 := Lib.hid (((hold0 w).new (two P Q) 23 rfl).new (two P' Q') 23 (N := w.heap.size + 1) (by simp))
  have c1 := fun w => add_any P Q P' Q' w hP hQ hP' hQ'
  have c2 := fun w => rAdd_any P Q P' Q' w hP hQ hP' hQ'
  have c3 := fun w => sub_any P Q P' Q' w hP hQ hP' hQ'
  have c4 := fun w => rSub_any P Q P' Q' w hP hQ hP' hQ'
  have c5 := fun w => mul_any P Q P' Q' w hP hQ hP' hQ'
  have c6 := fun w => rMul_any P Q P' Q' w hP hQ hP' hQ'
  have d1 := fun w => compare_any P Q P' Q' w hP hQ hP' hQ'
  have d2 := fun w => rCompare_any P Q P' Q' w hP hQ hP' hQ'
  have d3 := fun w => floor_any P Q w hP hQ
  have d4 := fun w => rFloor_any P Q w hP hQ
  have d5 := fun w (h : TEnv w) => text_any P Q w hP hQ h
  have d6 := fun w => rText_any P Q w hP hQ
  generalize Rt.add P Q P' Q' = R1 at c1 c2
  generalize Rt.sub P Q P' Q' = R2 at c3 c4
  generalize Rt.mul P Q P' Q' = R3 at c5 c6
  generalize Rt.cmp P Q P' Q' = c at d1 d2
  generalize Rt.flr P Q = f at d3 d4
  generalize Rt.txt P Q = t at d5 d6
  obtain ⟨a1, b1, e1⟩ := R1
  obtain ⟨a2, b2, e2⟩ := R2
  obtain ⟨a3, b3, e3⟩ := R3
  unfold TupIs at c1 c2 c3 c4 c5 c6
  have C1 := Lib.hid c1; have C2 := Lib.hid c2; have C3 := Lib.hid c3; have C4 := Lib.hid c4; have C5 := Lib.hid c5; have C6 := Lib.hid c6
  have D1 := Lib.hid d1; have D2 := Lib.hid d2; have D3 := Lib.hid d3; have D4 := Lib.hid d4; have D5 := Lib.hid d5; have D6 := Lib.hid d6
  have HE := Lib.hid ht; have HZ := Lib.hid ht.sz
  clear c1 c2 c3 c4 c5 c6 d1 d2 d3 d4 d5 d6 hP hQ hP' hQ' ht
  go_enter Tryd.func25, Tryd.ntmps25
  go_wp2_with (first | (go_at_call 26; ((with_reducible refine (C1.out _).mono ?_)); rintro e w2 ⟨rfl, hb2⟩; replace T0 := Lib.hid (T0.out.below hb2); clear hb2; replace T0 := Lib.hid (T0.out.new (two a1 b1) 23 rfl); obtain ⟨x0, y0, _, _⟩ := cells_of T0.out.tl.tl.at1; obtain ⟨x1, y1, _, _⟩ := cells_of T0.out.tl.at1) | (go_at_call 41; ((with_reducible refine (C2.out _).mono ?_)); rintro e w2 ⟨rfl, hb2⟩; replace T0 := Lib.hid (T0.out.below hb2); clear hb2; replace T0 := Lib.hid (T0.out.new (two a1 b1) 23 rfl); obtain ⟨x0, y0, _, _⟩ := cells_of T0.out.tl.tl.tl.at1; obtain ⟨x1, y1, _, _⟩ := cells_of T0.out.tl.tl.at1) | (go_at_call 28; ((with_reducible refine (C3.out _).mono ?_)); rintro e w2 ⟨rfl, hb2⟩; replace T0 := Lib.hid (T0.out.below hb2); clear hb2; replace T0 := Lib.hid (T0.out.new (two a2 b2) 23 rfl); obtain ⟨x0, y0, _, _⟩ := cells_of T0.out.tl.tl.tl.tl.at1; obtain ⟨x1, y1, _, _⟩ := cells_of T0.out.tl.tl.tl.at1) | (go_at_call 42; ((with_reducible refine (C4.out _).mono ?_)); rintro e w2 ⟨rfl, hb2⟩; replace T0 := Lib.hid (T0.out.below hb2); clear hb2; replace T0 := Lib.hid (T0.out.new (two a2 b2) 23 rfl); obtain ⟨x0, y0, _, _⟩ := cells_of T0.out.tl.tl.tl.tl.tl.at1; obtain ⟨x1, y1, _, _⟩ := cells_of T0.out.tl.tl.tl.tl.at1) | (go_at_call 27; ((with_reducible refine (C5.out _).mono ?_)); rintro e w2 ⟨rfl, hb2⟩; replace T0 := Lib.hid (T0.out.below hb2); clear hb2; replace T0 := Lib.hid (T0.out.new (two a3 b3) 23 rfl); obtain ⟨x0, y0, _, _⟩ := cells_of T0.out.tl.tl.tl.tl.tl.tl.at1; obtain ⟨x1, y1, _, _⟩ := cells_of T0.out.tl.tl.tl.tl.tl.at1) | (go_at_call 43; ((with_reducible refine (C6.out _).mono ?_)); rintro e w2 ⟨rfl, hb2⟩; replace T0 := Lib.hid (T0.out.below hb2); clear hb2; replace T0 := Lib.hid (T0.out.new (two a3 b3) 23 rfl); obtain ⟨x0, y0, _, _⟩ := cells_of T0.out.tl.tl.tl.tl.tl.tl.tl.at1; obtain ⟨x1, y1, _, _⟩ := cells_of T0.out.tl.tl.tl.tl.tl.tl.at1))
  replace T0 := Lib.hid T0.out.drew
  apply wp_region_typed (C := fun w' => Hold w w' _) (n := 104) (m := 52) (l1 := [_, _, _, _, _, _, _, _, _, _, _, _, _, _, _, _, _, _, _, _, _, _, _, _, _, _, _, _, _, _, _, _, _, _, _, _, _, _, _, _, _, _, _, _, _, _, _, _, _, _, _, _]) (l2 := [])
  · rfl
  · rfl
  · kernel_rfl
  · rfl
  · kernel_rfl
  · exact T0.out
  · exact fun u u' h hb => h.below hb
  repeat (first
    | ((apply wpT_exact; · (intro w' hC hf; unfold Gives; obtain ⟨x0, y0, _, _⟩ := cells_of hC.tl.tl.tl.tl.tl.tl.tl.at1; obtain ⟨x1, y1, _, _⟩ := cells_of hC.tl.tl.tl.tl.tl.tl.at1; obtain ⟨x2, y2, _, _⟩ := cells_of hC.tl.tl.tl.tl.tl.at1; obtain ⟨x3, y3, _, _⟩ := cells_of hC.tl.tl.tl.tl.at1; obtain ⟨x4, y4, _, _⟩ := cells_of hC.tl.tl.tl.at1; obtain ⟨x5, y5, _, _⟩ := cells_of hC.tl.tl.at1; obtain ⟨x6, y6, _, _⟩ := cells_of hC.tl.at1; obtain ⟨x7, y7, _, _⟩ := cells_of hC.at1; clear hf hC; go_wp2_with (fail); apply postT_val rfl (Below.refl _ _); simp only [valAt, Array.getD_eq_getD_getElem?, List.getElem?_toArray, List.getElem?_cons_succ, List.getElem?_cons_zero, Option.getD_some]; exact rfl)); (try simp only [Act.put, List.setIfInBounds_toArray, List.set_cons_zero, List.set_cons_succ]))
    | ((apply wpT_exact; · (intro w' hC hf; unfold Gives; obtain ⟨x0, y0, _, _⟩ := cells_of hC.tl.tl.tl.tl.tl.tl.tl.at1; obtain ⟨x1, y1, _, _⟩ := cells_of hC.tl.tl.tl.tl.tl.tl.at1; obtain ⟨x2, y2, _, _⟩ := cells_of hC.tl.tl.tl.tl.tl.at1; obtain ⟨x3, y3, _, _⟩ := cells_of hC.tl.tl.tl.tl.at1; obtain ⟨x4, y4, _, _⟩ := cells_of hC.tl.tl.tl.at1; obtain ⟨x5, y5, _, _⟩ := cells_of hC.tl.tl.at1; obtain ⟨x6, y6, _, _⟩ := cells_of hC.tl.at1; obtain ⟨x7, y7, _, _⟩ := cells_of hC.at1; have HB := Lib.hid (HE.out.below hC.bl HZ.out); clear hf hC; go_wp2_with (first | (go_at_call 24; ((with_reducible refine (D1.out _).mono ?_)); rintro e w2 ⟨rfl, hb2⟩) | (go_at_call 44; ((with_reducible refine (D2.out _).mono ?_)); rintro e w2 ⟨rfl, hb2⟩) | (go_at_call 29; ((with_reducible refine (D3.out _).mono ?_)); rintro e w2 ⟨rfl, hb2⟩) | (go_at_call 45; ((with_reducible refine (D4.out _).mono ?_)); rintro e w2 ⟨rfl, hb2⟩) | (go_at_call 23; ((with_reducible refine (D5.out _ HB.out).mono ?_)); rintro e w2 ⟨rfl, hb2⟩) | (go_at_call 15; ((with_reducible refine (D6.out _).mono ?_)); rintro e w2 ⟨rfl, hb2⟩)); apply postT_val rfl (by first | exact Below.refl _ _ | assumption); simp only [valAt, Array.getD_eq_getD_getElem?, List.getElem?_toArray, List.getElem?_cons_succ, List.getElem?_cons_zero, Option.getD_some]; exact rfl)); (try simp only [Act.put, List.setIfInBounds_toArray, List.set_cons_zero, List.set_cons_succ])))
  apply wpT_done
  intro w3 hC _
  go_wp2
  go_ret
  exact ⟨rfl, hC.bl⟩
end Go.Proofs.YtknnbejhfhadnaaDoor
