/- RatioWritten: the walk. -/
import Derived.Test.YtknnbejhfhadnaaDoorL7
import Derived.Outline
namespace Go.Proofs.YtknnbejhfhadnaaDoor
open Go.RowKit Go.Sort
namespace Rt
theorem vld_den {P Q : Int} (h : vldP P Q) : vldP P (den Q) := (of_ok (ofR_val h)).1
theorem par_txt {P Q : Int} (h : vldP P Q) : par (txt P Q) = (P, den Q, 0) := by
  rw [← txt_den h]
  exact par_ok (vld_den h) (den_pos h).1
theorem cmp_den {P Q : Int} (h : vldP P Q) : cmp P (den Q) P Q = 0 := by
  have hv : val P (den Q) = val P Q := (of_ok (ofR_val h)).2.2
  rw [cmp_val (vld_den h) h, hv, if_neg Rat.lt_irrefl, if_neg Rat.lt_irrefl]
theorem txt_cmp {P Q P' Q' : Int} (h : vldP P Q) (h' : vldP P' Q') : txt P Q = txt P' Q' ↔ cmp P Q P' Q' = 0 := by
  rw [txt_same h h', cmp_zero h h']
end Rt
theorem three_c {A : Option Addr} {n c : Nat} {L : List Int} {w : World} (I : Inp A n L w) {P0 Q0 P1 Q1 P2 Q2 : Int} (h0 : thr L 0 = (P0, Q0)) (h1 : thr L 1 = (P1, Q1)) (h2 : thr L 2 = (P2, Q2)) :
    Calls Tryd.prog 22 #[.slice A n c] w fun e w' => e = .returned (.tuple #[.agg #[.int .i64 P0, .int .i64 Q0], .agg #[.int .i64 P1, .int .i64 Q1], .agg #[.int .i64 P2, .int .i64 Q2]]) ∧ Below w.heap.size w w' :=
  (three_any A n c L w I).mono fun e w' ⟨a, b⟩ => ⟨by unfold ThreeP at a; rw [h0, h1, h2] at a; exact a, b⟩
set_option maxRecDepth 100000 in
set_option maxHeartbeats 8000000 in
theorem written_x (A : Option Addr) (n c : Nat) (L : List Int) (w : World) (ht : TEnv w) (I : Inp A n L w) : Calls Tryd.prog 6 #[.slice A n c] w fun e w' => e = .returned (.bool true) ∧ Below w.heap.size w w' := by
  have T0 := Lib.hid (hold0 w)
  have v0 := thr_vld L 0; have v1 := thr_vld L 1
  obtain ⟨p0, hp0⟩ : ∃ p, thr L 0 = p := ⟨_, rfl⟩
  obtain ⟨p1, hp1⟩ : ∃ p, thr L 1 = p := ⟨_, rfl⟩
  obtain ⟨p2, hp2⟩ : ∃ p, thr L 2 = p := ⟨_, rfl⟩
  rw [hp0] at v0; rw [hp1] at v1
  obtain ⟨P0, Q0⟩ := p0
  obtain ⟨P1, Q1⟩ := p1
  obtain ⟨P2, Q2⟩ := p2
  dsimp only at v0 v1
  have c3 := three_c (c := c) I hp0 hp1 hp2
  obtain ⟨i0, j0⟩ := vld_in v0
  obtain ⟨i1, j1⟩ := vld_in v1
  obtain ⟨_, jd⟩ := vld_in (Rt.vld_den v0)
  have ta := fun w (h : TEnv w) => text_any P0 Q0 w i0 j0 h
  have tb := fun w (h : TEnv w) => text_any P1 Q1 w i1 j1 h
  have tx := fun w (h : TEnv w) => text_any P0 (Rt.den Q0) w i0 jd h
  rw [Rt.txt_den v0] at tx
  obtain ⟨t, hta⟩ : ∃ t : ByteArray, (⟨(Rt.txt P0 Q0).toArray⟩ : ByteArray) = t := ⟨_, rfl⟩
  obtain ⟨u, htb⟩ : ∃ t : ByteArray, (⟨(Rt.txt P1 Q1).toArray⟩ : ByteArray) = t := ⟨_, rfl⟩
  rw [hta] at ta tx
  rw [htb] at tb
  have ts : t.data.toList = Rt.txt P0 Q0 := by rw [← hta]
  have us : u.data.toList = Rt.txt P1 Q1 := by rw [← htb]
  have tz : t.size ≤ 40 := by
    have e : t.data.toList.length = t.size := Array.length_toList
    have := Rt.txt_len (P := P0) (Q := Q0)
    rw [ts] at e; omega
  have uz : 0 < u.size ∧ u.size ≤ 40 := by
    have e : u.data.toList.length = u.size := Array.length_toList
    have := Rt.txt_len (P := P1) (Q := Q1)
    have := List.length_pos_iff.2 (Rt.txt_ne v1)
    rw [us] at e; omega
  have pa := fun w (h : TEnv w) => parse_any t w tz h
  rw [ts, Rt.par_txt v0] at pa
  unfold TupIs at pa
  dsimp only at pa
  have cx := fun w => compare_any P0 (Rt.den Q0) P0 Q0 w i0 jd i0 j0
  rw [Rt.cmp_den v0] at cx
  have cab := fun w => compare_any P0 Q0 P1 Q1 w i0 j0 i1 j1
  have vx := fun w => valid_any P0 (Rt.den Q0) w i0 jd
  rw [Rt.vld_iff.2 (Rt.vld_den v0)] at vx
  have htc : (t.toList == u.toList) = (Rt.cmp P0 Q0 P1 Q1 == 0) := by
    have h := Rt.txt_cmp v0 v1
    rw [← ts, ← us, ← ByteArray.toList_eq, ← ByteArray.toList_eq] at h
    rw [Bool.eq_iff_iff]; simpa using h
  generalize Rt.den Q0 = d at *
  generalize Rt.cmp P0 Q0 P1 Q1 = z at *
  have C3 := Lib.hid c3; have TA := Lib.hid ta; have TB := Lib.hid tb; have TX := Lib.hid tx; have PA := Lib.hid pa; have CX := Lib.hid cx; have CAB := Lib.hid cab; have VX := Lib.hid vx
  have HE := Lib.hid ht; have HZ := Lib.hid ht.sz
  have HV := Lib.hid lives_any
  obtain ⟨uz1, uz2⟩ := uz
  have uz3 : (0 : Int) < (u.size : Int) := by omega
  have uz4 : decide (0 < u.size) = true := by simpa using uz1
  clear c3 ta tb tx pa cx cab vx hta htb ts us i0 j0 i1 j1 jd v0 v1 hp0 hp1 hp2 I ht uz1 tz
  cases hz : (z == 0)
  all_goals
    rw [hz] at htc
    go_enter Tryd.func6, Tryd.ntmps6
    go_wp2_with (first | (go_at_call 22; ((with_reducible refine (C3.out).mono ?_)); rintro e wa ⟨rfl, hb2⟩; replace T0 := Lib.hid (T0.out.below hb2); clear hb2; replace T0 := Lib.hid (((T0.out.new (two P0 Q0) 23 rfl).new (two P1 Q1) 23 (N := wa.heap.size + 1) (by simp)).new (two P2 Q2) 23 (N := wa.heap.size + 1 + 1) (by simp))) | (go_at_call 23; ((with_reducible refine (TA.out _ (HE.out.below T0.out.bl HZ.out)).mono ?_)); rintro e wb ⟨rfl, hb2⟩; replace T0 := Lib.hid (T0.out.below hb2); clear hb2) | (go_at_call 20; ((with_reducible refine (PA.out _ (HE.out.below T0.out.bl HZ.out)).mono ?_)); rintro e wc ⟨rfl, hb2⟩; replace T0 := Lib.hid (T0.out.below hb2); clear hb2; replace T0 := Lib.hid (T0.out.new (two P0 d) 23 rfl)))
    apply wp_region_typed (C := fun w' => Hold w w' _) (n := 59) (m := 20) (l1 := [_, _, _, _, _, _, _, _, _, _, _, _, _, _, _, _, _, _, _, _]) (l2 := [])
    · rfl
    · rfl
    · kernel_rfl
    · rfl
    · kernel_rfl
    · exact T0.out.drew
    · exact fun u u' h hb => h.below hb
    repeat (first
      | ((apply wpT_exact; · (intro w' hC hf; unfold Gives; obtain ⟨x0, y0, _, _⟩ := cells_of hC.at1; obtain ⟨x1, y1, _, _⟩ := cells_of hC.tl.tl.at1; obtain ⟨x2, y2, _, _⟩ := cells_of hC.tl.tl.tl.at1; clear hf hC; go_wp2_with (fail); apply postT_val rfl (Below.refl _ _); simp only [valAt, Array.getD_eq_getD_getElem?, List.getElem?_toArray, List.getElem?_cons_succ, List.getElem?_cons_zero, Option.getD_some]; exact rfl)); (try simp only [Act.put, List.setIfInBounds_toArray, List.set_cons_zero, List.set_cons_succ]))
      | ((apply wpT_exact; · (intro w' hC hf; unfold Gives; obtain ⟨x0, y0, _, _⟩ := cells_of hC.at1; obtain ⟨x1, y1, _, _⟩ := cells_of hC.tl.tl.at1; obtain ⟨x2, y2, _, _⟩ := cells_of hC.tl.tl.tl.at1; have HB := Lib.hid (HE.out.below hC.bl HZ.out); clear hf hC; go_wp2_with (first | (go_at_call 24; ((with_reducible refine (CX.out _).mono ?_)); rintro e w2 ⟨rfl, hb2⟩) | (go_at_call 23; ((with_reducible refine (TX.out _ HB.out).mono ?_)); rintro e w2 ⟨rfl, hb2⟩) | (go_at_call 23; ((with_reducible refine (TA.out _ HB.out).mono ?_)); rintro e w2 ⟨rfl, hb2⟩) | (go_at_call 12; ((with_reducible refine (VX.out _).mono ?_)); rintro e w2 ⟨rfl, hb2⟩)); apply postT_val rfl (by first | exact Below.refl _ _ | assumption); simp only [valAt, Array.getD_eq_getD_getElem?, List.getElem?_toArray, List.getElem?_cons_succ, List.getElem?_cons_zero, Option.getD_some]; exact rfl)); (try simp only [Act.put, List.setIfInBounds_toArray, List.set_cons_zero, List.set_cons_succ])))
    apply wpT_done
    intro w3 hC _
    replace T0 := Lib.hid hC
    clear hC
    go_wp2_with fail
    apply wp_region_typed (C := fun w' => Hold w w' _) (n := 59) (m := 20) (l1 := [_, _, _, _, _, _, _, _, _, _, _, _, _, _, _, _, _, _, _, _]) (l2 := [])
    · rfl
    · rfl
    · kernel_rfl
    · rfl
    · kernel_rfl
    · exact T0.out.drew
    · exact fun u u' h hb => h.below hb
    repeat (first
      | ((apply wpT_exact; · (intro w' hC hf; unfold Gives; obtain ⟨x0, y0, _, _⟩ := cells_of hC.at1; obtain ⟨x1, y1, _, _⟩ := cells_of hC.tl.tl.at1; obtain ⟨x2, y2, _, _⟩ := cells_of hC.tl.tl.tl.at1; clear hf hC; go_wp2_with (fail); apply postT_val rfl (Below.refl _ _); simp only [valAt, Array.getD_eq_getD_getElem?, List.getElem?_toArray, List.getElem?_cons_succ, List.getElem?_cons_zero, Option.getD_some]; exact rfl)); (try simp only [Act.put, List.setIfInBounds_toArray, List.set_cons_zero, List.set_cons_succ]))
      | ((apply wpT_exact; · (intro w' hC hf; unfold Gives; obtain ⟨x0, y0, _, _⟩ := cells_of hC.at1; obtain ⟨x1, y1, _, _⟩ := cells_of hC.tl.tl.at1; obtain ⟨x2, y2, _, _⟩ := cells_of hC.tl.tl.tl.at1; have HB := Lib.hid (HE.out.below hC.bl HZ.out); clear hf hC; go_wp2_with (first | (go_at_call 24; ((with_reducible refine (CAB.out _).mono ?_)); rintro e w2 ⟨rfl, hb2⟩) | (go_at_call 23; ((with_reducible refine (TB.out _ HB.out).mono ?_)); rintro e w2 ⟨rfl, hb2⟩) | (go_at_call 23; ((with_reducible refine (TA.out _ HB.out).mono ?_)); rintro e w2 ⟨rfl, hb2⟩) | (go_at_call 14; ((with_reducible refine (HV.out _ HB.out).mono ?_)); rintro e w2 ⟨rfl, hb2⟩)); apply postT_val rfl (by first | exact Below.refl _ _ | assumption); simp only [valAt, Array.getD_eq_getD_getElem?, List.getElem?_toArray, List.getElem?_cons_succ, List.getElem?_cons_zero, Option.getD_some]; exact rfl)); (try simp only [Act.put, List.setIfInBounds_toArray, List.set_cons_zero, List.set_cons_succ])))
    apply wpT_done
    intro w3 hC _
    replace T0 := Lib.hid hC
    clear hC
    go_wp2_with fail
    go_ret
    exact ⟨rfl, T0.out.bl⟩
end Go.Proofs.YtknnbejhfhadnaaDoor
