/- The statement CalendarLocal: the walk. -/
import Derived.Test.YtlfgjpidamkpdaaDoorW25
namespace Go.Proofs.YtlfgjpidamkpdaaDoor
open Go.RowKit
/-- A slice of a known list. -/
def IsInts (L : List Int) (v : Value) (w : World) : Prop := ∃ A c, v = .slice A L.length c ∧ Ints w w.heap.size A L.length L
theorem isInts_kept (L : List Int) : Kept (IsInts L) := fun _ _ _ ⟨A, c, h1, h2⟩ hb => ⟨A, c, h1, Reads.more (Reads.below h2 hb) hb.size⟩
def IsRes (L : List Int) (E : Int) (v : Value) (w : World) : Prop := ∃ u, v = .tuple #[u, .int .i64 E] ∧ IsInts L u w
theorem isRes_kept (L : List Int) (E : Int) : Kept (IsRes L E) := fun _ _ _ ⟨u, h1, h2⟩ hb => ⟨u, h1, isInts_kept L _ _ _ h2 hb⟩
def MomIs (day mi o s f t : Int) (L : List Int) (E : Int) : Prop := L = (if zok o s f t && knownB day && decide (0 ≤ mi) && decide (mi ≤ 1439) then momL day mi o s f t else []) ∧ E = (if zok o s f t then (if knownB day && decide (0 ≤ mi) && decide (mi ≤ 1439) then 0 else 5) else 1)
theorem momL_len (day mi o s f t : Int) : (momL day mi o s f t).length ≤ 2 := by
  unfold momL
  have a := tryL_len (1440 * day + mi - o - s) day mi o s f t []
  have b := tryL_len (1440 * day + mi - o) day mi o s f t (tryL (1440 * day + mi - o - s) day mi o s f t [])
  simp only [List.length_nil] at a
  omega
theorem MomIs.len {day mi o s f t : Int} {L : List Int} {E : Int} (h : MomIs day mi o s f t L E) : L.length ≤ 2 := by
  rw [h.1]; split
  · exact momL_len _ _ _ _ _ _
  · simp
theorem mom_v (day mi o s f t : Int) {L : List Int} {E : Int} (w : World) (h : Hid (MomIs day mi o s f t L E)) :
    Calls Tryd.prog 29 #[.int .i64 day, .int .i64 mi, .agg #[.int .i64 o, .int .i64 s, .int .i64 f, .int .i64 t]] w fun e w' => ∃ v, e = .returned v ∧ IsRes L E v w' ∧ Below w.heap.size w w' := by
  obtain ⟨h1, h2⟩ := h.out
  rw [h1, h2]
  exact (moments_any day mi o s f t w).mono fun e w' ⟨A, c, he, hI, hb⟩ => ⟨_, he, ⟨_, rfl, A, c, rfl, hI⟩, hb⟩
theorem rMom_v (day mi o s f t : Int) {L : List Int} {E : Int} (w : World) (h : Hid (MomIs day mi o s f t L E)) :
    Calls Tryd.prog 30 #[.int .i64 day, .int .i64 mi, .agg #[.int .i64 o, .int .i64 s, .int .i64 f, .int .i64 t]] w fun e w' => ∃ v, e = .returned v ∧ IsRes L E v w' ∧ Below w.heap.size w w' := by
  obtain ⟨h1, h2⟩ := h.out
  rw [h1, h2]
  exact (rMoments_any day mi o s f t w).mono fun e w' ⟨A, c, he, hI, hb⟩ => ⟨_, he, ⟨_, rfl, A, c, rfl, hI⟩, hb⟩
set_option maxRecDepth 10000 in
set_option maxHeartbeats 8000000 in
theorem local_x (n minute moment o s f t : Int) (A : Option Addr) (nl c : Nat) (l : List Int) (w : World) (ht : TEnv w) (hl : Ints w w.heap.size A nl l) (hA : AllI l) (hc : nl ≤ 9223372036854775807) (hn : inI n) (hmi : inI minute) (hmo : inI moment) :
    Calls Tryd.prog 5 #[.int .i64 n, .slice A nl c, .agg #[.int .i64 o, .int .i64 s, .int .i64 f, .int .i64 t], .int .i64 minute, .int .i64 moment] w fun e w' => e = .returned (.bool true) ∧ Below w.heap.size w w' := by
  obtain ⟨n1, n2⟩ := hn; obtain ⟨k1, k2⟩ := hmi; obtain ⟨m1, m2⟩ := hmo
  have hsz := ht.sz
  obtain ⟨s1, s2⟩ := som_known n
  have a1 := around_bd minute 1440 (by omega)
  have a2 := around_bd minute 20 (by omega)
  have hl1 := Reads.alloc hl (Nat.le_refl _) (.cells #[.int .i64 o, .int .i64 s, .int .i64 f, .int .i64 t] 39)
  have hb := Below.refl (w.heap.size + 1) (w.alloc (.cells #[.int .i64 o, .int .i64 s, .int .i64 f, .int .i64 t] 39))
  have HT0 := Lib.hid ht
  have HI0 := Lib.hid hl1
  clear ht hl hl1
  go_enter Tryd.func5, Tryd.ntmps5
  go_wp2_with (first
    | (go_at_call 10; refine (some_any _ _ (by omega) (by omega)).mono ?_; rintro e w1 ⟨rfl, hb1⟩; have hb := step_box hb hb1; clear hb1)
    | (go_at_call 17; refine (around_any _ _ _ (by omega) (by omega)).mono ?_; rintro e w' ⟨rfl, rfl⟩))
  have HB := Lib.hid hb
  clear hb
  apply wp_region_typed (C := fun w' => Below (w.heap.size + 1) (w.alloc (.cells #[.int .i64 o, .int .i64 s, .int .i64 f, .int .i64 t] 39)) w') (n := 154) (m := 6) (l1 := [_, _, _, _, _, _]) (l2 := [])
  · rfl
  · rfl
  · kernel_rfl
  · rfl
  · kernel_rfl
  · exact HB.out.trans ⟨rfl, rfl, rfl, Nat.le_refl _, fun _ _ => rfl⟩
  · exact fun u u' h hb => h.trans (hb.mono (by have := h.size; simpa using this))
  (apply wpT_exact; · (intro w' hC hf; unfold Gives; clear hf hC; go_wp2_with (fail); apply postT_val rfl (Below.refl _ _); simp only [valAt, Array.getD_eq_getD_getElem?, List.getElem?_toArray, List.getElem?_cons_succ, List.getElem?_cons_zero, Option.getD_some]; exact rfl)); (try simp only [Act.put, List.setIfInBounds_toArray, List.set_cons_zero, List.set_cons_succ])
  apply wpT_exact
  · intro w' hC hf; unfold Gives
    have hI' := Reads.more (Reads.below HI0.out (hC.mono (Nat.le_succ _))) (B' := w'.heap.size) (by have := hC.size; simp only [World.size_alloc] at this; omega)
    clear hf hC; go_wp2_with (go_at_call 25; refine (zones_any _ _ _ l _ hI' hA hc).mono ?_; rintro e w2 ⟨rfl, hb2⟩)
    apply postT_val rfl hb2; simp only [valAt, Array.getD_eq_getD_getElem?, List.getElem?_toArray, List.getElem?_cons_succ, List.getElem?_cons_zero, Option.getD_some]; exact rfl
  (try simp only [Act.put, List.setIfInBounds_toArray, List.set_cons_zero, List.set_cons_succ])
  apply wpT_exact
  · intro w' hC hf; unfold Gives
    clear hf hC; go_wp2_with (go_at_call 24; refine (own_any _ _ _ _ _).mono ?_; rintro e w2 ⟨rfl, hb2⟩)
    apply postT_val rfl hb2; simp only [valAt, Array.getD_eq_getD_getElem?, List.getElem?_toArray, List.getElem?_cons_succ, List.getElem?_cons_zero, Option.getD_some]; exact rfl
  (try simp only [Act.put, List.setIfInBounds_toArray, List.set_cons_zero, List.set_cons_succ])
  apply wpT_exact
  · intro w' hC hf; unfold Gives
    have hz := (Blk.new w 39 #[.int .i64 o, .int .i64 s, .int .i64 f, .int .i64 t]).below hC (Nat.lt_succ_self _)
    have c0 : w'.cell? ⟨w.heap.size, 0, none⟩ = some (.int .i64 o) := hz.cell 0
    have c1 : w'.cell? ⟨w.heap.size, 1, none⟩ = some (.int .i64 s) := hz.cell 1
    have c2 : w'.cell? ⟨w.heap.size, 2, none⟩ = some (.int .i64 f) := hz.cell 2
    have c3 : w'.cell? ⟨w.heap.size, 3, none⟩ = some (.int .i64 t) := hz.cell 3
    clear hf hC hz; go_wp2_with fail
    apply postT_val rfl (Below.refl _ _); simp only [valAt, Array.getD_eq_getD_getElem?, List.getElem?_toArray, List.getElem?_cons_succ, List.getElem?_cons_zero, Option.getD_some]; exact rfl
  (try simp only [Act.put, List.setIfInBounds_toArray, List.set_cons_zero, List.set_cons_succ])
  apply wpT_typed (slBlk_kept 2 39 #[.int .i64 (znO l), .int .i64 (znS l), .int .i64 (znF l), .int .i64 (znT l), .int .i64 o, .int .i64 s, .int .i64 f, .int .i64 t])
  · intro w' hC hf; unfold Gives; clear hf hC; go_wp2; apply postT_mk rfl (by go_grown); simp only [valAt, Array.getD_eq_getD_getElem?, List.getElem?_toArray, List.getElem?_cons_succ, List.getElem?_cons_zero, Option.getD_some]; exact ⟨_, rfl, Blk.new _ _ _⟩
  intro v38; (try simp only [Act.put, List.setIfInBounds_toArray, List.set_cons_zero, List.set_cons_succ])
  apply wpT_typed (slBlk_kept 2 39 #[.int .i64 (znO l), .int .i64 (znS l), .int .i64 (znF l), .int .i64 (znT l), .int .i64 o, .int .i64 s, .int .i64 f, .int .i64 t])
  · intro w' hC hf; unfold Gives; have hT := hf.1 rfl; clear hf hC; go_wp2; apply postT_mk rfl (Below.refl _ _); simp only [valAt, Array.getD_eq_getD_getElem?, List.getElem?_toArray, List.getElem?_cons_succ, List.getElem?_cons_zero, Option.getD_some]; exact hT
  intro v13; (try simp only [Act.put, List.setIfInBounds_toArray, List.set_cons_zero, List.set_cons_succ])
  apply wpT_done
  intro w2 hC hf
  obtain ⟨gz, rfl, hz⟩ := hf.1
  clear hf HB
  have HB := Lib.hid (of_box hC)
  have HZ := Lib.hid hz
  clear hC hz
  go_wp2_with (go_at_call 17; refine (around_any _ _ _ (by omega) (by omega)).mono ?_; rintro e w' ⟨rfl, rfl⟩)
  have x1 : inI (1440 * som n + around minute 1440) := ⟨by omega, by omega⟩
  have x3 : inI (1440 * som n - 900 + around minute 20) := ⟨by omega, by omega⟩
  have hX := Blk.new w2 3 #[.int .i64 (1440 * som n + around minute 1440), .int .i64 moment, .int .i64 (1440 * som n - 900 + around minute 20)]
  have hzW := HZ.out.alloc (.cells #[.int .i64 (1440 * som n + around minute 1440), .int .i64 moment, .int .i64 (1440 * som n - 900 + around minute 20)] 3)
  have hbW := HB.out.alloc (HB.out.size) (.cells #[.int .i64 (1440 * som n + around minute 1440), .int .i64 moment, .int .i64 (1440 * som n - 900 + around minute 20)] 3)
  generalize 1440 * som n + around minute 1440 = X0 at *
  generalize 1440 * som n - 900 + around minute 20 = X2 at *
  obtain ⟨gx, hgx⟩ : ∃ g, g = w2.heap.size := ⟨_, rfl⟩
  rw [← hgx] at hX ⊢
  obtain ⟨W, hW⟩ : ∃ W : World, W = w2.alloc (.cells #[.int .i64 X0, .int .i64 moment, .int .i64 X2] 3) := ⟨_, rfl⟩
  rw [← hW] at hX hzW hbW ⊢
  have HX : Hid (∀ k, k < 3 → ∃ x, inI x ∧ ∀ w', Below W.heap.size W w' → w'.cell? ⟨gx, k, none⟩ = some (.int .i64 x)) := by
    intro k hk
    have hcell := fun w' (hb : Below W.heap.size W w') => (hX.below hb hX.lt).cell k
    match k, hk with
    | 0, _ => exact ⟨_, x1, hcell⟩
    | 1, _ => exact ⟨_, ⟨m1, m2⟩, hcell⟩
    | 2, _ => exact ⟨_, x3, hcell⟩
  have HZW := Lib.hid hzW; have HBW := Lib.hid hbW
  clear hX hzW hbW hgx hW x1 x3 HB HZ
  go_loopw [15] (fun iv wr => (iv = .int .i64 0 ∨ iv = .int .i64 1 ∨ iv = .int .i64 2) ∧ Below W.heap.size W wr) (fun iv _ => 2 - (intOf iv).toNat)
  case atStart => exact ⟨.inl rfl, Below.refl _ _⟩
  case round =>
    obtain ⟨hi, hr⟩ := hrel
    have HR := Lib.hid hr
    clear hr
    rcases hi with rfl | rfl | rfl
    rotate_right
    · have hb := HBW.out.trans (HR.out.mono HBW.out.size)
      have ht := HT0.out.below hb hsz
      go_wp2_with (go_at_call 20; refine (lives_any _ ht).mono ?_; rintro e w9 ⟨rfl, hb9⟩)
      go_ret
      exact ⟨rfl, hb.trans (hb9.mono hb.size)⟩
    · obtain ⟨O, S, F, T, HC⟩ : ∃ O S F T : Int, Hid (∀ w', Below W.heap.size W w' → w'.cell? ⟨gz, 0, none⟩ = some (.int .i64 O) ∧ w'.cell? ⟨gz, 1, none⟩ = some (.int .i64 S) ∧ w'.cell? ⟨gz, 2, none⟩ = some (.int .i64 F) ∧ w'.cell? ⟨gz, 3, none⟩ = some (.int .i64 T)) :=
        ⟨_, _, _, _, fun w' hb => ⟨(HZW.out.below hb HZW.out.lt).cell 0, (HZW.out.below hb HZW.out.lt).cell 1, (HZW.out.below hb HZW.out.lt).cell 2, (HZW.out.below hb HZW.out.lt).cell 3⟩⟩
      go_wp2_with (fail)
      have hr := HR.out
      clear HR
      obtain ⟨wo, rfl⟩ : ∃ wo : World, wo = wr := ⟨_, rfl⟩
      go_loopw [16] (fun iv wr => ∃ k : Nat, k ≤ 3 ∧ iv = .int .i64 k ∧ Below W.heap.size W wr) (fun iv _ => 3 - (intOf iv).toNat)
      case atStart => exact ⟨0, by omega, rfl, hr⟩
      case round =>
        obtain ⟨k, hk, rfl, hrc⟩ := hrel
        have HRC := Lib.hid hrc
        clear hrc hr
        by_cases hlt : k < 3
        · have hp : (k : Int) < 3 := by omega
          have hp0 : 0 ≤ (k : Int) := by omega
          obtain ⟨x, hx, hxc⟩ := HX.out k hlt
          obtain ⟨xa, xb⟩ := hx
          have HXK := Lib.hid hxc
          clear hxc
          go_wp2_with (fail)
          obtain ⟨wc, rfl⟩ : ∃ wc : World, wc = wr := ⟨_, rfl⟩
          apply wp_region_typed (C := fun w' => Below wc.heap.size wc w') (n := 154) (m := 16) (l1 := [_, _, _, _, _, _, _, _, _, _, _, _, _, _, _, _]) (l2 := [])
          · rfl
          · rfl
          · kernel_rfl
          · rfl
          · kernel_rfl
          · exact ⟨rfl, rfl, rfl, Nat.le_refl _, fun _ _ => rfl⟩
          · exact fun u u' h hb => h.trans (hb.mono h.size)
          (apply wpT_exact; · (intro w' hC hf; unfold Gives; obtain ⟨z0, z1, z2, z3⟩ := HC.out w' (HRC.out.trans (hC.mono HRC.out.size)); have q0 := HXK.out w' (HRC.out.trans (hC.mono HRC.out.size)); clear hf hC; go_wp2_with (fail); apply postT_val rfl (Below.refl _ _); simp only [valAt, Array.getD_eq_getD_getElem?, List.getElem?_toArray, List.getElem?_cons_succ, List.getElem?_cons_zero, Option.getD_some]; exact rfl)); (try simp only [Act.put, List.setIfInBounds_toArray, List.set_cons_zero, List.set_cons_succ])
          (apply wpT_exact; · (intro w' hC hf; unfold Gives; obtain ⟨z0, z1, z2, z3⟩ := HC.out w' (HRC.out.trans (hC.mono HRC.out.size)); have q0 := HXK.out w' (HRC.out.trans (hC.mono HRC.out.size)); clear hf hC; go_wp2_with (fail); apply postT_val rfl (Below.refl _ _); simp only [valAt, Array.getD_eq_getD_getElem?, List.getElem?_toArray, List.getElem?_cons_succ, List.getElem?_cons_zero, Option.getD_some]; exact rfl)); (try simp only [Act.put, List.setIfInBounds_toArray, List.set_cons_zero, List.set_cons_succ])
          (apply wpT_exact; · (intro w' hC hf; unfold Gives; obtain ⟨z0, z1, z2, z3⟩ := HC.out w' (HRC.out.trans (hC.mono HRC.out.size)); have q0 := HXK.out w' (HRC.out.trans (hC.mono HRC.out.size)); clear hf hC; go_wp2_with (fail); apply postT_val rfl (Below.refl _ _); simp only [valAt, Array.getD_eq_getD_getElem?, List.getElem?_toArray, List.getElem?_cons_succ, List.getElem?_cons_zero, Option.getD_some]; exact rfl)); (try simp only [Act.put, List.setIfInBounds_toArray, List.set_cons_zero, List.set_cons_succ])
          (apply wpT_exact; · (intro w' hC hf; unfold Gives; obtain ⟨z0, z1, z2, z3⟩ := HC.out w' (HRC.out.trans (hC.mono HRC.out.size)); have q0 := HXK.out w' (HRC.out.trans (hC.mono HRC.out.size)); clear hf hC; go_wp2_with (fail); apply postT_val rfl (Below.refl _ _); simp only [valAt, Array.getD_eq_getD_getElem?, List.getElem?_toArray, List.getElem?_cons_succ, List.getElem?_cons_zero, Option.getD_some]; exact rfl)); (try simp only [Act.put, List.setIfInBounds_toArray, List.set_cons_zero, List.set_cons_succ])
          (apply wpT_exact; · (intro w' hC hf; unfold Gives; obtain ⟨z0, z1, z2, z3⟩ := HC.out w' (HRC.out.trans (hC.mono HRC.out.size)); have q0 := HXK.out w' (HRC.out.trans (hC.mono HRC.out.size)); clear hf hC; go_wp2_with (fail); apply postT_val rfl (Below.refl _ _); simp only [valAt, Array.getD_eq_getD_getElem?, List.getElem?_toArray, List.getElem?_cons_succ, List.getElem?_cons_zero, Option.getD_some]; exact rfl)); (try simp only [Act.put, List.setIfInBounds_toArray, List.set_cons_zero, List.set_cons_succ])
          (apply wpT_exact; · (intro w' hC hf; unfold Gives; obtain ⟨z0, z1, z2, z3⟩ := HC.out w' (HRC.out.trans (hC.mono HRC.out.size)); have q0 := HXK.out w' (HRC.out.trans (hC.mono HRC.out.size)); clear hf hC; go_wp2_with (fail); apply postT_val rfl (Below.refl _ _); simp only [valAt, Array.getD_eq_getD_getElem?, List.getElem?_toArray, List.getElem?_cons_succ, List.getElem?_cons_zero, Option.getD_some]; exact rfl)); (try simp only [Act.put, List.setIfInBounds_toArray, List.set_cons_zero, List.set_cons_succ])
          (apply wpT_exact; · (intro w' hC hf; unfold Gives; obtain ⟨z0, z1, z2, z3⟩ := HC.out w' (HRC.out.trans (hC.mono HRC.out.size)); have q0 := HXK.out w' (HRC.out.trans (hC.mono HRC.out.size)); clear hf hC; go_wp2_with (fail); apply postT_val rfl (Below.refl _ _); simp only [valAt, Array.getD_eq_getD_getElem?, List.getElem?_toArray, List.getElem?_cons_succ, List.getElem?_cons_zero, Option.getD_some]; exact rfl)); (try simp only [Act.put, List.setIfInBounds_toArray, List.set_cons_zero, List.set_cons_succ])
          (apply wpT_exact; · (intro w' hC hf; unfold Gives; obtain ⟨z0, z1, z2, z3⟩ := HC.out w' (HRC.out.trans (hC.mono HRC.out.size)); have q0 := HXK.out w' (HRC.out.trans (hC.mono HRC.out.size)); clear hf hC; go_wp2_with (fail); apply postT_val rfl (Below.refl _ _); simp only [valAt, Array.getD_eq_getD_getElem?, List.getElem?_toArray, List.getElem?_cons_succ, List.getElem?_cons_zero, Option.getD_some]; exact rfl)); (try simp only [Act.put, List.setIfInBounds_toArray, List.set_cons_zero, List.set_cons_succ])
          apply wpT_exact
          · intro w' hC hf; unfold Gives; clear hf hC
            go_wp2_with (go_at_call 26; refine (local_any _ _ _ _ _ _ (by omega) (by omega)).mono ?_; rintro e w2 ⟨rfl, hb2⟩)
            apply postT_val rfl hb2; simp only [valAt, Array.getD_eq_getD_getElem?, List.getElem?_toArray, List.getElem?_cons_succ, List.getElem?_cons_zero, Option.getD_some]; exact rfl
          (try simp only [Act.put, List.setIfInBounds_toArray, List.set_cons_zero, List.set_cons_succ])
          (apply wpT_exact; · (intro w' hC hf; unfold Gives; clear hf hC; go_wp2_with (fail); apply postT_val rfl (Below.refl _ _); simp only [valAt, Array.getD_eq_getD_getElem?, List.getElem?_toArray, List.getElem?_cons_succ, List.getElem?_cons_zero, Option.getD_some]; exact rfl)); (try simp only [Act.put, List.setIfInBounds_toArray, List.set_cons_zero, List.set_cons_succ])
          (apply wpT_exact; · (intro w' hC hf; unfold Gives; clear hf hC; go_wp2_with (fail); apply postT_val rfl (Below.refl _ _); simp only [valAt, Array.getD_eq_getD_getElem?, List.getElem?_toArray, List.getElem?_cons_succ, List.getElem?_cons_zero, Option.getD_some]; exact rfl)); (try simp only [Act.put, List.setIfInBounds_toArray, List.set_cons_zero, List.set_cons_succ])
          (apply wpT_exact; · (intro w' hC hf; unfold Gives; clear hf hC; go_wp2_with (fail); apply postT_val rfl (Below.refl _ _); simp only [valAt, Array.getD_eq_getD_getElem?, List.getElem?_toArray, List.getElem?_cons_succ, List.getElem?_cons_zero, Option.getD_some]; exact rfl)); (try simp only [Act.put, List.setIfInBounds_toArray, List.set_cons_zero, List.set_cons_succ])
          (apply wpT_exact; · (intro w' hC hf; unfold Gives; clear hf hC; go_wp2_with (fail); apply postT_val rfl (Below.refl _ _); simp only [valAt, Array.getD_eq_getD_getElem?, List.getElem?_toArray, List.getElem?_cons_succ, List.getElem?_cons_zero, Option.getD_some]; exact rfl)); (try simp only [Act.put, List.setIfInBounds_toArray, List.set_cons_zero, List.set_cons_succ])
          (apply wpT_exact; · (intro w' hC hf; unfold Gives; clear hf hC; go_wp2_with (fail); apply postT_val rfl (Below.refl _ _); simp only [valAt, Array.getD_eq_getD_getElem?, List.getElem?_toArray, List.getElem?_cons_succ, List.getElem?_cons_zero, Option.getD_some]; exact rfl)); (try simp only [Act.put, List.setIfInBounds_toArray, List.set_cons_zero, List.set_cons_succ])
          (apply wpT_exact; · (intro w' hC hf; unfold Gives; clear hf hC; go_wp2_with (fail); apply postT_val rfl (Below.refl _ _); simp only [valAt, Array.getD_eq_getD_getElem?, List.getElem?_toArray, List.getElem?_cons_succ, List.getElem?_cons_zero, Option.getD_some]; exact rfl)); (try simp only [Act.put, List.setIfInBounds_toArray, List.set_cons_zero, List.set_cons_succ])
          (apply wpT_exact; · (intro w' hC hf; unfold Gives; clear hf hC; go_wp2_with (fail); apply postT_val rfl (Below.refl _ _); simp only [valAt, Array.getD_eq_getD_getElem?, List.getElem?_toArray, List.getElem?_cons_succ, List.getElem?_cons_zero, Option.getD_some]; exact rfl)); (try simp only [Act.put, List.setIfInBounds_toArray, List.set_cons_zero, List.set_cons_succ])
          apply wpT_done
          intro w3 hC _
          have HRC := Lib.hid (HRC.out.trans (hC.mono HRC.out.size))
          clear hC
          go_wp2_with (fail)
          obtain ⟨wc, rfl⟩ : ∃ wc : World, wc = w3 := ⟨_, rfl⟩
          apply wp_region_typed (C := fun w' => Below wc.heap.size wc w') (n := 154) (m := 17) (l1 := [_, _, _, _, _, _, _, _, _, _, _, _, _, _, _, _, _]) (l2 := [])
          · rfl
          · rfl
          · kernel_rfl
          · rfl
          · kernel_rfl
          · exact ⟨rfl, rfl, rfl, Nat.le_refl _, fun _ _ => rfl⟩
          · exact fun u u' h hb => h.trans (hb.mono h.size)
          (apply wpT_exact; · (intro w' hC hf; unfold Gives; obtain ⟨z0, z1, z2, z3⟩ := HC.out w' (HRC.out.trans (hC.mono HRC.out.size)); have q0 := HXK.out w' (HRC.out.trans (hC.mono HRC.out.size)); clear hf hC; go_wp2_with (fail); apply postT_val rfl (Below.refl _ _); simp only [valAt, Array.getD_eq_getD_getElem?, List.getElem?_toArray, List.getElem?_cons_succ, List.getElem?_cons_zero, Option.getD_some]; exact rfl)); (try simp only [Act.put, List.setIfInBounds_toArray, List.set_cons_zero, List.set_cons_succ])
          (apply wpT_exact; · (intro w' hC hf; unfold Gives; obtain ⟨z0, z1, z2, z3⟩ := HC.out w' (HRC.out.trans (hC.mono HRC.out.size)); have q0 := HXK.out w' (HRC.out.trans (hC.mono HRC.out.size)); clear hf hC; go_wp2_with (fail); apply postT_val rfl (Below.refl _ _); simp only [valAt, Array.getD_eq_getD_getElem?, List.getElem?_toArray, List.getElem?_cons_succ, List.getElem?_cons_zero, Option.getD_some]; exact rfl)); (try simp only [Act.put, List.setIfInBounds_toArray, List.set_cons_zero, List.set_cons_succ])
          (apply wpT_exact; · (intro w' hC hf; unfold Gives; obtain ⟨z0, z1, z2, z3⟩ := HC.out w' (HRC.out.trans (hC.mono HRC.out.size)); have q0 := HXK.out w' (HRC.out.trans (hC.mono HRC.out.size)); clear hf hC; go_wp2_with (fail); apply postT_val rfl (Below.refl _ _); simp only [valAt, Array.getD_eq_getD_getElem?, List.getElem?_toArray, List.getElem?_cons_succ, List.getElem?_cons_zero, Option.getD_some]; exact rfl)); (try simp only [Act.put, List.setIfInBounds_toArray, List.set_cons_zero, List.set_cons_succ])
          (apply wpT_exact; · (intro w' hC hf; unfold Gives; obtain ⟨z0, z1, z2, z3⟩ := HC.out w' (HRC.out.trans (hC.mono HRC.out.size)); have q0 := HXK.out w' (HRC.out.trans (hC.mono HRC.out.size)); clear hf hC; go_wp2_with (fail); apply postT_val rfl (Below.refl _ _); simp only [valAt, Array.getD_eq_getD_getElem?, List.getElem?_toArray, List.getElem?_cons_succ, List.getElem?_cons_zero, Option.getD_some]; exact rfl)); (try simp only [Act.put, List.setIfInBounds_toArray, List.set_cons_zero, List.set_cons_succ])
          (apply wpT_exact; · (intro w' hC hf; unfold Gives; obtain ⟨z0, z1, z2, z3⟩ := HC.out w' (HRC.out.trans (hC.mono HRC.out.size)); have q0 := HXK.out w' (HRC.out.trans (hC.mono HRC.out.size)); clear hf hC; go_wp2_with (fail); apply postT_val rfl (Below.refl _ _); simp only [valAt, Array.getD_eq_getD_getElem?, List.getElem?_toArray, List.getElem?_cons_succ, List.getElem?_cons_zero, Option.getD_some]; exact rfl)); (try simp only [Act.put, List.setIfInBounds_toArray, List.set_cons_zero, List.set_cons_succ])
          (apply wpT_exact; · (intro w' hC hf; unfold Gives; obtain ⟨z0, z1, z2, z3⟩ := HC.out w' (HRC.out.trans (hC.mono HRC.out.size)); have q0 := HXK.out w' (HRC.out.trans (hC.mono HRC.out.size)); clear hf hC; go_wp2_with (fail); apply postT_val rfl (Below.refl _ _); simp only [valAt, Array.getD_eq_getD_getElem?, List.getElem?_toArray, List.getElem?_cons_succ, List.getElem?_cons_zero, Option.getD_some]; exact rfl)); (try simp only [Act.put, List.setIfInBounds_toArray, List.set_cons_zero, List.set_cons_succ])
          (apply wpT_exact; · (intro w' hC hf; unfold Gives; obtain ⟨z0, z1, z2, z3⟩ := HC.out w' (HRC.out.trans (hC.mono HRC.out.size)); have q0 := HXK.out w' (HRC.out.trans (hC.mono HRC.out.size)); clear hf hC; go_wp2_with (fail); apply postT_val rfl (Below.refl _ _); simp only [valAt, Array.getD_eq_getD_getElem?, List.getElem?_toArray, List.getElem?_cons_succ, List.getElem?_cons_zero, Option.getD_some]; exact rfl)); (try simp only [Act.put, List.setIfInBounds_toArray, List.set_cons_zero, List.set_cons_succ])
          (apply wpT_exact; · (intro w' hC hf; unfold Gives; obtain ⟨z0, z1, z2, z3⟩ := HC.out w' (HRC.out.trans (hC.mono HRC.out.size)); have q0 := HXK.out w' (HRC.out.trans (hC.mono HRC.out.size)); clear hf hC; go_wp2_with (fail); apply postT_val rfl (Below.refl _ _); simp only [valAt, Array.getD_eq_getD_getElem?, List.getElem?_toArray, List.getElem?_cons_succ, List.getElem?_cons_zero, Option.getD_some]; exact rfl)); (try simp only [Act.put, List.setIfInBounds_toArray, List.set_cons_zero, List.set_cons_succ])
          apply wpT_exact
          · intro w' hC hf; unfold Gives; clear hf hC
            go_wp2_with (go_at_call 28; refine (plain_any _ _ _ _ _).mono ?_; rintro e w2 ⟨rfl, hb2⟩)
            apply postT_val rfl hb2; simp only [valAt, Array.getD_eq_getD_getElem?, List.getElem?_toArray, List.getElem?_cons_succ, List.getElem?_cons_zero, Option.getD_some]; exact rfl
          (try simp only [Act.put, List.setIfInBounds_toArray, List.set_cons_zero, List.set_cons_succ])
          apply wpT_exact
          · intro w' hC hf; unfold Gives; clear hf hC
            go_wp2_with (go_at_call 27; refine (rLocal_any _ _ _ _ _ _ (by omega) (by omega)).mono ?_; rintro e w2 ⟨rfl, hb2⟩)
            apply postT_val rfl hb2; simp only [valAt, Array.getD_eq_getD_getElem?, List.getElem?_toArray, List.getElem?_cons_succ, List.getElem?_cons_zero, Option.getD_some]; exact rfl
          (try simp only [Act.put, List.setIfInBounds_toArray, List.set_cons_zero, List.set_cons_succ])
          (apply wpT_exact; · (intro w' hC hf; unfold Gives; clear hf hC; go_wp2_with (fail); apply postT_val rfl (Below.refl _ _); simp only [valAt, Array.getD_eq_getD_getElem?, List.getElem?_toArray, List.getElem?_cons_succ, List.getElem?_cons_zero, Option.getD_some]; exact rfl)); (try simp only [Act.put, List.setIfInBounds_toArray, List.set_cons_zero, List.set_cons_succ])
          (apply wpT_exact; · (intro w' hC hf; unfold Gives; clear hf hC; go_wp2_with (fail); apply postT_val rfl (Below.refl _ _); simp only [valAt, Array.getD_eq_getD_getElem?, List.getElem?_toArray, List.getElem?_cons_succ, List.getElem?_cons_zero, Option.getD_some]; exact rfl)); (try simp only [Act.put, List.setIfInBounds_toArray, List.set_cons_zero, List.set_cons_succ])
          (apply wpT_exact; · (intro w' hC hf; unfold Gives; clear hf hC; go_wp2_with (fail); apply postT_val rfl (Below.refl _ _); simp only [valAt, Array.getD_eq_getD_getElem?, List.getElem?_toArray, List.getElem?_cons_succ, List.getElem?_cons_zero, Option.getD_some]; exact rfl)); (try simp only [Act.put, List.setIfInBounds_toArray, List.set_cons_zero, List.set_cons_succ])
          (apply wpT_exact; · (intro w' hC hf; unfold Gives; clear hf hC; go_wp2_with (fail); apply postT_val rfl (Below.refl _ _); simp only [valAt, Array.getD_eq_getD_getElem?, List.getElem?_toArray, List.getElem?_cons_succ, List.getElem?_cons_zero, Option.getD_some]; exact rfl)); (try simp only [Act.put, List.setIfInBounds_toArray, List.set_cons_zero, List.set_cons_succ])
          (apply wpT_exact; · (intro w' hC hf; unfold Gives; clear hf hC; go_wp2_with (fail); apply postT_val rfl (Below.refl _ _); simp only [valAt, Array.getD_eq_getD_getElem?, List.getElem?_toArray, List.getElem?_cons_succ, List.getElem?_cons_zero, Option.getD_some]; exact rfl)); (try simp only [Act.put, List.setIfInBounds_toArray, List.set_cons_zero, List.set_cons_succ])
          (apply wpT_exact; · (intro w' hC hf; unfold Gives; clear hf hC; go_wp2_with (fail); apply postT_val rfl (Below.refl _ _); simp only [valAt, Array.getD_eq_getD_getElem?, List.getElem?_toArray, List.getElem?_cons_succ, List.getElem?_cons_zero, Option.getD_some]; exact rfl)); (try simp only [Act.put, List.setIfInBounds_toArray, List.set_cons_zero, List.set_cons_succ])
          (apply wpT_exact; · (intro w' hC hf; unfold Gives; clear hf hC; go_wp2_with (fail); apply postT_val rfl (Below.refl _ _); simp only [valAt, Array.getD_eq_getD_getElem?, List.getElem?_toArray, List.getElem?_cons_succ, List.getElem?_cons_zero, Option.getD_some]; exact rfl)); (try simp only [Act.put, List.setIfInBounds_toArray, List.set_cons_zero, List.set_cons_succ])
          apply wpT_done
          intro w3 hC _
          have HRC := Lib.hid (HRC.out.trans (hC.mono HRC.out.size))
          clear hC
          go_wp2_with (fail)
          go_roundw
          case rel => exact ⟨k + 1, by omega, by go_num, HRC.out⟩
          case measure => simp [intOf]; omega
        · have e3 : (k : Int) = 3 := by omega
          rw [e3]
          clear e3 hlt
          have hr := HRC.out
          clear HRC
          go_wp2_with (fail)
          have hD := (Blk.new wr 3 #[.int .i64 (som n), .int .i64 moment, .int .i64 (som n)]).alloc (.cells #[.int .i64 (around minute 1440), .int .i64 (around minute 1440), .int .i64 minute] 3)
          have hMm := Blk.new (wr.alloc (.cells #[.int .i64 (som n), .int .i64 moment, .int .i64 (som n)] 3)) 3 #[.int .i64 (around minute 1440), .int .i64 (around minute 1440), .int .i64 minute]
          have hWD := (hr.alloc hr.size (.cells #[.int .i64 (som n), .int .i64 moment, .int .i64 (som n)] 3)).alloc (by have := hr.size; simp only [World.size_alloc]; omega) (.cells #[.int .i64 (around minute 1440), .int .i64 (around minute 1440), .int .i64 minute] 3)
          simp only [World.size_alloc] at hMm
          obtain ⟨gd, hgd⟩ : ∃ g, g = wr.heap.size := ⟨_, rfl⟩
          rw [← hgd] at hD hMm ⊢
          obtain ⟨wd, hwd⟩ : ∃ wd : World, wd = (wr.alloc (.cells #[.int .i64 (som n), .int .i64 moment, .int .i64 (som n)] 3)).alloc (.cells #[.int .i64 (around minute 1440), .int .i64 (around minute 1440), .int .i64 minute] 3) := ⟨_, rfl⟩
          rw [← hwd] at hD hMm hWD ⊢
          have HD : Hid (∀ k, k < 3 → ∃ d m, ∀ w', Below wd.heap.size wd w' → w'.cell? ⟨gd, k, none⟩ = some (.int .i64 d) ∧ w'.cell? ⟨gd + 1, k, none⟩ = some (.int .i64 m)) := by
            intro k hk
            have hcell := fun w' (hb : Below wd.heap.size wd w') => And.intro ((hD.below hb hD.lt).cell k) ((hMm.below hb hMm.lt).cell k)
            match k, hk with
            | 0, _ => exact ⟨_, _, hcell⟩
            | 1, _ => exact ⟨_, _, hcell⟩
            | 2, _ => exact ⟨_, _, hcell⟩
          have HWD := Lib.hid hWD
          clear hD hMm hWD hwd hgd hr
          go_loopw [25] (fun iv wr => ∃ k : Nat, k ≤ 3 ∧ iv = .int .i64 k ∧ Below wd.heap.size wd wr) (fun iv _ => 3 - (intOf iv).toNat)
          case atStart => exact ⟨0, by omega, rfl, Below.refl _ _⟩
          case round =>
            obtain ⟨k, hk, rfl, hrc⟩ := hrel
            have HRC := Lib.hid hrc
            clear hrc
            by_cases hlt : k < 3
            · have hp : (k : Int) < 3 := by omega
              have hp0 : 0 ≤ (k : Int) := by omega
              obtain ⟨d, m, hdk⟩ := HD.out k hlt
              have HDK := Lib.hid hdk
              clear hdk
              obtain ⟨ML, ME, HM⟩ : ∃ (ML : List Int) (ME : Int), Hid (MomIs d m O S F T ML ME) := ⟨_, _, rfl, rfl⟩
              have hML := HM.out.len
              go_wp2_with (fail)
              obtain ⟨wc, rfl⟩ : ∃ wc : World, wc = wr := ⟨_, rfl⟩
              apply wp_region_typed (C := fun w' => Below wc.heap.size wc w') (n := 154) (m := 18) (l1 := [_, _, _, _, _, _, _, _, _, _, _, _, _, _, _, _, _, _]) (l2 := [])
              · rfl
              · rfl
              · kernel_rfl
              · rfl
              · kernel_rfl
              · exact ⟨rfl, rfl, rfl, Nat.le_refl _, fun _ _ => rfl⟩
              · exact fun u u' h hb => h.trans (hb.mono h.size)
              (apply wpT_exact; · (intro w' hC hf; unfold Gives; obtain ⟨z0, z1, z2, z3⟩ := HC.out w' (HWD.out.trans ((HRC.out.trans (hC.mono HRC.out.size)).mono HWD.out.size)); obtain ⟨q0, q1⟩ := HDK.out w' (HRC.out.trans (hC.mono HRC.out.size)); clear hf hC; go_wp2_with (fail); apply postT_val rfl (Below.refl _ _); simp only [valAt, Array.getD_eq_getD_getElem?, List.getElem?_toArray, List.getElem?_cons_succ, List.getElem?_cons_zero, Option.getD_some]; exact rfl)); (try simp only [Act.put, List.setIfInBounds_toArray, List.set_cons_zero, List.set_cons_succ])
              (apply wpT_exact; · (intro w' hC hf; unfold Gives; obtain ⟨z0, z1, z2, z3⟩ := HC.out w' (HWD.out.trans ((HRC.out.trans (hC.mono HRC.out.size)).mono HWD.out.size)); obtain ⟨q0, q1⟩ := HDK.out w' (HRC.out.trans (hC.mono HRC.out.size)); clear hf hC; go_wp2_with (fail); apply postT_val rfl (Below.refl _ _); simp only [valAt, Array.getD_eq_getD_getElem?, List.getElem?_toArray, List.getElem?_cons_succ, List.getElem?_cons_zero, Option.getD_some]; exact rfl)); (try simp only [Act.put, List.setIfInBounds_toArray, List.set_cons_zero, List.set_cons_succ])
              (apply wpT_exact; · (intro w' hC hf; unfold Gives; obtain ⟨z0, z1, z2, z3⟩ := HC.out w' (HWD.out.trans ((HRC.out.trans (hC.mono HRC.out.size)).mono HWD.out.size)); obtain ⟨q0, q1⟩ := HDK.out w' (HRC.out.trans (hC.mono HRC.out.size)); clear hf hC; go_wp2_with (fail); apply postT_val rfl (Below.refl _ _); simp only [valAt, Array.getD_eq_getD_getElem?, List.getElem?_toArray, List.getElem?_cons_succ, List.getElem?_cons_zero, Option.getD_some]; exact rfl)); (try simp only [Act.put, List.setIfInBounds_toArray, List.set_cons_zero, List.set_cons_succ])
              (apply wpT_exact; · (intro w' hC hf; unfold Gives; obtain ⟨z0, z1, z2, z3⟩ := HC.out w' (HWD.out.trans ((HRC.out.trans (hC.mono HRC.out.size)).mono HWD.out.size)); obtain ⟨q0, q1⟩ := HDK.out w' (HRC.out.trans (hC.mono HRC.out.size)); clear hf hC; go_wp2_with (fail); apply postT_val rfl (Below.refl _ _); simp only [valAt, Array.getD_eq_getD_getElem?, List.getElem?_toArray, List.getElem?_cons_succ, List.getElem?_cons_zero, Option.getD_some]; exact rfl)); (try simp only [Act.put, List.setIfInBounds_toArray, List.set_cons_zero, List.set_cons_succ])
              (apply wpT_exact; · (intro w' hC hf; unfold Gives; obtain ⟨z0, z1, z2, z3⟩ := HC.out w' (HWD.out.trans ((HRC.out.trans (hC.mono HRC.out.size)).mono HWD.out.size)); obtain ⟨q0, q1⟩ := HDK.out w' (HRC.out.trans (hC.mono HRC.out.size)); clear hf hC; go_wp2_with (fail); apply postT_val rfl (Below.refl _ _); simp only [valAt, Array.getD_eq_getD_getElem?, List.getElem?_toArray, List.getElem?_cons_succ, List.getElem?_cons_zero, Option.getD_some]; exact rfl)); (try simp only [Act.put, List.setIfInBounds_toArray, List.set_cons_zero, List.set_cons_succ])
              (apply wpT_exact; · (intro w' hC hf; unfold Gives; obtain ⟨z0, z1, z2, z3⟩ := HC.out w' (HWD.out.trans ((HRC.out.trans (hC.mono HRC.out.size)).mono HWD.out.size)); obtain ⟨q0, q1⟩ := HDK.out w' (HRC.out.trans (hC.mono HRC.out.size)); clear hf hC; go_wp2_with (fail); apply postT_val rfl (Below.refl _ _); simp only [valAt, Array.getD_eq_getD_getElem?, List.getElem?_toArray, List.getElem?_cons_succ, List.getElem?_cons_zero, Option.getD_some]; exact rfl)); (try simp only [Act.put, List.setIfInBounds_toArray, List.set_cons_zero, List.set_cons_succ])
              (apply wpT_exact; · (intro w' hC hf; unfold Gives; obtain ⟨z0, z1, z2, z3⟩ := HC.out w' (HWD.out.trans ((HRC.out.trans (hC.mono HRC.out.size)).mono HWD.out.size)); obtain ⟨q0, q1⟩ := HDK.out w' (HRC.out.trans (hC.mono HRC.out.size)); clear hf hC; go_wp2_with (fail); apply postT_val rfl (Below.refl _ _); simp only [valAt, Array.getD_eq_getD_getElem?, List.getElem?_toArray, List.getElem?_cons_succ, List.getElem?_cons_zero, Option.getD_some]; exact rfl)); (try simp only [Act.put, List.setIfInBounds_toArray, List.set_cons_zero, List.set_cons_succ])
              (apply wpT_exact; · (intro w' hC hf; unfold Gives; obtain ⟨z0, z1, z2, z3⟩ := HC.out w' (HWD.out.trans ((HRC.out.trans (hC.mono HRC.out.size)).mono HWD.out.size)); obtain ⟨q0, q1⟩ := HDK.out w' (HRC.out.trans (hC.mono HRC.out.size)); clear hf hC; go_wp2_with (fail); apply postT_val rfl (Below.refl _ _); simp only [valAt, Array.getD_eq_getD_getElem?, List.getElem?_toArray, List.getElem?_cons_succ, List.getElem?_cons_zero, Option.getD_some]; exact rfl)); (try simp only [Act.put, List.setIfInBounds_toArray, List.set_cons_zero, List.set_cons_succ])
              (apply wpT_exact; · (intro w' hC hf; unfold Gives; obtain ⟨z0, z1, z2, z3⟩ := HC.out w' (HWD.out.trans ((HRC.out.trans (hC.mono HRC.out.size)).mono HWD.out.size)); obtain ⟨q0, q1⟩ := HDK.out w' (HRC.out.trans (hC.mono HRC.out.size)); clear hf hC; go_wp2_with (fail); apply postT_val rfl (Below.refl _ _); simp only [valAt, Array.getD_eq_getD_getElem?, List.getElem?_toArray, List.getElem?_cons_succ, List.getElem?_cons_zero, Option.getD_some]; exact rfl)); (try simp only [Act.put, List.setIfInBounds_toArray, List.set_cons_zero, List.set_cons_succ])
              (apply wpT_exact; · (intro w' hC hf; unfold Gives; obtain ⟨z0, z1, z2, z3⟩ := HC.out w' (HWD.out.trans ((HRC.out.trans (hC.mono HRC.out.size)).mono HWD.out.size)); obtain ⟨q0, q1⟩ := HDK.out w' (HRC.out.trans (hC.mono HRC.out.size)); clear hf hC; go_wp2_with (fail); apply postT_val rfl (Below.refl _ _); simp only [valAt, Array.getD_eq_getD_getElem?, List.getElem?_toArray, List.getElem?_cons_succ, List.getElem?_cons_zero, Option.getD_some]; exact rfl)); (try simp only [Act.put, List.setIfInBounds_toArray, List.set_cons_zero, List.set_cons_succ])
              (apply wpT_exact; · (intro w' hC hf; unfold Gives; obtain ⟨z0, z1, z2, z3⟩ := HC.out w' (HWD.out.trans ((HRC.out.trans (hC.mono HRC.out.size)).mono HWD.out.size)); obtain ⟨q0, q1⟩ := HDK.out w' (HRC.out.trans (hC.mono HRC.out.size)); clear hf hC; go_wp2_with (fail); apply postT_val rfl (Below.refl _ _); simp only [valAt, Array.getD_eq_getD_getElem?, List.getElem?_toArray, List.getElem?_cons_succ, List.getElem?_cons_zero, Option.getD_some]; exact rfl)); (try simp only [Act.put, List.setIfInBounds_toArray, List.set_cons_zero, List.set_cons_succ])
              (apply wpT_exact; · (intro w' hC hf; unfold Gives; obtain ⟨z0, z1, z2, z3⟩ := HC.out w' (HWD.out.trans ((HRC.out.trans (hC.mono HRC.out.size)).mono HWD.out.size)); obtain ⟨q0, q1⟩ := HDK.out w' (HRC.out.trans (hC.mono HRC.out.size)); clear hf hC; go_wp2_with (fail); apply postT_val rfl (Below.refl _ _); simp only [valAt, Array.getD_eq_getD_getElem?, List.getElem?_toArray, List.getElem?_cons_succ, List.getElem?_cons_zero, Option.getD_some]; exact rfl)); (try simp only [Act.put, List.setIfInBounds_toArray, List.set_cons_zero, List.set_cons_succ])
              apply wpT_typed (isRes_kept ML ME)
              · intro w' hC hf; unfold Gives; clear hf hC
                go_wp2_with (go_at_call 29; refine (mom_v _ _ _ _ _ _ _ HM).mono ?_; rintro e w2 ⟨v, rfl, hv, hb2⟩)
                apply postT_mk rfl hb2; simp only [valAt, Array.getD_eq_getD_getElem?, List.getElem?_toArray, List.getElem?_cons_succ, List.getElem?_cons_zero, Option.getD_some]; exact hv
              intro vr; (try simp only [Act.put, List.setIfInBounds_toArray, List.set_cons_zero, List.set_cons_succ])
              apply wpT_typed (isRes_kept ML ME)
              · intro w' hC hf; unfold Gives; have hT := hf.1 rfl; clear hf hC; go_wp2; apply postT_mk rfl (Below.refl _ _); simp only [valAt, Array.getD_eq_getD_getElem?, List.getElem?_toArray, List.getElem?_cons_succ, List.getElem?_cons_zero, Option.getD_some]; exact hT
              intro vm; (try simp only [Act.put, List.setIfInBounds_toArray, List.set_cons_zero, List.set_cons_succ])
              apply wpT_typed (isInts_kept ML)
              · intro w' hC hf; unfold Gives; obtain ⟨u, rfl, hu⟩ := hf.1 rfl; clear hf hC; go_wp2; apply postT_mk rfl (Below.refl _ _); simp only [valAt, Array.getD_eq_getD_getElem?, List.getElem?_toArray, List.getElem?_cons_succ, List.getElem?_cons_zero, Option.getD_some]; exact hu
              intro v0; (try simp only [Act.put, List.setIfInBounds_toArray, List.set_cons_zero, List.set_cons_succ])
              apply wpT_exact
              · intro w' hC hf; unfold Gives; obtain ⟨u, rfl, hu⟩ := hf.2.1 rfl; clear hf hC; go_wp2; apply postT_val rfl (Below.refl _ _); simp only [valAt, Array.getD_eq_getD_getElem?, List.getElem?_toArray, List.getElem?_cons_succ, List.getElem?_cons_zero, Option.getD_some]; exact rfl
              (try simp only [Act.put, List.setIfInBounds_toArray, List.set_cons_zero, List.set_cons_succ])
              apply wpT_typed (isInts_kept ML)
              · intro w' hC hf; unfold Gives; have hT := hf.1 rfl; clear hf hC; go_wp2; apply postT_mk rfl (Below.refl _ _); simp only [valAt, Array.getD_eq_getD_getElem?, List.getElem?_toArray, List.getElem?_cons_succ, List.getElem?_cons_zero, Option.getD_some]; exact hT
              intro vs; (try simp only [Act.put, List.setIfInBounds_toArray, List.set_cons_zero, List.set_cons_succ])
              (apply wpT_exact; · (intro w' hC hf; unfold Gives; clear hf hC; go_wp2_with (fail); apply postT_val rfl (Below.refl _ _); simp only [valAt, Array.getD_eq_getD_getElem?, List.getElem?_toArray, List.getElem?_cons_succ, List.getElem?_cons_zero, Option.getD_some]; exact rfl)); (try simp only [Act.put, List.setIfInBounds_toArray, List.set_cons_zero, List.set_cons_succ])
              apply wpT_done
              intro w3 hC hf
              have hv := hf.1
              clear hf
              obtain ⟨A1, c1, rfl, hI1⟩ := hv
              have HRC := Lib.hid (HRC.out.trans (hC.mono HRC.out.size))
              have HI1 := Lib.hid hI1
              clear hC hI1
              go_wp2_with (fail)
              obtain ⟨wc, rfl⟩ : ∃ wc : World, wc = w3 := ⟨_, rfl⟩
              apply wp_region_typed (C := fun w' => Below wc.heap.size wc w') (n := 154) (m := 19) (l1 := [_, _, _, _, _, _, _, _, _, _, _, _, _, _, _, _, _, _, _]) (l2 := [])
              · rfl
              · rfl
              · kernel_rfl
              · rfl
              · kernel_rfl
              · exact ⟨rfl, rfl, rfl, Nat.le_refl _, fun _ _ => rfl⟩
              · exact fun u u' h hb => h.trans (hb.mono h.size)
              (apply wpT_exact; · (intro w' hC hf; unfold Gives; obtain ⟨z0, z1, z2, z3⟩ := HC.out w' (HWD.out.trans ((HRC.out.trans (hC.mono HRC.out.size)).mono HWD.out.size)); obtain ⟨q0, q1⟩ := HDK.out w' (HRC.out.trans (hC.mono HRC.out.size)); clear hf hC; go_wp2_with (fail); apply postT_val rfl (Below.refl _ _); simp only [valAt, Array.getD_eq_getD_getElem?, List.getElem?_toArray, List.getElem?_cons_succ, List.getElem?_cons_zero, Option.getD_some]; exact rfl)); (try simp only [Act.put, List.setIfInBounds_toArray, List.set_cons_zero, List.set_cons_succ])
              (apply wpT_exact; · (intro w' hC hf; unfold Gives; obtain ⟨z0, z1, z2, z3⟩ := HC.out w' (HWD.out.trans ((HRC.out.trans (hC.mono HRC.out.size)).mono HWD.out.size)); obtain ⟨q0, q1⟩ := HDK.out w' (HRC.out.trans (hC.mono HRC.out.size)); clear hf hC; go_wp2_with (fail); apply postT_val rfl (Below.refl _ _); simp only [valAt, Array.getD_eq_getD_getElem?, List.getElem?_toArray, List.getElem?_cons_succ, List.getElem?_cons_zero, Option.getD_some]; exact rfl)); (try simp only [Act.put, List.setIfInBounds_toArray, List.set_cons_zero, List.set_cons_succ])
              (apply wpT_exact; · (intro w' hC hf; unfold Gives; obtain ⟨z0, z1, z2, z3⟩ := HC.out w' (HWD.out.trans ((HRC.out.trans (hC.mono HRC.out.size)).mono HWD.out.size)); obtain ⟨q0, q1⟩ := HDK.out w' (HRC.out.trans (hC.mono HRC.out.size)); clear hf hC; go_wp2_with (fail); apply postT_val rfl (Below.refl _ _); simp only [valAt, Array.getD_eq_getD_getElem?, List.getElem?_toArray, List.getElem?_cons_succ, List.getElem?_cons_zero, Option.getD_some]; exact rfl)); (try simp only [Act.put, List.setIfInBounds_toArray, List.set_cons_zero, List.set_cons_succ])
              (apply wpT_exact; · (intro w' hC hf; unfold Gives; obtain ⟨z0, z1, z2, z3⟩ := HC.out w' (HWD.out.trans ((HRC.out.trans (hC.mono HRC.out.size)).mono HWD.out.size)); obtain ⟨q0, q1⟩ := HDK.out w' (HRC.out.trans (hC.mono HRC.out.size)); clear hf hC; go_wp2_with (fail); apply postT_val rfl (Below.refl _ _); simp only [valAt, Array.getD_eq_getD_getElem?, List.getElem?_toArray, List.getElem?_cons_succ, List.getElem?_cons_zero, Option.getD_some]; exact rfl)); (try simp only [Act.put, List.setIfInBounds_toArray, List.set_cons_zero, List.set_cons_succ])
              (apply wpT_exact; · (intro w' hC hf; unfold Gives; obtain ⟨z0, z1, z2, z3⟩ := HC.out w' (HWD.out.trans ((HRC.out.trans (hC.mono HRC.out.size)).mono HWD.out.size)); obtain ⟨q0, q1⟩ := HDK.out w' (HRC.out.trans (hC.mono HRC.out.size)); clear hf hC; go_wp2_with (fail); apply postT_val rfl (Below.refl _ _); simp only [valAt, Array.getD_eq_getD_getElem?, List.getElem?_toArray, List.getElem?_cons_succ, List.getElem?_cons_zero, Option.getD_some]; exact rfl)); (try simp only [Act.put, List.setIfInBounds_toArray, List.set_cons_zero, List.set_cons_succ])
              (apply wpT_exact; · (intro w' hC hf; unfold Gives; obtain ⟨z0, z1, z2, z3⟩ := HC.out w' (HWD.out.trans ((HRC.out.trans (hC.mono HRC.out.size)).mono HWD.out.size)); obtain ⟨q0, q1⟩ := HDK.out w' (HRC.out.trans (hC.mono HRC.out.size)); clear hf hC; go_wp2_with (fail); apply postT_val rfl (Below.refl _ _); simp only [valAt, Array.getD_eq_getD_getElem?, List.getElem?_toArray, List.getElem?_cons_succ, List.getElem?_cons_zero, Option.getD_some]; exact rfl)); (try simp only [Act.put, List.setIfInBounds_toArray, List.set_cons_zero, List.set_cons_succ])
              (apply wpT_exact; · (intro w' hC hf; unfold Gives; obtain ⟨z0, z1, z2, z3⟩ := HC.out w' (HWD.out.trans ((HRC.out.trans (hC.mono HRC.out.size)).mono HWD.out.size)); obtain ⟨q0, q1⟩ := HDK.out w' (HRC.out.trans (hC.mono HRC.out.size)); clear hf hC; go_wp2_with (fail); apply postT_val rfl (Below.refl _ _); simp only [valAt, Array.getD_eq_getD_getElem?, List.getElem?_toArray, List.getElem?_cons_succ, List.getElem?_cons_zero, Option.getD_some]; exact rfl)); (try simp only [Act.put, List.setIfInBounds_toArray, List.set_cons_zero, List.set_cons_succ])
              (apply wpT_exact; · (intro w' hC hf; unfold Gives; obtain ⟨z0, z1, z2, z3⟩ := HC.out w' (HWD.out.trans ((HRC.out.trans (hC.mono HRC.out.size)).mono HWD.out.size)); obtain ⟨q0, q1⟩ := HDK.out w' (HRC.out.trans (hC.mono HRC.out.size)); clear hf hC; go_wp2_with (fail); apply postT_val rfl (Below.refl _ _); simp only [valAt, Array.getD_eq_getD_getElem?, List.getElem?_toArray, List.getElem?_cons_succ, List.getElem?_cons_zero, Option.getD_some]; exact rfl)); (try simp only [Act.put, List.setIfInBounds_toArray, List.set_cons_zero, List.set_cons_succ])
              (apply wpT_exact; · (intro w' hC hf; unfold Gives; obtain ⟨z0, z1, z2, z3⟩ := HC.out w' (HWD.out.trans ((HRC.out.trans (hC.mono HRC.out.size)).mono HWD.out.size)); obtain ⟨q0, q1⟩ := HDK.out w' (HRC.out.trans (hC.mono HRC.out.size)); clear hf hC; go_wp2_with (fail); apply postT_val rfl (Below.refl _ _); simp only [valAt, Array.getD_eq_getD_getElem?, List.getElem?_toArray, List.getElem?_cons_succ, List.getElem?_cons_zero, Option.getD_some]; exact rfl)); (try simp only [Act.put, List.setIfInBounds_toArray, List.set_cons_zero, List.set_cons_succ])
              (apply wpT_exact; · (intro w' hC hf; unfold Gives; obtain ⟨z0, z1, z2, z3⟩ := HC.out w' (HWD.out.trans ((HRC.out.trans (hC.mono HRC.out.size)).mono HWD.out.size)); obtain ⟨q0, q1⟩ := HDK.out w' (HRC.out.trans (hC.mono HRC.out.size)); clear hf hC; go_wp2_with (fail); apply postT_val rfl (Below.refl _ _); simp only [valAt, Array.getD_eq_getD_getElem?, List.getElem?_toArray, List.getElem?_cons_succ, List.getElem?_cons_zero, Option.getD_some]; exact rfl)); (try simp only [Act.put, List.setIfInBounds_toArray, List.set_cons_zero, List.set_cons_succ])
              (apply wpT_exact; · (intro w' hC hf; unfold Gives; obtain ⟨z0, z1, z2, z3⟩ := HC.out w' (HWD.out.trans ((HRC.out.trans (hC.mono HRC.out.size)).mono HWD.out.size)); obtain ⟨q0, q1⟩ := HDK.out w' (HRC.out.trans (hC.mono HRC.out.size)); clear hf hC; go_wp2_with (fail); apply postT_val rfl (Below.refl _ _); simp only [valAt, Array.getD_eq_getD_getElem?, List.getElem?_toArray, List.getElem?_cons_succ, List.getElem?_cons_zero, Option.getD_some]; exact rfl)); (try simp only [Act.put, List.setIfInBounds_toArray, List.set_cons_zero, List.set_cons_succ])
              (apply wpT_exact; · (intro w' hC hf; unfold Gives; obtain ⟨z0, z1, z2, z3⟩ := HC.out w' (HWD.out.trans ((HRC.out.trans (hC.mono HRC.out.size)).mono HWD.out.size)); obtain ⟨q0, q1⟩ := HDK.out w' (HRC.out.trans (hC.mono HRC.out.size)); clear hf hC; go_wp2_with (fail); apply postT_val rfl (Below.refl _ _); simp only [valAt, Array.getD_eq_getD_getElem?, List.getElem?_toArray, List.getElem?_cons_succ, List.getElem?_cons_zero, Option.getD_some]; exact rfl)); (try simp only [Act.put, List.setIfInBounds_toArray, List.set_cons_zero, List.set_cons_succ])
              apply wpT_exact
              · intro w' hC hf; unfold Gives; clear hf hC
                go_wp2_with (go_at_call 28; refine (plain_any _ _ _ _ _).mono ?_; rintro e w2 ⟨rfl, hb2⟩)
                apply postT_val rfl hb2; simp only [valAt, Array.getD_eq_getD_getElem?, List.getElem?_toArray, List.getElem?_cons_succ, List.getElem?_cons_zero, Option.getD_some]; exact rfl
              (try simp only [Act.put, List.setIfInBounds_toArray, List.set_cons_zero, List.set_cons_succ])
              apply wpT_typed (isRes_kept ML ME)
              · intro w' hC hf; unfold Gives; clear hf hC
                go_wp2_with (go_at_call 30; refine (rMom_v _ _ _ _ _ _ _ HM).mono ?_; rintro e w2 ⟨v, rfl, hv, hb2⟩)
                apply postT_mk rfl hb2; simp only [valAt, Array.getD_eq_getD_getElem?, List.getElem?_toArray, List.getElem?_cons_succ, List.getElem?_cons_zero, Option.getD_some]; exact hv
              intro vr; (try simp only [Act.put, List.setIfInBounds_toArray, List.set_cons_zero, List.set_cons_succ])
              apply wpT_typed (isRes_kept ML ME)
              · intro w' hC hf; unfold Gives; have hT := hf.1 rfl; clear hf hC; go_wp2; apply postT_mk rfl (Below.refl _ _); simp only [valAt, Array.getD_eq_getD_getElem?, List.getElem?_toArray, List.getElem?_cons_succ, List.getElem?_cons_zero, Option.getD_some]; exact hT
              intro vm; (try simp only [Act.put, List.setIfInBounds_toArray, List.set_cons_zero, List.set_cons_succ])
              apply wpT_typed (isInts_kept ML)
              · intro w' hC hf; unfold Gives; obtain ⟨u, rfl, hu⟩ := hf.1 rfl; clear hf hC; go_wp2; apply postT_mk rfl (Below.refl _ _); simp only [valAt, Array.getD_eq_getD_getElem?, List.getElem?_toArray, List.getElem?_cons_succ, List.getElem?_cons_zero, Option.getD_some]; exact hu
              intro v0; (try simp only [Act.put, List.setIfInBounds_toArray, List.set_cons_zero, List.set_cons_succ])
              apply wpT_exact
              · intro w' hC hf; unfold Gives; obtain ⟨u, rfl, hu⟩ := hf.2.1 rfl; clear hf hC; go_wp2; apply postT_val rfl (Below.refl _ _); simp only [valAt, Array.getD_eq_getD_getElem?, List.getElem?_toArray, List.getElem?_cons_succ, List.getElem?_cons_zero, Option.getD_some]; exact rfl
              (try simp only [Act.put, List.setIfInBounds_toArray, List.set_cons_zero, List.set_cons_succ])
              apply wpT_typed (isInts_kept ML)
              · intro w' hC hf; unfold Gives; have hT := hf.1 rfl; clear hf hC; go_wp2; apply postT_mk rfl (Below.refl _ _); simp only [valAt, Array.getD_eq_getD_getElem?, List.getElem?_toArray, List.getElem?_cons_succ, List.getElem?_cons_zero, Option.getD_some]; exact hT
              intro vs; (try simp only [Act.put, List.setIfInBounds_toArray, List.set_cons_zero, List.set_cons_succ])
              (apply wpT_exact; · (intro w' hC hf; unfold Gives; clear hf hC; go_wp2_with (fail); apply postT_val rfl (Below.refl _ _); simp only [valAt, Array.getD_eq_getD_getElem?, List.getElem?_toArray, List.getElem?_cons_succ, List.getElem?_cons_zero, Option.getD_some]; exact rfl)); (try simp only [Act.put, List.setIfInBounds_toArray, List.set_cons_zero, List.set_cons_succ])
              apply wpT_done
              intro w4 hC hf
              have hv := hf.1
              clear hf
              obtain ⟨A2, c2, rfl, hI2⟩ := hv
              have hI1 := Reads.below HI1.out hC
              have HRC := Lib.hid (HRC.out.trans (hC.mono HRC.out.size))
              clear hC HI1
              have hbz := Below.refl w4.heap.size w4
              go_wp2_with (go_at_call 31; refine (sameInts_self _ _ _ _ _ _ _ _ _ hI1 hI2 (by omega)).mono ?_; rintro e w5 ⟨rfl, hb5⟩; have hbz := hbz.trans hb5)
              go_roundw
              case rel => exact ⟨k + 1, by omega, by go_num, HRC.out.trans (hbz.mono HRC.out.size)⟩
              case measure => simp [intOf]; omega
            · obtain rfl : k = 3 := by omega
              have hr := HWD.out.trans (HRC.out.mono HWD.out.size)
              clear HRC
              go_wp2_with (fail)
              go_roundw
              case rel => exact ⟨.inr (.inl rfl), hr⟩
              case measure => simp [intOf]
    · obtain ⟨O, S, F, T, HC⟩ : ∃ O S F T : Int, Hid (∀ w', Below W.heap.size W w' → w'.cell? ⟨gz, 4, none⟩ = some (.int .i64 O) ∧ w'.cell? ⟨gz, 5, none⟩ = some (.int .i64 S) ∧ w'.cell? ⟨gz, 6, none⟩ = some (.int .i64 F) ∧ w'.cell? ⟨gz, 7, none⟩ = some (.int .i64 T)) :=
        ⟨_, _, _, _, fun w' hb => ⟨(HZW.out.below hb HZW.out.lt).cell 4, (HZW.out.below hb HZW.out.lt).cell 5, (HZW.out.below hb HZW.out.lt).cell 6, (HZW.out.below hb HZW.out.lt).cell 7⟩⟩
      go_wp2_with (fail)
      have hr := HR.out
      clear HR
      obtain ⟨wo, rfl⟩ : ∃ wo : World, wo = wr := ⟨_, rfl⟩
      go_loopw [16] (fun iv wr => ∃ k : Nat, k ≤ 3 ∧ iv = .int .i64 k ∧ Below W.heap.size W wr) (fun iv _ => 3 - (intOf iv).toNat)
      case atStart => exact ⟨0, by omega, rfl, hr⟩
      case round =>
        obtain ⟨k, hk, rfl, hrc⟩ := hrel
        have HRC := Lib.hid hrc
        clear hrc hr
        by_cases hlt : k < 3
        · have hp : (k : Int) < 3 := by omega
          have hp0 : 0 ≤ (k : Int) := by omega
          obtain ⟨x, hx, hxc⟩ := HX.out k hlt
          obtain ⟨xa, xb⟩ := hx
          have HXK := Lib.hid hxc
          clear hxc
          go_wp2_with (fail)
          obtain ⟨wc, rfl⟩ : ∃ wc : World, wc = wr := ⟨_, rfl⟩
          apply wp_region_typed (C := fun w' => Below wc.heap.size wc w') (n := 154) (m := 16) (l1 := [_, _, _, _, _, _, _, _, _, _, _, _, _, _, _, _]) (l2 := [])
          · rfl
          · rfl
          · kernel_rfl
          · rfl
          · kernel_rfl
          · exact ⟨rfl, rfl, rfl, Nat.le_refl _, fun _ _ => rfl⟩
          · exact fun u u' h hb => h.trans (hb.mono h.size)
          (apply wpT_exact; · (intro w' hC hf; unfold Gives; obtain ⟨z0, z1, z2, z3⟩ := HC.out w' (HRC.out.trans (hC.mono HRC.out.size)); have q0 := HXK.out w' (HRC.out.trans (hC.mono HRC.out.size)); clear hf hC; go_wp2_with (fail); apply postT_val rfl (Below.refl _ _); simp only [valAt, Array.getD_eq_getD_getElem?, List.getElem?_toArray, List.getElem?_cons_succ, List.getElem?_cons_zero, Option.getD_some]; exact rfl)); (try simp only [Act.put, List.setIfInBounds_toArray, List.set_cons_zero, List.set_cons_succ])
          (apply wpT_exact; · (intro w' hC hf; unfold Gives; obtain ⟨z0, z1, z2, z3⟩ := HC.out w' (HRC.out.trans (hC.mono HRC.out.size)); have q0 := HXK.out w' (HRC.out.trans (hC.mono HRC.out.size)); clear hf hC; go_wp2_with (fail); apply postT_val rfl (Below.refl _ _); simp only [valAt, Array.getD_eq_getD_getElem?, List.getElem?_toArray, List.getElem?_cons_succ, List.getElem?_cons_zero, Option.getD_some]; exact rfl)); (try simp only [Act.put, List.setIfInBounds_toArray, List.set_cons_zero, List.set_cons_succ])
          (apply wpT_exact; · (intro w' hC hf; unfold Gives; obtain ⟨z0, z1, z2, z3⟩ := HC.out w' (HRC.out.trans (hC.mono HRC.out.size)); have q0 := HXK.out w' (HRC.out.trans (hC.mono HRC.out.size)); clear hf hC; go_wp2_with (fail); apply postT_val rfl (Below.refl _ _); simp only [valAt, Array.getD_eq_getD_getElem?, List.getElem?_toArray, List.getElem?_cons_succ, List.getElem?_cons_zero, Option.getD_some]; exact rfl)); (try simp only [Act.put, List.setIfInBounds_toArray, List.set_cons_zero, List.set_cons_succ])
          (apply wpT_exact; · (intro w' hC hf; unfold Gives; obtain ⟨z0, z1, z2, z3⟩ := HC.out w' (HRC.out.trans (hC.mono HRC.out.size)); have q0 := HXK.out w' (HRC.out.trans (hC.mono HRC.out.size)); clear hf hC; go_wp2_with (fail); apply postT_val rfl (Below.refl _ _); simp only [valAt, Array.getD_eq_getD_getElem?, List.getElem?_toArray, List.getElem?_cons_succ, List.getElem?_cons_zero, Option.getD_some]; exact rfl)); (try simp only [Act.put, List.setIfInBounds_toArray, List.set_cons_zero, List.set_cons_succ])
          (apply wpT_exact; · (intro w' hC hf; unfold Gives; obtain ⟨z0, z1, z2, z3⟩ := HC.out w' (HRC.out.trans (hC.mono HRC.out.size)); have q0 := HXK.out w' (HRC.out.trans (hC.mono HRC.out.size)); clear hf hC; go_wp2_with (fail); apply postT_val rfl (Below.refl _ _); simp only [valAt, Array.getD_eq_getD_getElem?, List.getElem?_toArray, List.getElem?_cons_succ, List.getElem?_cons_zero, Option.getD_some]; exact rfl)); (try simp only [Act.put, List.setIfInBounds_toArray, List.set_cons_zero, List.set_cons_succ])
          (apply wpT_exact; · (intro w' hC hf; unfold Gives; obtain ⟨z0, z1, z2, z3⟩ := HC.out w' (HRC.out.trans (hC.mono HRC.out.size)); have q0 := HXK.out w' (HRC.out.trans (hC.mono HRC.out.size)); clear hf hC; go_wp2_with (fail); apply postT_val rfl (Below.refl _ _); simp only [valAt, Array.getD_eq_getD_getElem?, List.getElem?_toArray, List.getElem?_cons_succ, List.getElem?_cons_zero, Option.getD_some]; exact rfl)); (try simp only [Act.put, List.setIfInBounds_toArray, List.set_cons_zero, List.set_cons_succ])
          (apply wpT_exact; · (intro w' hC hf; unfold Gives; obtain ⟨z0, z1, z2, z3⟩ := HC.out w' (HRC.out.trans (hC.mono HRC.out.size)); have q0 := HXK.out w' (HRC.out.trans (hC.mono HRC.out.size)); clear hf hC; go_wp2_with (fail); apply postT_val rfl (Below.refl _ _); simp only [valAt, Array.getD_eq_getD_getElem?, List.getElem?_toArray, List.getElem?_cons_succ, List.getElem?_cons_zero, Option.getD_some]; exact rfl)); (try simp only [Act.put, List.setIfInBounds_toArray, List.set_cons_zero, List.set_cons_succ])
          (apply wpT_exact; · (intro w' hC hf; unfold Gives; obtain ⟨z0, z1, z2, z3⟩ := HC.out w' (HRC.out.trans (hC.mono HRC.out.size)); have q0 := HXK.out w' (HRC.out.trans (hC.mono HRC.out.size)); clear hf hC; go_wp2_with (fail); apply postT_val rfl (Below.refl _ _); simp only [valAt, Array.getD_eq_getD_getElem?, List.getElem?_toArray, List.getElem?_cons_succ, List.getElem?_cons_zero, Option.getD_some]; exact rfl)); (try simp only [Act.put, List.setIfInBounds_toArray, List.set_cons_zero, List.set_cons_succ])
          apply wpT_exact
          · intro w' hC hf; unfold Gives; clear hf hC
            go_wp2_with (go_at_call 26; refine (local_any _ _ _ _ _ _ (by omega) (by omega)).mono ?_; rintro e w2 ⟨rfl, hb2⟩)
            apply postT_val rfl hb2; simp only [valAt, Array.getD_eq_getD_getElem?, List.getElem?_toArray, List.getElem?_cons_succ, List.getElem?_cons_zero, Option.getD_some]; exact rfl
          (try simp only [Act.put, List.setIfInBounds_toArray, List.set_cons_zero, List.set_cons_succ])
          (apply wpT_exact; · (intro w' hC hf; unfold Gives; clear hf hC; go_wp2_with (fail); apply postT_val rfl (Below.refl _ _); simp only [valAt, Array.getD_eq_getD_getElem?, List.getElem?_toArray, List.getElem?_cons_succ, List.getElem?_cons_zero, Option.getD_some]; exact rfl)); (try simp only [Act.put, List.setIfInBounds_toArray, List.set_cons_zero, List.set_cons_succ])
          (apply wpT_exact; · (intro w' hC hf; unfold Gives; clear hf hC; go_wp2_with (fail); apply postT_val rfl (Below.refl _ _); simp only [valAt, Array.getD_eq_getD_getElem?, List.getElem?_toArray, List.getElem?_cons_succ, List.getElem?_cons_zero, Option.getD_some]; exact rfl)); (try simp only [Act.put, List.setIfInBounds_toArray, List.set_cons_zero, List.set_cons_succ])
          (apply wpT_exact; · (intro w' hC hf; unfold Gives; clear hf hC; go_wp2_with (fail); apply postT_val rfl (Below.refl _ _); simp only [valAt, Array.getD_eq_getD_getElem?, List.getElem?_toArray, List.getElem?_cons_succ, List.getElem?_cons_zero, Option.getD_some]; exact rfl)); (try simp only [Act.put, List.setIfInBounds_toArray, List.set_cons_zero, List.set_cons_succ])
          (apply wpT_exact; · (intro w' hC hf; unfold Gives; clear hf hC; go_wp2_with (fail); apply postT_val rfl (Below.refl _ _); simp only [valAt, Array.getD_eq_getD_getElem?, List.getElem?_toArray, List.getElem?_cons_succ, List.getElem?_cons_zero, Option.getD_some]; exact rfl)); (try simp only [Act.put, List.setIfInBounds_toArray, List.set_cons_zero, List.set_cons_succ])
          (apply wpT_exact; · (intro w' hC hf; unfold Gives; clear hf hC; go_wp2_with (fail); apply postT_val rfl (Below.refl _ _); simp only [valAt, Array.getD_eq_getD_getElem?, List.getElem?_toArray, List.getElem?_cons_succ, List.getElem?_cons_zero, Option.getD_some]; exact rfl)); (try simp only [Act.put, List.setIfInBounds_toArray, List.set_cons_zero, List.set_cons_succ])
          (apply wpT_exact; · (intro w' hC hf; unfold Gives; clear hf hC; go_wp2_with (fail); apply postT_val rfl (Below.refl _ _); simp only [valAt, Array.getD_eq_getD_getElem?, List.getElem?_toArray, List.getElem?_cons_succ, List.getElem?_cons_zero, Option.getD_some]; exact rfl)); (try simp only [Act.put, List.setIfInBounds_toArray, List.set_cons_zero, List.set_cons_succ])
          (apply wpT_exact; · (intro w' hC hf; unfold Gives; clear hf hC; go_wp2_with (fail); apply postT_val rfl (Below.refl _ _); simp only [valAt, Array.getD_eq_getD_getElem?, List.getElem?_toArray, List.getElem?_cons_succ, List.getElem?_cons_zero, Option.getD_some]; exact rfl)); (try simp only [Act.put, List.setIfInBounds_toArray, List.set_cons_zero, List.set_cons_succ])
          apply wpT_done
          intro w3 hC _
          have HRC := Lib.hid (HRC.out.trans (hC.mono HRC.out.size))
          clear hC
          go_wp2_with (fail)
          obtain ⟨wc, rfl⟩ : ∃ wc : World, wc = w3 := ⟨_, rfl⟩
          apply wp_region_typed (C := fun w' => Below wc.heap.size wc w') (n := 154) (m := 17) (l1 := [_, _, _, _, _, _, _, _, _, _, _, _, _, _, _, _, _]) (l2 := [])
          · rfl
          · rfl
          · kernel_rfl
          · rfl
          · kernel_rfl
          · exact ⟨rfl, rfl, rfl, Nat.le_refl _, fun _ _ => rfl⟩
          · exact fun u u' h hb => h.trans (hb.mono h.size)
          (apply wpT_exact; · (intro w' hC hf; unfold Gives; obtain ⟨z0, z1, z2, z3⟩ := HC.out w' (HRC.out.trans (hC.mono HRC.out.size)); have q0 := HXK.out w' (HRC.out.trans (hC.mono HRC.out.size)); clear hf hC; go_wp2_with (fail); apply postT_val rfl (Below.refl _ _); simp only [valAt, Array.getD_eq_getD_getElem?, List.getElem?_toArray, List.getElem?_cons_succ, List.getElem?_cons_zero, Option.getD_some]; exact rfl)); (try simp only [Act.put, List.setIfInBounds_toArray, List.set_cons_zero, List.set_cons_succ])
          (apply wpT_exact; · (intro w' hC hf; unfold Gives; obtain ⟨z0, z1, z2, z3⟩ := HC.out w' (HRC.out.trans (hC.mono HRC.out.size)); have q0 := HXK.out w' (HRC.out.trans (hC.mono HRC.out.size)); clear hf hC; go_wp2_with (fail); apply postT_val rfl (Below.refl _ _); simp only [valAt, Array.getD_eq_getD_getElem?, List.getElem?_toArray, List.getElem?_cons_succ, List.getElem?_cons_zero, Option.getD_some]; exact rfl)); (try simp only [Act.put, List.setIfInBounds_toArray, List.set_cons_zero, List.set_cons_succ])
          (apply wpT_exact; · (intro w' hC hf; unfold Gives; obtain ⟨z0, z1, z2, z3⟩ := HC.out w' (HRC.out.trans (hC.mono HRC.out.size)); have q0 := HXK.out w' (HRC.out.trans (hC.mono HRC.out.size)); clear hf hC; go_wp2_with (fail); apply postT_val rfl (Below.refl _ _); simp only [valAt, Array.getD_eq_getD_getElem?, List.getElem?_toArray, List.getElem?_cons_succ, List.getElem?_cons_zero, Option.getD_some]; exact rfl)); (try simp only [Act.put, List.setIfInBounds_toArray, List.set_cons_zero, List.set_cons_succ])
          (apply wpT_exact; · (intro w' hC hf; unfold Gives; obtain ⟨z0, z1, z2, z3⟩ := HC.out w' (HRC.out.trans (hC.mono HRC.out.size)); have q0 := HXK.out w' (HRC.out.trans (hC.mono HRC.out.size)); clear hf hC; go_wp2_with (fail); apply postT_val rfl (Below.refl _ _); simp only [valAt, Array.getD_eq_getD_getElem?, List.getElem?_toArray, List.getElem?_cons_succ, List.getElem?_cons_zero, Option.getD_some]; exact rfl)); (try simp only [Act.put, List.setIfInBounds_toArray, List.set_cons_zero, List.set_cons_succ])
          (apply wpT_exact; · (intro w' hC hf; unfold Gives; obtain ⟨z0, z1, z2, z3⟩ := HC.out w' (HRC.out.trans (hC.mono HRC.out.size)); have q0 := HXK.out w' (HRC.out.trans (hC.mono HRC.out.size)); clear hf hC; go_wp2_with (fail); apply postT_val rfl (Below.refl _ _); simp only [valAt, Array.getD_eq_getD_getElem?, List.getElem?_toArray, List.getElem?_cons_succ, List.getElem?_cons_zero, Option.getD_some]; exact rfl)); (try simp only [Act.put, List.setIfInBounds_toArray, List.set_cons_zero, List.set_cons_succ])
          (apply wpT_exact; · (intro w' hC hf; unfold Gives; obtain ⟨z0, z1, z2, z3⟩ := HC.out w' (HRC.out.trans (hC.mono HRC.out.size)); have q0 := HXK.out w' (HRC.out.trans (hC.mono HRC.out.size)); clear hf hC; go_wp2_with (fail); apply postT_val rfl (Below.refl _ _); simp only [valAt, Array.getD_eq_getD_getElem?, List.getElem?_toArray, List.getElem?_cons_succ, List.getElem?_cons_zero, Option.getD_some]; exact rfl)); (try simp only [Act.put, List.setIfInBounds_toArray, List.set_cons_zero, List.set_cons_succ])
          (apply wpT_exact; · (intro w' hC hf; unfold Gives; obtain ⟨z0, z1, z2, z3⟩ := HC.out w' (HRC.out.trans (hC.mono HRC.out.size)); have q0 := HXK.out w' (HRC.out.trans (hC.mono HRC.out.size)); clear hf hC; go_wp2_with (fail); apply postT_val rfl (Below.refl _ _); simp only [valAt, Array.getD_eq_getD_getElem?, List.getElem?_toArray, List.getElem?_cons_succ, List.getElem?_cons_zero, Option.getD_some]; exact rfl)); (try simp only [Act.put, List.setIfInBounds_toArray, List.set_cons_zero, List.set_cons_succ])
          (apply wpT_exact; · (intro w' hC hf; unfold Gives; obtain ⟨z0, z1, z2, z3⟩ := HC.out w' (HRC.out.trans (hC.mono HRC.out.size)); have q0 := HXK.out w' (HRC.out.trans (hC.mono HRC.out.size)); clear hf hC; go_wp2_with (fail); apply postT_val rfl (Below.refl _ _); simp only [valAt, Array.getD_eq_getD_getElem?, List.getElem?_toArray, List.getElem?_cons_succ, List.getElem?_cons_zero, Option.getD_some]; exact rfl)); (try simp only [Act.put, List.setIfInBounds_toArray, List.set_cons_zero, List.set_cons_succ])
          apply wpT_exact
          · intro w' hC hf; unfold Gives; clear hf hC
            go_wp2_with (go_at_call 28; refine (plain_any _ _ _ _ _).mono ?_; rintro e w2 ⟨rfl, hb2⟩)
            apply postT_val rfl hb2; simp only [valAt, Array.getD_eq_getD_getElem?, List.getElem?_toArray, List.getElem?_cons_succ, List.getElem?_cons_zero, Option.getD_some]; exact rfl
          (try simp only [Act.put, List.setIfInBounds_toArray, List.set_cons_zero, List.set_cons_succ])
          apply wpT_exact
          · intro w' hC hf; unfold Gives; clear hf hC
            go_wp2_with (go_at_call 27; refine (rLocal_any _ _ _ _ _ _ (by omega) (by omega)).mono ?_; rintro e w2 ⟨rfl, hb2⟩)
            apply postT_val rfl hb2; simp only [valAt, Array.getD_eq_getD_getElem?, List.getElem?_toArray, List.getElem?_cons_succ, List.getElem?_cons_zero, Option.getD_some]; exact rfl
          (try simp only [Act.put, List.setIfInBounds_toArray, List.set_cons_zero, List.set_cons_succ])
          (apply wpT_exact; · (intro w' hC hf; unfold Gives; clear hf hC; go_wp2_with (fail); apply postT_val rfl (Below.refl _ _); simp only [valAt, Array.getD_eq_getD_getElem?, List.getElem?_toArray, List.getElem?_cons_succ, List.getElem?_cons_zero, Option.getD_some]; exact rfl)); (try simp only [Act.put, List.setIfInBounds_toArray, List.set_cons_zero, List.set_cons_succ])
          (apply wpT_exact; · (intro w' hC hf; unfold Gives; clear hf hC; go_wp2_with (fail); apply postT_val rfl (Below.refl _ _); simp only [valAt, Array.getD_eq_getD_getElem?, List.getElem?_toArray, List.getElem?_cons_succ, List.getElem?_cons_zero, Option.getD_some]; exact rfl)); (try simp only [Act.put, List.setIfInBounds_toArray, List.set_cons_zero, List.set_cons_succ])
          (apply wpT_exact; · (intro w' hC hf; unfold Gives; clear hf hC; go_wp2_with (fail); apply postT_val rfl (Below.refl _ _); simp only [valAt, Array.getD_eq_getD_getElem?, List.getElem?_toArray, List.getElem?_cons_succ, List.getElem?_cons_zero, Option.getD_some]; exact rfl)); (try simp only [Act.put, List.setIfInBounds_toArray, List.set_cons_zero, List.set_cons_succ])
          (apply wpT_exact; · (intro w' hC hf; unfold Gives; clear hf hC; go_wp2_with (fail); apply postT_val rfl (Below.refl _ _); simp only [valAt, Array.getD_eq_getD_getElem?, List.getElem?_toArray, List.getElem?_cons_succ, List.getElem?_cons_zero, Option.getD_some]; exact rfl)); (try simp only [Act.put, List.setIfInBounds_toArray, List.set_cons_zero, List.set_cons_succ])
          (apply wpT_exact; · (intro w' hC hf; unfold Gives; clear hf hC; go_wp2_with (fail); apply postT_val rfl (Below.refl _ _); simp only [valAt, Array.getD_eq_getD_getElem?, List.getElem?_toArray, List.getElem?_cons_succ, List.getElem?_cons_zero, Option.getD_some]; exact rfl)); (try simp only [Act.put, List.setIfInBounds_toArray, List.set_cons_zero, List.set_cons_succ])
          (apply wpT_exact; · (intro w' hC hf; unfold Gives; clear hf hC; go_wp2_with (fail); apply postT_val rfl (Below.refl _ _); simp only [valAt, Array.getD_eq_getD_getElem?, List.getElem?_toArray, List.getElem?_cons_succ, List.getElem?_cons_zero, Option.getD_some]; exact rfl)); (try simp only [Act.put, List.setIfInBounds_toArray, List.set_cons_zero, List.set_cons_succ])
          (apply wpT_exact; · (intro w' hC hf; unfold Gives; clear hf hC; go_wp2_with (fail); apply postT_val rfl (Below.refl _ _); simp only [valAt, Array.getD_eq_getD_getElem?, List.getElem?_toArray, List.getElem?_cons_succ, List.getElem?_cons_zero, Option.getD_some]; exact rfl)); (try simp only [Act.put, List.setIfInBounds_toArray, List.set_cons_zero, List.set_cons_succ])
          apply wpT_done
          intro w3 hC _
          have HRC := Lib.hid (HRC.out.trans (hC.mono HRC.out.size))
          clear hC
          go_wp2_with (fail)
          go_roundw
          case rel => exact ⟨k + 1, by omega, by go_num, HRC.out⟩
          case measure => simp [intOf]; omega
        · have e3 : (k : Int) = 3 := by omega
          rw [e3]
          clear e3 hlt
          have hr := HRC.out
          clear HRC
          go_wp2_with (fail)
          have hD := (Blk.new wr 3 #[.int .i64 (som n), .int .i64 moment, .int .i64 (som n)]).alloc (.cells #[.int .i64 (around minute 1440), .int .i64 (around minute 1440), .int .i64 minute] 3)
          have hMm := Blk.new (wr.alloc (.cells #[.int .i64 (som n), .int .i64 moment, .int .i64 (som n)] 3)) 3 #[.int .i64 (around minute 1440), .int .i64 (around minute 1440), .int .i64 minute]
          have hWD := (hr.alloc hr.size (.cells #[.int .i64 (som n), .int .i64 moment, .int .i64 (som n)] 3)).alloc (by have := hr.size; simp only [World.size_alloc]; omega) (.cells #[.int .i64 (around minute 1440), .int .i64 (around minute 1440), .int .i64 minute] 3)
          simp only [World.size_alloc] at hMm
          obtain ⟨gd, hgd⟩ : ∃ g, g = wr.heap.size := ⟨_, rfl⟩
          rw [← hgd] at hD hMm ⊢
          obtain ⟨wd, hwd⟩ : ∃ wd : World, wd = (wr.alloc (.cells #[.int .i64 (som n), .int .i64 moment, .int .i64 (som n)] 3)).alloc (.cells #[.int .i64 (around minute 1440), .int .i64 (around minute 1440), .int .i64 minute] 3) := ⟨_, rfl⟩
          rw [← hwd] at hD hMm hWD ⊢
          have HD : Hid (∀ k, k < 3 → ∃ d m, ∀ w', Below wd.heap.size wd w' → w'.cell? ⟨gd, k, none⟩ = some (.int .i64 d) ∧ w'.cell? ⟨gd + 1, k, none⟩ = some (.int .i64 m)) := by
            intro k hk
            have hcell := fun w' (hb : Below wd.heap.size wd w') => And.intro ((hD.below hb hD.lt).cell k) ((hMm.below hb hMm.lt).cell k)
            match k, hk with
            | 0, _ => exact ⟨_, _, hcell⟩
            | 1, _ => exact ⟨_, _, hcell⟩
            | 2, _ => exact ⟨_, _, hcell⟩
          have HWD := Lib.hid hWD
          clear hD hMm hWD hwd hgd hr
          go_loopw [25] (fun iv wr => ∃ k : Nat, k ≤ 3 ∧ iv = .int .i64 k ∧ Below wd.heap.size wd wr) (fun iv _ => 3 - (intOf iv).toNat)
          case atStart => exact ⟨0, by omega, rfl, Below.refl _ _⟩
          case round =>
            obtain ⟨k, hk, rfl, hrc⟩ := hrel
            have HRC := Lib.hid hrc
            clear hrc
            by_cases hlt : k < 3
            · have hp : (k : Int) < 3 := by omega
              have hp0 : 0 ≤ (k : Int) := by omega
              obtain ⟨d, m, hdk⟩ := HD.out k hlt
              have HDK := Lib.hid hdk
              clear hdk
              obtain ⟨ML, ME, HM⟩ : ∃ (ML : List Int) (ME : Int), Hid (MomIs d m O S F T ML ME) := ⟨_, _, rfl, rfl⟩
              have hML := HM.out.len
              go_wp2_with (fail)
              obtain ⟨wc, rfl⟩ : ∃ wc : World, wc = wr := ⟨_, rfl⟩
              apply wp_region_typed (C := fun w' => Below wc.heap.size wc w') (n := 154) (m := 18) (l1 := [_, _, _, _, _, _, _, _, _, _, _, _, _, _, _, _, _, _]) (l2 := [])
              · rfl
              · rfl
              · kernel_rfl
              · rfl
              · kernel_rfl
              · exact ⟨rfl, rfl, rfl, Nat.le_refl _, fun _ _ => rfl⟩
              · exact fun u u' h hb => h.trans (hb.mono h.size)
              (apply wpT_exact; · (intro w' hC hf; unfold Gives; obtain ⟨z0, z1, z2, z3⟩ := HC.out w' (HWD.out.trans ((HRC.out.trans (hC.mono HRC.out.size)).mono HWD.out.size)); obtain ⟨q0, q1⟩ := HDK.out w' (HRC.out.trans (hC.mono HRC.out.size)); clear hf hC; go_wp2_with (fail); apply postT_val rfl (Below.refl _ _); simp only [valAt, Array.getD_eq_getD_getElem?, List.getElem?_toArray, List.getElem?_cons_succ, List.getElem?_cons_zero, Option.getD_some]; exact rfl)); (try simp only [Act.put, List.setIfInBounds_toArray, List.set_cons_zero, List.set_cons_succ])
              (apply wpT_exact; · (intro w' hC hf; unfold Gives; obtain ⟨z0, z1, z2, z3⟩ := HC.out w' (HWD.out.trans ((HRC.out.trans (hC.mono HRC.out.size)).mono HWD.out.size)); obtain ⟨q0, q1⟩ := HDK.out w' (HRC.out.trans (hC.mono HRC.out.size)); clear hf hC; go_wp2_with (fail); apply postT_val rfl (Below.refl _ _); simp only [valAt, Array.getD_eq_getD_getElem?, List.getElem?_toArray, List.getElem?_cons_succ, List.getElem?_cons_zero, Option.getD_some]; exact rfl)); (try simp only [Act.put, List.setIfInBounds_toArray, List.set_cons_zero, List.set_cons_succ])
              (apply wpT_exact; · (intro w' hC hf; unfold Gives; obtain ⟨z0, z1, z2, z3⟩ := HC.out w' (HWD.out.trans ((HRC.out.trans (hC.mono HRC.out.size)).mono HWD.out.size)); obtain ⟨q0, q1⟩ := HDK.out w' (HRC.out.trans (hC.mono HRC.out.size)); clear hf hC; go_wp2_with (fail); apply postT_val rfl (Below.refl _ _); simp only [valAt, Array.getD_eq_getD_getElem?, List.getElem?_toArray, List.getElem?_cons_succ, List.getElem?_cons_zero, Option.getD_some]; exact rfl)); (try simp only [Act.put, List.setIfInBounds_toArray, List.set_cons_zero, List.set_cons_succ])
              (apply wpT_exact; · (intro w' hC hf; unfold Gives; obtain ⟨z0, z1, z2, z3⟩ := HC.out w' (HWD.out.trans ((HRC.out.trans (hC.mono HRC.out.size)).mono HWD.out.size)); obtain ⟨q0, q1⟩ := HDK.out w' (HRC.out.trans (hC.mono HRC.out.size)); clear hf hC; go_wp2_with (fail); apply postT_val rfl (Below.refl _ _); simp only [valAt, Array.getD_eq_getD_getElem?, List.getElem?_toArray, List.getElem?_cons_succ, List.getElem?_cons_zero, Option.getD_some]; exact rfl)); (try simp only [Act.put, List.setIfInBounds_toArray, List.set_cons_zero, List.set_cons_succ])
              (apply wpT_exact; · (intro w' hC hf; unfold Gives; obtain ⟨z0, z1, z2, z3⟩ := HC.out w' (HWD.out.trans ((HRC.out.trans (hC.mono HRC.out.size)).mono HWD.out.size)); obtain ⟨q0, q1⟩ := HDK.out w' (HRC.out.trans (hC.mono HRC.out.size)); clear hf hC; go_wp2_with (fail); apply postT_val rfl (Below.refl _ _); simp only [valAt, Array.getD_eq_getD_getElem?, List.getElem?_toArray, List.getElem?_cons_succ, List.getElem?_cons_zero, Option.getD_some]; exact rfl)); (try simp only [Act.put, List.setIfInBounds_toArray, List.set_cons_zero, List.set_cons_succ])
              (apply wpT_exact; · (intro w' hC hf; unfold Gives; obtain ⟨z0, z1, z2, z3⟩ := HC.out w' (HWD.out.trans ((HRC.out.trans (hC.mono HRC.out.size)).mono HWD.out.size)); obtain ⟨q0, q1⟩ := HDK.out w' (HRC.out.trans (hC.mono HRC.out.size)); clear hf hC; go_wp2_with (fail); apply postT_val rfl (Below.refl _ _); simp only [valAt, Array.getD_eq_getD_getElem?, List.getElem?_toArray, List.getElem?_cons_succ, List.getElem?_cons_zero, Option.getD_some]; exact rfl)); (try simp only [Act.put, List.setIfInBounds_toArray, List.set_cons_zero, List.set_cons_succ])
              (apply wpT_exact; · (intro w' hC hf; unfold Gives; obtain ⟨z0, z1, z2, z3⟩ := HC.out w' (HWD.out.trans ((HRC.out.trans (hC.mono HRC.out.size)).mono HWD.out.size)); obtain ⟨q0, q1⟩ := HDK.out w' (HRC.out.trans (hC.mono HRC.out.size)); clear hf hC; go_wp2_with (fail); apply postT_val rfl (Below.refl _ _); simp only [valAt, Array.getD_eq_getD_getElem?, List.getElem?_toArray, List.getElem?_cons_succ, List.getElem?_cons_zero, Option.getD_some]; exact rfl)); (try simp only [Act.put, List.setIfInBounds_toArray, List.set_cons_zero, List.set_cons_succ])
              (apply wpT_exact; · (intro w' hC hf; unfold Gives; obtain ⟨z0, z1, z2, z3⟩ := HC.out w' (HWD.out.trans ((HRC.out.trans (hC.mono HRC.out.size)).mono HWD.out.size)); obtain ⟨q0, q1⟩ := HDK.out w' (HRC.out.trans (hC.mono HRC.out.size)); clear hf hC; go_wp2_with (fail); apply postT_val rfl (Below.refl _ _); simp only [valAt, Array.getD_eq_getD_getElem?, List.getElem?_toArray, List.getElem?_cons_succ, List.getElem?_cons_zero, Option.getD_some]; exact rfl)); (try simp only [Act.put, List.setIfInBounds_toArray, List.set_cons_zero, List.set_cons_succ])
              (apply wpT_exact; · (intro w' hC hf; unfold Gives; obtain ⟨z0, z1, z2, z3⟩ := HC.out w' (HWD.out.trans ((HRC.out.trans (hC.mono HRC.out.size)).mono HWD.out.size)); obtain ⟨q0, q1⟩ := HDK.out w' (HRC.out.trans (hC.mono HRC.out.size)); clear hf hC; go_wp2_with (fail); apply postT_val rfl (Below.refl _ _); simp only [valAt, Array.getD_eq_getD_getElem?, List.getElem?_toArray, List.getElem?_cons_succ, List.getElem?_cons_zero, Option.getD_some]; exact rfl)); (try simp only [Act.put, List.setIfInBounds_toArray, List.set_cons_zero, List.set_cons_succ])
              (apply wpT_exact; · (intro w' hC hf; unfold Gives; obtain ⟨z0, z1, z2, z3⟩ := HC.out w' (HWD.out.trans ((HRC.out.trans (hC.mono HRC.out.size)).mono HWD.out.size)); obtain ⟨q0, q1⟩ := HDK.out w' (HRC.out.trans (hC.mono HRC.out.size)); clear hf hC; go_wp2_with (fail); apply postT_val rfl (Below.refl _ _); simp only [valAt, Array.getD_eq_getD_getElem?, List.getElem?_toArray, List.getElem?_cons_succ, List.getElem?_cons_zero, Option.getD_some]; exact rfl)); (try simp only [Act.put, List.setIfInBounds_toArray, List.set_cons_zero, List.set_cons_succ])
              (apply wpT_exact; · (intro w' hC hf; unfold Gives; obtain ⟨z0, z1, z2, z3⟩ := HC.out w' (HWD.out.trans ((HRC.out.trans (hC.mono HRC.out.size)).mono HWD.out.size)); obtain ⟨q0, q1⟩ := HDK.out w' (HRC.out.trans (hC.mono HRC.out.size)); clear hf hC; go_wp2_with (fail); apply postT_val rfl (Below.refl _ _); simp only [valAt, Array.getD_eq_getD_getElem?, List.getElem?_toArray, List.getElem?_cons_succ, List.getElem?_cons_zero, Option.getD_some]; exact rfl)); (try simp only [Act.put, List.setIfInBounds_toArray, List.set_cons_zero, List.set_cons_succ])
              (apply wpT_exact; · (intro w' hC hf; unfold Gives; obtain ⟨z0, z1, z2, z3⟩ := HC.out w' (HWD.out.trans ((HRC.out.trans (hC.mono HRC.out.size)).mono HWD.out.size)); obtain ⟨q0, q1⟩ := HDK.out w' (HRC.out.trans (hC.mono HRC.out.size)); clear hf hC; go_wp2_with (fail); apply postT_val rfl (Below.refl _ _); simp only [valAt, Array.getD_eq_getD_getElem?, List.getElem?_toArray, List.getElem?_cons_succ, List.getElem?_cons_zero, Option.getD_some]; exact rfl)); (try simp only [Act.put, List.setIfInBounds_toArray, List.set_cons_zero, List.set_cons_succ])
              apply wpT_typed (isRes_kept ML ME)
              · intro w' hC hf; unfold Gives; clear hf hC
                go_wp2_with (go_at_call 29; refine (mom_v _ _ _ _ _ _ _ HM).mono ?_; rintro e w2 ⟨v, rfl, hv, hb2⟩)
                apply postT_mk rfl hb2; simp only [valAt, Array.getD_eq_getD_getElem?, List.getElem?_toArray, List.getElem?_cons_succ, List.getElem?_cons_zero, Option.getD_some]; exact hv
              intro vr; (try simp only [Act.put, List.setIfInBounds_toArray, List.set_cons_zero, List.set_cons_succ])
              apply wpT_typed (isRes_kept ML ME)
              · intro w' hC hf; unfold Gives; have hT := hf.1 rfl; clear hf hC; go_wp2; apply postT_mk rfl (Below.refl _ _); simp only [valAt, Array.getD_eq_getD_getElem?, List.getElem?_toArray, List.getElem?_cons_succ, List.getElem?_cons_zero, Option.getD_some]; exact hT
              intro vm; (try simp only [Act.put, List.setIfInBounds_toArray, List.set_cons_zero, List.set_cons_succ])
              apply wpT_typed (isInts_kept ML)
              · intro w' hC hf; unfold Gives; obtain ⟨u, rfl, hu⟩ := hf.1 rfl; clear hf hC; go_wp2; apply postT_mk rfl (Below.refl _ _); simp only [valAt, Array.getD_eq_getD_getElem?, List.getElem?_toArray, List.getElem?_cons_succ, List.getElem?_cons_zero, Option.getD_some]; exact hu
              intro v0; (try simp only [Act.put, List.setIfInBounds_toArray, List.set_cons_zero, List.set_cons_succ])
              apply wpT_exact
              · intro w' hC hf; unfold Gives; obtain ⟨u, rfl, hu⟩ := hf.2.1 rfl; clear hf hC; go_wp2; apply postT_val rfl (Below.refl _ _); simp only [valAt, Array.getD_eq_getD_getElem?, List.getElem?_toArray, List.getElem?_cons_succ, List.getElem?_cons_zero, Option.getD_some]; exact rfl
              (try simp only [Act.put, List.setIfInBounds_toArray, List.set_cons_zero, List.set_cons_succ])
              apply wpT_typed (isInts_kept ML)
              · intro w' hC hf; unfold Gives; have hT := hf.1 rfl; clear hf hC; go_wp2; apply postT_mk rfl (Below.refl _ _); simp only [valAt, Array.getD_eq_getD_getElem?, List.getElem?_toArray, List.getElem?_cons_succ, List.getElem?_cons_zero, Option.getD_some]; exact hT
              intro vs; (try simp only [Act.put, List.setIfInBounds_toArray, List.set_cons_zero, List.set_cons_succ])
              (apply wpT_exact; · (intro w' hC hf; unfold Gives; clear hf hC; go_wp2_with (fail); apply postT_val rfl (Below.refl _ _); simp only [valAt, Array.getD_eq_getD_getElem?, List.getElem?_toArray, List.getElem?_cons_succ, List.getElem?_cons_zero, Option.getD_some]; exact rfl)); (try simp only [Act.put, List.setIfInBounds_toArray, List.set_cons_zero, List.set_cons_succ])
              apply wpT_done
              intro w3 hC hf
              have hv := hf.1
              clear hf
              obtain ⟨A1, c1, rfl, hI1⟩ := hv
              have HRC := Lib.hid (HRC.out.trans (hC.mono HRC.out.size))
              have HI1 := Lib.hid hI1
              clear hC hI1
              go_wp2_with (fail)
              obtain ⟨wc, rfl⟩ : ∃ wc : World, wc = w3 := ⟨_, rfl⟩
              apply wp_region_typed (C := fun w' => Below wc.heap.size wc w') (n := 154) (m := 19) (l1 := [_, _, _, _, _, _, _, _, _, _, _, _, _, _, _, _, _, _, _]) (l2 := [])
              · rfl
              · rfl
              · kernel_rfl
              · rfl
              · kernel_rfl
              · exact ⟨rfl, rfl, rfl, Nat.le_refl _, fun _ _ => rfl⟩
              · exact fun u u' h hb => h.trans (hb.mono h.size)
              (apply wpT_exact; · (intro w' hC hf; unfold Gives; obtain ⟨z0, z1, z2, z3⟩ := HC.out w' (HWD.out.trans ((HRC.out.trans (hC.mono HRC.out.size)).mono HWD.out.size)); obtain ⟨q0, q1⟩ := HDK.out w' (HRC.out.trans (hC.mono HRC.out.size)); clear hf hC; go_wp2_with (fail); apply postT_val rfl (Below.refl _ _); simp only [valAt, Array.getD_eq_getD_getElem?, List.getElem?_toArray, List.getElem?_cons_succ, List.getElem?_cons_zero, Option.getD_some]; exact rfl)); (try simp only [Act.put, List.setIfInBounds_toArray, List.set_cons_zero, List.set_cons_succ])
              (apply wpT_exact; · (intro w' hC hf; unfold Gives; obtain ⟨z0, z1, z2, z3⟩ := HC.out w' (HWD.out.trans ((HRC.out.trans (hC.mono HRC.out.size)).mono HWD.out.size)); obtain ⟨q0, q1⟩ := HDK.out w' (HRC.out.trans (hC.mono HRC.out.size)); clear hf hC; go_wp2_with (fail); apply postT_val rfl (Below.refl _ _); simp only [valAt, Array.getD_eq_getD_getElem?, List.getElem?_toArray, List.getElem?_cons_succ, List.getElem?_cons_zero, Option.getD_some]; exact rfl)); (try simp only [Act.put, List.setIfInBounds_toArray, List.set_cons_zero, List.set_cons_succ])
              (apply wpT_exact; · (intro w' hC hf; unfold Gives; obtain ⟨z0, z1, z2, z3⟩ := HC.out w' (HWD.out.trans ((HRC.out.trans (hC.mono HRC.out.size)).mono HWD.out.size)); obtain ⟨q0, q1⟩ := HDK.out w' (HRC.out.trans (hC.mono HRC.out.size)); clear hf hC; go_wp2_with (fail); apply postT_val rfl (Below.refl _ _); simp only [valAt, Array.getD_eq_getD_getElem?, List.getElem?_toArray, List.getElem?_cons_succ, List.getElem?_cons_zero, Option.getD_some]; exact rfl)); (try simp only [Act.put, List.setIfInBounds_toArray, List.set_cons_zero, List.set_cons_succ])
              (apply wpT_exact; · (intro w' hC hf; unfold Gives; obtain ⟨z0, z1, z2, z3⟩ := HC.out w' (HWD.out.trans ((HRC.out.trans (hC.mono HRC.out.size)).mono HWD.out.size)); obtain ⟨q0, q1⟩ := HDK.out w' (HRC.out.trans (hC.mono HRC.out.size)); clear hf hC; go_wp2_with (fail); apply postT_val rfl (Below.refl _ _); simp only [valAt, Array.getD_eq_getD_getElem?, List.getElem?_toArray, List.getElem?_cons_succ, List.getElem?_cons_zero, Option.getD_some]; exact rfl)); (try simp only [Act.put, List.setIfInBounds_toArray, List.set_cons_zero, List.set_cons_succ])
              (apply wpT_exact; · (intro w' hC hf; unfold Gives; obtain ⟨z0, z1, z2, z3⟩ := HC.out w' (HWD.out.trans ((HRC.out.trans (hC.mono HRC.out.size)).mono HWD.out.size)); obtain ⟨q0, q1⟩ := HDK.out w' (HRC.out.trans (hC.mono HRC.out.size)); clear hf hC; go_wp2_with (fail); apply postT_val rfl (Below.refl _ _); simp only [valAt, Array.getD_eq_getD_getElem?, List.getElem?_toArray, List.getElem?_cons_succ, List.getElem?_cons_zero, Option.getD_some]; exact rfl)); (try simp only [Act.put, List.setIfInBounds_toArray, List.set_cons_zero, List.set_cons_succ])
              (apply wpT_exact; · (intro w' hC hf; unfold Gives; obtain ⟨z0, z1, z2, z3⟩ := HC.out w' (HWD.out.trans ((HRC.out.trans (hC.mono HRC.out.size)).mono HWD.out.size)); obtain ⟨q0, q1⟩ := HDK.out w' (HRC.out.trans (hC.mono HRC.out.size)); clear hf hC; go_wp2_with (fail); apply postT_val rfl (Below.refl _ _); simp only [valAt, Array.getD_eq_getD_getElem?, List.getElem?_toArray, List.getElem?_cons_succ, List.getElem?_cons_zero, Option.getD_some]; exact rfl)); (try simp only [Act.put, List.setIfInBounds_toArray, List.set_cons_zero, List.set_cons_succ])
              (apply wpT_exact; · (intro w' hC hf; unfold Gives; obtain ⟨z0, z1, z2, z3⟩ := HC.out w' (HWD.out.trans ((HRC.out.trans (hC.mono HRC.out.size)).mono HWD.out.size)); obtain ⟨q0, q1⟩ := HDK.out w' (HRC.out.trans (hC.mono HRC.out.size)); clear hf hC; go_wp2_with (fail); apply postT_val rfl (Below.refl _ _); simp only [valAt, Array.getD_eq_getD_getElem?, List.getElem?_toArray, List.getElem?_cons_succ, List.getElem?_cons_zero, Option.getD_some]; exact rfl)); (try simp only [Act.put, List.setIfInBounds_toArray, List.set_cons_zero, List.set_cons_succ])
              (apply wpT_exact; · (intro w' hC hf; unfold Gives; obtain ⟨z0, z1, z2, z3⟩ := HC.out w' (HWD.out.trans ((HRC.out.trans (hC.mono HRC.out.size)).mono HWD.out.size)); obtain ⟨q0, q1⟩ := HDK.out w' (HRC.out.trans (hC.mono HRC.out.size)); clear hf hC; go_wp2_with (fail); apply postT_val rfl (Below.refl _ _); simp only [valAt, Array.getD_eq_getD_getElem?, List.getElem?_toArray, List.getElem?_cons_succ, List.getElem?_cons_zero, Option.getD_some]; exact rfl)); (try simp only [Act.put, List.setIfInBounds_toArray, List.set_cons_zero, List.set_cons_succ])
              (apply wpT_exact; · (intro w' hC hf; unfold Gives; obtain ⟨z0, z1, z2, z3⟩ := HC.out w' (HWD.out.trans ((HRC.out.trans (hC.mono HRC.out.size)).mono HWD.out.size)); obtain ⟨q0, q1⟩ := HDK.out w' (HRC.out.trans (hC.mono HRC.out.size)); clear hf hC; go_wp2_with (fail); apply postT_val rfl (Below.refl _ _); simp only [valAt, Array.getD_eq_getD_getElem?, List.getElem?_toArray, List.getElem?_cons_succ, List.getElem?_cons_zero, Option.getD_some]; exact rfl)); (try simp only [Act.put, List.setIfInBounds_toArray, List.set_cons_zero, List.set_cons_succ])
              (apply wpT_exact; · (intro w' hC hf; unfold Gives; obtain ⟨z0, z1, z2, z3⟩ := HC.out w' (HWD.out.trans ((HRC.out.trans (hC.mono HRC.out.size)).mono HWD.out.size)); obtain ⟨q0, q1⟩ := HDK.out w' (HRC.out.trans (hC.mono HRC.out.size)); clear hf hC; go_wp2_with (fail); apply postT_val rfl (Below.refl _ _); simp only [valAt, Array.getD_eq_getD_getElem?, List.getElem?_toArray, List.getElem?_cons_succ, List.getElem?_cons_zero, Option.getD_some]; exact rfl)); (try simp only [Act.put, List.setIfInBounds_toArray, List.set_cons_zero, List.set_cons_succ])
              (apply wpT_exact; · (intro w' hC hf; unfold Gives; obtain ⟨z0, z1, z2, z3⟩ := HC.out w' (HWD.out.trans ((HRC.out.trans (hC.mono HRC.out.size)).mono HWD.out.size)); obtain ⟨q0, q1⟩ := HDK.out w' (HRC.out.trans (hC.mono HRC.out.size)); clear hf hC; go_wp2_with (fail); apply postT_val rfl (Below.refl _ _); simp only [valAt, Array.getD_eq_getD_getElem?, List.getElem?_toArray, List.getElem?_cons_succ, List.getElem?_cons_zero, Option.getD_some]; exact rfl)); (try simp only [Act.put, List.setIfInBounds_toArray, List.set_cons_zero, List.set_cons_succ])
              (apply wpT_exact; · (intro w' hC hf; unfold Gives; obtain ⟨z0, z1, z2, z3⟩ := HC.out w' (HWD.out.trans ((HRC.out.trans (hC.mono HRC.out.size)).mono HWD.out.size)); obtain ⟨q0, q1⟩ := HDK.out w' (HRC.out.trans (hC.mono HRC.out.size)); clear hf hC; go_wp2_with (fail); apply postT_val rfl (Below.refl _ _); simp only [valAt, Array.getD_eq_getD_getElem?, List.getElem?_toArray, List.getElem?_cons_succ, List.getElem?_cons_zero, Option.getD_some]; exact rfl)); (try simp only [Act.put, List.setIfInBounds_toArray, List.set_cons_zero, List.set_cons_succ])
              apply wpT_exact
              · intro w' hC hf; unfold Gives; clear hf hC
                go_wp2_with (go_at_call 28; refine (plain_any _ _ _ _ _).mono ?_; rintro e w2 ⟨rfl, hb2⟩)
                apply postT_val rfl hb2; simp only [valAt, Array.getD_eq_getD_getElem?, List.getElem?_toArray, List.getElem?_cons_succ, List.getElem?_cons_zero, Option.getD_some]; exact rfl
              (try simp only [Act.put, List.setIfInBounds_toArray, List.set_cons_zero, List.set_cons_succ])
              apply wpT_typed (isRes_kept ML ME)
              · intro w' hC hf; unfold Gives; clear hf hC
                go_wp2_with (go_at_call 30; refine (rMom_v _ _ _ _ _ _ _ HM).mono ?_; rintro e w2 ⟨v, rfl, hv, hb2⟩)
                apply postT_mk rfl hb2; simp only [valAt, Array.getD_eq_getD_getElem?, List.getElem?_toArray, List.getElem?_cons_succ, List.getElem?_cons_zero, Option.getD_some]; exact hv
              intro vr; (try simp only [Act.put, List.setIfInBounds_toArray, List.set_cons_zero, List.set_cons_succ])
              apply wpT_typed (isRes_kept ML ME)
              · intro w' hC hf; unfold Gives; have hT := hf.1 rfl; clear hf hC; go_wp2; apply postT_mk rfl (Below.refl _ _); simp only [valAt, Array.getD_eq_getD_getElem?, List.getElem?_toArray, List.getElem?_cons_succ, List.getElem?_cons_zero, Option.getD_some]; exact hT
              intro vm; (try simp only [Act.put, List.setIfInBounds_toArray, List.set_cons_zero, List.set_cons_succ])
              apply wpT_typed (isInts_kept ML)
              · intro w' hC hf; unfold Gives; obtain ⟨u, rfl, hu⟩ := hf.1 rfl; clear hf hC; go_wp2; apply postT_mk rfl (Below.refl _ _); simp only [valAt, Array.getD_eq_getD_getElem?, List.getElem?_toArray, List.getElem?_cons_succ, List.getElem?_cons_zero, Option.getD_some]; exact hu
              intro v0; (try simp only [Act.put, List.setIfInBounds_toArray, List.set_cons_zero, List.set_cons_succ])
              apply wpT_exact
              · intro w' hC hf; unfold Gives; obtain ⟨u, rfl, hu⟩ := hf.2.1 rfl; clear hf hC; go_wp2; apply postT_val rfl (Below.refl _ _); simp only [valAt, Array.getD_eq_getD_getElem?, List.getElem?_toArray, List.getElem?_cons_succ, List.getElem?_cons_zero, Option.getD_some]; exact rfl
              (try simp only [Act.put, List.setIfInBounds_toArray, List.set_cons_zero, List.set_cons_succ])
              apply wpT_typed (isInts_kept ML)
              · intro w' hC hf; unfold Gives; have hT := hf.1 rfl; clear hf hC; go_wp2; apply postT_mk rfl (Below.refl _ _); simp only [valAt, Array.getD_eq_getD_getElem?, List.getElem?_toArray, List.getElem?_cons_succ, List.getElem?_cons_zero, Option.getD_some]; exact hT
              intro vs; (try simp only [Act.put, List.setIfInBounds_toArray, List.set_cons_zero, List.set_cons_succ])
              (apply wpT_exact; · (intro w' hC hf; unfold Gives; clear hf hC; go_wp2_with (fail); apply postT_val rfl (Below.refl _ _); simp only [valAt, Array.getD_eq_getD_getElem?, List.getElem?_toArray, List.getElem?_cons_succ, List.getElem?_cons_zero, Option.getD_some]; exact rfl)); (try simp only [Act.put, List.setIfInBounds_toArray, List.set_cons_zero, List.set_cons_succ])
              apply wpT_done
              intro w4 hC hf
              have hv := hf.1
              clear hf
              obtain ⟨A2, c2, rfl, hI2⟩ := hv
              have hI1 := Reads.below HI1.out hC
              have HRC := Lib.hid (HRC.out.trans (hC.mono HRC.out.size))
              clear hC HI1
              have hbz := Below.refl w4.heap.size w4
              go_wp2_with (go_at_call 31; refine (sameInts_self _ _ _ _ _ _ _ _ _ hI1 hI2 (by omega)).mono ?_; rintro e w5 ⟨rfl, hb5⟩; have hbz := hbz.trans hb5)
              go_roundw
              case rel => exact ⟨k + 1, by omega, by go_num, HRC.out.trans (hbz.mono HRC.out.size)⟩
              case measure => simp [intOf]; omega
            · obtain rfl : k = 3 := by omega
              have hr := HWD.out.trans (HRC.out.mono HWD.out.size)
              clear HRC
              go_wp2_with (fail)
              go_roundw
              case rel => exact ⟨.inr (.inr rfl), hr⟩
              case measure => simp [intOf]
end Go.Proofs.YtlfgjpidamkpdaaDoor
