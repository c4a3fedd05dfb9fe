/- The statement CalendarMoments: the walk. -/
import Derived.Test.YtlfgjpidamkpdaaDoorLocal
import Derived.Test.YtlfgjpidamkpdaaDoorPlain6
import Derived.Deep.CutRange
namespace Go.Proofs.YtlfgjpidamkpdaaDoor
open Go.RowKit
theorem local_v {M o s f t D I E : Int} (w : World) (h1 : -9223372036854775808 ≤ M) (h2 : M ≤ 9223372036854775807) (h : Hid (loc M o s f t = (D, I, E))) :
    Calls Tryd.prog 26 #[.int .i64 M, .agg #[.int .i64 o, .int .i64 s, .int .i64 f, .int .i64 t]] w fun e w' => e = .returned (.tuple #[.int .i64 D, .int .i64 I, .int .i64 E]) ∧ Below w.heap.size w w' := by
  have := local_any M o s f t w h1 h2
  rw [h.out] at this
  exact this
theorem momIs_ok {D I o s f t : Int} {L : List Int} (hz : zok o s f t = true) (hk : Cal.known D) (h0 : 0 ≤ I) (h1 : I ≤ 1439) (hL : momL D I o s f t = L) : MomIs D I o s f t L 0 := by
  unfold MomIs
  rw [hz, knownB_of hk]
  simp [h0, h1, hL]
def OneAt (x : Int) (v : Value) (w : World) : Prop := ∃ b off c, v = .slice (some ⟨b, off, none⟩) 1 c ∧ b < w.heap.size ∧ w.cell? ⟨b, off, none⟩ = some (.int .i64 x)
def TwoAt (x y : Int) (v : Value) (w : World) : Prop := ∃ b off c, v = .slice (some ⟨b, off, none⟩) 2 c ∧ b < w.heap.size ∧ w.cell? ⟨b, off, none⟩ = some (.int .i64 x) ∧ w.cell? ⟨b, off + 1, none⟩ = some (.int .i64 y)
theorem mom_one {D I o s f t x : Int} (w : World) (h : Hid (MomIs D I o s f t [x] 0)) :
    Calls Tryd.prog 29 #[.int .i64 D, .int .i64 I, .agg #[.int .i64 o, .int .i64 s, .int .i64 f, .int .i64 t]] w fun e w' => ∃ v, e = .returned (.tuple #[v, .int .i64 0]) ∧ OneAt x v w' ∧ Below w.heap.size w w' :=
  (mom_v D I o s f t w h).mono fun e w' ⟨v, he, ⟨u, hv, A, c, hu, hI⟩, hb⟩ => by
    obtain ⟨b, off, rfl, hlt, hc⟩ := hI.form (by simp)
    exact ⟨u, by rw [he, hv], ⟨b, off, c, hu, hlt, hc 0 (by simp)⟩, hb⟩
theorem mom_two {D I o s f t x y : Int} (w : World) (h : Hid (MomIs D I o s f t [x, y] 0)) :
    Calls Tryd.prog 29 #[.int .i64 D, .int .i64 I, .agg #[.int .i64 o, .int .i64 s, .int .i64 f, .int .i64 t]] w fun e w' => ∃ v, e = .returned (.tuple #[v, .int .i64 0]) ∧ TwoAt x y v w' ∧ Below w.heap.size w w' :=
  (mom_v D I o s f t w h).mono fun e w' ⟨v, he, ⟨u, hv, A, c, hu, hI⟩, hb⟩ => by
    obtain ⟨b, off, rfl, hlt, hc⟩ := hI.form (by simp)
    exact ⟨u, by rw [he, hv], ⟨b, off, c, hu, hlt, hc 0 (by simp), hc 1 (by simp)⟩, hb⟩
set_option maxRecDepth 10000 in
set_option maxHeartbeats 8000000 in
theorem moments_x (n minute : Int) (A : Option Addr) (nl c : Nat) (l : List Int) (w : World) (ht : TEnv w) (hl : Ints w w.heap.size A nl l) (hA : AllI l) (hc : nl ≤ 9223372036854775807) (hn : inI n) (hmi : inI minute) :
    Calls Tryd.prog 8 #[.int .i64 n, .slice A nl c, .int .i64 minute] w fun e w' => e = .returned (.bool true) ∧ Below w.heap.size w w' := by
  obtain ⟨n1, n2⟩ := hn; obtain ⟨k1, k2⟩ := hmi
  have hsz := ht.sz
  have s0 := som_known n
  have hdk := Lib.hid s0
  obtain ⟨s1, s2⟩ := s0
  have a1 := around_bd minute 1440 (by omega)
  have a2 := around_bd minute 240 (by omega)
  have a3 := atL_bd l 4 3 (by omega)
  have hzk := zok_iff.1 (zn_ok l)
  have HT0 := Lib.hid ht
  have HI0 := Lib.hid hl
  clear ht
  have hb := Below.refl w.heap.size w
  go_enter Tryd.func8, Tryd.ntmps8
  go_upto_region 2 with (first
    | (go_at_call 25; refine (zones_any _ _ _ l _ hl hA hc).mono ?_; rintro e w1 ⟨rfl, hb1⟩; have hb := hb.trans hb1; clear hb1)
    | (go_at_call 24; refine (own_any _ _ _ _ _).mono ?_; rintro e w2 ⟨rfl, hb1⟩; have hb := hb.trans (hb1.mono hb.size); clear hb1))
  have hz := Blk.new w2 39 #[.int .i64 (znO l), .int .i64 (znS l), .int .i64 (znF l), .int .i64 (znT l)]
  have hbW := hb.alloc hb.size (.cells #[.int .i64 (znO l), .int .i64 (znS l), .int .i64 (znF l), .int .i64 (znT l)] 39)
  obtain ⟨gz, hgz⟩ : ∃ g, g = w2.heap.size := ⟨_, rfl⟩
  rw [← hgz] at hz ⊢
  obtain ⟨W, hW⟩ : ∃ W : World, W = w2.alloc (.cells #[.int .i64 (znO l), .int .i64 (znS l), .int .i64 (znF l), .int .i64 (znT l)] 39) := ⟨_, rfl⟩
  rw [← hW] at hz hbW ⊢
  clear hW hgz hb
  have HZ := Lib.hid hz; have HBW := Lib.hid hbW
  clear hz hbW
  obtain ⟨z1, z2, z3, z4, z5, z6, z7⟩ := hzk
  have hlaw := fun M => momLaw M (znO l) (znS l) (znF l) (znT l) (zn_ok l)
  have HLAW := Lib.hid hlaw
  have HZK := Lib.hid (zn_ok l)
  clear hlaw
  generalize znO l = O at *
  generalize znS l = S at *
  generalize znF l = F at *
  generalize znT l = T at *
  have hcell : ∀ w', Below W.heap.size W w' → w'.cell? ⟨gz, 0, none⟩ = some (.int .i64 O) ∧ w'.cell? ⟨gz, 1, none⟩ = some (.int .i64 S) ∧ w'.cell? ⟨gz, 2, none⟩ = some (.int .i64 F) ∧ w'.cell? ⟨gz, 3, none⟩ = some (.int .i64 T) :=
    fun w' hb => ⟨(HZ.out.below hb HZ.out.lt).cell 0, (HZ.out.below hb HZ.out.lt).cell 1, (HZ.out.below hb HZ.out.lt).cell 2, (HZ.out.below hb HZ.out.lt).cell 3⟩
  have HC := Lib.hid hcell
  clear hcell HZ
  have hbb := Below.refl W.heap.size W
  have hI := Reads.below HI0.out HBW.out
  have HI := Lib.hid hI
  clear hI hl
  go_upto_if 37 with (first
    | (go_at_call 10; refine (some_any _ _ (by omega) (by omega)).mono ?_; rintro e w1 ⟨rfl, hb1⟩; have hbb := hbb.trans (hb1.mono hbb.size); clear hb1)
    | (go_at_call 17; refine (around_any _ _ _ (by omega) (by omega)).mono ?_; rintro e w' ⟨rfl, rfl⟩)
    | (go_at_call 34; refine (at_int _ _ _ _ l _ _ _ _ (Reads.below HI.out (hbb.mono HBW.out.size)) hA hc (by omega) (by omega) rfl).mono ?_; rintro e w' ⟨rfl, rfl⟩))
  go_cut [8] from 10 to 70 (fun s8 wx => ∃ M : Int, s8 = .int .i64 M ∧ -10000000000 ≤ M ∧ M ≤ 10000000000 ∧ Below W.heap.size W wx)
  case first =>
    have hr := Cal.civil_range hdk.out
    have hJ : -146097 ≤ Cal.dayV (Cal.cy (som n)) 1 1 ∧ Cal.dayV (Cal.cy (som n)) 1 1 ≤ 146097 := by rw [january hr.1 hr.2.1]; exact Cal.fst_bd _ hr.1 (by omega)
    clear hr
    obtain ⟨j1, j2⟩ := hJ
    have hC0 := HC.out _ hbb
    obtain ⟨c0, c1, c2, c3⟩ := hC0
    generalize atL l 4 3 = nr at *
    have hnr : nr = 0 ∨ nr = 1 ∨ nr = 2 := by omega
    rcases hnr with rfl | rfl | rfl
    · go_wp2_with fail
      go_meet
      case rel => exact ⟨_, rfl, by omega, by omega, hbb⟩
    all_goals
      have HBB := Lib.hid hbb
      clear c0 c1 c2 c3
      go_upto_region 7 with (first
        | (go_at_call 10; refine (some_any _ _ (by omega) (by omega)).mono ?_; rintro e w3 ⟨rfl, hb1⟩; have HB3 := Lib.hid (HBB.out.trans (hb1.mono HBB.out.size)); clear hb1)
        | (go_at_call 12; refine (rCivil_any _ _).mono ?_; rintro e w' ⟨rfl, rfl⟩)
        | (go_at_call 19; refine (rDay_any _ _ _ _).mono ?_; rintro e w' ⟨rfl, rfl⟩))
      have hC0 := HC.out _ HB3.out
      obtain ⟨c0, c1, c2, c3⟩ := hC0
      generalize Cal.dayV (Cal.cy (som n)) 1 1 = J at *
      go_upto_region 10 with fail
      apply wp_region_typed (C := fun w' => Below W.heap.size W w') (n := 186) (m := 10) (l1 := [_, _, _, _, _, _, _, _, _, _]) (l2 := [])
      · rfl
      · rfl
      · kernel_rfl
      · rfl
      · kernel_rfl
      · exact HB3.out.trans ⟨rfl, rfl, rfl, Nat.le_refl _, fun _ _ => rfl⟩
      · exact fun u u' h hb => h.trans (hb.mono h.size)
      (apply wpT_exact; · (intro w' hC hf; unfold Gives; clear hf hC; go_wp2_with (fail); apply postT_val rfl (Below.refl _ _); simp only [valAt, Array.getD_eq_getD_getElem?, List.getElem?_toArray, List.getElem?_cons_succ, List.getElem?_cons_zero, Option.getD_some]; exact rfl)); (try simp only [Act.put, List.setIfInBounds_toArray, List.set_cons_zero, List.set_cons_succ])
      (apply wpT_exact; · (intro w' hC hf; unfold Gives; clear hf hC; go_wp2_with (fail); apply postT_val rfl (Below.refl _ _); simp only [valAt, Array.getD_eq_getD_getElem?, List.getElem?_toArray, List.getElem?_cons_succ, List.getElem?_cons_zero, Option.getD_some]; exact rfl)); (try simp only [Act.put, List.setIfInBounds_toArray, List.set_cons_zero, List.set_cons_succ])
      (apply wpT_exact; · (intro w' hC hf; unfold Gives; clear hf hC; go_wp2_with (fail); apply postT_val rfl (Below.refl _ _); simp only [valAt, Array.getD_eq_getD_getElem?, List.getElem?_toArray, List.getElem?_cons_succ, List.getElem?_cons_zero, Option.getD_some]; exact rfl)); (try simp only [Act.put, List.setIfInBounds_toArray, List.set_cons_zero, List.set_cons_succ])
      (apply wpT_exact; · (intro w' hC hf; unfold Gives; obtain ⟨c0, c1, c2, c3⟩ := HC.out w' hC; clear hf hC; go_wp2_with (fail); apply postT_val rfl (Below.refl _ _); simp only [valAt, Array.getD_eq_getD_getElem?, List.getElem?_toArray, List.getElem?_cons_succ, List.getElem?_cons_zero, Option.getD_some]; exact rfl)); (try simp only [Act.put, List.setIfInBounds_toArray, List.set_cons_zero, List.set_cons_succ])
      (apply wpT_exact; · (intro w' hC hf; unfold Gives; clear hf hC; go_wp2_with (fail); apply postT_val rfl (Below.refl _ _); simp only [valAt, Array.getD_eq_getD_getElem?, List.getElem?_toArray, List.getElem?_cons_succ, List.getElem?_cons_zero, Option.getD_some]; exact rfl)); (try simp only [Act.put, List.setIfInBounds_toArray, List.set_cons_zero, List.set_cons_succ])
      (apply wpT_exact; · (intro w' hC hf; unfold Gives; clear hf hC; go_wp2_with (fail); apply postT_val rfl (Below.refl _ _); simp only [valAt, Array.getD_eq_getD_getElem?, List.getElem?_toArray, List.getElem?_cons_succ, List.getElem?_cons_zero, Option.getD_some]; exact rfl)); (try simp only [Act.put, List.setIfInBounds_toArray, List.set_cons_zero, List.set_cons_succ])
      (apply wpT_exact; · (intro w' hC hf; unfold Gives; clear hf hC; go_wp2_with (go_at_call 17; refine (around_any _ _ _ (by omega) (by omega)).mono ?_; rintro e w4 ⟨rfl, rfl⟩); apply postT_val rfl (Below.refl _ _); simp only [valAt, Array.getD_eq_getD_getElem?, List.getElem?_toArray, List.getElem?_cons_succ, List.getElem?_cons_zero, Option.getD_some]; exact rfl)); (try simp only [Act.put, List.setIfInBounds_toArray, List.set_cons_zero, List.set_cons_succ])
      (apply wpT_exact; · (intro w' hC hf; unfold Gives; clear hf hC; go_wp2_with (fail); apply postT_val rfl (Below.refl _ _); simp only [valAt, Array.getD_eq_getD_getElem?, List.getElem?_toArray, List.getElem?_cons_succ, List.getElem?_cons_zero, Option.getD_some]; exact rfl)); (try simp only [Act.put, List.setIfInBounds_toArray, List.set_cons_zero, List.set_cons_succ])
      (apply wpT_exact; · (intro w' hC hf; unfold Gives; clear hf hC; go_wp2_with (fail); apply postT_val rfl (Below.refl _ _); simp only [valAt, Array.getD_eq_getD_getElem?, List.getElem?_toArray, List.getElem?_cons_succ, List.getElem?_cons_zero, Option.getD_some]; exact rfl)); (try simp only [Act.put, List.setIfInBounds_toArray, List.set_cons_zero, List.set_cons_succ])
      (apply wpT_exact; · (intro w' hC hf; unfold Gives; clear hf hC; go_wp2_with (fail); apply postT_val rfl (Below.refl _ _); simp only [valAt, Array.getD_eq_getD_getElem?, List.getElem?_toArray, List.getElem?_cons_succ, List.getElem?_cons_zero, Option.getD_some]; exact rfl)); (try simp only [Act.put, List.setIfInBounds_toArray, List.set_cons_zero, List.set_cons_succ])
      apply wpT_done
      intro w4 hC _
      go_wp2_with fail
      go_meet
      case rel => exact ⟨_, rfl, by omega, by omega, hC⟩
  case rest =>
    obtain ⟨M, rfl, M1, M2, hbc⟩ := hcut
    clear hbb
    have hbb := hbc
    clear hbc
    have hq := HC.out wc hbb
    obtain ⟨c0, c1, c2, c3⟩ := hq
    rcases HLAW.out M with h | ⟨D, I, L, h, hk, h0, h1, hL, rfl, hn⟩ | ⟨D, I, x, y, L, h, hk, h0, h1, hL, rfl, hxy, hin, hs, hn⟩
    · have H := Lib.hid h
      clear h
      go_wp2_with (first | (go_at_call 26; refine (local_v _ (by omega) (by omega) (by assumption)).mono ?_; rintro e w6 ⟨rfl, hb6⟩; have hbb := hbb.trans (hb6.mono hbb.size); have hq := HC.out _ hbb; obtain ⟨d0, d1, d2, d3⟩ := hq; clear hb6) | (go_at_call 20; refine (lives_any _ (HT0.out.below (HBW.out.trans (hbb.mono HBW.out.size)) hsz)).mono ?_; rintro e w9 ⟨rfl, hb9⟩; have hbb := hbb.trans (hb9.mono hbb.size)))
      go_ret; exact ⟨rfl, HBW.out.trans (hbb.mono HBW.out.size)⟩
    · have H := Lib.hid h; have HM := Lib.hid (momIs_ok HZK.out hk h0 h1 hL); have HLL := Lib.hid hL
      clear h hL
      obtain ⟨d1', d2'⟩ := hk
      go_upto_region 15 with (first | (go_at_call 26; refine (local_v _ (by omega) (by omega) (by assumption)).mono ?_; rintro e w6 ⟨rfl, hb6⟩; have hbb := hbb.trans (hb6.mono hbb.size); have hq := HC.out _ hbb; obtain ⟨d0, d1, d2, d3⟩ := hq; clear hb6) | (go_at_call 29; refine (mom_one _ HM).mono ?_; rintro e w7 ⟨v, rfl, hv, hb7⟩; have hbb := hbb.trans (hb7.mono hbb.size); obtain ⟨gb, go, gc, rfl, hgb, hq0⟩ := hv; clear hb7))
      cases hsb : (S == 0)
      all_goals
        obtain ⟨wc, rfl⟩ : ∃ wc : World, wc = w7 := ⟨_, rfl⟩
        have HBB := Lib.hid hbb; have HQ0 := Lib.hid hq0
        clear hbb hq0 c0 c1 c2 c3 d0 d1 d2 d3
        apply wp_region_typed (C := fun w' => Below wc.heap.size wc w') (n := 186) (m := 36) (l1 := [_, _, _, _, _, _, _, _, _, _, _, _, _, _, _, _, _, _, _, _, _, _, _, _, _, _, _, _, _, _, _, _, _, _, _, _]) (l2 := [])
        · rfl
        · rfl
        · kernel_rfl
        · rfl
        · kernel_rfl
        · exact ⟨rfl, rfl, rfl, Nat.le_refl _, fun _ _ => rfl⟩
        · exact fun u u' h hb => h.trans (hb.mono h.size)
        (apply wpT_exact; · (intro w' hC hf; unfold Gives; obtain ⟨c0, c1, c2, c3⟩ := HC.out w' (HBB.out.trans (hC.mono HBB.out.size)); have q0 := (hC.cell (p := ⟨gb, go, none⟩) hgb).trans HQ0.out; clear hf hC; go_wp2_with (fail); apply postT_val rfl (Below.refl _ _); simp only [valAt, Array.getD_eq_getD_getElem?, List.getElem?_toArray, List.getElem?_cons_succ, List.getElem?_cons_zero, Option.getD_some]; exact rfl)); (try simp only [Act.put, List.setIfInBounds_toArray, List.set_cons_zero, List.set_cons_succ])
        (apply wpT_exact; · (intro w' hC hf; unfold Gives; obtain ⟨c0, c1, c2, c3⟩ := HC.out w' (HBB.out.trans (hC.mono HBB.out.size)); have q0 := (hC.cell (p := ⟨gb, go, none⟩) hgb).trans HQ0.out; clear hf hC; go_wp2_with (fail); apply postT_val rfl (Below.refl _ _); simp only [valAt, Array.getD_eq_getD_getElem?, List.getElem?_toArray, List.getElem?_cons_succ, List.getElem?_cons_zero, Option.getD_some]; exact rfl)); (try simp only [Act.put, List.setIfInBounds_toArray, List.set_cons_zero, List.set_cons_succ])
        (apply wpT_exact; · (intro w' hC hf; unfold Gives; obtain ⟨c0, c1, c2, c3⟩ := HC.out w' (HBB.out.trans (hC.mono HBB.out.size)); have q0 := (hC.cell (p := ⟨gb, go, none⟩) hgb).trans HQ0.out; clear hf hC; go_wp2_with (fail); apply postT_val rfl (Below.refl _ _); simp only [valAt, Array.getD_eq_getD_getElem?, List.getElem?_toArray, List.getElem?_cons_succ, List.getElem?_cons_zero, Option.getD_some]; exact rfl)); (try simp only [Act.put, List.setIfInBounds_toArray, List.set_cons_zero, List.set_cons_succ])
        (apply wpT_exact; · (intro w' hC hf; unfold Gives; obtain ⟨c0, c1, c2, c3⟩ := HC.out w' (HBB.out.trans (hC.mono HBB.out.size)); have q0 := (hC.cell (p := ⟨gb, go, none⟩) hgb).trans HQ0.out; clear hf hC; go_wp2_with (fail); apply postT_val rfl (Below.refl _ _); simp only [valAt, Array.getD_eq_getD_getElem?, List.getElem?_toArray, List.getElem?_cons_succ, List.getElem?_cons_zero, Option.getD_some]; exact rfl)); (try simp only [Act.put, List.setIfInBounds_toArray, List.set_cons_zero, List.set_cons_succ])
        (apply wpT_exact; · (intro w' hC hf; unfold Gives; obtain ⟨c0, c1, c2, c3⟩ := HC.out w' (HBB.out.trans (hC.mono HBB.out.size)); have q0 := (hC.cell (p := ⟨gb, go, none⟩) hgb).trans HQ0.out; clear hf hC; go_wp2_with (fail); apply postT_val rfl (Below.refl _ _); simp only [valAt, Array.getD_eq_getD_getElem?, List.getElem?_toArray, List.getElem?_cons_succ, List.getElem?_cons_zero, Option.getD_some]; exact rfl)); (try simp only [Act.put, List.setIfInBounds_toArray, List.set_cons_zero, List.set_cons_succ])
        (apply wpT_exact; · (intro w' hC hf; unfold Gives; obtain ⟨c0, c1, c2, c3⟩ := HC.out w' (HBB.out.trans (hC.mono HBB.out.size)); have q0 := (hC.cell (p := ⟨gb, go, none⟩) hgb).trans HQ0.out; clear hf hC; go_wp2_with (fail); apply postT_val rfl (Below.refl _ _); simp only [valAt, Array.getD_eq_getD_getElem?, List.getElem?_toArray, List.getElem?_cons_succ, List.getElem?_cons_zero, Option.getD_some]; exact rfl)); (try simp only [Act.put, List.setIfInBounds_toArray, List.set_cons_zero, List.set_cons_succ])
        (apply wpT_exact; · (intro w' hC hf; unfold Gives; obtain ⟨c0, c1, c2, c3⟩ := HC.out w' (HBB.out.trans (hC.mono HBB.out.size)); have q0 := (hC.cell (p := ⟨gb, go, none⟩) hgb).trans HQ0.out; clear hf hC; go_wp2_with (fail); apply postT_val rfl (Below.refl _ _); simp only [valAt, Array.getD_eq_getD_getElem?, List.getElem?_toArray, List.getElem?_cons_succ, List.getElem?_cons_zero, Option.getD_some]; exact rfl)); (try simp only [Act.put, List.setIfInBounds_toArray, List.set_cons_zero, List.set_cons_succ])
        (apply wpT_exact; · (intro w' hC hf; unfold Gives; obtain ⟨c0, c1, c2, c3⟩ := HC.out w' (HBB.out.trans (hC.mono HBB.out.size)); have q0 := (hC.cell (p := ⟨gb, go, none⟩) hgb).trans HQ0.out; clear hf hC; go_wp2_with (fail); apply postT_val rfl (Below.refl _ _); simp only [valAt, Array.getD_eq_getD_getElem?, List.getElem?_toArray, List.getElem?_cons_succ, List.getElem?_cons_zero, Option.getD_some]; exact rfl)); (try simp only [Act.put, List.setIfInBounds_toArray, List.set_cons_zero, List.set_cons_succ])
        (apply wpT_exact; · (intro w' hC hf; unfold Gives; obtain ⟨c0, c1, c2, c3⟩ := HC.out w' (HBB.out.trans (hC.mono HBB.out.size)); have q0 := (hC.cell (p := ⟨gb, go, none⟩) hgb).trans HQ0.out; clear hf hC; go_wp2_with (fail); apply postT_val rfl (Below.refl _ _); simp only [valAt, Array.getD_eq_getD_getElem?, List.getElem?_toArray, List.getElem?_cons_succ, List.getElem?_cons_zero, Option.getD_some]; exact rfl)); (try simp only [Act.put, List.setIfInBounds_toArray, List.set_cons_zero, List.set_cons_succ])
        (apply wpT_exact; · (intro w' hC hf; unfold Gives; obtain ⟨c0, c1, c2, c3⟩ := HC.out w' (HBB.out.trans (hC.mono HBB.out.size)); have q0 := (hC.cell (p := ⟨gb, go, none⟩) hgb).trans HQ0.out; clear hf hC; go_wp2_with (fail); apply postT_val rfl (Below.refl _ _); simp only [valAt, Array.getD_eq_getD_getElem?, List.getElem?_toArray, List.getElem?_cons_succ, List.getElem?_cons_zero, Option.getD_some]; exact rfl)); (try simp only [Act.put, List.setIfInBounds_toArray, List.set_cons_zero, List.set_cons_succ])
        (apply wpT_exact; · (intro w' hC hf; unfold Gives; obtain ⟨c0, c1, c2, c3⟩ := HC.out w' (HBB.out.trans (hC.mono HBB.out.size)); have q0 := (hC.cell (p := ⟨gb, go, none⟩) hgb).trans HQ0.out; clear hf hC; go_wp2_with (fail); apply postT_val rfl (Below.refl _ _); simp only [valAt, Array.getD_eq_getD_getElem?, List.getElem?_toArray, List.getElem?_cons_succ, List.getElem?_cons_zero, Option.getD_some]; exact rfl)); (try simp only [Act.put, List.setIfInBounds_toArray, List.set_cons_zero, List.set_cons_succ])
        (apply wpT_exact; · (intro w' hC hf; unfold Gives; obtain ⟨c0, c1, c2, c3⟩ := HC.out w' (HBB.out.trans (hC.mono HBB.out.size)); have q0 := (hC.cell (p := ⟨gb, go, none⟩) hgb).trans HQ0.out; clear hf hC; go_wp2_with (fail); apply postT_val rfl (Below.refl _ _); simp only [valAt, Array.getD_eq_getD_getElem?, List.getElem?_toArray, List.getElem?_cons_succ, List.getElem?_cons_zero, Option.getD_some]; exact rfl)); (try simp only [Act.put, List.setIfInBounds_toArray, List.set_cons_zero, List.set_cons_succ])
        (apply wpT_exact; · (intro w' hC hf; unfold Gives; obtain ⟨c0, c1, c2, c3⟩ := HC.out w' (HBB.out.trans (hC.mono HBB.out.size)); have q0 := (hC.cell (p := ⟨gb, go, none⟩) hgb).trans HQ0.out; clear hf hC; go_wp2_with (fail); apply postT_val rfl (Below.refl _ _); simp only [valAt, Array.getD_eq_getD_getElem?, List.getElem?_toArray, List.getElem?_cons_succ, List.getElem?_cons_zero, Option.getD_some]; exact rfl)); (try simp only [Act.put, List.setIfInBounds_toArray, List.set_cons_zero, List.set_cons_succ])
        (apply wpT_exact; · (intro w' hC hf; unfold Gives; obtain ⟨c0, c1, c2, c3⟩ := HC.out w' (HBB.out.trans (hC.mono HBB.out.size)); have q0 := (hC.cell (p := ⟨gb, go, none⟩) hgb).trans HQ0.out; clear hf hC; go_wp2_with (fail); apply postT_val rfl (Below.refl _ _); simp only [valAt, Array.getD_eq_getD_getElem?, List.getElem?_toArray, List.getElem?_cons_succ, List.getElem?_cons_zero, Option.getD_some]; exact rfl)); (try simp only [Act.put, List.setIfInBounds_toArray, List.set_cons_zero, List.set_cons_succ])
        (apply wpT_exact; · (intro w' hC hf; unfold Gives; obtain ⟨c0, c1, c2, c3⟩ := HC.out w' (HBB.out.trans (hC.mono HBB.out.size)); have q0 := (hC.cell (p := ⟨gb, go, none⟩) hgb).trans HQ0.out; clear hf hC; go_wp2_with (fail); apply postT_val rfl (Below.refl _ _); simp only [valAt, Array.getD_eq_getD_getElem?, List.getElem?_toArray, List.getElem?_cons_succ, List.getElem?_cons_zero, Option.getD_some]; exact rfl)); (try simp only [Act.put, List.setIfInBounds_toArray, List.set_cons_zero, List.set_cons_succ])
        (apply wpT_exact; · (intro w' hC hf; unfold Gives; obtain ⟨c0, c1, c2, c3⟩ := HC.out w' (HBB.out.trans (hC.mono HBB.out.size)); have q0 := (hC.cell (p := ⟨gb, go, none⟩) hgb).trans HQ0.out; clear hf hC; go_wp2_with (fail); apply postT_val rfl (Below.refl _ _); simp only [valAt, Array.getD_eq_getD_getElem?, List.getElem?_toArray, List.getElem?_cons_succ, List.getElem?_cons_zero, Option.getD_some]; exact rfl)); (try simp only [Act.put, List.setIfInBounds_toArray, List.set_cons_zero, List.set_cons_succ])
        (apply wpT_exact; · (intro w' hC hf; unfold Gives; obtain ⟨c0, c1, c2, c3⟩ := HC.out w' (HBB.out.trans (hC.mono HBB.out.size)); have q0 := (hC.cell (p := ⟨gb, go, none⟩) hgb).trans HQ0.out; clear hf hC; go_wp2_with (fail); apply postT_val rfl (Below.refl _ _); simp only [valAt, Array.getD_eq_getD_getElem?, List.getElem?_toArray, List.getElem?_cons_succ, List.getElem?_cons_zero, Option.getD_some]; exact rfl)); (try simp only [Act.put, List.setIfInBounds_toArray, List.set_cons_zero, List.set_cons_succ])
        (apply wpT_exact; · (intro w' hC hf; unfold Gives; obtain ⟨c0, c1, c2, c3⟩ := HC.out w' (HBB.out.trans (hC.mono HBB.out.size)); have q0 := (hC.cell (p := ⟨gb, go, none⟩) hgb).trans HQ0.out; clear hf hC; go_wp2_with (fail); apply postT_val rfl (Below.refl _ _); simp only [valAt, Array.getD_eq_getD_getElem?, List.getElem?_toArray, List.getElem?_cons_succ, List.getElem?_cons_zero, Option.getD_some]; exact rfl)); (try simp only [Act.put, List.setIfInBounds_toArray, List.set_cons_zero, List.set_cons_succ])
        (apply wpT_exact; · (intro w' hC hf; unfold Gives; obtain ⟨c0, c1, c2, c3⟩ := HC.out w' (HBB.out.trans (hC.mono HBB.out.size)); have q0 := (hC.cell (p := ⟨gb, go, none⟩) hgb).trans HQ0.out; clear hf hC; go_wp2_with (fail); apply postT_val rfl (Below.refl _ _); simp only [valAt, Array.getD_eq_getD_getElem?, List.getElem?_toArray, List.getElem?_cons_succ, List.getElem?_cons_zero, Option.getD_some]; exact rfl)); (try simp only [Act.put, List.setIfInBounds_toArray, List.set_cons_zero, List.set_cons_succ])
        (apply wpT_exact; · (intro w' hC hf; unfold Gives; obtain ⟨c0, c1, c2, c3⟩ := HC.out w' (HBB.out.trans (hC.mono HBB.out.size)); have q0 := (hC.cell (p := ⟨gb, go, none⟩) hgb).trans HQ0.out; clear hf hC; go_wp2_with (fail); apply postT_val rfl (Below.refl _ _); simp only [valAt, Array.getD_eq_getD_getElem?, List.getElem?_toArray, List.getElem?_cons_succ, List.getElem?_cons_zero, Option.getD_some]; exact rfl)); (try simp only [Act.put, List.setIfInBounds_toArray, List.set_cons_zero, List.set_cons_succ])
        (apply wpT_exact; · (intro w' hC hf; unfold Gives; obtain ⟨c0, c1, c2, c3⟩ := HC.out w' (HBB.out.trans (hC.mono HBB.out.size)); have q0 := (hC.cell (p := ⟨gb, go, none⟩) hgb).trans HQ0.out; clear hf hC; go_wp2_with (fail); apply postT_val rfl (Below.refl _ _); simp only [valAt, Array.getD_eq_getD_getElem?, List.getElem?_toArray, List.getElem?_cons_succ, List.getElem?_cons_zero, Option.getD_some]; exact rfl)); (try simp only [Act.put, List.setIfInBounds_toArray, List.set_cons_zero, List.set_cons_succ])
        (apply wpT_exact; · (intro w' hC hf; unfold Gives; obtain ⟨c0, c1, c2, c3⟩ := HC.out w' (HBB.out.trans (hC.mono HBB.out.size)); have q0 := (hC.cell (p := ⟨gb, go, none⟩) hgb).trans HQ0.out; clear hf hC; go_wp2_with (fail); apply postT_val rfl (Below.refl _ _); simp only [valAt, Array.getD_eq_getD_getElem?, List.getElem?_toArray, List.getElem?_cons_succ, List.getElem?_cons_zero, Option.getD_some]; exact rfl)); (try simp only [Act.put, List.setIfInBounds_toArray, List.set_cons_zero, List.set_cons_succ])
        (apply wpT_exact; · (intro w' hC hf; unfold Gives; obtain ⟨c0, c1, c2, c3⟩ := HC.out w' (HBB.out.trans (hC.mono HBB.out.size)); have q0 := (hC.cell (p := ⟨gb, go, none⟩) hgb).trans HQ0.out; clear hf hC; go_wp2_with (fail); apply postT_val rfl (Below.refl _ _); simp only [valAt, Array.getD_eq_getD_getElem?, List.getElem?_toArray, List.getElem?_cons_succ, List.getElem?_cons_zero, Option.getD_some]; exact rfl)); (try simp only [Act.put, List.setIfInBounds_toArray, List.set_cons_zero, List.set_cons_succ])
        (apply wpT_exact; · (intro w' hC hf; unfold Gives; obtain ⟨c0, c1, c2, c3⟩ := HC.out w' (HBB.out.trans (hC.mono HBB.out.size)); have q0 := (hC.cell (p := ⟨gb, go, none⟩) hgb).trans HQ0.out; clear hf hC; go_wp2_with (fail); apply postT_val rfl (Below.refl _ _); simp only [valAt, Array.getD_eq_getD_getElem?, List.getElem?_toArray, List.getElem?_cons_succ, List.getElem?_cons_zero, Option.getD_some]; exact rfl)); (try simp only [Act.put, List.setIfInBounds_toArray, List.set_cons_zero, List.set_cons_succ])
        (apply wpT_exact; · (intro w' hC hf; unfold Gives; obtain ⟨c0, c1, c2, c3⟩ := HC.out w' (HBB.out.trans (hC.mono HBB.out.size)); have q0 := (hC.cell (p := ⟨gb, go, none⟩) hgb).trans HQ0.out; clear hf hC; go_wp2_with (fail); apply postT_val rfl (Below.refl _ _); simp only [valAt, Array.getD_eq_getD_getElem?, List.getElem?_toArray, List.getElem?_cons_succ, List.getElem?_cons_zero, Option.getD_some]; exact rfl)); (try simp only [Act.put, List.setIfInBounds_toArray, List.set_cons_zero, List.set_cons_succ])
        (apply wpT_exact; · (intro w' hC hf; unfold Gives; obtain ⟨c0, c1, c2, c3⟩ := HC.out w' (HBB.out.trans (hC.mono HBB.out.size)); have q0 := (hC.cell (p := ⟨gb, go, none⟩) hgb).trans HQ0.out; clear hf hC; go_wp2_with (fail); apply postT_val rfl (Below.refl _ _); simp only [valAt, Array.getD_eq_getD_getElem?, List.getElem?_toArray, List.getElem?_cons_succ, List.getElem?_cons_zero, Option.getD_some]; exact rfl)); (try simp only [Act.put, List.setIfInBounds_toArray, List.set_cons_zero, List.set_cons_succ])
        (apply wpT_exact; · (intro w' hC hf; unfold Gives; obtain ⟨c0, c1, c2, c3⟩ := HC.out w' (HBB.out.trans (hC.mono HBB.out.size)); have q0 := (hC.cell (p := ⟨gb, go, none⟩) hgb).trans HQ0.out; clear hf hC; go_wp2_with (fail); apply postT_val rfl (Below.refl _ _); simp only [valAt, Array.getD_eq_getD_getElem?, List.getElem?_toArray, List.getElem?_cons_succ, List.getElem?_cons_zero, Option.getD_some]; exact rfl)); (try simp only [Act.put, List.setIfInBounds_toArray, List.set_cons_zero, List.set_cons_succ])
        (apply wpT_exact; · (intro w' hC hf; unfold Gives; obtain ⟨c0, c1, c2, c3⟩ := HC.out w' (HBB.out.trans (hC.mono HBB.out.size)); have q0 := (hC.cell (p := ⟨gb, go, none⟩) hgb).trans HQ0.out; clear hf hC; go_wp2_with (fail); apply postT_val rfl (Below.refl _ _); simp only [valAt, Array.getD_eq_getD_getElem?, List.getElem?_toArray, List.getElem?_cons_succ, List.getElem?_cons_zero, Option.getD_some]; exact rfl)); (try simp only [Act.put, List.setIfInBounds_toArray, List.set_cons_zero, List.set_cons_succ])
        (apply wpT_exact; · (intro w' hC hf; unfold Gives; obtain ⟨c0, c1, c2, c3⟩ := HC.out w' (HBB.out.trans (hC.mono HBB.out.size)); have q0 := (hC.cell (p := ⟨gb, go, none⟩) hgb).trans HQ0.out; clear hf hC; go_wp2_with (fail); apply postT_val rfl (Below.refl _ _); simp only [valAt, Array.getD_eq_getD_getElem?, List.getElem?_toArray, List.getElem?_cons_succ, List.getElem?_cons_zero, Option.getD_some]; exact rfl)); (try simp only [Act.put, List.setIfInBounds_toArray, List.set_cons_zero, List.set_cons_succ])
        (apply wpT_exact; · (intro w' hC hf; unfold Gives; obtain ⟨c0, c1, c2, c3⟩ := HC.out w' (HBB.out.trans (hC.mono HBB.out.size)); have q0 := (hC.cell (p := ⟨gb, go, none⟩) hgb).trans HQ0.out; clear hf hC; go_wp2_with (fail); apply postT_val rfl (Below.refl _ _); simp only [valAt, Array.getD_eq_getD_getElem?, List.getElem?_toArray, List.getElem?_cons_succ, List.getElem?_cons_zero, Option.getD_some]; exact rfl)); (try simp only [Act.put, List.setIfInBounds_toArray, List.set_cons_zero, List.set_cons_succ])
        (apply wpT_exact; · (intro w' hC hf; unfold Gives; obtain ⟨c0, c1, c2, c3⟩ := HC.out w' (HBB.out.trans (hC.mono HBB.out.size)); have q0 := (hC.cell (p := ⟨gb, go, none⟩) hgb).trans HQ0.out; clear hf hC; go_wp2_with (fail); apply postT_val rfl (Below.refl _ _); simp only [valAt, Array.getD_eq_getD_getElem?, List.getElem?_toArray, List.getElem?_cons_succ, List.getElem?_cons_zero, Option.getD_some]; exact rfl)); (try simp only [Act.put, List.setIfInBounds_toArray, List.set_cons_zero, List.set_cons_succ])
        (apply wpT_exact; · (intro w' hC hf; unfold Gives; obtain ⟨c0, c1, c2, c3⟩ := HC.out w' (HBB.out.trans (hC.mono HBB.out.size)); have q0 := (hC.cell (p := ⟨gb, go, none⟩) hgb).trans HQ0.out; clear hf hC; go_wp2_with (fail); apply postT_val rfl (Below.refl _ _); simp only [valAt, Array.getD_eq_getD_getElem?, List.getElem?_toArray, List.getElem?_cons_succ, List.getElem?_cons_zero, Option.getD_some]; exact rfl)); (try simp only [Act.put, List.setIfInBounds_toArray, List.set_cons_zero, List.set_cons_succ])
        (apply wpT_exact; · (intro w' hC hf; unfold Gives; obtain ⟨c0, c1, c2, c3⟩ := HC.out w' (HBB.out.trans (hC.mono HBB.out.size)); have q0 := (hC.cell (p := ⟨gb, go, none⟩) hgb).trans HQ0.out; clear hf hC; go_wp2_with (fail); apply postT_val rfl (Below.refl _ _); simp only [valAt, Array.getD_eq_getD_getElem?, List.getElem?_toArray, List.getElem?_cons_succ, List.getElem?_cons_zero, Option.getD_some]; exact rfl)); (try simp only [Act.put, List.setIfInBounds_toArray, List.set_cons_zero, List.set_cons_succ])
        (apply wpT_exact; · (intro w' hC hf; unfold Gives; obtain ⟨c0, c1, c2, c3⟩ := HC.out w' (HBB.out.trans (hC.mono HBB.out.size)); have q0 := (hC.cell (p := ⟨gb, go, none⟩) hgb).trans HQ0.out; clear hf hC; go_wp2_with (fail); apply postT_val rfl (Below.refl _ _); simp only [valAt, Array.getD_eq_getD_getElem?, List.getElem?_toArray, List.getElem?_cons_succ, List.getElem?_cons_zero, Option.getD_some]; exact rfl)); (try simp only [Act.put, List.setIfInBounds_toArray, List.set_cons_zero, List.set_cons_succ])
        (apply wpT_exact; · (intro w' hC hf; unfold Gives; obtain ⟨c0, c1, c2, c3⟩ := HC.out w' (HBB.out.trans (hC.mono HBB.out.size)); have q0 := (hC.cell (p := ⟨gb, go, none⟩) hgb).trans HQ0.out; clear hf hC; go_wp2_with (fail); apply postT_val rfl (Below.refl _ _); simp only [valAt, Array.getD_eq_getD_getElem?, List.getElem?_toArray, List.getElem?_cons_succ, List.getElem?_cons_zero, Option.getD_some]; exact rfl)); (try simp only [Act.put, List.setIfInBounds_toArray, List.set_cons_zero, List.set_cons_succ])
        (apply wpT_exact; · (intro w' hC hf; unfold Gives; obtain ⟨c0, c1, c2, c3⟩ := HC.out w' (HBB.out.trans (hC.mono HBB.out.size)); have q0 := (hC.cell (p := ⟨gb, go, none⟩) hgb).trans HQ0.out; clear hf hC; go_wp2_with (fail); apply postT_val rfl (Below.refl _ _); simp only [valAt, Array.getD_eq_getD_getElem?, List.getElem?_toArray, List.getElem?_cons_succ, List.getElem?_cons_zero, Option.getD_some]; exact rfl)); (try simp only [Act.put, List.setIfInBounds_toArray, List.set_cons_zero, List.set_cons_succ])
        apply wpT_done
        intro w5 hC _
        have hbb := HBB.out.trans (hC.mono HBB.out.size)
        have hq := HC.out w5 hbb
        obtain ⟨c0, c1, c2, c3⟩ := hq
        have q0 := (hC.cell (p := ⟨gb, go, none⟩) hgb).trans HQ0.out
        clear hC
        trace "one"
        rcases hn with hn | ⟨P, Q, hn, hkP, hQ0, hQ1, hst⟩
        · have HN := Lib.hid hn
          clear hn
          go_wp2_with (first | (go_at_call 26; refine (local_v _ (by omega) (by omega) (by assumption)).mono ?_; rintro e w6 ⟨rfl, hb6⟩; have hbb := hbb.trans (hb6.mono hbb.size); have hq := HC.out _ hbb; obtain ⟨d0, d1, d2, d3⟩ := hq; clear hb6) | (go_at_call 20; refine (lives_any _ (HT0.out.below (HBW.out.trans (hbb.mono HBW.out.size)) hsz)).mono ?_; rintro e w9 ⟨rfl, hb9⟩; have hbb := hbb.trans (hb9.mono hbb.size)))
          go_ret; exact ⟨rfl, HBW.out.trans (hbb.mono HBW.out.size)⟩
        · have HN := Lib.hid hn
          clear hn
          obtain ⟨p1, p2⟩ := hkP
          by_cases e1 : 1440 * P + Q - 1440 * D - I = 1
          · have b1 : (1440 * P + Q - 1440 * D - I == 1) = true := by simpa using e1
            clear e1 hst
            go_wp2_with (first | (go_at_call 26; refine (local_v _ (by omega) (by omega) (by assumption)).mono ?_; rintro e w6 ⟨rfl, hb6⟩; have hbb := hbb.trans (hb6.mono hbb.size); have hq := HC.out _ hbb; obtain ⟨d0, d1, d2, d3⟩ := hq; clear hb6) | (go_at_call 20; refine (lives_any _ (HT0.out.below (HBW.out.trans (hbb.mono HBW.out.size)) hsz)).mono ?_; rintro e w9 ⟨rfl, hb9⟩; have hbb := hbb.trans (hb9.mono hbb.size)))
            go_ret; exact ⟨rfl, HBW.out.trans (hbb.mono HBW.out.size)⟩
          · have b1 : (1440 * P + Q - 1440 * D - I == 1) = false := by simpa using e1
            by_cases e2 : 1440 * P + Q - 1440 * D - I = 1 + S
            · have b2 : (1440 * P + Q - 1440 * D - I == 1 + S) = true := by simpa using e2
              clear e1 e2 hst
              go_wp2_with (first | (go_at_call 26; refine (local_v _ (by omega) (by omega) (by assumption)).mono ?_; rintro e w6 ⟨rfl, hb6⟩; have hbb := hbb.trans (hb6.mono hbb.size); have hq := HC.out _ hbb; obtain ⟨d0, d1, d2, d3⟩ := hq; clear hb6) | (go_at_call 20; refine (lives_any _ (HT0.out.below (HBW.out.trans (hbb.mono HBW.out.size)) hsz)).mono ?_; rintro e w9 ⟨rfl, hb9⟩; have hbb := hbb.trans (hb9.mono hbb.size)))
              go_ret; exact ⟨rfl, HBW.out.trans (hbb.mono HBW.out.size)⟩
            · have b2 : (1440 * P + Q - 1440 * D - I == 1 + S) = false := by simpa using e2
              have b3 : (1440 * P + Q - 1440 * D - I == 1 - S) = true := by unfold StepIs at hst; simp; omega
              clear e1 e2 hst
              go_wp2_with (first | (go_at_call 26; refine (local_v _ (by omega) (by omega) (by assumption)).mono ?_; rintro e w6 ⟨rfl, hb6⟩; have hbb := hbb.trans (hb6.mono hbb.size); have hq := HC.out _ hbb; obtain ⟨d0, d1, d2, d3⟩ := hq; clear hb6) | (go_at_call 20; refine (lives_any _ (HT0.out.below (HBW.out.trans (hbb.mono HBW.out.size)) hsz)).mono ?_; rintro e w9 ⟨rfl, hb9⟩; have hbb := hbb.trans (hb9.mono hbb.size)))
              go_ret; exact ⟨rfl, HBW.out.trans (hbb.mono HBW.out.size)⟩
    · have H := Lib.hid h; have HM := Lib.hid (momIs_ok HZK.out hk h0 h1 hL); have HLL := Lib.hid hL
      clear h hL
      obtain ⟨d1', d2'⟩ := hk
      have hsb : (S == 0) = false := by simpa using hs
      have HS := Lib.hid hs
      clear hs
      have hge : ¬ y ≤ x := by omega
      go_upto_region 15 with (first | (go_at_call 26; refine (local_v _ (by omega) (by omega) (by assumption)).mono ?_; rintro e w6 ⟨rfl, hb6⟩; have hbb := hbb.trans (hb6.mono hbb.size); have hq := HC.out _ hbb; obtain ⟨d0, d1, d2, d3⟩ := hq; clear hb6) | (go_at_call 29; refine (mom_two _ HM).mono ?_; rintro e w7 ⟨v, rfl, hv, hb7⟩; have hbb := hbb.trans (hb7.mono hbb.size); obtain ⟨gb, go, gc, rfl, hgb, hq0, hq1⟩ := hv; clear hb7))
      obtain ⟨wc, rfl⟩ : ∃ wc : World, wc = w7 := ⟨_, rfl⟩
      have HBB := Lib.hid hbb; have HQ0 := Lib.hid hq0; have HQ1 := Lib.hid hq1
      clear hbb hq0 hq1 c0 c1 c2 c3 d0 d1 d2 d3
      apply wp_region_typed (C := fun w' => Below wc.heap.size wc w') (n := 186) (m := 36) (l1 := [_, _, _, _, _, _, _, _, _, _, _, _, _, _, _, _, _, _, _, _, _, _, _, _, _, _, _, _, _, _, _, _, _, _, _, _]) (l2 := [])
      · rfl
      · rfl
      · kernel_rfl
      · rfl
      · kernel_rfl
      · exact ⟨rfl, rfl, rfl, Nat.le_refl _, fun _ _ => rfl⟩
      · exact fun u u' h hb => h.trans (hb.mono h.size)
      (apply wpT_exact; · (intro w' hC hf; unfold Gives; obtain ⟨c0, c1, c2, c3⟩ := HC.out w' (HBB.out.trans (hC.mono HBB.out.size)); have q0 := (hC.cell (p := ⟨gb, go, none⟩) hgb).trans HQ0.out; have q1 := (hC.cell (p := ⟨gb, go + 1, none⟩) hgb).trans HQ1.out; clear hf hC; go_wp2_with (fail); apply postT_val rfl (Below.refl _ _); simp only [valAt, Array.getD_eq_getD_getElem?, List.getElem?_toArray, List.getElem?_cons_succ, List.getElem?_cons_zero, Option.getD_some]; exact rfl)); (try simp only [Act.put, List.setIfInBounds_toArray, List.set_cons_zero, List.set_cons_succ])
      (apply wpT_exact; · (intro w' hC hf; unfold Gives; obtain ⟨c0, c1, c2, c3⟩ := HC.out w' (HBB.out.trans (hC.mono HBB.out.size)); have q0 := (hC.cell (p := ⟨gb, go, none⟩) hgb).trans HQ0.out; have q1 := (hC.cell (p := ⟨gb, go + 1, none⟩) hgb).trans HQ1.out; clear hf hC; go_wp2_with (fail); apply postT_val rfl (Below.refl _ _); simp only [valAt, Array.getD_eq_getD_getElem?, List.getElem?_toArray, List.getElem?_cons_succ, List.getElem?_cons_zero, Option.getD_some]; exact rfl)); (try simp only [Act.put, List.setIfInBounds_toArray, List.set_cons_zero, List.set_cons_succ])
      (apply wpT_exact; · (intro w' hC hf; unfold Gives; obtain ⟨c0, c1, c2, c3⟩ := HC.out w' (HBB.out.trans (hC.mono HBB.out.size)); have q0 := (hC.cell (p := ⟨gb, go, none⟩) hgb).trans HQ0.out; have q1 := (hC.cell (p := ⟨gb, go + 1, none⟩) hgb).trans HQ1.out; clear hf hC; go_wp2_with (fail); apply postT_val rfl (Below.refl _ _); simp only [valAt, Array.getD_eq_getD_getElem?, List.getElem?_toArray, List.getElem?_cons_succ, List.getElem?_cons_zero, Option.getD_some]; exact rfl)); (try simp only [Act.put, List.setIfInBounds_toArray, List.set_cons_zero, List.set_cons_succ])
      (apply wpT_exact; · (intro w' hC hf; unfold Gives; obtain ⟨c0, c1, c2, c3⟩ := HC.out w' (HBB.out.trans (hC.mono HBB.out.size)); have q0 := (hC.cell (p := ⟨gb, go, none⟩) hgb).trans HQ0.out; have q1 := (hC.cell (p := ⟨gb, go + 1, none⟩) hgb).trans HQ1.out; clear hf hC; go_wp2_with (fail); apply postT_val rfl (Below.refl _ _); simp only [valAt, Array.getD_eq_getD_getElem?, List.getElem?_toArray, List.getElem?_cons_succ, List.getElem?_cons_zero, Option.getD_some]; exact rfl)); (try simp only [Act.put, List.setIfInBounds_toArray, List.set_cons_zero, List.set_cons_succ])
      (apply wpT_exact; · (intro w' hC hf; unfold Gives; obtain ⟨c0, c1, c2, c3⟩ := HC.out w' (HBB.out.trans (hC.mono HBB.out.size)); have q0 := (hC.cell (p := ⟨gb, go, none⟩) hgb).trans HQ0.out; have q1 := (hC.cell (p := ⟨gb, go + 1, none⟩) hgb).trans HQ1.out; clear hf hC; go_wp2_with (fail); apply postT_val rfl (Below.refl _ _); simp only [valAt, Array.getD_eq_getD_getElem?, List.getElem?_toArray, List.getElem?_cons_succ, List.getElem?_cons_zero, Option.getD_some]; exact rfl)); (try simp only [Act.put, List.setIfInBounds_toArray, List.set_cons_zero, List.set_cons_succ])
      (apply wpT_exact; · (intro w' hC hf; unfold Gives; obtain ⟨c0, c1, c2, c3⟩ := HC.out w' (HBB.out.trans (hC.mono HBB.out.size)); have q0 := (hC.cell (p := ⟨gb, go, none⟩) hgb).trans HQ0.out; have q1 := (hC.cell (p := ⟨gb, go + 1, none⟩) hgb).trans HQ1.out; clear hf hC; go_wp2_with (fail); apply postT_val rfl (Below.refl _ _); simp only [valAt, Array.getD_eq_getD_getElem?, List.getElem?_toArray, List.getElem?_cons_succ, List.getElem?_cons_zero, Option.getD_some]; exact rfl)); (try simp only [Act.put, List.setIfInBounds_toArray, List.set_cons_zero, List.set_cons_succ])
      (apply wpT_exact; · (intro w' hC hf; unfold Gives; obtain ⟨c0, c1, c2, c3⟩ := HC.out w' (HBB.out.trans (hC.mono HBB.out.size)); have q0 := (hC.cell (p := ⟨gb, go, none⟩) hgb).trans HQ0.out; have q1 := (hC.cell (p := ⟨gb, go + 1, none⟩) hgb).trans HQ1.out; clear hf hC; go_wp2_with (fail); apply postT_val rfl (Below.refl _ _); simp only [valAt, Array.getD_eq_getD_getElem?, List.getElem?_toArray, List.getElem?_cons_succ, List.getElem?_cons_zero, Option.getD_some]; exact rfl)); (try simp only [Act.put, List.setIfInBounds_toArray, List.set_cons_zero, List.set_cons_succ])
      (apply wpT_exact; · (intro w' hC hf; unfold Gives; obtain ⟨c0, c1, c2, c3⟩ := HC.out w' (HBB.out.trans (hC.mono HBB.out.size)); have q0 := (hC.cell (p := ⟨gb, go, none⟩) hgb).trans HQ0.out; have q1 := (hC.cell (p := ⟨gb, go + 1, none⟩) hgb).trans HQ1.out; clear hf hC; go_wp2_with (fail); apply postT_val rfl (Below.refl _ _); simp only [valAt, Array.getD_eq_getD_getElem?, List.getElem?_toArray, List.getElem?_cons_succ, List.getElem?_cons_zero, Option.getD_some]; exact rfl)); (try simp only [Act.put, List.setIfInBounds_toArray, List.set_cons_zero, List.set_cons_succ])
      (apply wpT_exact; · (intro w' hC hf; unfold Gives; obtain ⟨c0, c1, c2, c3⟩ := HC.out w' (HBB.out.trans (hC.mono HBB.out.size)); have q0 := (hC.cell (p := ⟨gb, go, none⟩) hgb).trans HQ0.out; have q1 := (hC.cell (p := ⟨gb, go + 1, none⟩) hgb).trans HQ1.out; clear hf hC; go_wp2_with (fail); apply postT_val rfl (Below.refl _ _); simp only [valAt, Array.getD_eq_getD_getElem?, List.getElem?_toArray, List.getElem?_cons_succ, List.getElem?_cons_zero, Option.getD_some]; exact rfl)); (try simp only [Act.put, List.setIfInBounds_toArray, List.set_cons_zero, List.set_cons_succ])
      (apply wpT_exact; · (intro w' hC hf; unfold Gives; obtain ⟨c0, c1, c2, c3⟩ := HC.out w' (HBB.out.trans (hC.mono HBB.out.size)); have q0 := (hC.cell (p := ⟨gb, go, none⟩) hgb).trans HQ0.out; have q1 := (hC.cell (p := ⟨gb, go + 1, none⟩) hgb).trans HQ1.out; clear hf hC; go_wp2_with (fail); apply postT_val rfl (Below.refl _ _); simp only [valAt, Array.getD_eq_getD_getElem?, List.getElem?_toArray, List.getElem?_cons_succ, List.getElem?_cons_zero, Option.getD_some]; exact rfl)); (try simp only [Act.put, List.setIfInBounds_toArray, List.set_cons_zero, List.set_cons_succ])
      (apply wpT_exact; · (intro w' hC hf; unfold Gives; obtain ⟨c0, c1, c2, c3⟩ := HC.out w' (HBB.out.trans (hC.mono HBB.out.size)); have q0 := (hC.cell (p := ⟨gb, go, none⟩) hgb).trans HQ0.out; have q1 := (hC.cell (p := ⟨gb, go + 1, none⟩) hgb).trans HQ1.out; clear hf hC; go_wp2_with (fail); apply postT_val rfl (Below.refl _ _); simp only [valAt, Array.getD_eq_getD_getElem?, List.getElem?_toArray, List.getElem?_cons_succ, List.getElem?_cons_zero, Option.getD_some]; exact rfl)); (try simp only [Act.put, List.setIfInBounds_toArray, List.set_cons_zero, List.set_cons_succ])
      (apply wpT_exact; · (intro w' hC hf; unfold Gives; obtain ⟨c0, c1, c2, c3⟩ := HC.out w' (HBB.out.trans (hC.mono HBB.out.size)); have q0 := (hC.cell (p := ⟨gb, go, none⟩) hgb).trans HQ0.out; have q1 := (hC.cell (p := ⟨gb, go + 1, none⟩) hgb).trans HQ1.out; clear hf hC; go_wp2_with (fail); apply postT_val rfl (Below.refl _ _); simp only [valAt, Array.getD_eq_getD_getElem?, List.getElem?_toArray, List.getElem?_cons_succ, List.getElem?_cons_zero, Option.getD_some]; exact rfl)); (try simp only [Act.put, List.setIfInBounds_toArray, List.set_cons_zero, List.set_cons_succ])
      (apply wpT_exact; · (intro w' hC hf; unfold Gives; obtain ⟨c0, c1, c2, c3⟩ := HC.out w' (HBB.out.trans (hC.mono HBB.out.size)); have q0 := (hC.cell (p := ⟨gb, go, none⟩) hgb).trans HQ0.out; have q1 := (hC.cell (p := ⟨gb, go + 1, none⟩) hgb).trans HQ1.out; clear hf hC; go_wp2_with (fail); apply postT_val rfl (Below.refl _ _); simp only [valAt, Array.getD_eq_getD_getElem?, List.getElem?_toArray, List.getElem?_cons_succ, List.getElem?_cons_zero, Option.getD_some]; exact rfl)); (try simp only [Act.put, List.setIfInBounds_toArray, List.set_cons_zero, List.set_cons_succ])
      (apply wpT_exact; · (intro w' hC hf; unfold Gives; obtain ⟨c0, c1, c2, c3⟩ := HC.out w' (HBB.out.trans (hC.mono HBB.out.size)); have q0 := (hC.cell (p := ⟨gb, go, none⟩) hgb).trans HQ0.out; have q1 := (hC.cell (p := ⟨gb, go + 1, none⟩) hgb).trans HQ1.out; clear hf hC; go_wp2_with (fail); apply postT_val rfl (Below.refl _ _); simp only [valAt, Array.getD_eq_getD_getElem?, List.getElem?_toArray, List.getElem?_cons_succ, List.getElem?_cons_zero, Option.getD_some]; exact rfl)); (try simp only [Act.put, List.setIfInBounds_toArray, List.set_cons_zero, List.set_cons_succ])
      (apply wpT_exact; · (intro w' hC hf; unfold Gives; obtain ⟨c0, c1, c2, c3⟩ := HC.out w' (HBB.out.trans (hC.mono HBB.out.size)); have q0 := (hC.cell (p := ⟨gb, go, none⟩) hgb).trans HQ0.out; have q1 := (hC.cell (p := ⟨gb, go + 1, none⟩) hgb).trans HQ1.out; clear hf hC; go_wp2_with (fail); apply postT_val rfl (Below.refl _ _); simp only [valAt, Array.getD_eq_getD_getElem?, List.getElem?_toArray, List.getElem?_cons_succ, List.getElem?_cons_zero, Option.getD_some]; exact rfl)); (try simp only [Act.put, List.setIfInBounds_toArray, List.set_cons_zero, List.set_cons_succ])
      (apply wpT_exact; · (intro w' hC hf; unfold Gives; obtain ⟨c0, c1, c2, c3⟩ := HC.out w' (HBB.out.trans (hC.mono HBB.out.size)); have q0 := (hC.cell (p := ⟨gb, go, none⟩) hgb).trans HQ0.out; have q1 := (hC.cell (p := ⟨gb, go + 1, none⟩) hgb).trans HQ1.out; clear hf hC; go_wp2_with (fail); apply postT_val rfl (Below.refl _ _); simp only [valAt, Array.getD_eq_getD_getElem?, List.getElem?_toArray, List.getElem?_cons_succ, List.getElem?_cons_zero, Option.getD_some]; exact rfl)); (try simp only [Act.put, List.setIfInBounds_toArray, List.set_cons_zero, List.set_cons_succ])
      (apply wpT_exact; · (intro w' hC hf; unfold Gives; obtain ⟨c0, c1, c2, c3⟩ := HC.out w' (HBB.out.trans (hC.mono HBB.out.size)); have q0 := (hC.cell (p := ⟨gb, go, none⟩) hgb).trans HQ0.out; have q1 := (hC.cell (p := ⟨gb, go + 1, none⟩) hgb).trans HQ1.out; clear hf hC; go_wp2_with (fail); apply postT_val rfl (Below.refl _ _); simp only [valAt, Array.getD_eq_getD_getElem?, List.getElem?_toArray, List.getElem?_cons_succ, List.getElem?_cons_zero, Option.getD_some]; exact rfl)); (try simp only [Act.put, List.setIfInBounds_toArray, List.set_cons_zero, List.set_cons_succ])
      (apply wpT_exact; · (intro w' hC hf; unfold Gives; obtain ⟨c0, c1, c2, c3⟩ := HC.out w' (HBB.out.trans (hC.mono HBB.out.size)); have q0 := (hC.cell (p := ⟨gb, go, none⟩) hgb).trans HQ0.out; have q1 := (hC.cell (p := ⟨gb, go + 1, none⟩) hgb).trans HQ1.out; clear hf hC; go_wp2_with (fail); apply postT_val rfl (Below.refl _ _); simp only [valAt, Array.getD_eq_getD_getElem?, List.getElem?_toArray, List.getElem?_cons_succ, List.getElem?_cons_zero, Option.getD_some]; exact rfl)); (try simp only [Act.put, List.setIfInBounds_toArray, List.set_cons_zero, List.set_cons_succ])
      (apply wpT_exact; · (intro w' hC hf; unfold Gives; obtain ⟨c0, c1, c2, c3⟩ := HC.out w' (HBB.out.trans (hC.mono HBB.out.size)); have q0 := (hC.cell (p := ⟨gb, go, none⟩) hgb).trans HQ0.out; have q1 := (hC.cell (p := ⟨gb, go + 1, none⟩) hgb).trans HQ1.out; clear hf hC; go_wp2_with (fail); apply postT_val rfl (Below.refl _ _); simp only [valAt, Array.getD_eq_getD_getElem?, List.getElem?_toArray, List.getElem?_cons_succ, List.getElem?_cons_zero, Option.getD_some]; exact rfl)); (try simp only [Act.put, List.setIfInBounds_toArray, List.set_cons_zero, List.set_cons_succ])
      (apply wpT_exact; · (intro w' hC hf; unfold Gives; obtain ⟨c0, c1, c2, c3⟩ := HC.out w' (HBB.out.trans (hC.mono HBB.out.size)); have q0 := (hC.cell (p := ⟨gb, go, none⟩) hgb).trans HQ0.out; have q1 := (hC.cell (p := ⟨gb, go + 1, none⟩) hgb).trans HQ1.out; clear hf hC; go_wp2_with (fail); apply postT_val rfl (Below.refl _ _); simp only [valAt, Array.getD_eq_getD_getElem?, List.getElem?_toArray, List.getElem?_cons_succ, List.getElem?_cons_zero, Option.getD_some]; exact rfl)); (try simp only [Act.put, List.setIfInBounds_toArray, List.set_cons_zero, List.set_cons_succ])
      (apply wpT_exact; · (intro w' hC hf; unfold Gives; obtain ⟨c0, c1, c2, c3⟩ := HC.out w' (HBB.out.trans (hC.mono HBB.out.size)); have q0 := (hC.cell (p := ⟨gb, go, none⟩) hgb).trans HQ0.out; have q1 := (hC.cell (p := ⟨gb, go + 1, none⟩) hgb).trans HQ1.out; clear hf hC; go_wp2_with (fail); apply postT_val rfl (Below.refl _ _); simp only [valAt, Array.getD_eq_getD_getElem?, List.getElem?_toArray, List.getElem?_cons_succ, List.getElem?_cons_zero, Option.getD_some]; exact rfl)); (try simp only [Act.put, List.setIfInBounds_toArray, List.set_cons_zero, List.set_cons_succ])
      (apply wpT_exact; · (intro w' hC hf; unfold Gives; obtain ⟨c0, c1, c2, c3⟩ := HC.out w' (HBB.out.trans (hC.mono HBB.out.size)); have q0 := (hC.cell (p := ⟨gb, go, none⟩) hgb).trans HQ0.out; have q1 := (hC.cell (p := ⟨gb, go + 1, none⟩) hgb).trans HQ1.out; clear hf hC; go_wp2_with (fail); apply postT_val rfl (Below.refl _ _); simp only [valAt, Array.getD_eq_getD_getElem?, List.getElem?_toArray, List.getElem?_cons_succ, List.getElem?_cons_zero, Option.getD_some]; exact rfl)); (try simp only [Act.put, List.setIfInBounds_toArray, List.set_cons_zero, List.set_cons_succ])
      (apply wpT_exact; · (intro w' hC hf; unfold Gives; obtain ⟨c0, c1, c2, c3⟩ := HC.out w' (HBB.out.trans (hC.mono HBB.out.size)); have q0 := (hC.cell (p := ⟨gb, go, none⟩) hgb).trans HQ0.out; have q1 := (hC.cell (p := ⟨gb, go + 1, none⟩) hgb).trans HQ1.out; clear hf hC; go_wp2_with (fail); apply postT_val rfl (Below.refl _ _); simp only [valAt, Array.getD_eq_getD_getElem?, List.getElem?_toArray, List.getElem?_cons_succ, List.getElem?_cons_zero, Option.getD_some]; exact rfl)); (try simp only [Act.put, List.setIfInBounds_toArray, List.set_cons_zero, List.set_cons_succ])
      (apply wpT_exact; · (intro w' hC hf; unfold Gives; obtain ⟨c0, c1, c2, c3⟩ := HC.out w' (HBB.out.trans (hC.mono HBB.out.size)); have q0 := (hC.cell (p := ⟨gb, go, none⟩) hgb).trans HQ0.out; have q1 := (hC.cell (p := ⟨gb, go + 1, none⟩) hgb).trans HQ1.out; clear hf hC; go_wp2_with (fail); apply postT_val rfl (Below.refl _ _); simp only [valAt, Array.getD_eq_getD_getElem?, List.getElem?_toArray, List.getElem?_cons_succ, List.getElem?_cons_zero, Option.getD_some]; exact rfl)); (try simp only [Act.put, List.setIfInBounds_toArray, List.set_cons_zero, List.set_cons_succ])
      (apply wpT_exact; · (intro w' hC hf; unfold Gives; obtain ⟨c0, c1, c2, c3⟩ := HC.out w' (HBB.out.trans (hC.mono HBB.out.size)); have q0 := (hC.cell (p := ⟨gb, go, none⟩) hgb).trans HQ0.out; have q1 := (hC.cell (p := ⟨gb, go + 1, none⟩) hgb).trans HQ1.out; clear hf hC; go_wp2_with (fail); apply postT_val rfl (Below.refl _ _); simp only [valAt, Array.getD_eq_getD_getElem?, List.getElem?_toArray, List.getElem?_cons_succ, List.getElem?_cons_zero, Option.getD_some]; exact rfl)); (try simp only [Act.put, List.setIfInBounds_toArray, List.set_cons_zero, List.set_cons_succ])
      (apply wpT_exact; · (intro w' hC hf; unfold Gives; obtain ⟨c0, c1, c2, c3⟩ := HC.out w' (HBB.out.trans (hC.mono HBB.out.size)); have q0 := (hC.cell (p := ⟨gb, go, none⟩) hgb).trans HQ0.out; have q1 := (hC.cell (p := ⟨gb, go + 1, none⟩) hgb).trans HQ1.out; clear hf hC; go_wp2_with (fail); apply postT_val rfl (Below.refl _ _); simp only [valAt, Array.getD_eq_getD_getElem?, List.getElem?_toArray, List.getElem?_cons_succ, List.getElem?_cons_zero, Option.getD_some]; exact rfl)); (try simp only [Act.put, List.setIfInBounds_toArray, List.set_cons_zero, List.set_cons_succ])
      (apply wpT_exact; · (intro w' hC hf; unfold Gives; obtain ⟨c0, c1, c2, c3⟩ := HC.out w' (HBB.out.trans (hC.mono HBB.out.size)); have q0 := (hC.cell (p := ⟨gb, go, none⟩) hgb).trans HQ0.out; have q1 := (hC.cell (p := ⟨gb, go + 1, none⟩) hgb).trans HQ1.out; clear hf hC; go_wp2_with (fail); apply postT_val rfl (Below.refl _ _); simp only [valAt, Array.getD_eq_getD_getElem?, List.getElem?_toArray, List.getElem?_cons_succ, List.getElem?_cons_zero, Option.getD_some]; exact rfl)); (try simp only [Act.put, List.setIfInBounds_toArray, List.set_cons_zero, List.set_cons_succ])
      (apply wpT_exact; · (intro w' hC hf; unfold Gives; obtain ⟨c0, c1, c2, c3⟩ := HC.out w' (HBB.out.trans (hC.mono HBB.out.size)); have q0 := (hC.cell (p := ⟨gb, go, none⟩) hgb).trans HQ0.out; have q1 := (hC.cell (p := ⟨gb, go + 1, none⟩) hgb).trans HQ1.out; clear hf hC; go_wp2_with (fail); apply postT_val rfl (Below.refl _ _); simp only [valAt, Array.getD_eq_getD_getElem?, List.getElem?_toArray, List.getElem?_cons_succ, List.getElem?_cons_zero, Option.getD_some]; exact rfl)); (try simp only [Act.put, List.setIfInBounds_toArray, List.set_cons_zero, List.set_cons_succ])
      (apply wpT_exact; · (intro w' hC hf; unfold Gives; obtain ⟨c0, c1, c2, c3⟩ := HC.out w' (HBB.out.trans (hC.mono HBB.out.size)); have q0 := (hC.cell (p := ⟨gb, go, none⟩) hgb).trans HQ0.out; have q1 := (hC.cell (p := ⟨gb, go + 1, none⟩) hgb).trans HQ1.out; clear hf hC; go_wp2_with (fail); apply postT_val rfl (Below.refl _ _); simp only [valAt, Array.getD_eq_getD_getElem?, List.getElem?_toArray, List.getElem?_cons_succ, List.getElem?_cons_zero, Option.getD_some]; exact rfl)); (try simp only [Act.put, List.setIfInBounds_toArray, List.set_cons_zero, List.set_cons_succ])
      (apply wpT_exact; · (intro w' hC hf; unfold Gives; obtain ⟨c0, c1, c2, c3⟩ := HC.out w' (HBB.out.trans (hC.mono HBB.out.size)); have q0 := (hC.cell (p := ⟨gb, go, none⟩) hgb).trans HQ0.out; have q1 := (hC.cell (p := ⟨gb, go + 1, none⟩) hgb).trans HQ1.out; clear hf hC; go_wp2_with (fail); apply postT_val rfl (Below.refl _ _); simp only [valAt, Array.getD_eq_getD_getElem?, List.getElem?_toArray, List.getElem?_cons_succ, List.getElem?_cons_zero, Option.getD_some]; exact rfl)); (try simp only [Act.put, List.setIfInBounds_toArray, List.set_cons_zero, List.set_cons_succ])
      (apply wpT_exact; · (intro w' hC hf; unfold Gives; obtain ⟨c0, c1, c2, c3⟩ := HC.out w' (HBB.out.trans (hC.mono HBB.out.size)); have q0 := (hC.cell (p := ⟨gb, go, none⟩) hgb).trans HQ0.out; have q1 := (hC.cell (p := ⟨gb, go + 1, none⟩) hgb).trans HQ1.out; clear hf hC; go_wp2_with (fail); apply postT_val rfl (Below.refl _ _); simp only [valAt, Array.getD_eq_getD_getElem?, List.getElem?_toArray, List.getElem?_cons_succ, List.getElem?_cons_zero, Option.getD_some]; exact rfl)); (try simp only [Act.put, List.setIfInBounds_toArray, List.set_cons_zero, List.set_cons_succ])
      (apply wpT_exact; · (intro w' hC hf; unfold Gives; obtain ⟨c0, c1, c2, c3⟩ := HC.out w' (HBB.out.trans (hC.mono HBB.out.size)); have q0 := (hC.cell (p := ⟨gb, go, none⟩) hgb).trans HQ0.out; have q1 := (hC.cell (p := ⟨gb, go + 1, none⟩) hgb).trans HQ1.out; clear hf hC; go_wp2_with (fail); apply postT_val rfl (Below.refl _ _); simp only [valAt, Array.getD_eq_getD_getElem?, List.getElem?_toArray, List.getElem?_cons_succ, List.getElem?_cons_zero, Option.getD_some]; exact rfl)); (try simp only [Act.put, List.setIfInBounds_toArray, List.set_cons_zero, List.set_cons_succ])
      (apply wpT_exact; · (intro w' hC hf; unfold Gives; obtain ⟨c0, c1, c2, c3⟩ := HC.out w' (HBB.out.trans (hC.mono HBB.out.size)); have q0 := (hC.cell (p := ⟨gb, go, none⟩) hgb).trans HQ0.out; have q1 := (hC.cell (p := ⟨gb, go + 1, none⟩) hgb).trans HQ1.out; clear hf hC; go_wp2_with (fail); apply postT_val rfl (Below.refl _ _); simp only [valAt, Array.getD_eq_getD_getElem?, List.getElem?_toArray, List.getElem?_cons_succ, List.getElem?_cons_zero, Option.getD_some]; exact rfl)); (try simp only [Act.put, List.setIfInBounds_toArray, List.set_cons_zero, List.set_cons_succ])
      (apply wpT_exact; · (intro w' hC hf; unfold Gives; obtain ⟨c0, c1, c2, c3⟩ := HC.out w' (HBB.out.trans (hC.mono HBB.out.size)); have q0 := (hC.cell (p := ⟨gb, go, none⟩) hgb).trans HQ0.out; have q1 := (hC.cell (p := ⟨gb, go + 1, none⟩) hgb).trans HQ1.out; clear hf hC; go_wp2_with (fail); apply postT_val rfl (Below.refl _ _); simp only [valAt, Array.getD_eq_getD_getElem?, List.getElem?_toArray, List.getElem?_cons_succ, List.getElem?_cons_zero, Option.getD_some]; exact rfl)); (try simp only [Act.put, List.setIfInBounds_toArray, List.set_cons_zero, List.set_cons_succ])
      (apply wpT_exact; · (intro w' hC hf; unfold Gives; obtain ⟨c0, c1, c2, c3⟩ := HC.out w' (HBB.out.trans (hC.mono HBB.out.size)); have q0 := (hC.cell (p := ⟨gb, go, none⟩) hgb).trans HQ0.out; have q1 := (hC.cell (p := ⟨gb, go + 1, none⟩) hgb).trans HQ1.out; clear hf hC; go_wp2_with (fail); apply postT_val rfl (Below.refl _ _); simp only [valAt, Array.getD_eq_getD_getElem?, List.getElem?_toArray, List.getElem?_cons_succ, List.getElem?_cons_zero, Option.getD_some]; exact rfl)); (try simp only [Act.put, List.setIfInBounds_toArray, List.set_cons_zero, List.set_cons_succ])
      (apply wpT_exact; · (intro w' hC hf; unfold Gives; obtain ⟨c0, c1, c2, c3⟩ := HC.out w' (HBB.out.trans (hC.mono HBB.out.size)); have q0 := (hC.cell (p := ⟨gb, go, none⟩) hgb).trans HQ0.out; have q1 := (hC.cell (p := ⟨gb, go + 1, none⟩) hgb).trans HQ1.out; clear hf hC; go_wp2_with (fail); apply postT_val rfl (Below.refl _ _); simp only [valAt, Array.getD_eq_getD_getElem?, List.getElem?_toArray, List.getElem?_cons_succ, List.getElem?_cons_zero, Option.getD_some]; exact rfl)); (try simp only [Act.put, List.setIfInBounds_toArray, List.set_cons_zero, List.set_cons_succ])
      apply wpT_done
      intro w5 hC _
      have hbb := HBB.out.trans (hC.mono HBB.out.size)
      have hq := HC.out w5 hbb
      obtain ⟨c0, c1, c2, c3⟩ := hq
      have q0 := (hC.cell (p := ⟨gb, go, none⟩) hgb).trans HQ0.out
      have q1 := (hC.cell (p := ⟨gb, go + 1, none⟩) hgb).trans HQ1.out
      clear hC
      trace "two"
      rcases hin with rfl | rfl
      all_goals
        rcases hn with hn | ⟨P, Q, hn, hkP, hQ0, hQ1, hst⟩
        · have HN := Lib.hid hn
          clear hn
          go_wp2_with (first | (go_at_call 26; refine (local_v _ (by omega) (by omega) (by assumption)).mono ?_; rintro e w6 ⟨rfl, hb6⟩; have hbb := hbb.trans (hb6.mono hbb.size); have hq := HC.out _ hbb; obtain ⟨d0, d1, d2, d3⟩ := hq; clear hb6) | (go_at_call 20; refine (lives_any _ (HT0.out.below (HBW.out.trans (hbb.mono HBW.out.size)) hsz)).mono ?_; rintro e w9 ⟨rfl, hb9⟩; have hbb := hbb.trans (hb9.mono hbb.size)))
          go_ret; exact ⟨rfl, HBW.out.trans (hbb.mono HBW.out.size)⟩
        · have HN := Lib.hid hn
          clear hn
          obtain ⟨p1, p2⟩ := hkP
          by_cases e1 : 1440 * P + Q - 1440 * D - I = 1
          · have b1 : (1440 * P + Q - 1440 * D - I == 1) = true := by simpa using e1
            clear e1 hst
            go_wp2_with (first | (go_at_call 26; refine (local_v _ (by omega) (by omega) (by assumption)).mono ?_; rintro e w6 ⟨rfl, hb6⟩; have hbb := hbb.trans (hb6.mono hbb.size); have hq := HC.out _ hbb; obtain ⟨d0, d1, d2, d3⟩ := hq; clear hb6) | (go_at_call 20; refine (lives_any _ (HT0.out.below (HBW.out.trans (hbb.mono HBW.out.size)) hsz)).mono ?_; rintro e w9 ⟨rfl, hb9⟩; have hbb := hbb.trans (hb9.mono hbb.size)))
            go_ret; exact ⟨rfl, HBW.out.trans (hbb.mono HBW.out.size)⟩
          · have b1 : (1440 * P + Q - 1440 * D - I == 1) = false := by simpa using e1
            by_cases e2 : 1440 * P + Q - 1440 * D - I = 1 + S
            · have b2 : (1440 * P + Q - 1440 * D - I == 1 + S) = true := by simpa using e2
              clear e1 e2 hst
              go_wp2_with (first | (go_at_call 26; refine (local_v _ (by omega) (by omega) (by assumption)).mono ?_; rintro e w6 ⟨rfl, hb6⟩; have hbb := hbb.trans (hb6.mono hbb.size); have hq := HC.out _ hbb; obtain ⟨d0, d1, d2, d3⟩ := hq; clear hb6) | (go_at_call 20; refine (lives_any _ (HT0.out.below (HBW.out.trans (hbb.mono HBW.out.size)) hsz)).mono ?_; rintro e w9 ⟨rfl, hb9⟩; have hbb := hbb.trans (hb9.mono hbb.size)))
              go_ret; exact ⟨rfl, HBW.out.trans (hbb.mono HBW.out.size)⟩
            · have b2 : (1440 * P + Q - 1440 * D - I == 1 + S) = false := by simpa using e2
              have b3 : (1440 * P + Q - 1440 * D - I == 1 - S) = true := by unfold StepIs at hst; simp; omega
              clear e1 e2 hst
              go_wp2_with (first | (go_at_call 26; refine (local_v _ (by omega) (by omega) (by assumption)).mono ?_; rintro e w6 ⟨rfl, hb6⟩; have hbb := hbb.trans (hb6.mono hbb.size); have hq := HC.out _ hbb; obtain ⟨d0, d1, d2, d3⟩ := hq; clear hb6) | (go_at_call 20; refine (lives_any _ (HT0.out.below (HBW.out.trans (hbb.mono HBW.out.size)) hsz)).mono ?_; rintro e w9 ⟨rfl, hb9⟩; have hbb := hbb.trans (hb9.mono hbb.size)))
              go_ret; exact ⟨rfl, HBW.out.trans (hbb.mono HBW.out.size)⟩
end Go.Proofs.YtlfgjpidamkpdaaDoor
