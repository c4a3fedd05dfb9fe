/- RatioReads: the walk. -/
import Derived.Test.YtknnbejhfhadnaaDoorL8
import Derived.IntWalk
namespace Go.Proofs.YtknnbejhfhadnaaDoor
open Go.RowKit Go.Sort
/-- A slice of n strings, none of them long. -/
def Texts (n : Nat) (v : Value) (w : World) : Prop := ∃ g, v = .slice (some ⟨g, 0, none⟩) n n ∧ g < w.heap.size ∧ ∀ i, i < n → ∃ s : ByteArray, s.size ≤ 40 ∧ w.cell? ⟨g, i, none⟩ = some (.string s)
theorem texts_kept (n : Nat) : Kept (Texts n) := fun _ _ _ ⟨g, h1, h2, h3⟩ hb => ⟨g, h1, by have := hb.size; omega, fun i hi => by
  obtain ⟨s, hs, hc⟩ := h3 i hi
  exact ⟨s, hs, (hb.cell (p := ⟨g, i, none⟩) h2).trans hc⟩⟩
theorem texts_new (w : World) (l : List ByteArray) (t : TypeId) (h : ∀ s ∈ l, s.size ≤ 40) : Texts l.length (.slice (some ⟨w.heap.size, 0, none⟩) l.length l.length) (w.alloc (.cells (l.map Value.string).toArray t)) :=
  ⟨_, rfl, by simp, fun i hi => ⟨l[i], h _ (List.getElem_mem hi), by rw [(Blk.new w t _).cell i]; simp [hi]⟩⟩
theorem short_sz (s : ByteArray) : (shortB s).size ≤ 30 := by
  unfold shortB; split
  · rw [ByteArray.size_extract]; omega
  · omega
set_option maxRecDepth 100000 in
set_option maxHeartbeats 8000000 in
theorem reads_x (at_ : Int) (by_ : UInt8) (raw : ByteArray) (A : Option Addr) (n c : Nat) (L : List Int) (w : World) (ht : TEnv w) (I : Inp A n L w) (hat : inI at_) (hraw : raw.size ≤ 9223372036854775807) :
    Calls Tryd.prog 4 #[.slice A n c, .int .i64 at_, .int .u8 by_.toNat, .string raw] w fun e w' => e = .returned (.bool true) ∧ Below w.heap.size w w' := by
  have T0 := Lib.hid (hold0 w)
  have i0 := at_in L 0 1600 (by omega) (by omega); have i1 := at_in L 1 120 (by omega) (by omega)
  generalize h0 : atL L 0 1600 = a0 at *
  generalize h1 : atL L 1 120 = a1 at *
  obtain ⟨p0, hp0⟩ : ∃ p, som a0 a1 = p := ⟨_, rfl⟩
  have v0 := som_vld a0 a1
  rw [hp0] at v0
  obtain ⟨P0, Q0⟩ := p0
  dsimp only at v0
  obtain ⟨iP, iQ⟩ := vld_in v0
  have c0 := fun w1 (hb : Below w.heap.size w w1) => at_c (c := c) I hb (by omega) (by omega) h0
  have c1 := fun w1 (hb : Below w.heap.size w w1) => at_c (c := c) I hb (by omega) (by omega) h1
  have s0 := fun w => some_c (w := w) i0 i1 hp0
  have tx := fun w => rText_any P0 Q0 w iP iQ
  obtain ⟨S, hS⟩ : ∃ t : ByteArray, (⟨(Rt.txt P0 Q0).toArray⟩ : ByteArray) = t := ⟨_, rfl⟩
  rw [hS] at tx
  have hz : 1 ≤ S.size ∧ S.size ≤ 23 := by
    have e : S.data.toList.length = S.size := Array.length_toList
    have us : S.data.toList = Rt.txt P0 Q0 := by rw [← hS]
    have := Rt.txt_len (P := P0) (Q := Q0)
    have := List.length_pos_iff.2 (Rt.txt_ne v0)
    rw [us] at e; omega
  have a1 := around_bd at_ S.size (by omega)
  have ca := fun w => around_any at_ S.size w hat.1 hat.2
  obtain ⟨k, hk⟩ : ∃ k, around at_ S.size = k := ⟨_, rfl⟩
  rw [hk] at a1 ca
  obtain ⟨ka, kb⟩ := a1
  obtain ⟨k, rfl⟩ := Int.eq_ofNat_of_zero_le ka
  have C0 := Lib.hid c0; have C1 := Lib.hid c1; have S0 := Lib.hid s0; have TX := Lib.hid tx; have CA := Lib.hid ca
  have HV := Lib.hid lives_any
  have HE := Lib.hid ht; have HZ := Lib.hid ht.sz
  obtain ⟨z1, z2⟩ := hz
  clear c0 c1 s0 tx ca hS h0 h1 hp0 i0 i1 iP iQ v0 I ht hk hat
  have hk1 : IntKind.i64.wrap ((k : Int) + 1) = (k : Int) + 1 := IntWalk.i64_in _ (by omega)
  have kc : k ≤ S.size := by omega
  have kd : k + 1 ≤ S.size := by omega
  go_enter Tryd.func4, Tryd.ntmps4
  go_wp2_with (first | (go_at_call 17; ((with_reducible refine (C0.out _ T0.out.bl).mono ?_)); rintro e w2 ⟨rfl, rfl⟩) | (go_at_call 17; ((with_reducible refine (C1.out _ T0.out.bl).mono ?_)); rintro e w2 ⟨rfl, rfl⟩) | (go_at_call 16; ((with_reducible refine (S0.out _).mono ?_)); rintro e wa ⟨rfl, hb2⟩; replace T0 := Lib.hid (T0.out.below hb2); clear hb2) | (go_at_call 15; ((with_reducible refine (TX.out _).mono ?_)); rintro e wb ⟨rfl, hb2⟩; replace T0 := Lib.hid (T0.out.below hb2); clear hb2) | (go_at_call 18; ((with_reducible refine (CA.out _).mono ?_)); rintro e w2 ⟨rfl, rfl⟩))
  apply wp_region_typed (C := fun w' => Hold w w' []) (n := 93) (m := 36) (l1 := [_, _, _, _, _, _, _, _, _, _, _, _, _, _, _, _, _, _, _, _, _, _, _, _, _, _, _, _, _, _, _, _, _, _, _, _]) (l2 := [])
  · rfl
  · rfl
  · kernel_rfl
  · rfl
  · kernel_rfl
  · exact T0.out.drew
  · exact fun u u' h hb => h.below hb
  repeat ((apply wpT_exact; · (intro w' hC hf; unfold Gives; clear hf hC; go_wp2_with (fail); apply postT_val rfl (Below.refl _ _); simp only [valAt, Array.getD_eq_getD_getElem?, List.getElem?_toArray, List.getElem?_cons_succ, List.getElem?_cons_zero, Option.getD_some]; exact rfl)); (try simp only [Act.put, List.setIfInBounds_toArray, List.set_cons_zero, List.set_cons_succ]))
  apply wpT_typed (slB_kept by_)
  · intro w' hC hf; unfold Gives; clear hf hC; go_wp2; apply postT_mk rfl (by go_grown); simp only [valAt, Array.getD_eq_getD_getElem?, List.getElem?_toArray, List.getElem?_cons_succ, List.getElem?_cons_zero, Option.getD_some]; exact own_lit _ (Nat.zero_le _)
  intro v32; (try simp only [Act.put, List.setIfInBounds_toArray, List.set_cons_zero, List.set_cons_succ])
  apply wpT_exact
  · intro w' hC hf; unfold Gives
    have hcv := run_str_own (P := Tryd.prog) w' 35 9 5 Tryd.underlying35 Tryd.underlying5 Tryd.underlying9 (hf.1 rfl)
    clear hf hC; go_wp2_with fail; apply postT_val rfl (Below.refl _ _); simp only [valAt, Array.getD_eq_getD_getElem?, List.getElem?_toArray, List.getElem?_cons_succ, List.getElem?_cons_zero, Option.getD_some]; exact rfl
  (try simp only [Act.put, List.setIfInBounds_toArray, List.set_cons_zero, List.set_cons_succ])
  repeat ((apply wpT_exact; · (intro w' hC hf; unfold Gives; clear hf hC; go_wp2_with (fail); apply postT_val rfl (Below.refl _ _); simp only [valAt, Array.getD_eq_getD_getElem?, List.getElem?_toArray, List.getElem?_cons_succ, List.getElem?_cons_zero, Option.getD_some]; exact rfl)); (try simp only [Act.put, List.setIfInBounds_toArray, List.set_cons_zero, List.set_cons_succ]))
  apply wpT_typed (slB_kept by_)
  · intro w' hC hf; unfold Gives; clear hf hC; go_wp2; apply postT_mk rfl (by go_grown); simp only [valAt, Array.getD_eq_getD_getElem?, List.getElem?_toArray, List.getElem?_cons_succ, List.getElem?_cons_zero, Option.getD_some]; exact own_lit _ (Nat.zero_le _)
  intro v52; (try simp only [Act.put, List.setIfInBounds_toArray, List.set_cons_zero, List.set_cons_succ])
  apply wpT_exact
  · intro w' hC hf; unfold Gives
    have hcv := run_str_own (P := Tryd.prog) w' 35 9 5 Tryd.underlying35 Tryd.underlying5 Tryd.underlying9 (hf.1 rfl)
    clear hf hC; go_wp2_with fail; apply postT_val rfl (Below.refl _ _); simp only [valAt, Array.getD_eq_getD_getElem?, List.getElem?_toArray, List.getElem?_cons_succ, List.getElem?_cons_zero, Option.getD_some]; exact rfl
  (try simp only [Act.put, List.setIfInBounds_toArray, List.set_cons_zero, List.set_cons_succ])
  repeat ((apply wpT_exact; · (intro w' hC hf; unfold Gives; clear hf hC; go_wp2_with (fail); apply postT_val rfl (Below.refl _ _); simp only [valAt, Array.getD_eq_getD_getElem?, List.getElem?_toArray, List.getElem?_cons_succ, List.getElem?_cons_zero, Option.getD_some]; exact rfl)); (try simp only [Act.put, List.setIfInBounds_toArray, List.set_cons_zero, List.set_cons_succ]))
  apply wpT_exact
  · intro w' hC hf; unfold Gives; clear hf hC
    go_wp2_with (go_at_call 19; refine (short_any _ _ hraw).mono ?_; rintro e w2 ⟨rfl, rfl⟩)
    apply postT_val rfl (Below.refl _ _); simp only [valAt, Array.getD_eq_getD_getElem?, List.getElem?_toArray, List.getElem?_cons_succ, List.getElem?_cons_zero, Option.getD_some]; exact rfl
  (try simp only [Act.put, List.setIfInBounds_toArray, List.set_cons_zero, List.set_cons_succ])
  apply wpT_typed (texts_kept 17)
  · intro w' hC hf; unfold Gives
    clear hf hC; go_wp2
    apply postT_mk rfl (by go_grown); simp only [valAt, Array.getD_eq_getD_getElem?, List.getElem?_toArray, List.getElem?_cons_succ, List.getElem?_cons_zero, Option.getD_some]
    refine texts_new w' [_, _, _, _, _, _, _, _, _, _, _, _, _, _, _, _, _] 9 ?_
    intro s hs
    have hsr := short_sz raw
    simp only [List.mem_cons, List.not_mem_nil, or_false] at hs
    rcases hs with rfl | rfl | rfl | rfl | rfl | rfl | rfl | rfl | rfl | rfl | rfl | rfl | rfl | rfl | rfl | rfl | rfl <;> first | omega | decide | (simp only [ByteArray.size_append, ByteArray.size_extract, show (ByteArray.mk #[by_]).size = 1 from rfl]; omega)
  intro v61; (try simp only [Act.put, List.setIfInBounds_toArray, List.set_cons_zero, List.set_cons_succ])
  apply wpT_typed (texts_kept 17)
  · intro w' hC hf; unfold Gives; have hT := hf.1 rfl; clear hf hC; go_wp2; apply postT_mk rfl (Below.refl _ _); simp only [valAt, Array.getD_eq_getD_getElem?, List.getElem?_toArray, List.getElem?_cons_succ, List.getElem?_cons_zero, Option.getD_some]; exact hT
  intro v11; (try simp only [Act.put, List.setIfInBounds_toArray, List.set_cons_zero, List.set_cons_succ])
  apply wpT_done
  intro w2 hC hf
  have hT := hf.1
  clear hf
  replace T0 := Lib.hid hC
  clear hC
  obtain ⟨g, rfl, hg, hcs⟩ := hT
  have HC := Lib.hid hcs
  clear hcs
  go_wp2
  go_loopw [12] (fun i wr => ∃ j : Nat, j ≤ 17 ∧ i = .int .i64 j ∧ Below w2.heap.size w2 wr) (fun i _ => 17 - (intOf i).toNat)
  case atStart => exact ⟨0, by omega, rfl, Below.refl _ _⟩
  case round =>
    obtain ⟨j, hj, rfl, hbr⟩ := hrel
    replace T0 := Lib.hid (T0.out.below hbr)
    by_cases hlt : j < 17
    · have hp : (j : Int) < 17 := by omega
      obtain ⟨s, hs, hc0⟩ := HC.out j hlt
      have hc : wr.cell? ⟨g, j, none⟩ = some (.string s) := (hbr.cell (p := ⟨g, j, none⟩) hg).trans hc0
      have hg2 : g < wr.heap.size := by have := hbr.size; omega
      have HC2 := Lib.hid hc
      clear hc0
      have pa := fun w (h : TEnv w) => parse_any s w hs h
      have pb := fun w (h : TEnv w) => rParse_any s w hs h
      generalize Rt.par s.data.toList = R at pa pb
      obtain ⟨X, Y, Z⟩ := R
      unfold TupIs at pa pb
      dsimp only at pa pb
      have PA := Lib.hid pa; have PB := Lib.hid pb
      have HR := Lib.hid hbr
      have U0 := Lib.hid (hold0 wr)
      clear hbr pa pb
      go_wp2_with (first
        | (go_at_call 20; ((with_reducible refine (PA.out _ (HE.out.below (T0.out.bl.trans (U0.out.bl.mono T0.out.bl.size)) HZ.out)).mono ?_)); rintro e w3 ⟨rfl, hb3⟩; replace U0 := Lib.hid (U0.out.below hb3); clear hb3; replace U0 := Lib.hid (U0.out.new (two X Y) 23 rfl); have hc := (U0.out.bl.cell (p := ⟨g, j, none⟩) hg2).trans HC2.out)
        | (go_at_call 21; ((with_reducible refine (PB.out _ (HE.out.below (T0.out.bl.trans (U0.out.bl.mono T0.out.bl.size)) HZ.out)).mono ?_)); rintro e w3 ⟨rfl, hb3⟩; replace U0 := Lib.hid (U0.out.below hb3); clear hb3; replace U0 := Lib.hid (U0.out.new (two X Y) 23 rfl); obtain ⟨x0, y0, _, _⟩ := cells_of U0.out.at1; obtain ⟨x1, y1, _, _⟩ := cells_of U0.out.tl.at1))
      go_roundw
      case rel => exact ⟨j + 1, by omega, by go_num, HR.out.trans (U0.out.bl.mono HR.out.size)⟩
      case measure => simp [intOf]; omega
    · have hp : ¬ (j : Int) < 17 := by omega
      go_wp2_with (go_at_call 14; refine (HV.out _ (HE.out.below T0.out.bl HZ.out)).mono ?_; rintro e w3 ⟨rfl, hb3⟩; replace T0 := Lib.hid (T0.out.below hb3))
      go_ret
      exact ⟨rfl, T0.out.bl⟩
end Go.Proofs.YtknnbejhfhadnaaDoor
