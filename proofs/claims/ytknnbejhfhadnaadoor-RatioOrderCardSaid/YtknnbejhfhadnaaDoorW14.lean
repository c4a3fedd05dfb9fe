/- The reference's digits. -/
import Derived.Test.YtknnbejhfhadnaaDoorW13
import Derived.Test.YtknnbejhfhadnaaDoorText
namespace Go.Proofs.YtknnbejhfhadnaaDoor
open Go.RowKit
theorem digit_byte (q : Nat) : ((UInt8.ofNat (48 + q % 10)).toNat : Int) = 48 + ↑q % 10 := by
  rw [UInt8.toNat_ofNat']; omega
/-- One byte in a block of its own. -/
def SlB (b : UInt8) (v : Value) (w : World) : Prop := w.ownsRow 0 5 1 v 1 (byteVals [b])
theorem slB_kept (b : UInt8) : Kept (SlB b) := fun _ _ _ h hb => own_below h hb
set_option maxHeartbeats 4000000 in
theorem rDigits_any (u : Nat) (w : World) (h : u < 10000000000) : Calls Tryd.prog 34 #[.int .i64 (u : Int)] w fun e w' => e = .returned (.string ⟨(Lib.decDigits u).toArray⟩) ∧ Below w.heap.size w w' := by
  induction u using Nat.strongRecOn generalizing w with
  | _ u ih =>
    by_cases h10 : u < 10
    · have b1 : decide ((u : Int) < 10) = true := by simp; omega
      obtain ⟨b, hb⟩ : ∃ b, UInt8.ofNat (48 + u) = b := ⟨_, rfl⟩
      have hd := Lib.hid (show Lib.decDigits u = [b] by rw [Lib.decDigits, dif_pos h10, hb])
      have hown := own_lit (w := w) (base := w.heap.size) (e := 5) (.int .u8 (48 + (u : Int))) (Nat.le_refl _)
      have hcv := run_str_own (P := Tryd.prog) (w.alloc (.cells #[.int .u8 (48 + (u : Int))] 5)) 35 9 5 Tryd.underlying35 Tryd.underlying5 Tryd.underlying9 (l := [b]) (by
        have e : byteVals [b] = [.int .u8 (48 + (u : Int))] := by
          have := digit_byte u
          rw [Nat.mod_eq_of_lt h10, hb] at this
          simp only [byteVals, List.map_cons, List.map_nil]
          rw [this]; congr 2; omega
        rw [e]; exact hown)
      clear ih hown hb
      go_enter Tryd.func34, Tryd.ntmps34
      go_wp2
      go_ret
      exact ⟨by rw [hd.out]; rfl, (Below.refl _ _).alloc (Nat.le_refl _) _⟩
    · have b1 : decide ((u : Int) < 10) = false := by simp; omega
      obtain ⟨q, hq⟩ : ∃ q, u / 10 = q := ⟨_, rfl⟩
      obtain ⟨b, hb⟩ : ∃ b, UInt8.ofNat (48 + u % 10) = b := ⟨_, rfl⟩
      have hd := Lib.hid (show Lib.decDigits u = Lib.decDigits q ++ [b] by rw [Lib.decDigits, dif_neg h10, hb, hq])
      obtain ⟨C, hC⟩ : ∃ C, 48 + (u : Int) % 10 = C := ⟨_, rfl⟩
      have hCb : (b.toNat : Int) = C := by have := digit_byte u; rw [hb] at this; omega
      have wC : IntKind.u8.wrap C = C := by
        have : 0 ≤ C ∧ C ≤ 255 := by omega
        simp only [IntKind.wrap, IntKind.signed, IntKind.bits]; simp; omega
      have wC2 : IntKind.i64.wrap C = C := wrapI (by unfold inI; omega)
      have hq1 : (u : Int).tdiv 10 = (q : Int) := by rw [Int.tdiv_eq_ediv_of_nonneg (by omega)]; omega
      have hq2 : (u : Int) / 10 = (q : Int) := by omega
      have hq3 : (u : Int).tmod 10 = (u : Int) % 10 := Int.tmod_eq_emod_of_nonneg (by omega)
      have wq : IntKind.i64.wrap (q : Int) = q := wrapI (by unfold inI; omega)
      have cr := fun w => ih q (by omega) w (by omega)
      obtain ⟨t, ht⟩ : ∃ t : ByteArray, (⟨(Lib.decDigits q).toArray⟩ : ByteArray) = t := ⟨_, rfl⟩
      rw [ht] at cr
      have CR := Lib.hid cr
      have HT := Lib.hid ht
      have hts : t.size ≤ 10 := by rw [← ht]; exact Rt.decDigits_len q (by omega)
      have hts2 : t.size + 1 < 9223372036854775808 := by omega
      clear cr ih hb hq h ht
      go_enter Tryd.func34, Tryd.ntmps34
      go_wp2
      apply wp_region_typed (C := fun w' => Below w.heap.size w w') (n := 20) (m := 11) (l1 := [_, _, _, _, _, _, _, _, _, _, _]) (l2 := [])
      · rfl
      · rfl
      · kernel_rfl
      · rfl
      · kernel_rfl
      · exact ⟨rfl, rfl, rfl, Nat.le_refl _, fun _ _ => rfl⟩
      · exact fun u u' h hb => h.trans (hb.mono h.size)
      (apply wpT_exact; · (intro w' hC hf; unfold Gives; clear hf hC; go_wp2_with (fail); apply postT_val rfl (Below.refl _ _); simp only [valAt, Array.getD_eq_getD_getElem?, List.getElem?_toArray, List.getElem?_cons_succ, List.getElem?_cons_zero, Option.getD_some]; exact rfl)); (try simp only [Act.put, List.setIfInBounds_toArray, List.set_cons_zero, List.set_cons_succ])
      (apply wpT_exact; · (intro w' hC hf; unfold Gives; clear hf hC; go_wp2_with (fail); apply postT_val rfl (Below.refl _ _); simp only [valAt, Array.getD_eq_getD_getElem?, List.getElem?_toArray, List.getElem?_cons_succ, List.getElem?_cons_zero, Option.getD_some]; exact rfl)); (try simp only [Act.put, List.setIfInBounds_toArray, List.set_cons_zero, List.set_cons_succ])
      (apply wpT_exact; · (intro w' hC hf; unfold Gives; clear hf hC; go_wp2_with (first | (go_at_call 34; ((with_reducible refine (CR.out _).mono ?_)); rintro e w2 ⟨rfl, hb2⟩)); apply postT_val rfl (by first | exact Below.refl _ _ | assumption); simp only [valAt, Array.getD_eq_getD_getElem?, List.getElem?_toArray, List.getElem?_cons_succ, List.getElem?_cons_zero, Option.getD_some]; exact rfl)); (try simp only [Act.put, List.setIfInBounds_toArray, List.set_cons_zero, List.set_cons_succ])
      (apply wpT_exact; · (intro w' hC hf; unfold Gives; clear hf hC; go_wp2_with (fail); apply postT_val rfl (Below.refl _ _); simp only [valAt, Array.getD_eq_getD_getElem?, List.getElem?_toArray, List.getElem?_cons_succ, List.getElem?_cons_zero, Option.getD_some]; exact rfl)); (try simp only [Act.put, List.setIfInBounds_toArray, List.set_cons_zero, List.set_cons_succ])
      (apply wpT_exact; · (intro w' hC hf; unfold Gives; clear hf hC; go_wp2_with (fail); apply postT_val rfl (Below.refl _ _); simp only [valAt, Array.getD_eq_getD_getElem?, List.getElem?_toArray, List.getElem?_cons_succ, List.getElem?_cons_zero, Option.getD_some]; exact rfl)); (try simp only [Act.put, List.setIfInBounds_toArray, List.set_cons_zero, List.set_cons_succ])
      (apply wpT_exact; · (intro w' hC hf; unfold Gives; clear hf hC; go_wp2_with (fail); apply postT_val rfl (Below.refl _ _); simp only [valAt, Array.getD_eq_getD_getElem?, List.getElem?_toArray, List.getElem?_cons_succ, List.getElem?_cons_zero, Option.getD_some]; exact rfl)); (try simp only [Act.put, List.setIfInBounds_toArray, List.set_cons_zero, List.set_cons_succ])
      (apply wpT_exact; · (intro w' hC hf; unfold Gives; clear hf hC; go_wp2_with (fail); apply postT_val rfl (Below.refl _ _); simp only [valAt, Array.getD_eq_getD_getElem?, List.getElem?_toArray, List.getElem?_cons_succ, List.getElem?_cons_zero, Option.getD_some]; exact rfl)); (try simp only [Act.put, List.setIfInBounds_toArray, List.set_cons_zero, List.set_cons_succ])
      apply wpT_typed (slB_kept b)
      · intro w' hC hf; unfold Gives; clear hf hC; go_wp2; apply postT_mk rfl (by go_grown); simp only [valAt, Array.getD_eq_getD_getElem?, List.getElem?_toArray, List.getElem?_cons_succ, List.getElem?_cons_zero, Option.getD_some]
        have := own_lit (w := w') (base := 0) (e := 5) (.int .u8 C) (Nat.zero_le _)
        unfold SlB
        simp only [byteVals, List.map_cons, List.map_nil, hCb]
        exact this
      intro v7; (try simp only [Act.put, List.setIfInBounds_toArray, List.set_cons_zero, List.set_cons_succ])
      apply wpT_exact
      · intro w' hC hf; unfold Gives
        have hcv := run_str_own (P := Tryd.prog) w' 35 9 5 Tryd.underlying35 Tryd.underlying5 Tryd.underlying9 (hf.1 rfl)
        clear hf hC; go_wp2_with fail; apply postT_val rfl (Below.refl _ _); simp only [valAt, Array.getD_eq_getD_getElem?, List.getElem?_toArray, List.getElem?_cons_succ, List.getElem?_cons_zero, Option.getD_some]; exact rfl
      (try simp only [Act.put, List.setIfInBounds_toArray, List.set_cons_zero, List.set_cons_succ])
      (apply wpT_exact; · (intro w' hC hf; unfold Gives; clear hf hC; go_wp2_with (fail); apply postT_val rfl (Below.refl _ _); simp only [valAt, Array.getD_eq_getD_getElem?, List.getElem?_toArray, List.getElem?_cons_succ, List.getElem?_cons_zero, Option.getD_some]; exact rfl)); (try simp only [Act.put, List.setIfInBounds_toArray, List.set_cons_zero, List.set_cons_succ])
      (apply wpT_exact; · (intro w' hC hf; unfold Gives; clear hf hC; go_wp2_with (fail); apply postT_val rfl (Below.refl _ _); simp only [valAt, Array.getD_eq_getD_getElem?, List.getElem?_toArray, List.getElem?_cons_succ, List.getElem?_cons_zero, Option.getD_some]; exact rfl)); (try simp only [Act.put, List.setIfInBounds_toArray, List.set_cons_zero, List.set_cons_succ])
      apply wpT_done
      intro w3 hC _
      go_wp2
      go_ret
      refine ⟨?_, hC⟩
      show Ending.returned (.string (t ++ (⟨#[b]⟩ : ByteArray))) = _
      have e : t ++ (⟨#[b]⟩ : ByteArray) = ⟨(Lib.decDigits q ++ [b]).toArray⟩ := by
        apply ByteArray.ext
        rw [ByteArray.data_append, ← HT.out]
        simp
      rw [hd.out, e]
end Go.Proofs.YtknnbejhfhadnaaDoor
