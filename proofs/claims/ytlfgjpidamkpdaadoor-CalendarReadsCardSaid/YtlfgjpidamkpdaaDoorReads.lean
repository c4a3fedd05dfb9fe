/- The statement CalendarReads: the walk. -/
import Derived.Test.YtlfgjpidamkpdaaDoorW24
import Derived.Test.YtlfgjpidamkpdaaDoorTyped
import Derived.IntWalk
namespace Go.Proofs.YtlfgjpidamkpdaaDoor
open Go.RowKit
/-- A slice of one byte, laid by the call. -/
def OneByte (c : UInt8) (v : Value) (w : World) : Prop := w.ownsRow 0 5 1 v 1 (byteVals [c])
theorem oneByte_kept (c : UInt8) : Kept (OneByte c) := fun _ _ _ h hb => own_below h hb
/-- A slice of n strings, none of them long. -/
def Texts (n : Nat) (v : Value) (w : World) : Prop := ∃ g, v = .slice (some ⟨g, 0, none⟩) n n ∧ g < w.heap.size ∧ ∀ i, i < n → ∃ s : ByteArray, s.size ≤ 100 ∧ w.cell? ⟨g, i, none⟩ = some (.string s)
theorem texts_kept (n : Nat) : Kept (Texts n) := fun _ _ _ ⟨g, h1, h2, h3⟩ hb => ⟨g, h1, by have := hb.size; omega, fun i hi => by
  obtain ⟨s, hs, hc⟩ := h3 i hi
  exact ⟨s, hs, (hb.cell (p := ⟨g, i, none⟩) h2).trans hc⟩⟩
theorem texts_new (w : World) (l : List ByteArray) (t : TypeId) (h : ∀ s ∈ l, s.size ≤ 100) : Texts l.length (.slice (some ⟨w.heap.size, 0, none⟩) l.length l.length) (w.alloc (.cells (l.map Value.string).toArray t)) :=
  ⟨_, rfl, by simp, fun i hi => ⟨l[i], h _ (List.getElem_mem hi), by rw [(Blk.new w t _).cell i]; simp [hi]⟩⟩
def ShortStr (m : Nat) (v : Value) (_ : World) : Prop := ∃ t : ByteArray, v = .string t ∧ t.size ≤ m
theorem shortStr_kept (m : Nat) : Kept (ShortStr m) := fun _ _ _ h _ => h
theorem ext_size (s : ByteArray) (a b : Nat) : (s.extract a b).size ≤ s.size := by rw [ByteArray.size_extract]; omega
set_option maxRecDepth 10000 in
set_option maxHeartbeats 4000000 in
theorem reads_x (n at_ : Int) (by_ : UInt8) (raw : ByteArray) (w : World) (ht : TEnv w) (hn : inI n) (hat : inI at_) (hraw : raw.size ≤ 9223372036854775807) :
    Calls Tryd.prog 4 #[.int .i64 n, .int .i64 at_, .int .u8 by_.toNat, .string raw] w fun e w' => e = .returned (.bool true) ∧ Below w.heap.size w w' := by
  obtain ⟨n1, n2⟩ := hn; obtain ⟨k1, k2⟩ := hat
  have hb := Below.refl w.heap.size w
  have hsz := ht.sz
  have ht0 := ht
  have s0 := som_known n
  obtain ⟨S, hS⟩ : ∃ S : ByteArray, S = ⟨(Cal.txt (som n)).toArray⟩ := ⟨_, rfl⟩
  have hS10 : S.size = 10 := by
    have := (Cal.txt_parts s0).2.2.2.1
    rw [hS, ByteArray.size]; simp [this]
  have HS := Lib.hid hS
  clear hS
  have a1 := around_bd at_ 10 (by omega)
  obtain ⟨s1, s2⟩ := s0
  have HZ := Lib.hid hS10
  have z1 : S.size ≤ 10 := by omega
  have z2 : 10 ≤ S.size := by omega
  clear hS10
  go_enter Tryd.func4, Tryd.ntmps4
  go_wp2_with (first
    | (go_at_call 10; refine (some_any _ _ (by omega) (by omega)).mono ?_; rintro e w1 ⟨rfl, hb1⟩; have hb := hb.trans (hb1.mono hb.size); clear hb1; have ht := ht0.below hb hsz)
    | (go_at_call 16; refine (rText_any _ _).mono ?_; rintro e w1 ⟨rfl, hb1⟩; rw [← HS.out]; have hb := hb.trans (hb1.mono hb.size); clear hb1; have ht := ht0.below hb hsz)
    | (go_at_call 17; rw [HZ.out]; refine (around_any _ _ _ (by omega) (by omega)).mono ?_; rintro e w' ⟨rfl, rfl⟩))
  generalize around at_ 10 = k at *
  have hk : IntKind.i64.wrap (k + 1) = k + 1 := IntWalk.i64_in _ (by omega)
  obtain ⟨ka, kb⟩ := a1
  obtain ⟨k, rfl⟩ := Int.eq_ofNat_of_zero_le ka
  have kc : k ≤ S.size := by omega
  have kd : k + 1 ≤ S.size := by omega
  have HT := Lib.hid ht; have HB := Lib.hid hb; have HT0 := Lib.hid ht0
  clear ht hb ht0
  apply wp_region_typed (C := fun w' => Below w1.heap.size w1 w') (n := 84)
  · kernel_rfl
  · rfl
  · kernel_rfl
  · exact (Below.refl _ _).trans ⟨rfl, rfl, rfl, Nat.le_refl _, fun _ _ => rfl⟩
  · exact fun u u' h hb => h.trans (hb.mono h.size)
  repeat ((apply wpT_exact; · (intro w' hC hf; unfold Gives; clear hf hC; go_wp2_with fail; apply postT_val rfl (Below.refl _ _); simp only [valAt, Array.getD_eq_getD_getElem?, List.getElem?_toArray, List.getElem?_cons_succ, List.getElem?_cons_zero, Option.getD_some]; exact rfl)); (try simp only [Act.put, List.setIfInBounds_toArray, List.set_cons_zero, List.set_cons_succ]))
  apply wpT_typed (oneByte_kept by_)
  · intro w' hC hf; unfold Gives; clear hf hC; go_wp2; apply postT_mk rfl (by go_grown); simp only [valAt, Array.getD_eq_getD_getElem?, List.getElem?_toArray, List.getElem?_cons_succ, List.getElem?_cons_zero, Option.getD_some]; exact own_lit _ (Nat.zero_le _)
  intro v29; (try simp only [Act.put, List.setIfInBounds_toArray, List.set_cons_zero, List.set_cons_succ])
  apply wpT_exact
  · intro w' hC hf; unfold Gives
    have hcv := run_str_own (P := Tryd.prog) w' 33 9 5 Tryd.underlying33 Tryd.underlying5 Tryd.underlying9 (hf.1 rfl)
    clear hf hC; go_wp2_with fail; apply postT_val rfl (Below.refl _ _); simp only [valAt, Array.getD_eq_getD_getElem?, List.getElem?_toArray, List.getElem?_cons_succ, List.getElem?_cons_zero, Option.getD_some]; exact rfl
  (try simp only [Act.put, List.setIfInBounds_toArray, List.set_cons_zero, List.set_cons_succ])
  repeat ((apply wpT_exact; · (intro w' hC hf; unfold Gives; clear hf hC; go_wp2_with fail; apply postT_val rfl (Below.refl _ _); simp only [valAt, Array.getD_eq_getD_getElem?, List.getElem?_toArray, List.getElem?_cons_succ, List.getElem?_cons_zero, Option.getD_some]; exact rfl)); (try simp only [Act.put, List.setIfInBounds_toArray, List.set_cons_zero, List.set_cons_succ]))
  apply wpT_typed (oneByte_kept by_)
  · intro w' hC hf; unfold Gives; clear hf hC; go_wp2; apply postT_mk rfl (by go_grown); simp only [valAt, Array.getD_eq_getD_getElem?, List.getElem?_toArray, List.getElem?_cons_succ, List.getElem?_cons_zero, Option.getD_some]; exact own_lit _ (Nat.zero_le _)
  intro v47; (try simp only [Act.put, List.setIfInBounds_toArray, List.set_cons_zero, List.set_cons_succ])
  apply wpT_exact
  · intro w' hC hf; unfold Gives
    have hcv := run_str_own (P := Tryd.prog) w' 33 9 5 Tryd.underlying33 Tryd.underlying5 Tryd.underlying9 (hf.1 rfl)
    clear hf hC; go_wp2_with fail; apply postT_val rfl (Below.refl _ _); simp only [valAt, Array.getD_eq_getD_getElem?, List.getElem?_toArray, List.getElem?_cons_succ, List.getElem?_cons_zero, Option.getD_some]; exact rfl
  (try simp only [Act.put, List.setIfInBounds_toArray, List.set_cons_zero, List.set_cons_succ])
  repeat ((apply wpT_exact; · (intro w' hC hf; unfold Gives; clear hf hC; go_wp2_with fail; apply postT_val rfl (Below.refl _ _); simp only [valAt, Array.getD_eq_getD_getElem?, List.getElem?_toArray, List.getElem?_cons_succ, List.getElem?_cons_zero, Option.getD_some]; exact rfl)); (try simp only [Act.put, List.setIfInBounds_toArray, List.set_cons_zero, List.set_cons_succ]))
  apply wpT_typed (shortStr_kept 12)
  · intro w' hC hf; unfold Gives; clear hf hC
    go_wp2_with (go_at_call 21; refine (short_any _ _ hraw).mono ?_; rintro e w2 ⟨⟨t, rfl, hts⟩, rfl⟩)
    apply postT_mk rfl (Below.refl _ _); simp only [valAt, Array.getD_eq_getD_getElem?, List.getElem?_toArray, List.getElem?_cons_succ, List.getElem?_cons_zero, Option.getD_some]; exact ⟨_, rfl, hts⟩
  intro v51; (try simp only [Act.put, List.setIfInBounds_toArray, List.set_cons_zero, List.set_cons_succ])
  apply wpT_typed (texts_kept 10)
  · intro w' hC hf; unfold Gives
    obtain ⟨t, rfl, hts⟩ := hf.1 rfl
    clear hf hC; go_wp2
    apply postT_mk rfl (by go_grown); simp only [valAt, Array.getD_eq_getD_getElem?, List.getElem?_toArray, List.getElem?_cons_succ, List.getElem?_cons_zero, Option.getD_some]
    refine texts_new w' [_, _, _, _, _, _, _, _, _, _] 9 ?_
    intro s hs
    simp only [List.mem_cons, List.not_mem_nil, or_false] at hs
    rcases hs with rfl | rfl | rfl | rfl | rfl | rfl | rfl | rfl | rfl | rfl <;> first | omega | decide | (simp only [ByteArray.size_append, ByteArray.size_extract, show (ByteArray.mk #[by_]).size = 1 from rfl]; omega)
  intro v52; (try simp only [Act.put, List.setIfInBounds_toArray, List.set_cons_zero, List.set_cons_succ])
  apply wpT_typed (texts_kept 10)
  · intro w' hC hf; unfold Gives; have hT := hf.1 rfl; clear hf hC; go_wp2; apply postT_mk rfl (Below.refl _ _); simp only [valAt, Array.getD_eq_getD_getElem?, List.getElem?_toArray, List.getElem?_cons_succ, List.getElem?_cons_zero, Option.getD_some]; exact hT
  intro v11; (try simp only [Act.put, List.setIfInBounds_toArray, List.set_cons_zero, List.set_cons_succ])
  apply wpT_done
  intro w2 hC hf
  have hT := hf.1
  clear hf
  have hb := HB.out.trans (hC.mono HB.out.size)
  clear hC
  obtain ⟨g, rfl, hg, hcs⟩ := hT
  have HC := Lib.hid hcs; have HB2 := Lib.hid hb
  clear hcs hb
  go_wp2
  go_loopw [12] (fun i wr => ∃ j : Nat, j ≤ 10 ∧ i = .int .i64 j ∧ Below w2.heap.size w2 wr) (fun i _ => 10 - (intOf i).toNat)
  case atStart => exact ⟨0, by omega, rfl, Below.refl _ _⟩
  case round =>
    obtain ⟨j, hj, rfl, hbr⟩ := hrel
    by_cases hlt : j < 10
    · have hp : (j : Int) < 10 := by omega
      obtain ⟨s, hs, hc0⟩ := HC.out j hlt
      have hc : wr.cell? ⟨g, j, none⟩ = some (.string s) := (hbr.cell (p := ⟨g, j, none⟩) hg).trans hc0
      clear hc0
      have hb := HB2.out.trans (hbr.mono HB2.out.size)
      have ht := HT0.out.below hb hsz
      have HR := Lib.hid hbr
      clear hbr
      have hb0 := Below.refl wr.heap.size wr
      go_wp2_with (first
        | (go_at_call 22; refine (parse_any _ _ ht (by omega)).mono ?_; rintro e w3 ⟨rfl, hb3⟩; have hb0 := hb0.trans (hb3.mono hb0.size); have hc := (hb3.cell (p := ⟨g, j, none⟩) (World.block_lt_of_cell? _ _ hc)).trans hc; clear hb3)
        | (go_at_call 23; refine (rParse_any _ _).mono ?_; rintro e w3 ⟨rfl, hb3⟩; have hb0 := hb0.trans (hb3.mono hb0.size); clear hb3))
      go_roundw
      case rel => exact ⟨j + 1, by omega, by go_num, HR.out.trans (hb0.mono HR.out.size)⟩
      case measure => simp [intOf]; omega
    · obtain rfl : j = 10 := by omega
      have hb := HB2.out.trans (hbr.mono HB2.out.size)
      have ht := HT0.out.below hb hsz
      go_wp2_with (go_at_call 20; refine (lives_any _ ht).mono ?_; rintro e w3 ⟨rfl, hb3⟩)
      go_ret
      exact ⟨rfl, hb.trans (hb3.mono hb.size)⟩
end Go.Proofs.YtlfgjpidamkpdaaDoor
