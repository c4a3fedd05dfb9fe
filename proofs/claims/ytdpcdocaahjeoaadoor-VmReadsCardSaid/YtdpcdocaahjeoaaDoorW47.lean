/- Spaced: other blanks between tokens. -/
import Derived.Test.YtdpcdocaahjeoaaDoorW28
import Derived.Test.YtdpcdocaahjeoaaDoorM9
import Derived.Test.YtdpcdocaahjeoaaDoorBaseB
namespace Go.Proofs.YtdpcdocaahjeoaaDoor
open Go Go.RowKit
/-- Some string of a bounded size. -/
def StrP (b : Nat) (w : World) (e : Ending) (w' : World) : Prop := ∃ t, e = .returned (.string t) ∧ t.size ≤ b ∧ Below w.heap.size w w'
/-- A token of a slice of tokens. -/
theorem tok_at {G : List Nat} {w : World} {A : Option Addr} {l : List Tk} (h : SlAt G w A (l.map tokI)) (k : Nat) (hk : k < l.length) : ∃ b o, A = some ⟨b, o, none⟩ ∧ w.cell? ⟨b, o + k * 2, none⟩ = some (.int .i64 (l[k].1 : Int)) ∧ w.cell? ⟨b, o + k * 2 + 1, none⟩ = some (.int .i64 (l[k].2 : Int)) := by
  obtain ⟨b, o, us, hA, _, hr, hc⟩ := h.get k (by simpa using hk)
  obtain ⟨u1, t1, rfl, ⟨rfl, _⟩, ⟨rfl, _⟩⟩ := hr
  have c0 := hc 0 _ rfl
  have c1 := hc 1 _ rfl
  simp only [List.getElem_map, tokI] at c0 c1
  exact ⟨b, o, hA, c0, c1⟩
def StrT (n : Nat) (v : Value) (_ : World) : Prop := ∃ u : ByteArray, v = .string u ∧ u.size ≤ n
theorem strT_kept (n : Nat) : Kept (StrT n) := fun _ _ _ h _ => h
def AtStr (n : Nat) (v : Value) (w : World) : Prop := ∃ a u, v = .pointer (some a) ∧ w.cell? a = some (.string u) ∧ u.size ≤ n
theorem atStr_kept (n : Nat) : Kept (AtStr n) := fun _ _ _ ⟨a, u, h1, h2, h3⟩ hb => ⟨a, u, h1, (hb.cell (World.block_lt_of_cell? _ _ h2)).trans h2, h3⟩
theorem blanks_at (z : Nat) (h : z < 3) : ∃ u : ByteArray, (#[Value.string ⟨#[32]⟩, .string ⟨#[10]⟩, .string ⟨#[32, 32, 10, 32]⟩] : Array Value)[z]? = some (.string u) ∧ u.size ≤ 4 := by
  rcases (show z = 0 ∨ z = 1 ∨ z = 2 by omega) with rfl | rfl | rfl
  · exact ⟨_, rfl, by decide⟩
  · exact ⟨_, rfl, by decide⟩
  · exact ⟨_, rfl, by decide⟩
set_option maxRecDepth 100000 in
set_option maxHeartbeats 16000000 in
theorem spaced_any (s : ByteArray) (l : List Int) (A : Option Addr) (c : Nat) (w : World) (hs : s.size ≤ 1000000) (hl : SlAt [] w A l) (hm : l.length ≤ 9223372036854775807) :
    Calls Tryd.prog 26 #[.string s, .slice A l.length c] w (StrP (s.size * (s.size + 4)) w) := by
  have CS := Lib.hid (fun W => scan_any s W hs)
  unfold ScanP at CS
  have HAT := Lib.hid (fun (i m : Int) (W : World) (h : SlAt [] W A l) => at_some A c l i m W h hm)
  obtain ⟨n, hn⟩ : ∃ n, l.length = n := ⟨_, rfl⟩
  rw [hn] at HAT
  obtain ⟨toks, htk⟩ : ∃ t, (Vm.scan s.data.toList (s.data.toList.length + 1) 0).1 = t := ⟨_, rfl⟩
  obtain ⟨en, hen⟩ : ∃ t, (Vm.scan s.data.toList (s.data.toList.length + 1) 0).2 = t := ⟨_, rfl⟩
  rw [htk, hen, Vm.strLn] at CS
  obtain ⟨m, hmz⟩ : ∃ m, s.size = m := ⟨_, rfl⟩
  obtain ⟨nt, hnt⟩ : ∃ m, toks.length = m := ⟨_, rfl⟩
  rw [hmz] at CS hs
  rw [hnt] at CS
  have HM := Lib.hid hmz
  have HNT := Lib.hid hnt
  have HL := Lib.hid hl
  rw [hn, hmz]
  clear hl hm hn htk hen hnt
  unfold StrP
  go_enter Tryd.func26, Tryd.ntmps26
  go_wp2_with (go_at_call 58; ((with_reducible refine (CS.out _).mono ?_)); rintro e w1 ⟨At, ct, rfl, hsl, htl, hbd, hb⟩; have HSL := Lib.hid hsl; have HTL := Lib.hid htl; have HBD := Lib.hid hbd; have HB := Lib.hid hb; clear hsl htl hbd hb)
  go_loopg [7, 8] nt (fun r v7 v8 wr => ∃ (k : Nat) (t : ByteArray), k + r = nt ∧ v8 = .int .i64 k ∧ v7 = .string t ∧ t.size ≤ k * (m + 4) ∧ Below w1.heap.size w1 wr)
  case atStart => exact ⟨0, ⟨#[]⟩, by omega, rfl, rfl, Nat.zero_le _, Below.refl _ _⟩
  case round =>
    obtain ⟨k, t, hk, rfl, rfl, hts, hbl⟩ := hrel
    obtain ⟨wo, rfl⟩ : ∃ wo : World, wo = wr := ⟨_, rfl⟩
    have HBL := Lib.hid hbl
    have HTS := Lib.hid hts
    clear hts
    by_cases hlt : k < nt
    · have k1 : (k : Int) < (nt : Int) := by omega
      have k0 : (0 : Int) ≤ (k : Int) := by omega
      have hkt : k < toks.length := by rw [HNT.out]; exact hlt
      obtain ⟨b9, o9, rfl, c0, c1⟩ := tok_at (HSL.out.keep (Chg.of_below HBL.out)) k hkt
      obtain ⟨hb1, hb2⟩ := HBD.out _ (List.getElem_mem hkt)
      obtain ⟨ta, hta⟩ : ∃ z, toks[k].1 = z := ⟨_, rfl⟩
      obtain ⟨tb, htb⟩ : ∃ z, toks[k].2 = z := ⟨_, rfl⟩
      rw [hta] at c0 hb1
      rw [htb] at c1 hb1 hb2
      have HAL := Lib.hid (HL.out.keep (Chg.of_below (HB.out.trans (HBL.out.mono HB.out.size))))
      have hkm : k ≤ m := by have := HTL.out; omega
      have hk64 := Lib.hid (show inI (k : Int) by unfold inI; omega)
      have hbo : t.size ≤ 1000000 * 1000004 := by have := HTS.out; have : k * (m + 4) ≤ 1000000 * 1000004 := Nat.mul_le_mul (by omega) (by omega); omega
      clear hta htb hbl
      go_wp2_with fail
      apply wp_region_typed (C := fun w' => Below wo.heap.size wo w') (n := 42) (m := 21) (l1 := [_, _, _, _, _, _, _, _, _, _, _, _, _, _, _, _, _, _, _, _, _]) (l2 := [_])
      · rfl
      · rfl
      · kernel_rfl
      · rfl
      · kernel_rfl
      · exact ⟨rfl, rfl, rfl, Nat.le_refl _, fun _ _ => rfl⟩
      · exact fun u u' h hb => (by first | exact h.below hb | exact h.trans (hb.mono h.size))
      (apply wpT_exact; · (intro w' hC hf; unfold Gives; clear hf hC; go_wp2_with (fail); apply postT_val rfl (Below.refl _ _); simp only [valAt, Array.getD_eq_getD_getElem?, List.getElem?_toArray, List.getElem?_cons_succ, List.getElem?_cons_zero, Option.getD_some]; exact rfl)); (try simp only [Act.put, List.setIfInBounds_toArray, List.set_cons_zero, List.set_cons_succ])
      apply wpT_typed (slBlk_kept 3 9 #[.string ⟨#[32]⟩, .string ⟨#[10]⟩, .string ⟨#[32, 32, 10, 32]⟩])
      · intro w' hC hf; unfold Gives; clear hf hC; go_wp2_with fail; apply postT_mk rfl (by go_grown); simp only [valAt, Array.getD_eq_getD_getElem?, List.getElem?_toArray, List.getElem?_cons_succ, List.getElem?_cons_zero, Option.getD_some]; exact ⟨_, rfl, Blk.new _ _ _⟩
      intro vsl; (try simp only [Act.put, List.setIfInBounds_toArray, List.set_cons_zero, List.set_cons_succ])
      (apply wpT_exact; · (intro w' hC hf; unfold Gives; clear hf hC; go_wp2_with (fail); apply postT_val rfl (Below.refl _ _); simp only [valAt, Array.getD_eq_getD_getElem?, List.getElem?_toArray, List.getElem?_cons_succ, List.getElem?_cons_zero, Option.getD_some]; exact rfl)); (try simp only [Act.put, List.setIfInBounds_toArray, List.set_cons_zero, List.set_cons_succ])
      (apply wpT_exact; · (intro w' hC hf; unfold Gives; clear hf hC; go_wp2_with (fail); apply postT_val rfl (Below.refl _ _); simp only [valAt, Array.getD_eq_getD_getElem?, List.getElem?_toArray, List.getElem?_cons_succ, List.getElem?_cons_zero, Option.getD_some]; exact rfl)); (try simp only [Act.put, List.setIfInBounds_toArray, List.set_cons_zero, List.set_cons_succ])
      apply wpT_typed (T := fun v _ => ∃ z : Nat, v = .int .i64 (z : Int) ∧ z < 3) (fun v w w' h _ => h)
      · intro w' hC hf; unfold Gives; clear hf
        have HS5 := Lib.hid (HAL.out.keep (Chg.of_below hC)); clear hC
        go_wp2_with (go_at_call 35; refine (HAT.out _ 3 _ HS5.out hk64.out (by omega) (by omega)).mono ?_; rintro e w' ⟨v, rfl, v1, v2, rfl⟩; obtain ⟨z, rfl⟩ : ∃ z : Nat, v = z := ⟨v.toNat, by omega⟩)
        refine postT_mk rfl (Below.refl _ _) ?_; simp only [valAt, Array.getD_eq_getD_getElem?, List.getElem?_toArray, List.getElem?_cons_succ, List.getElem?_cons_zero, Option.getD_some]; exact ⟨z, rfl, by omega⟩
      intro v24; (try simp only [Act.put, List.setIfInBounds_toArray, List.set_cons_zero, List.set_cons_succ])
      apply wpT_typed (atStr_kept 4)
      · intro w' hC hf; unfold Gives
        obtain ⟨z, rfl, hz⟩ := hf.1 rfl
        obtain ⟨g, rfl, hB⟩ := hf.2.1 rfl
        obtain ⟨u, hu, hu4⟩ := blanks_at z hz
        have hcell := (hB.cell z).trans hu
        have HC := Lib.hid hcell
        have k9 : (z : Int) < 3 := by omega
        clear hf hC hcell hB hu
        go_wp2_with fail
        apply postT_mk rfl (Below.refl _ _); simp only [valAt, Array.getD_eq_getD_getElem?, List.getElem?_toArray, List.getElem?_cons_succ, List.getElem?_cons_zero, Option.getD_some]; exact ⟨_, u, rfl, by first | exact HC.out | simpa [Addr.add] using HC.out, hu4⟩
      intro v25; (try simp only [Act.put, List.setIfInBounds_toArray, List.set_cons_zero, List.set_cons_succ])
      -- the blank
      apply wpT_typed (strT_kept 4)
      · intro w' hC hf; unfold Gives
        obtain ⟨a, u, rfl, hu, hu4⟩ := hf.1 rfl
        clear hf hC
        go_wp2_with fail
        apply postT_mk rfl (Below.refl _ _); simp only [valAt, Array.getD_eq_getD_getElem?, List.getElem?_toArray, List.getElem?_cons_succ, List.getElem?_cons_zero, Option.getD_some]; exact ⟨u, rfl, hu4⟩
      intro v26; (try simp only [Act.put, List.setIfInBounds_toArray, List.set_cons_zero, List.set_cons_succ])
      apply wpT_typed (strT_kept (t.size + 4))
      · intro w' hC hf; unfold Gives
        obtain ⟨u, rfl, hu4⟩ := hf.1 rfl
        have hlen : (t ++ u).size ≤ t.size + 4 := by rw [ByteArray.size_append]; omega
        have HLN := Lib.hid hlen
        clear hf hC hlen
        go_wp2_with fail
        apply postT_mk rfl (Below.refl _ _); simp only [valAt, Array.getD_eq_getD_getElem?, List.getElem?_toArray, List.getElem?_cons_succ, List.getElem?_cons_zero, Option.getD_some]; exact ⟨_, rfl, HLN.out⟩
      intro v27; (try simp only [Act.put, List.setIfInBounds_toArray, List.set_cons_zero, List.set_cons_succ])
      iterate 11 ((apply wpT_exact; · (intro w' hC hf; unfold Gives; have q0 := (hC.cell (World.block_lt_of_cell? _ _ c0)).trans c0; have q1 := (hC.cell (World.block_lt_of_cell? _ _ c1)).trans c1; clear hf hC; go_wp2_with (fail); apply postT_val rfl (Below.refl _ _); simp only [valAt, Array.getD_eq_getD_getElem?, List.getElem?_toArray, List.getElem?_cons_succ, List.getElem?_cons_zero, Option.getD_some]; exact rfl)); (try simp only [Act.put, List.setIfInBounds_toArray, List.set_cons_zero, List.set_cons_succ]))
      apply wpT_typed (strT_kept m)
      · intro w' hC hf; unfold Gives; clear hf hC
        have h1 : (ta : Int) ≤ (tb : Int) := by omega
        have h2 : (tb : Int) ≤ (m : Int) := by omega
        have h3 : (0 : Int) ≤ (ta : Int) := by omega
        have h4 : tb ≤ s.size := by rw [HM.out]; exact hb2
        have h5 : (tb : Int) ≤ (s.size : Int) := by omega
        go_wp2_with fail
        apply postT_mk rfl (Below.refl _ _); simp only [valAt, Array.getD_eq_getD_getElem?, List.getElem?_toArray, List.getElem?_cons_succ, List.getElem?_cons_zero, Option.getD_some]; exact ⟨_, rfl, by rw [ByteArray.size_extract]; have := HM.out; omega⟩
      intro v39; (try simp only [Act.put, List.setIfInBounds_toArray, List.set_cons_zero, List.set_cons_succ])
      apply wpT_typed (strT_kept (t.size + 4 + m))
      · intro w' hC hf; unfold Gives
        obtain ⟨u2, rfl, hu2⟩ := hf.1 rfl
        obtain ⟨u1, rfl, hu1⟩ := hf.2.1 rfl
        have hlen : (u1 ++ u2).size ≤ t.size + 4 + m := by rw [ByteArray.size_append]; omega
        have HLN := Lib.hid hlen
        clear hf hC hlen
        go_wp2_with fail
        apply postT_mk rfl (Below.refl _ _); simp only [valAt, Array.getD_eq_getD_getElem?, List.getElem?_toArray, List.getElem?_cons_succ, List.getElem?_cons_zero, Option.getD_some]; exact ⟨_, rfl, HLN.out⟩
      intro v40; (try simp only [Act.put, List.setIfInBounds_toArray, List.set_cons_zero, List.set_cons_succ])
      apply wpT_done
      intro w4 hC hall
      obtain ⟨u, rfl, hu⟩ := hall.1
      have HC := Lib.hid (HBL.out.trans (hC.mono HBL.out.size))
      have HU := Lib.hid hu
      clear hall hC hu
      go_wp2_with fail
      go_roundg (gk - 1)
      case measure => omega
      case rel => exact ⟨k + 1, u, by omega, by go_num, rfl, by have h1 := HU.out; have h2 := HTS.out; rw [Nat.add_mul]; omega, HC.out⟩
    · obtain rfl : nt = k := by omega
      have k1 : ¬ (nt : Int) < (nt : Int) := by omega
      have HBF := Lib.hid (HB.out.trans (HBL.out.mono HB.out.size))
      go_wp2_with fail
      go_ret
      exact ⟨t, rfl, Nat.le_trans HTS.out (Nat.mul_le_mul HTL.out (Nat.le_refl _)), HBF.out⟩
end Go.Proofs.YtdpcdocaahjeoaaDoor
