/- Changed: one token or byte changed. -/
import Derived.Test.YtdpcdocaahjeoaaDoorW47
import Derived.Deep.CutBlock
import Derived.Laws.IdiomStrings
namespace Go.Proofs.YtdpcdocaahjeoaaDoor
open Go Go.RowKit
def chWords : Array Value := #[.string ⟨#[115, 99, 104, 101, 109, 97]⟩, .string ⟨#[107, 105, 110, 100]⟩, .string ⟨#[120]⟩, .string ⟨#[45]⟩, .string ⟨#[49]⟩, .string ⟨#[45, 49]⟩, .string ⟨#[48]⟩, .string ⟨#[49, 48, 48, 48, 48, 48, 48, 48, 48, 48]⟩, .string ⟨#[114, 117, 108, 101]⟩, .string ⟨#[109, 111, 118, 101]⟩, .string ⟨#[108, 105, 102, 101]⟩, .string ⟨#[107, 101, 121]⟩, .string ⟨#[110, 117, 109]⟩, .string ⟨#[112, 105, 99, 107]⟩, .string ⟨#[49, 51]⟩, .string ⟨#[85, 112, 112, 101, 114]⟩, .string ⟨#[115, 104, 97, 114, 101]⟩, .string ⟨#[100, 97, 121]⟩]
theorem chWords_at (z : Nat) (h : z < 18) : ∃ u : ByteArray, chWords[z]? = some (.string u) ∧ u.size ≤ 10 := by
  match z, h with
  | 0, _ | 1, _ | 2, _ | 3, _ | 4, _ | 5, _ | 6, _ | 7, _ | 8, _ | 9, _ | 10, _ | 11, _ | 12, _ | 13, _ | 14, _ | 15, _ | 16, _ | 17, _ => exact ⟨_, rfl, by decide⟩
  | n + 18, h => exact absurd h (by omega)
set_option maxRecDepth 100000 in
set_option maxHeartbeats 16000000 in
theorem changed_any (s : ByteArray) (at_ how by_ : Int) (w : World) (hs : s.size ≤ 1000000) (h1 : inI at_) (h2 : inI how) (h3 : inI by_) :
    Calls Tryd.prog 27 #[.string s, .int .i64 at_, .int .i64 how, .int .i64 by_] w (StrP (2 * s.size + 16) w) := by
  have CS := Lib.hid (fun W => scan_any s W hs)
  unfold ScanP at CS
  obtain ⟨toks, htk⟩ : ∃ t, (Vm.scan s.data.toList (s.data.toList.length + 1) 0).1 = t := ⟨_, rfl⟩
  obtain ⟨en, hen⟩ : ∃ t, (Vm.scan s.data.toList (s.data.toList.length + 1) 0).2 = t := ⟨_, rfl⟩
  rw [htk, hen, Vm.strLn] at CS
  obtain ⟨m, hmz⟩ : ∃ m, s.size = m := ⟨_, rfl⟩
  obtain ⟨nt, hnt⟩ : ∃ m, toks.length = m := ⟨_, rfl⟩
  rw [hmz] at CS hs
  rw [hnt] at CS
  have HM := Lib.hid hmz
  have HNT := Lib.hid hnt
  have CB := Lib.hid (fun W => around_any by_ 18 W h3.1 h3.2)
  have hz := around_bd by_ 18 (by omega)
  obtain ⟨z, hzz⟩ : ∃ z : Nat, around by_ 18 = z := ⟨(around by_ 18).toNat, by omega⟩
  rw [hzz] at CB hz
  obtain ⟨u, hu, hu10⟩ := chWords_at z (by omega)
  have HU := Lib.hid hu10
  have HUW := Lib.hid hu
  have CA := Lib.hid (fun (k : Nat) W => around_any at_ (k : Int) W h1.1 h1.2)
  have HAB := Lib.hid (fun (k : Nat) (hk : 1 ≤ k) => around_bd at_ (k : Int) (by omega))
  have CH := Lib.hid (fun W => around_any how 6 W h2.1 h2.2)
  have hh := around_bd how 6 (by omega)
  obtain ⟨h, hhe⟩ : ∃ z, around how 6 = z := ⟨_, rfl⟩
  rw [hhe] at CH hh
  have HBY := Lib.hid h3
  obtain ⟨hh1, hh2⟩ := hh
  have z1 : (z : Int) < 18 := hz.2
  have z0 : (0 : Int) ≤ (z : Int) := by omega
  rw [hmz]
  clear hz hzz hhe htk hen hnt hu hu10 h1 h2 h3
  unfold StrP
  go_enter Tryd.func27, Tryd.ntmps27
  go_upto_region 2 with (go_at_call 58; ((with_reducible refine (CS.out _).mono ?_)); rintro e w1 ⟨At, ct, rfl, hsl, htl, hbd, hb⟩; have HSL := Lib.hid hsl; have HTL := Lib.hid htl; have HBD := Lib.hid hbd; have HB := Lib.hid hb; clear hsl htl hbd hb)
  have q := (Blk.new w1 9 chWords).cell z
  rw [HUW.out] at q
  unfold chWords at q
  go_upto_region 3 with (go_at_call 13; ((with_reducible refine (CB.out _).mono ?_)); rintro e w2 ⟨rfl, rfl⟩)
  have HB2 := Lib.hid (HB.out.alloc HB.out.size (.cells chWords 9))
  have HSL2 := Lib.hid (HSL.out.keep (Chg.alloc w1 (.cells chWords 9)))
  unfold chWords at HB2 HSL2
  clear q HB HSL CB HUW z0 z1
  generalize hW : w1.alloc _ = w2 at HB2 HSL2 ⊢
  clear hW
  have T := Lib.hid (show Held w [] [] [] [fun M W => SlAt M W At (toks.map tokI)] w2 from ⟨HB2.out, (fun _ h => by cases h), (fun _ h => by cases h), (fun _ h => by cases h), List.nodup_nil, fun P hP => by rw [List.mem_singleton] at hP; subst hP; exact ⟨keeps_sl _ _, HSL2.out⟩⟩)
  clear HB2 HSL2
  by_cases hn0 : nt = 0
  · subst hn0
    have HBF := Lib.hid T.out.bl
    have sz1 : s.size ≤ 1000000 := by have := HM.out; omega
    have sz2 : u.size ≤ 10 := HU.out
    go_wp2_with fail
    go_ret
    exact ⟨_, rfl, by rw [ByteArray.size_append]; have := HM.out; have := HU.out; omega, HBF.out⟩
  · have hab := HAB.out nt (by omega)
    obtain ⟨k, hkz⟩ : ∃ z : Nat, around at_ (nt : Int) = z := ⟨(around at_ (nt : Int)).toNat, by omega⟩
    have CK := Lib.hid (CA.out nt)
    rw [hkz] at CK hab
    obtain ⟨hab1, hab2⟩ := hab
    have hkt : k < toks.length := by rw [HNT.out]; omega
    obtain ⟨b9, o9, rfl, c0, c1⟩ := tok_at (T.out.fact (.head _)) k hkt
    obtain ⟨hb1, hb2⟩ := HBD.out _ (List.getElem_mem hkt)
    obtain ⟨ta, hta⟩ : ∃ z, toks[k].1 = z := ⟨_, rfl⟩
    obtain ⟨tb, htb⟩ : ∃ z, toks[k].2 = z := ⟨_, rfl⟩
    rw [hta] at c0 hb1
    rw [htb] at c1 hb1 hb2
    have t0 : ((nt : Int) == 0) = false := by rw [beq_eq_false_iff_ne]; omega
    have k1 : (k : Int) < (nt : Int) := hab2
    clear hkz hta htb hn0
    go_upto_region 6 with (go_at_call 13; ((with_reducible refine (CK.out _).mono ?_)); rintro e w3 ⟨rfl, rfl⟩)
    have T2 := Lib.hid ((T.out.less (L' := []) (bx' := []) (fun _ h => by cases h) (List.Sublist.refl _)).new #[.int .i64 (ta : Int), .int .i64 (tb : Int)] 133 rfl)
    clear T c0 c1 t0 k1
    generalize hW2 : w2.alloc _ = w3 at T2 ⊢
    generalize w2.heap.size = gt at T2 ⊢
    clear hW2
    have e1 : (ta : Int) ≤ (tb : Int) := by omega
    have e2 : (tb : Int) ≤ (s.size : Int) := by have := HM.out; omega
    have e3 : (0 : Int) ≤ (ta : Int) := by omega
    have e4 : (ta : Int) ≤ (s.size : Int) := by omega
    have e5 : (0 : Int) ≤ (tb : Int) := by omega
    have sz1 : s.size ≤ 1000000 := by have := HM.out; omega
    have sz2 : u.size ≤ 10 := HU.out
    go_upto_region 7 with (go_at_call 13; ((with_reducible refine (CH.out _).mono ?_)); rintro e w4 ⟨rfl, rfl⟩)
    rcases (show h = 0 ∨ h = 1 ∨ h = 2 ∨ h = 3 ∨ h = 4 ∨ h = 5 by omega) with rfl | rfl | rfl | rfl | rfl | rfl
    · go_wp2_with fail
      apply wp_region_typed (C := fun w' => Held w [] [gt] [(gt, 133, #[.int .i64 (ta : Int), .int .i64 (tb : Int)])] [] w') (n := 107) (m := 9) (l1 := [_, _, _, _, _, _, _, _, _]) (l2 := [_])
      · rfl
      · rfl
      · kernel_rfl
      · rfl
      · kernel_rfl
      · exact T2.out.drew
      · exact fun u u' h hb => (by first | exact h.below hb | exact h.trans (hb.mono h.size))
      iterate 9 ((apply wpT_exact; · (intro w' hC hf; unfold Gives; have q := hC.box (.head _); have x0 := q.cell 0; have x1 := q.cell 1; (simp at x0 x1); clear q; clear hf hC; go_wp2_with (fail); apply postT_val rfl (Below.refl _ _); simp only [valAt, Array.getD_eq_getD_getElem?, List.getElem?_toArray, List.getElem?_cons_succ, List.getElem?_cons_zero, Option.getD_some]; exact rfl)); (try simp only [Act.put, List.setIfInBounds_toArray, List.set_cons_zero, List.set_cons_succ]))
      apply wpT_done
      intro w4 hC hall
      have HBF := Lib.hid hC.bl
      clear hC hall
      go_wp2_with fail
      go_ret
      exact ⟨_, rfl, by simp only [ByteArray.size_append, ByteArray.size_extract]; have := HM.out; have := HU.out; (try simp only [show (⟨#[32]⟩ : ByteArray).size = 1 from rfl]); omega, HBF.out⟩
    · go_wp2_with fail
      apply wp_region_typed (C := fun w' => Held w [] [gt] [(gt, 133, #[.int .i64 (ta : Int), .int .i64 (tb : Int)])] [] w') (n := 107) (m := 10) (l1 := [_, _, _, _, _, _, _, _, _, _]) (l2 := [_])
      · rfl
      · rfl
      · kernel_rfl
      · rfl
      · kernel_rfl
      · exact T2.out.drew
      · exact fun u u' h hb => (by first | exact h.below hb | exact h.trans (hb.mono h.size))
      iterate 10 ((apply wpT_exact; · (intro w' hC hf; unfold Gives; have q := hC.box (.head _); have x0 := q.cell 0; have x1 := q.cell 1; (simp at x0 x1); clear q; clear hf hC; go_wp2_with (fail); apply postT_val rfl (Below.refl _ _); simp only [valAt, Array.getD_eq_getD_getElem?, List.getElem?_toArray, List.getElem?_cons_succ, List.getElem?_cons_zero, Option.getD_some]; exact rfl)); (try simp only [Act.put, List.setIfInBounds_toArray, List.set_cons_zero, List.set_cons_succ]))
      apply wpT_done
      intro w4 hC hall
      have HBF := Lib.hid hC.bl
      clear hC hall
      go_wp2_with fail
      go_ret
      exact ⟨_, rfl, by simp only [ByteArray.size_append, ByteArray.size_extract]; have := HM.out; have := HU.out; (try simp only [show (⟨#[32]⟩ : ByteArray).size = 1 from rfl]); omega, HBF.out⟩
    · go_wp2_with fail
      apply wp_region_typed (C := fun w' => Held w [] [gt] [(gt, 133, #[.int .i64 (ta : Int), .int .i64 (tb : Int)])] [] w') (n := 107) (m := 11) (l1 := [_, _, _, _, _, _, _, _, _, _, _]) (l2 := [_])
      · rfl
      · rfl
      · kernel_rfl
      · rfl
      · kernel_rfl
      · exact T2.out.drew
      · exact fun u u' h hb => (by first | exact h.below hb | exact h.trans (hb.mono h.size))
      iterate 11 ((apply wpT_exact; · (intro w' hC hf; unfold Gives; have q := hC.box (.head _); have x0 := q.cell 0; have x1 := q.cell 1; (simp at x0 x1); clear q; clear hf hC; go_wp2_with (fail); apply postT_val rfl (Below.refl _ _); simp only [valAt, Array.getD_eq_getD_getElem?, List.getElem?_toArray, List.getElem?_cons_succ, List.getElem?_cons_zero, Option.getD_some]; exact rfl)); (try simp only [Act.put, List.setIfInBounds_toArray, List.set_cons_zero, List.set_cons_succ]))
      apply wpT_done
      intro w4 hC hall
      have HBF := Lib.hid hC.bl
      clear hC hall
      go_wp2_with fail
      go_ret
      exact ⟨_, rfl, by simp only [ByteArray.size_append, ByteArray.size_extract]; have := HM.out; have := HU.out; (try simp only [show (⟨#[32]⟩ : ByteArray).size = 1 from rfl]); omega, HBF.out⟩
    · have q := T2.out.box (.head _); have x0 := q.cell 0; have x1 := q.cell 1; (simp at x0 x1); clear q
      have HBF := Lib.hid T2.out.bl
      go_wp2_with fail
      go_ret
      exact ⟨_, rfl, by rw [ByteArray.size_extract]; have := HM.out; omega, HBF.out⟩
    · go_wp2_with fail
      apply wp_region_typed (C := fun w' => Held w [] [gt] [(gt, 133, #[.int .i64 (ta : Int), .int .i64 (tb : Int)])] [] w') (n := 107) (m := 12) (l1 := [_, _, _, _, _, _, _, _, _, _, _, _]) (l2 := [_])
      · rfl
      · rfl
      · kernel_rfl
      · rfl
      · kernel_rfl
      · exact T2.out.drew
      · exact fun u u' h hb => (by first | exact h.below hb | exact h.trans (hb.mono h.size))
      iterate 12 ((apply wpT_exact; · (intro w' hC hf; unfold Gives; have q := hC.box (.head _); have x0 := q.cell 0; have x1 := q.cell 1; (simp at x0 x1); clear q; clear hf hC; go_wp2_with (fail); apply postT_val rfl (Below.refl _ _); simp only [valAt, Array.getD_eq_getD_getElem?, List.getElem?_toArray, List.getElem?_cons_succ, List.getElem?_cons_zero, Option.getD_some]; exact rfl)); (try simp only [Act.put, List.setIfInBounds_toArray, List.set_cons_zero, List.set_cons_succ]))
      apply wpT_done
      intro w4 hC hall
      have HBF := Lib.hid hC.bl
      clear hC hall
      go_wp2_with fail
      go_ret
      exact ⟨_, rfl, by simp only [ByteArray.size_append, ByteArray.size_extract]; have := HM.out; have := HU.out; (try simp only [show (⟨#[32]⟩ : ByteArray).size = 1 from rfl]); omega, HBF.out⟩
    · have hcv := run_bytes_of_string (P := Tryd.prog) w3 9 63 5 s Tryd.underlying9 Tryd.underlying63 Tryd.underlying5
      obtain ⟨cap, hcap⟩ : ∃ c, grownCap w3 s.size 0 5 = c := ⟨_, rfl⟩
      rw [hcap] at hcv
      have hsz : s.data.size = m := by have := HM.out; exact this
      have hrs : m ≤ (bytesRow s cap).size := by unfold bytesRow; rw [Array.size_append, Array.size_map]; omega
      obtain ⟨W4, hW4⟩ : ∃ X, (w3.alloc (.cells (bytesRow s cap) 5 ((bytesRow s cap).size, (bytesRow s cap).size + 1))).drew = X := ⟨_, rfl⟩
      have hfr : ∀ j, j < m → W4.frozen? ⟨w3.heap.size, j, none⟩ = false := fun j hj => by
        rw [← hW4]
        have := World.frozen?_alloc_mark w3 (bytesRow s cap) 5 (bytesRow s cap).size ((bytesRow s cap).size + 1) j
        rw [decide_eq_false (show ¬ (bytesRow s cap).size ≤ j by omega)] at this
        exact this
      have hB4 : Below w3.heap.size w3 W4 := by
        rw [← hW4]
        exact ((Below.refl w3.heap.size w3).alloc (Nat.le_refl _) _).trans ⟨rfl, rfl, rfl, Nat.le_refl _, fun _ _ => rfl⟩
      have hce : ∀ j (hj : j < s.data.size), W4.cell? ⟨w3.heap.size, j, none⟩ = some (.int .u8 (s.data[j].toNat : Int)) := fun j hj => by
        rw [← hW4]
        exact (cell_of_row _ w3.heap.size j _ 5 _ (heap_alloc_new w3 _)).trans (bytesRow_at s cap j hj)
      have hm1 : 1 ≤ m := by have := HTL.out; omega
      have hib := around_bd at_ (m : Int) (by omega)
      obtain ⟨iz, hiz⟩ : ∃ z : Nat, around at_ (m : Int) = z := ⟨(around at_ (m : Int)).toNat, by omega⟩
      have CI := Lib.hid (CA.out m)
      rw [hiz] at CI hib
      have him : iz < m := by omega
      obtain ⟨y8, q8⟩ : ∃ y : Int, W4.cell? ⟨w3.heap.size, iz, none⟩ = some (.int .u8 y) := ⟨_, hce iz (by omega)⟩
      have f8 := hfr iz him
      have k8 : (iz : Int) < (m : Int) := by omega
      obtain ⟨b8, hb8⟩ : ∃ b : UInt8, (b.toNat : Int) = by_ % 256 := by
        refine ⟨UInt8.ofNat (by_ % 256).toNat, ?_⟩
        have h1 : 0 ≤ by_ % 256 ∧ by_ % 256 < 256 := by omega
        have : (UInt8.ofNat (by_ % 256).toNat).toNat = (by_ % 256).toNat := by
          simp; omega
        rw [this]; omega
      have hcv2 := run_convert_bytes_back (P := Tryd.prog) (W4.setCell ⟨w3.heap.size, iz, none⟩ (.int .u8 (b8.toNat : Int))) 63 9 5 ⟨w3.heap.size, 0, none⟩ cap (s.data.toList.set iz b8) Tryd.underlying63 Tryd.underlying5 Tryd.underlying9 (fun j hj => by
        have hj' : j < s.data.size := by simpa using hj
        have ea : (Addr.mk w3.heap.size 0 none).add j = ⟨w3.heap.size, j, none⟩ := by rw [Addr.add_lit, Nat.zero_add]
        rw [ea]
        by_cases hji : j = iz
        · subst hji
          rw [World.cell?_setCell_same (w := W4) (a := ⟨w3.heap.size, j, none⟩) (v := .int .u8 (b8.toNat : Int)) (hce j hj')]
          simp
        · rw [World.cell?_setCell_other (w := W4) (a := ⟨w3.heap.size, iz, none⟩) (b := ⟨w3.heap.size, j, none⟩) (v := .int .u8 (b8.toNat : Int)) (by intro h; injection h with _ h2; exact hji h2.symm), hce j hj']
          simp [Ne.symm hji])
      rw [List.length_set, Array.length_toList, hsz] at hcv2
      have hb5 := ((T2.out.bl.trans (hB4.mono T2.out.bl.size)).setCell (p := ⟨w3.heap.size, iz, none⟩) T2.out.bl.size (.int .u8 (b8.toNat : Int)))
      rw [hb8] at hcv2 hb5
      have HB5 := Lib.hid hb5
      clear hb5
      have HL2 := Lib.hid (show (⟨(s.data.toList.set iz b8).toArray⟩ : ByteArray).size = m by show ((s.data.toList.set iz b8).toArray).size = m; simp [hsz])
      rw [HM.out] at hcv
      generalize (⟨(s.data.toList.set iz b8).toArray⟩ : ByteArray) = sr at hcv2 HL2
      clear hce hfr hB4 hcap T2 hiz hib CA HAB hrs hb8
      go_upto_region 18 with fail
      clear hcv hW4
      go_wp2_with (go_at_call 13; ((with_reducible refine (CI.out _).mono ?_)); rintro e w4 ⟨rfl, rfl⟩)
      go_ret
      exact ⟨sr, rfl, by have := HL2.out; omega, HB5.out⟩
end Go.Proofs.YtdpcdocaahjeoaaDoor
