/- own, plain, Same, SamePrograms, Around, At, Short. -/
import Derived.Test.YtdpcdocaahjeoaaDoorM2
import Derived.Test.YtdpcdocaahjeoaaDoorBaseA
import Derived.Laws.StructEq
namespace Go.Proofs.YtdpcdocaahjeoaaDoor
open Go Go.RowKit
def insCells (i : Vm.Ins) : List Value := [.int .i64 i.1, .int .i64 i.2.1, .int .i64 i.2.2.1, .int .i64 i.2.2.2]
def insVals (p : List Vm.Ins) : List Value := p.flatMap insCells
def AllIns (p : List Vm.Ins) : Prop := ∀ i ∈ p, inI i.1 ∧ inI i.2.1 ∧ inI i.2.2.1 ∧ inI i.2.2.2
theorem insVals_snoc (p : List Vm.Ins) (i : Vm.Ins) : insVals (p ++ [i]) = insVals p ++ insCells i := by simp [insVals]
theorem insVals_length (p : List Vm.Ins) : (insVals p).length = 4 * p.length := by
  induction p with
  | nil => rfl
  | cons a l ih => simp only [insVals, List.flatMap_cons, List.length_append, List.length_cons] at ih ⊢; rw [ih]; simp [insCells]; omega
theorem flat_ins {G : List Nat} {w : World} : ∀ {p : List Vm.Ins}, AllIns p → Flat G w p (insVals p)
  | [], _ => rfl
  | i :: p, h => ⟨insCells i, insVals p, rfl, Vm.ins_rep (h i (.head _)).1 (h i (.head _)).2.1 (h i (.head _)).2.2.1 (h i (.head _)).2.2.2, flat_ins fun j hj => h j (.tail _ hj)⟩
theorem SlAt.allIns {G : List Nat} {w : World} {A : Option Addr} {p : List Vm.Ins} (h : SlAt G w A p) : AllIns p := fun i hi => by
  obtain ⟨k, hk, rfl⟩ := List.getElem_of_mem hi
  obtain ⟨_, _, _, _, _, _, _, _, h1, h2, h3, h4⟩ := Vm.ins_at h k hk
  exact ⟨h1, h2, h3, h4⟩
theorem take_snoc' {α : Type} (l : List α) (k : Nat) (h : k < l.length) : l.take (k + 1) = l.take k ++ [l[k]] := List.take_succ_eq_append_getElem h
theorem insCells_one (i : Vm.Ins) : ∀ u ∈ insCells i, u.oneCell' = true := by
  intro u hu; simp only [insCells, List.mem_cons, List.not_mem_nil, or_false] at hu; rcases hu with rfl | rfl | rfl | rfl <;> rfl
theorem infoIns : (Tryd.prog.info? 104).map (fun i => (i.zero, i.size, i.bytes)) = some (some (.agg #[.int .i64 0, .int .i64 0, .int .i64 0, .int .i64 0]), 4, 32) := by kernel_rfl
theorem infoRIns : (Tryd.prog.info? 58).map (fun i => (i.zero, i.size, i.bytes)) = some (some (.agg #[.int .i64 0, .int .i64 0, .int .i64 0, .int .i64 0]), 4, 32) := by kernel_rfl
/-- What a program's copy comes to. -/
def CopyP (p : List Vm.Ins) (w : World) (e : Ending) (w' : World) : Prop := ∃ v, e = .returned v ∧ Rep [] w' p v ∧ Below w.heap.size w w'
theorem copy_end {p : List Vm.Ins} {w W : World} {e : TypeId} {v : Value} {n : Nat} {M : List Nat} {bx : List Box} {L : List (List Nat → World → Prop)} (H : HRow w [] M bx L e 4 v n (insVals (p.take n)) W) (ha : AllIns p) (hn : p.length = n) :
    CopyP p w (.returned v) W := by
  have h := H.own
  rw [List.take_of_length_le (Nat.le_of_eq hn), ← hn] at h
  exact ⟨v, rfl, Rep.of_own (base := w.heap.size) (e := e) h (flat_ins ha) (fun _ _ h => by cases h), H.h.bl⟩
set_option maxRecDepth 100000 in
set_option maxHeartbeats 4000000 in
theorem own_any (p : List Vm.Ins) (A : Option Addr) (c : Nat) (w : World) (hp : SlAt [] w A p) (hm : p.length ≤ 1000000) : Calls Tryd.prog 15 #[.slice A p.length c] w (CopyP p w) := by
  obtain ⟨n, hn⟩ : ∃ n, p.length = n := ⟨_, rfl⟩
  obtain ⟨i0, hi, hz0, hz1, hz2⟩ := info_parts infoIns
  have HII := Lib.hid (show _ ∧ _ ∧ _ ∧ _ from ⟨hi, hz0, hz1, hz2⟩)
  have HT0 := Lib.hid (HRow.start (e := 104) (size := 4) ((held0 w [] (fun _ h => by cases h)).add (keeps_sl A p) hp))
  have HAL := Lib.hid hp.allIns
  rw [hn]
  rw [hn] at hm
  have HN := Lib.hid hn
  clear hp hn hi hz0 hz1 hz2
  go_enter Tryd.func15, Tryd.ntmps15
  go_wp2_with fail
  go_loopg [3, 4] n (fun r v i wr => ∃ (k : Nat) (M : List Nat), k + r = n ∧ i = .int .i64 k ∧ HRow w [] M [] [fun M W => SlAt M W A p] 104 4 v k (insVals (p.take k)) wr)
  case atStart => exact ⟨0, _, by omega, rfl, HT0.out⟩
  case round =>
    obtain ⟨k, M, hk, rfl, hH⟩ := hrel
    obtain ⟨wo, rfl⟩ : ∃ wo : World, wo = wr := ⟨_, rfl⟩
    have T := Lib.hid hH
    clear hH HT0
    by_cases hlt : k < n
    · have hkp : k < p.length := by rw [HN.out]; exact hlt
      have k0 : (0 : Int) ≤ (k : Int) := Int.natCast_nonneg _
      have k1 : (k : Int) < (n : Int) := by omega
      have HTK := Lib.hid (take_snoc' p k hkp)
      obtain ⟨b, o, _, rfl, _⟩ := (T.out.h.fact (.head _)).get k hkp
      obtain ⟨i, hi'⟩ : ∃ i, p[k] = i := ⟨_, rfl⟩
      rw [hi'] at HTK
      have HI := Lib.hid hi'
      obtain ⟨op, x, y, z⟩ := i
      clear hi'
      go_wp2_with fail
      apply wp_region_typed (C := fun w' => HRow w [] M [] [fun M W => SlAt M W (some ⟨b, o, none⟩) p] 104 4 u3 k (insVals (p.take k)) w') (n := 36) (m := 23) (l1 := [_, _, _, _, _, _, _, _, _, _, _, _, _, _, _, _, _, _, _, _, _, _, _]) (l2 := [_, _])
      · rfl
      · rfl
      · kernel_rfl
      · rfl
      · kernel_rfl
      · exact T.out.drew
      · exact fun u u' h hb => (by first | exact h.below hb | exact h.trans (hb.mono h.size))
      iterate 21 ((apply wpT_exact; · (intro w' hC hf; unfold Gives; obtain ⟨b', o', hbo, _, c0, c1, c2, c3, _⟩ := Vm.ins_at (hC.h.fact (.head _)) k hkp; obtain ⟨rfl, rfl⟩ := addr_inj hbo; rw [HI.out] at c0 c1 c2 c3; dsimp only at c0 c1 c2 c3; clear hf hC; go_wp2_with (fail); apply postT_val rfl (Below.refl _ _); simp only [valAt, Array.getD_eq_getD_getElem?, List.getElem?_toArray, List.getElem?_cons_succ, List.getElem?_cons_zero, Option.getD_some]; exact rfl)); (try simp only [Act.put, List.setIfInBounds_toArray, List.set_cons_zero, List.set_cons_succ]))
      (apply wpT_exact; · (intro w' hC hf; unfold Gives; clear hf hC; go_wp2_with (fail); apply postT_val rfl (Below.refl _ _); simp only [valAt, Array.getD_eq_getD_getElem?, List.getElem?_toArray, List.getElem?_cons_succ, List.getElem?_cons_zero, Option.getD_some]; exact rfl)); (try simp only [Act.put, List.setIfInBounds_toArray, List.set_cons_zero, List.set_cons_succ])
      apply wpT_typed (slBlk_kept 1 104 #[.int .i64 op, .int .i64 x, .int .i64 y, .int .i64 z])
      · intro w' hC hf; unfold Gives; clear hf hC; go_wp2_with fail; apply postT_mk rfl (by go_grown); simp only [valAt, Array.getD_eq_getD_getElem?, List.getElem?_toArray, List.getElem?_cons_succ, List.getElem?_cons_zero, Option.getD_some]; exact ⟨_, rfl, Blk.new _ _ _⟩
      intro vsl; (try simp only [Act.put, List.setIfInBounds_toArray, List.set_cons_zero, List.set_cons_succ])
      apply wpT_done
      intro w4 hC hall
      obtain ⟨g, rfl, hB⟩ := hall.1
      obtain ⟨hi, hz0, hz1, hz2⟩ := HII.out
      refine wpList_append_row (by rfl) _ _ 43 (by rfl) 104 i0 _ 4 32 Tryd.underlying43 hi hz0 hz1 hz2 rfl (by decide) hC (by rfl) _ _ 1 1 (insCells (op, x, y, z)) (by rfl) (reads_blk hB rfl) (insCells_one _) (by unfold maxLen; omega) (by omega) ?_
      intro v5 w5 M5 h5 _
      rw [← insVals_snoc, ← HTK.out] at h5
      have T5 := Lib.hid h5
      clear h5 hB hC hall hi hz0 hz1 hz2
      go_wp2_with fail
      go_roundg (gk - 1)
      case measure => omega
      case rel => exact ⟨k + 1, _, by omega, by go_num, T5.out⟩
    · have hkn : k = n := by omega
      subst hkn
      go_wp2_with fail
      go_ret
      exact copy_end T.out HAL.out HN.out
set_option maxRecDepth 100000 in
set_option maxHeartbeats 4000000 in
theorem plain_any (p : List Vm.Ins) (A : Option Addr) (c : Nat) (w : World) (hp : SlAt [] w A p) (hm : p.length ≤ 1000000) : Calls Tryd.prog 31 #[.slice A p.length c] w (CopyP p w) := by
  obtain ⟨n, hn⟩ : ∃ n, p.length = n := ⟨_, rfl⟩
  obtain ⟨i0, hi, hz0, hz1, hz2⟩ := info_parts infoRIns
  have HII := Lib.hid (show _ ∧ _ ∧ _ ∧ _ from ⟨hi, hz0, hz1, hz2⟩)
  have HT0 := Lib.hid (HRow.start (e := 58) (size := 4) ((held0 w [] (fun _ h => by cases h)).add (keeps_sl A p) hp))
  have HAL := Lib.hid hp.allIns
  rw [hn]
  rw [hn] at hm
  have HN := Lib.hid hn
  clear hp hn hi hz0 hz1 hz2
  go_enter Tryd.func31, Tryd.ntmps31
  go_wp2_with fail
  go_loopg [3, 4] n (fun r v i wr => ∃ (k : Nat) (M : List Nat), k + r = n ∧ i = .int .i64 k ∧ HRow w [] M [] [fun M W => SlAt M W A p] 58 4 v k (insVals (p.take k)) wr)
  case atStart => exact ⟨0, _, by omega, rfl, HT0.out⟩
  case round =>
    obtain ⟨k, M, hk, rfl, hH⟩ := hrel
    obtain ⟨wo, rfl⟩ : ∃ wo : World, wo = wr := ⟨_, rfl⟩
    have T := Lib.hid hH
    clear hH HT0
    by_cases hlt : k < n
    · have hkp : k < p.length := by rw [HN.out]; exact hlt
      have k0 : (0 : Int) ≤ (k : Int) := Int.natCast_nonneg _
      have k1 : (k : Int) < (n : Int) := by omega
      have HTK := Lib.hid (take_snoc' p k hkp)
      obtain ⟨b, o, _, rfl, _⟩ := (T.out.h.fact (.head _)).get k hkp
      obtain ⟨i, hi'⟩ : ∃ i, p[k] = i := ⟨_, rfl⟩
      rw [hi'] at HTK
      have HI := Lib.hid hi'
      obtain ⟨op, x, y, z⟩ := i
      clear hi'
      go_wp2_with fail
      apply wp_region_typed (C := fun w' => HRow w [] M [] [fun M W => SlAt M W (some ⟨b, o, none⟩) p] 58 4 u3 k (insVals (p.take k)) w') (n := 36) (m := 23) (l1 := [_, _, _, _, _, _, _, _, _, _, _, _, _, _, _, _, _, _, _, _, _, _, _]) (l2 := [_, _])
      · rfl
      · rfl
      · kernel_rfl
      · rfl
      · kernel_rfl
      · exact T.out.drew
      · exact fun u u' h hb => (by first | exact h.below hb | exact h.trans (hb.mono h.size))
      iterate 21 ((apply wpT_exact; · (intro w' hC hf; unfold Gives; obtain ⟨b', o', hbo, _, c0, c1, c2, c3, _⟩ := Vm.ins_at (hC.h.fact (.head _)) k hkp; obtain ⟨rfl, rfl⟩ := addr_inj hbo; rw [HI.out] at c0 c1 c2 c3; dsimp only at c0 c1 c2 c3; clear hf hC; go_wp2_with (fail); apply postT_val rfl (Below.refl _ _); simp only [valAt, Array.getD_eq_getD_getElem?, List.getElem?_toArray, List.getElem?_cons_succ, List.getElem?_cons_zero, Option.getD_some]; exact rfl)); (try simp only [Act.put, List.setIfInBounds_toArray, List.set_cons_zero, List.set_cons_succ]))
      (apply wpT_exact; · (intro w' hC hf; unfold Gives; clear hf hC; go_wp2_with (fail); apply postT_val rfl (Below.refl _ _); simp only [valAt, Array.getD_eq_getD_getElem?, List.getElem?_toArray, List.getElem?_cons_succ, List.getElem?_cons_zero, Option.getD_some]; exact rfl)); (try simp only [Act.put, List.setIfInBounds_toArray, List.set_cons_zero, List.set_cons_succ])
      apply wpT_typed (slBlk_kept 1 58 #[.int .i64 op, .int .i64 x, .int .i64 y, .int .i64 z])
      · intro w' hC hf; unfold Gives; clear hf hC; go_wp2_with fail; apply postT_mk rfl (by go_grown); simp only [valAt, Array.getD_eq_getD_getElem?, List.getElem?_toArray, List.getElem?_cons_succ, List.getElem?_cons_zero, Option.getD_some]; exact ⟨_, rfl, Blk.new _ _ _⟩
      intro vsl; (try simp only [Act.put, List.setIfInBounds_toArray, List.set_cons_zero, List.set_cons_succ])
      apply wpT_done
      intro w4 hC hall
      obtain ⟨g, rfl, hB⟩ := hall.1
      obtain ⟨hi, hz0, hz1, hz2⟩ := HII.out
      refine wpList_append_row (by rfl) _ _ 32 (by rfl) 58 i0 _ 4 32 Tryd.underlying32 hi hz0 hz1 hz2 rfl (by decide) hC (by rfl) _ _ 1 1 (insCells (op, x, y, z)) (by rfl) (reads_blk hB rfl) (insCells_one _) (by unfold maxLen; omega) (by omega) ?_
      intro v5 w5 M5 h5 _
      rw [← insVals_snoc, ← HTK.out] at h5
      have T5 := Lib.hid h5
      clear h5 hB hC hall hi hz0 hz1 hz2
      go_wp2_with fail
      go_roundg (gk - 1)
      case measure => omega
      case rel => exact ⟨k + 1, _, by omega, by go_num, T5.out⟩
    · have hkn : k = n := by omega
      subst hkn
      go_wp2_with fail
      go_ret
      exact copy_end T.out HAL.out HN.out
end Go.Proofs.YtdpcdocaahjeoaaDoor
namespace Go.Proofs.YtdpcdocaahjeoaaDoor
open Go Go.RowKit
theorem byte_at {G : List Nat} {w : World} {A : Option Addr} {l : List UInt8} (h : SlAt G w A l) (k : Nat) (hk : k < l.length) : ∃ b o, A = some ⟨b, o, none⟩ ∧ b ∉ G ∧ w.cell? ⟨b, o + k, none⟩ = some (.int .u8 l[k].toNat) := by
  obtain ⟨b, o, us, hA, hg, hr, hc⟩ := h.get k hk
  refine ⟨b, o, hA, hg, ?_⟩
  have := hc 0 _ (by rw [show us = [_] from hr]; rfl)
  rw [show k * Mem.sz UInt8 + 0 = k from Nat.mul_one k] at this
  exact this
theorem eq_prefix {α : Type} {a b : List α} {k n : Nat} (ha : a.length = n) (hb : b.length = n) (hk : n ≤ k) (h : ∀ j (h1 : j < a.length) (h2 : j < b.length), j < k → a[j] = b[j]) : a = b :=
  List.ext_getElem (by omega) fun j h1 h2 => h j h1 h2 (by omega)
theorem dec_of_len {α : Type} [DecidableEq α] {a b : List α} (h : a.length ≠ b.length) : decide (a = b) = false := decide_eq_false fun e => h (by rw [e])
theorem dec_of_get {α : Type} [DecidableEq α] {a b : List α} {k : Nat} (h1 : k < a.length) (h2 : k < b.length) (h : a[k] ≠ b[k]) : decide (a = b) = false := decide_eq_false fun e => h (by subst e; rfl)
set_option maxRecDepth 100000 in
set_option maxHeartbeats 2000000 in
theorem same_any (a b : List UInt8) (A B : Option Addr) (c d : Nat) (w : World) (ha : SlAt [] w A a) (hb : SlAt [] w B b) (hm : a.length ≤ 9223372036854775807) (hm' : b.length ≤ 9223372036854775807) :
    Calls Tryd.prog 20 #[.slice A a.length c, .slice B b.length d] w fun e w' => e = .returned (.bool (decide (a = b))) ∧ Below w.heap.size w w' := by
  obtain ⟨n, hn⟩ : ∃ n, a.length = n := ⟨_, rfl⟩
  obtain ⟨m, hm2⟩ : ∃ n, b.length = n := ⟨_, rfl⟩
  rw [hn, hm2]
  rw [hn] at hm
  rw [hm2] at hm'
  by_cases he : n = m
  · subst he
    have HA := Lib.hid ha; have HB := Lib.hid hb; have HN := Lib.hid hn; have HM := Lib.hid hm2
    obtain ⟨r, hr⟩ : ∃ r, decide (a = b) = r := ⟨_, rfl⟩
    rw [hr]
    have HR := Lib.hid hr
    clear ha hb hn hm2 hr
    go_enter Tryd.func20, Tryd.ntmps20
    go_wp2_with fail
    go_loopg [5] n (fun r i wr => ∃ k : Nat, k + r = n ∧ i = .int .i64 k ∧ Below w.heap.size w wr ∧ ∀ j (h1 : j < a.length) (h2 : j < b.length), j < k → a[j] = b[j])
    case atStart => exact ⟨0, by omega, rfl, Below.refl _ _, fun _ _ _ h => by omega⟩
    case round =>
      obtain ⟨k, hk, rfl, hbl, hall⟩ := hrel
      have HL := Lib.hid hbl; have HE := Lib.hid hall
      clear hbl hall
      obtain ⟨wo, rfl⟩ : ∃ wo : World, wo = wr := ⟨_, rfl⟩
      by_cases hlt : k < n
      · have hka : k < a.length := by rw [HN.out]; exact hlt
        have hkb : k < b.length := by rw [HM.out]; exact hlt
        have k0 : (0 : Int) ≤ (k : Int) := Int.natCast_nonneg _
        have k1 : (k : Int) < (n : Int) := by omega
        obtain ⟨b1, o1, rfl, _, c1⟩ := byte_at (HA.out.keep (Chg.of_below HL.out)) k hka
        obtain ⟨b2, o2, rfl, _, c2⟩ := byte_at (HB.out.keep (Chg.of_below HL.out)) k hkb
        by_cases hx : a[k] = b[k]
        · have HX := Lib.hid hx
          rw [← hx] at c2
          clear hx
          generalize a[k].toNat = x at c1 c2
          have t1 : ((x : Int) != (x : Int)) = false := by simp
          go_wp2_with fail
          go_quiet (fail)
          go_wp2_with fail
          go_roundg (gk - 1)
          case measure => omega
          case rel =>
            refine ⟨k + 1, by omega, by go_num, ?_, fun j h1 h2 hj => ?_⟩
            · first | exact HL.out.drewN _ | exact HL.out.drew | exact ⟨HL.out.os, HL.out.tape, HL.out.output, HL.out.size, HL.out.block⟩
            · rcases Nat.lt_or_ge j k with h' | h'
              · exact HE.out j h1 h2 h'
              · obtain rfl : j = k := by omega
                exact HX.out
        · have HF := Lib.hid (HR.out.symm.trans (dec_of_get hka hkb hx))
          have t1 : (((a[k].toNat : Nat) : Int) != ((b[k].toNat : Nat) : Int)) = true := by
            rw [bne_iff_ne]; intro h; exact hx (UInt8.toNat_inj.1 (by omega))
          generalize a[k].toNat = x at *
          generalize b[k].toNat = y at *
          clear hx
          go_wp2_with fail
          go_quiet (fail)
          go_wp2_with fail
          go_ret
          exact ⟨ret_bool HF.out.symm, by first | exact HL.out.drewN _ | exact HL.out.drew | exact ⟨HL.out.os, HL.out.tape, HL.out.output, HL.out.size, HL.out.block⟩⟩
      · have hkn : k = n := by omega
        subst hkn
        have HF := Lib.hid (HR.out.symm.trans (decide_eq_true (eq_prefix HN.out HM.out (Nat.le_refl _) HE.out)))
        go_wp2_with fail
        go_ret
        exact ⟨ret_bool HF.out.symm, HL.out⟩
  · have HR := Lib.hid (dec_of_len (a := a) (b := b) (by omega))
    have t1 : ((n : Int) != (m : Int)) = true := by rw [bne_iff_ne]; omega
    have t2 : (n != m) = true := by rw [bne_iff_ne]; omega
    clear ha hb hn hm2
    go_enter Tryd.func20, Tryd.ntmps20
    go_wp2_with fail
    go_ret
    exact ⟨ret_bool HR.out.symm, Below.refl _ _⟩
set_option maxRecDepth 100000 in
set_option maxHeartbeats 2000000 in
theorem samePrograms_any (a b : List Vm.Ins) (A B : Option Addr) (c d : Nat) (w : World) (ha : SlAt [] w A a) (hb : SlAt [] w B b) (hm : a.length ≤ 9223372036854775807) (hm' : b.length ≤ 9223372036854775807) :
    Calls Tryd.prog 30 #[.slice A a.length c, .slice B b.length d] w fun e w' => e = .returned (.bool (decide (a = b))) ∧ Below w.heap.size w w' := by
  obtain ⟨n, hn⟩ : ∃ n, a.length = n := ⟨_, rfl⟩
  obtain ⟨m, hm2⟩ : ∃ n, b.length = n := ⟨_, rfl⟩
  rw [hn, hm2]
  rw [hn] at hm
  rw [hm2] at hm'
  by_cases he : n = m
  · subst he
    have HA := Lib.hid ha; have HB := Lib.hid hb; have HN := Lib.hid hn; have HM := Lib.hid hm2
    obtain ⟨r, hr⟩ : ∃ r, decide (a = b) = r := ⟨_, rfl⟩
    rw [hr]
    have HR := Lib.hid hr
    clear ha hb hn hm2 hr
    go_enter Tryd.func30, Tryd.ntmps30
    go_wp2_with fail
    go_loopg [5] n (fun r i wr => ∃ k : Nat, k + r = n ∧ i = .int .i64 k ∧ Below w.heap.size w wr ∧ ∀ j (h1 : j < a.length) (h2 : j < b.length), j < k → a[j] = b[j])
    case atStart => exact ⟨0, by omega, rfl, Below.refl _ _, fun _ _ _ h => by omega⟩
    case round =>
      obtain ⟨k, hk, rfl, hbl, hall⟩ := hrel
      have HL := Lib.hid hbl; have HE := Lib.hid hall
      clear hbl hall
      obtain ⟨wo, rfl⟩ : ∃ wo : World, wo = wr := ⟨_, rfl⟩
      by_cases hlt : k < n
      · have hka : k < a.length := by rw [HN.out]; exact hlt
        have hkb : k < b.length := by rw [HM.out]; exact hlt
        have k0 : (0 : Int) ≤ (k : Int) := Int.natCast_nonneg _
        have k1 : (k : Int) < (n : Int) := by omega
        obtain ⟨b1, o1, rfl, _, c0, c1, c2, c3, _⟩ := Vm.ins_at (HA.out.keep (Chg.of_below HL.out)) k hka
        obtain ⟨b2, o2, rfl, _, d0, d1, d2, d3, _⟩ := Vm.ins_at (HB.out.keep (Chg.of_below HL.out)) k hkb
        by_cases hx : a[k] = b[k]
        · have HX := Lib.hid hx
          rw [← hx] at d0 d1 d2 d3
          clear hx
          obtain ⟨ia, hia⟩ : ∃ z, a[k] = z := ⟨_, rfl⟩
          rw [hia] at c0 c1 c2 c3 d0 d1 d2 d3
          clear hia
          obtain ⟨x0, x1, x2, x3⟩ := ia
          dsimp only at c0 c1 c2 c3 d0 d1 d2 d3
          go_wp2_with fail
          go_quiet (fail)
          go_wp2_with fail
          go_roundg (gk - 1)
          case measure => omega
          case rel =>
            refine ⟨k + 1, by omega, by go_num, ?_, fun j h1 h2 hj => ?_⟩
            · first | exact HL.out.drewN _ | exact HL.out.drew | exact ⟨HL.out.os, HL.out.tape, HL.out.output, HL.out.size, HL.out.block⟩
            · rcases Nat.lt_or_ge j k with h' | h'
              · exact HE.out j h1 h2 h'
              · obtain rfl : j = k := by omega
                exact HX.out
        · have HF := Lib.hid (HR.out.symm.trans (dec_of_get hka hkb hx))
          obtain ⟨ia, hia⟩ : ∃ z, a[k] = z := ⟨_, rfl⟩
          obtain ⟨ib, hib⟩ : ∃ z, b[k] = z := ⟨_, rfl⟩
          rw [hia, hib] at hx
          rw [hia] at c0 c1 c2 c3
          rw [hib] at d0 d1 d2 d3
          obtain ⟨x0, x1, x2, x3⟩ := ia
          obtain ⟨y0, y1, y2, y3⟩ := ib
          dsimp only at c0 c1 c2 c3 d0 d1 d2 d3
          simp only [Prod.mk.injEq] at hx
          clear hia hib
          rcases (show x0 ≠ y0 ∨ (x0 = y0 ∧ x1 ≠ y1) ∨ (x0 = y0 ∧ x1 = y1 ∧ x2 ≠ y2) ∨ (x0 = y0 ∧ x1 = y1 ∧ x2 = y2 ∧ x3 ≠ y3) by omega) with h | ⟨rfl, h⟩ | ⟨rfl, rfl, h⟩ | ⟨rfl, rfl, rfl, h⟩
          all_goals
            have t1 := beq_eq_false_iff_ne.2 h
            clear hx h
            go_wp2_with fail
            go_quiet (fail)
            go_wp2_with fail
            go_ret
            exact ⟨ret_bool HF.out.symm, by first | exact HL.out.drewN _ | exact HL.out.drew | exact ⟨HL.out.os, HL.out.tape, HL.out.output, HL.out.size, HL.out.block⟩⟩
      · have hkn : k = n := by omega
        subst hkn
        have HF := Lib.hid (HR.out.symm.trans (decide_eq_true (eq_prefix HN.out HM.out (Nat.le_refl _) HE.out)))
        go_wp2_with fail
        go_ret
        exact ⟨ret_bool HF.out.symm, HL.out⟩
  · have HR := Lib.hid (dec_of_len (a := a) (b := b) (by omega))
    have t1 : ((n : Int) != (m : Int)) = true := by rw [bne_iff_ne]; omega
    have t2 : (n != m) = true := by rw [bne_iff_ne]; omega
    clear ha hb hn hm2
    go_enter Tryd.func30, Tryd.ntmps30
    go_wp2_with fail
    go_ret
    exact ⟨ret_bool HR.out.symm, Below.refl _ _⟩
set_option maxHeartbeats 400000 in
theorem around_any (n m : Int) (w : World) (h1 : -9223372036854775808 ≤ n) (h2 : n ≤ 9223372036854775807) :
    Calls Tryd.prog 13 #[.int .i64 n, .int .i64 m] w fun e w' => e = .returned (.int .i64 (around n m)) ∧ w = w' := by
  by_cases h0 : n < 0
  · by_cases hm : m < 1
    · go_enter Tryd.func13, Tryd.ntmps13
      go_wp2
      go_ret
      exact ⟨ret_int (around_lo (by omega)).symm, rfl⟩
    · go_enter Tryd.func13, Tryd.ntmps13
      go_wp2
      go_ret
      exact ⟨ret_int (around_neg (by omega) (by omega)).symm, rfl⟩
  · by_cases hm : m < 1
    · go_enter Tryd.func13, Tryd.ntmps13
      go_wp2
      go_ret
      exact ⟨ret_int (around_lo (by omega)).symm, rfl⟩
    · go_enter Tryd.func13, Tryd.ntmps13
      go_wp2
      go_ret
      exact ⟨ret_int (around_pos (by omega) (by omega)).symm, rfl⟩
set_option maxHeartbeats 1000000 in
theorem at_any (A : Option Addr) (n c B : Nat) (L : List Int) (i : Nat) (m : Int) (w : World) (hi : Ints w B A n L) (hL : AllI L) (hn : n ≤ 9223372036854775807) (hib : i ≤ 10000) :
    Calls Tryd.prog 35 #[.slice A n c, .int .i64 i, .int .i64 m] w fun e w' => e = .returned (.int .i64 (atL L i m)) ∧ w = w' := by
  have hl := hi.len
  by_cases hlt : i < n
  · obtain ⟨b1, o1, rfl, _, c1⟩ := hi.form (by omega)
    have d1 := c1 i (by omega)
    obtain ⟨q1, q2⟩ := hL.get (k := i) (by omega)
    have HV : Hid (atL L i m = around (L.getD i 0) m) := by unfold Hid atL; rw [if_pos ⟨by omega, by omega⟩]; simp
    generalize L.getD i 0 = x at d1 q1 q2 HV
    clear c1 hi hL
    go_enter Tryd.func35, Tryd.ntmps35
    go_wp2_with (go_at_call 13; refine (around_any _ _ _ (by omega) (by omega)).mono ?_; rintro e w' ⟨rfl, rfl⟩)
    go_ret
    exact ⟨ret_int HV.out.symm, rfl⟩
  · have HV : Hid (atL L i m = 0) := by unfold Hid atL; rw [if_neg (by omega)]
    clear hi hL
    go_enter Tryd.func35, Tryd.ntmps35
    go_wp2_with fail
    go_ret
    exact ⟨ret_int HV.out.symm, rfl⟩
def shortB (m : Nat) (s : ByteArray) : ByteArray := if m < s.size then s.extract 0 m else s
set_option maxHeartbeats 1000000 in
theorem short_any (m : Nat) (hm : m ≤ 1000) (s : ByteArray) (w : World) (_hs : s.size ≤ 9223372036854775807) :
    Calls Tryd.prog 25 #[.string s, .int .i64 m] w fun e w' => e = .returned (.string (shortB m s)) ∧ w = w' := by
  by_cases h : m < s.size
  · have HV : Hid (shortB m s = s.extract 0 m) := by unfold Hid shortB; rw [if_pos h]
    go_enter Tryd.func25, Tryd.ntmps25
    go_wp2_with fail
    go_ret
    exact ⟨ret_str HV.out.symm, rfl⟩
  · have HV : Hid (shortB m s = s) := by unfold Hid shortB; rw [if_neg h]
    go_enter Tryd.func25, Tryd.ntmps25
    go_wp2_with fail
    go_ret
    exact ⟨ret_str HV.out.symm, rfl⟩
end Go.Proofs.YtdpcdocaahjeoaaDoor
