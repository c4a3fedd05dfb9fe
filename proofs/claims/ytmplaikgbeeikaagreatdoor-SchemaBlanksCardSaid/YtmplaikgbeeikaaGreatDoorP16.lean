/- Parts of the proof, joined: SxB0, SxB1, SxSp, SxQ1, SxQ2, SxQ3, SxQ4, SxQ5, SxQ6, SxB2p, SxB3, SxMet. -/
import Derived.Test.YtmplaikgbeeikaaGreatDoorP2
import Derived.Test.YtmplaikgbeeikaaGreatDoorP3
import Derived.Test.YtmplaikgbeeikaaGreatDoorP10
import Derived.Test.YtmplaikgbeeikaaGreatDoorP11
import Derived.Test.YtmplaikgbeeikaaGreatDoorP12
import Derived.Test.YtmplaikgbeeikaaGreatDoorP13
import Derived.Test.YtmplaikgbeeikaaGreatDoorP14
import Derived.Test.YtmplaikgbeeikaaGreatDoorP15
import Derived.Test.YtmplaikgbeeikaaGreatDoorCards
import Derived.Test.YtmplaikgbeeikaaGreatDoorTie
import Derived.WalkLawsBesides
import Derived.Deep.CutBlock
import Derived.Laws.IdiomStrings
import Derived.Deep.LoopGhost
import Derived.Laws.StructEq
import Derived.ChangeKeysEq
import Derived.Carry
import Derived.ChangeSlices
import Derived.Lib.SmallJoins
import Derived.WalkKit
import Derived.ProofKit
import Derived.OpenShut
import Derived.LaidMore
import Derived.Lay
import Derived.LaidOnce
import Derived.Stop.LaidErr
import Derived.Deep.DeepHandedRow
import Derived.Deep.DeepWitnessRowRef
import Derived.Lib.LaidTab
import Derived.Below
import Derived.ChangeSame
set_option linter.unusedVariables false
set_option linter.unusedSimpArgs false
set_option linter.unusedSectionVars false
namespace Go.Proofs.YtmplaikgbeeikaaGreatDoor
open Go Go.RowKit
theorem src_len {x : Sch} (h : Sx.valid x = 0) : (Sx.source x).length ≤ 8192 := (Sx.valid_ok h).2
end Go.Proofs.YtmplaikgbeeikaaGreatDoor
namespace Go.Proofs.YtmplaikgbeeikaaGreatDoor
open Go Go.RowKit
theorem pparse_open (s : ByteArray) (w : World) (hs : s.size ≤ 9223372036854775807) (he : SEnv w) {x : Sch} {k e : Int} (hp : Sx.parse s.data.toList = (x, k, e)) : Calls Tryz.prog 13 #[.string s] w fun e' w' => ∃ (A : Option Addr) (c : Nat) (B : Option Addr) (d : Nat) (C : Option Addr) (f nk nl nr : Nat), e' = .returned (.tuple #[.agg #[.int .i64 x.1, .slice A nk c, .slice B nl d, .slice C nr f], .int .i64 k, .int .i64 e]) ∧ Mem.rep [] w' x [.int .i64 x.1, .slice A nk c, .slice B nl d, .slice C nr f] ∧ Below w.heap.size w w' := by
  refine (pparse_any s w hs he).mono ?_
  rintro e' w' ⟨us, h1, h2, h3⟩
  rw [hp] at h1 h2
  obtain ⟨A, c, B, d, C, f, rfl, _⟩ := rep_sch h2
  exact ⟨A, c, B, d, C, f, _, _, _, h1, h2, h3⟩
end Go.Proofs.YtmplaikgbeeikaaGreatDoor
namespace Go.Proofs.YtmplaikgbeeikaaGreatDoor
open Go Go.RowKit
/-- A text of other blanks between the tokens. -/
def SpacedP (l : List UInt8) (w : World) (e : Ending) (w' : World) : Prop := ∃ (t : ByteArray) (bs : List Sx.Txt), e = .returned (.string t) ∧ bs.length = (Sx.toks l).length ∧ (∀ b ∈ bs, b ∈ Sx.blanks) ∧ t.data.toList = Sx.spaced bs ((Sx.toks l).map Prod.fst) ∧ Below w.heap.size w w'
def BlkS (v : Value) (_ : World) : Prop := ∃ u : ByteArray, v = .string u ∧ u.data.toList ∈ Sx.blanks
theorem blkS_kept : Kept BlkS := fun _ _ _ h _ => h
def CatS (t x : ByteArray) (v : Value) (_ : World) : Prop := ∃ u : ByteArray, v = .string (t ++ u ++ x) ∧ u.data.toList ∈ Sx.blanks
theorem catS_kept (t x : ByteArray) : Kept (CatS t x) := fun _ _ _ h _ => h
def CatT (t : ByteArray) (v : Value) (_ : World) : Prop := ∃ u : ByteArray, v = .string (t ++ u) ∧ u.data.toList ∈ Sx.blanks
theorem catT_kept (t : ByteArray) : Kept (CatT t) := fun _ _ _ h _ => h
def AtBl (v : Value) (w : World) : Prop := ∃ a u, v = .pointer (some a) ∧ w.cell? a = some (.string u) ∧ u.data.toList ∈ Sx.blanks
theorem atBl_kept : Kept AtBl := fun _ _ _ ⟨a, u, h1, h2, h3⟩ hb => ⟨a, u, h1, (hb.cell (World.block_lt_of_cell? _ _ h2)).trans h2, h3⟩
theorem bl_at (z : Nat) (h : z < 3) : ∃ u : ByteArray, (#[Value.string ⟨#[32]⟩, .string ⟨#[10]⟩, .string ⟨#[32, 32, 10, 32]⟩] : Array Value)[z]? = some (.string u) ∧ u.data.toList ∈ Sx.blanks := by
  rcases (show z = 0 ∨ z = 1 ∨ z = 2 by omega) with rfl | rfl | rfl
  · exact ⟨_, rfl, by decide⟩
  · exact ⟨_, rfl, by decide⟩
  · exact ⟨_, rfl, by decide⟩
theorem bl_size {u : ByteArray} (h : u.data.toList ∈ Sx.blanks) : u.size ≤ 4 := by
  rw [← strLen]
  unfold Sx.blanks at h
  simp only [List.mem_cons, List.not_mem_nil, or_false] at h
  rcases h with h | h | h <;> rw [h] <;> decide
set_option maxRecDepth 100000 in
set_option maxHeartbeats 16000000 in
theorem spacedX_any (s : ByteArray) (l : List Int) (A : Option Addr) (c : Nat) (w : World) (hs : s.size ≤ 1000000) (hl : SlAt [] w A l) (hm : l.length ≤ 9223372036854775807) :
    Calls Tryz.prog 10 #[.string s, .slice A l.length c] w (SpacedP s.data.toList w) := by
  have CS := Lib.hid (fun W => scan_any s W hs)
  unfold ScanP at CS
  have HAT := Lib.hid (fun (i m : Int) (W : World) (h : SlAt [] W A l) => at_some A c l i m W h hm)
  obtain ⟨n, hn⟩ : ∃ n, l.length = n := ⟨_, rfl⟩
  rw [hn] at HAT
  unfold SpacedP
  have htl := (show Sx.toks s.data.toList = ((Vm.scan s.data.toList (s.data.toList.length + 1) 0).1).map fun t => (Vm.piece s.data.toList t.1 t.2, t.1) from rfl)
  obtain ⟨toks, htk⟩ : ∃ t, (Vm.scan s.data.toList (s.data.toList.length + 1) 0).1 = t := ⟨_, rfl⟩
  obtain ⟨en, hen⟩ : ∃ t, (Vm.scan s.data.toList (s.data.toList.length + 1) 0).2 = t := ⟨_, rfl⟩
  rw [htk, hen, Vm.strLn] at CS
  rw [htk] at htl
  obtain ⟨ws, hws⟩ : ∃ l : List Sx.Txt, toks.map (fun p => Vm.piece s.data.toList p.1 p.2) = l := ⟨_, rfl⟩
  have HW0 := Lib.hid (show (Sx.toks s.data.toList).map Prod.fst = ws by rw [htl, List.map_map, ← hws]; rfl)
  have HWN := Lib.hid (show (Sx.toks s.data.toList).length = toks.length by rw [htl, List.length_map])
  rw [HW0.out, HWN.out]
  have HWS := Lib.hid hws
  obtain ⟨m, hmz⟩ : ∃ m, s.size = m := ⟨_, rfl⟩
  obtain ⟨nt, hnt⟩ : ∃ m, toks.length = m := ⟨_, rfl⟩
  rw [hmz] at CS hs
  rw [hnt] at CS
  have HM := Lib.hid hmz
  have HNT := Lib.hid hnt
  have HL := Lib.hid hl
  rw [hn, hnt]
  clear hl hm hn htk hen hnt htl hws
  go_enter Tryz.func10, Tryz.ntmps10
  go_wp2_with (go_at_call 29; ((with_reducible refine (CS.out _).mono ?_)); rintro e w1 ⟨At, ct, rfl, hsl, htl, hbd, hb⟩; have HSL := Lib.hid hsl; have HTL := Lib.hid htl; have HBD := Lib.hid hbd; have HB := Lib.hid hb; clear hsl htl hbd hb)
  go_loopg [7, 8] nt (fun r v7 v8 wr => ∃ (k : Nat) (t : ByteArray), k + r = nt ∧ v8 = .int .i64 k ∧ v7 = .string t ∧ t.size ≤ k * (m + 4) ∧ (∃ bs : List Sx.Txt, bs.length = k ∧ (∀ b ∈ bs, b ∈ Sx.blanks) ∧ t.data.toList = Sx.spaced bs (ws.take k)) ∧ Below w1.heap.size w1 wr)
  case atStart => exact ⟨0, ⟨#[]⟩, by omega, rfl, rfl, Nat.zero_le _, ⟨[], rfl, (fun _ h => by cases h), rfl⟩, Below.refl _ _⟩
  case round =>
    obtain ⟨k, t, hk, rfl, rfl, hts, hbs, hbl⟩ := hrel
    have HBS := Lib.hid hbs
    clear hbs
    obtain ⟨wo, rfl⟩ : ∃ wo : World, wo = wr := ⟨_, rfl⟩
    have HBL := Lib.hid hbl
    have HTS := Lib.hid hts
    clear hts
    by_cases hlt : k < nt
    · have k1 : (k : Int) < (nt : Int) := by omega
      have k0 : (0 : Int) ≤ (k : Int) := by omega
      have hkt : k < toks.length := by rw [HNT.out]; exact hlt
      obtain ⟨b9, o9, rfl, c0, c1⟩ := tok_at (HSL.out.keep (Chg.of_below HBL.out)) k hkt
      obtain ⟨hb1, hb2⟩ := HBD.out _ (List.getElem_mem hkt)
      obtain ⟨ta, hta⟩ : ∃ z, toks[k].1 = z := ⟨_, rfl⟩
      obtain ⟨tb, htb⟩ : ∃ z, toks[k].2 = z := ⟨_, rfl⟩
      have HTA := Lib.hid hta; have HTB := Lib.hid htb
      rw [hta] at c0 hb1
      rw [htb] at c1 hb1 hb2
      have HAL := Lib.hid (HL.out.keep (Chg.of_below (HB.out.trans (HBL.out.mono HB.out.size))))
      have hkm : k ≤ m := by have := HTL.out; omega
      have hk64 := Lib.hid (show inI (k : Int) by unfold inI; omega)
      have hbo : t.size ≤ 1000000 * 1000004 := by have := HTS.out; have : k * (m + 4) ≤ 1000000 * 1000004 := Nat.mul_le_mul (by omega) (by omega); omega
      clear hta htb hbl
      have hxs : (s.extract ta tb).size ≤ m := by rw [ByteArray.size_extract]; have := HM.out; omega
      have HXL := Lib.hid (ext_ofT s ta tb)
      obtain ⟨x, hx⟩ : ∃ x, s.extract ta tb = x := ⟨_, rfl⟩
      rw [hx] at hxs HXL
      have HX := Lib.hid hx
      clear hx
      go_wp2_with fail
      apply wp_region_typed (C := fun w' => Below wo.heap.size wo w') (n := 42) (m := 21) (l1 := [_, _, _, _, _, _, _, _, _, _, _, _, _, _, _, _, _, _, _, _, _]) (l2 := [_])
      · rfl
      · rfl
      · kernel_rfl
      · rfl
      · kernel_rfl
      · exact ⟨rfl, rfl, rfl, Nat.le_refl _, fun _ _ => rfl⟩
      · exact fun u u' h hb => (by first | exact h.below hb | exact h.trans (hb.mono h.size))
      (apply wpT_exact; · (intro w' hC hf; unfold Gives; clear hf hC; go_wp2_with (fail); apply postT_val rfl (Below.refl _ _); simp only [valAt, Array.getD_eq_getD_getElem?, List.getElem?_toArray, List.getElem?_cons_succ, List.getElem?_cons_zero, Option.getD_some]; exact rfl)); (try simp only [Act.put, List.setIfInBounds_toArray, List.set_cons_zero, List.set_cons_succ])
      apply wpT_typed (slBlk_kept 3 9 #[.string ⟨#[32]⟩, .string ⟨#[10]⟩, .string ⟨#[32, 32, 10, 32]⟩])
      · intro w' hC hf; unfold Gives; clear hf hC; go_wp2_with fail; apply postT_mk rfl (by go_grown); simp only [valAt, Array.getD_eq_getD_getElem?, List.getElem?_toArray, List.getElem?_cons_succ, List.getElem?_cons_zero, Option.getD_some]; exact ⟨_, rfl, Blk.new _ _ _⟩
      intro vsl; (try simp only [Act.put, List.setIfInBounds_toArray, List.set_cons_zero, List.set_cons_succ])
      (apply wpT_exact; · (intro w' hC hf; unfold Gives; clear hf hC; go_wp2_with (fail); apply postT_val rfl (Below.refl _ _); simp only [valAt, Array.getD_eq_getD_getElem?, List.getElem?_toArray, List.getElem?_cons_succ, List.getElem?_cons_zero, Option.getD_some]; exact rfl)); (try simp only [Act.put, List.setIfInBounds_toArray, List.set_cons_zero, List.set_cons_succ])
      (apply wpT_exact; · (intro w' hC hf; unfold Gives; clear hf hC; go_wp2_with (fail); apply postT_val rfl (Below.refl _ _); simp only [valAt, Array.getD_eq_getD_getElem?, List.getElem?_toArray, List.getElem?_cons_succ, List.getElem?_cons_zero, Option.getD_some]; exact rfl)); (try simp only [Act.put, List.setIfInBounds_toArray, List.set_cons_zero, List.set_cons_succ])
      apply wpT_typed (T := fun v _ => ∃ z : Nat, v = .int .i64 (z : Int) ∧ z < 3) (fun v w w' h _ => h)
      · intro w' hC hf; unfold Gives; clear hf
        have HS5 := Lib.hid (HAL.out.keep (Chg.of_below hC)); clear hC
        go_wp2_with (go_at_call 30; refine (HAT.out _ 3 _ HS5.out hk64.out (by omega) (by omega)).mono ?_; rintro e w' ⟨v, rfl, v1, v2, rfl⟩; obtain ⟨z, rfl⟩ : ∃ z : Nat, v = z := ⟨v.toNat, by omega⟩)
        refine postT_mk rfl (Below.refl _ _) ?_; simp only [valAt, Array.getD_eq_getD_getElem?, List.getElem?_toArray, List.getElem?_cons_succ, List.getElem?_cons_zero, Option.getD_some]; exact ⟨z, rfl, by omega⟩
      intro v24; (try simp only [Act.put, List.setIfInBounds_toArray, List.set_cons_zero, List.set_cons_succ])
      apply wpT_typed atBl_kept
      · intro w' hC hf; unfold Gives
        obtain ⟨z, rfl, hz⟩ := hf.1 rfl
        obtain ⟨g, rfl, hB⟩ := hf.2.1 rfl
        obtain ⟨u, hu, hu4⟩ := bl_at z hz
        have hcell := (hB.cell z).trans hu
        have HC := Lib.hid hcell
        have k9 : (z : Int) < 3 := by omega
        clear hf hC hcell hB hu
        go_wp2_with fail
        apply postT_mk rfl (Below.refl _ _); simp only [valAt, Array.getD_eq_getD_getElem?, List.getElem?_toArray, List.getElem?_cons_succ, List.getElem?_cons_zero, Option.getD_some]; exact ⟨_, u, rfl, by first | exact HC.out | simpa [Addr.add] using HC.out, hu4⟩
      intro v25; (try simp only [Act.put, List.setIfInBounds_toArray, List.set_cons_zero, List.set_cons_succ])
      -- the blank
      apply wpT_typed blkS_kept
      · intro w' hC hf; unfold Gives
        obtain ⟨a, u, rfl, hu, hu4⟩ := hf.1 rfl
        clear hf hC
        go_wp2_with fail
        apply postT_mk rfl (Below.refl _ _); simp only [valAt, Array.getD_eq_getD_getElem?, List.getElem?_toArray, List.getElem?_cons_succ, List.getElem?_cons_zero, Option.getD_some]; exact ⟨u, rfl, hu4⟩
      intro v26; (try simp only [Act.put, List.setIfInBounds_toArray, List.set_cons_zero, List.set_cons_succ])
      apply wpT_typed (catT_kept t)
      · intro w' hC hf; unfold Gives
        obtain ⟨u, rfl, hu4⟩ := hf.1 rfl
        have hus := bl_size hu4
        have HU4 := Lib.hid hu4
        clear hf hC hu4
        go_wp2_with fail
        apply postT_mk rfl (Below.refl _ _); simp only [valAt, Array.getD_eq_getD_getElem?, List.getElem?_toArray, List.getElem?_cons_succ, List.getElem?_cons_zero, Option.getD_some]; exact ⟨_, rfl, HU4.out⟩
      intro v27; (try simp only [Act.put, List.setIfInBounds_toArray, List.set_cons_zero, List.set_cons_succ])
      iterate 11 ((apply wpT_exact; · (intro w' hC hf; unfold Gives; have q0 := (hC.cell (World.block_lt_of_cell? _ _ c0)).trans c0; have q1 := (hC.cell (World.block_lt_of_cell? _ _ c1)).trans c1; clear hf hC; go_wp2_with (fail); apply postT_val rfl (Below.refl _ _); simp only [valAt, Array.getD_eq_getD_getElem?, List.getElem?_toArray, List.getElem?_cons_succ, List.getElem?_cons_zero, Option.getD_some]; exact rfl)); (try simp only [Act.put, List.setIfInBounds_toArray, List.set_cons_zero, List.set_cons_succ]))
      have HHM := Lib.hid (show tb ≤ s.size by rw [HM.out]; exact hb2)
      apply wpT_exact (c := .string x)
      · intro w' hC hf; unfold Gives; clear hf hC
        have h1 : (ta : Int) ≤ (tb : Int) := by omega
        have h2 : (tb : Int) ≤ (m : Int) := by omega
        have h3 : (0 : Int) ≤ (ta : Int) := by omega
        have h4 : tb ≤ s.size := HHM.out
        have h5 : (tb : Int) ≤ (s.size : Int) := by omega
        go_wp2_with fail
        apply postT_val rfl (Below.refl _ _); simp only [valAt, Array.getD_eq_getD_getElem?, List.getElem?_toArray, List.getElem?_cons_succ, List.getElem?_cons_zero, Option.getD_some]; rw [← HX.out]
      (try simp only [Act.put, List.setIfInBounds_toArray, List.set_cons_zero, List.set_cons_succ])
      apply wpT_typed (catS_kept t x)
      · intro w' hC hf; unfold Gives
        obtain ⟨u1, rfl, hu1⟩ := hf.1 rfl
        have hus := bl_size hu1
        have hlen : (t ++ u1).size ≤ t.size + 4 := by rw [ByteArray.size_append]; omega
        have HU1 := Lib.hid hu1
        clear hf hC hu1
        go_wp2_with fail
        apply postT_mk rfl (Below.refl _ _); simp only [valAt, Array.getD_eq_getD_getElem?, List.getElem?_toArray, List.getElem?_cons_succ, List.getElem?_cons_zero, Option.getD_some]; exact ⟨_, rfl, HU1.out⟩
      intro v40; (try simp only [Act.put, List.setIfInBounds_toArray, List.set_cons_zero, List.set_cons_succ])
      apply wpT_done
      intro w4 hC hall
      obtain ⟨u, rfl, hu⟩ := hall.1
      have HC := Lib.hid (HBL.out.trans (hC.mono HBL.out.size))
      have HU := Lib.hid hu
      clear hall hC hu
      go_wp2_with fail
      go_roundg (gk - 1)
      case measure => omega
      case rel =>
        refine ⟨k + 1, _, by omega, by go_num, rfl, ?_, ?_, HC.out⟩
        · have h1 := bl_size HU.out; have h2 := HTS.out; rw [ByteArray.size_append, ByteArray.size_append, Nat.add_mul]; omega
        · obtain ⟨bs, b1, b2, b3⟩ := HBS.out
          have hkw : k < ws.length := by rw [← HWS.out, List.length_map]; exact hkt
          refine ⟨bs ++ [u.data.toList], by rw [List.length_append, b1]; rfl, fun b hb => ?_, ?_⟩
          · rcases List.mem_append.1 hb with hb | hb
            · exact b2 b hb
            · rw [List.mem_singleton] at hb; subst hb; exact HU.out
          · rw [take_snoc' ws k hkw, Sx.spaced_snoc _ _ _ _ (by rw [List.length_take, b1]; omega), ← b3]
            rw [show ws[k] = x.data.toList by rw [HXL.out, ofT_list]; simp only [← HWS.out, List.getElem_map]; rw [HTA.out, HTB.out]]
            simp
    · obtain rfl : nt = k := by omega
      have k1 : ¬ (nt : Int) < (nt : Int) := by omega
      have HBF := Lib.hid (HB.out.trans (HBL.out.mono HB.out.size))
      go_wp2_with fail
      go_ret
      obtain ⟨bs, b1, b2, b3⟩ := HBS.out
      exact ⟨t, rfl, bs, b1, b2, by rw [b3, List.take_of_length_le (by rw [← HWS.out, List.length_map]; exact Nat.le_of_eq HNT.out)], HBF.out⟩
end Go.Proofs.YtmplaikgbeeikaaGreatDoor
namespace Go.Proofs.YtmplaikgbeeikaaGreatDoor
open Go Go.RowKit
def Sx.eqL {α : Type} (p : α → α → Bool) (a b : List α) : Bool := decide (a.length = b.length) && (a.zip b).all fun q => p q.1 q.2
theorem eqL_len {α : Type} {p : α → α → Bool} {a b : List α} (h : a.length ≠ b.length) : Sx.eqL p a b = false := by unfold Sx.eqL; rw [decide_eq_false h]; rfl
theorem eqL_bad {α : Type} {p : α → α → Bool} {a b : List α} {k : Nat} (h1 : k < a.length) (h2 : k < b.length) (h : p a[k] b[k] = false) : Sx.eqL p a b = false := by
  unfold Sx.eqL
  rw [all_bad (b := fun q => p q.1 q.2) (l := a.zip b) (k := k) (by rw [List.length_zip]; omega) (by rw [List.getElem_zip]; exact h), Bool.and_false]
theorem eqL_good {α : Type} {p : α → α → Bool} {a b : List α} (hl : a.length = b.length) (h : ∀ k (h1 : k < a.length) (h2 : k < b.length), p a[k] b[k] = true) : Sx.eqL p a b = true := by
  unfold Sx.eqL
  rw [decide_eq_true hl, all_good fun k hk => ?_, Bool.and_true]
  rw [List.length_zip] at hk
  rw [List.getElem_zip]
  exact h k (by omega) (by omega)
theorem eqL_iff {α : Type} {p : α → α → Bool} (hp : ∀ x y, p x y = true ↔ x = y) (a b : List α) : Sx.eqL p a b = true ↔ a = b := by
  constructor
  · intro h
    unfold Sx.eqL at h
    rw [Bool.and_eq_true, decide_eq_true_eq, List.all_eq_true] at h
    refine List.ext_getElem h.1 fun k h1 h2 => (hp _ _).1 ?_
    have := h.2 (a[k], b[k]) (by
      have := List.getElem_mem (l := a.zip b) (n := k) (by rw [List.length_zip]; omega)
      rw [List.getElem_zip] at this; exact this)
    exact this
  · rintro rfl
    exact eqL_good rfl fun k h1 h2 => (hp _ _).2 rfl
def rtEF : Value := .func (.func 62) #[] #[]
set_option maxRecDepth 100000 in
set_option maxHeartbeats 8000000 in
theorem eqF_any (xs ys : List (Fld)) (A B : Option Addr) (c d : Nat) (w : World) (ha : SlAt [] w A xs) (hb : SlAt [] w B ys) (hx : xs.length ≤ 9223372036854775807) (hy : ys.length ≤ 9223372036854775807) :
    Calls Tryz.prog 61 #[.slice A xs.length c, .slice B ys.length d, rtEF] w (BoolP (Sx.eqL Sx.sameF xs ys) w) := by
  obtain ⟨n, hn⟩ : ∃ n, xs.length = n := ⟨_, rfl⟩
  obtain ⟨m, hm⟩ : ∃ n, ys.length = n := ⟨_, rfl⟩
  have HX := Lib.hid ha; have HY := Lib.hid hb
  have HN := Lib.hid hn; have HM := Lib.hid hm
  have HBD := Lib.hid (fun (k : Nat) => eqL_bad (p := Sx.sameF) (a := xs) (b := ys) (k := k))
  have HGD := Lib.hid (eqL_good (p := Sx.sameF) (a := xs) (b := ys))
  have HLN := Lib.hid (eqL_len (p := Sx.sameF) (a := xs) (b := ys))
  obtain ⟨q, hq⟩ : ∃ b, Sx.eqL Sx.sameF xs ys = b := ⟨_, rfl⟩
  rw [hq] at HBD HGD HLN ⊢
  rw [hn] at hx ⊢
  rw [hm] at hy ⊢
  unfold rtEF
  clear ha hb hn hm hq
  go_enter Tryz.func61, Tryz.ntmps61
  by_cases hnm : n = m
  · subst hnm
    go_wp2_with fail
    go_loopg [17] n (fun r i wr => ∃ k : Nat, k + r = n ∧ i = .int .i64 k ∧ Below w.heap.size w wr ∧ ∀ j (h1 : j < xs.length) (h2 : j < ys.length), j < k → Sx.sameF xs[j] ys[j] = true)
    case atStart => exact ⟨0, by omega, rfl, Below.refl _ _, fun _ _ _ h => by omega⟩
    case round =>
      obtain ⟨k, hk, rfl, hb, hall⟩ := hrel
      obtain ⟨wo, rfl⟩ : ∃ wo : World, wo = wr := ⟨_, rfl⟩
      have HB := Lib.hid hb
      have HA := Lib.hid hall
      clear hb hall
      by_cases hlt : k < n
      · have hkx : k < xs.length := by rw [HN.out]; exact hlt
        have hky : k < ys.length := by rw [HM.out]; exact hlt
        have k0 : (0 : Int) ≤ (k : Int) := Int.natCast_nonneg _
        have k1 : (k : Int) < (n : Int) := by omega
        obtain ⟨b, o, us, rfl, _, hr, hc⟩ := (HX.out.keep (Chg.of_below HB.out)).get k hkx
        obtain ⟨b2, o2, vs, rfl, _, hr2, hc2⟩ := (HY.out.keep (Chg.of_below HB.out)).get k hky
        obtain ⟨x, hxe⟩ : ∃ x, xs[k] = x := ⟨_, rfl⟩
        obtain ⟨y, hye⟩ : ∃ x, ys[k] = x := ⟨_, rfl⟩
        have HP := Lib.hid (show Sx.sameF xs[k] ys[k] = Sx.sameF x y by rw [hxe, hye])
        rw [hxe] at hr
        rw [hye] at hr2
        have hr0 := hr; have hr02 := hr2
        obtain ⟨A1, cA, B1, dA, rfl, _⟩ := rep_fld hr0
        obtain ⟨A2, cB, B2, dB, rfl, _⟩ := rep_fld hr02
        rw [show Mem.sz (Fld) = 8 from rfl] at hc hc2
        have c0 : wo.cell? ⟨b, o + k * 8, none⟩ = some (.string (Sc.nm x)) := hc 0 _ rfl
        have c1 : wo.cell? ⟨b, o + k * 8 + 1, none⟩ = some (.string (Sc.of_ x)) := hc 1 _ rfl
        have c2 : wo.cell? ⟨b, o + k * 8 + 2, none⟩ = some (.string (Sc.up x)) := hc 2 _ rfl
        have c3 : wo.cell? ⟨b, o + k * 8 + 3, none⟩ = some (.int .i64 (Sc.kd x)) := hc 3 _ rfl
        have c4 : wo.cell? ⟨b, o + k * 8 + 4, none⟩ = some (.int .i64 (Sc.lo x)) := hc 4 _ rfl
        have c5 : wo.cell? ⟨b, o + k * 8 + 5, none⟩ = some (.int .i64 (Sc.hi x)) := hc 5 _ rfl
        have c6 : wo.cell? ⟨b, o + k * 8 + 6, none⟩ = some (.slice A1 (Sc.words x).length cA) := hc 6 _ rfl
        have c7 : wo.cell? ⟨b, o + k * 8 + 7, none⟩ = some (.slice B1 (Sc.wts x).length dA) := hc 7 _ rfl
        have d0 : wo.cell? ⟨b2, o2 + k * 8, none⟩ = some (.string (Sc.nm y)) := hc2 0 _ rfl
        have d1 : wo.cell? ⟨b2, o2 + k * 8 + 1, none⟩ = some (.string (Sc.of_ y)) := hc2 1 _ rfl
        have d2 : wo.cell? ⟨b2, o2 + k * 8 + 2, none⟩ = some (.string (Sc.up y)) := hc2 2 _ rfl
        have d3 : wo.cell? ⟨b2, o2 + k * 8 + 3, none⟩ = some (.int .i64 (Sc.kd y)) := hc2 3 _ rfl
        have d4 : wo.cell? ⟨b2, o2 + k * 8 + 4, none⟩ = some (.int .i64 (Sc.lo y)) := hc2 4 _ rfl
        have d5 : wo.cell? ⟨b2, o2 + k * 8 + 5, none⟩ = some (.int .i64 (Sc.hi y)) := hc2 5 _ rfl
        have d6 : wo.cell? ⟨b2, o2 + k * 8 + 6, none⟩ = some (.slice A2 (Sc.words y).length cB) := hc2 6 _ rfl
        have d7 : wo.cell? ⟨b2, o2 + k * 8 + 7, none⟩ = some (.slice B2 (Sc.wts y).length dB) := hc2 7 _ rfl
        have hb5 : Below wo.heap.size wo (wo.alloc (.cells #[.string (Sc.nm x), .string (Sc.of_ x), .string (Sc.up x), .int .i64 (Sc.kd x), .int .i64 (Sc.lo x), .int .i64 (Sc.hi x), .slice A1 (Sc.words x).length cA, .slice B1 (Sc.wts x).length dA] 52)) := (Below.refl _ _).alloc (Nat.le_refl _) _
        have hk5 : Blk (wo.alloc (.cells #[.string (Sc.nm x), .string (Sc.of_ x), .string (Sc.up x), .int .i64 (Sc.kd x), .int .i64 (Sc.lo x), .int .i64 (Sc.hi x), .slice A1 (Sc.words x).length cA, .slice B1 (Sc.wts x).length dA] 52)) wo.heap.size 52 #[.string (Sc.nm x), .string (Sc.of_ x), .string (Sc.up x), .int .i64 (Sc.kd x), .int .i64 (Sc.lo x), .int .i64 (Sc.hi x), .slice A1 (Sc.words x).length cA, .slice B1 (Sc.wts x).length dA] := Blk.new _ _ _
        have HR1 := Lib.hid (Mem.keep hr (Chg.of_below hb5)); have HR2 := Lib.hid (Mem.keep hr2 (Chg.of_below hb5))
        have e0 := (hb5.cell (World.block_lt_of_cell? _ _ d0)).trans d0
        have e1 := (hb5.cell (World.block_lt_of_cell? _ _ d1)).trans d1
        have e2 := (hb5.cell (World.block_lt_of_cell? _ _ d2)).trans d2
        have e3 := (hb5.cell (World.block_lt_of_cell? _ _ d3)).trans d3
        have e4 := (hb5.cell (World.block_lt_of_cell? _ _ d4)).trans d4
        have e5 := (hb5.cell (World.block_lt_of_cell? _ _ d5)).trans d5
        have e6 := (hb5.cell (World.block_lt_of_cell? _ _ d6)).trans d6
        have e7 := (hb5.cell (World.block_lt_of_cell? _ _ d7)).trans d7
        obtain ⟨Nx, hNx⟩ : ∃ n, wo.heap.size = n := ⟨_, rfl⟩
        have HB5 := Lib.hid (HB.out.trans (hb5.mono HB.out.size))
        have HK5 := Lib.hid hk5
        clear hxe hye hr hr2 hr0 hr02 hc hc2 hb5 hk5
        go_upto_region 6 with fail
        generalize wo.alloc (.cells #[.string (Sc.nm x), .string (Sc.of_ x), .string (Sc.up x), .int .i64 (Sc.kd x), .int .i64 (Sc.lo x), .int .i64 (Sc.hi x), .slice A1 (Sc.words x).length cA, .slice B1 (Sc.wts x).length dA] 52) = w5 at *
        rw [hNx] at HK5
        clear hNx c0 c1 c2 c3 c4 c5 c6 c7 d0 d1 d2 d3 d4 d5 d6 d7
        have hb6 : Below w5.heap.size w5 (w5.alloc (.cells #[.string (Sc.nm y), .string (Sc.of_ y), .string (Sc.up y), .int .i64 (Sc.kd y), .int .i64 (Sc.lo y), .int .i64 (Sc.hi y), .slice A2 (Sc.words y).length cB, .slice B2 (Sc.wts y).length dB] 52)) := (Below.refl _ _).alloc (Nat.le_refl _) _
        have HK6 := Lib.hid (show Blk (w5.alloc (.cells #[.string (Sc.nm y), .string (Sc.of_ y), .string (Sc.up y), .int .i64 (Sc.kd y), .int .i64 (Sc.lo y), .int .i64 (Sc.hi y), .slice A2 (Sc.words y).length cB, .slice B2 (Sc.wts y).length dB] 52)) w5.heap.size 52 #[.string (Sc.nm y), .string (Sc.of_ y), .string (Sc.up y), .int .i64 (Sc.kd y), .int .i64 (Sc.lo y), .int .i64 (Sc.hi y), .slice A2 (Sc.words y).length cB, .slice B2 (Sc.wts y).length dB] from Blk.new _ _ _)
        have HK7 := Lib.hid (HK5.out.below hb6 HK5.out.lt)
        have CE := Lib.hid (sameField_any x y _ _ _ (Mem.keep HR1.out (Chg.of_below hb6)) (Mem.keep HR2.out (Chg.of_below hb6)))
        have HB6 := Lib.hid (HB5.out.trans (hb6.mono HB5.out.size))
        obtain ⟨Ny, hNy⟩ : ∃ n, w5.heap.size = n := ⟨_, rfl⟩
        clear hb6 HR1 HR2
        go_upto_region 7 with fail
        generalize w5.alloc (.cells #[.string (Sc.nm y), .string (Sc.of_ y), .string (Sc.up y), .int .i64 (Sc.kd y), .int .i64 (Sc.lo y), .int .i64 (Sc.hi y), .slice A2 (Sc.words y).length cB, .slice B2 (Sc.wts y).length dB] 52) = w6 at *
        rw [hNy] at HK6
        clear hNy e0 e1 e2 e3 e4 e5 e6 e7
        have hk7 := HK7.out; have hk6 := HK6.out
        have z0 := hk7.cell 0; have z1 := hk7.cell 1; have z2 := hk7.cell 2; have z3 := hk7.cell 3; have z4 := hk7.cell 4; have z5 := hk7.cell 5; have z6 := hk7.cell 6; have z7 := hk7.cell 7; simp at z0 z1 z2 z3 z4 z5 z6 z7; have y0 := hk6.cell 0; have y1 := hk6.cell 1; have y2 := hk6.cell 2; have y3 := hk6.cell 3; have y4 := hk6.cell 4; have y5 := hk6.cell 5; have y6 := hk6.cell 6; have y7 := hk6.cell 7; simp at y0 y1 y2 y3 y4 y5 y6 y7
        clear hk7 hk6
        obtain ⟨r, hr⟩ : ∃ r, Sx.sameF x y = r := ⟨_, rfl⟩
        rw [hr] at CE HP
        clear hr
        replace CE := Lib.hid (show Calls Tryz.prog 62 #[.agg #[.string (Sc.nm x), .string (Sc.of_ x), .string (Sc.up x), .int .i64 (Sc.kd x), .int .i64 (Sc.lo x), .int .i64 (Sc.hi x), .slice A1 (Sc.words x).length cA, .slice B1 (Sc.wts x).length dA], .agg #[.string (Sc.nm y), .string (Sc.of_ y), .string (Sc.up y), .int .i64 (Sc.kd y), .int .i64 (Sc.lo y), .int .i64 (Sc.hi y), .slice A2 (Sc.words y).length cB, .slice B2 (Sc.wts y).length dB]] w6 (BoolP r w6) from CE.out)
        cases r
        · have HQ := Lib.hid (HBD.out k hkx hky HP.out)
          go_wp2_with (go_at_call 62; ((with_reducible refine (CE.out).mono ?_)); rintro e w7 ⟨rfl, hb7⟩; have HB7 := Lib.hid (HB6.out.trans (hb7.mono HB6.out.size)); clear hb7)
          go_ret
          exact ⟨by rw [HQ.out]; rfl, HB7.out⟩
        · go_wp2_with (go_at_call 62; ((with_reducible refine (CE.out).mono ?_)); rintro e w7 ⟨rfl, hb7⟩; have HB7 := Lib.hid (HB6.out.trans (hb7.mono HB6.out.size)); clear hb7)
          go_roundg (gk - 1)
          case measure => omega
          case rel =>
            refine ⟨k + 1, by omega, by go_num, HB7.out, fun j h1 h2 hj => ?_⟩
            rcases Nat.lt_or_ge j k with h' | h'
            · exact HA.out j h1 h2 h'
            · obtain rfl : j = k := by omega
              exact HP.out
      · have k1 : ¬ (k : Int) < (n : Int) := by omega
        have HQ := Lib.hid (HGD.out (HN.out.trans HM.out.symm) fun j h1 h2 => HA.out j h1 h2 (by rw [HN.out] at h1; omega))
        go_wp2_with fail
        go_ret
        exact ⟨by rw [HQ.out]; rfl, HB.out⟩
  · have HQ := Lib.hid (HLN.out (by rw [HN.out, HM.out]; exact hnm))
    have q1 : ((n : Int) == (m : Int)) = false := beq_eq_false_iff_ne.2 (by omega)
    have q2 : ((n : Int) != (m : Int)) = true := by rw [bne, q1]; rfl
    clear hnm
    go_wp2_with fail
    go_ret
    exact ⟨by rw [HQ.out]; rfl, Below.refl _ _⟩
end Go.Proofs.YtmplaikgbeeikaaGreatDoor
namespace Go.Proofs.YtmplaikgbeeikaaGreatDoor
open Go Go.RowKit
def Sx.sameK (x y : Knd) : Bool := decide (x.1 = y.1) && (decide (x.2.1 = y.2.1) && (decide (x.2.2.1 = y.2.2.1) && (Sx.eqL Sx.sameF (Sc.flds x) (Sc.flds y))))
set_option maxRecDepth 100000 in
set_option maxHeartbeats 8000000 in
theorem sameK_any (x y : Knd) (us vs : List Value) (w : World) (ha : Mem.rep [] w x us) (hb : Mem.rep [] w y vs) :
    Calls Tryz.prog 60 #[.agg us.toArray, .agg vs.toArray] w (BoolP (Sx.sameK x y) w) := by
  obtain ⟨A1, cA, rfl, s1, a2, a3, a1, b1, b2⟩ := rep_knd ha
  obtain ⟨A2, cB, rfl, s2, a2', a3', a1', b1', b2'⟩ := rep_knd hb
  have hb1 : Below w.heap.size w (w.alloc (.cells #[.string x.1, .int .i64 x.2.1, .int .i64 x.2.2.1, .slice A1 (Sc.flds x).length cA] 49)) := (Below.refl _ _).alloc (Nat.le_refl _) _
  have hk1 : Blk (w.alloc (.cells #[.string x.1, .int .i64 x.2.1, .int .i64 x.2.2.1, .slice A1 (Sc.flds x).length cA] 49)) w.heap.size 49 #[.string x.1, .int .i64 x.2.1, .int .i64 x.2.2.1, .slice A1 (Sc.flds x).length cA] := Blk.new _ _ _
  obtain ⟨W1, hW1⟩ : ∃ X, w.alloc (.cells #[.string x.1, .int .i64 x.2.1, .int .i64 x.2.2.1, .slice A1 (Sc.flds x).length cA] 49) = X := ⟨_, rfl⟩
  rw [hW1] at hb1 hk1
  have hb2 : Below W1.heap.size W1 (W1.alloc (.cells #[.string y.1, .int .i64 y.2.1, .int .i64 y.2.2.1, .slice A2 (Sc.flds y).length cB] 49)) := (Below.refl _ _).alloc (Nat.le_refl _) _
  have hk2 : Blk (W1.alloc (.cells #[.string y.1, .int .i64 y.2.1, .int .i64 y.2.2.1, .slice A2 (Sc.flds y).length cB] 49)) W1.heap.size 49 #[.string y.1, .int .i64 y.2.1, .int .i64 y.2.2.1, .slice A2 (Sc.flds y).length cB] := Blk.new _ _ _
  obtain ⟨W2, hW2⟩ : ∃ X, W1.alloc (.cells #[.string y.1, .int .i64 y.2.1, .int .i64 y.2.2.1, .slice A2 (Sc.flds y).length cB] 49) = X := ⟨_, rfl⟩
  rw [hW2] at hb2 hk2
  have hk1' := hk1.below hb2 hk1.lt
  obtain ⟨Na, hNa⟩ : ∃ n, w.heap.size = n := ⟨_, rfl⟩
  have hNb : W1.heap.size = Na + 1 := by rw [← hW1, ← hNa]; simp only [World.alloc, Array.size_push]
  rw [hNa] at hk1'
  rw [hNb] at hk2
  have KA := Lib.hid hk1'; have KB := Lib.hid hk2
  have HB := Lib.hid (hb1.trans (hb2.mono hb1.size))
  have HW1 := Lib.hid hW1; have HW2 := Lib.hid hW2; have HNa := Lib.hid hNa; have HNb := Lib.hid hNb
  have C3 := Lib.hid (fun (W : World) (hb : Below w.heap.size w W) => eqF_any (Sc.flds x) (Sc.flds y) A1 A2 cA cB W (s1.keep (Chg.of_below hb)) (s2.keep (Chg.of_below hb)) (Nat.le_trans b1 b2) (Nat.le_trans b1' b2'))
  unfold rtEF at C3
  show Calls Tryz.prog 60 #[.agg #[.string x.1, .int .i64 x.2.1, .int .i64 x.2.2.1, .slice A1 (Sc.flds x).length cA], .agg #[.string y.1, .int .i64 y.2.1, .int .i64 y.2.2.1, .slice A2 (Sc.flds y).length cB]] w _
  obtain ⟨r0, h0⟩ : ∃ r, decide (x.1 = y.1) = r := ⟨_, rfl⟩
  have q0 : ((x.1).toList == (y.1).toList) = r0 := by rw [← h0]; exact strEqB _ _
  obtain ⟨r1, h1⟩ : ∃ r, decide (x.2.1 = y.2.1) = r := ⟨_, rfl⟩
  have q1 : (x.2.1 == y.2.1) = r1 := by rw [← h1]; exact intEqB _ _
  obtain ⟨r2, h2⟩ : ∃ r, decide (x.2.2.1 = y.2.2.1) = r := ⟨_, rfl⟩
  have q2 : (x.2.2.1 == y.2.2.1) = r2 := by rw [← h2]; exact intEqB _ _
  obtain ⟨r3, h3⟩ : ∃ r, Sx.eqL Sx.sameF (Sc.flds x) (Sc.flds y) = r := ⟨_, rfl⟩
  rw [h3] at C3
  have HF := Lib.hid (show Sx.sameK x y = (r0 && (r1 && (r2 && (r3)))) by unfold Sx.sameK; rw [h0, h1, h2, h3])
  generalize Sx.sameK x y = sf at *
  clear ha hb hb1 hb2 hk1 hk2 hk1' hW1 hW2 hNa hNb h0 h1 h2 h3 s1 s2 a1 a2 a3 b1 b2 a1' a2' a3' b1' b2'
  go_enter Tryz.func60, Tryz.ntmps60
  go_upto_region 1 with fail
  rw [HW1.out, HW2.out]
  (try rw [HNa.out])
  (try rw [HNb.out])
  have ka := KA.out; have kb := KB.out; have z0 := ka.cell 0; have y0 := kb.cell 0; have z1 := ka.cell 1; have y1 := kb.cell 1; have z2 := ka.cell 2; have y2 := kb.cell 2; have z3 := ka.cell 3; have y3 := kb.cell 3; simp at z0 y0 z1 y1 z2 y2 z3 y3; clear ka kb
  cases r0
  · go_wp2_with (first | (go_at_call 61; ((with_reducible refine (C3.out _ HB.out).mono ?_)); rintro e w2 ⟨rfl, hb2⟩; replace KA := Lib.hid (KA.out.below hb2 KA.out.lt); replace KB := Lib.hid (KB.out.below hb2 KB.out.lt); replace HB := Lib.hid (HB.out.trans (hb2.mono HB.out.size)); clear z0 y0 z1 y1 z2 y2 z3 y3 hb2; have ka := KA.out; have kb := KB.out; have z0 := ka.cell 0; have y0 := kb.cell 0; have z1 := ka.cell 1; have y1 := kb.cell 1; have z2 := ka.cell 2; have y2 := kb.cell 2; have z3 := ka.cell 3; have y3 := kb.cell 3; simp at z0 y0 z1 y1 z2 y2 z3 y3; clear ka kb))
    go_ret
    exact ⟨by rw [HF.out]; rfl, HB.out⟩
  cases r1
  · go_wp2_with (first | (go_at_call 61; ((with_reducible refine (C3.out _ HB.out).mono ?_)); rintro e w2 ⟨rfl, hb2⟩; replace KA := Lib.hid (KA.out.below hb2 KA.out.lt); replace KB := Lib.hid (KB.out.below hb2 KB.out.lt); replace HB := Lib.hid (HB.out.trans (hb2.mono HB.out.size)); clear z0 y0 z1 y1 z2 y2 z3 y3 hb2; have ka := KA.out; have kb := KB.out; have z0 := ka.cell 0; have y0 := kb.cell 0; have z1 := ka.cell 1; have y1 := kb.cell 1; have z2 := ka.cell 2; have y2 := kb.cell 2; have z3 := ka.cell 3; have y3 := kb.cell 3; simp at z0 y0 z1 y1 z2 y2 z3 y3; clear ka kb))
    go_ret
    exact ⟨by rw [HF.out]; rfl, HB.out⟩
  cases r2
  · go_wp2_with (first | (go_at_call 61; ((with_reducible refine (C3.out _ HB.out).mono ?_)); rintro e w2 ⟨rfl, hb2⟩; replace KA := Lib.hid (KA.out.below hb2 KA.out.lt); replace KB := Lib.hid (KB.out.below hb2 KB.out.lt); replace HB := Lib.hid (HB.out.trans (hb2.mono HB.out.size)); clear z0 y0 z1 y1 z2 y2 z3 y3 hb2; have ka := KA.out; have kb := KB.out; have z0 := ka.cell 0; have y0 := kb.cell 0; have z1 := ka.cell 1; have y1 := kb.cell 1; have z2 := ka.cell 2; have y2 := kb.cell 2; have z3 := ka.cell 3; have y3 := kb.cell 3; simp at z0 y0 z1 y1 z2 y2 z3 y3; clear ka kb))
    go_ret
    exact ⟨by rw [HF.out]; rfl, HB.out⟩
  go_wp2_with (first | (go_at_call 61; ((with_reducible refine (C3.out _ HB.out).mono ?_)); rintro e w2 ⟨rfl, hb2⟩; replace KA := Lib.hid (KA.out.below hb2 KA.out.lt); replace KB := Lib.hid (KB.out.below hb2 KB.out.lt); replace HB := Lib.hid (HB.out.trans (hb2.mono HB.out.size)); clear z0 y0 z1 y1 z2 y2 z3 y3 hb2; have ka := KA.out; have kb := KB.out; have z0 := ka.cell 0; have y0 := kb.cell 0; have z1 := ka.cell 1; have y1 := kb.cell 1; have z2 := ka.cell 2; have y2 := kb.cell 2; have z3 := ka.cell 3; have y3 := kb.cell 3; simp at z0 y0 z1 y1 z2 y2 z3 y3; clear ka kb))
  go_ret
  exact ⟨by rw [HF.out]; cases r3 <;> rfl, HB.out⟩
def rtEK : Value := .func (.func 60) #[] #[]
set_option maxRecDepth 100000 in
set_option maxHeartbeats 8000000 in
theorem eqK_any (xs ys : List (Knd)) (A B : Option Addr) (c d : Nat) (w : World) (ha : SlAt [] w A xs) (hb : SlAt [] w B ys) (hx : xs.length ≤ 9223372036854775807) (hy : ys.length ≤ 9223372036854775807) :
    Calls Tryz.prog 59 #[.slice A xs.length c, .slice B ys.length d, rtEK] w (BoolP (Sx.eqL Sx.sameK xs ys) w) := by
  obtain ⟨n, hn⟩ : ∃ n, xs.length = n := ⟨_, rfl⟩
  obtain ⟨m, hm⟩ : ∃ n, ys.length = n := ⟨_, rfl⟩
  have HX := Lib.hid ha; have HY := Lib.hid hb
  have HN := Lib.hid hn; have HM := Lib.hid hm
  have HBD := Lib.hid (fun (k : Nat) => eqL_bad (p := Sx.sameK) (a := xs) (b := ys) (k := k))
  have HGD := Lib.hid (eqL_good (p := Sx.sameK) (a := xs) (b := ys))
  have HLN := Lib.hid (eqL_len (p := Sx.sameK) (a := xs) (b := ys))
  obtain ⟨q, hq⟩ : ∃ b, Sx.eqL Sx.sameK xs ys = b := ⟨_, rfl⟩
  rw [hq] at HBD HGD HLN ⊢
  rw [hn] at hx ⊢
  rw [hm] at hy ⊢
  unfold rtEK
  clear ha hb hn hm hq
  go_enter Tryz.func59, Tryz.ntmps59
  by_cases hnm : n = m
  · subst hnm
    go_wp2_with fail
    go_loopg [17] n (fun r i wr => ∃ k : Nat, k + r = n ∧ i = .int .i64 k ∧ Below w.heap.size w wr ∧ ∀ j (h1 : j < xs.length) (h2 : j < ys.length), j < k → Sx.sameK xs[j] ys[j] = true)
    case atStart => exact ⟨0, by omega, rfl, Below.refl _ _, fun _ _ _ h => by omega⟩
    case round =>
      obtain ⟨k, hk, rfl, hb, hall⟩ := hrel
      obtain ⟨wo, rfl⟩ : ∃ wo : World, wo = wr := ⟨_, rfl⟩
      have HB := Lib.hid hb
      have HA := Lib.hid hall
      clear hb hall
      by_cases hlt : k < n
      · have hkx : k < xs.length := by rw [HN.out]; exact hlt
        have hky : k < ys.length := by rw [HM.out]; exact hlt
        have k0 : (0 : Int) ≤ (k : Int) := Int.natCast_nonneg _
        have k1 : (k : Int) < (n : Int) := by omega
        obtain ⟨b, o, us, rfl, _, hr, hc⟩ := (HX.out.keep (Chg.of_below HB.out)).get k hkx
        obtain ⟨b2, o2, vs, rfl, _, hr2, hc2⟩ := (HY.out.keep (Chg.of_below HB.out)).get k hky
        obtain ⟨x, hxe⟩ : ∃ x, xs[k] = x := ⟨_, rfl⟩
        obtain ⟨y, hye⟩ : ∃ x, ys[k] = x := ⟨_, rfl⟩
        have HP := Lib.hid (show Sx.sameK xs[k] ys[k] = Sx.sameK x y by rw [hxe, hye])
        rw [hxe] at hr
        rw [hye] at hr2
        have hr0 := hr; have hr02 := hr2
        obtain ⟨A1, cA, rfl, _⟩ := rep_knd hr0
        obtain ⟨A2, cB, rfl, _⟩ := rep_knd hr02
        rw [show Mem.sz (Knd) = 4 from rfl] at hc hc2
        have c0 : wo.cell? ⟨b, o + k * 4, none⟩ = some (.string x.1) := hc 0 _ rfl
        have c1 : wo.cell? ⟨b, o + k * 4 + 1, none⟩ = some (.int .i64 x.2.1) := hc 1 _ rfl
        have c2 : wo.cell? ⟨b, o + k * 4 + 2, none⟩ = some (.int .i64 x.2.2.1) := hc 2 _ rfl
        have c3 : wo.cell? ⟨b, o + k * 4 + 3, none⟩ = some (.slice A1 (Sc.flds x).length cA) := hc 3 _ rfl
        have d0 : wo.cell? ⟨b2, o2 + k * 4, none⟩ = some (.string y.1) := hc2 0 _ rfl
        have d1 : wo.cell? ⟨b2, o2 + k * 4 + 1, none⟩ = some (.int .i64 y.2.1) := hc2 1 _ rfl
        have d2 : wo.cell? ⟨b2, o2 + k * 4 + 2, none⟩ = some (.int .i64 y.2.2.1) := hc2 2 _ rfl
        have d3 : wo.cell? ⟨b2, o2 + k * 4 + 3, none⟩ = some (.slice A2 (Sc.flds y).length cB) := hc2 3 _ rfl
        have hb5 : Below wo.heap.size wo (wo.alloc (.cells #[.string x.1, .int .i64 x.2.1, .int .i64 x.2.2.1, .slice A1 (Sc.flds x).length cA] 49)) := (Below.refl _ _).alloc (Nat.le_refl _) _
        have hk5 : Blk (wo.alloc (.cells #[.string x.1, .int .i64 x.2.1, .int .i64 x.2.2.1, .slice A1 (Sc.flds x).length cA] 49)) wo.heap.size 49 #[.string x.1, .int .i64 x.2.1, .int .i64 x.2.2.1, .slice A1 (Sc.flds x).length cA] := Blk.new _ _ _
        have HR1 := Lib.hid (Mem.keep hr (Chg.of_below hb5)); have HR2 := Lib.hid (Mem.keep hr2 (Chg.of_below hb5))
        have e0 := (hb5.cell (World.block_lt_of_cell? _ _ d0)).trans d0
        have e1 := (hb5.cell (World.block_lt_of_cell? _ _ d1)).trans d1
        have e2 := (hb5.cell (World.block_lt_of_cell? _ _ d2)).trans d2
        have e3 := (hb5.cell (World.block_lt_of_cell? _ _ d3)).trans d3
        obtain ⟨Nx, hNx⟩ : ∃ n, wo.heap.size = n := ⟨_, rfl⟩
        have HB5 := Lib.hid (HB.out.trans (hb5.mono HB.out.size))
        have HK5 := Lib.hid hk5
        clear hxe hye hr hr2 hr0 hr02 hc hc2 hb5 hk5
        go_upto_region 6 with fail
        generalize wo.alloc (.cells #[.string x.1, .int .i64 x.2.1, .int .i64 x.2.2.1, .slice A1 (Sc.flds x).length cA] 49) = w5 at *
        rw [hNx] at HK5
        clear hNx c0 c1 c2 c3 d0 d1 d2 d3
        have hb6 : Below w5.heap.size w5 (w5.alloc (.cells #[.string y.1, .int .i64 y.2.1, .int .i64 y.2.2.1, .slice A2 (Sc.flds y).length cB] 49)) := (Below.refl _ _).alloc (Nat.le_refl _) _
        have HK6 := Lib.hid (show Blk (w5.alloc (.cells #[.string y.1, .int .i64 y.2.1, .int .i64 y.2.2.1, .slice A2 (Sc.flds y).length cB] 49)) w5.heap.size 49 #[.string y.1, .int .i64 y.2.1, .int .i64 y.2.2.1, .slice A2 (Sc.flds y).length cB] from Blk.new _ _ _)
        have HK7 := Lib.hid (HK5.out.below hb6 HK5.out.lt)
        have CE := Lib.hid (sameK_any x y _ _ _ (Mem.keep HR1.out (Chg.of_below hb6)) (Mem.keep HR2.out (Chg.of_below hb6)))
        have HB6 := Lib.hid (HB5.out.trans (hb6.mono HB5.out.size))
        obtain ⟨Ny, hNy⟩ : ∃ n, w5.heap.size = n := ⟨_, rfl⟩
        clear hb6 HR1 HR2
        go_upto_region 7 with fail
        generalize w5.alloc (.cells #[.string y.1, .int .i64 y.2.1, .int .i64 y.2.2.1, .slice A2 (Sc.flds y).length cB] 49) = w6 at *
        rw [hNy] at HK6
        clear hNy e0 e1 e2 e3
        have hk7 := HK7.out; have hk6 := HK6.out
        have z0 := hk7.cell 0; have z1 := hk7.cell 1; have z2 := hk7.cell 2; have z3 := hk7.cell 3; simp at z0 z1 z2 z3; have y0 := hk6.cell 0; have y1 := hk6.cell 1; have y2 := hk6.cell 2; have y3 := hk6.cell 3; simp at y0 y1 y2 y3
        clear hk7 hk6
        obtain ⟨r, hr⟩ : ∃ r, Sx.sameK x y = r := ⟨_, rfl⟩
        rw [hr] at CE HP
        clear hr
        replace CE := Lib.hid (show Calls Tryz.prog 60 #[.agg #[.string x.1, .int .i64 x.2.1, .int .i64 x.2.2.1, .slice A1 (Sc.flds x).length cA], .agg #[.string y.1, .int .i64 y.2.1, .int .i64 y.2.2.1, .slice A2 (Sc.flds y).length cB]] w6 (BoolP r w6) from CE.out)
        cases r
        · have HQ := Lib.hid (HBD.out k hkx hky HP.out)
          go_wp2_with (go_at_call 60; ((with_reducible refine (CE.out).mono ?_)); rintro e w7 ⟨rfl, hb7⟩; have HB7 := Lib.hid (HB6.out.trans (hb7.mono HB6.out.size)); clear hb7)
          go_ret
          exact ⟨by rw [HQ.out]; rfl, HB7.out⟩
        · go_wp2_with (go_at_call 60; ((with_reducible refine (CE.out).mono ?_)); rintro e w7 ⟨rfl, hb7⟩; have HB7 := Lib.hid (HB6.out.trans (hb7.mono HB6.out.size)); clear hb7)
          go_roundg (gk - 1)
          case measure => omega
          case rel =>
            refine ⟨k + 1, by omega, by go_num, HB7.out, fun j h1 h2 hj => ?_⟩
            rcases Nat.lt_or_ge j k with h' | h'
            · exact HA.out j h1 h2 h'
            · obtain rfl : j = k := by omega
              exact HP.out
      · have k1 : ¬ (k : Int) < (n : Int) := by omega
        have HQ := Lib.hid (HGD.out (HN.out.trans HM.out.symm) fun j h1 h2 => HA.out j h1 h2 (by rw [HN.out] at h1; omega))
        go_wp2_with fail
        go_ret
        exact ⟨by rw [HQ.out]; rfl, HB.out⟩
  · have HQ := Lib.hid (HLN.out (by rw [HN.out, HM.out]; exact hnm))
    have q1 : ((n : Int) == (m : Int)) = false := beq_eq_false_iff_ne.2 (by omega)
    have q2 : ((n : Int) != (m : Int)) = true := by rw [bne, q1]; rfl
    clear hnm
    go_wp2_with fail
    go_ret
    exact ⟨by rw [HQ.out]; rfl, Below.refl _ _⟩
end Go.Proofs.YtmplaikgbeeikaaGreatDoor
namespace Go.Proofs.YtmplaikgbeeikaaGreatDoor
open Go Go.RowKit
def Sx.eqD {α : Type} [DecidableEq α] (x y : α) : Bool := decide (x = y)
theorem eqL_dec {α : Type} [DecidableEq α] (xs ys : List α) : Sx.eqL Sx.eqD xs ys = decide (xs = ys) := by
  by_cases h : xs = ys
  · rw [decide_eq_true h]; exact (eqL_iff (fun x y => by unfold Sx.eqD; exact decide_eq_true_iff) xs ys).2 h
  · rw [decide_eq_false h]
    cases hb : Sx.eqL Sx.eqD xs ys with
    | false => rfl
    | true => exact absurd ((eqL_iff (fun x y => by unfold Sx.eqD; exact decide_eq_true_iff) xs ys).1 hb) h
theorem eqD_M (x y : Int × Int) : Sx.eqD x y = ((x.1 == y.1) && (x.2 == y.2)) := by
  unfold Sx.eqD
  rw [intEqB, intEqB, ← Bool.decide_and]
  exact decide_eq_decide.2 Prod.ext_iff
theorem eqD_R (x y : Rul) : Sx.eqD x y = ((x.1.toList == y.1.toList) && ((x.2.1.toList == y.2.1.toList) && ((x.2.2.1.toList == y.2.2.1.toList) && ((x.2.2.2.1.toList == y.2.2.2.1.toList) && (x.2.2.2.2 == y.2.2.2.2))))) := by
  unfold Sx.eqD
  rw [strEqB, strEqB, strEqB, strEqB, intEqB]
  simp only [← Bool.decide_and]
  exact decide_eq_decide.2 (by rw [Prod.ext_iff, Prod.ext_iff, Prod.ext_iff, Prod.ext_iff])
set_option maxRecDepth 100000 in
theorem eqM_run (x y : Int × Int) (w : World) : (Op.equalIn 10000 56 (.agg #[.int .i64 x.1, .int .i64 x.2]) (.agg #[.int .i64 y.1, .int .i64 y.2])).run Tryz.prog w = .ok ((x.1 == y.1) && (x.2 == y.2)) w := by
  obtain ⟨i, hi⟩ : ∃ i, Tryz.prog.info? 3 = some i := ⟨_, rfl⟩
  have h1 := run_equalIn_int (P := Tryz.prog) w 9998 3 .i64 .i64 x.1 y.1 Tryz.underlying3
  have h2 := run_equalIn_int (P := Tryz.prog) w 9998 3 .i64 .i64 x.2 y.2 Tryz.underlying3
  rw [show (10000 : Nat) = 9999 + 1 from rfl, run_equalIn_array w 9999 _ _ Tryz.underlying56 hi]
  have p0 : ∀ u v : Value, (part 3 #[u, v] (0 * Tryz.prog.cellsOf 3)).run Tryz.prog w = .ok u w := fun u v => by kernel_rfl
  have p1 : ∀ u v : Value, (part 3 #[u, v] (1 * Tryz.prog.cellsOf 3)).run Tryz.prog w = .ok v w := fun u v => by kernel_rfl
  show (Op.eqItems 9999 3 _ _ _ [0, 1]).run _ _ = _
  simp only [Op.eqItems, Sem.run_bind, p0, p1, Result.andThen_ok]
  rw [h1]
  cases (x.1 == y.1)
  · simp
  · simp only [Result.andThen_ok, Bool.not_true, Bool.false_eq_true, if_false, Sem.run_bind, p1]
    rw [h2]
    cases (x.2 == y.2) <;> simp
theorem eqFields_cons {P : Program} {d : Nat} {xs ys : Array Value} {f : Field} {fs : List Field} {a b : Value} {r q : Bool} {w : World} (hn : decide (f.name ≠ "_") = true) (ha : (part f.type xs f.offset).run P w = .ok a w) (hb : (part f.type ys f.offset).run P w = .ok b w) (hr : (Op.equalIn d f.type a b).run P w = .ok r w) (hq : (Op.eqFields d xs ys fs).run P w = .ok q w) :
    (Op.eqFields d xs ys (f :: fs)).run P w = .ok (r && q) w := by
  simp only [Op.eqFields, Sem.run_ite, Sem.run_bind, if_pos (of_decide_eq_true hn), ha, hb, hr, Result.andThen_ok]
  cases r
  · simp
  · simp [hq]
noncomputable def Sx.rf (i : Nat) : Field := (Tryz.prog.fieldsOf 58).toList[i]!
set_option maxRecDepth 100000 in
theorem eqR_run (x y : Rul) (w : World) : (Op.equalIn 10000 58 (.agg #[.string x.1, .string x.2.1, .string x.2.2.1, .string x.2.2.2.1, .int .i64 x.2.2.2.2]) (.agg #[.string y.1, .string y.2.1, .string y.2.2.1, .string y.2.2.2.1, .int .i64 y.2.2.2.2])).run Tryz.prog w = .ok ((x.1.toList == y.1.toList) && ((x.2.1.toList == y.2.1.toList) && ((x.2.2.1.toList == y.2.2.1.toList) && ((x.2.2.2.1.toList == y.2.2.2.1.toList) && (x.2.2.2.2 == y.2.2.2.2))))) w := by
  have hf : (Tryz.prog.fieldsOf 58).toList = [Sx.rf 0, Sx.rf 1, Sx.rf 2, Sx.rf 3, Sx.rf 4] := by kernel_rfl
  have t0 : (Sx.rf 0).type = 9 := by kernel_rfl
  have t1 : (Sx.rf 1).type = 9 := by kernel_rfl
  have t2 : (Sx.rf 2).type = 9 := by kernel_rfl
  have t3 : (Sx.rf 3).type = 9 := by kernel_rfl
  have t4 : (Sx.rf 4).type = 3 := by kernel_rfl
  rw [show (10000 : Nat) = 9999 + 1 from rfl, run_equalIn_struct w 9999 _ _ _ Tryz.underlying58 (by kernel_rfl), hf]
  rw [show ((x.2.2.2.1.toList == y.2.2.2.1.toList) && (x.2.2.2.2 == y.2.2.2.2)) = ((x.2.2.2.1.toList == y.2.2.2.1.toList) && ((x.2.2.2.2 == y.2.2.2.2) && true)) by rw [Bool.and_true]]
  have P0 : ∀ a b c d e : Value, (part (Sx.rf 0).type #[a, b, c, d, e] (Sx.rf 0).offset).run Tryz.prog w = .ok a w := fun a b c d e => by kernel_rfl
  have P1 : ∀ a b c d e : Value, (part (Sx.rf 1).type #[a, b, c, d, e] (Sx.rf 1).offset).run Tryz.prog w = .ok b w := fun a b c d e => by kernel_rfl
  have P2 : ∀ a b c d e : Value, (part (Sx.rf 2).type #[a, b, c, d, e] (Sx.rf 2).offset).run Tryz.prog w = .ok c w := fun a b c d e => by kernel_rfl
  have P3 : ∀ a b c d e : Value, (part (Sx.rf 3).type #[a, b, c, d, e] (Sx.rf 3).offset).run Tryz.prog w = .ok d w := fun a b c d e => by kernel_rfl
  have P4 : ∀ a b c d e : Value, (part (Sx.rf 4).type #[a, b, c, d, e] (Sx.rf 4).offset).run Tryz.prog w = .ok e w := fun a b c d e => by kernel_rfl
  refine eqFields_cons (by kernel_rfl) (P0 _ _ _ _ _) (P0 _ _ _ _ _) (by rw [t0]; exact run_equalIn_string w _ _ _ _ Tryz.underlying9) ?_
  refine eqFields_cons (by kernel_rfl) (P1 _ _ _ _ _) (P1 _ _ _ _ _) (by rw [t1]; exact run_equalIn_string w _ _ _ _ Tryz.underlying9) ?_
  refine eqFields_cons (by kernel_rfl) (P2 _ _ _ _ _) (P2 _ _ _ _ _) (by rw [t2]; exact run_equalIn_string w _ _ _ _ Tryz.underlying9) ?_
  refine eqFields_cons (by kernel_rfl) (P3 _ _ _ _ _) (P3 _ _ _ _ _) (by rw [t3]; exact run_equalIn_string w _ _ _ _ Tryz.underlying9) ?_
  refine eqFields_cons (by kernel_rfl) (P4 _ _ _ _ _) (P4 _ _ _ _ _) (by rw [t4]; exact run_equalIn_int w _ _ .i64 .i64 _ _ Tryz.underlying3) ?_
  simp [Op.eqFields]
set_option maxRecDepth 100000 in
set_option maxHeartbeats 8000000 in
theorem eqpM_any (xs ys : List (Int × Int)) (A B : Option Addr) (c d : Nat) (w : World) (ha : SlAt [] w A xs) (hb : SlAt [] w B ys) (hx : xs.length ≤ 9223372036854775807) (hy : ys.length ≤ 9223372036854775807) :
    Calls Tryz.prog 66 #[.slice A xs.length c, .slice B ys.length d] w (BoolP (decide (xs = ys)) w) := by
  rw [← eqL_dec xs ys]
  obtain ⟨n, hn⟩ : ∃ n, xs.length = n := ⟨_, rfl⟩
  obtain ⟨m, hm⟩ : ∃ n, ys.length = n := ⟨_, rfl⟩
  have HX := Lib.hid ha; have HY := Lib.hid hb
  have HN := Lib.hid hn; have HM := Lib.hid hm
  have HBD := Lib.hid (fun (k : Nat) => eqL_bad (p := Sx.eqD) (a := xs) (b := ys) (k := k))
  have HGD := Lib.hid (eqL_good (p := Sx.eqD) (a := xs) (b := ys))
  have HLN := Lib.hid (eqL_len (p := Sx.eqD) (a := xs) (b := ys))
  obtain ⟨q, hq⟩ : ∃ b, Sx.eqL Sx.eqD xs ys = b := ⟨_, rfl⟩
  rw [hq] at HBD HGD HLN ⊢
  rw [hn] at hx ⊢
  rw [hm] at hy ⊢
  clear ha hb hn hm hq
  go_enter Tryz.func66, Tryz.ntmps66
  by_cases hnm : n = m
  · subst hnm
    go_wp2_with fail
    go_loopg [13] n (fun r i wr => ∃ k : Nat, k + r = n ∧ i = .int .i64 k ∧ Below w.heap.size w wr ∧ ∀ j (h1 : j < xs.length) (h2 : j < ys.length), j < k → Sx.eqD xs[j] ys[j] = true)
    case atStart => exact ⟨0, by omega, rfl, Below.refl _ _, fun _ _ _ h => by omega⟩
    case round =>
      obtain ⟨k, hk, rfl, hb, hall⟩ := hrel
      obtain ⟨wo, rfl⟩ : ∃ wo : World, wo = wr := ⟨_, rfl⟩
      have HB := Lib.hid hb
      have HA := Lib.hid hall
      clear hb hall
      by_cases hlt : k < n
      · have hkx : k < xs.length := by rw [HN.out]; exact hlt
        have hky : k < ys.length := by rw [HM.out]; exact hlt
        have k0 : (0 : Int) ≤ (k : Int) := Int.natCast_nonneg _
        have k1 : (k : Int) < (n : Int) := by omega
        obtain ⟨b, o, us, rfl, _, hr, hc⟩ := (HX.out.keep (Chg.of_below HB.out)).get k hkx
        obtain ⟨b2, o2, vs, rfl, _, hr2, hc2⟩ := (HY.out.keep (Chg.of_below HB.out)).get k hky
        obtain ⟨x, hxe⟩ : ∃ x, xs[k] = x := ⟨_, rfl⟩
        obtain ⟨y, hye⟩ : ∃ x, ys[k] = x := ⟨_, rfl⟩
        have HP := Lib.hid (show Sx.eqD xs[k] ys[k] = Sx.eqD x y by rw [hxe, hye])
        rw [hxe] at hr
        rw [hye] at hr2
        obtain ⟨rfl, _, _⟩ := rep_mv hr
        obtain ⟨rfl, _, _⟩ := rep_mv hr2
        rw [show Mem.sz (Int × Int) = 2 from rfl] at hc hc2
        have c0 : wo.cell? ⟨b, o + k * 2, none⟩ = some (.int .i64 x.1) := hc 0 _ rfl
        have c1 : wo.cell? ⟨b, o + k * 2 + 1, none⟩ = some (.int .i64 x.2) := hc 1 _ rfl
        have d0 : wo.cell? ⟨b2, o2 + k * 2, none⟩ = some (.int .i64 y.1) := hc2 0 _ rfl
        have d1 : wo.cell? ⟨b2, o2 + k * 2 + 1, none⟩ = some (.int .i64 y.2) := hc2 1 _ rfl
        clear hxe hye hr hr2 hc hc2
        obtain ⟨r, hr⟩ : ∃ r, Sx.eqD x y = r := ⟨_, rfl⟩
        rw [hr] at HP
        have HR := Lib.hid (hr.symm.trans (eqD_M x y)); clear hr
        have hE := fun w => (eqM_run x y w).trans (by rw [← HR.out])
        go_upto_region 6 with fail
        go_region
        clear c0 d0 c1 d1 hE
        have HB7 := Lib.hid (HB.out.trans ((show Below wo.heap.size wo wo.drew from ⟨rfl, rfl, rfl, Nat.le_refl _, fun _ _ => rfl⟩).mono HB.out.size))
        cases r
        · have HQ := Lib.hid (HBD.out k hkx hky HP.out)
          go_wp2_with fail
          go_ret
          exact ⟨by rw [HQ.out]; rfl, HB7.out⟩
        · go_wp2_with fail
          go_roundg (gk - 1)
          case measure => omega
          case rel =>
            refine ⟨k + 1, by omega, by go_num, HB7.out, fun j h1 h2 hj => ?_⟩
            rcases Nat.lt_or_ge j k with h' | h'
            · exact HA.out j h1 h2 h'
            · obtain rfl : j = k := by omega
              exact HP.out
      · have k1 : ¬ (k : Int) < (n : Int) := by omega
        have HQ := Lib.hid (HGD.out (HN.out.trans HM.out.symm) fun j h1 h2 => HA.out j h1 h2 (by rw [HN.out] at h1; omega))
        go_wp2_with fail
        go_ret
        exact ⟨by rw [HQ.out]; rfl, HB.out⟩
  · have HQ := Lib.hid (HLN.out (by rw [HN.out, HM.out]; exact hnm))
    have q1 : ((n : Int) == (m : Int)) = false := beq_eq_false_iff_ne.2 (by omega)
    have q2 : ((n : Int) != (m : Int)) = true := by rw [bne, q1]; rfl
    clear hnm
    go_wp2_with fail
    go_ret
    exact ⟨by rw [HQ.out]; rfl, Below.refl _ _⟩
set_option maxRecDepth 100000 in
set_option maxHeartbeats 8000000 in
theorem eqpR_any (xs ys : List (Rul)) (A B : Option Addr) (c d : Nat) (w : World) (ha : SlAt [] w A xs) (hb : SlAt [] w B ys) (hx : xs.length ≤ 9223372036854775807) (hy : ys.length ≤ 9223372036854775807) :
    Calls Tryz.prog 67 #[.slice A xs.length c, .slice B ys.length d] w (BoolP (decide (xs = ys)) w) := by
  rw [← eqL_dec xs ys]
  obtain ⟨n, hn⟩ : ∃ n, xs.length = n := ⟨_, rfl⟩
  obtain ⟨m, hm⟩ : ∃ n, ys.length = n := ⟨_, rfl⟩
  have HX := Lib.hid ha; have HY := Lib.hid hb
  have HN := Lib.hid hn; have HM := Lib.hid hm
  have HBD := Lib.hid (fun (k : Nat) => eqL_bad (p := Sx.eqD) (a := xs) (b := ys) (k := k))
  have HGD := Lib.hid (eqL_good (p := Sx.eqD) (a := xs) (b := ys))
  have HLN := Lib.hid (eqL_len (p := Sx.eqD) (a := xs) (b := ys))
  obtain ⟨q, hq⟩ : ∃ b, Sx.eqL Sx.eqD xs ys = b := ⟨_, rfl⟩
  rw [hq] at HBD HGD HLN ⊢
  rw [hn] at hx ⊢
  rw [hm] at hy ⊢
  clear ha hb hn hm hq
  go_enter Tryz.func67, Tryz.ntmps67
  by_cases hnm : n = m
  · subst hnm
    go_wp2_with fail
    go_loopg [13] n (fun r i wr => ∃ k : Nat, k + r = n ∧ i = .int .i64 k ∧ Below w.heap.size w wr ∧ ∀ j (h1 : j < xs.length) (h2 : j < ys.length), j < k → Sx.eqD xs[j] ys[j] = true)
    case atStart => exact ⟨0, by omega, rfl, Below.refl _ _, fun _ _ _ h => by omega⟩
    case round =>
      obtain ⟨k, hk, rfl, hb, hall⟩ := hrel
      obtain ⟨wo, rfl⟩ : ∃ wo : World, wo = wr := ⟨_, rfl⟩
      have HB := Lib.hid hb
      have HA := Lib.hid hall
      clear hb hall
      by_cases hlt : k < n
      · have hkx : k < xs.length := by rw [HN.out]; exact hlt
        have hky : k < ys.length := by rw [HM.out]; exact hlt
        have k0 : (0 : Int) ≤ (k : Int) := Int.natCast_nonneg _
        have k1 : (k : Int) < (n : Int) := by omega
        obtain ⟨b, o, us, rfl, _, hr, hc⟩ := (HX.out.keep (Chg.of_below HB.out)).get k hkx
        obtain ⟨b2, o2, vs, rfl, _, hr2, hc2⟩ := (HY.out.keep (Chg.of_below HB.out)).get k hky
        obtain ⟨x, hxe⟩ : ∃ x, xs[k] = x := ⟨_, rfl⟩
        obtain ⟨y, hye⟩ : ∃ x, ys[k] = x := ⟨_, rfl⟩
        have HP := Lib.hid (show Sx.eqD xs[k] ys[k] = Sx.eqD x y by rw [hxe, hye])
        rw [hxe] at hr
        rw [hye] at hr2
        obtain ⟨rfl, _⟩ := rep_rul hr
        obtain ⟨rfl, _⟩ := rep_rul hr2
        rw [show Mem.sz (Rul) = 5 from rfl] at hc hc2
        have c0 : wo.cell? ⟨b, o + k * 5, none⟩ = some (.string x.1) := hc 0 _ rfl
        have c1 : wo.cell? ⟨b, o + k * 5 + 1, none⟩ = some (.string x.2.1) := hc 1 _ rfl
        have c2 : wo.cell? ⟨b, o + k * 5 + 2, none⟩ = some (.string x.2.2.1) := hc 2 _ rfl
        have c3 : wo.cell? ⟨b, o + k * 5 + 3, none⟩ = some (.string x.2.2.2.1) := hc 3 _ rfl
        have c4 : wo.cell? ⟨b, o + k * 5 + 4, none⟩ = some (.int .i64 x.2.2.2.2) := hc 4 _ rfl
        have d0 : wo.cell? ⟨b2, o2 + k * 5, none⟩ = some (.string y.1) := hc2 0 _ rfl
        have d1 : wo.cell? ⟨b2, o2 + k * 5 + 1, none⟩ = some (.string y.2.1) := hc2 1 _ rfl
        have d2 : wo.cell? ⟨b2, o2 + k * 5 + 2, none⟩ = some (.string y.2.2.1) := hc2 2 _ rfl
        have d3 : wo.cell? ⟨b2, o2 + k * 5 + 3, none⟩ = some (.string y.2.2.2.1) := hc2 3 _ rfl
        have d4 : wo.cell? ⟨b2, o2 + k * 5 + 4, none⟩ = some (.int .i64 y.2.2.2.2) := hc2 4 _ rfl
        clear hxe hye hr hr2 hc hc2
        obtain ⟨r, hr⟩ : ∃ r, Sx.eqD x y = r := ⟨_, rfl⟩
        rw [hr] at HP
        have HR := Lib.hid (hr.symm.trans (eqD_R x y)); clear hr
        have hE := fun w => (eqR_run x y w).trans (by rw [← HR.out])
        go_upto_region 6 with fail
        go_region
        clear c0 d0 c1 d1 c2 d2 c3 d3 c4 d4 hE
        have HB7 := Lib.hid (HB.out.trans ((show Below wo.heap.size wo wo.drew from ⟨rfl, rfl, rfl, Nat.le_refl _, fun _ _ => rfl⟩).mono HB.out.size))
        cases r
        · have HQ := Lib.hid (HBD.out k hkx hky HP.out)
          go_wp2_with fail
          go_ret
          exact ⟨by rw [HQ.out]; rfl, HB7.out⟩
        · go_wp2_with fail
          go_roundg (gk - 1)
          case measure => omega
          case rel =>
            refine ⟨k + 1, by omega, by go_num, HB7.out, fun j h1 h2 hj => ?_⟩
            rcases Nat.lt_or_ge j k with h' | h'
            · exact HA.out j h1 h2 h'
            · obtain rfl : j = k := by omega
              exact HP.out
      · have k1 : ¬ (k : Int) < (n : Int) := by omega
        have HQ := Lib.hid (HGD.out (HN.out.trans HM.out.symm) fun j h1 h2 => HA.out j h1 h2 (by rw [HN.out] at h1; omega))
        go_wp2_with fail
        go_ret
        exact ⟨by rw [HQ.out]; rfl, HB.out⟩
  · have HQ := Lib.hid (HLN.out (by rw [HN.out, HM.out]; exact hnm))
    have q1 : ((n : Int) == (m : Int)) = false := beq_eq_false_iff_ne.2 (by omega)
    have q2 : ((n : Int) != (m : Int)) = true := by rw [bne, q1]; rfl
    clear hnm
    go_wp2_with fail
    go_ret
    exact ⟨by rw [HQ.out]; rfl, Below.refl _ _⟩
end Go.Proofs.YtmplaikgbeeikaaGreatDoor
namespace Go.Proofs.YtmplaikgbeeikaaGreatDoor
open Go Go.RowKit
def Sx.sameL (x y : Lif) : Bool := decide (x.1 = y.1) && (decide (x.2.1 = y.2.1) && decide (x.2.2 = y.2.2))
set_option maxRecDepth 100000 in
set_option maxHeartbeats 8000000 in
theorem sameL_any (x y : Lif) (us vs : List Value) (w : World) (ha : Mem.rep [] w x us) (hb : Mem.rep [] w y vs) :
    Calls Tryz.prog 64 #[.agg us.toArray, .agg vs.toArray] w (BoolP (Sx.sameL x y) w) := by
  obtain ⟨A1, cA, B1, dA, rfl, s1, s2, a1, b1, b2, e1, e2⟩ := rep_lif ha
  obtain ⟨A2, cB, B2, dB, rfl, s3, s4, a1', b1', b2', e1', e2'⟩ := rep_lif hb
  have hb1 : Below w.heap.size w (w.alloc (.cells #[.string x.1, .slice A1 x.2.1.length cA, .slice B1 x.2.2.length dA] 55)) := (Below.refl _ _).alloc (Nat.le_refl _) _
  have hk1 : Blk (w.alloc (.cells #[.string x.1, .slice A1 x.2.1.length cA, .slice B1 x.2.2.length dA] 55)) w.heap.size 55 #[.string x.1, .slice A1 x.2.1.length cA, .slice B1 x.2.2.length dA] := Blk.new _ _ _
  obtain ⟨W1, hW1⟩ : ∃ X, w.alloc (.cells #[.string x.1, .slice A1 x.2.1.length cA, .slice B1 x.2.2.length dA] 55) = X := ⟨_, rfl⟩
  rw [hW1] at hb1 hk1
  have hb2 : Below W1.heap.size W1 (W1.alloc (.cells #[.string y.1, .slice A2 y.2.1.length cB, .slice B2 y.2.2.length dB] 55)) := (Below.refl _ _).alloc (Nat.le_refl _) _
  have hk2 : Blk (W1.alloc (.cells #[.string y.1, .slice A2 y.2.1.length cB, .slice B2 y.2.2.length dB] 55)) W1.heap.size 55 #[.string y.1, .slice A2 y.2.1.length cB, .slice B2 y.2.2.length dB] := Blk.new _ _ _
  obtain ⟨W2, hW2⟩ : ∃ X, W1.alloc (.cells #[.string y.1, .slice A2 y.2.1.length cB, .slice B2 y.2.2.length dB] 55) = X := ⟨_, rfl⟩
  rw [hW2] at hb2 hk2
  have hk1' := hk1.below hb2 hk1.lt
  obtain ⟨Na, hNa⟩ : ∃ n, w.heap.size = n := ⟨_, rfl⟩
  have hNb : W1.heap.size = Na + 1 := by rw [← hW1, ← hNa]; simp only [World.alloc, Array.size_push]
  rw [hNa] at hk1'
  rw [hNb] at hk2
  have KA := Lib.hid hk1'; have KB := Lib.hid hk2
  have HB := Lib.hid (hb1.trans (hb2.mono hb1.size))
  have HW1 := Lib.hid hW1; have HW2 := Lib.hid hW2; have HNa := Lib.hid hNa; have HNb := Lib.hid hNb
  have C1 := Lib.hid (fun (W : World) (hb : Below w.heap.size w W) => eqS_any x.2.1 y.2.1 A1 A2 cA cB W (s1.keep (Chg.of_below hb)) (s3.keep (Chg.of_below hb)) (Nat.le_trans b1 b2) (Nat.le_trans b1' b2'))
  have C2 := Lib.hid (fun (W : World) (hb : Below w.heap.size w W) => eqpM_any x.2.2 y.2.2 B1 B2 dA dB W (s2.keep (Chg.of_below hb)) (s4.keep (Chg.of_below hb)) (Nat.le_trans e1 e2) (Nat.le_trans e1' e2'))
  show Calls Tryz.prog 64 #[.agg #[.string x.1, .slice A1 x.2.1.length cA, .slice B1 x.2.2.length dA], .agg #[.string y.1, .slice A2 y.2.1.length cB, .slice B2 y.2.2.length dB]] w _
  obtain ⟨r0, h0⟩ : ∃ r, decide (x.1 = y.1) = r := ⟨_, rfl⟩
  have q0 : ((x.1).toList == (y.1).toList) = r0 := by rw [← h0]; exact strEqB _ _
  obtain ⟨r1, h1⟩ : ∃ r, decide (x.2.1 = y.2.1) = r := ⟨_, rfl⟩
  rw [h1] at C1
  obtain ⟨r2, h2⟩ : ∃ r, decide (x.2.2 = y.2.2) = r := ⟨_, rfl⟩
  rw [h2] at C2
  have HF := Lib.hid (show Sx.sameL x y = (r0 && (r1 && (r2))) by unfold Sx.sameL; rw [h0, h1, h2])
  generalize Sx.sameL x y = sf at *
  clear ha hb hb1 hb2 hk1 hk2 hk1' hW1 hW2 hNa hNb h0 h1 h2 s1 s2 s3 s4 a1 b1 b2 e1 e2 a1' b1' b2' e1' e2'
  go_enter Tryz.func64, Tryz.ntmps64
  go_upto_region 1 with fail
  rw [HW1.out, HW2.out]
  (try rw [HNa.out])
  (try rw [HNb.out])
  have ka := KA.out; have kb := KB.out; have z0 := ka.cell 0; have y0 := kb.cell 0; have z1 := ka.cell 1; have y1 := kb.cell 1; have z2 := ka.cell 2; have y2 := kb.cell 2; simp at z0 y0 z1 y1 z2 y2; clear ka kb
  cases r0
  · go_wp2_with (first | (go_at_call 65; ((with_reducible refine (C1.out _ HB.out).mono ?_)); rintro e w2 ⟨rfl, hb2⟩; replace KA := Lib.hid (KA.out.below hb2 KA.out.lt); replace KB := Lib.hid (KB.out.below hb2 KB.out.lt); replace HB := Lib.hid (HB.out.trans (hb2.mono HB.out.size)); clear z0 y0 z1 y1 z2 y2 hb2; have ka := KA.out; have kb := KB.out; have z0 := ka.cell 0; have y0 := kb.cell 0; have z1 := ka.cell 1; have y1 := kb.cell 1; have z2 := ka.cell 2; have y2 := kb.cell 2; simp at z0 y0 z1 y1 z2 y2; clear ka kb) | (go_at_call 66; ((with_reducible refine (C2.out _ HB.out).mono ?_)); rintro e w2 ⟨rfl, hb2⟩; replace KA := Lib.hid (KA.out.below hb2 KA.out.lt); replace KB := Lib.hid (KB.out.below hb2 KB.out.lt); replace HB := Lib.hid (HB.out.trans (hb2.mono HB.out.size)); clear z0 y0 z1 y1 z2 y2 hb2; have ka := KA.out; have kb := KB.out; have z0 := ka.cell 0; have y0 := kb.cell 0; have z1 := ka.cell 1; have y1 := kb.cell 1; have z2 := ka.cell 2; have y2 := kb.cell 2; simp at z0 y0 z1 y1 z2 y2; clear ka kb))
    go_ret
    exact ⟨by rw [HF.out]; rfl, HB.out⟩
  cases r1
  · go_wp2_with (first | (go_at_call 65; ((with_reducible refine (C1.out _ HB.out).mono ?_)); rintro e w2 ⟨rfl, hb2⟩; replace KA := Lib.hid (KA.out.below hb2 KA.out.lt); replace KB := Lib.hid (KB.out.below hb2 KB.out.lt); replace HB := Lib.hid (HB.out.trans (hb2.mono HB.out.size)); clear z0 y0 z1 y1 z2 y2 hb2; have ka := KA.out; have kb := KB.out; have z0 := ka.cell 0; have y0 := kb.cell 0; have z1 := ka.cell 1; have y1 := kb.cell 1; have z2 := ka.cell 2; have y2 := kb.cell 2; simp at z0 y0 z1 y1 z2 y2; clear ka kb) | (go_at_call 66; ((with_reducible refine (C2.out _ HB.out).mono ?_)); rintro e w2 ⟨rfl, hb2⟩; replace KA := Lib.hid (KA.out.below hb2 KA.out.lt); replace KB := Lib.hid (KB.out.below hb2 KB.out.lt); replace HB := Lib.hid (HB.out.trans (hb2.mono HB.out.size)); clear z0 y0 z1 y1 z2 y2 hb2; have ka := KA.out; have kb := KB.out; have z0 := ka.cell 0; have y0 := kb.cell 0; have z1 := ka.cell 1; have y1 := kb.cell 1; have z2 := ka.cell 2; have y2 := kb.cell 2; simp at z0 y0 z1 y1 z2 y2; clear ka kb))
    go_ret
    exact ⟨by rw [HF.out]; rfl, HB.out⟩
  go_wp2_with (first | (go_at_call 65; ((with_reducible refine (C1.out _ HB.out).mono ?_)); rintro e w2 ⟨rfl, hb2⟩; replace KA := Lib.hid (KA.out.below hb2 KA.out.lt); replace KB := Lib.hid (KB.out.below hb2 KB.out.lt); replace HB := Lib.hid (HB.out.trans (hb2.mono HB.out.size)); clear z0 y0 z1 y1 z2 y2 hb2; have ka := KA.out; have kb := KB.out; have z0 := ka.cell 0; have y0 := kb.cell 0; have z1 := ka.cell 1; have y1 := kb.cell 1; have z2 := ka.cell 2; have y2 := kb.cell 2; simp at z0 y0 z1 y1 z2 y2; clear ka kb) | (go_at_call 66; ((with_reducible refine (C2.out _ HB.out).mono ?_)); rintro e w2 ⟨rfl, hb2⟩; replace KA := Lib.hid (KA.out.below hb2 KA.out.lt); replace KB := Lib.hid (KB.out.below hb2 KB.out.lt); replace HB := Lib.hid (HB.out.trans (hb2.mono HB.out.size)); clear z0 y0 z1 y1 z2 y2 hb2; have ka := KA.out; have kb := KB.out; have z0 := ka.cell 0; have y0 := kb.cell 0; have z1 := ka.cell 1; have y1 := kb.cell 1; have z2 := ka.cell 2; have y2 := kb.cell 2; simp at z0 y0 z1 y1 z2 y2; clear ka kb))
  go_ret
  exact ⟨by rw [HF.out]; cases r2 <;> rfl, HB.out⟩
def rtEL : Value := .func (.func 64) #[] #[]
set_option maxRecDepth 100000 in
set_option maxHeartbeats 8000000 in
theorem eqL_any (xs ys : List (Lif)) (A B : Option Addr) (c d : Nat) (w : World) (ha : SlAt [] w A xs) (hb : SlAt [] w B ys) (hx : xs.length ≤ 9223372036854775807) (hy : ys.length ≤ 9223372036854775807) :
    Calls Tryz.prog 63 #[.slice A xs.length c, .slice B ys.length d, rtEL] w (BoolP (Sx.eqL Sx.sameL xs ys) w) := by
  obtain ⟨n, hn⟩ : ∃ n, xs.length = n := ⟨_, rfl⟩
  obtain ⟨m, hm⟩ : ∃ n, ys.length = n := ⟨_, rfl⟩
  have HX := Lib.hid ha; have HY := Lib.hid hb
  have HN := Lib.hid hn; have HM := Lib.hid hm
  have HBD := Lib.hid (fun (k : Nat) => eqL_bad (p := Sx.sameL) (a := xs) (b := ys) (k := k))
  have HGD := Lib.hid (eqL_good (p := Sx.sameL) (a := xs) (b := ys))
  have HLN := Lib.hid (eqL_len (p := Sx.sameL) (a := xs) (b := ys))
  obtain ⟨q, hq⟩ : ∃ b, Sx.eqL Sx.sameL xs ys = b := ⟨_, rfl⟩
  rw [hq] at HBD HGD HLN ⊢
  rw [hn] at hx ⊢
  rw [hm] at hy ⊢
  unfold rtEL
  clear ha hb hn hm hq
  go_enter Tryz.func63, Tryz.ntmps63
  by_cases hnm : n = m
  · subst hnm
    go_wp2_with fail
    go_loopg [17] n (fun r i wr => ∃ k : Nat, k + r = n ∧ i = .int .i64 k ∧ Below w.heap.size w wr ∧ ∀ j (h1 : j < xs.length) (h2 : j < ys.length), j < k → Sx.sameL xs[j] ys[j] = true)
    case atStart => exact ⟨0, by omega, rfl, Below.refl _ _, fun _ _ _ h => by omega⟩
    case round =>
      obtain ⟨k, hk, rfl, hb, hall⟩ := hrel
      obtain ⟨wo, rfl⟩ : ∃ wo : World, wo = wr := ⟨_, rfl⟩
      have HB := Lib.hid hb
      have HA := Lib.hid hall
      clear hb hall
      by_cases hlt : k < n
      · have hkx : k < xs.length := by rw [HN.out]; exact hlt
        have hky : k < ys.length := by rw [HM.out]; exact hlt
        have k0 : (0 : Int) ≤ (k : Int) := Int.natCast_nonneg _
        have k1 : (k : Int) < (n : Int) := by omega
        obtain ⟨b, o, us, rfl, _, hr, hc⟩ := (HX.out.keep (Chg.of_below HB.out)).get k hkx
        obtain ⟨b2, o2, vs, rfl, _, hr2, hc2⟩ := (HY.out.keep (Chg.of_below HB.out)).get k hky
        obtain ⟨x, hxe⟩ : ∃ x, xs[k] = x := ⟨_, rfl⟩
        obtain ⟨y, hye⟩ : ∃ x, ys[k] = x := ⟨_, rfl⟩
        have HP := Lib.hid (show Sx.sameL xs[k] ys[k] = Sx.sameL x y by rw [hxe, hye])
        rw [hxe] at hr
        rw [hye] at hr2
        have hr0 := hr; have hr02 := hr2
        obtain ⟨A1, cA, B1, dA, rfl, _⟩ := rep_lif hr0
        obtain ⟨A2, cB, B2, dB, rfl, _⟩ := rep_lif hr02
        rw [show Mem.sz (Lif) = 3 from rfl] at hc hc2
        have c0 : wo.cell? ⟨b, o + k * 3, none⟩ = some (.string x.1) := hc 0 _ rfl
        have c1 : wo.cell? ⟨b, o + k * 3 + 1, none⟩ = some (.slice A1 x.2.1.length cA) := hc 1 _ rfl
        have c2 : wo.cell? ⟨b, o + k * 3 + 2, none⟩ = some (.slice B1 x.2.2.length dA) := hc 2 _ rfl
        have d0 : wo.cell? ⟨b2, o2 + k * 3, none⟩ = some (.string y.1) := hc2 0 _ rfl
        have d1 : wo.cell? ⟨b2, o2 + k * 3 + 1, none⟩ = some (.slice A2 y.2.1.length cB) := hc2 1 _ rfl
        have d2 : wo.cell? ⟨b2, o2 + k * 3 + 2, none⟩ = some (.slice B2 y.2.2.length dB) := hc2 2 _ rfl
        have hb5 : Below wo.heap.size wo (wo.alloc (.cells #[.string x.1, .slice A1 x.2.1.length cA, .slice B1 x.2.2.length dA] 55)) := (Below.refl _ _).alloc (Nat.le_refl _) _
        have hk5 : Blk (wo.alloc (.cells #[.string x.1, .slice A1 x.2.1.length cA, .slice B1 x.2.2.length dA] 55)) wo.heap.size 55 #[.string x.1, .slice A1 x.2.1.length cA, .slice B1 x.2.2.length dA] := Blk.new _ _ _
        have HR1 := Lib.hid (Mem.keep hr (Chg.of_below hb5)); have HR2 := Lib.hid (Mem.keep hr2 (Chg.of_below hb5))
        have e0 := (hb5.cell (World.block_lt_of_cell? _ _ d0)).trans d0
        have e1 := (hb5.cell (World.block_lt_of_cell? _ _ d1)).trans d1
        have e2 := (hb5.cell (World.block_lt_of_cell? _ _ d2)).trans d2
        obtain ⟨Nx, hNx⟩ : ∃ n, wo.heap.size = n := ⟨_, rfl⟩
        have HB5 := Lib.hid (HB.out.trans (hb5.mono HB.out.size))
        have HK5 := Lib.hid hk5
        clear hxe hye hr hr2 hr0 hr02 hc hc2 hb5 hk5
        go_upto_region 6 with fail
        generalize wo.alloc (.cells #[.string x.1, .slice A1 x.2.1.length cA, .slice B1 x.2.2.length dA] 55) = w5 at *
        rw [hNx] at HK5
        clear hNx c0 c1 c2 d0 d1 d2
        have hb6 : Below w5.heap.size w5 (w5.alloc (.cells #[.string y.1, .slice A2 y.2.1.length cB, .slice B2 y.2.2.length dB] 55)) := (Below.refl _ _).alloc (Nat.le_refl _) _
        have HK6 := Lib.hid (show Blk (w5.alloc (.cells #[.string y.1, .slice A2 y.2.1.length cB, .slice B2 y.2.2.length dB] 55)) w5.heap.size 55 #[.string y.1, .slice A2 y.2.1.length cB, .slice B2 y.2.2.length dB] from Blk.new _ _ _)
        have HK7 := Lib.hid (HK5.out.below hb6 HK5.out.lt)
        have CE := Lib.hid (sameL_any x y _ _ _ (Mem.keep HR1.out (Chg.of_below hb6)) (Mem.keep HR2.out (Chg.of_below hb6)))
        have HB6 := Lib.hid (HB5.out.trans (hb6.mono HB5.out.size))
        obtain ⟨Ny, hNy⟩ : ∃ n, w5.heap.size = n := ⟨_, rfl⟩
        clear hb6 HR1 HR2
        go_upto_region 7 with fail
        generalize w5.alloc (.cells #[.string y.1, .slice A2 y.2.1.length cB, .slice B2 y.2.2.length dB] 55) = w6 at *
        rw [hNy] at HK6
        clear hNy e0 e1 e2
        have hk7 := HK7.out; have hk6 := HK6.out
        have z0 := hk7.cell 0; have z1 := hk7.cell 1; have z2 := hk7.cell 2; simp at z0 z1 z2; have y0 := hk6.cell 0; have y1 := hk6.cell 1; have y2 := hk6.cell 2; simp at y0 y1 y2
        clear hk7 hk6
        obtain ⟨r, hr⟩ : ∃ r, Sx.sameL x y = r := ⟨_, rfl⟩
        rw [hr] at CE HP
        clear hr
        replace CE := Lib.hid (show Calls Tryz.prog 64 #[.agg #[.string x.1, .slice A1 x.2.1.length cA, .slice B1 x.2.2.length dA], .agg #[.string y.1, .slice A2 y.2.1.length cB, .slice B2 y.2.2.length dB]] w6 (BoolP r w6) from CE.out)
        cases r
        · have HQ := Lib.hid (HBD.out k hkx hky HP.out)
          go_wp2_with (go_at_call 64; ((with_reducible refine (CE.out).mono ?_)); rintro e w7 ⟨rfl, hb7⟩; have HB7 := Lib.hid (HB6.out.trans (hb7.mono HB6.out.size)); clear hb7)
          go_ret
          exact ⟨by rw [HQ.out]; rfl, HB7.out⟩
        · go_wp2_with (go_at_call 64; ((with_reducible refine (CE.out).mono ?_)); rintro e w7 ⟨rfl, hb7⟩; have HB7 := Lib.hid (HB6.out.trans (hb7.mono HB6.out.size)); clear hb7)
          go_roundg (gk - 1)
          case measure => omega
          case rel =>
            refine ⟨k + 1, by omega, by go_num, HB7.out, fun j h1 h2 hj => ?_⟩
            rcases Nat.lt_or_ge j k with h' | h'
            · exact HA.out j h1 h2 h'
            · obtain rfl : j = k := by omega
              exact HP.out
      · have k1 : ¬ (k : Int) < (n : Int) := by omega
        have HQ := Lib.hid (HGD.out (HN.out.trans HM.out.symm) fun j h1 h2 => HA.out j h1 h2 (by rw [HN.out] at h1; omega))
        go_wp2_with fail
        go_ret
        exact ⟨by rw [HQ.out]; rfl, HB.out⟩
  · have HQ := Lib.hid (HLN.out (by rw [HN.out, HM.out]; exact hnm))
    have q1 : ((n : Int) == (m : Int)) = false := beq_eq_false_iff_ne.2 (by omega)
    have q2 : ((n : Int) != (m : Int)) = true := by rw [bne, q1]; rfl
    clear hnm
    go_wp2_with fail
    go_ret
    exact ⟨by rw [HQ.out]; rfl, Below.refl _ _⟩
end Go.Proofs.YtmplaikgbeeikaaGreatDoor
namespace Go.Proofs.YtmplaikgbeeikaaGreatDoor
open Go Go.RowKit
def Sx.sameX (x y : Sch) : Bool := decide (x.1 = y.1) && (Sx.eqL Sx.sameK (Sc.kinds x) (Sc.kinds y) && (Sx.eqL Sx.sameL x.2.2.1 y.2.2.1 && decide (x.2.2.2 = y.2.2.2)))
theorem Sx.sameF_iff (x y : Fld) : Sx.sameF x y = true ↔ x = y := by
  unfold Sx.sameF
  simp only [Bool.and_eq_true, decide_eq_true_eq]
  obtain ⟨x1, x2, x3, x4, x5, x6, x7, x8⟩ := x
  obtain ⟨y1, y2, y3, y4, y5, y6, y7, y8⟩ := y
  constructor
  · rintro ⟨h1, h2, h3, h4, h5, h6, h7, h8⟩
    cases h1; cases h2; cases h3; cases h4; cases h5; cases h6; cases h7; cases h8; rfl
  · intro h; cases h; exact ⟨rfl, rfl, rfl, rfl, rfl, rfl, rfl, rfl⟩
theorem Sx.sameK_iff (x y : Knd) : Sx.sameK x y = true ↔ x = y := by
  unfold Sx.sameK
  simp only [Bool.and_eq_true, decide_eq_true_eq, eqL_iff Sx.sameF_iff]
  obtain ⟨x1, x2, x3, x4⟩ := x
  obtain ⟨y1, y2, y3, y4⟩ := y
  constructor
  · rintro ⟨h1, h2, h3, h4⟩
    cases h1; cases h2; cases h3; cases h4; rfl
  · intro h; cases h; exact ⟨rfl, rfl, rfl, rfl⟩
theorem Sx.sameL_iff (x y : Lif) : Sx.sameL x y = true ↔ x = y := by
  unfold Sx.sameL
  simp only [Bool.and_eq_true, decide_eq_true_eq]
  obtain ⟨x1, x2, x3⟩ := x
  obtain ⟨y1, y2, y3⟩ := y
  constructor
  · rintro ⟨h1, h2, h3⟩
    cases h1; cases h2; cases h3; rfl
  · intro h; cases h; exact ⟨rfl, rfl, rfl⟩
theorem Sx.sameX_iff (x y : Sch) : Sx.sameX x y = true ↔ x = y := by
  unfold Sx.sameX
  simp only [Bool.and_eq_true, decide_eq_true_eq, eqL_iff Sx.sameK_iff, eqL_iff Sx.sameL_iff]
  obtain ⟨x1, x2, x3, x4⟩ := x
  obtain ⟨y1, y2, y3, y4⟩ := y
  constructor
  · rintro ⟨h1, h2, h3, h4⟩
    cases h1; cases h2; cases h3; cases h4; rfl
  · intro h; cases h; exact ⟨rfl, rfl, rfl, rfl⟩
end Go.Proofs.YtmplaikgbeeikaaGreatDoor
namespace Go.Proofs.YtmplaikgbeeikaaGreatDoor
open Go Go.RowKit
set_option maxRecDepth 100000 in
set_option maxHeartbeats 8000000 in
theorem same_schemas (x y : Sch) (us vs : List Value) (w : World) (ha : Mem.rep [] w x us) (hb : Mem.rep [] w y vs) :
    Calls Tryz.prog 22 #[.agg us.toArray, .agg vs.toArray] w (BoolP (Sx.sameX x y) w) := by
  obtain ⟨A1, cA, B1, dA, G1, fA, rfl, s1, s2, s3, a1, b1, b2, b3, b4, b5, b6⟩ := rep_sch ha
  obtain ⟨A2, cB, B2, dB, G2, fB, rfl, t1, t2, t3, a1', b1', b2', b3', b4', b5', b6'⟩ := rep_sch hb
  have hb1 : Below w.heap.size w (w.alloc (.cells #[.int .i64 x.1, .slice A1 (Sc.kinds x).length cA, .slice B1 x.2.2.1.length dA, .slice G1 x.2.2.2.length fA] 28)) := (Below.refl _ _).alloc (Nat.le_refl _) _
  have hk1 : Blk (w.alloc (.cells #[.int .i64 x.1, .slice A1 (Sc.kinds x).length cA, .slice B1 x.2.2.1.length dA, .slice G1 x.2.2.2.length fA] 28)) w.heap.size 28 #[.int .i64 x.1, .slice A1 (Sc.kinds x).length cA, .slice B1 x.2.2.1.length dA, .slice G1 x.2.2.2.length fA] := Blk.new _ _ _
  obtain ⟨W1, hW1⟩ : ∃ X, w.alloc (.cells #[.int .i64 x.1, .slice A1 (Sc.kinds x).length cA, .slice B1 x.2.2.1.length dA, .slice G1 x.2.2.2.length fA] 28) = X := ⟨_, rfl⟩
  rw [hW1] at hb1 hk1
  have hb2 : Below W1.heap.size W1 (W1.alloc (.cells #[.int .i64 y.1, .slice A2 (Sc.kinds y).length cB, .slice B2 y.2.2.1.length dB, .slice G2 y.2.2.2.length fB] 28)) := (Below.refl _ _).alloc (Nat.le_refl _) _
  have hk2 : Blk (W1.alloc (.cells #[.int .i64 y.1, .slice A2 (Sc.kinds y).length cB, .slice B2 y.2.2.1.length dB, .slice G2 y.2.2.2.length fB] 28)) W1.heap.size 28 #[.int .i64 y.1, .slice A2 (Sc.kinds y).length cB, .slice B2 y.2.2.1.length dB, .slice G2 y.2.2.2.length fB] := Blk.new _ _ _
  obtain ⟨W2, hW2⟩ : ∃ X, W1.alloc (.cells #[.int .i64 y.1, .slice A2 (Sc.kinds y).length cB, .slice B2 y.2.2.1.length dB, .slice G2 y.2.2.2.length fB] 28) = X := ⟨_, rfl⟩
  rw [hW2] at hb2 hk2
  have hk1' := hk1.below hb2 hk1.lt
  obtain ⟨Na, hNa⟩ : ∃ n, w.heap.size = n := ⟨_, rfl⟩
  have hNb : W1.heap.size = Na + 1 := by rw [← hW1, ← hNa]; simp only [World.alloc, Array.size_push]
  rw [hNa] at hk1'
  rw [hNb] at hk2
  have KA := Lib.hid hk1'; have KB := Lib.hid hk2
  have HB := Lib.hid (hb1.trans (hb2.mono hb1.size))
  have HW1 := Lib.hid hW1; have HW2 := Lib.hid hW2; have HNa := Lib.hid hNa; have HNb := Lib.hid hNb
  have C1 := Lib.hid (fun (W : World) (hb : Below w.heap.size w W) => eqK_any (Sc.kinds x) (Sc.kinds y) A1 A2 cA cB W (s1.keep (Chg.of_below hb)) (t1.keep (Chg.of_below hb)) (Nat.le_trans b1 b2) (Nat.le_trans b1' b2'))
  unfold rtEK at C1
  have C2 := Lib.hid (fun (W : World) (hb : Below w.heap.size w W) => eqL_any x.2.2.1 y.2.2.1 B1 B2 dA dB W (s2.keep (Chg.of_below hb)) (t2.keep (Chg.of_below hb)) (Nat.le_trans b3 b4) (Nat.le_trans b3' b4'))
  unfold rtEL at C2
  have C3 := Lib.hid (fun (W : World) (hb : Below w.heap.size w W) => eqpR_any x.2.2.2 y.2.2.2 G1 G2 fA fB W (s3.keep (Chg.of_below hb)) (t3.keep (Chg.of_below hb)) (Nat.le_trans b5 b6) (Nat.le_trans b5' b6'))
  show Calls Tryz.prog 22 #[.agg #[.int .i64 x.1, .slice A1 (Sc.kinds x).length cA, .slice B1 x.2.2.1.length dA, .slice G1 x.2.2.2.length fA], .agg #[.int .i64 y.1, .slice A2 (Sc.kinds y).length cB, .slice B2 y.2.2.1.length dB, .slice G2 y.2.2.2.length fB]] w _
  obtain ⟨r0, h0⟩ : ∃ r, decide (x.1 = y.1) = r := ⟨_, rfl⟩
  have q0 : (x.1 == y.1) = r0 := by rw [← h0]; exact intEqB _ _
  obtain ⟨r1, h1⟩ : ∃ r, Sx.eqL Sx.sameK (Sc.kinds x) (Sc.kinds y) = r := ⟨_, rfl⟩
  rw [h1] at C1
  obtain ⟨r2, h2⟩ : ∃ r, Sx.eqL Sx.sameL x.2.2.1 y.2.2.1 = r := ⟨_, rfl⟩
  rw [h2] at C2
  obtain ⟨r3, h3⟩ : ∃ r, decide (x.2.2.2 = y.2.2.2) = r := ⟨_, rfl⟩
  rw [h3] at C3
  have HF := Lib.hid (show Sx.sameX x y = (r0 && (r1 && (r2 && (r3)))) by unfold Sx.sameX; rw [h0, h1, h2, h3])
  generalize Sx.sameX x y = sf at *
  clear ha hb hb1 hb2 hk1 hk2 hk1' hW1 hW2 hNa hNb h0 h1 h2 h3 s1 s2 s3 t1 t2 t3 a1 b1 b2 b3 b4 b5 b6 a1' b1' b2' b3' b4' b5' b6'
  go_enter Tryz.func22, Tryz.ntmps22
  go_upto_region 1 with fail
  rw [HW1.out, HW2.out]
  (try rw [HNa.out])
  (try rw [HNb.out])
  have ka := KA.out; have kb := KB.out; have z0 := ka.cell 0; have y0 := kb.cell 0; have z1 := ka.cell 1; have y1 := kb.cell 1; have z2 := ka.cell 2; have y2 := kb.cell 2; have z3 := ka.cell 3; have y3 := kb.cell 3; simp at z0 y0 z1 y1 z2 y2 z3 y3; clear ka kb
  cases r0
  · go_wp2_with (first | (go_at_call 59; ((with_reducible refine (C1.out _ HB.out).mono ?_)); rintro e w2 ⟨rfl, hb2⟩; replace KA := Lib.hid (KA.out.below hb2 KA.out.lt); replace KB := Lib.hid (KB.out.below hb2 KB.out.lt); replace HB := Lib.hid (HB.out.trans (hb2.mono HB.out.size)); clear z0 y0 z1 y1 z2 y2 z3 y3 hb2; have ka := KA.out; have kb := KB.out; have z0 := ka.cell 0; have y0 := kb.cell 0; have z1 := ka.cell 1; have y1 := kb.cell 1; have z2 := ka.cell 2; have y2 := kb.cell 2; have z3 := ka.cell 3; have y3 := kb.cell 3; simp at z0 y0 z1 y1 z2 y2 z3 y3; clear ka kb) | (go_at_call 63; ((with_reducible refine (C2.out _ HB.out).mono ?_)); rintro e w2 ⟨rfl, hb2⟩; replace KA := Lib.hid (KA.out.below hb2 KA.out.lt); replace KB := Lib.hid (KB.out.below hb2 KB.out.lt); replace HB := Lib.hid (HB.out.trans (hb2.mono HB.out.size)); clear z0 y0 z1 y1 z2 y2 z3 y3 hb2; have ka := KA.out; have kb := KB.out; have z0 := ka.cell 0; have y0 := kb.cell 0; have z1 := ka.cell 1; have y1 := kb.cell 1; have z2 := ka.cell 2; have y2 := kb.cell 2; have z3 := ka.cell 3; have y3 := kb.cell 3; simp at z0 y0 z1 y1 z2 y2 z3 y3; clear ka kb) | (go_at_call 67; ((with_reducible refine (C3.out _ HB.out).mono ?_)); rintro e w2 ⟨rfl, hb2⟩; replace KA := Lib.hid (KA.out.below hb2 KA.out.lt); replace KB := Lib.hid (KB.out.below hb2 KB.out.lt); replace HB := Lib.hid (HB.out.trans (hb2.mono HB.out.size)); clear z0 y0 z1 y1 z2 y2 z3 y3 hb2; have ka := KA.out; have kb := KB.out; have z0 := ka.cell 0; have y0 := kb.cell 0; have z1 := ka.cell 1; have y1 := kb.cell 1; have z2 := ka.cell 2; have y2 := kb.cell 2; have z3 := ka.cell 3; have y3 := kb.cell 3; simp at z0 y0 z1 y1 z2 y2 z3 y3; clear ka kb))
    go_ret
    exact ⟨by rw [HF.out]; rfl, HB.out⟩
  cases r1
  · go_wp2_with (first | (go_at_call 59; ((with_reducible refine (C1.out _ HB.out).mono ?_)); rintro e w2 ⟨rfl, hb2⟩; replace KA := Lib.hid (KA.out.below hb2 KA.out.lt); replace KB := Lib.hid (KB.out.below hb2 KB.out.lt); replace HB := Lib.hid (HB.out.trans (hb2.mono HB.out.size)); clear z0 y0 z1 y1 z2 y2 z3 y3 hb2; have ka := KA.out; have kb := KB.out; have z0 := ka.cell 0; have y0 := kb.cell 0; have z1 := ka.cell 1; have y1 := kb.cell 1; have z2 := ka.cell 2; have y2 := kb.cell 2; have z3 := ka.cell 3; have y3 := kb.cell 3; simp at z0 y0 z1 y1 z2 y2 z3 y3; clear ka kb) | (go_at_call 63; ((with_reducible refine (C2.out _ HB.out).mono ?_)); rintro e w2 ⟨rfl, hb2⟩; replace KA := Lib.hid (KA.out.below hb2 KA.out.lt); replace KB := Lib.hid (KB.out.below hb2 KB.out.lt); replace HB := Lib.hid (HB.out.trans (hb2.mono HB.out.size)); clear z0 y0 z1 y1 z2 y2 z3 y3 hb2; have ka := KA.out; have kb := KB.out; have z0 := ka.cell 0; have y0 := kb.cell 0; have z1 := ka.cell 1; have y1 := kb.cell 1; have z2 := ka.cell 2; have y2 := kb.cell 2; have z3 := ka.cell 3; have y3 := kb.cell 3; simp at z0 y0 z1 y1 z2 y2 z3 y3; clear ka kb) | (go_at_call 67; ((with_reducible refine (C3.out _ HB.out).mono ?_)); rintro e w2 ⟨rfl, hb2⟩; replace KA := Lib.hid (KA.out.below hb2 KA.out.lt); replace KB := Lib.hid (KB.out.below hb2 KB.out.lt); replace HB := Lib.hid (HB.out.trans (hb2.mono HB.out.size)); clear z0 y0 z1 y1 z2 y2 z3 y3 hb2; have ka := KA.out; have kb := KB.out; have z0 := ka.cell 0; have y0 := kb.cell 0; have z1 := ka.cell 1; have y1 := kb.cell 1; have z2 := ka.cell 2; have y2 := kb.cell 2; have z3 := ka.cell 3; have y3 := kb.cell 3; simp at z0 y0 z1 y1 z2 y2 z3 y3; clear ka kb))
    go_ret
    exact ⟨by rw [HF.out]; rfl, HB.out⟩
  cases r2
  · go_wp2_with (first | (go_at_call 59; ((with_reducible refine (C1.out _ HB.out).mono ?_)); rintro e w2 ⟨rfl, hb2⟩; replace KA := Lib.hid (KA.out.below hb2 KA.out.lt); replace KB := Lib.hid (KB.out.below hb2 KB.out.lt); replace HB := Lib.hid (HB.out.trans (hb2.mono HB.out.size)); clear z0 y0 z1 y1 z2 y2 z3 y3 hb2; have ka := KA.out; have kb := KB.out; have z0 := ka.cell 0; have y0 := kb.cell 0; have z1 := ka.cell 1; have y1 := kb.cell 1; have z2 := ka.cell 2; have y2 := kb.cell 2; have z3 := ka.cell 3; have y3 := kb.cell 3; simp at z0 y0 z1 y1 z2 y2 z3 y3; clear ka kb) | (go_at_call 63; ((with_reducible refine (C2.out _ HB.out).mono ?_)); rintro e w2 ⟨rfl, hb2⟩; replace KA := Lib.hid (KA.out.below hb2 KA.out.lt); replace KB := Lib.hid (KB.out.below hb2 KB.out.lt); replace HB := Lib.hid (HB.out.trans (hb2.mono HB.out.size)); clear z0 y0 z1 y1 z2 y2 z3 y3 hb2; have ka := KA.out; have kb := KB.out; have z0 := ka.cell 0; have y0 := kb.cell 0; have z1 := ka.cell 1; have y1 := kb.cell 1; have z2 := ka.cell 2; have y2 := kb.cell 2; have z3 := ka.cell 3; have y3 := kb.cell 3; simp at z0 y0 z1 y1 z2 y2 z3 y3; clear ka kb) | (go_at_call 67; ((with_reducible refine (C3.out _ HB.out).mono ?_)); rintro e w2 ⟨rfl, hb2⟩; replace KA := Lib.hid (KA.out.below hb2 KA.out.lt); replace KB := Lib.hid (KB.out.below hb2 KB.out.lt); replace HB := Lib.hid (HB.out.trans (hb2.mono HB.out.size)); clear z0 y0 z1 y1 z2 y2 z3 y3 hb2; have ka := KA.out; have kb := KB.out; have z0 := ka.cell 0; have y0 := kb.cell 0; have z1 := ka.cell 1; have y1 := kb.cell 1; have z2 := ka.cell 2; have y2 := kb.cell 2; have z3 := ka.cell 3; have y3 := kb.cell 3; simp at z0 y0 z1 y1 z2 y2 z3 y3; clear ka kb))
    go_ret
    exact ⟨by rw [HF.out]; rfl, HB.out⟩
  go_wp2_with (first | (go_at_call 59; ((with_reducible refine (C1.out _ HB.out).mono ?_)); rintro e w2 ⟨rfl, hb2⟩; replace KA := Lib.hid (KA.out.below hb2 KA.out.lt); replace KB := Lib.hid (KB.out.below hb2 KB.out.lt); replace HB := Lib.hid (HB.out.trans (hb2.mono HB.out.size)); clear z0 y0 z1 y1 z2 y2 z3 y3 hb2; have ka := KA.out; have kb := KB.out; have z0 := ka.cell 0; have y0 := kb.cell 0; have z1 := ka.cell 1; have y1 := kb.cell 1; have z2 := ka.cell 2; have y2 := kb.cell 2; have z3 := ka.cell 3; have y3 := kb.cell 3; simp at z0 y0 z1 y1 z2 y2 z3 y3; clear ka kb) | (go_at_call 63; ((with_reducible refine (C2.out _ HB.out).mono ?_)); rintro e w2 ⟨rfl, hb2⟩; replace KA := Lib.hid (KA.out.below hb2 KA.out.lt); replace KB := Lib.hid (KB.out.below hb2 KB.out.lt); replace HB := Lib.hid (HB.out.trans (hb2.mono HB.out.size)); clear z0 y0 z1 y1 z2 y2 z3 y3 hb2; have ka := KA.out; have kb := KB.out; have z0 := ka.cell 0; have y0 := kb.cell 0; have z1 := ka.cell 1; have y1 := kb.cell 1; have z2 := ka.cell 2; have y2 := kb.cell 2; have z3 := ka.cell 3; have y3 := kb.cell 3; simp at z0 y0 z1 y1 z2 y2 z3 y3; clear ka kb) | (go_at_call 67; ((with_reducible refine (C3.out _ HB.out).mono ?_)); rintro e w2 ⟨rfl, hb2⟩; replace KA := Lib.hid (KA.out.below hb2 KA.out.lt); replace KB := Lib.hid (KB.out.below hb2 KB.out.lt); replace HB := Lib.hid (HB.out.trans (hb2.mono HB.out.size)); clear z0 y0 z1 y1 z2 y2 z3 y3 hb2; have ka := KA.out; have kb := KB.out; have z0 := ka.cell 0; have y0 := kb.cell 0; have z1 := ka.cell 1; have y1 := kb.cell 1; have z2 := ka.cell 2; have y2 := kb.cell 2; have z3 := ka.cell 3; have y3 := kb.cell 3; simp at z0 y0 z1 y1 z2 y2 z3 y3; clear ka kb))
  go_ret
  exact ⟨by rw [HF.out]; cases r3 <;> rfl, HB.out⟩
end Go.Proofs.YtmplaikgbeeikaaGreatDoor
namespace Go.Proofs.YtmplaikgbeeikaaGreatDoor
open Go Go.RowKit
/-- A made schema: its value, open, and how it is made. -/
def GSch2P (w : World) (e : Ending) (w' : World) : Prop := ∃ (x : Sch) (A : Option Addr) (c : Nat) (B : Option Addr) (d : Nat) (C : Option Addr) (f nk nl nr : Nat), e = .returned (.agg #[.int .i64 x.1, .slice A nk c, .slice B nl d, .slice C nr f]) ∧ Sg.Schema x ∧ Mem.rep [] w' x [.int .i64 x.1, .slice A nk c, .slice B nl d, .slice C nr f] ∧ Below w.heap.size w w'
theorem gsch2_any (l : List Int) (A : Option Addr) (c : Nat) (w : World) (hs : SlAt [] w A l) (hc : l.length ≤ c) (hm : c ≤ 9223372036854775807) : Calls Tryz.prog 9 #[.slice A l.length c] w (GSch2P w) := by
  refine (gschema_any l A c w hs hc hm).mono ?_
  rintro e w' ⟨x, v, rfl, hx, ⟨us, rfl, hr⟩, hb⟩
  obtain ⟨A1, c1, A2, c2, A3, c3, rfl, _⟩ := rep_sch hr
  exact ⟨x, A1, c1, A2, c2, A3, c3, _, _, _, rfl, hx, hr, hb⟩
namespace Sx
theorem flat_len {α : Type} {n : Nat} : ∀ {L : List (List α)}, (∀ l ∈ L, l.length ≤ n) → L.flatten.length ≤ L.length * n
  | [], _ => by simp
  | l :: L, h => by
    have h1 := h l (.head _)
    have h2 := flat_len (L := L) fun m hm => h m (.tail _ hm)
    rw [List.flatten_cons, List.length_append, List.length_cons, Nat.succ_mul]
    omega
theorem spaced_len : ∀ {bs ws : List Txt}, bs.length = ws.length → (∀ b ∈ bs, b ∈ blanks) → (∀ t ∈ ws, t.length ≤ 12) → (spaced bs ws).length ≤ 16 * ws.length
  | [], [], _, _, _ => Nat.zero_le _
  | b :: bs, w :: ws, h, hb, hw => by
    have h1 := spaced_len (bs := bs) (ws := ws) (by simpa using h) (fun b h => hb b (.tail _ h)) (fun t h => hw t (.tail _ h))
    have h2 := hw w (.head _)
    have h3 : b.length ≤ 4 := by
      have := hb b (.head _)
      unfold blanks at this
      simp only [List.mem_cons, List.not_mem_nil, or_false] at this
      rcases this with rfl | rfl | rfl <;> exact Nat.le_of_ble_eq_true rfl
    simp only [spaced, List.length_append, List.length_cons]
    omega
  | [], _ :: _, h, _, _ => by simp at h
  | _ :: _, [], h, _, _ => by simp at h
end Sx
namespace Sg
theorem Schema.few {x : Sch} (h : Schema x) : (Sx.linesL x).flatten.length ≤ 378 ∧ ∀ t ∈ (Sx.linesL x).flatten, t.length ≤ 12 := by
  have hval := h.valid
  have hob := Sx.okB_bd (Sx.valid_ok hval).1
  have hsh := (Sx.linesL_short hob).2
  cases h with
  | mk ver ks lf i rs v0 v3 k1 k3 hks hlf hrs _ =>
    have hkg := hks.kg k3
    have hko := hks.ok k3
    obtain ⟨l1, l2, l3⟩ := hlf.lifB
    obtain ⟨r1, r2⟩ := hrs.rulB fun k hk => ⟨hkg k hk, hko k hk⟩
    have hlen : ∀ l ∈ Sx.linesL (ver, ks, [lf], rs), l.length ≤ 9 := by
      intro l hl
      rcases List.mem_cons.1 hl with rfl | hl
      · exact Nat.le_of_ble_eq_true rfl
      rcases List.mem_append.1 hl with hl | hl
      · obtain ⟨k, hk, hl⟩ := List.mem_flatMap.1 hl
        rcases List.mem_cons.1 hl with rfl | hl
        · exact Nat.le_of_ble_eq_true rfl
        · obtain ⟨f, hf, rfl⟩ := List.mem_map.1 hl
          exact fld_few ((hkg k hk).fs f hf)
      rcases List.mem_append.1 hl with hl | hl
      · obtain ⟨k, hk, hl8⟩ := List.mem_flatMap.1 hl
        clear hl
        obtain rfl : k = lf := List.mem_singleton.1 hk
        rcases List.mem_cons.1 hl8 with rfl | hl
        · simp only [List.length_cons, List.length_map]; omega
        · obtain ⟨m, hm, rfl⟩ := List.mem_map.1 hl
          exact Nat.le_of_ble_eq_true rfl
      · obtain ⟨r, hr, rfl⟩ := List.mem_map.1 hl
        exact Nat.le_of_ble_eq_true rfl
    have hn : (Sx.linesL (ver, ks, [lf], rs)).length ≤ 42 := by
      have h1 := Sx.flat_le Sx.kndL 11 fun k hk => (Sx.kndL_short (hob.k k hk)).1
      show (_ ++ (([lf].flatMap Sx.lifL) ++ rs.map Sx.rulL) : List (List Sx.Txt)).length + 1 ≤ 42
      rw [List.length_append, List.length_append, List.length_map]
      have h2 : ([lf].flatMap Sx.lifL).length ≤ 6 := by
        rw [List.flatMap_cons, List.flatMap_nil, List.append_nil]
        show (lf.2.2.map _).length + 1 ≤ 6
        rw [List.length_map]; omega
      have h1 : ((Sc.kinds (ver, ks, [lf], rs)).flatMap Sx.kndL).length ≤ ks.length * 11 := h1
      omega
    refine ⟨Nat.le_trans (Sx.flat_len hlen) (by omega), fun t ht => ?_⟩
    obtain ⟨l, hl, ht⟩ := List.mem_flatten.1 ht
    exact (hsh l hl).2 t ht
/-- A made schema's source with other blanks is short, and is read as it. -/
theorem Schema.spaced {x : Sch} {bs : List Sx.Txt} {t : ByteArray} (h : Schema x) (hl : bs.length = (Sx.toks (Sx.print x)).length) (hb : ∀ b ∈ bs, b ∈ Sx.blanks) (ht : t.data.toList = Sx.spaced bs ((Sx.toks (Sx.print x)).map Prod.fst)) : t.size ≤ 8192 ∧ Sx.parse t.data.toList = (x, 0, 0) := by
  have hv := h.valid
  have hp : Sx.print x = Sx.source x := by unfold Sx.print; rw [if_pos hv]
  have hw : (Sx.toks (Sx.print x)).map Prod.fst = (Sx.linesL x).flatten := by rw [hp, Sx.words_source (Sx.valid_ok hv).1]
  have hl2 : bs.length = ((Sx.toks (Sx.print x)).map Prod.fst).length := by rw [List.length_map]; exact hl
  have hlen : (Sx.spaced bs ((Sx.toks (Sx.print x)).map Prod.fst)).length ≤ 8192 := by
    have h1 := Sx.spaced_len hl2 hb (by rw [hw]; exact h.few.2)
    have h2 := h.few.1
    rw [← hw] at h2
    omega
  refine ⟨?_, ?_⟩
  · rw [← ht] at hlen
    exact hlen
  · rw [ht]
    exact Sx.parse_spaced hv rfl hl2 hb hlen
end Sg
end Go.Proofs.YtmplaikgbeeikaaGreatDoor
namespace Go.Proofs.YtmplaikgbeeikaaGreatDoor
open Go Go.RowKit
set_option maxRecDepth 100000 in
set_option maxHeartbeats 16000000 in
theorem law_blanks (l m : List Int) (A0 A1 : Option Addr) (c c1 : Nat) (w : World) (he : SEnv w) (hl : SlAt [] w A0 l) (hm : SlAt [] w A1 m) (hc : l.length ≤ c) (hc2 : c ≤ 9223372036854775807) (hd : m.length ≤ c1) (hd2 : c1 ≤ 9223372036854775807) :
    Calls Tryz.prog 7 #[.slice A0 l.length c, .slice A1 m.length c1] w fun e w' => e = .returned (.bool true) ∧ Below w.heap.size w w' := by
  have CG := Lib.hid (gsch2_any l A0 c w hl hc hc2)
  have HE := Lib.hid he
  have CSP := Lib.hid (fun (s : ByteArray) (W : World) (hb : Below w.heap.size w W) (hs : s.size ≤ 1000000) => spacedX_any s m A1 c1 W hs (hm.keep (Chg.of_below hb)) (by omega))
  have CP := Lib.hid (fun (s : ByteArray) (x : Sch) (W : World) (hb : Below w.heap.size w W) (hs : s.size ≤ 1000000) (hp : Sx.parse s.data.toList = (x, 0, 0)) => pparse_open s W (by omega) (he.to hb) hp)
  have CL := Lib.hid (fun (W : World) (hb : Below w.heap.size w W) => lives_any W (he.to hb))
  unfold GSch2P at CG
  clear he hl hm hc hc2 hd hd2
  generalize l.length = ll at *
  generalize m.length = ml at *
  go_enter Tryz.func7, Tryz.ntmps7
  go_upto_region 2 with (go_at_call 9; ((with_reducible refine (CG.out).mono ?_)); rintro e w1 ⟨x, A2, c2, B2, d2, C2, f2, nk, nl, nr, rfl, hv, hr, hb⟩; have HV := Lib.hid hv; have HR := Lib.hid hr; have HB := Lib.hid hb; clear hv hr hb)
  have HB1 := Lib.hid ((Below.refl w1.heap.size w1).alloc (Nat.le_refl _) (.cells #[.int .i64 x.1, .slice A2 nk c2, .slice B2 nl d2, .slice C2 nr f2] 28))
  have KA := Lib.hid (Blk.new w1 28 #[.int .i64 x.1, .slice A2 nk c2, .slice B2 nl d2, .slice C2 nr f2])
  replace HR := Lib.hid (Mem.keep HR.out (Chg.of_below HB1.out))
  replace HB := Lib.hid (HB.out.trans (HB1.out.mono HB.out.size))
  clear HB1
  obtain ⟨N1, hN1⟩ : ∃ n, w1.heap.size = n := ⟨_, rfl⟩
  generalize w1.alloc (.cells #[.int .i64 x.1, .slice A2 nk c2, .slice B2 nl d2, .slice C2 nr f2] 28) = w2 at *
  rw [hN1] at KA
  (try rw [hN1])
  clear hN1
  have CPR := Lib.hid (print_any x _ w2 HR.out (okB_sz (Sx.valid_ok HV.out.valid).1) (HE.out.to HB.out))
  have CVA := Lib.hid (fun (W : World) (hb : Below w2.heap.size w2 W) => valid_any x _ W (Mem.keep HR.out (Chg.of_below hb)) (okB_sz (Sx.valid_ok HV.out.valid).1) (HE.out.to (HB.out.trans (hb.mono HB.out.size))))
  rw [HV.out.valid] at CVA
  have HP := Lib.hid (show (⟨(Sx.print x).toArray⟩ : ByteArray).size ≤ 1000000 by
    have h1 := src_len HV.out.valid
    have h2 : Sx.print x = Sx.source x := by unfold Sx.print; rw [if_pos HV.out.valid]
    rw [h2]
    show (Sx.source x).toArray.size ≤ 1000000
    rw [List.size_toArray]; omega)
  obtain ⟨s, hs⟩ : ∃ s : ByteArray, (⟨(Sx.print x).toArray⟩ : ByteArray) = s := ⟨_, rfl⟩
  have HS := Lib.hid (show s.data.toList = Sx.print x by rw [← hs])
  rw [hs] at CPR HP
  clear hs
  have HW := Lib.hid (Below.refl w2.heap.size w2)
  have ka := KA.out; have z0 := ka.cell 0; have z1 := ka.cell 1; have z2 := ka.cell 2; have z3 := ka.cell 3; simp at z0 z1 z2 z3; clear ka
  go_upto_region 3 with (first | (go_at_call 20; ((with_reducible refine (CPR.out).mono ?_)); rintro e w3 ⟨rfl, hb⟩; replace HW := Lib.hid (HW.out.trans (hb.mono HW.out.size)); clear hb z0 z1 z2 z3) | (go_at_call 10; ((with_reducible refine (CSP.out s _ (HB.out.trans (HW.out.mono HB.out.size)) HP.out).mono ?_)); rintro e w4 ⟨t, bs, rfl, k1, k2, k3, hb⟩; have HK := Lib.hid (And.intro k1 (And.intro k2 k3)); replace HW := Lib.hid (HW.out.trans (hb.mono HW.out.size)); clear hb k1 k2 k3))
  have hq : t.size ≤ 8192 ∧ Sx.parse t.data.toList = (x, 0, 0) := by
    have h := HK.out
    rw [HS.out] at h
    exact HV.out.spaced h.1 h.2.1 h.2.2
  obtain ⟨ht, hpa⟩ := hq
  have CP1 := Lib.hid (CP.out t x w4 (HB.out.trans (HW.out.mono HB.out.size)) (by omega) hpa)
  clear hpa HK
  go_upto_region 4 with (go_at_call 13; ((with_reducible refine (CP1.out).mono ?_)); rintro e w5 ⟨A3, c3, B3, d3, C3, f3, nk3, nl3, nr3, rfl, hr, hb⟩; have HR2 := Lib.hid hr; replace HW := Lib.hid (HW.out.trans (hb.mono HW.out.size)); clear hb hr)
  have HB1 := Lib.hid ((Below.refl w5.heap.size w5).alloc (Nat.le_refl _) (.cells #[.int .i64 x.1, .slice A3 nk3 c3, .slice B3 nl3 d3, .slice C3 nr3 f3] 28))
  have KB := Lib.hid (Blk.new w5 28 #[.int .i64 x.1, .slice A3 nk3 c3, .slice B3 nl3 d3, .slice C3 nr3 f3])
  replace HR2 := Lib.hid (Mem.keep HR2.out (Chg.of_below HB1.out))
  replace HW := Lib.hid (HW.out.trans (HB1.out.mono HW.out.size))
  clear HB1
  obtain ⟨N2, hN2⟩ : ∃ n, w5.heap.size = n := ⟨_, rfl⟩
  generalize w5.alloc (.cells #[.int .i64 x.1, .slice A3 nk3 c3, .slice B3 nl3 d3, .slice C3 nr3 f3] 28) = w6 at *
  rw [hN2] at KB
  (try rw [hN2])
  clear hN2
  replace KA := Lib.hid (KA.out.below HW.out KA.out.lt)
  have HX := Lib.hid (Below.refl w6.heap.size w6)
  have CV := Lib.hid (CVA.out w6 HW.out)
  have CS := Lib.hid (fun (W : World) (hb : Below w6.heap.size w6 W) => same_schemas x x _ _ W (Mem.keep HR.out (Chg.of_below (HW.out.trans (hb.mono HW.out.size)))) (Mem.keep HR2.out (Chg.of_below hb)))
  rw [(Sx.sameX_iff x x).2 rfl] at CS
  have ka := KA.out; have z0 := ka.cell 0; have z1 := ka.cell 1; have z2 := ka.cell 2; have z3 := ka.cell 3; simp at z0 z1 z2 z3; clear ka
  go_upto_region 6 with (go_at_call 21; ((with_reducible refine (CV.out).mono ?_)); rintro e w7 ⟨rfl, hb⟩; replace HX := Lib.hid (HX.out.trans (hb.mono HX.out.size)); clear hb z0 z1 z2 z3)
  replace KA := Lib.hid (KA.out.below HX.out KA.out.lt)
  replace KB := Lib.hid (KB.out.below HX.out KB.out.lt)
  have ka := KA.out; have z0 := ka.cell 0; have z1 := ka.cell 1; have z2 := ka.cell 2; have z3 := ka.cell 3; simp at z0 z1 z2 z3; clear ka
  have kb := KB.out; have y0 := kb.cell 0; have y1 := kb.cell 1; have y2 := kb.cell 2; have y3 := kb.cell 3; simp at y0 y1 y2 y3; clear kb
  have CS1 := Lib.hid (CS.out w7 HX.out)
  go_wp2_with (first | (go_at_call 22; ((with_reducible refine (CS1.out).mono ?_)); rintro e w8 ⟨rfl, hb⟩; replace HX := Lib.hid (HX.out.trans (hb.mono HX.out.size)); clear hb) | (go_at_call 16; ((with_reducible refine (CL.out _ (HB.out.trans ((HW.out.trans (HX.out.mono HW.out.size)).mono HB.out.size))).mono ?_)); rintro e w9 ⟨rfl, hb⟩; replace HX := Lib.hid (HX.out.trans (hb.mono HX.out.size)); clear hb))
  go_ret
  exact ⟨rfl, HB.out.trans ((HW.out.trans (HX.out.mono HW.out.size)).mono HB.out.size)⟩
end Go.Proofs.YtmplaikgbeeikaaGreatDoor
namespace Go.Proofs.YtmplaikgbeeikaaGreatDoor
open Go Go.ChangeShapes Go.WideShapes Go.ChangeAt Go.RowKit
theorem own : ownKnob Tryz.prog.godebug = none := by kernel_rfl
theorem gPowS : Tryz.prog.globalNamed "internal/strconv.uint64pow10" = some 5 := by kernel_rfl
theorem gB64S : Tryz.prog.globalNamed "math/bits.deBruijn64tab" = some 8 := by kernel_rfl
theorem gWordsS : Tryz.prog.globalNamed "diorama/schema.words" = some 0 := by kernel_rfl
theorem tPow : (Tryz.prog.globals[5]?).map (·.type) = some 213 := by kernel_rfl
theorem tWords : (Tryz.prog.globals[0]?).map (·.type) = some 129 := by kernel_rfl
theorem tSyn : (Tryz.prog.globals[1]?).map (·.type) = some 124 := by kernel_rfl
theorem tRng : (Tryz.prog.globals[2]?).map (·.type) = some 124 := by kernel_rfl
theorem rowErr (u : TypeId) (h : Tryz.prog.typeName? 3 u = some "*errors.errorString") : u = 196 :=
  typeName_ptr_named (nm := "errors.errorString") (by rw [show ("*" ++ "errors.errorString" : String) = "*errors.errorString" from by decide]; kernel_rfl) (by kernel_rfl) (by decide) u (by rw [show ("*" ++ "errors.errorString" : String) = "*errors.errorString" from by decide]; exact h)
/-- The list of the library's variables, the same on every row. -/
abbrev laidAll : List (String × DataW Unit) := Rows.schemaBeginningsRow.laid
/-- An array of texts that reads as the list holds the list's texts, cell for cell. -/
theorem cells_of_strs {H : Type} {enc : TypeId × Value → H} {P : Program} {w : World} {base : Nat} {sp : Nat → Bool} {held : Bool} {fuel : Nat} {t e : TypeId} {n : Nat} {cs : List Value} {zs : List (List UInt8)} {p : List MemPlace}
    (ht : P.underlying t = some (.array n e)) (he : P.underlying e = some .string) (hce : P.cellsOf e = 1) (hct : P.cellsOf t = n)
    (h : DataW.trod enc P w base sp held fuel t cs = some (.agg (zs.map fun z => .lit (.string z)), p)) : cs = zs.map fun z => Value.string (Sx.ofT z) := by
  cases fuel with
  | zero => simp [DataW.trod] at h
  | succ fuel =>
    simp only [DataW.trod, ht, hce, hct, Nat.mul_one] at h
    split at h
    · rename_i hl
      obtain ⟨xs, hm, hx⟩ := Option.map_eq_some_iff.1 h
      have hxs : xs.map (·.1) = zs.map fun z => (DataW.lit (.string z) : DataW H) := by
        have := congrArg Prod.fst hx
        simpa using this
      have hxl : xs.length = n := by simpa using Lib.mapM_length hm
      have hzl : zs.length = n := by
        have := congrArg List.length hxs
        simp at this
        omega
      apply List.ext_getElem?
      intro i
      by_cases hi : i < n
      · obtain ⟨b, hb, hf⟩ := Lib.mapM_at hm i i (by simp [hi])
        obtain ⟨z, hc, rfl, _⟩ := DataW.trod_string he hf
        have h1 : cs[i]? = some (.string z) := by
          have := congrArg (·[0]?) hc
          simpa [List.getElem?_take, List.getElem?_drop] using this
        have h2 : (xs.map (·.1))[i]? = some (DataW.lit (.string z.data.toList) : DataW H) := by simp [hb]
        rw [hxs] at h2
        simp only [List.getElem?_map, Option.map_eq_some_iff, DataW.lit.injEq, Lit.string.injEq] at h2
        obtain ⟨z', hz', h3⟩ := h2
        rw [h1, List.getElem?_map, hz']
        have : Sx.ofT z' = z := by rw [h3]; unfold Sx.ofT; simp
        rw [← this]; rfl
      · rw [List.getElem?_eq_none (by omega), List.getElem?_eq_none (by simp; omega)]
    · cases h
theorem size_of_var {P : Program} {w : World} {n : String} {g : Nat} {cs : Array Value} (hg : P.globalNamed n = some g) (h : w.var? P n = some cs) : g < w.heap.size := by
  unfold World.var? at h
  rw [hg] at h
  rcases Nat.lt_or_ge g w.heap.size with h' | h'
  · exact h'
  · simp [Array.getElem?_eq_none h'] at h
theorem senv_of_laid {W : World} (hL : laidMetH Tryz.prog laidAll W) : SEnv W := by
  have h : laidMet Tryz.prog laidAll W := hL
  have h2 := h.tail
  have h3 := h2.tail
  have h4 := h3.tail
  have h5 := h4.tail
  have h6 := h5.tail
  have h7 := h6.tail
  obtain ⟨a1, s1, hv1, _⟩ := laid_sentinel h5 gRng tRng Tryz.underlying124 rowErr Tryz.underlying196 Tryz.underlying198 rfl rfl Tryz.underlying9 (by kernel_rfl) (by kernel_rfl)
  obtain ⟨a0, s0, hv0, _⟩ := laid_sentinel h6 gSyn tSyn Tryz.underlying124 rowErr Tryz.underlying196 Tryz.underlying198 rfl rfl Tryz.underlying9 (by kernel_rfl) (by kernel_rfl)
  have hT : Lib.TabIs Tryz.prog W "internal/strconv.uint64pow10" .u64 Lib.pow10Tab := Lib.tabIs_of_head gPowS tPow Tryz.underlying213 Tryz.underlying183 (by kernel_rfl) (by kernel_rfl) h3
  have hp : 5 < W.heap.size := by
    unfold Lib.TabIs at hT
    exact size_of_var gPowS hT
  obtain ⟨_, ⟨g4, t4, cs, _, _, _, hg4, ht4, hv4, hd, _⟩, _⟩ := h7
  obtain rfl := Option.some.inj (gWordsS.symm.trans hg4)
  obtain rfl := Option.some.inj (tWords.symm.trans ht4)
  have hcs := cells_of_strs (zs := Sx.wordsL) Tryz.underlying129 Tryz.underlying9 (by kernel_rfl) (by kernel_rfl) hd
  have hs := size_of_var gSyn hv0
  have hr := size_of_var gRng hv1
  have hw := size_of_var gWordsS hv4
  refine ⟨⟨hT, hp⟩, ⟨_, _, hv0⟩, ⟨_, _, hv1⟩, fun k hk => ?_, ?_⟩
  · rw [World.var?_cell gWordsS hv4 k, ← Array.getElem?_toList, hcs]
    rw [List.getElem?_map, List.getElem?_eq_getElem (show k < Sx.wordsL.length from hk)]
    unfold wdS
    rw [List.getD_eq_getElem?_getD, List.getElem?_eq_getElem (show k < Sx.wordsL.length from hk)]
    rfl
  · obtain ⟨_, ⟨g5, _, _, _, _, _, hg5, _, hv5, _⟩, _⟩ := h2
    obtain rfl := Option.some.inj (gB64S.symm.trans hg5)
    exact Nat.lt_of_le_of_lt (by decide) (size_of_var gB64S hv5)
theorem laid_met (os : Os) (args : Array Value) : laidMet Tryz.prog laidAll ((World.laidAll Tryz.prog os laidAll).forCall (fun _ _ => 0) ⟨#[], args, []⟩).memory :=
  laidMet_laidAll args (by kernel_rfl) (by kernel_rfl)
section
variable {H : Type} {enc : TypeId × Value → H} {P : Program}
/-- A call that left everything that stood as it was, answers with plain results, and has no variables to tell of. -/
theorem post_low {f : Func} {s : ChangeSpec} {apart fresh handsOn again : Bool} {W W' : World} {args : Array Value} {v : Value} {ds gs : List (DataW H)} {before : List MemPlace}
    (hW : DataW.Whole enc P f.params.toList s.vars apart W args.toList ds gs before) (hb : Below W.heap.size W W')
    (hres : ∀ (b : Nat) (sp : Nat → Bool) (hd : Bool), DataW.TrodAll enc P W' b sp hd f.resultTypes.toList (v.resultList f.resultTypes.size) (s.fn H (ds ++ gs)).results [])
    (hargs : ∀ sp : Nat → Bool, (∀ p ∈ before, sp p.block = true) → DataW.TrodAll enc P W' 0 sp true f.params.toList args.toList (s.fn H (ds ++ gs)).args before)
    (hvars : ∀ sp : Nat → Bool, DataW.TrodVars enc P W' sp s.vars (s.fn H (ds ++ gs)).vars [])
    (hok : ∀ (j : Nat) (t : TypeId) (r : Value), f.resultTypes[j]? = some t → (v.resultList f.resultTypes.size)[j]? = some r → Value.okWide P W' .any 0 t r) :
    s.post enc P f apart fresh handsOn again W args v W' := by
  have hold : ∀ p ∈ before, (fun b => decide (b < W.heap.size)) p.block = true := fun p hp => decide_eq_true (hW.lt p hp)
  have hz2 := hW
  obtain ⟨_, _, _, _, _, hz, hn⟩ := hz2
  have hwhole : DataW.TrodAll enc P W' 0 (fun _ => true) true f.params.toList args.toList (s.fn H (ds ++ gs)).args before := hargs _ (fun _ _ => rfl)
  refine ⟨ds, gs, before, [], before, [], hW, hres _ _ _, hargs _ hold, hvars _, World.keptBut_mono (fun p hp => ⟨hp, .inr (.inl hp)⟩) (hb.frame (· ∈ before)), fun _ => ?_⟩
  refine ⟨hok, _, _, ([] ++ before) ++ [], ⟨[] ++ before, [], trodAll_append hwhole (hres _ _ _), hvars _, rfl, ?_, ?_⟩, ?_⟩
  · intro b off hp
    have hin : MemPlace.cell b off ∈ before := by simpa using hp
    rw [hb.frozen (hW.lt _ hin)]
    exact hz b off hin
  · intro ha
    have := hn ha
    simpa using this
  · intro p hp _
    simpa using hp
end
theorem laidOut : laidOutB Tryz.prog = true := by kernel_rfl
section
variable {H : Type} {enc : TypeId × Value → H} {P : Program}
theorem trodAll_stays (hl : laidOutB P = true) {W W' : World} {sp : Nat → Bool} : ∀ (ts : List TypeId) (vs : List Value) (ds : List (DataW H)) (ps : List MemPlace),
    (ts.all fun t => P.readableRec t && decide (t < P.types.size)) = true → DataW.TrodAll enc P W 0 (fun _ => true) true ts vs ds ps → (∀ p ∈ ps, W.sameAt W' p) → (∀ p ∈ ps, sp p.block = true) → DataW.TrodAll enc P W' 0 sp true ts vs ds ps
  | [], vs, ds, ps, _, h, _, _ => by
    match vs, ds, h with
    | [], [], h => exact h
  | t :: ts, vs, ds, ps, ht, h, hs, hp => by
    obtain ⟨v, vs', d, ds', p, q, rfl, rfl, rfl, h1, h2⟩ := trodAll_cons h
    simp only [List.all_cons, Bool.and_eq_true, decide_eq_true_eq] at ht
    exact trodAll_cons_mk (WideElems.Trod_stays hl ht.1.1 ht.1.2 h1 (fun x hx => hs x (List.mem_append_left _ hx)) (fun x hx => hp x (List.mem_append_left _ hx)))
      (trodAll_stays hl ts vs' ds' q ht.2 h2 (fun x hx => hs x (List.mem_append_right _ hx)) (fun x hx => hp x (List.mem_append_right _ hx)))
/-- A law that says true, and leaves what it was handed as it was. -/
theorem post_law {f : Func} {s : ChangeSpec} {apart fresh handsOn again : Bool} {W W' : World} {args : Array Value} {ds : List (DataW H)} {before : List MemPlace} {tb : TypeId}
    (hl : laidOutB P = true) (hts : (f.params.toList.all fun t => P.readableRec t && decide (t < P.types.size)) = true) (hr : f.resultTypes = #[tb]) (htb : P.underlying tb = some .bool)
    (hW : DataW.Whole enc P f.params.toList s.vars apart W args.toList ds [] before) (hb : Below W.heap.size W W') (hv : s.vars = [])
    (hs : s.fn H ds = { results := [.lit (.bool true)], args := ds }) : s.post enc P f apart fresh handsOn again W args (.bool true) W' := by
  have hW0 := hW
  obtain ⟨p, q, hA, hV, hpq, hz, hn⟩ := hW
  have hq : q = [] := by rw [hv] at hV; exact (trodVars_none hV).2
  have hA' : DataW.TrodAll enc P W 0 (fun _ => true) true f.params.toList args.toList ds before := by
    have e : before = p := by rw [hpq, hq, List.append_nil]
    rw [e]; exact hA
  refine post_low hW0 hb ?_ ?_ ?_ (ok_one hr rfl (okWide_bool_mk htb _))
  · intro b sp hd
    rw [List.append_nil, hs]
    show DataW.TrodAll enc P W' b sp hd f.resultTypes.toList ((Value.bool true).resultList f.resultTypes.size) [.lit (.bool true)] []
    rw [hr]
    exact trodAll_cons_mk (shut_bool htb _) trodAll_mk0
  · intro sp hsp
    rw [List.append_nil, hs]
    exact trodAll_stays hl _ _ _ _ hts hA' (fun x hx => hb.same (hW0.lt x hx)) hsp
  · intro sp
    rw [List.append_nil, hs, hv]
    rfl
end
theorem inI_of_wf {x : Int} (h : (Lit.int .i64 x).wf = true) : inI x := by
  have h2 : -9223372036854775808 ≤ x ∧ x ≤ 9223372036854775807 := by
    simp [Lit.wf, IntKind.min, IntKind.max, IntKind.signed, IntKind.bits] at h
    omega
  exact h2
section
variable {H : Type} {enc : TypeId × Value → H} {P : Program} {W : World} {t e : TypeId} {v : Value} {d : DataW H} {ps : List MemPlace} {b0 : Nat}
theorem arg_ints (ht : P.underlying t = some (.slice e)) (he : P.underlying e = some (.int .i64)) (hc : P.cellsOf e = 1) (hv : Value.okWide P W .any b0 t v)
    (h : DataW.Trod enc P W 0 (fun _ => true) true t v d ps) (hlt : ∀ p ∈ ps, p.block < W.heap.size) : ∃ A n c L, v = .slice A n c ∧ Ints W W.heap.size A n L ∧ AllI L ∧ n ≤ 9223372036854775807 := by
  obtain ⟨A, n, c, rfl⟩ := okWide_slice ht hv
  obtain ⟨fuel, hf⟩ := h
  rcases open_ints ht he hc hf with ⟨hcs, _⟩ | ⟨a, len, cap, zs, hcs, _, hl, hm, hz, hx, hcell, hw⟩
  · simp [Value.cells] at hcs
    obtain ⟨rfl, rfl, rfl⟩ := hcs
    exact ⟨none, 0, 0, [], rfl, Ints.nil, fun _ h => (by cases h), by omega⟩
  · simp [Value.cells] at hcs
    obtain ⟨rfl, rfl, rfl⟩ := hcs
    simp only [Prod.mk.injEq] at hx
    obtain ⟨rfl, rfl⟩ := hx
    simp only [if_true] at hz
    have hL : (zs.take n).length = n := by rw [List.length_take]; omega
    refine ⟨some a, n, c, zs.take n, rfl, ⟨by simp [intVals]; omega, fun hn => ⟨a, rfl, hlt (.cell a.block a.off) (MemPlace.mem_row.2 ⟨0, by omega, by simp⟩), fun j u hu => ?_⟩⟩, fun x hx => inI_of_wf (hw x (List.mem_of_mem_take hx)), by unfold maxLen at hm; omega⟩
    have hj : j < n := by
      have := (List.getElem?_eq_some_iff.1 hu).1
      simp [intVals] at this; omega
    rw [intVals_get (by omega)] at hu
    obtain rfl := Option.some.inj hu
    rw [hcell j (by omega)]
    simp [List.getD, hj]
end
theorem ints_sl {W : World} {A : Option Addr} {n : Nat} {L : List Int} (h : Ints W W.heap.size A n L) (hL : AllI L) : SlAt [] W A L := by
  rcases Nat.eq_zero_or_pos n with hn | hn
  · have := h.len
    rw [hn] at this
    exact .inl (List.eq_nil_of_length_eq_zero this)
  · obtain ⟨b, off, rfl, hb, hc⟩ := h.form hn
    refine .inr ⟨b, off, rfl, hb, (fun h => by cases h), fun i hi => ⟨[.int .i64 L[i]], ⟨rfl, hL _ (List.getElem_mem hi)⟩, fun j u hu => ?_⟩⟩
    match j, hu with
    | 0, hu =>
      obtain rfl := Option.some.inj hu
      have := hc i hi
      rw [show i * Mem.sz Int + 0 = i from Nat.mul_one i, this]
      simp [List.getD, List.getElem?_eq_getElem hi]
/-- A slice of ints that was handed in. -/
theorem arg_sl {H : Type} {enc : TypeId × Value → H} {P : Program} {W : World} {t e : TypeId} {v : Value} {d : DataW H} {ps : List MemPlace} {b0 : Nat} (ht : P.underlying t = some (.slice e)) (he : P.underlying e = some (.int .i64)) (hc : P.cellsOf e = 1) (hv : Value.okWide P W .any b0 t v)
    (h : DataW.Trod enc P W 0 (fun _ => true) true t v d ps) (hlt : ∀ p ∈ ps, p.block < W.heap.size) : ∃ (A : Option Addr) (c : Nat) (L : List Int), v = .slice A L.length c ∧ SlAt [] W A L ∧ L.length ≤ c ∧ c ≤ 9223372036854775807 := by
  obtain ⟨A, n, c, L, rfl, hI, hA, hn⟩ := arg_ints ht he hc hv h hlt
  have hb : n ≤ c ∧ c ≤ 9223372036854775807 := by
    obtain ⟨fuel, hf⟩ := h
    rcases open_ints ht he hc hf with ⟨hcs, _⟩ | ⟨a, len, cap, zs, hcs, _, hl, hm, _⟩
    · simp [Value.cells] at hcs
      omega
    · simp [Value.cells] at hcs
      unfold maxLen at hm
      omega
  exact ⟨A, c, L, by rw [hI.len], ints_sl hI hA, by rw [hI.len]; exact hb.1, hb.2⟩
end Go.Proofs.YtmplaikgbeeikaaGreatDoor
