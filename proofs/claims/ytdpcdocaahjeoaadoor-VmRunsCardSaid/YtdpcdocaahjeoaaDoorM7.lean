/- Words, Numbers, Decimal, Print of the reference. -/
import Derived.Test.YtdpcdocaahjeoaaDoorBld
namespace Go.Proofs.YtdpcdocaahjeoaaDoor
open Go Go.RowKit
def wordS (op : Nat) : ByteArray := str (Vm.wordsL.getD op [])
def WSTR : Array Value := #[.string (wordS 0), .string (wordS 1), .string (wordS 2), .string (wordS 3), .string (wordS 4), .string (wordS 5), .string (wordS 6), .string (wordS 7), .string (wordS 8)]
theorem wstr_get (op : Nat) (h : op < 9) : WSTR[op]? = some (.string (wordS op)) := by
  have : op = 0 ∨ op = 1 ∨ op = 2 ∨ op = 3 ∨ op = 4 ∨ op = 5 ∨ op = 6 ∨ op = 7 ∨ op = 8 := by omega
  rcases this with rfl | rfl | rfl | rfl | rfl | rfl | rfl | rfl | rfl <;> rfl
theorem words_any (w : World) : Calls Tryd.prog 51 #[] w (NewSl 9 9 WSTR w) := by
  go_enter Tryd.func51, Tryd.ntmps51
  go_wp2_with fail
  go_ret
  exact ⟨_, rfl, Nat.le_refl _, Blk.new _ _ _, (Below.refl _ _).alloc (Nat.le_refl _) _⟩
set_option maxHeartbeats 1000000 in
theorem rNumbers_any (op a b c : Int) (w : World) : Calls Tryd.prog 53 #[.agg #[.int .i64 op, .int .i64 a, .int .i64 b, .int .i64 c]] w (NewSl 3 3 #[.int .i64 a, .int .i64 b, .int .i64 c] w) := by
  go_enter Tryd.func53, Tryd.ntmps53
  go_wp2_with fail
  go_ret
  exact ⟨_, rfl, by simp, blk_new (by simp), ((Below.refl _ _).alloc (Nat.le_refl _) _).alloc (by simp) _⟩
theorem digit_byte (q : Nat) : ((UInt8.ofNat (48 + q % 10)).toNat : Int) = 48 + ↑q % 10 := by
  rw [UInt8.toNat_ofNat']; omega
/-- One byte in a block of its own. -/
def SlB (b : UInt8) (v : Value) (w : World) : Prop := w.ownsRow 0 5 1 v 1 (byteVals [b])
theorem slB_kept (b : UInt8) : Kept (SlB b) := fun _ _ _ h hb => own_below h hb
set_option maxRecDepth 100000 in
set_option maxHeartbeats 4000000 in
theorem rDecN_any (u : Nat) (w : World) (h : u < 10000000000) : Calls Tryd.prog 52 #[.int .i64 (u : Int)] w fun e w' => e = .returned (.string ⟨(Lib.decDigits u).toArray⟩) ∧ Below w.heap.size w w' := by
  induction u using Nat.strongRecOn generalizing w with
  | _ u ih =>
    by_cases h10 : u < 10
    · have b1 : decide ((u : Int) < 10) = true := by simp; omega
      have b0 : decide ((u : Int) < 0) = false := decide_eq_false (by omega)
      obtain ⟨b, hb⟩ : ∃ b, UInt8.ofNat (48 + u) = b := ⟨_, rfl⟩
      have hd := Lib.hid (show Lib.decDigits u = [b] by rw [Lib.decDigits, dif_pos h10, hb])
      have hown := own_lit (w := w) (base := w.heap.size) (e := 5) (.int .u8 (48 + (u : Int))) (Nat.le_refl _)
      have hcv := run_str_own (P := Tryd.prog) (w.alloc (.cells #[.int .u8 (48 + (u : Int))] 5)) 63 9 5 Tryd.underlying63 Tryd.underlying5 Tryd.underlying9 (l := [b]) (by
        have e : byteVals [b] = [.int .u8 (48 + (u : Int))] := by
          have := digit_byte u
          rw [Nat.mod_eq_of_lt h10, hb] at this
          simp only [byteVals, List.map_cons, List.map_nil]
          rw [this]; congr 2; omega
        rw [e]; exact hown)
      clear ih hown hb
      go_enter Tryd.func52, Tryd.ntmps52
      go_wp2
      go_ret
      exact ⟨by rw [hd.out]; rfl, (Below.refl _ _).alloc (Nat.le_refl _) _⟩
    · have b1 : decide ((u : Int) < 10) = false := by simp; omega
      have b0 : decide ((u : Int) < 0) = false := decide_eq_false (by omega)
      obtain ⟨q, hq⟩ : ∃ q, u / 10 = q := ⟨_, rfl⟩
      obtain ⟨b, hb⟩ : ∃ b, UInt8.ofNat (48 + u % 10) = b := ⟨_, rfl⟩
      have hd := Lib.hid (show Lib.decDigits u = Lib.decDigits q ++ [b] by rw [Lib.decDigits, dif_neg h10, hb, hq])
      obtain ⟨C, hC⟩ : ∃ C, 48 + (u : Int) % 10 = C := ⟨_, rfl⟩
      have hCb : (b.toNat : Int) = C := by have := digit_byte u; rw [hb] at this; omega
      have wC : IntKind.u8.wrap C = C := by
        have : 0 ≤ C ∧ C ≤ 255 := by omega
        simp only [IntKind.wrap, IntKind.signed, IntKind.bits]; simp; omega
      have wC2 : IntKind.i64.wrap C = C := wrapI (by unfold inI; omega)
      have hq1 : (u : Int).tdiv 10 = (q : Int) := by rw [Int.tdiv_eq_ediv_of_nonneg (by omega)]; omega
      have hq2 : (u : Int) / 10 = (q : Int) := by omega
      have hq3 : (u : Int).tmod 10 = (u : Int) % 10 := Int.tmod_eq_emod_of_nonneg (by omega)
      have wq : IntKind.i64.wrap (q : Int) = q := wrapI (by unfold inI; omega)
      have cr := fun w => ih q (by omega) w (by omega)
      obtain ⟨t, ht⟩ : ∃ t : ByteArray, (⟨(Lib.decDigits q).toArray⟩ : ByteArray) = t := ⟨_, rfl⟩
      rw [ht] at cr
      have CR := Lib.hid cr
      have HT := Lib.hid ht
      have hts : t.size ≤ 10 := by rw [← ht]; exact Dc.decDigits_len q (by omega)
      have hts2 : t.size + 1 < 9223372036854775808 := by omega
      clear cr ih hb hq h ht
      go_enter Tryd.func52, Tryd.ntmps52
      go_wp2
      apply wp_region_typed (C := fun w' => Below w.heap.size w w') (n := 26) (m := 11) (l1 := [_, _, _, _, _, _, _, _, _, _, _]) (l2 := [])
      · rfl
      · rfl
      · kernel_rfl
      · rfl
      · kernel_rfl
      · exact ⟨rfl, rfl, rfl, Nat.le_refl _, fun _ _ => rfl⟩
      · exact fun u u' h hb => h.trans (hb.mono h.size)
      (apply wpT_exact; · (intro w' hC hf; unfold Gives; clear hf hC; go_wp2_with (fail); apply postT_val rfl (Below.refl _ _); simp only [valAt, Array.getD_eq_getD_getElem?, List.getElem?_toArray, List.getElem?_cons_succ, List.getElem?_cons_zero, Option.getD_some]; exact rfl)); (try simp only [Act.put, List.setIfInBounds_toArray, List.set_cons_zero, List.set_cons_succ])
      (apply wpT_exact; · (intro w' hC hf; unfold Gives; clear hf hC; go_wp2_with (fail); apply postT_val rfl (Below.refl _ _); simp only [valAt, Array.getD_eq_getD_getElem?, List.getElem?_toArray, List.getElem?_cons_succ, List.getElem?_cons_zero, Option.getD_some]; exact rfl)); (try simp only [Act.put, List.setIfInBounds_toArray, List.set_cons_zero, List.set_cons_succ])
      (apply wpT_exact; · (intro w' hC hf; unfold Gives; clear hf hC; go_wp2_with (first | (go_at_call 52; ((with_reducible refine (CR.out _).mono ?_)); rintro e w2 ⟨rfl, hb2⟩)); apply postT_val rfl (by first | exact Below.refl _ _ | assumption); simp only [valAt, Array.getD_eq_getD_getElem?, List.getElem?_toArray, List.getElem?_cons_succ, List.getElem?_cons_zero, Option.getD_some]; exact rfl)); (try simp only [Act.put, List.setIfInBounds_toArray, List.set_cons_zero, List.set_cons_succ])
      (apply wpT_exact; · (intro w' hC hf; unfold Gives; clear hf hC; go_wp2_with (fail); apply postT_val rfl (Below.refl _ _); simp only [valAt, Array.getD_eq_getD_getElem?, List.getElem?_toArray, List.getElem?_cons_succ, List.getElem?_cons_zero, Option.getD_some]; exact rfl)); (try simp only [Act.put, List.setIfInBounds_toArray, List.set_cons_zero, List.set_cons_succ])
      (apply wpT_exact; · (intro w' hC hf; unfold Gives; clear hf hC; go_wp2_with (fail); apply postT_val rfl (Below.refl _ _); simp only [valAt, Array.getD_eq_getD_getElem?, List.getElem?_toArray, List.getElem?_cons_succ, List.getElem?_cons_zero, Option.getD_some]; exact rfl)); (try simp only [Act.put, List.setIfInBounds_toArray, List.set_cons_zero, List.set_cons_succ])
      (apply wpT_exact; · (intro w' hC hf; unfold Gives; clear hf hC; go_wp2_with (fail); apply postT_val rfl (Below.refl _ _); simp only [valAt, Array.getD_eq_getD_getElem?, List.getElem?_toArray, List.getElem?_cons_succ, List.getElem?_cons_zero, Option.getD_some]; exact rfl)); (try simp only [Act.put, List.setIfInBounds_toArray, List.set_cons_zero, List.set_cons_succ])
      (apply wpT_exact; · (intro w' hC hf; unfold Gives; clear hf hC; go_wp2_with (fail); apply postT_val rfl (Below.refl _ _); simp only [valAt, Array.getD_eq_getD_getElem?, List.getElem?_toArray, List.getElem?_cons_succ, List.getElem?_cons_zero, Option.getD_some]; exact rfl)); (try simp only [Act.put, List.setIfInBounds_toArray, List.set_cons_zero, List.set_cons_succ])
      apply wpT_typed (slB_kept b)
      · intro w' hC hf; unfold Gives; clear hf hC; go_wp2; apply postT_mk rfl (by go_grown); simp only [valAt, Array.getD_eq_getD_getElem?, List.getElem?_toArray, List.getElem?_cons_succ, List.getElem?_cons_zero, Option.getD_some]
        have := own_lit (w := w') (base := 0) (e := 5) (.int .u8 C) (Nat.zero_le _)
        unfold SlB
        simp only [byteVals, List.map_cons, List.map_nil, hCb]
        exact this
      intro v7; (try simp only [Act.put, List.setIfInBounds_toArray, List.set_cons_zero, List.set_cons_succ])
      apply wpT_exact
      · intro w' hC hf; unfold Gives
        have hcv := run_str_own (P := Tryd.prog) w' 63 9 5 Tryd.underlying63 Tryd.underlying5 Tryd.underlying9 (hf.1 rfl)
        clear hf hC; go_wp2_with fail; apply postT_val rfl (Below.refl _ _); simp only [valAt, Array.getD_eq_getD_getElem?, List.getElem?_toArray, List.getElem?_cons_succ, List.getElem?_cons_zero, Option.getD_some]; exact rfl
      (try simp only [Act.put, List.setIfInBounds_toArray, List.set_cons_zero, List.set_cons_succ])
      (apply wpT_exact; · (intro w' hC hf; unfold Gives; clear hf hC; go_wp2_with (fail); apply postT_val rfl (Below.refl _ _); simp only [valAt, Array.getD_eq_getD_getElem?, List.getElem?_toArray, List.getElem?_cons_succ, List.getElem?_cons_zero, Option.getD_some]; exact rfl)); (try simp only [Act.put, List.setIfInBounds_toArray, List.set_cons_zero, List.set_cons_succ])
      (apply wpT_exact; · (intro w' hC hf; unfold Gives; clear hf hC; go_wp2_with (fail); apply postT_val rfl (Below.refl _ _); simp only [valAt, Array.getD_eq_getD_getElem?, List.getElem?_toArray, List.getElem?_cons_succ, List.getElem?_cons_zero, Option.getD_some]; exact rfl)); (try simp only [Act.put, List.setIfInBounds_toArray, List.set_cons_zero, List.set_cons_succ])
      apply wpT_done
      intro w3 hC _
      go_wp2
      go_ret
      refine ⟨?_, hC⟩
      show Ending.returned (.string (t ++ (⟨#[b]⟩ : ByteArray))) = _
      have e : t ++ (⟨#[b]⟩ : ByteArray) = ⟨(Lib.decDigits q ++ [b]).toArray⟩ := by
        apply ByteArray.ext
        rw [ByteArray.data_append, ← HT.out]
        simp
      rw [hd.out, e]
theorem itoa_nat (u : Nat) : Lib.itoa (u : Int) = Lib.decDigits u := by unfold Lib.itoa; rw [if_neg (by omega)]; simp
theorem itoa_neg (u : Nat) (h : 0 < u) : Lib.itoa (-(u : Int)) = 45 :: Lib.decDigits u := by unfold Lib.itoa; rw [if_pos (by omega)]; simp
set_option maxHeartbeats 1000000 in
theorem decimal_any (n : Int) (w : World) (h : n.natAbs < 10000000000) : Calls Tryd.prog 52 #[.int .i64 n] w fun e w' => e = .returned (.string ⟨(Lib.itoa n).toArray⟩) ∧ Below w.heap.size w w' := by
  by_cases h0 : n < 0
  · obtain ⟨u, hu⟩ : ∃ u : Nat, n = -(u : Int) := ⟨n.natAbs, by omega⟩
    subst hu
    have hu0 : 0 < u := by omega
    have d0 : decide (-(u : Int) < 0) = true := decide_eq_true (by omega)
    have CR := Lib.hid (fun w => rDecN_any u w (by omega))
    have HV := Lib.hid (itoa_neg u hu0)
    have hlen := Dc.decDigits_len u (by omega)
    obtain ⟨t, ht⟩ : ∃ t : ByteArray, (⟨(Lib.decDigits u).toArray⟩ : ByteArray) = t := ⟨_, rfl⟩
    rw [ht] at CR
    have HT := Lib.hid ht
    have hts : t.size ≤ 10 := by rw [← ht]; exact hlen
    have hneg : IntKind.i64.wrap (- -(u : Int)) = (u : Int) := by rw [Int.neg_neg]; exact wrapI (by unfold inI; omega)
    clear ht hlen
    go_enter Tryd.func52, Tryd.ntmps52
    go_wp2_with (go_at_call 52; ((with_reducible refine (CR.out _).mono ?_)); rintro e w2 ⟨rfl, hb2⟩; have HB := Lib.hid hb2; clear hb2)
    go_ret
    refine ⟨?_, HB.out⟩
    rw [HV.out, ← HT.out]
    rfl
  · obtain ⟨u, rfl⟩ := Int.eq_ofNat_of_zero_le (show 0 ≤ n by omega)
    rw [itoa_nat]
    exact rDecN_any u w (by omega)
end Go.Proofs.YtdpcdocaahjeoaaDoor
namespace Go.Proofs.YtdpcdocaahjeoaaDoor
open Go Go.RowKit
theorem str_list (s : ByteArray) : s = ⟨s.data.toList.toArray⟩ := by apply ByteArray.ext; simp
theorem source_snoc (p : List Vm.Ins) (k : Nat) (h : k < p.length) : Vm.source (p.take k) ++ Vm.insT p[k] = Vm.source (p.take (k + 1)) := by
  rw [take_snoc' p k h]; unfold Vm.source; rw [List.map_append, List.flatten_append]; simp
theorem words_size (op : Nat) (h : op < 9) : (wordS op).size ≤ 4 := by
  match op, h with
  | 0, _ | 1, _ | 2, _ | 3, _ | 4, _ | 5, _ | 6, _ | 7, _ | 8, _ => decide
theorem wordS_list (op : Nat) : (wordS op).data.toList = Vm.wordsL.getD op [] := rfl
def piece (k : Nat) (v : Int) : List UInt8 := if k = 0 then [] else 32 :: Lib.itoa v
theorem piece_le (k : Nat) (v : Int) (h : v.natAbs < 10000000000) : (piece k v).length ≤ 12 := by
  unfold piece; split
  · simp
  · have := Dc.itoa_len v h; simp; omega
theorem insT_pieces (op : Nat) (x y z : Int) : Vm.insT ((op : Int), x, y, z) = Vm.wordsL.getD op [] ++ (piece (Vm.sortOf op 0) x ++ (piece (Vm.sortOf op 1) y ++ (piece (Vm.sortOf op 2) z ++ [10]))) := by
  unfold Vm.insT Vm.sorts3 piece
  simp [Vm.numsT]
theorem sz1 (c : UInt8) : (ByteArray.mk #[c]).size = 1 := rfl
theorem sortB_ne {k : Nat} (h : k ≠ 0) (h7 : k < 7) : ((((Vm.sortB k).toNat : Nat) : Int) != 45) = true := by
  have : k = 1 ∨ k = 2 ∨ k = 3 ∨ k = 4 ∨ k = 5 ∨ k = 6 := by omega
  rcases this with rfl | rfl | rfl | rfl | rfl | rfl <;> decide
namespace Vm
theorem all_ok {p : List Ins} (h : vld p = 0) : ∀ i ∈ p, insOk (p.length : Int) i = true := by
  unfold vld at h
  have hl : ¬ 128 < p.length := by intro hc; rw [if_pos hc] at h; cases h
  rw [if_neg hl] at h
  cases hb : p.all (insOk p.length) with
  | true => exact List.all_eq_true.1 hb
  | false => rw [hb] at h; simp at h
theorem le128 {p : List Ins} (h : vld p = 0) : p.length ≤ 128 := by
  unfold vld at h
  by_cases hl : 128 < p.length
  · rw [if_pos hl] at h; cases h
  · omega
/-- A right instruction: its operation, and its numbers are small. -/
theorem ok_open {n : Int} {op x y z : Int} (h : insOk n (op, x, y, z) = true) (hn : n ≤ 1000) : ∃ o : Nat, op = (o : Int) ∧ o < 9 ∧ (sortOf o 0 ≠ 0 → x.natAbs < 10000000) ∧ (sortOf o 1 ≠ 0 → y.natAbs < 10000000) ∧ (sortOf o 2 ≠ 0 → z.natAbs < 10000000) := by
  have hv := (ins_okV h hn).1
  unfold insOk at h
  simp only [Bool.and_eq_true, decide_eq_true_eq] at h
  obtain ⟨⟨⟨⟨h0, h8⟩, _⟩, _⟩, _⟩ := h
  obtain ⟨o, rfl⟩ := Int.eq_ofNat_of_zero_le h0
  simp only [Int.toNat_natCast, sorts3, OkV] at hv
  obtain ⟨v0, v1, v2, _⟩ := hv
  refine ⟨o, rfl, by omega, fun hk => ?_, fun hk => ?_, fun hk => ?_⟩
  · rw [if_neg hk] at v0; exact v0
  · rw [if_neg hk] at v1; exact v1
  · rw [if_neg hk] at v2; exact v2
end Vm
set_option maxRecDepth 100000 in
set_option maxHeartbeats 4000000 in
theorem rPrint_any (p : List Vm.Ins) (A : Option Addr) (c : Nat) (w : World) (hp : SlAt [] w A p) (hm : p.length ≤ 1000000) :
    Calls Tryd.prog 23 #[.slice A p.length c] w fun e w' => e = .returned (.string ⟨(Vm.print p).toArray⟩) ∧ Below w.heap.size w w' := by
  have CV := Lib.hid (rValid_any p A c w hp (by omega))
  obtain ⟨n, hn⟩ : ∃ n, p.length = n := ⟨_, rfl⟩
  obtain ⟨vv, hvv⟩ : ∃ z, Vm.vld p = z := ⟨_, rfl⟩
  rw [hvv] at CV
  have hpr : Vm.print p = if vv = 0 then Vm.source p else [] := by unfold Vm.print; rw [hvv]
  by_cases h0 : vv = 0
  · subst h0
    have hall : ∀ i ∈ p, Vm.insOk (p.length : Int) i = true := Vm.all_ok hvv
    have h128 : p.length ≤ 128 := Vm.le128 hvv
    rw [if_pos rfl] at hpr
    have HPR := Lib.hid hpr
    have HP := Lib.hid hp; have HN := Lib.hid hn; have HO := Lib.hid hall
    have CS := Lib.hid rSorts_any
    have CW := Lib.hid words_any
    rw [hn] at hm h128 CV ⊢
    clear hp hn hall hvv hpr
    go_enter Tryd.func23, Tryd.ntmps23
    go_wp2_with (go_at_call 19; ((with_reducible refine (CV.out).mono ?_)); rintro e w1 ⟨rfl, hb⟩; have HB := Lib.hid hb; clear hb)
    go_loopg [3, 4] n (fun r s i wr => ∃ (k : Nat) (t : ByteArray), k + r = n ∧ i = .int .i64 k ∧ s = .string t ∧ t.data.toList = Vm.source (p.take k) ∧ t.size ≤ 41 * k ∧ Below w.heap.size w wr)
    case atStart => exact ⟨0, _, by omega, rfl, rfl, rfl, by decide, HB.out⟩
    case round =>
      obtain ⟨k, t, hk, rfl, rfl, ht, hts, hb⟩ := hrel
      obtain ⟨wo, rfl⟩ : ∃ wo : World, wo = wr := ⟨_, rfl⟩
      obtain ⟨gq, rfl⟩ : ∃ g : Nat, g = gk := ⟨_, rfl⟩
      replace HB := Lib.hid hb
      have HT := Lib.hid ht
      clear hb ht
      by_cases hlt : k < n
      · have hkp : k < p.length := by rw [HN.out]; exact hlt
        have k0 : (0 : Int) ≤ (k : Int) := Int.natCast_nonneg _
        have k1 : (k : Int) < (n : Int) := by omega
        have HSO := Lib.hid (source_snoc p k hkp)
        obtain ⟨b, o, rfl, _, c0, c1, c2, c3, i0, i1, i2, i3⟩ := Vm.ins_at (HP.out.keep (Chg.of_below HB.out)) k hkp
        have hin := HO.out _ (List.getElem_mem hkp)
        rw [HN.out] at hin
        obtain ⟨i, hi⟩ : ∃ i, p[k] = i := ⟨_, rfl⟩
        rw [hi] at c0 c1 c2 c3 i0 i1 i2 i3 hin HSO
        have HI := Lib.hid hi
        clear hi
        obtain ⟨op, x, y, z⟩ := i
        dsimp only at c0 c1 c2 c3 i0 i1 i2 i3
        obtain ⟨op, rfl, hop, hx0, hx1, hx2⟩ := Vm.ok_open hin (by omega)
        have o3 : (0 : Int) ≤ (op : Int) := Int.natCast_nonneg _
        have o4 : (op : Int) < 9 := by omega
        rw [insT_pieces] at HSO
        obtain ⟨ws, hws⟩ : ∃ s, wordS op = s := ⟨_, rfl⟩
        have hwl : ws.size ≤ 4 := by rw [← hws]; exact words_size op hop
        have HWS := Lib.hid hws
        have HWL := Lib.hid (show ws.data.toList = Vm.wordsL.getD op [] by rw [← hws]; rfl)
        obtain ⟨s, hs⟩ : ∃ s, sortS op = s := ⟨_, rfl⟩
        have hs3 : s.size = 3 := by rw [← hs]; exact sortS_size op hop
        have HSB := Lib.hid (sortS_byte op hop s hs hs3)
        have HS := Lib.hid hs
        have hs0 : (0 : Nat) < s.size := by omega
        have hs1 : (1 : Nat) < s.size := by omega
        have hs2 : (2 : Nat) < s.size := by omega
        have HS3 := Lib.hid hs3
        have hts' : t.size ≤ 5248 := by omega
        clear hs hws c0 c1 c2 c3
        go_wp2_with fail
        apply wp_region_typed (C := fun w' => Below w.heap.size w w') (n := 55) (m := 11) (l1 := [_, _, _, _, _, _, _, _, _, _, _]) (l2 := [])
        · rfl
        · rfl
        · kernel_rfl
        · rfl
        · kernel_rfl
        · exact HB.out.drew
        · exact fun u u' h hb => (by first | exact h.below hb | exact h.trans (hb.mono h.size))
        (apply wpT_exact; · (intro w' hC hf; unfold Gives; clear hf hC; go_wp2_with (fail); apply postT_val rfl (Below.refl _ _); simp only [valAt, Array.getD_eq_getD_getElem?, List.getElem?_toArray, List.getElem?_cons_succ, List.getElem?_cons_zero, Option.getD_some]; exact rfl)); (try simp only [Act.put, List.setIfInBounds_toArray, List.set_cons_zero, List.set_cons_succ])
        apply wpT_typed (slBlk_kept 9 9 WSTR)
        · intro w' hC hf; unfold Gives; clear hf hC
          go_wp2_with (go_at_call 51; ((with_reducible refine (CW.out _).mono ?_)); rintro e w2 ⟨g, rfl, hg, hB, hb2⟩)
          apply postT_mk rfl hb2; simp only [valAt, Array.getD_eq_getD_getElem?, List.getElem?_toArray, List.getElem?_cons_succ, List.getElem?_cons_zero, Option.getD_some]; exact ⟨g, rfl, hB⟩
        intro v28; (try simp only [Act.put, List.setIfInBounds_toArray, List.set_cons_zero, List.set_cons_succ])
        iterate 4 ((apply wpT_exact; · (intro w' hC hf; unfold Gives; clear hf hC; go_wp2_with (fail); apply postT_val rfl (Below.refl _ _); simp only [valAt, Array.getD_eq_getD_getElem?, List.getElem?_toArray, List.getElem?_cons_succ, List.getElem?_cons_zero, Option.getD_some]; exact rfl)); (try simp only [Act.put, List.setIfInBounds_toArray, List.set_cons_zero, List.set_cons_succ]))
        (apply wpT_exact; · (intro w' hC hf; unfold Gives; obtain ⟨b', o', hbo, _, c0, c1, c2, c3, _⟩ := Vm.ins_at (HP.out.keep (Chg.of_below hC)) k hkp; obtain ⟨rfl, rfl⟩ := addr_inj hbo; rw [HI.out] at c0 c1 c2 c3; dsimp only at c0 c1 c2 c3; clear hf hC; go_wp2_with (fail); apply postT_val rfl (Below.refl _ _); simp only [valAt, Array.getD_eq_getD_getElem?, List.getElem?_toArray, List.getElem?_cons_succ, List.getElem?_cons_zero, Option.getD_some]; exact rfl)); (try simp only [Act.put, List.setIfInBounds_toArray, List.set_cons_zero, List.set_cons_succ])
        apply wpT_typed (atCell_kept (.string ws))
        · intro w' hC hf; unfold Gives
          obtain ⟨g, rfl, hB⟩ := hf.1 rfl
          have hcell := (hB.cell op).trans (wstr_get op (by omega))
          rw [HWS.out] at hcell
          have HC := Lib.hid hcell
          clear hf hC hcell hB
          go_wp2_with fail
          apply postT_mk rfl (Below.refl _ _); simp only [valAt, Array.getD_eq_getD_getElem?, List.getElem?_toArray, List.getElem?_cons_succ, List.getElem?_cons_zero, Option.getD_some]; exact atCell_of HC.out
        intro v34; (try simp only [Act.put, List.setIfInBounds_toArray, List.set_cons_zero, List.set_cons_succ])
        apply wpT_exact
        · intro w' hC hf; unfold Gives
          obtain ⟨a, rfl, hc⟩ := hf.1 rfl
          clear hf hC
          go_wp2_with fail
          apply postT_val rfl (Below.refl _ _); simp only [valAt, Array.getD_eq_getD_getElem?, List.getElem?_toArray, List.getElem?_cons_succ, List.getElem?_cons_zero, Option.getD_some]; exact rfl
        (try simp only [Act.put, List.setIfInBounds_toArray, List.set_cons_zero, List.set_cons_succ])
        (apply wpT_exact; · (intro w' hC hf; unfold Gives; clear hf hC; go_wp2_with (fail); apply postT_val rfl (Below.refl _ _); simp only [valAt, Array.getD_eq_getD_getElem?, List.getElem?_toArray, List.getElem?_cons_succ, List.getElem?_cons_zero, Option.getD_some]; exact rfl)); (try simp only [Act.put, List.setIfInBounds_toArray, List.set_cons_zero, List.set_cons_succ])
        (apply wpT_exact; · (intro w' hC hf; unfold Gives; clear hf hC; go_wp2_with (fail); apply postT_val rfl (Below.refl _ _); simp only [valAt, Array.getD_eq_getD_getElem?, List.getElem?_toArray, List.getElem?_cons_succ, List.getElem?_cons_zero, Option.getD_some]; exact rfl)); (try simp only [Act.put, List.setIfInBounds_toArray, List.set_cons_zero, List.set_cons_succ])
        apply wpT_done
        intro w3 hC _
        replace HB := Lib.hid hC
        clear hC
        obtain ⟨P0, hP0⟩ : ∃ P, piece (Vm.sortOf (op : Int) 0) x = P := ⟨_, rfl⟩
        obtain ⟨P1, hP1⟩ : ∃ P, piece (Vm.sortOf (op : Int) 1) y = P := ⟨_, rfl⟩
        obtain ⟨P2, hP2⟩ : ∃ P, piece (Vm.sortOf (op : Int) 2) z = P := ⟨_, rfl⟩
        rw [hP0, hP1, hP2] at HSO
        have HP0 := Lib.hid hP0; have HP1 := Lib.hid hP1; have HP2 := Lib.hid hP2
        have CN := Lib.hid (fun w => rNumbers_any (op : Int) x y z w)
        clear hP0 hP1 hP2
        go_wp2_with fail
        go_loopg [3, 5] 3 (fun r s' j wr2 => ∃ (jj : Nat) (t' : ByteArray), jj + r = 3 ∧ j = .int .i64 jj ∧ s' = .string t' ∧ t'.data.toList = (t ++ ws).data.toList ++ ([P0, P1, P2].take jj).flatten ∧ t'.size ≤ 41 * k + 4 + 12 * jj ∧ Below w.heap.size w wr2)
        case atStart => exact ⟨0, _, by omega, rfl, rfl, by simp, by simp only [ByteArray.size_append]; omega, HB.out⟩
        case round =>
          obtain ⟨jj, t', hj, rfl, rfl, ht', hts2, hb⟩ := hrel
          have HT' := Lib.hid ht'
          replace HB := Lib.hid hb
          have hts3 : t'.size ≤ 6000 := by omega
          clear ht' hb
          obtain ⟨wi, rfl⟩ : ∃ wo : World, wo = wr := ⟨_, rfl⟩
          rcases (show jj = 0 ∨ jj = 1 ∨ jj = 2 ∨ jj = 3 by omega) with rfl | rfl | rfl | rfl
          · rw [show ((0 : Nat) : Int) = 0 from rfl]
            have HJ := Lib.hid (show (([P0, P1, P2].take 0).flatten ++ P0 : List UInt8) = ([P0, P1, P2].take 1).flatten by simp)
            by_cases hz : Vm.sortOf (op : Int) 0 = 0
            · have HPJ := Lib.hid (show P0 = [] by rw [← HP0.out]; unfold piece; rw [if_pos hz])
              have t1 : (((s[0]'hs0).toNat : Int) != 45) = false := by rw [HSB.out.1, hz]; rfl
              clear hz hx0 hx1 hx2
              go_wp2_with fail
              apply wp_region_typed (C := fun w' => Below w.heap.size w w') (n := 55) (m := 11) (l1 := [_, _, _, _, _, _, _, _, _, _, _]) (l2 := [])
              · rfl
              · rfl
              · kernel_rfl
              · rfl
              · kernel_rfl
              · exact HB.out.drew
              · exact fun u u' h hb => (by first | exact h.below hb | exact h.trans (hb.mono h.size))
              apply wpT_typed (slBlk_kept 9 9 SSTR)
              · intro w' hC hf; unfold Gives; clear hf hC
                go_wp2_with (go_at_call 38; ((with_reducible refine (CS.out _).mono ?_)); rintro e w2 ⟨g, rfl, hg, hB, hb2⟩)
                apply postT_mk rfl hb2; simp only [valAt, Array.getD_eq_getD_getElem?, List.getElem?_toArray, List.getElem?_cons_succ, List.getElem?_cons_zero, Option.getD_some]; exact ⟨g, rfl, hB⟩
              intro v28; (try simp only [Act.put, List.setIfInBounds_toArray, List.set_cons_zero, List.set_cons_succ])
              iterate 4 ((apply wpT_exact; · (intro w' hC hf; unfold Gives; clear hf hC; go_wp2_with (fail); apply postT_val rfl (Below.refl _ _); simp only [valAt, Array.getD_eq_getD_getElem?, List.getElem?_toArray, List.getElem?_cons_succ, List.getElem?_cons_zero, Option.getD_some]; exact rfl)); (try simp only [Act.put, List.setIfInBounds_toArray, List.set_cons_zero, List.set_cons_succ]))
              (apply wpT_exact; · (intro w' hC hf; unfold Gives; obtain ⟨b', o', hbo, _, c0, c1, c2, c3, _⟩ := Vm.ins_at (HP.out.keep (Chg.of_below hC)) k hkp; obtain ⟨rfl, rfl⟩ := addr_inj hbo; rw [HI.out] at c0 c1 c2 c3; dsimp only at c0 c1 c2 c3; clear hf hC; go_wp2_with (fail); apply postT_val rfl (Below.refl _ _); simp only [valAt, Array.getD_eq_getD_getElem?, List.getElem?_toArray, List.getElem?_cons_succ, List.getElem?_cons_zero, Option.getD_some]; exact rfl)); (try simp only [Act.put, List.setIfInBounds_toArray, List.set_cons_zero, List.set_cons_succ])
              apply wpT_typed (atCell_kept (.string s))
              · intro w' hC hf; unfold Gives
                obtain ⟨g, rfl, hB⟩ := hf.1 rfl
                have hcell := (hB.cell op).trans (sstr_get op (by omega))
                rw [HS.out] at hcell
                have HC := Lib.hid hcell
                clear hf hC hcell hB
                go_wp2_with fail
                apply postT_mk rfl (Below.refl _ _); simp only [valAt, Array.getD_eq_getD_getElem?, List.getElem?_toArray, List.getElem?_cons_succ, List.getElem?_cons_zero, Option.getD_some]; exact atCell_of HC.out
              intro v35; (try simp only [Act.put, List.setIfInBounds_toArray, List.set_cons_zero, List.set_cons_succ])
              apply wpT_exact
              · intro w' hC hf; unfold Gives
                obtain ⟨a, rfl, hc⟩ := hf.1 rfl
                clear hf hC
                go_wp2_with fail
                apply postT_val rfl (Below.refl _ _); simp only [valAt, Array.getD_eq_getD_getElem?, List.getElem?_toArray, List.getElem?_cons_succ, List.getElem?_cons_zero, Option.getD_some]; exact rfl
              (try simp only [Act.put, List.setIfInBounds_toArray, List.set_cons_zero, List.set_cons_succ])
              (apply wpT_exact; · (intro w' hC hf; unfold Gives; clear hf hC; go_wp2_with (fail); apply postT_val rfl (Below.refl _ _); simp only [valAt, Array.getD_eq_getD_getElem?, List.getElem?_toArray, List.getElem?_cons_succ, List.getElem?_cons_zero, Option.getD_some]; exact rfl)); (try simp only [Act.put, List.setIfInBounds_toArray, List.set_cons_zero, List.set_cons_succ])
              (apply wpT_exact; · (intro w' hC hf; unfold Gives; clear hf hC; go_wp2_with (fail); apply postT_val rfl (Below.refl _ _); simp only [valAt, Array.getD_eq_getD_getElem?, List.getElem?_toArray, List.getElem?_cons_succ, List.getElem?_cons_zero, Option.getD_some]; exact rfl)); (try simp only [Act.put, List.setIfInBounds_toArray, List.set_cons_zero, List.set_cons_succ])
              (apply wpT_exact; · (intro w' hC hf; unfold Gives; clear hf hC; go_wp2_with (fail); apply postT_val rfl (Below.refl _ _); simp only [valAt, Array.getD_eq_getD_getElem?, List.getElem?_toArray, List.getElem?_cons_succ, List.getElem?_cons_zero, Option.getD_some]; exact rfl)); (try simp only [Act.put, List.setIfInBounds_toArray, List.set_cons_zero, List.set_cons_succ])
              apply wpT_done
              intro w5 hC _
              replace HB := Lib.hid hC
              clear hC
              go_wp2_with fail
              go_roundg (gk - 1)
              case measure => omega
              case rel => exact ⟨1, t', by omega, by first | rfl | go_num, rfl, by rw [HT'.out, ← HJ.out, HPJ.out]; simp, by omega, HB.out⟩
            · have HPJ := Lib.hid (show P0 = 32 :: Lib.itoa x by rw [← HP0.out]; unfold piece; rw [if_neg hz])
              have t1 : (((s[0]'hs0).toNat : Int) != 45) = true := by rw [HSB.out.1]; exact sortB_ne hz (Vm.sortOf_lt _ _ (by omega))
              have CD := Lib.hid (fun w => decimal_any x w (by have := hx0 hz; omega))
              have hil := Dc.itoa_len x (by have := hx0 hz; omega)
              obtain ⟨d, hd⟩ : ∃ d : ByteArray, (⟨(Lib.itoa x).toArray⟩ : ByteArray) = d := ⟨_, rfl⟩
              rw [hd] at CD
              have hds : d.size ≤ 11 := by rw [← hd]; exact hil
              have HD := Lib.hid (show d.data.toList = Lib.itoa x by rw [← hd])
              clear hz hx0 hx1 hx2 hil hd
              go_wp2_with fail
              apply wp_region_typed (C := fun w' => Below w.heap.size w w') (n := 55) (m := 11) (l1 := [_, _, _, _, _, _, _, _, _, _, _]) (l2 := [])
              · rfl
              · rfl
              · kernel_rfl
              · rfl
              · kernel_rfl
              · exact HB.out.drew
              · exact fun u u' h hb => (by first | exact h.below hb | exact h.trans (hb.mono h.size))
              apply wpT_typed (slBlk_kept 9 9 SSTR)
              · intro w' hC hf; unfold Gives; clear hf hC
                go_wp2_with (go_at_call 38; ((with_reducible refine (CS.out _).mono ?_)); rintro e w2 ⟨g, rfl, hg, hB, hb2⟩)
                apply postT_mk rfl hb2; simp only [valAt, Array.getD_eq_getD_getElem?, List.getElem?_toArray, List.getElem?_cons_succ, List.getElem?_cons_zero, Option.getD_some]; exact ⟨g, rfl, hB⟩
              intro v28; (try simp only [Act.put, List.setIfInBounds_toArray, List.set_cons_zero, List.set_cons_succ])
              iterate 4 ((apply wpT_exact; · (intro w' hC hf; unfold Gives; clear hf hC; go_wp2_with (fail); apply postT_val rfl (Below.refl _ _); simp only [valAt, Array.getD_eq_getD_getElem?, List.getElem?_toArray, List.getElem?_cons_succ, List.getElem?_cons_zero, Option.getD_some]; exact rfl)); (try simp only [Act.put, List.setIfInBounds_toArray, List.set_cons_zero, List.set_cons_succ]))
              (apply wpT_exact; · (intro w' hC hf; unfold Gives; obtain ⟨b', o', hbo, _, c0, c1, c2, c3, _⟩ := Vm.ins_at (HP.out.keep (Chg.of_below hC)) k hkp; obtain ⟨rfl, rfl⟩ := addr_inj hbo; rw [HI.out] at c0 c1 c2 c3; dsimp only at c0 c1 c2 c3; clear hf hC; go_wp2_with (fail); apply postT_val rfl (Below.refl _ _); simp only [valAt, Array.getD_eq_getD_getElem?, List.getElem?_toArray, List.getElem?_cons_succ, List.getElem?_cons_zero, Option.getD_some]; exact rfl)); (try simp only [Act.put, List.setIfInBounds_toArray, List.set_cons_zero, List.set_cons_succ])
              apply wpT_typed (atCell_kept (.string s))
              · intro w' hC hf; unfold Gives
                obtain ⟨g, rfl, hB⟩ := hf.1 rfl
                have hcell := (hB.cell op).trans (sstr_get op (by omega))
                rw [HS.out] at hcell
                have HC := Lib.hid hcell
                clear hf hC hcell hB
                go_wp2_with fail
                apply postT_mk rfl (Below.refl _ _); simp only [valAt, Array.getD_eq_getD_getElem?, List.getElem?_toArray, List.getElem?_cons_succ, List.getElem?_cons_zero, Option.getD_some]; exact atCell_of HC.out
              intro v35; (try simp only [Act.put, List.setIfInBounds_toArray, List.set_cons_zero, List.set_cons_succ])
              apply wpT_exact
              · intro w' hC hf; unfold Gives
                obtain ⟨a, rfl, hc⟩ := hf.1 rfl
                clear hf hC
                go_wp2_with fail
                apply postT_val rfl (Below.refl _ _); simp only [valAt, Array.getD_eq_getD_getElem?, List.getElem?_toArray, List.getElem?_cons_succ, List.getElem?_cons_zero, Option.getD_some]; exact rfl
              (try simp only [Act.put, List.setIfInBounds_toArray, List.set_cons_zero, List.set_cons_succ])
              (apply wpT_exact; · (intro w' hC hf; unfold Gives; clear hf hC; go_wp2_with (fail); apply postT_val rfl (Below.refl _ _); simp only [valAt, Array.getD_eq_getD_getElem?, List.getElem?_toArray, List.getElem?_cons_succ, List.getElem?_cons_zero, Option.getD_some]; exact rfl)); (try simp only [Act.put, List.setIfInBounds_toArray, List.set_cons_zero, List.set_cons_succ])
              (apply wpT_exact; · (intro w' hC hf; unfold Gives; clear hf hC; go_wp2_with (fail); apply postT_val rfl (Below.refl _ _); simp only [valAt, Array.getD_eq_getD_getElem?, List.getElem?_toArray, List.getElem?_cons_succ, List.getElem?_cons_zero, Option.getD_some]; exact rfl)); (try simp only [Act.put, List.setIfInBounds_toArray, List.set_cons_zero, List.set_cons_succ])
              (apply wpT_exact; · (intro w' hC hf; unfold Gives; clear hf hC; go_wp2_with (fail); apply postT_val rfl (Below.refl _ _); simp only [valAt, Array.getD_eq_getD_getElem?, List.getElem?_toArray, List.getElem?_cons_succ, List.getElem?_cons_zero, Option.getD_some]; exact rfl)); (try simp only [Act.put, List.setIfInBounds_toArray, List.set_cons_zero, List.set_cons_succ])
              apply wpT_done
              intro w5 hC _
              replace HB := Lib.hid hC
              clear hC
              obtain ⟨b', o', hbo, _, c0, c1, c2, c3, _⟩ := Vm.ins_at (HP.out.keep (Chg.of_below HB.out)) k hkp
              obtain ⟨rfl, rfl⟩ := addr_inj hbo
              rw [HI.out] at c0 c1 c2 c3
              dsimp only at c0 c1 c2 c3
              clear hbo
              go_wp2_with (first | (go_at_call 53; ((with_reducible refine (CN.out _).mono ?_)); rintro e w6 ⟨g6, rfl, hg6, hB6, hb6⟩; replace HB := Lib.hid (HB.out.trans (hb6.mono HB.out.size)); have n0 := hB6.cell 0; simp only [List.getElem?_toArray, List.getElem?_cons_zero] at n0; clear hb6 hB6 hg6) | (go_at_call 52; ((with_reducible refine (CD.out _).mono ?_)); rintro e w7 ⟨rfl, hb7⟩; replace HB := Lib.hid (HB.out.trans (hb7.mono HB.out.size)); clear hb7))
              go_roundg (gk - 1)
              case measure => omega
              case rel => exact ⟨1, _, by omega, by first | rfl | go_num, rfl, by rw [← HJ.out, ← List.append_assoc, ← HT'.out, HPJ.out, ← HD.out]; simp, by (simp only [ByteArray.size_append, sz1]; omega), HB.out⟩
          · rw [show ((1 : Nat) : Int) = 1 from rfl]
            have HJ := Lib.hid (show (([P0, P1, P2].take 1).flatten ++ P1 : List UInt8) = ([P0, P1, P2].take 2).flatten by simp)
            by_cases hz : Vm.sortOf (op : Int) 1 = 0
            · have HPJ := Lib.hid (show P1 = [] by rw [← HP1.out]; unfold piece; rw [if_pos hz])
              have t1 : (((s[1]'hs1).toNat : Int) != 45) = false := by rw [HSB.out.2.1, hz]; rfl
              clear hz hx0 hx1 hx2
              go_wp2_with fail
              apply wp_region_typed (C := fun w' => Below w.heap.size w w') (n := 55) (m := 11) (l1 := [_, _, _, _, _, _, _, _, _, _, _]) (l2 := [])
              · rfl
              · rfl
              · kernel_rfl
              · rfl
              · kernel_rfl
              · exact HB.out.drew
              · exact fun u u' h hb => (by first | exact h.below hb | exact h.trans (hb.mono h.size))
              apply wpT_typed (slBlk_kept 9 9 SSTR)
              · intro w' hC hf; unfold Gives; clear hf hC
                go_wp2_with (go_at_call 38; ((with_reducible refine (CS.out _).mono ?_)); rintro e w2 ⟨g, rfl, hg, hB, hb2⟩)
                apply postT_mk rfl hb2; simp only [valAt, Array.getD_eq_getD_getElem?, List.getElem?_toArray, List.getElem?_cons_succ, List.getElem?_cons_zero, Option.getD_some]; exact ⟨g, rfl, hB⟩
              intro v28; (try simp only [Act.put, List.setIfInBounds_toArray, List.set_cons_zero, List.set_cons_succ])
              iterate 4 ((apply wpT_exact; · (intro w' hC hf; unfold Gives; clear hf hC; go_wp2_with (fail); apply postT_val rfl (Below.refl _ _); simp only [valAt, Array.getD_eq_getD_getElem?, List.getElem?_toArray, List.getElem?_cons_succ, List.getElem?_cons_zero, Option.getD_some]; exact rfl)); (try simp only [Act.put, List.setIfInBounds_toArray, List.set_cons_zero, List.set_cons_succ]))
              (apply wpT_exact; · (intro w' hC hf; unfold Gives; obtain ⟨b', o', hbo, _, c0, c1, c2, c3, _⟩ := Vm.ins_at (HP.out.keep (Chg.of_below hC)) k hkp; obtain ⟨rfl, rfl⟩ := addr_inj hbo; rw [HI.out] at c0 c1 c2 c3; dsimp only at c0 c1 c2 c3; clear hf hC; go_wp2_with (fail); apply postT_val rfl (Below.refl _ _); simp only [valAt, Array.getD_eq_getD_getElem?, List.getElem?_toArray, List.getElem?_cons_succ, List.getElem?_cons_zero, Option.getD_some]; exact rfl)); (try simp only [Act.put, List.setIfInBounds_toArray, List.set_cons_zero, List.set_cons_succ])
              apply wpT_typed (atCell_kept (.string s))
              · intro w' hC hf; unfold Gives
                obtain ⟨g, rfl, hB⟩ := hf.1 rfl
                have hcell := (hB.cell op).trans (sstr_get op (by omega))
                rw [HS.out] at hcell
                have HC := Lib.hid hcell
                clear hf hC hcell hB
                go_wp2_with fail
                apply postT_mk rfl (Below.refl _ _); simp only [valAt, Array.getD_eq_getD_getElem?, List.getElem?_toArray, List.getElem?_cons_succ, List.getElem?_cons_zero, Option.getD_some]; exact atCell_of HC.out
              intro v35; (try simp only [Act.put, List.setIfInBounds_toArray, List.set_cons_zero, List.set_cons_succ])
              apply wpT_exact
              · intro w' hC hf; unfold Gives
                obtain ⟨a, rfl, hc⟩ := hf.1 rfl
                clear hf hC
                go_wp2_with fail
                apply postT_val rfl (Below.refl _ _); simp only [valAt, Array.getD_eq_getD_getElem?, List.getElem?_toArray, List.getElem?_cons_succ, List.getElem?_cons_zero, Option.getD_some]; exact rfl
              (try simp only [Act.put, List.setIfInBounds_toArray, List.set_cons_zero, List.set_cons_succ])
              (apply wpT_exact; · (intro w' hC hf; unfold Gives; clear hf hC; go_wp2_with (fail); apply postT_val rfl (Below.refl _ _); simp only [valAt, Array.getD_eq_getD_getElem?, List.getElem?_toArray, List.getElem?_cons_succ, List.getElem?_cons_zero, Option.getD_some]; exact rfl)); (try simp only [Act.put, List.setIfInBounds_toArray, List.set_cons_zero, List.set_cons_succ])
              (apply wpT_exact; · (intro w' hC hf; unfold Gives; clear hf hC; go_wp2_with (fail); apply postT_val rfl (Below.refl _ _); simp only [valAt, Array.getD_eq_getD_getElem?, List.getElem?_toArray, List.getElem?_cons_succ, List.getElem?_cons_zero, Option.getD_some]; exact rfl)); (try simp only [Act.put, List.setIfInBounds_toArray, List.set_cons_zero, List.set_cons_succ])
              (apply wpT_exact; · (intro w' hC hf; unfold Gives; clear hf hC; go_wp2_with (fail); apply postT_val rfl (Below.refl _ _); simp only [valAt, Array.getD_eq_getD_getElem?, List.getElem?_toArray, List.getElem?_cons_succ, List.getElem?_cons_zero, Option.getD_some]; exact rfl)); (try simp only [Act.put, List.setIfInBounds_toArray, List.set_cons_zero, List.set_cons_succ])
              apply wpT_done
              intro w5 hC _
              replace HB := Lib.hid hC
              clear hC
              go_wp2_with fail
              go_roundg (gk - 1)
              case measure => omega
              case rel => exact ⟨2, t', by omega, by first | rfl | go_num, rfl, by rw [HT'.out, ← HJ.out, HPJ.out]; simp, by omega, HB.out⟩
            · have HPJ := Lib.hid (show P1 = 32 :: Lib.itoa y by rw [← HP1.out]; unfold piece; rw [if_neg hz])
              have t1 : (((s[1]'hs1).toNat : Int) != 45) = true := by rw [HSB.out.2.1]; exact sortB_ne hz (Vm.sortOf_lt _ _ (by omega))
              have CD := Lib.hid (fun w => decimal_any y w (by have := hx1 hz; omega))
              have hil := Dc.itoa_len y (by have := hx1 hz; omega)
              obtain ⟨d, hd⟩ : ∃ d : ByteArray, (⟨(Lib.itoa y).toArray⟩ : ByteArray) = d := ⟨_, rfl⟩
              rw [hd] at CD
              have hds : d.size ≤ 11 := by rw [← hd]; exact hil
              have HD := Lib.hid (show d.data.toList = Lib.itoa y by rw [← hd])
              clear hz hx0 hx1 hx2 hil hd
              go_wp2_with fail
              apply wp_region_typed (C := fun w' => Below w.heap.size w w') (n := 55) (m := 11) (l1 := [_, _, _, _, _, _, _, _, _, _, _]) (l2 := [])
              · rfl
              · rfl
              · kernel_rfl
              · rfl
              · kernel_rfl
              · exact HB.out.drew
              · exact fun u u' h hb => (by first | exact h.below hb | exact h.trans (hb.mono h.size))
              apply wpT_typed (slBlk_kept 9 9 SSTR)
              · intro w' hC hf; unfold Gives; clear hf hC
                go_wp2_with (go_at_call 38; ((with_reducible refine (CS.out _).mono ?_)); rintro e w2 ⟨g, rfl, hg, hB, hb2⟩)
                apply postT_mk rfl hb2; simp only [valAt, Array.getD_eq_getD_getElem?, List.getElem?_toArray, List.getElem?_cons_succ, List.getElem?_cons_zero, Option.getD_some]; exact ⟨g, rfl, hB⟩
              intro v28; (try simp only [Act.put, List.setIfInBounds_toArray, List.set_cons_zero, List.set_cons_succ])
              iterate 4 ((apply wpT_exact; · (intro w' hC hf; unfold Gives; clear hf hC; go_wp2_with (fail); apply postT_val rfl (Below.refl _ _); simp only [valAt, Array.getD_eq_getD_getElem?, List.getElem?_toArray, List.getElem?_cons_succ, List.getElem?_cons_zero, Option.getD_some]; exact rfl)); (try simp only [Act.put, List.setIfInBounds_toArray, List.set_cons_zero, List.set_cons_succ]))
              (apply wpT_exact; · (intro w' hC hf; unfold Gives; obtain ⟨b', o', hbo, _, c0, c1, c2, c3, _⟩ := Vm.ins_at (HP.out.keep (Chg.of_below hC)) k hkp; obtain ⟨rfl, rfl⟩ := addr_inj hbo; rw [HI.out] at c0 c1 c2 c3; dsimp only at c0 c1 c2 c3; clear hf hC; go_wp2_with (fail); apply postT_val rfl (Below.refl _ _); simp only [valAt, Array.getD_eq_getD_getElem?, List.getElem?_toArray, List.getElem?_cons_succ, List.getElem?_cons_zero, Option.getD_some]; exact rfl)); (try simp only [Act.put, List.setIfInBounds_toArray, List.set_cons_zero, List.set_cons_succ])
              apply wpT_typed (atCell_kept (.string s))
              · intro w' hC hf; unfold Gives
                obtain ⟨g, rfl, hB⟩ := hf.1 rfl
                have hcell := (hB.cell op).trans (sstr_get op (by omega))
                rw [HS.out] at hcell
                have HC := Lib.hid hcell
                clear hf hC hcell hB
                go_wp2_with fail
                apply postT_mk rfl (Below.refl _ _); simp only [valAt, Array.getD_eq_getD_getElem?, List.getElem?_toArray, List.getElem?_cons_succ, List.getElem?_cons_zero, Option.getD_some]; exact atCell_of HC.out
              intro v35; (try simp only [Act.put, List.setIfInBounds_toArray, List.set_cons_zero, List.set_cons_succ])
              apply wpT_exact
              · intro w' hC hf; unfold Gives
                obtain ⟨a, rfl, hc⟩ := hf.1 rfl
                clear hf hC
                go_wp2_with fail
                apply postT_val rfl (Below.refl _ _); simp only [valAt, Array.getD_eq_getD_getElem?, List.getElem?_toArray, List.getElem?_cons_succ, List.getElem?_cons_zero, Option.getD_some]; exact rfl
              (try simp only [Act.put, List.setIfInBounds_toArray, List.set_cons_zero, List.set_cons_succ])
              (apply wpT_exact; · (intro w' hC hf; unfold Gives; clear hf hC; go_wp2_with (fail); apply postT_val rfl (Below.refl _ _); simp only [valAt, Array.getD_eq_getD_getElem?, List.getElem?_toArray, List.getElem?_cons_succ, List.getElem?_cons_zero, Option.getD_some]; exact rfl)); (try simp only [Act.put, List.setIfInBounds_toArray, List.set_cons_zero, List.set_cons_succ])
              (apply wpT_exact; · (intro w' hC hf; unfold Gives; clear hf hC; go_wp2_with (fail); apply postT_val rfl (Below.refl _ _); simp only [valAt, Array.getD_eq_getD_getElem?, List.getElem?_toArray, List.getElem?_cons_succ, List.getElem?_cons_zero, Option.getD_some]; exact rfl)); (try simp only [Act.put, List.setIfInBounds_toArray, List.set_cons_zero, List.set_cons_succ])
              (apply wpT_exact; · (intro w' hC hf; unfold Gives; clear hf hC; go_wp2_with (fail); apply postT_val rfl (Below.refl _ _); simp only [valAt, Array.getD_eq_getD_getElem?, List.getElem?_toArray, List.getElem?_cons_succ, List.getElem?_cons_zero, Option.getD_some]; exact rfl)); (try simp only [Act.put, List.setIfInBounds_toArray, List.set_cons_zero, List.set_cons_succ])
              apply wpT_done
              intro w5 hC _
              replace HB := Lib.hid hC
              clear hC
              obtain ⟨b', o', hbo, _, c0, c1, c2, c3, _⟩ := Vm.ins_at (HP.out.keep (Chg.of_below HB.out)) k hkp
              obtain ⟨rfl, rfl⟩ := addr_inj hbo
              rw [HI.out] at c0 c1 c2 c3
              dsimp only at c0 c1 c2 c3
              clear hbo
              go_wp2_with (first | (go_at_call 53; ((with_reducible refine (CN.out _).mono ?_)); rintro e w6 ⟨g6, rfl, hg6, hB6, hb6⟩; replace HB := Lib.hid (HB.out.trans (hb6.mono HB.out.size)); have n0 := hB6.cell 1; simp only [List.getElem?_toArray, List.getElem?_cons_succ, List.getElem?_cons_zero] at n0; clear hb6 hB6 hg6) | (go_at_call 52; ((with_reducible refine (CD.out _).mono ?_)); rintro e w7 ⟨rfl, hb7⟩; replace HB := Lib.hid (HB.out.trans (hb7.mono HB.out.size)); clear hb7))
              go_roundg (gk - 1)
              case measure => omega
              case rel => exact ⟨2, _, by omega, by first | rfl | go_num, rfl, by rw [← HJ.out, ← List.append_assoc, ← HT'.out, HPJ.out, ← HD.out]; simp, by (simp only [ByteArray.size_append, sz1]; omega), HB.out⟩
          · rw [show ((2 : Nat) : Int) = 2 from rfl]
            have HJ := Lib.hid (show (([P0, P1, P2].take 2).flatten ++ P2 : List UInt8) = ([P0, P1, P2].take 3).flatten by simp)
            by_cases hz : Vm.sortOf (op : Int) 2 = 0
            · have HPJ := Lib.hid (show P2 = [] by rw [← HP2.out]; unfold piece; rw [if_pos hz])
              have t1 : (((s[2]'hs2).toNat : Int) != 45) = false := by rw [HSB.out.2.2, hz]; rfl
              clear hz hx0 hx1 hx2
              go_wp2_with fail
              apply wp_region_typed (C := fun w' => Below w.heap.size w w') (n := 55) (m := 11) (l1 := [_, _, _, _, _, _, _, _, _, _, _]) (l2 := [])
              · rfl
              · rfl
              · kernel_rfl
              · rfl
              · kernel_rfl
              · exact HB.out.drew
              · exact fun u u' h hb => (by first | exact h.below hb | exact h.trans (hb.mono h.size))
              apply wpT_typed (slBlk_kept 9 9 SSTR)
              · intro w' hC hf; unfold Gives; clear hf hC
                go_wp2_with (go_at_call 38; ((with_reducible refine (CS.out _).mono ?_)); rintro e w2 ⟨g, rfl, hg, hB, hb2⟩)
                apply postT_mk rfl hb2; simp only [valAt, Array.getD_eq_getD_getElem?, List.getElem?_toArray, List.getElem?_cons_succ, List.getElem?_cons_zero, Option.getD_some]; exact ⟨g, rfl, hB⟩
              intro v28; (try simp only [Act.put, List.setIfInBounds_toArray, List.set_cons_zero, List.set_cons_succ])
              iterate 4 ((apply wpT_exact; · (intro w' hC hf; unfold Gives; clear hf hC; go_wp2_with (fail); apply postT_val rfl (Below.refl _ _); simp only [valAt, Array.getD_eq_getD_getElem?, List.getElem?_toArray, List.getElem?_cons_succ, List.getElem?_cons_zero, Option.getD_some]; exact rfl)); (try simp only [Act.put, List.setIfInBounds_toArray, List.set_cons_zero, List.set_cons_succ]))
              (apply wpT_exact; · (intro w' hC hf; unfold Gives; obtain ⟨b', o', hbo, _, c0, c1, c2, c3, _⟩ := Vm.ins_at (HP.out.keep (Chg.of_below hC)) k hkp; obtain ⟨rfl, rfl⟩ := addr_inj hbo; rw [HI.out] at c0 c1 c2 c3; dsimp only at c0 c1 c2 c3; clear hf hC; go_wp2_with (fail); apply postT_val rfl (Below.refl _ _); simp only [valAt, Array.getD_eq_getD_getElem?, List.getElem?_toArray, List.getElem?_cons_succ, List.getElem?_cons_zero, Option.getD_some]; exact rfl)); (try simp only [Act.put, List.setIfInBounds_toArray, List.set_cons_zero, List.set_cons_succ])
              apply wpT_typed (atCell_kept (.string s))
              · intro w' hC hf; unfold Gives
                obtain ⟨g, rfl, hB⟩ := hf.1 rfl
                have hcell := (hB.cell op).trans (sstr_get op (by omega))
                rw [HS.out] at hcell
                have HC := Lib.hid hcell
                clear hf hC hcell hB
                go_wp2_with fail
                apply postT_mk rfl (Below.refl _ _); simp only [valAt, Array.getD_eq_getD_getElem?, List.getElem?_toArray, List.getElem?_cons_succ, List.getElem?_cons_zero, Option.getD_some]; exact atCell_of HC.out
              intro v35; (try simp only [Act.put, List.setIfInBounds_toArray, List.set_cons_zero, List.set_cons_succ])
              apply wpT_exact
              · intro w' hC hf; unfold Gives
                obtain ⟨a, rfl, hc⟩ := hf.1 rfl
                clear hf hC
                go_wp2_with fail
                apply postT_val rfl (Below.refl _ _); simp only [valAt, Array.getD_eq_getD_getElem?, List.getElem?_toArray, List.getElem?_cons_succ, List.getElem?_cons_zero, Option.getD_some]; exact rfl
              (try simp only [Act.put, List.setIfInBounds_toArray, List.set_cons_zero, List.set_cons_succ])
              (apply wpT_exact; · (intro w' hC hf; unfold Gives; clear hf hC; go_wp2_with (fail); apply postT_val rfl (Below.refl _ _); simp only [valAt, Array.getD_eq_getD_getElem?, List.getElem?_toArray, List.getElem?_cons_succ, List.getElem?_cons_zero, Option.getD_some]; exact rfl)); (try simp only [Act.put, List.setIfInBounds_toArray, List.set_cons_zero, List.set_cons_succ])
              (apply wpT_exact; · (intro w' hC hf; unfold Gives; clear hf hC; go_wp2_with (fail); apply postT_val rfl (Below.refl _ _); simp only [valAt, Array.getD_eq_getD_getElem?, List.getElem?_toArray, List.getElem?_cons_succ, List.getElem?_cons_zero, Option.getD_some]; exact rfl)); (try simp only [Act.put, List.setIfInBounds_toArray, List.set_cons_zero, List.set_cons_succ])
              (apply wpT_exact; · (intro w' hC hf; unfold Gives; clear hf hC; go_wp2_with (fail); apply postT_val rfl (Below.refl _ _); simp only [valAt, Array.getD_eq_getD_getElem?, List.getElem?_toArray, List.getElem?_cons_succ, List.getElem?_cons_zero, Option.getD_some]; exact rfl)); (try simp only [Act.put, List.setIfInBounds_toArray, List.set_cons_zero, List.set_cons_succ])
              apply wpT_done
              intro w5 hC _
              replace HB := Lib.hid hC
              clear hC
              go_wp2_with fail
              go_roundg (gk - 1)
              case measure => omega
              case rel => exact ⟨3, t', by omega, by first | rfl | go_num, rfl, by rw [HT'.out, ← HJ.out, HPJ.out]; simp, by omega, HB.out⟩
            · have HPJ := Lib.hid (show P2 = 32 :: Lib.itoa z by rw [← HP2.out]; unfold piece; rw [if_neg hz])
              have t1 : (((s[2]'hs2).toNat : Int) != 45) = true := by rw [HSB.out.2.2]; exact sortB_ne hz (Vm.sortOf_lt _ _ (by omega))
              have CD := Lib.hid (fun w => decimal_any z w (by have := hx2 hz; omega))
              have hil := Dc.itoa_len z (by have := hx2 hz; omega)
              obtain ⟨d, hd⟩ : ∃ d : ByteArray, (⟨(Lib.itoa z).toArray⟩ : ByteArray) = d := ⟨_, rfl⟩
              rw [hd] at CD
              have hds : d.size ≤ 11 := by rw [← hd]; exact hil
              have HD := Lib.hid (show d.data.toList = Lib.itoa z by rw [← hd])
              clear hz hx0 hx1 hx2 hil hd
              go_wp2_with fail
              apply wp_region_typed (C := fun w' => Below w.heap.size w w') (n := 55) (m := 11) (l1 := [_, _, _, _, _, _, _, _, _, _, _]) (l2 := [])
              · rfl
              · rfl
              · kernel_rfl
              · rfl
              · kernel_rfl
              · exact HB.out.drew
              · exact fun u u' h hb => (by first | exact h.below hb | exact h.trans (hb.mono h.size))
              apply wpT_typed (slBlk_kept 9 9 SSTR)
              · intro w' hC hf; unfold Gives; clear hf hC
                go_wp2_with (go_at_call 38; ((with_reducible refine (CS.out _).mono ?_)); rintro e w2 ⟨g, rfl, hg, hB, hb2⟩)
                apply postT_mk rfl hb2; simp only [valAt, Array.getD_eq_getD_getElem?, List.getElem?_toArray, List.getElem?_cons_succ, List.getElem?_cons_zero, Option.getD_some]; exact ⟨g, rfl, hB⟩
              intro v28; (try simp only [Act.put, List.setIfInBounds_toArray, List.set_cons_zero, List.set_cons_succ])
              iterate 4 ((apply wpT_exact; · (intro w' hC hf; unfold Gives; clear hf hC; go_wp2_with (fail); apply postT_val rfl (Below.refl _ _); simp only [valAt, Array.getD_eq_getD_getElem?, List.getElem?_toArray, List.getElem?_cons_succ, List.getElem?_cons_zero, Option.getD_some]; exact rfl)); (try simp only [Act.put, List.setIfInBounds_toArray, List.set_cons_zero, List.set_cons_succ]))
              (apply wpT_exact; · (intro w' hC hf; unfold Gives; obtain ⟨b', o', hbo, _, c0, c1, c2, c3, _⟩ := Vm.ins_at (HP.out.keep (Chg.of_below hC)) k hkp; obtain ⟨rfl, rfl⟩ := addr_inj hbo; rw [HI.out] at c0 c1 c2 c3; dsimp only at c0 c1 c2 c3; clear hf hC; go_wp2_with (fail); apply postT_val rfl (Below.refl _ _); simp only [valAt, Array.getD_eq_getD_getElem?, List.getElem?_toArray, List.getElem?_cons_succ, List.getElem?_cons_zero, Option.getD_some]; exact rfl)); (try simp only [Act.put, List.setIfInBounds_toArray, List.set_cons_zero, List.set_cons_succ])
              apply wpT_typed (atCell_kept (.string s))
              · intro w' hC hf; unfold Gives
                obtain ⟨g, rfl, hB⟩ := hf.1 rfl
                have hcell := (hB.cell op).trans (sstr_get op (by omega))
                rw [HS.out] at hcell
                have HC := Lib.hid hcell
                clear hf hC hcell hB
                go_wp2_with fail
                apply postT_mk rfl (Below.refl _ _); simp only [valAt, Array.getD_eq_getD_getElem?, List.getElem?_toArray, List.getElem?_cons_succ, List.getElem?_cons_zero, Option.getD_some]; exact atCell_of HC.out
              intro v35; (try simp only [Act.put, List.setIfInBounds_toArray, List.set_cons_zero, List.set_cons_succ])
              apply wpT_exact
              · intro w' hC hf; unfold Gives
                obtain ⟨a, rfl, hc⟩ := hf.1 rfl
                clear hf hC
                go_wp2_with fail
                apply postT_val rfl (Below.refl _ _); simp only [valAt, Array.getD_eq_getD_getElem?, List.getElem?_toArray, List.getElem?_cons_succ, List.getElem?_cons_zero, Option.getD_some]; exact rfl
              (try simp only [Act.put, List.setIfInBounds_toArray, List.set_cons_zero, List.set_cons_succ])
              (apply wpT_exact; · (intro w' hC hf; unfold Gives; clear hf hC; go_wp2_with (fail); apply postT_val rfl (Below.refl _ _); simp only [valAt, Array.getD_eq_getD_getElem?, List.getElem?_toArray, List.getElem?_cons_succ, List.getElem?_cons_zero, Option.getD_some]; exact rfl)); (try simp only [Act.put, List.setIfInBounds_toArray, List.set_cons_zero, List.set_cons_succ])
              (apply wpT_exact; · (intro w' hC hf; unfold Gives; clear hf hC; go_wp2_with (fail); apply postT_val rfl (Below.refl _ _); simp only [valAt, Array.getD_eq_getD_getElem?, List.getElem?_toArray, List.getElem?_cons_succ, List.getElem?_cons_zero, Option.getD_some]; exact rfl)); (try simp only [Act.put, List.setIfInBounds_toArray, List.set_cons_zero, List.set_cons_succ])
              (apply wpT_exact; · (intro w' hC hf; unfold Gives; clear hf hC; go_wp2_with (fail); apply postT_val rfl (Below.refl _ _); simp only [valAt, Array.getD_eq_getD_getElem?, List.getElem?_toArray, List.getElem?_cons_succ, List.getElem?_cons_zero, Option.getD_some]; exact rfl)); (try simp only [Act.put, List.setIfInBounds_toArray, List.set_cons_zero, List.set_cons_succ])
              apply wpT_done
              intro w5 hC _
              replace HB := Lib.hid hC
              clear hC
              obtain ⟨b', o', hbo, _, c0, c1, c2, c3, _⟩ := Vm.ins_at (HP.out.keep (Chg.of_below HB.out)) k hkp
              obtain ⟨rfl, rfl⟩ := addr_inj hbo
              rw [HI.out] at c0 c1 c2 c3
              dsimp only at c0 c1 c2 c3
              clear hbo
              go_wp2_with (first | (go_at_call 53; ((with_reducible refine (CN.out _).mono ?_)); rintro e w6 ⟨g6, rfl, hg6, hB6, hb6⟩; replace HB := Lib.hid (HB.out.trans (hb6.mono HB.out.size)); have n0 := hB6.cell 2; simp only [List.getElem?_toArray, List.getElem?_cons_succ, List.getElem?_cons_zero] at n0; clear hb6 hB6 hg6) | (go_at_call 52; ((with_reducible refine (CD.out _).mono ?_)); rintro e w7 ⟨rfl, hb7⟩; replace HB := Lib.hid (HB.out.trans (hb7.mono HB.out.size)); clear hb7))
              go_roundg (gk - 1)
              case measure => omega
              case rel => exact ⟨3, _, by omega, by first | rfl | go_num, rfl, by rw [← HJ.out, ← List.append_assoc, ← HT'.out, HPJ.out, ← HD.out]; simp, by (simp only [ByteArray.size_append, sz1]; omega), HB.out⟩
          · rw [show ((3 : Nat) : Int) = 3 from rfl]
            go_wp2_with fail
            go_roundg (gq - 1)
            case measure => omega
            case rel =>
              refine ⟨k + 1, _, by omega, by go_num, rfl, ?_, by (simp only [ByteArray.size_append, sz1]; omega), HB.out⟩
              rw [← HSO.out, ByteArray.data_append, Array.toList_append, HT'.out, ByteArray.data_append, Array.toList_append, HT.out, HWL.out]
              simp
      · have hkn : k = n := by omega
        subst hkn
        go_wp2_with fail
        go_ret
        refine ⟨?_, HB.out⟩
        rw [HPR.out]
        exact ret_str (str_eq (by rw [HT.out, List.take_of_length_le (Nat.le_of_eq HN.out)]))
  · rw [if_neg h0] at hpr
    have HPR := Lib.hid hpr
    have q1 : (vv == 0) = false := by simpa using h0
    have q2 : (vv != 0) = true := by simpa using h0
    rw [hn] at CV ⊢
    clear hp hn hvv hpr h0
    go_enter Tryd.func23, Tryd.ntmps23
    go_wp2_with (go_at_call 19; ((with_reducible refine (CV.out).mono ?_)); rintro e w1 ⟨rfl, hb⟩; have HB := Lib.hid hb; clear hb)
    go_ret
    exact ⟨by rw [HPR.out]; rfl, HB.out⟩
end Go.Proofs.YtdpcdocaahjeoaaDoor
