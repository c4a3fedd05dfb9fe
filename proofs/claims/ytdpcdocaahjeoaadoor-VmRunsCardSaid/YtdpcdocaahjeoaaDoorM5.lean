/- wire Int, Ints of the reference and of the package. -/
import Derived.Test.YtdpcdocaahjeoaaDoorVmGP
import Derived.Test.YtdpcdocaahjeoaaDoorM4
namespace Go.Proofs.YtdpcdocaahjeoaaDoor
open Go Go.RowKit
theorem infoU8 : (Tryd.prog.info? 5).map (fun i => (i.zero, i.size, i.bytes)) = some (some (.int .u8 0), 1, 1) := by kernel_rfl
/-- Bytes that a call made and may go on writing. -/
def BytesP (l : List UInt8) (w : World) (e : Ending) (w' : World) : Prop := ∃ v, e = .returned v ∧ w'.ownsRow w.heap.size 5 1 v l.length (byteVals l) ∧ Below w.heap.size w w'
theorem byte_one (b : UInt8) : ∀ u ∈ [Value.int .u8 b.toNat], u.oneCell' = true := by intro u hu; rw [List.mem_singleton] at hu; subst hu; rfl
def lows (m k : Nat) : List UInt8 := (List.range k).map fun i => UInt8.ofNat (En.dg m i)
theorem lows_snoc (m k : Nat) : lows m k ++ [UInt8.ofNat (En.dg m k)] = lows m (k + 1) := by simp [lows, List.range_succ]
theorem lows_length (m k : Nat) : (lows m k).length = k := by simp [lows]
theorem wrapU8 {q : Nat} : IntKind.u8.wrap ((q : Int) % 256) = ((UInt8.ofNat (q % 256)).toNat : Int) := by
  have : (UInt8.ofNat (q % 256)).toNat = q % 256 := by simp
  rw [this]; simp only [IntKind.wrap, IntKind.signed, IntKind.bits]; simp
set_option maxRecDepth 100000 in
set_option maxHeartbeats 4000000 in
theorem rInt_any (n : Int) (w : World) (hn : inI n) : Calls Tryd.prog 49 #[.int .i64 n] w (BytesP (En.int n) w) := by
  obtain ⟨i0, hi, hz0, hz1, hz2⟩ := info_parts infoU8
  obtain ⟨m, hm⟩ : ∃ m, En.mag n = m := ⟨_, rfl⟩
  have hm63 := En.mag_lt hn
  rw [hm] at hm63
  obtain ⟨k, hk⟩ : ∃ k, En.nd m = k := ⟨_, rfl⟩
  have hk8 := En.nd_le m
  rw [hk] at hk8
  have HAT := Lib.hid (fun j => En.nd_at (j := j) hm63)
  have HK := Lib.hid hk
  have HM := Lib.hid hm
  have T := Lib.hid (HRow.start (e := 5) (size := 1) (held0 w [] (fun _ h => by cases h)))
  have hn' := hn
  unfold inI at hn'
  by_cases h0 : n < 0
  · have hneg : (m : Int) = -1 - n := by rw [← hm]; unfold En.mag; rw [if_pos h0]; omega
    have d0 : decide (n < 0) = true := decide_eq_true h0
    have d1 : decide (0 ≤ n) = false := decide_eq_false (by omega)
    have w0 : IntKind.i64.wrap (-1 - n) = (m : Int) := by rw [← hneg]; exact wrapI (by unfold inI; omega)
    have hhead : En.head n = UInt8.ofNat (127 - k) := by unfold En.head; rw [if_pos h0, hm, hk]
    obtain ⟨b0, hb0⟩ : ∃ b, En.head n = b := ⟨_, rfl⟩
    have hint : En.int n = b0 :: En.tl n k := by unfold En.int; rw [hb0, hm, hk]
    have HIN := Lib.hid hint
    have wh : IntKind.u8.wrap (127 - (k : Int)) = (b0.toNat : Int) := by
      rw [← hb0, hhead]
      have : (UInt8.ofNat (127 - k)).toNat = 127 - k := by simp; omega
      rw [this]; simp only [IntKind.wrap, IntKind.signed, IntKind.bits]; simp; omega
    clear hm hk hneg hhead hb0 hint
    go_enter Tryd.func49, Tryd.ntmps49
    go_wp2_with fail
    go_loopg [3, 4] k (fun r a v wr => ∃ (j : Nat) (M : List Nat), j + r = k ∧ a = .int .i64 ((m / 256 ^ j : Nat) : Int) ∧ HRow w [] M [] [] 5 1 v j (byteVals (lows m j)) wr)
    case atStart => exact ⟨0, _, by omega, by simp, T.out⟩
    case round =>
      obtain ⟨j, M, hj, rfl, hH⟩ := hrel
      obtain ⟨wo, rfl⟩ : ∃ wo : World, wo = wr := ⟨_, rfl⟩
      replace T := Lib.hid hH
      clear hH
      have hat := HAT.out j
      rw [HK.out] at hat
      obtain ⟨q, hq⟩ : ∃ q, m / 256 ^ j = q := ⟨_, rfl⟩
      rw [hq] at hat ⊢
      have hqm : q ≤ m := by rw [← hq]; exact Nat.div_le_self _ _
      by_cases hlt : j < k
      · have q0 : 0 < q := hat.1 hlt
        have q1 : decide ((0 : Int) < (q : Int)) = true := decide_eq_true (by omega)
        obtain ⟨b, hb⟩ : ∃ b, UInt8.ofNat (q % 256) = b := ⟨_, rfl⟩
        have wb : IntKind.u8.wrap ((q : Int) % 256) = (b.toNat : Int) := by rw [← hb]; exact wrapU8
        have HSN := Lib.hid (show lows m j ++ [b] = lows m (j + 1) by rw [← lows_snoc, ← hb, ← hq]; rfl)
        obtain ⟨q', hq'⟩ : ∃ q', q / 256 = q' := ⟨_, rfl⟩
        have HQ := Lib.hid (show m / 256 ^ (j + 1) = q' by rw [Nat.pow_succ, ← Nat.div_div_eq_div_mul, hq, hq'])
        have wq : (q : Int) / 256 = (q' : Int) := by rw [← hq']; rfl
        clear hat hb hq hq'
        go_wp2_with (at_builtin; refine wpList_append_row (by rfl) _ _ 63 (by rfl) 5 i0 _ 1 1 Tryd.underlying63 hi hz0 hz1 hz2 rfl (by decide) (T.out.below ((Below.refl _ _).alloc (Nat.le_refl _) _)) (by rfl) _ _ 1 1 [.int .u8 b.toNat] (by rfl) (reads_blk (Blk.new _ _ _) rfl) (byte_one b) (by unfold maxLen; omega) (by omega) ?_; intro v' w' M' h' _; rw [byteVals_snoc] at h'; replace T := Lib.hid h'; clear h')
        rw [HSN.out] at T
        go_roundg (gk - 1)
        case measure => omega
        case rel => exact ⟨j + 1, _, by omega, by rw [HQ.out], T.out⟩
      · have q0 : q = 0 := by have := hat.2; omega
        subst q0
        have hjk : j = k := by omega
        subst hjk
        clear hat hq
        obtain ⟨A, c, rfl, hlc, hcm, hF⟩ := T.out.freeze (l := lows m j) rfl (lows_length m j).symm (flat_bytes _) (fun _ h => by cases h)
        rw [lows_length] at hlc ⊢
        replace T := Lib.hid (HRow.start (e := 5) (size := 1) hF)
        clear hF
        go_wp2_with (at_builtin; refine wpList_append_row (by rfl) _ _ 63 (by rfl) 5 i0 _ 1 1 Tryd.underlying63 hi hz0 hz1 hz2 rfl (by decide) (T.out.below ((Below.refl _ _).alloc (Nat.le_refl _) _)) (by rfl) _ _ 1 1 [.int .u8 b0.toNat] (by rfl) (reads_blk (Blk.new _ _ _) rfl) (byte_one b0) (by unfold maxLen; omega) (by omega) ?_; intro v' w' M' h' _; replace T := Lib.hid h'; clear h')
        go_loopg [6, 7] j (fun r v i wr => ∃ M : List Nat, r ≤ j ∧ i = .int .i64 ((r : Int) - 1) ∧ HRow w [] M [] [fun M W => SlAt M W A (lows m j)] 5 1 v (1 + (j - r)) (byteVals (b0 :: (En.tl n j).take (j - r))) wr)
        case atStart => exact ⟨_, Nat.le_refl _, rfl, by have := T.out; rw [Nat.sub_self]; exact this⟩
        case round =>
          obtain ⟨M, hr, rfl, hH⟩ := hrel
          obtain ⟨wo, rfl⟩ : ∃ wo : World, wo = wr := ⟨_, rfl⟩
          replace T := Lib.hid hH
          clear hH
          by_cases hg : gk = 0
          · subst hg
            have e1 : ((0 : Nat) : Int) - 1 = -1 := rfl
            rw [e1]
            clear e1
            go_wp2_with fail
            go_ret
            have h := T.out.own
            rw [Nat.sub_zero, List.take_of_length_le (Nat.le_of_eq (En.tl_length _ _)), ← HIN.out] at h
            exact ⟨_, rfl, by rw [HIN.out, List.length_cons, En.tl_length, Nat.add_comm, ← HIN.out]; exact h, T.out.h.bl⟩
          · obtain ⟨i, rfl⟩ : ∃ i, gk = i + 1 := ⟨gk - 1, by omega⟩
            have e1 : ((i + 1 : Nat) : Int) - 1 = (i : Int) := by omega
            rw [e1]
            clear e1
            have k0 : (0 : Int) ≤ (i : Int) := Int.natCast_nonneg _
            have k1 : (i : Int) < (j : Int) := by omega
            have hil : i < (lows m j).length := by rw [lows_length]; omega
            obtain ⟨bb, oo, rfl, _, c1⟩ := byte_at (T.out.h.fact (.head _)) i hil
            have hx : ((lows m j)[i]).toNat = En.dg m i := by have := En.dg_lt m i; simp [lows]; omega
            rw [hx] at c1
            have hd := En.dg_lt m i
            obtain ⟨b, hb⟩ : ∃ b, En.flip n (En.dg m i) = b := ⟨_, rfl⟩
            have hbn : (b.toNat : Int) = 255 - (En.dg m i : Int) := by rw [← hb]; unfold En.flip; rw [if_pos h0]; simp; omega
            have HSN := Lib.hid (show (En.tl n j).take (j - (i + 1)) ++ [b] = (En.tl n j).take (j - i) by rw [En.tl_snoc _ _ _ (show i < j by omega), HM.out, hb])
            obtain ⟨x, hxx⟩ : ∃ x, En.dg m i = x := ⟨_, rfl⟩
            rw [hxx] at c1 hd hbn
            have wb : IntKind.u8.wrap (255 - (x : Int)) = (b.toNat : Int) := by rw [hbn]; simp only [IntKind.wrap, IntKind.signed, IntKind.bits]; simp; omega
            clear hx hil hb hbn hxx
            go_wp2_with (at_builtin; refine wpList_append_row (by rfl) _ _ 63 (by rfl) 5 i0 _ 1 1 Tryd.underlying63 hi hz0 hz1 hz2 rfl (by decide) (T.out.below ((Below.refl _ _).alloc (Nat.le_refl _) _)) (by rfl) _ _ 1 1 [.int .u8 b.toNat] (by rfl) (reads_blk (Blk.new _ _ _) rfl) (byte_one b) (by unfold maxLen; omega) (by omega) ?_; intro v' w' M' h' _; rw [byteVals_snoc] at h'; replace T := Lib.hid h'; clear h')
            rw [List.cons_append, HSN.out] at T
            go_roundg i
            case measure => omega
            case rel => exact ⟨_, by omega, rfl, by have := T.out; rw [show 1 + (j - (i + 1)) + 1 = 1 + (j - i) by omega] at this; exact this⟩
  · have hneg : (m : Int) = n := by rw [← hm]; unfold En.mag; rw [if_neg h0]; omega
    have d0 : decide (n < 0) = false := decide_eq_false h0
    have d1 : decide (0 ≤ n) = true := decide_eq_true (by omega)
    obtain rfl := hneg
    have hhead : En.head (m : Int) = UInt8.ofNat (128 + k) := by unfold En.head; rw [if_neg h0, hm, hk]
    obtain ⟨b0, hb0⟩ : ∃ b, En.head (m : Int) = b := ⟨_, rfl⟩
    have hint : En.int (m : Int) = b0 :: En.tl (m : Int) k := by unfold En.int; rw [hb0, hm, hk]
    have HIN := Lib.hid hint
    have wh : IntKind.u8.wrap (128 + (k : Int)) = (b0.toNat : Int) := by
      rw [← hb0, hhead]
      have : (UInt8.ofNat (128 + k)).toNat = 128 + k := by simp; omega
      rw [this]; simp only [IntKind.wrap, IntKind.signed, IntKind.bits]; simp; omega
    clear hm hk hhead hb0 hint
    go_enter Tryd.func49, Tryd.ntmps49
    go_wp2_with fail
    go_loopg [3, 4] k (fun r a v wr => ∃ (j : Nat) (M : List Nat), j + r = k ∧ a = .int .i64 ((m / 256 ^ j : Nat) : Int) ∧ HRow w [] M [] [] 5 1 v j (byteVals (lows m j)) wr)
    case atStart => exact ⟨0, _, by omega, by simp, T.out⟩
    case round =>
      obtain ⟨j, M, hj, rfl, hH⟩ := hrel
      obtain ⟨wo, rfl⟩ : ∃ wo : World, wo = wr := ⟨_, rfl⟩
      replace T := Lib.hid hH
      clear hH
      have hat := HAT.out j
      rw [HK.out] at hat
      obtain ⟨q, hq⟩ : ∃ q, m / 256 ^ j = q := ⟨_, rfl⟩
      rw [hq] at hat ⊢
      have hqm : q ≤ m := by rw [← hq]; exact Nat.div_le_self _ _
      by_cases hlt : j < k
      · have q0 : 0 < q := hat.1 hlt
        have q1 : decide ((0 : Int) < (q : Int)) = true := decide_eq_true (by omega)
        obtain ⟨b, hb⟩ : ∃ b, UInt8.ofNat (q % 256) = b := ⟨_, rfl⟩
        have wb : IntKind.u8.wrap ((q : Int) % 256) = (b.toNat : Int) := by rw [← hb]; exact wrapU8
        have HSN := Lib.hid (show lows m j ++ [b] = lows m (j + 1) by rw [← lows_snoc, ← hb, ← hq]; rfl)
        obtain ⟨q', hq'⟩ : ∃ q', q / 256 = q' := ⟨_, rfl⟩
        have HQ := Lib.hid (show m / 256 ^ (j + 1) = q' by rw [Nat.pow_succ, ← Nat.div_div_eq_div_mul, hq, hq'])
        have wq : (q : Int) / 256 = (q' : Int) := by rw [← hq']; rfl
        clear hat hb hq hq'
        go_wp2_with (at_builtin; refine wpList_append_row (by rfl) _ _ 63 (by rfl) 5 i0 _ 1 1 Tryd.underlying63 hi hz0 hz1 hz2 rfl (by decide) (T.out.below ((Below.refl _ _).alloc (Nat.le_refl _) _)) (by rfl) _ _ 1 1 [.int .u8 b.toNat] (by rfl) (reads_blk (Blk.new _ _ _) rfl) (byte_one b) (by unfold maxLen; omega) (by omega) ?_; intro v' w' M' h' _; rw [byteVals_snoc] at h'; replace T := Lib.hid h'; clear h')
        rw [HSN.out] at T
        go_roundg (gk - 1)
        case measure => omega
        case rel => exact ⟨j + 1, _, by omega, by rw [HQ.out], T.out⟩
      · have q0 : q = 0 := by have := hat.2; omega
        subst q0
        have hjk : j = k := by omega
        subst hjk
        clear hat hq
        obtain ⟨A, c, rfl, hlc, hcm, hF⟩ := T.out.freeze (l := lows m j) rfl (lows_length m j).symm (flat_bytes _) (fun _ h => by cases h)
        rw [lows_length] at hlc ⊢
        replace T := Lib.hid (HRow.start (e := 5) (size := 1) hF)
        clear hF
        go_wp2_with (at_builtin; refine wpList_append_row (by rfl) _ _ 63 (by rfl) 5 i0 _ 1 1 Tryd.underlying63 hi hz0 hz1 hz2 rfl (by decide) (T.out.below ((Below.refl _ _).alloc (Nat.le_refl _) _)) (by rfl) _ _ 1 1 [.int .u8 b0.toNat] (by rfl) (reads_blk (Blk.new _ _ _) rfl) (byte_one b0) (by unfold maxLen; omega) (by omega) ?_; intro v' w' M' h' _; replace T := Lib.hid h'; clear h')
        go_loopg [6, 7] j (fun r v i wr => ∃ M : List Nat, r ≤ j ∧ i = .int .i64 ((r : Int) - 1) ∧ HRow w [] M [] [fun M W => SlAt M W A (lows m j)] 5 1 v (1 + (j - r)) (byteVals (b0 :: (En.tl (m : Int) j).take (j - r))) wr)
        case atStart => exact ⟨_, Nat.le_refl _, rfl, by have := T.out; rw [Nat.sub_self]; exact this⟩
        case round =>
          obtain ⟨M, hr, rfl, hH⟩ := hrel
          obtain ⟨wo, rfl⟩ : ∃ wo : World, wo = wr := ⟨_, rfl⟩
          replace T := Lib.hid hH
          clear hH
          by_cases hg : gk = 0
          · subst hg
            have e1 : ((0 : Nat) : Int) - 1 = -1 := rfl
            rw [e1]
            clear e1
            go_wp2_with fail
            go_ret
            have h := T.out.own
            rw [Nat.sub_zero, List.take_of_length_le (Nat.le_of_eq (En.tl_length _ _)), ← HIN.out] at h
            exact ⟨_, rfl, by rw [HIN.out, List.length_cons, En.tl_length, Nat.add_comm, ← HIN.out]; exact h, T.out.h.bl⟩
          · obtain ⟨i, rfl⟩ : ∃ i, gk = i + 1 := ⟨gk - 1, by omega⟩
            have e1 : ((i + 1 : Nat) : Int) - 1 = (i : Int) := by omega
            rw [e1]
            clear e1
            have k0 : (0 : Int) ≤ (i : Int) := Int.natCast_nonneg _
            have k1 : (i : Int) < (j : Int) := by omega
            have hil : i < (lows m j).length := by rw [lows_length]; omega
            obtain ⟨bb, oo, rfl, _, c1⟩ := byte_at (T.out.h.fact (.head _)) i hil
            have hx : ((lows m j)[i]).toNat = En.dg m i := by have := En.dg_lt m i; simp [lows]; omega
            rw [hx] at c1
            have hd := En.dg_lt m i
            obtain ⟨b, hb⟩ : ∃ b, En.flip (m : Int) (En.dg m i) = b := ⟨_, rfl⟩
            have hbn : (b.toNat : Int) = (En.dg m i : Int) := by rw [← hb]; unfold En.flip; rw [if_neg (by omega)]; simp; omega
            have HSN := Lib.hid (show (En.tl (m : Int) j).take (j - (i + 1)) ++ [b] = (En.tl (m : Int) j).take (j - i) by rw [En.tl_snoc _ _ _ (show i < j by omega), HM.out, hb])
            obtain ⟨x, hxx⟩ : ∃ x, En.dg m i = x := ⟨_, rfl⟩
            rw [hxx] at c1 hd hbn
            have wb : (x : Int) = (b.toNat : Int) := by exact hbn.symm
            clear hx hil hb hbn hxx
            rw [wb] at c1
            clear wb hd
            go_wp2_with (at_builtin; refine wpList_append_row (by rfl) _ _ 63 (by rfl) 5 i0 _ 1 1 Tryd.underlying63 hi hz0 hz1 hz2 rfl (by decide) (T.out.below ((Below.refl _ _).alloc (Nat.le_refl _) _)) (by rfl) _ _ 1 1 [.int .u8 b.toNat] (by rfl) (reads_blk (Blk.new _ _ _) rfl) (byte_one b) (by unfold maxLen; omega) (by omega) ?_; intro v' w' M' h' _; rw [byteVals_snoc] at h'; replace T := Lib.hid h'; clear h')
            rw [List.cons_append, HSN.out] at T
            go_roundg i
            case measure => omega
            case rel => exact ⟨_, by omega, rfl, by have := T.out; rw [show 1 + (j - (i + 1)) + 1 = 1 + (j - i) by omega] at this; exact this⟩
end Go.Proofs.YtdpcdocaahjeoaaDoor
namespace Go.Proofs.YtdpcdocaahjeoaaDoor
open Go Go.RowKit
theorem acc_len (l : List Int) (k : Nat) : ((l.take k).map En.int).flatten.length ≤ 9 * k := by
  induction l generalizing k with
  | nil => simp
  | cons a l ih =>
    cases k with
    | zero => simp
    | succ k =>
      simp only [List.take_succ_cons, List.map_cons, List.flatten_cons, List.length_append]
      have := ih k; have := En.int_le a; omega
def accI (l : List Int) (k : Nat) : List UInt8 := En.int l.length ++ ((l.take k).map En.int).flatten
theorem accI_le (l : List Int) (k : Nat) : (accI l k).length ≤ 9 * (k + 1) := by
  unfold accI; rw [List.length_append]; have := acc_len l k; have := En.int_le l.length; omega
theorem accI_snoc (l : List Int) (k : Nat) (h : k < l.length) : accI l k ++ En.int l[k] = accI l (k + 1) := by
  unfold accI; rw [take_snoc' l k h, List.map_append, List.flatten_append, List.append_assoc]; simp
theorem accI_all (l : List Int) : accI l l.length = En.ints l := by unfold accI En.ints; rw [List.take_length]
theorem accI_zero (l : List Int) : accI l 0 = En.int l.length := by unfold accI; simp
theorem reads_own {w : World} {base : Nat} {e : TypeId} {size n c : Nat} {A : Option Addr} {xs : List Value} (h : w.ownsRow base e size (.slice A n c) n xs) : Reads w w.heap.size size A n xs := Reads.of_own h
set_option maxRecDepth 100000 in
set_option maxHeartbeats 4000000 in
theorem rInts_any (l : List Int) (A : Option Addr) (c : Nat) (w : World) (hl : SlAt [] w A l) (hm : l.length ≤ 1000000) : Calls Tryd.prog 50 #[.slice A l.length c] w (BytesP (En.ints l) w) := by
  obtain ⟨i0, hi, hz0, hz1, hz2⟩ := info_parts infoU8
  obtain ⟨n, hn⟩ : ∃ n, l.length = n := ⟨_, rfl⟩
  rw [hn]
  rw [hn] at hm
  have T0 := Lib.hid ((held0 w [] (fun _ h => by cases h)).add (keeps_sl A l) hl)
  have HN := Lib.hid hn
  have CI := Lib.hid (rInt_any (n : Int) w (by unfold inI; omega))
  have HZ := Lib.hid (show En.int (n : Int) = accI l 0 by rw [accI_zero, hn])
  have HEND := Lib.hid (show accI l n = En.ints l by rw [← hn]; exact accI_all l)
  clear hl hn
  go_enter Tryd.func50, Tryd.ntmps50
  go_wp2_with (go_at_call 49; ((with_reducible refine (CI.out).mono ?_)); rintro e w1 ⟨v, rfl, hown, hb⟩; obtain ⟨M1, h1, _⟩ := T0.out.take hb hown; have T := Lib.hid h1; clear h1 hown hb)
  rw [HZ.out] at T
  go_loopg [3, 4] n (fun r v i wr => ∃ (k : Nat) (M : List Nat), k + r = n ∧ i = .int .i64 k ∧ HRow w [] M [] [fun M W => SlAt M W A l] 5 1 v (accI l k).length (byteVals (accI l k)) wr)
  case atStart => exact ⟨0, _, by omega, rfl, T.out⟩
  case round =>
    obtain ⟨k, M, hk, rfl, hH⟩ := hrel
    obtain ⟨wo, rfl⟩ : ∃ wo : World, wo = wr := ⟨_, rfl⟩
    replace T := Lib.hid hH
    clear hH
    by_cases hlt : k < n
    · have hkl : k < l.length := by rw [HN.out]; exact hlt
      have k0 : (0 : Int) ≤ (k : Int) := Int.natCast_nonneg _
      have k1 : (k : Int) < (n : Int) := by omega
      obtain ⟨b, o, rfl, _, c0, hx⟩ := int_at (T.out.h.fact (.head _)) k hkl
      have HSN := Lib.hid (accI_snoc l k hkl)
      have hle := accI_le l k
      obtain ⟨x, hxx⟩ : ∃ x, l[k] = x := ⟨_, rfl⟩
      rw [hxx] at c0 hx HSN
      have CX := Lib.hid (rInt_any x wo hx)
      have hxl := En.int_le x
      obtain ⟨na, hna⟩ : ∃ n, (accI l k).length = n := ⟨_, rfl⟩
      obtain ⟨nb, hnb⟩ : ∃ n, (En.int x).length = n := ⟨_, rfl⟩
      rw [hna] at hle T
      rw [hnb] at hxl
      have HNL := Lib.hid (show na + nb = (accI l (k + 1)).length by rw [← HSN.out, List.length_append, hna, hnb])
      unfold BytesP at CX
      rw [hnb] at CX
      clear hna hnb hxx hx
      go_wp2_with (first | (go_at_call 49; ((with_reducible refine (CX.out).mono ?_)); rintro e w1 ⟨v, rfl, hown, hb⟩; obtain ⟨Ab, cb, rfl⟩ := own_form hown; replace T := Lib.hid (T.out.below hb); have HR := Lib.hid (reads_own hown); clear hown hb) | (at_builtin; refine wpList_append_row (by rfl) _ _ 63 (by rfl) 5 i0 _ 1 1 Tryd.underlying63 hi hz0 hz1 hz2 rfl (by decide) T.out (by rfl) _ _ nb _ (byteVals (En.int x)) (by rfl) HR.out (byteVals_one _) (by unfold maxLen; omega) (by omega) ?_; intro v' w' M' h' _; rw [← byteVals_append, HSN.out, HNL.out] at h'; replace T := Lib.hid h'; clear h' HR))
      go_roundg (gk - 1)
      case measure => omega
      case rel => exact ⟨k + 1, _, by omega, by go_num, T.out⟩
    · have hkn : k = n := by omega
      subst hkn
      rw [HEND.out] at T
      go_wp2_with fail
      go_ret
      exact ⟨_, rfl, T.out.own, T.out.h.bl⟩
end Go.Proofs.YtdpcdocaahjeoaaDoor
