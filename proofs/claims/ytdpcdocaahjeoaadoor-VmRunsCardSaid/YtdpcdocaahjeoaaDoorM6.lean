/- Encode of the reference and of the package. -/
import Derived.Test.YtdpcdocaahjeoaaDoorM5
import Derived.WalkMore
namespace Go.Proofs.YtdpcdocaahjeoaaDoor
open Go Go.RowKit
theorem xor255F : ∀ x : Fin 256, bits .xor .u8 ((x.val : Nat) : Int) 255 = 255 - (x.val : Int) := by decide +kernel
theorem xor0F : ∀ x : Fin 256, bits .xor .u8 ((x.val : Nat) : Int) 0 = (x.val : Int) := by decide +kernel
theorem xor255 (x : Nat) (h : x < 256) : bits .xor .u8 (x : Int) 255 = 255 - (x : Int) := xor255F ⟨x, h⟩
theorem xor0 (x : Nat) (h : x < 256) : bits .xor .u8 (x : Int) 0 = (x : Int) := xor0F ⟨x, h⟩
theorem xorMax (U : Nat) (h : U < 18446744073709551616) : bits .xor .u64 IntKind.u64.max (U : Int) = 18446744073709551615 - (U : Int) := by
  unfold bits
  have h1 : BitVec.ofInt 64 18446744073709551615 = BitVec.allOnes 64 := by decide
  show IntKind.u64.wrap ((BitVec.ofInt 64 IntKind.u64.max ^^^ BitVec.ofInt 64 (U : Int)).toNat : Int) = _
  rw [show IntKind.u64.max = 18446744073709551615 from rfl, h1, BitVec.allOnes_xor, BitVec.toNat_not, BitVec.toNat_ofInt]
  simp only [IntKind.wrap, IntKind.signed, IntKind.bits]
  simp
  omega
theorem shr_is (m i : Nat) : (m : Int) / 2 ^ (8 * i) = ((m / 256 ^ i : Nat) : Int) := by
  have e : (2 : Nat) ^ (8 * i) = 256 ^ i := by rw [Nat.pow_mul]
  rw [← e, Int.natCast_ediv, Int.natCast_pow]; rfl
set_option maxRecDepth 100000 in
set_option maxHeartbeats 4000000 in
theorem int_any (n : Int) (w : World) (hn : inI n) : Calls Tryd.prog 47 #[.int .i64 n] w (BytesP (En.int n) w) := by
  obtain ⟨i0, hi, hz0, hz1, hz2⟩ := info_parts infoU8
  obtain ⟨m, hm⟩ : ∃ m, En.mag n = m := ⟨_, rfl⟩
  have hm63 := En.mag_lt hn
  rw [hm] at hm63
  obtain ⟨k, hk⟩ : ∃ k, En.nd m = k := ⟨_, rfl⟩
  have hk8 := En.nd_le m
  rw [hk] at hk8
  have HAT := Lib.hid (fun j => En.nd_at (j := j) hm63)
  have hn' := hn
  unfold inI at hn'
  by_cases h0 : n < 0
  · have hneg : (m : Int) = -1 - n := by rw [← hm]; unfold En.mag; rw [if_pos h0]; omega
    have d0 : decide (n < 0) = true := decide_eq_true h0
    obtain ⟨U, hU⟩ : ∃ U : Nat, (U : Int) = 18446744073709551616 + n := ⟨(18446744073709551616 + n).toNat, by omega⟩
    have wU : IntKind.u64.wrap n = (U : Int) := by simp only [IntKind.wrap, IntKind.signed, IntKind.bits]; simp; omega
    have wX : bits BinOp.xor IntKind.u64 IntKind.u64.max (U : Int) = (m : Int) := by rw [xorMax _ (by omega)]; omega
    have HNEG := Lib.hid hneg
    clear hU hneg
    have HM := Lib.hid hm
    have HK := Lib.hid hk
    clear hm hk
    go_enter Tryd.func47, Tryd.ntmps47
    go_wp2_with fail
    go_step3
    go_wp2_with fail
    go_step3
    go_wp2_with fail
    go_loopg [5] 8 (fun r i wr => wr = w ∧ i = .int .i64 r ∧ k ≤ r ∧ r ≤ 8)
    case atStart => exact ⟨rfl, rfl, hk8, Nat.le_refl _⟩
    case round =>
      obtain ⟨rfl, rfl, hkr, hr8⟩ := hrel
      obtain ⟨w, rfl⟩ : ∃ w0 : World, w0 = wr := ⟨_, rfl⟩
      have hat := HAT.out (gk - 1)
      rw [HK.out] at hat
      have hsh := shr_is m (gk - 1)
      obtain ⟨q, hq⟩ : ∃ q, m / 256 ^ (gk - 1) = q := ⟨_, rfl⟩
      rw [hq] at hat hsh
      clear hq
      by_cases hz : gk = 0
      · subst hz
        have hk0 : k = 0 := by omega
        subst hk0
        clear hat hsh
        have t1 : decide ((0 : Int) < ((0 : Nat) : Int)) = false := rfl
        have hk8' : 0 ≤ 8 := by first | omega | exact hk8
        obtain ⟨b0, hb0⟩ : ∃ b, En.head n = b := ⟨_, rfl⟩
        have HIN := Lib.hid (show En.int n = b0 :: En.tl n 0 by unfold En.int; rw [hb0, HM.out, HK.out])
        have wh : bits .xor .u8 (128 + ((0 : Nat) : Int)) 255 = (b0.toNat : Int) := by
          rw [← hb0]; unfold En.head; rw [if_pos h0, HM.out, HK.out, show (128 + ((0 : Nat) : Int)) = ((128 + 0 : Nat) : Int) by omega, xor255 _ (by omega)]
          simp <;> omega
        clear hb0
        rw [show (128 + ((0 : Nat) : Int)) = 128 from rfl] at wh
        have T := Lib.hid (HRow.lit w 5 (.int .u8 b0.toNat))
        go_wp2_with fail

        go_loopg [6, 7] 0 (fun r v i wr => ∃ M : List Nat, r ≤ 0 ∧ i = .int .i64 ((r : Int) - 1) ∧ HRow w [] M [] [] 5 1 v (1 + (0 - r)) (byteVals (b0 :: (En.tl n 0).take (0 - r))) wr)
        case atStart => exact ⟨_, Nat.le_refl _, rfl, by have := T.out; rw [Nat.sub_self]; exact this⟩
        case round =>
          obtain ⟨M, hr, rfl, hH⟩ := hrel
          obtain ⟨wo, rfl⟩ : ∃ wo : World, wo = wr := ⟨_, rfl⟩
          replace T := Lib.hid hH
          clear hH
          by_cases hg : gk = 0
          · subst hg
            have e1 : ((0 : Nat) : Int) - 1 = -1 := rfl
            rw [e1]
            clear e1
            go_wp2_with fail
            try rw [Exit.noGoto_ret]
            go_ret
            have h := T.out.own
            rw [Nat.sub_zero, List.take_of_length_le (Nat.le_of_eq (En.tl_length _ _)), ← HIN.out] at h
            exact ⟨_, rfl, by rw [HIN.out, List.length_cons, En.tl_length, Nat.add_comm, ← HIN.out]; exact h, T.out.h.bl⟩
          · exact absurd (Nat.le_zero.1 hr) hg
      · have t1 : decide ((0 : Int) < (gk : Int)) = true := decide_eq_true (by omega)
        have t5 : decide (0 < gk) = true := decide_eq_true (by omega)
        have t3 : (1 : Int) ≤ (gk : Int) := by omega
        have t4 : (gk : Int) ≤ 8 := by omega
        by_cases hkk : k = gk
        · subst hkk
          have q0 : 0 < q := hat.1 (by omega)
          have t2 : decide (0 < q) = true := decide_eq_true q0
          clear hat
          have hk8' : k ≤ 8 := by first | omega | exact hk8
          obtain ⟨b0, hb0⟩ : ∃ b, En.head n = b := ⟨_, rfl⟩
          have HIN := Lib.hid (show En.int n = b0 :: En.tl n k by unfold En.int; rw [hb0, HM.out, HK.out])
          have wh : bits .xor .u8 (128 + ((k : Nat) : Int)) 255 = (b0.toNat : Int) := by
            rw [← hb0]; unfold En.head; rw [if_pos h0, HM.out, HK.out, show (128 + ((k : Nat) : Int)) = ((128 + k : Nat) : Int) by omega, xor255 _ (by omega)]
            simp <;> omega
          clear hb0
          have T := Lib.hid (HRow.lit w 5 (.int .u8 b0.toNat))
          go_wp2_with fail
          try rw [hsh]
          go_loopg [6, 7] k (fun r v i wr => ∃ M : List Nat, r ≤ k ∧ i = .int .i64 ((r : Int) - 1) ∧ HRow w [] M [] [] 5 1 v (1 + (k - r)) (byteVals (b0 :: (En.tl n k).take (k - r))) wr)
          case atStart => exact ⟨_, Nat.le_refl _, rfl, by have := T.out; rw [Nat.sub_self]; exact this⟩
          case round =>
            obtain ⟨M, hr, rfl, hH⟩ := hrel
            obtain ⟨wo, rfl⟩ : ∃ wo : World, wo = wr := ⟨_, rfl⟩
            replace T := Lib.hid hH
            clear hH
            by_cases hg : gk = 0
            · subst hg
              have e1 : ((0 : Nat) : Int) - 1 = -1 := rfl
              rw [e1]
              clear e1
              go_wp2_with fail
              try rw [Exit.noGoto_ret]
              go_ret
              have h := T.out.own
              rw [Nat.sub_zero, List.take_of_length_le (Nat.le_of_eq (En.tl_length _ _)), ← HIN.out] at h
              exact ⟨_, rfl, by rw [HIN.out, List.length_cons, En.tl_length, Nat.add_comm, ← HIN.out]; exact h, T.out.h.bl⟩
            · obtain ⟨i, rfl⟩ : ∃ i, gk = i + 1 := ⟨gk - 1, by omega⟩
              have e1 : ((i + 1 : Nat) : Int) - 1 = (i : Int) := by omega
              rw [e1]
              clear e1
              have k0 : (0 : Int) ≤ (i : Int) := Int.natCast_nonneg _
              have k1 : (i : Int) < 8 := by omega
              obtain ⟨b, hb⟩ : ∃ b, En.flip n (En.dg m i) = b := ⟨_, rfl⟩
              have HSN := Lib.hid (show (En.tl n k).take (k - (i + 1)) ++ [b] = (En.tl n k).take (k - i) by rw [En.tl_snoc _ _ _ (show i < k by omega), HM.out, hb])
              have hd := En.dg_lt m i
              have wx : bits .xor .u8 ((En.dg m i : Nat) : Int) 255 = (b.toNat : Int) := by
                rw [xor255 _ hd, ← hb]; unfold En.flip; rw [if_pos h0]; simp; omega
              obtain ⟨x, hxx⟩ : ∃ x, En.dg m i = x := ⟨_, rfl⟩
              have hsh := shr_is m i
              obtain ⟨q, hq⟩ : ∃ q, m / 256 ^ i = q := ⟨_, rfl⟩
              have hdx : q % 256 = x := by rw [← hq, ← hxx]; rfl
              have hqm : q ≤ m := by rw [← hq]; exact Nat.div_le_self _ _
              rw [hq] at hsh
              rw [hxx] at wx hd
              have wb : IntKind.u8.wrap (q : Int) = (x : Int) := by rw [← hdx]; simp only [IntKind.wrap, IntKind.signed, IntKind.bits]; simp
              clear hb hxx hq hdx
              go_wp2_with (at_builtin; refine wpList_append_row (by rfl) _ _ 63 (by rfl) 5 i0 _ 1 1 Tryd.underlying63 hi hz0 hz1 hz2 rfl (by decide) (T.out.below ((Below.refl _ _).alloc (Nat.le_refl _) _)) (by rfl) _ _ 1 1 [.int .u8 b.toNat] (by rfl) (reads_blk (Blk.new _ _ _) rfl) (byte_one b) (by unfold maxLen; omega) (by omega) ?_; intro v' w' M' h' _; rw [byteVals_snoc] at h'; replace T := Lib.hid h'; clear h')
              rw [List.cons_append, HSN.out] at T
              go_roundg i
              case measure => omega
              case rel => exact ⟨_, by omega, rfl, by have := T.out; rw [show 1 + (k - (i + 1)) + 1 = 1 + (k - i) by omega] at this; exact this⟩
        · have q0 : q = 0 := by have := hat.2; omega
          subst q0
          clear hat
          go_wp2_with fail
          go_roundg (gk - 1)
          case measure => omega
          case rel => exact ⟨rfl, by rw [show ((gk - 1 : Nat) : Int) = (gk : Int) - 1 by omega], by omega, by omega⟩
  · have hneg : (m : Int) = n := by rw [← hm]; unfold En.mag; rw [if_neg h0]; omega
    obtain rfl := hneg
    have HM := Lib.hid hm
    have HK := Lib.hid hk
    clear hm hk
    go_enter Tryd.func47, Tryd.ntmps47
    go_wp2_with fail
    go_step3
    go_wp2_with fail
    go_step3
    go_wp2_with fail
    go_loopg [5] 8 (fun r i wr => wr = w ∧ i = .int .i64 r ∧ k ≤ r ∧ r ≤ 8)
    case atStart => exact ⟨rfl, rfl, hk8, Nat.le_refl _⟩
    case round =>
      obtain ⟨rfl, rfl, hkr, hr8⟩ := hrel
      obtain ⟨w, rfl⟩ : ∃ w0 : World, w0 = wr := ⟨_, rfl⟩
      have hat := HAT.out (gk - 1)
      rw [HK.out] at hat
      have hsh := shr_is m (gk - 1)
      obtain ⟨q, hq⟩ : ∃ q, m / 256 ^ (gk - 1) = q := ⟨_, rfl⟩
      rw [hq] at hat hsh
      clear hq
      by_cases hz : gk = 0
      · subst hz
        have hk0 : k = 0 := by omega
        subst hk0
        clear hat hsh
        have t1 : decide ((0 : Int) < ((0 : Nat) : Int)) = false := rfl
        have hk8' : 0 ≤ 8 := by first | omega | exact hk8
        obtain ⟨b0, hb0⟩ : ∃ b, En.head (m : Int) = b := ⟨_, rfl⟩
        have HIN := Lib.hid (show En.int (m : Int) = b0 :: En.tl (m : Int) 0 by unfold En.int; rw [hb0, HM.out, HK.out])
        have wh : bits .xor .u8 (128 + ((0 : Nat) : Int)) 0 = (b0.toNat : Int) := by
          rw [← hb0]; unfold En.head; rw [if_neg (by omega), HM.out, HK.out, show (128 + ((0 : Nat) : Int)) = ((128 + 0 : Nat) : Int) by omega, xor0 _ (by omega)]
          simp <;> omega
        clear hb0
        rw [show (128 + ((0 : Nat) : Int)) = 128 from rfl] at wh
        have T := Lib.hid (HRow.lit w 5 (.int .u8 b0.toNat))
        go_wp2_with fail

        go_loopg [6, 7] 0 (fun r v i wr => ∃ M : List Nat, r ≤ 0 ∧ i = .int .i64 ((r : Int) - 1) ∧ HRow w [] M [] [] 5 1 v (1 + (0 - r)) (byteVals (b0 :: (En.tl (m : Int) 0).take (0 - r))) wr)
        case atStart => exact ⟨_, Nat.le_refl _, rfl, by have := T.out; rw [Nat.sub_self]; exact this⟩
        case round =>
          obtain ⟨M, hr, rfl, hH⟩ := hrel
          obtain ⟨wo, rfl⟩ : ∃ wo : World, wo = wr := ⟨_, rfl⟩
          replace T := Lib.hid hH
          clear hH
          by_cases hg : gk = 0
          · subst hg
            have e1 : ((0 : Nat) : Int) - 1 = -1 := rfl
            rw [e1]
            clear e1
            go_wp2_with fail
            try rw [Exit.noGoto_ret]
            go_ret
            have h := T.out.own
            rw [Nat.sub_zero, List.take_of_length_le (Nat.le_of_eq (En.tl_length _ _)), ← HIN.out] at h
            exact ⟨_, rfl, by rw [HIN.out, List.length_cons, En.tl_length, Nat.add_comm, ← HIN.out]; exact h, T.out.h.bl⟩
          · exact absurd (Nat.le_zero.1 hr) hg
      · have t1 : decide ((0 : Int) < (gk : Int)) = true := decide_eq_true (by omega)
        have t5 : decide (0 < gk) = true := decide_eq_true (by omega)
        have t3 : (1 : Int) ≤ (gk : Int) := by omega
        have t4 : (gk : Int) ≤ 8 := by omega
        by_cases hkk : k = gk
        · subst hkk
          have q0 : 0 < q := hat.1 (by omega)
          have t2 : decide (0 < q) = true := decide_eq_true q0
          clear hat
          have hk8' : k ≤ 8 := by first | omega | exact hk8
          obtain ⟨b0, hb0⟩ : ∃ b, En.head (m : Int) = b := ⟨_, rfl⟩
          have HIN := Lib.hid (show En.int (m : Int) = b0 :: En.tl (m : Int) k by unfold En.int; rw [hb0, HM.out, HK.out])
          have wh : bits .xor .u8 (128 + ((k : Nat) : Int)) 0 = (b0.toNat : Int) := by
            rw [← hb0]; unfold En.head; rw [if_neg (by omega), HM.out, HK.out, show (128 + ((k : Nat) : Int)) = ((128 + k : Nat) : Int) by omega, xor0 _ (by omega)]
            simp <;> omega
          clear hb0
          have T := Lib.hid (HRow.lit w 5 (.int .u8 b0.toNat))
          go_wp2_with fail
          try rw [hsh]
          go_loopg [6, 7] k (fun r v i wr => ∃ M : List Nat, r ≤ k ∧ i = .int .i64 ((r : Int) - 1) ∧ HRow w [] M [] [] 5 1 v (1 + (k - r)) (byteVals (b0 :: (En.tl (m : Int) k).take (k - r))) wr)
          case atStart => exact ⟨_, Nat.le_refl _, rfl, by have := T.out; rw [Nat.sub_self]; exact this⟩
          case round =>
            obtain ⟨M, hr, rfl, hH⟩ := hrel
            obtain ⟨wo, rfl⟩ : ∃ wo : World, wo = wr := ⟨_, rfl⟩
            replace T := Lib.hid hH
            clear hH
            by_cases hg : gk = 0
            · subst hg
              have e1 : ((0 : Nat) : Int) - 1 = -1 := rfl
              rw [e1]
              clear e1
              go_wp2_with fail
              try rw [Exit.noGoto_ret]
              go_ret
              have h := T.out.own
              rw [Nat.sub_zero, List.take_of_length_le (Nat.le_of_eq (En.tl_length _ _)), ← HIN.out] at h
              exact ⟨_, rfl, by rw [HIN.out, List.length_cons, En.tl_length, Nat.add_comm, ← HIN.out]; exact h, T.out.h.bl⟩
            · obtain ⟨i, rfl⟩ : ∃ i, gk = i + 1 := ⟨gk - 1, by omega⟩
              have e1 : ((i + 1 : Nat) : Int) - 1 = (i : Int) := by omega
              rw [e1]
              clear e1
              have k0 : (0 : Int) ≤ (i : Int) := Int.natCast_nonneg _
              have k1 : (i : Int) < 8 := by omega
              obtain ⟨b, hb⟩ : ∃ b, En.flip (m : Int) (En.dg m i) = b := ⟨_, rfl⟩
              have HSN := Lib.hid (show (En.tl (m : Int) k).take (k - (i + 1)) ++ [b] = (En.tl (m : Int) k).take (k - i) by rw [En.tl_snoc _ _ _ (show i < k by omega), HM.out, hb])
              have hd := En.dg_lt m i
              have wx : bits .xor .u8 ((En.dg m i : Nat) : Int) 0 = (b.toNat : Int) := by
                rw [xor0 _ hd, ← hb]; unfold En.flip; rw [if_neg (by omega)]; simp; omega
              obtain ⟨x, hxx⟩ : ∃ x, En.dg m i = x := ⟨_, rfl⟩
              have hsh := shr_is m i
              obtain ⟨q, hq⟩ : ∃ q, m / 256 ^ i = q := ⟨_, rfl⟩
              have hdx : q % 256 = x := by rw [← hq, ← hxx]; rfl
              have hqm : q ≤ m := by rw [← hq]; exact Nat.div_le_self _ _
              rw [hq] at hsh
              rw [hxx] at wx hd
              have wb : IntKind.u8.wrap (q : Int) = (x : Int) := by rw [← hdx]; simp only [IntKind.wrap, IntKind.signed, IntKind.bits]; simp
              clear hb hxx hq hdx
              go_wp2_with (at_builtin; refine wpList_append_row (by rfl) _ _ 63 (by rfl) 5 i0 _ 1 1 Tryd.underlying63 hi hz0 hz1 hz2 rfl (by decide) (T.out.below ((Below.refl _ _).alloc (Nat.le_refl _) _)) (by rfl) _ _ 1 1 [.int .u8 b.toNat] (by rfl) (reads_blk (Blk.new _ _ _) rfl) (byte_one b) (by unfold maxLen; omega) (by omega) ?_; intro v' w' M' h' _; rw [byteVals_snoc] at h'; replace T := Lib.hid h'; clear h')
              rw [List.cons_append, HSN.out] at T
              go_roundg i
              case measure => omega
              case rel => exact ⟨_, by omega, rfl, by have := T.out; rw [show 1 + (k - (i + 1)) + 1 = 1 + (k - i) by omega] at this; exact this⟩
        · have q0 : q = 0 := by have := hat.2; omega
          subst q0
          clear hat
          go_wp2_with fail
          go_roundg (gk - 1)
          case measure => omega
          case rel => exact ⟨rfl, by rw [show ((gk - 1 : Nat) : Int) = (gk : Int) - 1 by omega], by omega, by omega⟩
end Go.Proofs.YtdpcdocaahjeoaaDoor
namespace Go.Proofs.YtdpcdocaahjeoaaDoor
open Go Go.RowKit
set_option maxRecDepth 100000 in
set_option maxHeartbeats 4000000 in
theorem ints_any (l : List Int) (A : Option Addr) (c : Nat) (w : World) (hl : SlAt [] w A l) (hm : l.length ≤ 1000000) : Calls Tryd.prog 48 #[.slice A l.length c] w (BytesP (En.ints l) w) := by
  obtain ⟨i0, hi, hz0, hz1, hz2⟩ := info_parts infoU8
  obtain ⟨n, hn⟩ : ∃ n, l.length = n := ⟨_, rfl⟩
  rw [hn]
  rw [hn] at hm
  have T0 := Lib.hid ((held0 w [] (fun _ h => by cases h)).add (keeps_sl A l) hl)
  have HN := Lib.hid hn
  have CI := Lib.hid (int_any (n : Int) w (by unfold inI; omega))
  have HZ := Lib.hid (show En.int (n : Int) = accI l 0 by rw [accI_zero, hn])
  have HEND := Lib.hid (show accI l n = En.ints l by rw [← hn]; exact accI_all l)
  clear hl hn
  go_enter Tryd.func48, Tryd.ntmps48
  go_wp2_with (go_at_call 47; ((with_reducible refine (CI.out).mono ?_)); rintro e w1 ⟨v, rfl, hown, hb⟩; obtain ⟨M1, h1, _⟩ := T0.out.take hb hown; have T := Lib.hid h1; clear h1 hown hb)
  rw [HZ.out] at T
  go_loopg [3, 11] n (fun r v i wr => ∃ (k : Nat) (M : List Nat), k + r = n ∧ i = .int .i64 k ∧ HRow w [] M [] [fun M W => SlAt M W A l] 5 1 v (accI l k).length (byteVals (accI l k)) wr)
  case atStart => exact ⟨0, _, by omega, rfl, T.out⟩
  case round =>
    obtain ⟨k, M, hk, rfl, hH⟩ := hrel
    obtain ⟨wo, rfl⟩ : ∃ wo : World, wo = wr := ⟨_, rfl⟩
    replace T := Lib.hid hH
    clear hH
    by_cases hlt : k < n
    · have hkl : k < l.length := by rw [HN.out]; exact hlt
      have k0 : (0 : Int) ≤ (k : Int) := Int.natCast_nonneg _
      have k1 : (k : Int) < (n : Int) := by omega
      obtain ⟨b, o, rfl, _, c0, hx⟩ := int_at (T.out.h.fact (.head _)) k hkl
      have HSN := Lib.hid (accI_snoc l k hkl)
      have hle := accI_le l k
      obtain ⟨x, hxx⟩ : ∃ x, l[k] = x := ⟨_, rfl⟩
      rw [hxx] at c0 hx HSN
      have CX := Lib.hid (int_any x wo hx)
      have hxl := En.int_le x
      obtain ⟨na, hna⟩ : ∃ n, (accI l k).length = n := ⟨_, rfl⟩
      obtain ⟨nb, hnb⟩ : ∃ n, (En.int x).length = n := ⟨_, rfl⟩
      rw [hna] at hle T
      rw [hnb] at hxl
      have HNL := Lib.hid (show na + nb = (accI l (k + 1)).length by rw [← HSN.out, List.length_append, hna, hnb])
      unfold BytesP at CX
      rw [hnb] at CX
      clear hna hnb hxx hx
      go_wp2_with (first | (go_at_call 47; ((with_reducible refine (CX.out).mono ?_)); rintro e w1 ⟨v, rfl, hown, hb⟩; obtain ⟨Ab, cb, rfl⟩ := own_form hown; replace T := Lib.hid (T.out.below hb); have HR := Lib.hid (reads_own hown); clear hown hb) | (at_builtin; refine wpList_append_row (by rfl) _ _ 63 (by rfl) 5 i0 _ 1 1 Tryd.underlying63 hi hz0 hz1 hz2 rfl (by decide) T.out (by rfl) _ _ nb _ (byteVals (En.int x)) (by rfl) HR.out (byteVals_one _) (by unfold maxLen; omega) (by omega) ?_; intro v' w' M' h' _; rw [← byteVals_append, HSN.out, HNL.out] at h'; replace T := Lib.hid h'; clear h' HR))
      go_roundg (gk - 1)
      case measure => omega
      case rel => exact ⟨k + 1, _, by omega, by go_num, T.out⟩
    · have hkn : k = n := by omega
      subst hkn
      rw [HEND.out] at T
      go_wp2_with fail
      go_ret
      exact ⟨_, rfl, T.out.own, T.out.h.bl⟩
def encI (i : Vm.Ins) : List UInt8 := En.ints [i.1, i.2.1, i.2.2.1, i.2.2.2]
def encP (p : List Vm.Ins) : List UInt8 := En.int p.length ++ (p.map encI).flatten
theorem encI_le (i : Vm.Ins) : (encI i).length ≤ 45 := by
  unfold encI
  have h1 := accI_le [i.1, i.2.1, i.2.2.1, i.2.2.2] 4
  have h2 := accI_all [i.1, i.2.1, i.2.2.1, i.2.2.2]
  rw [show [i.1, i.2.1, i.2.2.1, i.2.2.2].length = 4 from rfl] at h2
  rw [← h2]
  exact h1
theorem encA_le (p : List Vm.Ins) (k : Nat) : ((p.take k).map encI).flatten.length ≤ 45 * k := by
  induction p generalizing k with
  | nil => simp
  | cons a l ih =>
    cases k with
    | zero => simp
    | succ k =>
      simp only [List.take_succ_cons, List.map_cons, List.flatten_cons, List.length_append]
      have := ih k; have := encI_le a; omega
def accP (p : List Vm.Ins) (k : Nat) : List UInt8 := En.int p.length ++ ((p.take k).map encI).flatten
theorem accP_le (p : List Vm.Ins) (k : Nat) : (accP p k).length ≤ 45 * (k + 1) := by
  unfold accP; rw [List.length_append]; have := encA_le p k; have := En.int_le p.length; omega
theorem accP_snoc (p : List Vm.Ins) (k : Nat) (h : k < p.length) : accP p k ++ encI p[k] = accP p (k + 1) := by
  unfold accP; rw [take_snoc' p k h, List.map_append, List.flatten_append, List.append_assoc]; simp
theorem accP_all (p : List Vm.Ins) : accP p p.length = encP p := by unfold accP encP; rw [List.take_length]
theorem accP_zero (p : List Vm.Ins) : accP p 0 = En.int p.length := by unfold accP; simp
theorem blk_new {w : World} {t : TypeId} {cs : Array Value} {N : Nat} (h : w.heap.size = N) : Blk (w.alloc (.cells cs t)) N t cs := by subst h; exact Blk.new w t cs
theorem sl4 {W : World} {g : Nat} {a b c d : Int} (h : Blk W g 3 #[.int .i64 a, .int .i64 b, .int .i64 c, .int .i64 d]) (ha : inI a) (hb : inI b) (hc : inI c) (hd : inI d) : SlAt [] W (some ⟨g, 0, none⟩) [a, b, c, d] :=
  SlAt.of_blk (xs := [.int .i64 a, .int .i64 b, .int .i64 c, .int .i64 d]) ⟨[_], _, rfl, ⟨rfl, ha⟩, [_], _, rfl, ⟨rfl, hb⟩, [_], _, rfl, ⟨rfl, hc⟩, [_], [], rfl, ⟨rfl, hd⟩, rfl⟩ h (by simp)
/-- Bytes in a row of somebody's own. -/
def IsBytes (l : List UInt8) (v : Value) (w : World) : Prop := ∃ base, w.ownsRow base 5 1 v l.length (byteVals l)
theorem isBytes_kept (l : List UInt8) : Kept (IsBytes l) := fun _ _ _ ⟨base, h⟩ hb => ⟨base, owns_below h hb⟩
set_option maxRecDepth 100000 in
set_option maxHeartbeats 4000000 in
theorem rEncode_any (p : List Vm.Ins) (A : Option Addr) (c : Nat) (w : World) (hp : SlAt [] w A p) (hm : p.length ≤ 1000000) : Calls Tryd.prog 22 #[.slice A p.length c] w (BytesP (encP p) w) := by
  obtain ⟨i0, hi, hz0, hz1, hz2⟩ := info_parts infoU8
  have HII := Lib.hid (show _ ∧ _ ∧ _ ∧ _ from ⟨hi, hz0, hz1, hz2⟩)
  obtain ⟨n, hn⟩ : ∃ n, p.length = n := ⟨_, rfl⟩
  rw [hn]
  rw [hn] at hm
  have T0 := Lib.hid ((held0 w [] (fun _ h => by cases h)).add (keeps_sl A p) hp)
  have HN := Lib.hid hn
  have CI := Lib.hid (rInt_any (n : Int) w (by unfold inI; omega))
  have HZ := Lib.hid (show En.int (n : Int) = accP p 0 by rw [accP_zero, hn])
  have HEND := Lib.hid (show accP p n = encP p by rw [← hn]; exact accP_all p)
  clear hp hn hi hz0 hz1 hz2
  go_enter Tryd.func22, Tryd.ntmps22
  go_wp2_with (go_at_call 49; ((with_reducible refine (CI.out).mono ?_)); rintro e w1 ⟨v, rfl, hown, hb⟩; obtain ⟨M1, h1, _⟩ := T0.out.take hb hown; have T := Lib.hid h1; clear h1 hown hb)
  rw [HZ.out] at T
  go_loopg [3, 4] n (fun r v i wr => ∃ (k : Nat) (M : List Nat), k + r = n ∧ i = .int .i64 k ∧ HRow w [] M [] [fun M W => SlAt M W A p] 5 1 v (accP p k).length (byteVals (accP p k)) wr)
  case atStart => exact ⟨0, _, by omega, rfl, T.out⟩
  case round =>
    obtain ⟨k, M, hk, rfl, hH⟩ := hrel
    obtain ⟨wo, rfl⟩ : ∃ wo : World, wo = wr := ⟨_, rfl⟩
    replace T := Lib.hid hH
    clear hH
    by_cases hlt : k < n
    · have hkp : k < p.length := by rw [HN.out]; exact hlt
      have k0 : (0 : Int) ≤ (k : Int) := Int.natCast_nonneg _
      have k1 : (k : Int) < (n : Int) := by omega
      obtain ⟨b, o, rfl, _, e0, e1, e2, e3, i0', i1, i2, i3⟩ := Vm.ins_at (T.out.h.fact (.head _)) k hkp
      have HSN := Lib.hid (accP_snoc p k hkp)
      have hle := accP_le p k
      obtain ⟨i, hi'⟩ : ∃ i, p[k] = i := ⟨_, rfl⟩
      rw [hi'] at HSN e0 e1 e2 e3 i0' i1 i2 i3
      have HI := Lib.hid hi'
      have hxl := encI_le i
      obtain ⟨op, x, y, z⟩ := i
      dsimp only at e0 e1 e2 e3 i0' i1 i2 i3
      obtain ⟨na, hna⟩ : ∃ n, (accP p k).length = n := ⟨_, rfl⟩
      obtain ⟨nb, hnb⟩ : ∃ n, (encI (op, x, y, z)).length = n := ⟨_, rfl⟩
      have CX := Lib.hid (fun W g (hB : Blk W g 3 #[.int .i64 op, .int .i64 x, .int .i64 y, .int .i64 z]) => show Calls Tryd.prog 50 #[.slice (some ⟨g, 0, none⟩) 4 4] W _ from rInts_any [op, x, y, z] (some ⟨g, 0, none⟩) 4 W (sl4 hB i0' i1 i2 i3) (by simp))
      rw [show En.ints [op, x, y, z] = encI (op, x, y, z) from rfl] at CX
      unfold BytesP at CX
      simp only [hnb] at CX
      rw [hna] at hle T
      rw [hnb] at hxl
      have HNL := Lib.hid (show na + nb = (accP p (k + 1)).length by rw [← HSN.out, List.length_append, hna, hnb])
      have HNB := Lib.hid hnb
      generalize encI (op, x, y, z) = L at *
      clear hna hnb hi' i0' i1 i2 i3
      clear e0 e1 e2 e3
      go_wp2_with fail
      apply wp_region_typed (C := fun w' => HRow w [] M [] [fun M W => SlAt M W (some ⟨b, o, none⟩) p] 5 1 u3 na (byteVals (accP p k)) w') (n := 39) (m := 23) (l1 := [_, _, _, _, _, _, _, _, _, _, _, _, _, _, _, _, _, _, _, _, _, _, _]) (l2 := [_, _])
      · rfl
      · rfl
      · kernel_rfl
      · rfl
      · kernel_rfl
      · exact T.out.drew
      · exact fun u u' h hb => (by first | exact h.below hb | exact h.trans (hb.mono h.size))
      iterate 21 ((apply wpT_exact; · (intro w' hC hf; unfold Gives; obtain ⟨b', o', hbo, _, c0, c1, c2, c3, _⟩ := Vm.ins_at (hC.h.fact (.head _)) k hkp; obtain ⟨rfl, rfl⟩ := addr_inj hbo; rw [HI.out] at c0 c1 c2 c3; dsimp only at c0 c1 c2 c3; clear hf hC; go_wp2_with (fail); apply postT_val rfl (Below.refl _ _); simp only [valAt, Array.getD_eq_getD_getElem?, List.getElem?_toArray, List.getElem?_cons_succ, List.getElem?_cons_zero, Option.getD_some]; exact rfl)); (try simp only [Act.put, List.setIfInBounds_toArray, List.set_cons_zero, List.set_cons_succ]))
      apply wpT_typed (slBlk_kept 4 3 #[.int .i64 op, .int .i64 x, .int .i64 y, .int .i64 z])
      · intro w' hC hf; unfold Gives; clear hf hC; go_wp2_with fail; apply postT_mk rfl (by go_grown); simp only [valAt, Array.getD_eq_getD_getElem?, List.getElem?_toArray, List.getElem?_cons_succ, List.getElem?_cons_zero, Option.getD_some]; exact ⟨_, rfl, Blk.new _ _ _⟩
      intro vsl; (try simp only [Act.put, List.setIfInBounds_toArray, List.set_cons_zero, List.set_cons_succ])
      apply wpT_typed (isBytes_kept L)
      · intro w' hC hf; unfold Gives
        obtain ⟨g, rfl, hB⟩ := hf.1 rfl
        have HB := Lib.hid hB
        clear hf hC hB
        go_wp2_with (go_at_call 50; ((with_reducible refine (CX.out _ _ HB.out).mono ?_)); rintro e w2 ⟨v, rfl, hown, hb⟩; have HO := Lib.hid hown; have HBL := Lib.hid hb; clear hown hb)
        apply postT_mk rfl HBL.out; simp only [valAt, Array.getD_eq_getD_getElem?, List.getElem?_toArray, List.getElem?_cons_succ, List.getElem?_cons_zero, Option.getD_some]; exact ⟨_, by rw [HNB.out]; exact HO.out⟩
      intro vb; (try simp only [Act.put, List.setIfInBounds_toArray, List.set_cons_zero, List.set_cons_succ])
      apply wpT_done
      intro w4 hC hall
      obtain ⟨base, hown⟩ := hall.1
      rw [HNB.out] at hown
      obtain ⟨Ab, cb, rfl⟩ := own_form hown
      have HR := Lib.hid (reads_own hown)
      replace T := Lib.hid hC
      clear hown hall hC
      obtain ⟨hi, hz0, hz1, hz2⟩ := HII.out
      refine wpList_append_row (by rfl) _ _ 63 (by rfl) 5 i0 _ 1 1 Tryd.underlying63 hi hz0 hz1 hz2 rfl (by decide) T.out (by rfl) _ _ nb _ (byteVals L) (by rfl) HR.out (byteVals_one _) (by unfold maxLen; omega) (by omega) ?_
      intro v5 w5 M5 h5 _
      rw [← byteVals_append, HSN.out, HNL.out] at h5
      replace T := Lib.hid h5
      clear h5 hi hz0 hz1 hz2
      go_wp2_with fail
      go_roundg (gk - 1)
      case measure => omega
      case rel => exact ⟨k + 1, _, by omega, by go_num, T.out⟩
    · have hkn : k = n := by omega
      subst hkn
      rw [HEND.out] at T
      go_wp2_with fail
      go_ret
      exact ⟨_, rfl, T.out.own, T.out.h.bl⟩
set_option maxRecDepth 100000 in
set_option maxHeartbeats 4000000 in
theorem encode_any (p : List Vm.Ins) (A : Option Addr) (c : Nat) (w : World) (hp : SlAt [] w A p) (hm : p.length ≤ 1000000) : Calls Tryd.prog 21 #[.slice A p.length c] w (BytesP (encP p) w) := by
  obtain ⟨i0, hi, hz0, hz1, hz2⟩ := info_parts infoU8
  have HII := Lib.hid (show _ ∧ _ ∧ _ ∧ _ from ⟨hi, hz0, hz1, hz2⟩)
  obtain ⟨n, hn⟩ : ∃ n, p.length = n := ⟨_, rfl⟩
  rw [hn]
  rw [hn] at hm
  have T0 := Lib.hid ((held0 w [] (fun _ h => by cases h)).add (keeps_sl A p) hp)
  have HN := Lib.hid hn
  have CI := Lib.hid (int_any (n : Int) w (by unfold inI; omega))
  have HZ := Lib.hid (show En.int (n : Int) = accP p 0 by rw [accP_zero, hn])
  have HEND := Lib.hid (show accP p n = encP p by rw [← hn]; exact accP_all p)
  clear hp hn hi hz0 hz1 hz2
  go_enter Tryd.func21, Tryd.ntmps21
  go_wp2_with (go_at_call 47; ((with_reducible refine (CI.out).mono ?_)); rintro e w1 ⟨v, rfl, hown, hb⟩; obtain ⟨M1, h1, _⟩ := T0.out.take hb hown; have T := Lib.hid h1; clear h1 hown hb)
  rw [HZ.out] at T
  go_loopg [3, 11] n (fun r v i wr => ∃ (k : Nat) (M : List Nat), k + r = n ∧ i = .int .i64 k ∧ HRow w [] M [] [fun M W => SlAt M W A p] 5 1 v (accP p k).length (byteVals (accP p k)) wr)
  case atStart => exact ⟨0, _, by omega, rfl, T.out⟩
  case round =>
    obtain ⟨k, M, hk, rfl, hH⟩ := hrel
    obtain ⟨wo, rfl⟩ : ∃ wo : World, wo = wr := ⟨_, rfl⟩
    replace T := Lib.hid hH
    clear hH
    by_cases hlt : k < n
    · have hkp : k < p.length := by rw [HN.out]; exact hlt
      have k0 : (0 : Int) ≤ (k : Int) := Int.natCast_nonneg _
      have k1 : (k : Int) < (n : Int) := by omega
      obtain ⟨b, o, rfl, _, e0, e1, e2, e3, i0', i1, i2, i3⟩ := Vm.ins_at (T.out.h.fact (.head _)) k hkp
      have HSN := Lib.hid (accP_snoc p k hkp)
      have hle := accP_le p k
      obtain ⟨i, hi'⟩ : ∃ i, p[k] = i := ⟨_, rfl⟩
      rw [hi'] at HSN e0 e1 e2 e3 i0' i1 i2 i3
      have HI := Lib.hid hi'
      have hxl := encI_le i
      obtain ⟨op, x, y, z⟩ := i
      dsimp only at e0 e1 e2 e3 i0' i1 i2 i3
      obtain ⟨na, hna⟩ : ∃ n, (accP p k).length = n := ⟨_, rfl⟩
      obtain ⟨nb, hnb⟩ : ∃ n, (encI (op, x, y, z)).length = n := ⟨_, rfl⟩
      have CX := Lib.hid (fun W g (hB : Blk W g 3 #[.int .i64 op, .int .i64 x, .int .i64 y, .int .i64 z]) => show Calls Tryd.prog 48 #[.slice (some ⟨g, 0, none⟩) 4 4] W _ from ints_any [op, x, y, z] (some ⟨g, 0, none⟩) 4 W (sl4 hB i0' i1 i2 i3) (by simp))
      rw [show En.ints [op, x, y, z] = encI (op, x, y, z) from rfl] at CX
      unfold BytesP at CX
      simp only [hnb] at CX
      rw [hna] at hle T
      rw [hnb] at hxl
      have HNL := Lib.hid (show na + nb = (accP p (k + 1)).length by rw [← HSN.out, List.length_append, hna, hnb])
      have HNB := Lib.hid hnb
      generalize encI (op, x, y, z) = L at *
      clear hna hnb hi' i0' i1 i2 i3
      replace T := Lib.hid (T.out.new #[.int .i64 op, .int .i64 x, .int .i64 y, .int .i64 z] 104 rfl)
      go_wp2_with (first | (go_at_call 48; ((with_reducible refine (CX.out _ _ (blk_new (by simp))).mono ?_)); rintro e w1 ⟨v, rfl, hown, hb⟩; obtain ⟨Ab, cb, rfl⟩ := own_form hown; replace T := Lib.hid ((T.out.below ((Below.refl _ _).alloc (Nat.le_refl _) _)).below hb); have HR := Lib.hid (reads_own hown); clear hown hb) | (at_builtin; obtain ⟨hi, hz0, hz1, hz2⟩ := HII.out; refine wpList_append_row (by rfl) _ _ 63 (by rfl) 5 i0 _ 1 1 Tryd.underlying63 hi hz0 hz1 hz2 rfl (by decide) T.out (by rfl) _ _ nb _ (byteVals L) (by rfl) HR.out (byteVals_one _) (by unfold maxLen; omega) (by omega) ?_; intro v5 w5 M5 h5 _; rw [← byteVals_append, HSN.out, HNL.out] at h5; replace T := Lib.hid (h5.rest rfl); clear h5 hi hz0 hz1 hz2 HR))
      go_roundg (gk - 1)
      case measure => omega
      case rel => exact ⟨k + 1, _, by omega, by go_num, T.out⟩
    · have hkn : k = n := by omega
      subst hkn
      rw [HEND.out] at T
      go_wp2_with fail
      go_ret
      exact ⟨_, rfl, T.out.own, T.out.h.bl⟩
end Go.Proofs.YtdpcdocaahjeoaaDoor
