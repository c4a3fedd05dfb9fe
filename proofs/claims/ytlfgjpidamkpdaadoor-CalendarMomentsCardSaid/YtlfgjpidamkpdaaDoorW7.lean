/- The reference's digits, Text, number and Parse. -/
import Derived.Test.YtlfgjpidamkpdaaDoorW6
import Derived.Test.YtlfgjpidamkpdaaDoorMem2
namespace Go.Proofs.YtlfgjpidamkpdaaDoor
open Go.RowKit
theorem u8_info : (Tryd.prog.info? 5).map (fun i => (i.zero, i.size, i.bytes)) = some (some (.int .u8 0), 1, 1) := by kernel_rfl
theorem und5 : Tryd.prog.underlying 5 = some (.int .u8) := Tryd.underlying5
theorem digit_byte (q : Nat) : ((UInt8.ofNat (48 + q % 10)).toNat : Int) = 48 + ↑q % 10 := by
  rw [UInt8.toNat_ofNat']; omega
set_option maxHeartbeats 1000000 in
theorem digits_any (N m : Nat) (w : World) (h1 : N ≤ 9999) (h2 : m ≤ 100) :
    Calls Tryd.prog 45 #[.int .i64 N, .int .i64 m] w fun e w' => e = .returned (.string ⟨(Cal.digs N m).toArray⟩) ∧ Below w.heap.size w w' := by
  obtain ⟨i0, hi0, hz0, hz1, hz2⟩ := info_parts u8_info
  go_enter Tryd.func45, Tryd.ntmps45
  go_wp2_with fail
  go_loopw [0, 5, 6] (fun t v i wr => ∃ k : Nat, k ≤ m ∧ i = .int .i64 k ∧ t = .int .i64 ((N / 10 ^ k : Nat) : Int) ∧ wr.ownsRow w.heap.size 5 1 v k (byteVals (Cal.digs N k)) ∧ Below w.heap.size w wr) (fun _ _ i _ => m - (intOf i).toNat)
  case atStart => exact ⟨0, by omega, rfl, by simp, ⟨by simp [Cal.digs, byteVals], .inl ⟨rfl, rfl⟩⟩, Below.refl _ _⟩
  case round =>
    obtain ⟨k, hk, rfl, rfl, hown, hb⟩ := hrel
    have hq : N / 10 ^ k ≤ N := Nat.div_le_self _ _
    have HD := Lib.hid (Cal.digs_cons k N)
    obtain ⟨q, hqe⟩ : ∃ q, q = N / 10 ^ k := ⟨_, rfl⟩
    rw [← hqe] at hq
    have HQ := Lib.hid hqe
    simp only [← hqe]
    clear hqe
    by_cases hlt : k < m
    · obtain ⟨A, c, rfl⟩ := own_form hown
      have hsz := hb.size
      go_wp2_with (at_builtin; refine wpList_append_any _ rfl (.tmp 16) (.tmp 17) 33 rfl w.heap.size 5 i0 _ 1 1 Tryd.underlying33 hi0 hz0 hz1 hz2 rfl (by omega) (.slice (some ⟨wr.heap.size, 0, none⟩) 1 1) 1 [.int .u8 (48 + ↑q % 10)] rfl (own_lit _ hsz) wr.heap.size A k c (byteVals (Cal.digs N k)) rfl ((Reads.of_own hown).alloc (Nat.le_refl _) _) (byteVals_one _) (by unfold maxLen; omega) (by omega) (by simp; omega) ?_; intro v1 w1 hown1 hg1 hat1)
      have hb1 : Below w.heap.size w w1 := (hb.alloc hsz _).grown hg1 (by simp; omega) (by simp [Value.ownBlock]; omega)
      clear hat1 hg1
      go_roundw
      case rel => 
        refine ⟨k + 1, by omega, by go_num, ?_, ?_, hb1⟩
        · rw [Nat.pow_succ, ← Nat.div_div_eq_div_mul, ← HQ.out]; congr 1
        · rw [HD.out, ← HQ.out, byteVals_cons, digit_byte, Nat.add_comm k 1]
          exact hown1
      case measure => simp [intOf]; omega
    · obtain rfl : k = m := by omega
      have hcv := run_str_own (P := Tryd.prog) wr 33 9 5 Tryd.underlying33 Tryd.underlying5 Tryd.underlying9 hown
      go_wp2_with fail
      go_ret
      exact ⟨rfl, hb⟩
end Go.Proofs.YtlfgjpidamkpdaaDoor
