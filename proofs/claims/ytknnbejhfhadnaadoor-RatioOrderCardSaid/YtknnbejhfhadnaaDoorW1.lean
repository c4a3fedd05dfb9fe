/- Sizes and common divisors: each call returns what the plain function gives. -/
import Derived.Test.YtknnbejhfhadnaaDoorBase
import Derived.Test.YtknnbejhfhadnaaDoorPlain
import Derived.Laws.EntriesVeiled
namespace Go.Proofs.YtknnbejhfhadnaaDoor
open Go.RowKit
theorem wrap_neg {n : Int} (h : n < 0) (h1 : -9223372036854775808 ≤ n) : IntKind.u64.wrap (-IntKind.u64.wrap n) = (n.natAbs : Nat) := by
  simp only [IntKind.wrap, IntKind.signed, IntKind.bits]
  simp
  omega
set_option maxHeartbeats 400000 in
theorem size_any (n : Int) (w : World) (h : inI n) : Calls Tryd.prog 30 #[.int .i64 n] w fun e w' => e = .returned (.int .u64 (n.natAbs : Nat)) ∧ w = w' := by
  obtain ⟨h1, h2⟩ := h
  by_cases h0 : n < 0
  · go_enter Tryd.func30, Tryd.ntmps30
    go_wp2
    go_ret
    exact ⟨ret_int (wrap_neg h0 h1), rfl⟩
  · have e : n = (n.natAbs : Nat) := by omega
    have E := Lib.hid e
    clear e
    go_enter Tryd.func30, Tryd.ntmps30
    go_wp2
    go_ret
    exact ⟨ret_int E.out, rfl⟩
set_option maxHeartbeats 400000 in
theorem rSize_any (n : Int) (w : World) (h : inI n) : Calls Tryd.prog 33 #[.int .i64 n] w fun e w' => e = .returned (.int .u64 (n.natAbs : Nat)) ∧ w = w' := by
  obtain ⟨h1, h2⟩ := h
  by_cases h0 : n < 0
  · have e : -(n + 1) + 1 = (n.natAbs : Nat) := by omega
    have E := Lib.hid e
    clear e
    go_enter Tryd.func33, Tryd.ntmps33
    go_wp2
    go_ret
    exact ⟨ret_int E.out, rfl⟩
  · have e : n = (n.natAbs : Nat) := by omega
    have E := Lib.hid e
    clear e
    go_enter Tryd.func33, Tryd.ntmps33
    go_wp2
    go_ret
    exact ⟨ret_int E.out, rfl⟩
/-- The closure's variable: it holds the closure itself. -/
def isU (n : Nat) : Prop := n ≤ 18446744073709551615
theorem isU_mod {a b : Nat} (h : isU b) (h0 : b ≠ 0) : isU (a % b) := by unfold isU at *; have := Nat.mod_lt a (show 0 < b by omega); omega
theorem isU_abs {n : Int} (h : inI n) : isU n.natAbs := by unfold isU; obtain ⟨a, b⟩ := h; omega
def Self (w : World) (p : Addr) : Prop := w.cell? p = some (.func (.func 47) #[] #[.pointer (some p)])
theorem Self.below {w w' : World} {p : Addr} (h : Self w p) (hb : Below w.heap.size w w') : Self w' p := (hb.cell (World.block_lt_of_cell? _ _ h)).trans h
theorem gcd_step (a b : Nat) : Nat.gcd b (a % b) = Nat.gcd a b := by rw [Nat.gcd_comm b, ← Nat.gcd_rec, Nat.gcd_comm]
set_option maxHeartbeats 1000000 in
theorem find_any (p : Addr) : ∀ (b a : Nat) (w : World), isU a → isU b → Self w p →
    Calls Tryd.prog 47 #[.int .u64 (a : Int), .int .u64 (b : Int), .pointer (some p)] w fun e w' => e = .returned (.int .u64 (Nat.gcd a b : Nat)) ∧ Below w.heap.size w w' := by
  intro b
  induction b using Nat.strongRecOn with
  | _ b ih =>
    intro a w ha hb hs
    have HS := Lib.hid hs
    by_cases h0 : b = 0
    · subst h0
      clear hs ih
      go_enter Tryd.func47, Tryd.ntmps47
      go_wp2
      go_ret
      exact ⟨ret_int (by rw [Nat.gcd_zero_right]), Below.refl _ _⟩
    · have hlt : a % b < b := Nat.mod_lt _ (by omega)
      have hmu := isU_mod (a := a) hb h0
      have hih : ∀ w, Self w p → Calls Tryd.prog 47 #[.int .u64 (b : Int), .int .u64 ((a : Int) % (b : Int)), .pointer (some p)] w fun e w' => e = .returned (.int .u64 (Nat.gcd a b : Nat)) ∧ Below w.heap.size w w' := fun w hs => by
        have h := ih (a % b) hlt b w hb hmu hs
        rw [gcd_step, Int.natCast_emod] at h
        exact h
      have IH := Lib.hid hih
      clear hih hmu
      have hb0 : 0 < (b : Int) := by omega
      have ht : ((b : Int) == 0) = false := by simpa using h0
      clear ih hs
      go_enter Tryd.func47, Tryd.ntmps47
      go_wp2
      apply wp_region_typed (C := fun w' => Below w.heap.size w w') (n := 15) (m := 7) (l1 := [_, _, _, _, _, _, _]) (l2 := [])
      · rfl
      · rfl
      · kernel_rfl
      · rfl
      · kernel_rfl
      · exact ⟨rfl, rfl, rfl, Nat.le_refl _, fun _ _ => rfl⟩
      · exact fun u u' h hb => h.trans (hb.mono h.size)
      (apply wpT_exact; · (intro w' hC hf; unfold Gives; have hs := HS.out.below hC; unfold Self at hs; clear hf hC; go_wp2_with (fail); apply postT_val rfl (Below.refl _ _); simp only [valAt, Array.getD_eq_getD_getElem?, List.getElem?_toArray, List.getElem?_cons_succ, List.getElem?_cons_zero, Option.getD_some]; exact rfl)); (try simp only [Act.put, List.setIfInBounds_toArray, List.set_cons_zero, List.set_cons_succ])
      (apply wpT_exact; · (intro w' hC hf; unfold Gives; clear hf hC; go_wp2_with (fail); apply postT_val rfl (Below.refl _ _); simp only [valAt, Array.getD_eq_getD_getElem?, List.getElem?_toArray, List.getElem?_cons_succ, List.getElem?_cons_zero, Option.getD_some]; exact rfl)); (try simp only [Act.put, List.setIfInBounds_toArray, List.set_cons_zero, List.set_cons_succ])
      (apply wpT_exact; · (intro w' hC hf; unfold Gives; clear hf hC; go_wp2_with (fail); apply postT_val rfl (Below.refl _ _); simp only [valAt, Array.getD_eq_getD_getElem?, List.getElem?_toArray, List.getElem?_cons_succ, List.getElem?_cons_zero, Option.getD_some]; exact rfl)); (try simp only [Act.put, List.setIfInBounds_toArray, List.set_cons_zero, List.set_cons_succ])
      (apply wpT_exact; · (intro w' hC hf; unfold Gives; clear hf hC; go_wp2_with (fail); apply postT_val rfl (Below.refl _ _); simp only [valAt, Array.getD_eq_getD_getElem?, List.getElem?_toArray, List.getElem?_cons_succ, List.getElem?_cons_zero, Option.getD_some]; exact rfl)); (try simp only [Act.put, List.setIfInBounds_toArray, List.set_cons_zero, List.set_cons_succ])
      (apply wpT_exact; · (intro w' hC hf; unfold Gives; clear hf hC; go_wp2_with (fail); apply postT_val rfl (Below.refl _ _); simp only [valAt, Array.getD_eq_getD_getElem?, List.getElem?_toArray, List.getElem?_cons_succ, List.getElem?_cons_zero, Option.getD_some]; exact rfl)); (try simp only [Act.put, List.setIfInBounds_toArray, List.set_cons_zero, List.set_cons_succ])
      apply wpT_exact
      · intro w' hC hf; unfold Gives
        have hs := HS.out.below hC
        clear hf hC
        go_wp2_with (go_at_call 47; refine (IH.out _ hs).mono ?_; rintro e w2 ⟨rfl, hb2⟩)
        apply postT_val rfl hb2; simp only [valAt, Array.getD_eq_getD_getElem?, List.getElem?_toArray, List.getElem?_cons_succ, List.getElem?_cons_zero, Option.getD_some]; exact rfl
      (try simp only [Act.put, List.setIfInBounds_toArray, List.set_cons_zero, List.set_cons_succ])
      (apply wpT_exact; · (intro w' hC hf; unfold Gives; clear hf hC; go_wp2_with (fail); apply postT_val rfl (Below.refl _ _); simp only [valAt, Array.getD_eq_getD_getElem?, List.getElem?_toArray, List.getElem?_cons_succ, List.getElem?_cons_zero, Option.getD_some]; exact rfl)); (try simp only [Act.put, List.setIfInBounds_toArray, List.set_cons_zero, List.set_cons_succ])
      apply wpT_done
      intro w3 hC _
      go_wp2
      go_ret
      exact ⟨rfl, hC⟩
set_option maxHeartbeats 1000000 in
theorem gcd_any (a b : Nat) (w : World) (ha : isU a) (hb : isU b) :
    Calls Tryd.prog 31 #[.int .u64 (a : Int), .int .u64 (b : Int)] w fun e w' => e = .returned (.int .u64 (Nat.gcd a b : Nat)) ∧ Below w.heap.size w w' := by
  go_enter Tryd.func31, Tryd.ntmps31
  go_wp2_with (go_at_call 47; refine (find_any _ b a _ ha hb ?_).mono ?_; (exact Blk.cell (Blk.new w 52 #[_]) 0); rintro e w2 ⟨rfl, hb2⟩)
  go_ret
  exact ⟨rfl, of_box (hb2.mono (by simp))⟩
theorem rGcd_any (a b : Nat) (w : World) (ha : isU a) (hb : isU b) :
    Calls Tryd.prog 32 #[.int .u64 (a : Int), .int .u64 (b : Int)] w fun e w' => e = .returned (.int .u64 (Nat.gcd a b : Nat)) ∧ w = w' := by
  go_enter Tryd.func32, Tryd.ntmps32
  go_wp2
  go_loop [0, 1, 5] (fun x y z => ∃ c d : Nat, x = .int .u64 c ∧ y = .int .u64 d ∧ isU c ∧ isU d ∧ Nat.gcd c d = Nat.gcd a b) (fun _ y _ => (intOf y).toNat)
  case atStart => exact ⟨a, b, rfl, rfl, ha, hb, rfl⟩
  case round =>
    obtain ⟨c, d, rfl, rfl, hc, hd, hg⟩ := hrel
    have HG := Lib.hid hg
    clear hg
    by_cases h0 : d = 0
    · subst h0
      go_wp2
      go_ret
      exact ⟨ret_int (by rw [← HG.out, Nat.gcd_zero_right]), rfl⟩
    · have hb0 : 0 < (d : Int) := by omega
      have hlt : c % d < d := Nat.mod_lt _ (by omega)
      have ht : ((d : Int) == 0) = false := by simpa using h0
      have ht2 : ((d : Int) != 0) = true := by simpa using h0
      go_wp2
      go_round
      case rel => exact ⟨d, c % d, rfl, by rw [Int.natCast_emod], hd, isU_mod hd h0, by rw [gcd_step]; exact HG.out⟩
      case measure => simp [intOf]; omega
end Go.Proofs.YtknnbejhfhadnaaDoor
