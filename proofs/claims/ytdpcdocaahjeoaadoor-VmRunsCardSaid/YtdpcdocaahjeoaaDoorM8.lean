/- token, number, IndexFunc. -/
import Derived.Test.YtdpcdocaahjeoaaDoorVmGP
import Derived.Test.YtdpcdocaahjeoaaDoorW22
import Derived.Lib.Strings
import Derived.Laws.RangeString
import Derived.Lib.AtoiAll
namespace Go.Proofs.YtdpcdocaahjeoaaDoor
open Go Go.RowKit
namespace Vm
theorem tw_is (p : UInt8 → Bool) (l : List UInt8) : ∀ (n a e : Nat), e - a = n → a ≤ e → e ≤ l.length → (∀ j (hj : j < l.length), a ≤ j → j < e → p l[j] = true) → (e = l.length ∨ ∃ h : e < l.length, p l[e] = false) → ((l.drop a).takeWhile p).length = e - a
  | 0, a, e, hn, hae, he, _, hs => by
    obtain rfl : a = e := by omega
    rcases hs with rfl | ⟨h, hp⟩
    · simp
    · rw [List.drop_eq_getElem_cons h, List.takeWhile_cons, hp]; simp
  | n + 1, a, e, hn, hae, he, hall, hs => by
    have ha : a < l.length := by omega
    rw [List.drop_eq_getElem_cons ha, List.takeWhile_cons, hall a ha (Nat.le_refl _) (by omega), if_pos rfl, List.length_cons, tw_is p l n (a + 1) e (by omega) (by omega) he (fun j hj h1 h2 => hall j hj (by omega) h2) hs]
    omega
theorem skipN_is {l : List UInt8} {a e : Nat} (hae : a ≤ e) (he : e ≤ l.length) (h : ∀ j (hj : j < l.length), a ≤ j → j < e → isBlank l[j] = true) (hs : e = l.length ∨ ∃ h : e < l.length, isBlank l[e] = false) : skipN l a = e := by
  unfold skipN; rw [tw_is isBlank l _ a e rfl hae he h hs]; omega
theorem wordAt_is {l : List UInt8} {a e : Nat} (hae : a ≤ e) (he : e ≤ l.length) (h : ∀ j (hj : j < l.length), a ≤ j → j < e → isTok l[j] = true) (hs : e = l.length ∨ ∃ h : e < l.length, isTok l[e] = false) : wordAt l a = (l.drop a).take (e - a) := by
  have h1 := tw_is isTok l _ a e rfl hae he h hs
  unfold wordAt
  rw [← take_takeWhile, h1]
theorem str_get (s : ByteArray) (k : Nat) (_h : k < s.size) (h' : k < s.data.toList.length) : s.data.toList[k] = s[k] := by rw [Array.getElem_toList]; rfl
theorem strLn (s : ByteArray) : s.data.toList.length = s.size := by simp
theorem blank_cases (c : UInt8) : (isBlank c = true ∧ ((c.toNat : Int) == 32) = true) ∨ (isBlank c = true ∧ ((c.toNat : Int) == 32) = false ∧ ((c.toNat : Int) == 10) = true) ∨ (isBlank c = false ∧ ((c.toNat : Int) == 32) = false ∧ ((c.toNat : Int) == 10) = false) := by
  have key : ∀ n : UInt8, ((c.toNat : Int) == (n.toNat : Int)) = (c == n) := by
    intro n
    rw [Bool.eq_iff_iff, beq_iff_eq, beq_iff_eq]
    exact ⟨fun h => UInt8.toNat_inj.1 (by omega), fun h => by rw [h]⟩
  have k1 := key 32
  have k2 := key 10
  rw [show ((32 : UInt8).toNat : Int) = 32 from rfl] at k1
  rw [show ((10 : UInt8).toNat : Int) = 10 from rfl] at k2
  unfold isBlank
  rw [k1, k2]
  cases c == 32 <;> cases c == 10 <;> simp
theorem tok_cases (c : UInt8) : (isTok c = true ∧ decide (33 ≤ (c.toNat : Int)) = true ∧ decide ((c.toNat : Int) ≤ 126) = true) ∨ (isTok c = false ∧ decide (33 ≤ (c.toNat : Int)) = false) ∨ (isTok c = false ∧ decide (33 ≤ (c.toNat : Int)) = true ∧ decide ((c.toNat : Int) ≤ 126) = false) := by
  unfold isTok
  simp only [Bool.and_eq_true, Bool.and_eq_false_iff, decide_eq_true_eq, decide_eq_false_iff_not]
  omega
end Vm
end Go.Proofs.YtdpcdocaahjeoaaDoor
namespace Go.Proofs.YtdpcdocaahjeoaaDoor
open Go Go.RowKit
def TokP (l : List UInt8) (at_ : Nat) (w : World) (e : Ending) (w' : World) : Prop := e = .returned (.tuple #[.int .i64 ((Vm.tokAt l at_).1 : Nat), .string ⟨(Vm.tokAt l at_).2.toArray⟩]) ∧ Below w.heap.size w w'
theorem w_drew (w : World) (n : Nat) : Below w.heap.size w (w.drewN n) := ⟨rfl, rfl, rfl, Nat.le_refl _, fun _ _ => rfl⟩
theorem tokend {s : ByteArray} {at_ a e : Nat} (h1 : Vm.skipN s.data.toList at_ = a) (h2 : Vm.wordAt s.data.toList a = (s.data.toList.drop a).take (e - a)) : Ending.returned (.tuple #[.int .i64 (a : Int), .string (s.extract a e)]) = .returned (.tuple #[.int .i64 ((Vm.tokAt s.data.toList at_).1 : Nat), .string ⟨(Vm.tokAt s.data.toList at_).2.toArray⟩]) := by
  have e1 : (Vm.tokAt s.data.toList at_).1 = a := h1
  have e2 : (Vm.tokAt s.data.toList at_).2 = (s.data.toList.drop a).take (e - a) := by show Vm.wordAt _ (Vm.skipN _ _) = _; rw [h1, h2]
  rw [e1, e2, str_eq (Lib.extract_data s a e)]
set_option maxRecDepth 100000 in
set_option maxHeartbeats 4000000 in
theorem token_any (s : ByteArray) (at_ : Nat) (w : World) (hs : s.size ≤ 1000000) (ha : at_ ≤ s.size) : Calls Tryd.prog 59 #[.string s, .int .i64 at_] w (TokP s.data.toList at_ w) := by
  obtain ⟨n, hn⟩ : ∃ n, s.size = n := ⟨_, rfl⟩
  have hsn : s.size = n := hn
  rw [hn] at hs ha
  go_enter Tryd.func59, Tryd.ntmps59
  go_wp2_with fail
  go_loopg [1] (n - at_) (fun r i wr => ∃ a : Nat, a + r = n ∧ at_ ≤ a ∧ i = .int .i64 a ∧ wr = w ∧ ∀ j (hj : j < s.data.toList.length), at_ ≤ j → j < a → Vm.isBlank s.data.toList[j] = true)
  case atStart => exact ⟨at_, by omega, Nat.le_refl _, rfl, rfl, fun j _ h1 h2 => by omega⟩
  case round =>
    obtain ⟨a, hk, hat, rfl, rfl, hall⟩ := hrel
    obtain ⟨w, rfl⟩ : ∃ w0 : World, w0 = wr := ⟨_, rfl⟩
    have HA := Lib.hid hall
    clear hall
    by_cases hlt : a < n
    · have hax : a < s.size := by omega
      have k0 : (0 : Int) ≤ (a : Int) := Int.natCast_nonneg _
      have k1 : (a : Int) < (n : Int) := by omega
      rcases Vm.blank_cases (s[a]'hax) with ⟨hb, t1⟩ | ⟨hb, t1, t2⟩ | ⟨hb, t1, t2⟩
      · have HX := Lib.hid hb
        clear hb
        go_wp2_with fail
        go_roundg (gk - 1)
        case measure => omega
        case rel =>
          refine ⟨a + 1, by omega, by omega, by go_num, rfl, fun j hj h1 h2 => ?_⟩
          rcases Nat.lt_or_ge j a with h' | h'
          · exact HA.out j hj h1 h'
          · obtain rfl : j = a := by omega
            rw [Vm.str_get s j hax]; exact HX.out
      · have HX := Lib.hid hb
        clear hb
        go_wp2_with fail
        go_roundg (gk - 1)
        case measure => omega
        case rel =>
          refine ⟨a + 1, by omega, by omega, by go_num, rfl, fun j hj h1 h2 => ?_⟩
          rcases Nat.lt_or_ge j a with h' | h'
          · exact HA.out j hj h1 h'
          · obtain rfl : j = a := by omega
            rw [Vm.str_get s j hax]; exact HX.out
      · have HS := Lib.hid (Vm.skipN_is (l := s.data.toList) hat (by rw [Vm.strLn]; omega) HA.out (.inr ⟨by rw [Vm.strLn]; exact hax, by rw [Vm.str_get s a hax]; exact hb⟩))
        clear hb
        go_wp2_with fail
        go_loopg [6] (n - a) (fun r i wr => ∃ e : Nat, e + r = n ∧ a ≤ e ∧ i = .int .i64 e ∧ wr = w ∧ ∀ j (hj : j < s.data.toList.length), a ≤ j → j < e → Vm.isTok s.data.toList[j] = true)
        case atStart => exact ⟨a, by omega, Nat.le_refl _, rfl, rfl, fun j _ h1 h2 => by omega⟩
        case round =>
          obtain ⟨e, hk2, hae, rfl, rfl, hall⟩ := hrel
          obtain ⟨w, rfl⟩ : ∃ w0 : World, w0 = wr := ⟨_, rfl⟩
          have HB := Lib.hid hall
          clear hall
          have k4 : (0 : Int) ≤ (a : Int) := Int.natCast_nonneg _
          have k5 : (a : Int) ≤ (e : Int) := by omega
          have k6 : (e : Int) ≤ (n : Int) := by omega
          by_cases hlt2 : e < n
          · have hex : e < s.size := by omega
            have k2 : (0 : Int) ≤ (e : Int) := Int.natCast_nonneg _
            have k3 : (e : Int) < (n : Int) := by omega
            rcases Vm.tok_cases (s[e]'hex) with ⟨ht, q1, q2⟩ | ⟨ht, q1⟩ | ⟨ht, q1, q2⟩
            · have HT := Lib.hid ht
              clear ht
              go_wp2_with fail
              go_roundg (gk - 1)
              case measure => omega
              case rel =>
                refine ⟨e + 1, by omega, by omega, by go_num, rfl, fun j hj h1 h2 => ?_⟩
                rcases Nat.lt_or_ge j e with h' | h'
                · exact HB.out j hj h1 h'
                · obtain rfl : j = e := by omega
                  rw [Vm.str_get s j hex]; exact HT.out
            · have HW := Lib.hid (Vm.wordAt_is (l := s.data.toList) hae (by rw [Vm.strLn]; omega) HB.out (.inr ⟨by rw [Vm.strLn]; exact hex, by rw [Vm.str_get s e hex]; exact ht⟩))
              clear ht
              go_wp2_with fail
              go_quiet (fail)
              go_wp2_with fail
              go_ret2
              exact ⟨tokend HS.out HW.out, w_drew _ _⟩
            · have HW := Lib.hid (Vm.wordAt_is (l := s.data.toList) hae (by rw [Vm.strLn]; omega) HB.out (.inr ⟨by rw [Vm.strLn]; exact hex, by rw [Vm.str_get s e hex]; exact ht⟩))
              clear ht
              go_wp2_with fail
              go_quiet (fail)
              go_wp2_with fail
              go_ret2
              exact ⟨tokend HS.out HW.out, w_drew _ _⟩
          · have hen : e = n := by omega
            have HW := Lib.hid (Vm.wordAt_is (l := s.data.toList) hae (by rw [Vm.strLn]; omega) HB.out (.inl (by rw [Vm.strLn]; omega)))
            subst hen
            go_wp2_with fail
            go_quiet (fail)
            go_wp2_with fail
            go_ret2
            exact ⟨tokend HS.out HW.out, w_drew _ _⟩
    · have HS := Lib.hid (Vm.skipN_is (l := s.data.toList) hat (by rw [Vm.strLn]; omega) HA.out (.inl (by rw [Vm.strLn]; omega)))
      have han : a ≤ n := by omega
      have k1 : ¬ (a : Int) < (n : Int) := by omega
      go_wp2_with fail
      go_loopg [6] (n - a) (fun r i wr => ∃ e : Nat, e + r = n ∧ a ≤ e ∧ i = .int .i64 e ∧ wr = w ∧ ∀ j (hj : j < s.data.toList.length), a ≤ j → j < e → Vm.isTok s.data.toList[j] = true)
      case atStart => exact ⟨a, by omega, Nat.le_refl _, rfl, rfl, fun j _ h1 h2 => by omega⟩
      case round =>
        obtain ⟨e, hk2, hae, rfl, rfl, hall⟩ := hrel
        obtain ⟨w, rfl⟩ : ∃ w0 : World, w0 = wr := ⟨_, rfl⟩
        have HB := Lib.hid hall
        clear hall
        have k4 : (0 : Int) ≤ (a : Int) := Int.natCast_nonneg _
        have k5 : (a : Int) ≤ (e : Int) := by omega
        have k6 : (e : Int) ≤ (n : Int) := by omega
        by_cases hlt2 : e < n
        · have hex : e < s.size := by omega
          have k2 : (0 : Int) ≤ (e : Int) := Int.natCast_nonneg _
          have k3 : (e : Int) < (n : Int) := by omega
          rcases Vm.tok_cases (s[e]'hex) with ⟨ht, q1, q2⟩ | ⟨ht, q1⟩ | ⟨ht, q1, q2⟩
          · have HT := Lib.hid ht
            clear ht
            go_wp2_with fail
            go_roundg (gk - 1)
            case measure => omega
            case rel =>
              refine ⟨e + 1, by omega, by omega, by go_num, rfl, fun j hj h1 h2 => ?_⟩
              rcases Nat.lt_or_ge j e with h' | h'
              · exact HB.out j hj h1 h'
              · obtain rfl : j = e := by omega
                rw [Vm.str_get s j hex]; exact HT.out
          · have HW := Lib.hid (Vm.wordAt_is (l := s.data.toList) hae (by rw [Vm.strLn]; omega) HB.out (.inr ⟨by rw [Vm.strLn]; exact hex, by rw [Vm.str_get s e hex]; exact ht⟩))
            clear ht
            go_wp2_with fail
            go_quiet (fail)
            go_wp2_with fail
            go_ret2
            exact ⟨tokend HS.out HW.out, w_drew _ _⟩
          · have HW := Lib.hid (Vm.wordAt_is (l := s.data.toList) hae (by rw [Vm.strLn]; omega) HB.out (.inr ⟨by rw [Vm.strLn]; exact hex, by rw [Vm.str_get s e hex]; exact ht⟩))
            clear ht
            go_wp2_with fail
            go_quiet (fail)
            go_wp2_with fail
            go_ret2
            exact ⟨tokend HS.out HW.out, w_drew _ _⟩
        · have hen : e = n := by omega
          have HW := Lib.hid (Vm.wordAt_is (l := s.data.toList) hae (by rw [Vm.strLn]; omega) HB.out (.inl (by rw [Vm.strLn]; omega)))
          subst hen
          go_wp2_with fail
          go_quiet (fail)
          go_wp2_with fail
          go_ret2
          exact ⟨tokend HS.out HW.out, w_drew _ _⟩
end Go.Proofs.YtdpcdocaahjeoaaDoor
namespace Go.Proofs.YtdpcdocaahjeoaaDoor
open Go Go.RowKit
def nonDig (x : Nat) : Bool := decide (x < 48) || decide (57 < x)
theorem pred_any (x : Nat) (w : World) : Calls Tryd.prog 76 #[.int .i32 (x : Int)] w fun e w' => e = .returned (.bool (nonDig x)) ∧ w = w' := by
  by_cases h1 : x < 48
  · have t1 : decide ((x : Int) < 48) = true := decide_eq_true (by omega)
    have t2 : decide (x < 48) = true := decide_eq_true h1
    have HV := Lib.hid (show nonDig x = true by unfold nonDig; rw [t2]; rfl)
    go_enter Tryd.func76, Tryd.ntmps76
    go_wp2_with fail
    go_ret
    exact ⟨ret_bool HV.out.symm, rfl⟩
  · have t1 : decide ((x : Int) < 48) = false := decide_eq_false (by omega)
    have t2 : decide (x < 48) = false := decide_eq_false h1
    obtain ⟨b, hb⟩ : ∃ b, decide (57 < x) = b := ⟨_, rfl⟩
    have t3 : decide (57 < (x : Int)) = b := by rw [← hb]; rw [Bool.eq_iff_iff]; simp; omega
    have HV := Lib.hid (show nonDig x = b by unfold nonDig; rw [t2, hb]; rfl)
    go_enter Tryd.func76, Tryd.ntmps76
    go_wp2_with fail
    go_ret
    exact ⟨ret_bool HV.out.symm, rfl⟩
theorem idx_ascii (p : Nat → Bool) (s : ByteArray) (hs : ∀ k (h : k < s.size), (s[k]'h).toNat < 128) : ∀ (f pos : Nat), s.size ≤ pos + f → decide (0 ≤ Lib.idxFuncFrom p true s f pos) = !((s.data.toList.drop pos).all fun c => !p c.toNat)
  | 0, pos, h => by
    have e : s.data.toList.drop pos = [] := List.drop_eq_nil_of_le (by rw [Vm.strLn]; omega)
    rw [e]; rfl
  | f + 1, pos, h => by
    unfold Lib.idxFuncFrom
    by_cases hp : pos < s.size
    · rw [if_pos hp, decode_ascii s pos hp (hs pos hp)]
      have hl : pos < s.data.toList.length := by rw [Vm.strLn]; exact hp
      rw [List.drop_eq_getElem_cons hl, List.all_cons, Vm.str_get s pos hp hl]
      cases hb : p (s[pos]'hp).toNat
      · rw [if_neg (by simp)]
        rw [idx_ascii p s hs f (pos + 1) (by omega)]; simp
      · rw [if_pos rfl]; simp
    · rw [if_neg hp]
      have e : s.data.toList.drop pos = [] := List.drop_eq_nil_of_le (by rw [Vm.strLn]; omega)
      rw [e]; rfl
theorem contains_dig (s : ByteArray) (w : World) (hs : ∀ c ∈ s.data.toList, c.toNat < 128) : Calls Tryd.prog 75 #[.string s, .func (.func 76) #[] #[]] w fun e w' => e = .returned (.bool (!s.data.toList.all Dc.isDig)) ∧ Below w.heap.size w w' := by
  refine (Tryd.strings_ContainsFunc 76 #[] (fun args w => enters_of Tryd.func76 (by kernel_rfl) rfl args w) nonDig s w (fun W x hb => (pred_any x W).mono fun e w' ⟨h1, h2⟩ => ⟨h1, 0, by rw [← h2]; rfl⟩)).mono ?_
  rintro e w' ⟨rfl, hb⟩
  refine ⟨?_, hb⟩
  unfold Lib.idxFunc
  rw [idx_ascii nonDig s (fun k h => hs _ (by rw [← Vm.str_get s k h (by rw [Vm.strLn]; exact h)]; exact List.getElem_mem _)) s.size 0 (by omega), List.drop_zero]
  have e : (fun c : UInt8 => !nonDig c.toNat) = Dc.isDig := by
    funext c; unfold nonDig Dc.isDig
    rw [Bool.eq_iff_iff]; simp
  rw [e]
theorem parse_digs : ∀ (l : List UInt8) (a : Nat), l.all Dc.isDig = true → (a + 1) * 10 ^ l.length ≤ 1000000000000000000 → Lib.parseUint10 a l = .ok (l.foldl (fun a c => 10 * a + (c.toNat - 48)) a)
  | [], a, _, _ => rfl
  | c :: l, a, h, hb => by
    rw [List.all_cons, Bool.and_eq_true] at h
    have hc := h.1
    simp only [Dc.isDig, Bool.and_eq_true, decide_eq_true_eq] at hc
    rw [List.length_cons, Nat.pow_succ] at hb
    have hp : 1 ≤ 10 ^ l.length := Nat.pow_pos (by omega)
    have hb2 : (a + 1) * 10 * 10 ^ l.length ≤ 1000000000000000000 := by rw [Nat.mul_assoc, Nat.mul_comm 10]; exact hb
    have ha : (a + 1) * 10 ≤ 1000000000000000000 := Nat.le_trans (Nat.le_mul_of_pos_right _ hp) hb2
    unfold Lib.parseUint10
    rw [if_pos ⟨hc.1, hc.2⟩, if_neg (by omega), if_neg (by omega), List.foldl_cons, Nat.mul_comm a 10]
    refine parse_digs l _ h.2 (Nat.le_trans (Nat.mul_le_mul_right _ ?_) hb2)
    omega
theorem atoi_num {w : List UInt8} (h : Vm.numOk w = true) : Lib.atoiAll w = .ok (Vm.numV w) := by
  unfold Vm.numOk at h
  simp only [Bool.and_eq_true, decide_eq_true_eq] at h
  obtain ⟨⟨h1, h7⟩, hall⟩ := h
  have hpm : Lib.parseMag (Vm.digs w) = .ok (Dc.decV (Vm.digs w)) := by
    unfold Lib.parseMag
    rw [if_neg (by intro e; rw [e] at h1; simp at h1)]
    refine parse_digs _ 0 hall ?_
    rw [Nat.zero_add, Nat.one_mul]
    exact Nat.le_trans (Nat.pow_le_pow_right (by omega) h7) (by decide)
  have hlt := Dc.decV_lt _ hall
  have hl7 : 10 ^ (Vm.digs w).length ≤ 10 ^ 7 := Nat.pow_le_pow_right (by omega) h7
  have h107 : (10 : Nat) ^ 7 = 10000000 := by decide
  cases w with
  | nil => simp [Vm.digs, Vm.neg] at h1
  | cons c r =>
    unfold Vm.numV
    cases hn : Vm.neg (c :: r)
    · have hd : Vm.digs (c :: r) = c :: r := by unfold Vm.digs; rw [hn]; rfl
      rw [hd] at hall hpm hlt hl7 ⊢
      rw [List.all_cons, Bool.and_eq_true] at hall
      have hc := hall.1
      simp only [Dc.isDig, Bool.and_eq_true, decide_eq_true_eq] at hc
      unfold Lib.atoiAll
      simp only [if_neg (show ¬ (c.toNat = 43 ∨ c.toNat = 45) by omega), hpm, if_neg (show ¬ (c.toNat = 45 ∧ 9223372036854775808 < Dc.decV (c :: r)) by omega), if_neg (show ¬ (¬ c.toNat = 45 ∧ 9223372036854775808 ≤ Dc.decV (c :: r)) by omega), if_neg (show ¬ c.toNat = 45 by omega)]
      simp
    · have hd : Vm.digs (c :: r) = r := by unfold Vm.digs; rw [hn]; rfl
      rw [hd] at hall hpm hlt hl7 ⊢
      have hc : c.toNat = 45 := by unfold Vm.neg at hn; simp at hn; rw [hn]; rfl
      unfold Lib.atoiAll
      simp only [if_pos (show (c.toNat = 43 ∨ c.toNat = 45) by omega), hpm, if_neg (show ¬ (c.toNat = 45 ∧ 9223372036854775808 < Dc.decV r) by omega), if_neg (show ¬ (¬ c.toNat = 45 ∧ 9223372036854775808 ≤ Dc.decV r) by omega), if_pos hc]
      simp
theorem trim_is (w : List UInt8) : Lib.trimPrefix w [45] = Vm.digs w := by
  unfold Lib.trimPrefix Lib.hasPrefix Vm.digs Vm.neg
  cases w with
  | nil => rfl
  | cons c r =>
    simp only [List.isPrefixOf, Bool.and_true, List.head?_cons]
    have e : ((45 : UInt8) == c) = (some c == some (45 : UInt8)) := by rw [Bool.eq_iff_iff]; simp; exact eq_comm
    rw [e]
    by_cases hc : (some c == some (45 : UInt8)) = true <;> simp [hc]
def numR (w : List UInt8) : Int := if Vm.numOk w then Vm.numV w else 0
theorem digs_mem {w : List UInt8} {c : UInt8} (h : c ∈ Vm.digs w) : c ∈ w := by
  unfold Vm.digs at h
  split at h
  · exact List.mem_of_mem_tail h
  · exact h
def NumP (w : List UInt8) (W : World) (e : Ending) (W' : World) : Prop := e = .returned (.tuple #[.int .i64 (numR w), .bool (Vm.numOk w)]) ∧ Below W.heap.size W W'
theorem below_atoi {w w' : World} {e : TypeId} (h : w' = w ∨ ∃ t, w' = Lib.bytesWorld w e t) : Below w.heap.size w w' := by
  rcases h with rfl | ⟨t, rfl⟩
  · exact Below.refl _ _
  · exact Lib.below_freeze (((Below.refl _ _).drew).alloc (Nat.le_refl _) _) (p := ⟨w.heap.size, _, none⟩) (Nat.le_refl _) _
set_option maxRecDepth 100000 in
set_option maxHeartbeats 4000000 in
theorem number_any (s : ByteArray) (w : World) (hs : s.size ≤ 1000000) (hasc : ∀ c ∈ s.data.toList, c.toNat < 128) : Calls Tryd.prog 62 #[.string s] w (NumP s.data.toList w) := by
  have CT := Lib.hid (fun w => Tryd.strings_TrimPrefix s ⟨#[45]⟩ w)
  simp only [trim_is] at CT
  obtain ⟨d, hd⟩ : ∃ d : ByteArray, (⟨(Vm.digs s.data.toList).toArray⟩ : ByteArray) = d := ⟨_, rfl⟩
  rw [hd] at CT
  have hdl : d.data.toList = Vm.digs s.data.toList := by rw [← hd]
  have hds : d.size = (Vm.digs s.data.toList).length := by rw [← hdl, Vm.strLn]
  have hok : Vm.numOk s.data.toList = (decide (1 ≤ d.size) && decide (d.size ≤ 7) && d.data.toList.all Dc.isDig) := by unfold Vm.numOk; rw [← hdl, Vm.strLn]
  have hdm : d.size ≤ 1000000 := by
    rw [hds]
    have : (Vm.digs s.data.toList).length ≤ s.data.toList.length := by unfold Vm.digs; split <;> simp
    rw [Vm.strLn] at this; omega
  have CC := Lib.hid (fun w => contains_dig d w (fun c hc => hasc c (digs_mem (by rw [← hdl]; exact hc))))
  clear hd hds
  by_cases h1 : d.size < 1
  · have HV := Lib.hid (show Vm.numOk s.data.toList = false by rw [hok, show decide (1 ≤ d.size) = false from decide_eq_false (by omega)]; rfl)
    have t1 : decide ((d.size : Int) < 1) = true := decide_eq_true (by omega)
    have t2 : decide (d.size < 1) = true := decide_eq_true h1
    clear hok hdl
    go_enter Tryd.func62, Tryd.ntmps62
    go_wp2_with (go_at_call 74; ((with_reducible refine (CT.out _).mono ?_)); rintro e w1 ⟨rfl, rfl⟩)
    go_ret2
    exact ⟨by unfold numR; rw [HV.out]; rfl, Below.refl _ _⟩
  · have t1 : decide ((d.size : Int) < 1) = false := decide_eq_false (by omega)
    have t2 : decide (d.size < 1) = false := decide_eq_false h1
    have e1 : decide (1 ≤ d.size) = true := decide_eq_true (by omega)
    by_cases h7 : 7 < d.size
    · have HV := Lib.hid (show Vm.numOk s.data.toList = false by rw [hok, show decide (d.size ≤ 7) = false from decide_eq_false (by omega)]; simp)
      have t3 : decide (7 < (d.size : Int)) = true := decide_eq_true (by omega)
      have t4 : decide (7 < d.size) = true := decide_eq_true h7
      clear hok hdl e1
      go_enter Tryd.func62, Tryd.ntmps62
      go_wp2_with (go_at_call 74; ((with_reducible refine (CT.out _).mono ?_)); rintro e w1 ⟨rfl, rfl⟩)
      go_ret2
      exact ⟨by unfold numR; rw [HV.out]; rfl, Below.refl _ _⟩
    · have t3 : decide (7 < (d.size : Int)) = false := decide_eq_false (by omega)
      have t4 : decide (7 < d.size) = false := decide_eq_false h7
      have e7 : decide (d.size ≤ 7) = true := decide_eq_true (by omega)
      rw [e1, e7] at hok
      cases hb : d.data.toList.all Dc.isDig
      · rw [hb] at hok CC
        have HV := Lib.hid (show Vm.numOk s.data.toList = false by rw [hok]; rfl)
        clear hok hdl e1 e7 hb
        go_enter Tryd.func62, Tryd.ntmps62
        go_wp2_with (first | (go_at_call 74; ((with_reducible refine (CT.out _).mono ?_)); rintro e w1 ⟨rfl, rfl⟩) | (go_at_call 75; ((with_reducible refine (CC.out _).mono ?_)); rintro e w1 ⟨rfl, hb1⟩; have HB := Lib.hid hb1; clear hb1))
        go_ret2
        exact ⟨by unfold numR; rw [HV.out]; rfl, HB.out⟩
      · rw [hb] at hok CC
        have hk : Vm.numOk s.data.toList = true := by rw [hok]; rfl
        have HV := Lib.hid hk
        have HR := Lib.hid (show numR s.data.toList = Vm.numV s.data.toList by unfold numR; rw [hk]; rfl)
        have CA := Lib.hid (Tryd.strconv_Atoi_ok s (by omega) _ (atoi_num hk))
        clear hok hdl e1 e7 hb hk
        go_enter Tryd.func62, Tryd.ntmps62
        go_wp2_with (first | (go_at_call 74; ((with_reducible refine (CT.out _).mono ?_)); rintro e w1 ⟨rfl, rfl⟩) | (go_at_call 75; ((with_reducible refine (CC.out _).mono ?_)); rintro e w1 ⟨rfl, hb1⟩; have HB := Lib.hid hb1; clear hb1) | (go_at_call 77; ((with_reducible refine (CA.out _).mono ?_)); rintro e w2 ⟨rfl, hw⟩; replace HB := Lib.hid (HB.out.trans ((below_atoi hw).mono HB.out.size)); clear hw))
        go_quiet (fail)
        go_wp2_with fail
        go_ret2
        exact ⟨by rw [HV.out, HR.out]; rfl, HB.out.trans (by first | exact (w_drew _ _).mono HB.out.size | exact Below.refl _ _)⟩
end Go.Proofs.YtdpcdocaahjeoaaDoor
namespace Go.Proofs.YtdpcdocaahjeoaaDoor
open Go Go.RowKit
abbrev Srt := ByteArray × Int × Int × Int
theorem srt_at {G : List Nat} {w : World} {A : Option Addr} {l : List Srt} (h : SlAt G w A l) (k : Nat) (hk : k < l.length) : ∃ b o, A = some ⟨b, o, none⟩ ∧ b ∉ G ∧
    w.cell? ⟨b, o + k * 4, none⟩ = some (.string l[k].1) ∧ w.cell? ⟨b, o + k * 4 + 1, none⟩ = some (.int .i64 l[k].2.1) ∧ w.cell? ⟨b, o + k * 4 + 2, none⟩ = some (.int .i64 l[k].2.2.1) ∧ w.cell? ⟨b, o + k * 4 + 3, none⟩ = some (.int .i64 l[k].2.2.2) := by
  obtain ⟨b, o, us, hA, hg, hr, hc⟩ := h.get k hk
  obtain ⟨u1, t1, rfl, ⟨rfl, a1⟩, u2, t2, rfl, ⟨rfl, a2⟩, u3, t3, rfl, ⟨rfl, a3⟩, ⟨rfl, a4⟩⟩ := hr
  exact ⟨b, o, hA, hg, hc 0 _ rfl, hc 1 _ rfl, hc 2 _ rfl, hc 3 _ rfl⟩
theorem strEq_true (s : ByteArray) : (s.toList == s.toList) = true := by simp
theorem strEq_false {s t : ByteArray} (h : s ≠ t) : (s.toList == t.toList) = false := by
  rw [beq_eq_false_iff_ne]; intro e; apply h
  rw [ByteArray.toList_eq, ByteArray.toList_eq] at e
  obtain ⟨⟨a⟩⟩ := s; obtain ⟨⟨b⟩⟩ := t; simpa using e
set_option maxHeartbeats 1000000 in
theorem pick_any (s word : ByteArray) (a b c : Int) (Nw : Nat) (W : World) (hw : W.cell? ⟨Nw, 0, none⟩ = some (.string word)) (hNw : Nw < W.heap.size) : Calls Tryd.prog 61 #[.agg #[.string s, .int .i64 a, .int .i64 b, .int .i64 c], .pointer (some ⟨Nw, 0, none⟩)] W fun e W' => e = .returned (.bool (decide (s = word))) ∧ Below W.heap.size W W' := by
  by_cases h : s = word
  · subst h
    have t1 := strEq_true s
    go_enter Tryd.func61, Tryd.ntmps61
    go_wp2_with fail
    go_ret
    exact ⟨by simp, (Below.refl _ _).alloc (Nat.le_refl _) _⟩
  · have t1 := strEq_false h
    have HD := Lib.hid (show decide (s = word) = false from decide_eq_false h)
    go_enter Tryd.func61, Tryd.ntmps61
    go_wp2_with fail
    go_ret
    exact ⟨ret_bool HD.out.symm, (Below.refl _ _).alloc (Nat.le_refl _) _⟩
/-- The place of the first whose word it is. -/
def IdxIs (q : List Srt) (word : ByteArray) (r : Int) : Prop := (r = -1 ∧ ∀ j (h : j < q.length), q[j].1 ≠ word) ∨ ∃ (k : Nat) (hk : k < q.length), r = k ∧ q[k].1 = word ∧ ∀ j (h : j < q.length), j < k → q[j].1 ≠ word
def IdxE (q : List Srt) (word : ByteArray) (W : World) (e : Ending) (W' : World) : Prop := ∃ r : Int, e = .returned (.int .i64 r) ∧ IdxIs q word r ∧ Below W.heap.size W W'
set_option maxRecDepth 100000 in
set_option maxHeartbeats 2000000 in
theorem idxS_any (q : List Srt) (word : ByteArray) (A : Option Addr) (c Nw : Nat) (W : World) (hq : SlAt [] W A q) (hl : q.length ≤ 1000) (hw : W.cell? ⟨Nw, 0, none⟩ = some (.string word)) : Calls Tryd.prog 60 #[.slice A q.length c, .func (.func 61) #[] #[.pointer (some ⟨Nw, 0, none⟩)]] W (IdxE q word W) := by
  obtain ⟨n, hn⟩ : ∃ n, q.length = n := ⟨_, rfl⟩
  have HQ := Lib.hid hq; have HW := Lib.hid hw; have HN := Lib.hid hn
  have hNw := World.block_lt_of_cell? _ _ hw
  rw [hn] at hl ⊢
  clear hq hw hn
  go_enter Tryd.func60, Tryd.ntmps60
  go_wp2_with fail
  go_loopg [8] n (fun r i wr => ∃ k : Nat, k + r = n ∧ i = .int .i64 k ∧ Below W.heap.size W wr ∧ ∀ j (h : j < q.length), j < k → q[j].1 ≠ word)
  case atStart => exact ⟨0, by omega, rfl, Below.refl _ _, fun _ _ h => by omega⟩
  case round =>
    obtain ⟨k, hk, rfl, hb, hall⟩ := hrel
    obtain ⟨wo, rfl⟩ : ∃ wo : World, wo = wr := ⟨_, rfl⟩
    have HB := Lib.hid hb; have HA := Lib.hid hall
    clear hb hall
    by_cases hlt : k < n
    · have hkq : k < q.length := by rw [HN.out]; exact hlt
      have k0 : (0 : Int) ≤ (k : Int) := Int.natCast_nonneg _
      have k1 : (k : Int) < (n : Int) := by omega
      obtain ⟨b, o, rfl, _, c0, c1, c2, c3⟩ := srt_at (HQ.out.keep (Chg.of_below HB.out)) k hkq
      obtain ⟨i, hi⟩ : ∃ i, q[k] = i := ⟨_, rfl⟩
      rw [hi] at c0 c1 c2 c3
      obtain ⟨s, x, y, z⟩ := i
      dsimp only at c0 c1 c2 c3
      have CP := Lib.hid (pick_any s word x y z Nw wo ((HB.out.cell (p := ⟨Nw, 0, none⟩) hNw).trans HW.out) (by have := HB.out.size; omega))
      have HI := Lib.hid hi
      clear hi
      by_cases hs : s = word
      · rw [decide_eq_true hs] at CP
        have HS := Lib.hid hs
        clear hs
        go_wp2_with (go_at_call 61; ((with_reducible refine (CP.out).mono ?_)); rintro e w2 ⟨rfl, hb2⟩; replace HB := Lib.hid (HB.out.trans (hb2.mono HB.out.size)); clear hb2)
        go_ret
        exact ⟨_, rfl, .inr ⟨k, hkq, rfl, by rw [HI.out]; exact HS.out, HA.out⟩, HB.out⟩
      · rw [decide_eq_false hs] at CP
        have HS := Lib.hid hs
        clear hs
        go_wp2_with (go_at_call 61; ((with_reducible refine (CP.out).mono ?_)); rintro e w2 ⟨rfl, hb2⟩; replace HB := Lib.hid (HB.out.trans (hb2.mono HB.out.size)); clear hb2)
        go_roundg (gk - 1)
        case measure => omega
        case rel =>
          refine ⟨k + 1, by omega, by go_num, HB.out, fun j hj h2 => ?_⟩
          rcases Nat.lt_or_ge j k with h' | h'
          · exact HA.out j hj h'
          · obtain rfl : j = k := by omega
            rw [HI.out]; exact HS.out
    · have hkn : k = n := by omega
      subst hkn
      go_wp2_with fail
      go_ret
      exact ⟨_, rfl, .inl ⟨rfl, fun j hj => HA.out j hj (by rw [HN.out] at hj; exact hj)⟩, HB.out⟩
/-- The table of the operations. -/
def SORTQ : List Srt := (List.range 9).map fun o => (Vm.wordB o, ((Vm.sortOf o 0 : Nat) : Int), ((Vm.sortOf o 1 : Nat) : Int), ((Vm.sortOf o 2 : Nat) : Int))
theorem sortq_words : SORTQ.map (fun x => x.1.data.toList) = Vm.wordsL := by decide +kernel
theorem idx_op {word : ByteArray} {r : Int} (h : IdxIs SORTQ word r) : (r = -1 ∧ Vm.opOf word.data.toList = none) ∨ ∃ o : Nat, o < 9 ∧ r = o ∧ Vm.opOf word.data.toList = some o := by
  have hget : ∀ j (hj : j < SORTQ.length), Vm.wordsL[j]? = some (SORTQ[j].1.data.toList) := fun j hj => by
    rw [← sortq_words, List.getElem?_map, List.getElem?_eq_getElem hj]; rfl
  have hl : Vm.wordsL.length = SORTQ.length := by rw [← sortq_words, List.length_map]
  have hne : ∀ j (hj : j < SORTQ.length), SORTQ[j].1 ≠ word → SORTQ[j].1.data.toList ≠ word.data.toList := fun j hj hn he => hn (by rw [str_eq he, ← str_eq rfl])
  rcases h with ⟨rfl, hall⟩ | ⟨k, hk, rfl, he, hall⟩
  · left
    refine ⟨rfl, ?_⟩
    unfold Vm.opOf
    rw [List.findIdx?_eq_none_iff]
    intro x hx
    obtain ⟨j, hj, rfl⟩ := List.getElem_of_mem hx
    rw [beq_eq_false_iff_ne]
    have hj' : j < SORTQ.length := by rw [← hl]; exact hj
    have e := hget j hj'
    rw [List.getElem?_eq_getElem hj] at e
    rw [Option.some.inj e]
    exact hne j hj' (hall j hj')
  · right
    refine ⟨k, hk, rfl, ?_⟩
    unfold Vm.opOf
    rw [List.findIdx?_eq_some_iff_getElem]
    have hk' : k < Vm.wordsL.length := by rw [hl]; exact hk
    refine ⟨hk', ?_, fun j hj => ?_⟩
    · have e := hget k hk
      rw [List.getElem?_eq_getElem hk'] at e
      rw [Option.some.inj e, he]; simp
    · have hj' : j < SORTQ.length := by omega
      have e := hget j hj'
      rw [List.getElem?_eq_getElem (by omega)] at e
      rw [Option.some.inj e]
      simpa using hne j hj' (hall j hj' hj)
end Go.Proofs.YtdpcdocaahjeoaaDoor
namespace Go.Proofs.YtdpcdocaahjeoaaDoor
open Go Go.RowKit
namespace Vm
def app (a : List Int) : Nat ⊕ (List Int × Nat × List UInt8) → Nat ⊕ (List Int × Nat × List UInt8)
  | .inl e => .inl e
  | .inr (l, b) => .inr (a ++ l, b)
theorem app_nil (r : Nat ⊕ (List Int × Nat × List UInt8)) : app [] r = r := by cases r <;> rfl
theorem app_app (a b : List Int) (r : Nat ⊕ (List Int × Nat × List UInt8)) : app a (app b r) = app (a ++ b) r := by
  cases r with
  | inl e => rfl
  | inr p => obtain ⟨l, c⟩ := p; show Sum.inr (a ++ (b ++ l), c) = .inr ((a ++ b) ++ l, c); rw [List.append_assoc]
theorem argsP_cons (s : List UInt8) (k : Nat) (ks : List Nat) (at_ : Nat) (w : List UInt8) : argsP s (k :: ks) at_ w = if k = 0 then app [0] (argsP s ks at_ w) else match numOf (tokAt s (at_ + w.length)).2 with
      | none => .inl (tokAt s (at_ + w.length)).1
      | some n => app [n] (argsP s ks (tokAt s (at_ + w.length)).1 (tokAt s (at_ + w.length)).2) := by
  rw [argsP]
  split
  · cases argsP s ks at_ w <;> rfl
  · cases numOf (tokAt s (at_ + w.length)).2 with
    | none => rfl
    | some n => dsimp only; cases argsP s ks (tokAt s (at_ + w.length)).1 (tokAt s (at_ + w.length)).2 <;> rfl
theorem argsP_z (s : List UInt8) (ks : List Nat) (a : Nat) (w : List UInt8) : argsP s (0 :: ks) a w = app [0] (argsP s ks a w) := by
  rw [argsP_cons, if_pos rfl]
theorem argsP_n {s : List UInt8} {k : Nat} {ks : List Nat} {a : Nat} {w : List UInt8} {n : Int} (hk : k ≠ 0) (hn : numOf (tokAt s (a + w.length)).2 = some n) : argsP s (k :: ks) a w = app [n] (argsP s ks (tokAt s (a + w.length)).1 (tokAt s (a + w.length)).2) := by
  rw [argsP_cons, if_neg hk, hn]
theorem argsP_b {s : List UInt8} {k : Nat} {ks : List Nat} {a : Nat} {w : List UInt8} (hk : k ≠ 0) (hn : numOf (tokAt s (a + w.length)).2 = none) : argsP s (k :: ks) a w = .inl (tokAt s (a + w.length)).1 := by
  rw [argsP_cons, if_neg hk, hn]
theorem argsP_nil (s : List UInt8) (a : Nat) (w : List UInt8) : argsP s [] a w = .inr ([], a, w) := rfl
theorem loopP_eq (s : List UInt8) (fuel at_ : Nat) (w : List UInt8) (acc : List Ins) : loopP s (fuel + 1) at_ w acc =
    if w = [] then (if at_ < s.length then ([], (at_ : Int), 2) else fin acc)
    else match opOf w with
      | none => ([], (at_ : Int), 2)
      | some op => match argsP s (sorts3 op) at_ w with
        | .inl e => ([], (e : Int), 2)
        | .inr (l, a, v) => loopP s fuel (tokAt s (a + v.length)).1 (tokAt s (a + v.length)).2 (acc ++ [mkIns op l]) := rfl
theorem tokAt_le {s : List UInt8} {a : Nat} (h : a ≤ s.length) : a ≤ (tokAt s a).1 ∧ (tokAt s a).1 ≤ s.length ∧ (tokAt s a).2 = wordAt s (tokAt s a).1 ∧ (tokAt s a).1 + (tokAt s a).2.length ≤ s.length := by
  have h1 := skipN_le s a
  exact ⟨h1.1, h1.2 h, rfl, wordAt_le s _ (h1.2 h)⟩
theorem wordAt_ascii {s : List UInt8} {a : Nat} : ∀ c ∈ wordAt s a, c.toNat < 128 := by
  intro c hc
  unfold wordAt at hc
  have : isTok c = true := by
    have := List.all_takeWhile (l := s.drop a) (p := isTok)
    exact List.all_eq_true.1 this c hc
  unfold isTok at this
  simp only [Bool.and_eq_true, decide_eq_true_eq] at this
  omega
theorem numOf_some {w : List UInt8} (h : numOk w = true) : numOf w = some (numV w) := by unfold numOf; rw [if_pos h]
theorem numOf_none {w : List UInt8} (h : numOk w = false) : numOf w = none := by unfold numOf; rw [h]; rfl
theorem numV_in {w : List UInt8} (h : numOk w = true) : inI (numV w) := by
  unfold numOk at h
  simp only [Bool.and_eq_true, decide_eq_true_eq] at h
  obtain ⟨⟨h1, h7⟩, hall⟩ := h
  have hlt := Dc.decV_lt _ hall
  have hl7 : 10 ^ (digs w).length ≤ 10 ^ 7 := Nat.pow_le_pow_right (by omega) h7
  have h107 : (10 : Nat) ^ 7 = 10000000 := by decide
  unfold numV inI
  split <;> omega
end Vm
end Go.Proofs.YtdpcdocaahjeoaaDoor
