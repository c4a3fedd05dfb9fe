/- What the reference's Parse reckons. No walk. -/
import Derived.Test.YtknnbejhfhadnaaDoorW17
namespace Go.Proofs.YtknnbejhfhadnaaDoor
namespace Rt
open Go.Lib
theorem ofNat_dig (m : Nat) (h : m < 10) : (UInt8.ofNat (48 + m)).toNat - 48 = m := by
  rw [UInt8.toNat_ofNat']; omega
theorem decV_digits (u : Nat) : decV (decDigits u) = u := by
  induction u using Nat.strongRecOn with
  | _ u ih =>
    rw [decDigits]
    split
    · rename_i h
      show decV ([] ++ [_]) = u
      rw [decV_snoc, ofNat_dig u h]; simp [decV]
    · rw [decV_snoc, ih (u / 10) (by omega), ofNat_dig _ (by omega)]; omega
theorem num_digits (u : Nat) (h : u < 10000000000) : numB (decDigits u) = true ∧ numV (decDigits u) = (u : Int) := by
  have hok : numOk (decDigits u) = true := by
    unfold numOk
    rw [decDigits_all, Bool.true_and]
    exact decide_eq_true (decDigits_len u h)
  unfold numB numV
  rw [hok, if_pos rfl, decV_digits]
  refine ⟨?_, rfl⟩
  cases hl : decDigits u with
  | nil => exact absurd hl (decDigits_ne u)
  | cons c l => rfl
def neg (f : List UInt8) : Bool := f.head? == some 45
def rest (f : List UInt8) : List UInt8 := if neg f then f.tail else f
def sgn (f : List UInt8) : Int := if neg f then -1 else 1
def rP (l : List UInt8) : Int := sgn (cutF l) * numV (rest (cutF l))
def rQ (l : List UInt8) : Int := numV (cutS l)
def rOk (l : List UInt8) : Bool := numB (rest (cutF l)) && numB (cutS l) && !(rQ l == 0) && decide (txt (rP l) (rQ l) = l)
theorem digits_neg (u : Nat) : neg (decDigits u) = false := by
  have h := decDigits_all u
  cases hl : decDigits u with
  | nil => rfl
  | cons c l =>
    rw [hl, List.all_cons, Bool.and_eq_true] at h
    have hc := h.1
    simp only [isDig, Bool.and_eq_true, decide_eq_true_eq] at hc
    unfold neg
    simp only [List.head?_cons]
    cases hb : (some c == some (45 : UInt8)) with
    | false => rfl
    | true =>
      have : c = 45 := by simpa using hb
      subst this
      exact absurd hc.1 (by decide)
theorem itoa_parts (n : Int) (h : n.natAbs < 10000000000) : numB (rest (itoa n)) = true ∧ sgn (itoa n) * numV (rest (itoa n)) = n := by
  unfold itoa
  split
  · have e1 : neg (45 :: decDigits n.natAbs) = true := rfl
    obtain ⟨a, b⟩ := num_digits n.natAbs h
    unfold rest sgn
    rw [e1, if_pos rfl, if_pos rfl, List.tail_cons, a, b]
    exact ⟨rfl, by omega⟩
  · obtain ⟨a, b⟩ := num_digits n.toNat (by omega)
    unfold rest sgn
    rw [digits_neg]
    simp only [Bool.false_eq_true, if_false, Int.one_mul]
    exact ⟨a, by rw [b]; omega⟩
theorem ref_par (l : List UInt8) : par l = if rOk l then (rP l, rQ l, 0) else (0, 0, 2) := by
  cases hr : rOk l with
  | true =>
    rw [if_pos rfl]
    unfold rOk at hr
    simp only [Bool.and_eq_true, decide_eq_true_eq, Bool.not_eq_true', beq_eq_false_iff_ne] at hr
    obtain ⟨⟨⟨h1, h2⟩, h3⟩, h4⟩ := hr
    refine par_of h3 ?_ h4
    rintro rfl
    revert h1
    decide
  | false =>
    rw [if_neg (by decide)]
    refine par_no fun ⟨P, Q, hv, h1, e⟩ => ?_
    obtain ⟨c1, c2⟩ := txt_cut hv h1
    have bP := num_bd hv
    have bQ := den_pos hv
    unfold den at bQ
    rw [if_neg (by omega)] at bQ
    obtain ⟨a1, a2⟩ := itoa_parts P (by omega)
    have hq : itoa Q = decDigits Q.toNat := by unfold itoa; rw [if_neg (by omega)]
    obtain ⟨b1, b2⟩ := num_digits Q.toNat (by omega)
    rw [← hq] at b1 b2
    have eP : rP l = P := by unfold rP; rw [← e, c1]; exact a2
    have eQ : rQ l = Q := by unfold rQ; rw [← e, c2, b2]; omega
    have : rOk l = true := by
      unfold rOk
      rw [eP, eQ, ← e, c1, c2, a1, b1]
      have : (Q == 0) = false := by simp; omega
      rw [this]; simp
    rw [this] at hr; cases hr
end Rt
end Go.Proofs.YtknnbejhfhadnaaDoor
