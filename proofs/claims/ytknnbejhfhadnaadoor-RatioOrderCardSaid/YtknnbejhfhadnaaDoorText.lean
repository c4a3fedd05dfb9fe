/- Texts of fractions. No program in sight. -/
import Derived.Test.YtknnbejhfhadnaaDoorPlain
import Derived.Lib.ItoaNum
import Derived.Lib.ItoaMem
import Derived.Lib.AtoiAll
import Derived.Lib.AtoiTie
namespace Go.Proofs.YtknnbejhfhadnaaDoor
namespace Rt
open Go.Lib
def isDig (c : UInt8) : Bool := decide (48 ≤ c.toNat) && decide (c.toNat ≤ 57)
theorem digit_is (n : Nat) : isDig (UInt8.ofNat (48 + n % 10)) = true := by
  have h : n % 10 < 10 := Nat.mod_lt _ (by decide)
  generalize n % 10 = m at h
  match m, h with
  | 0, _ => rfl
  | 1, _ => rfl
  | 2, _ => rfl
  | 3, _ => rfl
  | 4, _ => rfl
  | 5, _ => rfl
  | 6, _ => rfl
  | 7, _ => rfl
  | 8, _ => rfl
  | 9, _ => rfl
theorem decDigits_all (u : Nat) : (decDigits u).all isDig = true := by
  induction u using Nat.strongRecOn with
  | _ u ih =>
    rw [decDigits]
    split
    · rename_i h
      have := digit_is u
      rw [Nat.mod_eq_of_lt h] at this
      rw [List.all_cons, this]; rfl
    · rw [List.all_append, ih (u / 10) (by omega), List.all_cons, digit_is]; rfl
theorem decDigits_ne (u : Nat) : decDigits u ≠ [] := by
  rw [decDigits]; split <;> simp
theorem decFrom_append : ∀ (l r : List UInt8) (acc : Nat), decFrom acc (l ++ r) = (decFrom acc l).bind fun a => decFrom a r
  | [], r, acc => by simp [decFrom]
  | b :: l, r, acc => by
    simp only [List.cons_append, decFrom]
    cases digitVal b with
    | none => rfl
    | some d => exact decFrom_append l r _
theorem digitVal_ofNat (m : Nat) (h : m < 10) : digitVal (UInt8.ofNat (48 + m)) = some m := by
  match m, h with
  | 0, _ => rfl
  | 1, _ => rfl
  | 2, _ => rfl
  | 3, _ => rfl
  | 4, _ => rfl
  | 5, _ => rfl
  | 6, _ => rfl
  | 7, _ => rfl
  | 8, _ => rfl
  | 9, _ => rfl
theorem decFrom_digits (u : Nat) : decFrom 0 (decDigits u) = some u := by
  induction u using Nat.strongRecOn with
  | _ u ih =>
    rw [decDigits]
    split
    · rename_i h
      simp only [decFrom, digitVal_ofNat u h, Nat.zero_mul, Nat.zero_add]
    · rw [decFrom_append, ih (u / 10) (by omega)]
      simp only [Option.bind_some, decFrom, digitVal_ofNat (u % 10) (Nat.mod_lt _ (by decide))]
      congr 1; omega
theorem decDigits_len (u : Nat) (h : u < 10000000000) : (decDigits u).length ≤ 10 := by
  have key : ∀ k u, u < 10 ^ k → 1 ≤ k → (decDigits u).length ≤ k := by
    intro k
    induction k with
    | zero => intro u _ h; omega
    | succ k ih =>
      intro u hu _
      rw [decDigits]
      split
      · simp
      · rename_i h10
        rw [Nat.pow_succ] at hu
        have hk : 1 ≤ k := by
          rcases Nat.eq_zero_or_pos k with rfl | h'
          · simp at hu; omega
          · exact h'
        have := ih (u / 10) (by omega) hk
        simp; omega
  exact key 10 u h (by omega)
theorem itoa_len (n : Int) (h : n.natAbs < 10000000000) : (itoa n).length ≤ 11 := by
  unfold itoa
  have a := decDigits_len n.natAbs h
  split
  · simp; omega
  · have b := decDigits_len n.toNat (by omega); omega
theorem itoa_atoi (n : Int) : atoi (itoa n) = some n := by
  unfold itoa
  split
  · rename_i h
    simp only [atoi, decNat]
    rw [if_pos (by rfl), if_neg (by simp [decDigits_ne]), decFrom_digits]
    simp; omega
  · rename_i h
    cases hd : decDigits n.toNat with
    | nil => exact absurd hd (decDigits_ne _)
    | cons b r =>
      have hall := decDigits_all n.toNat
      rw [hd] at hall
      simp only [List.all_cons, Bool.and_eq_true, isDig, decide_eq_true_eq] at hall
      obtain ⟨⟨h1, h2⟩, _⟩ := hall
      have n45 : (b == 45) = false := by
        rw [beq_eq_false_iff_ne]; rintro rfl; simp at h1
      have n43 : (b == 43) = false := by
        rw [beq_eq_false_iff_ne]; rintro rfl; simp at h1
      simp only [atoi, n45, n43, decNat]
      rw [if_neg (by simp), if_neg (by simp), if_neg (by simp), ← hd, decFrom_digits]
      simp; omega
theorem itoa_all (n : Int) (h : n.natAbs < 10000000000) : atoiAll (itoa n) = .ok n := by
  rw [atoiAll_short _ (by have := itoa_len n h; omega), itoa_atoi]; rfl
theorem itoa_inj {m n : Int} (h : itoa m = itoa n) : m = n := by
  have a := itoa_atoi m
  rw [h, itoa_atoi n] at a
  injection a with a; exact a.symm
/-- No slash in a number. -/
theorem itoa_slash (n : Int) : ∀ c ∈ itoa n, c ≠ 47 := by
  have key : ∀ u, ∀ c ∈ decDigits u, c ≠ 47 := by
    intro u c hc h
    have := List.all_eq_true.1 (decDigits_all u) c hc
    subst h
    simp [isDig] at this
  unfold itoa
  split
  · intro c hc
    rcases List.mem_cons.1 hc with rfl | hc
    · decide
    · exact key _ c hc
  · exact key _
def txt (P Q : Int) : List UInt8 := if vld P Q then itoa P ++ (if 1 < Q then 47 :: itoa Q else []) else []
/-- A text, cut at its first slash; without one the second part is "1". -/
def cutF : List UInt8 → List UInt8
  | [] => []
  | c :: l => if c = 47 then [] else c :: cutF l
def cutS : List UInt8 → List UInt8
  | [] => [49]
  | c :: l => if c = 47 then l else cutS l
theorem cut_no {a : List UInt8} (h : ∀ c ∈ a, c ≠ 47) : cutF a = a ∧ cutS a = [49] := by
  induction a with
  | nil => exact ⟨rfl, rfl⟩
  | cons c l ih =>
    have hc := h c List.mem_cons_self
    obtain ⟨i, j⟩ := ih (fun c hc => h c (List.mem_cons_of_mem _ hc))
    simp [cutF, cutS, hc, i, j]
theorem cut_at {a b : List UInt8} (h : ∀ c ∈ a, c ≠ 47) : cutF (a ++ 47 :: b) = a ∧ cutS (a ++ 47 :: b) = b := by
  induction a with
  | nil => simp [cutF, cutS]
  | cons c l ih =>
    have hc := h c List.mem_cons_self
    obtain ⟨i, j⟩ := ih (fun c hc => h c (List.mem_cons_of_mem _ hc))
    simp [cutF, cutS, hc, i, j]
theorem itoa_one : itoa 1 = [49] := by unfold itoa; rw [if_neg (by decide), decDigits, dif_pos (by decide)]; rfl
theorem txt_cut {P Q : Int} (h : vldP P Q) (h1 : 1 ≤ Q) : cutF (txt P Q) = itoa P ∧ cutS (txt P Q) = itoa Q := by
  unfold txt
  rw [vld_iff.2 h, if_pos rfl]
  by_cases hQ : 1 < Q
  · rw [if_pos hQ]; exact cut_at (itoa_slash P)
  · rw [if_neg hQ, List.append_nil, show Q = 1 by omega, itoa_one]; exact cut_no (itoa_slash P)
theorem txt_inj {P Q P' Q' : Int} (h : vldP P Q) (h1 : 1 ≤ Q) (h' : vldP P' Q') (h1' : 1 ≤ Q') (e : txt P Q = txt P' Q') : P = P' ∧ Q = Q' := by
  obtain ⟨a, b⟩ := txt_cut h h1
  obtain ⟨a', b'⟩ := txt_cut h' h1'
  rw [e] at a b
  exact ⟨itoa_inj (a.symm.trans a'), itoa_inj (b.symm.trans b')⟩
theorem itoa_ne (n : Int) : itoa n ≠ [] := by
  unfold itoa; split
  · simp
  · exact decDigits_ne _
theorem txt_ne {P Q : Int} (h : vldP P Q) : txt P Q ≠ [] := by
  unfold txt; rw [vld_iff.2 h, if_pos rfl]
  intro e
  exact itoa_ne P (List.append_eq_nil_iff.1 e).1
theorem txt_no {P Q : Int} (h : ¬ vldP P Q) : txt P Q = [] := by unfold txt; rw [vld_no.2 h]; rfl
theorem txt_len {P Q : Int} : (txt P Q).length ≤ 23 := by
  unfold txt
  split
  · rename_i h
    have hv := vld_iff.1 h
    obtain ⟨a, b⟩ := num_bd hv
    have d := (den_pos hv).2
    have x := itoa_len P (by omega)
    have y : (if 1 < Q then 47 :: itoa Q else []).length ≤ 12 := by
      split
      · have : Q ≤ 2147483648 := by unfold den at d; split at d <;> omega
        have := itoa_len Q (by omega)
        simp; omega
      · simp
    rw [List.length_append]; omega
  · simp
/-- The text of a fraction and of its form with a positive denominator is the same. -/
theorem txt_den {P Q : Int} (h : vldP P Q) : txt P (den Q) = txt P Q := by
  have hv : vldP P (den Q) := (of_ok (ofR_val h)).1
  unfold txt
  rw [vld_iff.2 h, vld_iff.2 hv]
  unfold den
  by_cases h0 : Q = 0
  · subst h0; simp
  · simp only [if_neg h0]
theorem txt_same {P Q P' Q' : Int} (h : vldP P Q) (h' : vldP P' Q') : txt P Q = txt P' Q' ↔ val P Q = val P' Q' := by
  have hv : vldP P (den Q) := (of_ok (ofR_val h)).1
  have hv' : vldP P' (den Q') := (of_ok (ofR_val h')).1
  rw [← txt_den h, ← txt_den h']
  constructor
  · intro e
    obtain ⟨a, b⟩ := txt_inj hv (den_pos h).1 hv' (den_pos h').1 e
    unfold val; rw [a, b]
  · intro e
    obtain ⟨a, b⟩ := val_inj h h' e
    rw [a, b]
def IsT (l : List UInt8) : Prop := ∃ P Q, vldP P Q ∧ 1 ≤ Q ∧ txt P Q = l
open Classical in
noncomputable def par (l : List UInt8) : Int × Int × Int := if h : IsT l then (h.choose, h.choose_spec.choose, 0) else (0, 0, 2)
theorem par_ok {P Q : Int} (h : vldP P Q) (h1 : 1 ≤ Q) : par (txt P Q) = (P, Q, 0) := by
  have hi : IsT (txt P Q) := ⟨P, Q, h, h1, rfl⟩
  unfold par
  rw [dif_pos hi]
  obtain ⟨a, b, c⟩ := hi.choose_spec.choose_spec
  obtain ⟨e, f⟩ := txt_inj a b h h1 c
  rw [f, e]
theorem par_no {l : List UInt8} (h : ¬ IsT l) : par l = (0, 0, 2) := by unfold par; rw [dif_neg h]
/-- A pair of numbers read out of a text is what Parse gives, if its text is that one. -/
theorem par_of {l : List UInt8} {p q : Int} (hq : q ≠ 0) (hne : l ≠ []) (ht : txt p q = l) : par l = (p, q, 0) := by
  have hv : vldP p q := by
    by_cases h : vldP p q
    · exact h
    · rw [txt_no h] at ht; exact absurd ht.symm hne
  have h1 : 1 ≤ q := by
    rcases hv with ⟨_, h0⟩ | ⟨a, _⟩
    · exact absurd h0 hq
    · exact a
  rw [← ht]; exact par_ok hv h1
end Rt
end Go.Proofs.YtknnbejhfhadnaaDoor
