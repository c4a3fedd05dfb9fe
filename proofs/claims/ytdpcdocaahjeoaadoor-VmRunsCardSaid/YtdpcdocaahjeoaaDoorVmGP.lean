/- Plain laws of programs of tests, their texts and bytes. No function of Go in sight. -/
import Derived.Test.YtdpcdocaahjeoaaDoorBaseA
import Derived.Lib.ItoaNum
import Derived.Lib.ItoaMem
import Derived.Lib.AtoiAll
import Derived.Lib.AtoiTie
namespace Go.Proofs.YtdpcdocaahjeoaaDoor
namespace Dc
open Go.Lib
def isDig (c : UInt8) : Bool := decide (48 ≤ c.toNat) && decide (c.toNat ≤ 57)
theorem digit_is (n : Nat) : isDig (UInt8.ofNat (48 + n % 10)) = true := by
  have h : n % 10 < 10 := Nat.mod_lt _ (by decide)
  generalize n % 10 = m at h
  match m, h with
  | 0, _ => rfl
  | 1, _ => rfl
  | 2, _ => rfl
  | 3, _ => rfl
  | 4, _ => rfl
  | 5, _ => rfl
  | 6, _ => rfl
  | 7, _ => rfl
  | 8, _ => rfl
  | 9, _ => rfl
theorem decDigits_all (u : Nat) : (decDigits u).all isDig = true := by
  induction u using Nat.strongRecOn with
  | _ u ih =>
    rw [decDigits]
    split
    · rename_i h
      have := digit_is u
      rw [Nat.mod_eq_of_lt h] at this
      rw [List.all_cons, this]; rfl
    · rw [List.all_append, ih (u / 10) (by omega), List.all_cons, digit_is]; rfl
theorem decDigits_ne (u : Nat) : decDigits u ≠ [] := by
  rw [decDigits]; split <;> simp
theorem decFrom_append : ∀ (l r : List UInt8) (acc : Nat), decFrom acc (l ++ r) = (decFrom acc l).bind fun a => decFrom a r
  | [], r, acc => by simp [decFrom]
  | b :: l, r, acc => by
    simp only [List.cons_append, decFrom]
    cases digitVal b with
    | none => rfl
    | some d => exact decFrom_append l r _
theorem digitVal_ofNat (m : Nat) (h : m < 10) : digitVal (UInt8.ofNat (48 + m)) = some m := by
  match m, h with
  | 0, _ => rfl
  | 1, _ => rfl
  | 2, _ => rfl
  | 3, _ => rfl
  | 4, _ => rfl
  | 5, _ => rfl
  | 6, _ => rfl
  | 7, _ => rfl
  | 8, _ => rfl
  | 9, _ => rfl
theorem decFrom_digits (u : Nat) : decFrom 0 (decDigits u) = some u := by
  induction u using Nat.strongRecOn with
  | _ u ih =>
    rw [decDigits]
    split
    · rename_i h
      simp only [decFrom, digitVal_ofNat u h, Nat.zero_mul, Nat.zero_add]
    · rw [decFrom_append, ih (u / 10) (by omega)]
      simp only [Option.bind_some, decFrom, digitVal_ofNat (u % 10) (Nat.mod_lt _ (by decide))]
      congr 1; omega
theorem decDigits_lt : ∀ k u, u < 10 ^ k → 1 ≤ k → (decDigits u).length ≤ k := by
    intro k
    induction k with
    | zero => intro u _ h; omega
    | succ k ih =>
      intro u hu _
      rw [decDigits]
      split
      · simp
      · rename_i h10
        rw [Nat.pow_succ] at hu
        have hk : 1 ≤ k := by
          rcases Nat.eq_zero_or_pos k with rfl | h'
          · simp at hu; omega
          · exact h'
        have := ih (u / 10) (by omega) hk
        simp; omega
theorem decDigits_len (u : Nat) (h : u < 10000000000) : (decDigits u).length ≤ 10 := decDigits_lt 10 u h (by omega)
theorem itoa_len (n : Int) (h : n.natAbs < 10000000000) : (itoa n).length ≤ 11 := by
  unfold itoa
  have a := decDigits_len n.natAbs h
  split
  · simp; omega
  · have b := decDigits_len n.toNat (by omega); omega
theorem itoa_atoi (n : Int) : atoi (itoa n) = some n := by
  unfold itoa
  split
  · rename_i h
    simp only [atoi, decNat]
    rw [if_pos (by rfl), if_neg (by simp [decDigits_ne]), decFrom_digits]
    simp; omega
  · rename_i h
    cases hd : decDigits n.toNat with
    | nil => exact absurd hd (decDigits_ne _)
    | cons b r =>
      have hall := decDigits_all n.toNat
      rw [hd] at hall
      simp only [List.all_cons, Bool.and_eq_true, isDig, decide_eq_true_eq] at hall
      obtain ⟨⟨h1, h2⟩, _⟩ := hall
      have n45 : (b == 45) = false := by
        rw [beq_eq_false_iff_ne]; rintro rfl; simp at h1
      have n43 : (b == 43) = false := by
        rw [beq_eq_false_iff_ne]; rintro rfl; simp at h1
      simp only [atoi, n45, n43, decNat]
      rw [if_neg (by simp), if_neg (by simp), if_neg (by simp), ← hd, decFrom_digits]
      simp; omega
theorem itoa_all (n : Int) (h : n.natAbs < 10000000000) : atoiAll (itoa n) = .ok n := by
  rw [atoiAll_short _ (by have := itoa_len n h; omega), itoa_atoi]; rfl
theorem itoa_inj {m n : Int} (h : itoa m = itoa n) : m = n := by
  have a := itoa_atoi m
  rw [h, itoa_atoi n] at a
  injection a with a; exact a.symm
def decV (l : List UInt8) : Nat := l.foldl (fun a c => 10 * a + (c.toNat - 48)) 0
theorem decV_snoc (l : List UInt8) (c : UInt8) : decV (l ++ [c]) = 10 * decV l + (c.toNat - 48) := by unfold decV; rw [List.foldl_append]; rfl
theorem foldl_lt : ∀ (l : List UInt8) (a : Nat), l.all isDig = true → l.foldl (fun a c => 10 * a + (c.toNat - 48)) a < (a + 1) * 10 ^ l.length
  | [], a, _ => by simp
  | c :: l, a, h => by
    rw [List.all_cons, Bool.and_eq_true] at h
    have hc := h.1
    simp only [isDig, Bool.and_eq_true, decide_eq_true_eq] at hc
    have ih := foldl_lt l (10 * a + (c.toNat - 48)) h.2
    rw [List.foldl_cons, List.length_cons, Nat.pow_succ]
    refine Nat.lt_of_lt_of_le ih ?_
    have : (10 * a + (c.toNat - 48) + 1) ≤ (a + 1) * 10 := by omega
    calc (10 * a + (c.toNat - 48) + 1) * 10 ^ l.length ≤ ((a + 1) * 10) * 10 ^ l.length := Nat.mul_le_mul_right _ this
      _ = (a + 1) * (10 ^ l.length * 10) := by rw [Nat.mul_assoc, Nat.mul_comm 10]
theorem decV_lt (l : List UInt8) (h : l.all isDig = true) : decV l < 10 ^ l.length := by
  have := foldl_lt l 0 h
  simpa [decV] using this
theorem ofNat_dig (m : Nat) (h : m < 10) : (UInt8.ofNat (48 + m)).toNat - 48 = m := by
  rw [UInt8.toNat_ofNat']; omega
theorem decV_digits (u : Nat) : decV (decDigits u) = u := by
  induction u using Nat.strongRecOn with
  | _ u ih =>
    rw [decDigits]
    split
    · rename_i h
      show decV ([] ++ [_]) = u
      rw [decV_snoc, ofNat_dig u h]; simp [decV]
    · rw [decV_snoc, ih (u / 10) (by omega), ofNat_dig _ (by omega)]; omega
theorem digits_neg (u : Nat) : ((decDigits u).head? == some 45) = false := by
  have h := decDigits_all u
  cases hl : decDigits u with
  | nil => rfl
  | cons c l =>
    rw [hl, List.all_cons, Bool.and_eq_true] at h
    have hc := h.1
    simp only [isDig, Bool.and_eq_true, decide_eq_true_eq] at hc
    simp only [List.head?_cons]
    cases hb : (some c == some (45 : UInt8)) with
    | false => rfl
    | true =>
      have : c = 45 := by simpa using hb
      subst this
      exact absurd hc.1 (by decide)
end Dc
end Go.Proofs.YtdpcdocaahjeoaaDoor
namespace Go.Proofs.YtdpcdocaahjeoaaDoor
open Go Go.RowKit
/-- A field: Name, Of, Up, Kind, Lo, Hi, Words, Weights. -/
abbrev Fld := ByteArray × ByteArray × ByteArray × Int × Int × Int × List ByteArray × List Int
/-- A kind: Name, Lo, Hi, Fields. -/
abbrev Knd := ByteArray × Int × Int × List Fld
abbrev Lif := ByteArray × List ByteArray × List (Int × Int)
abbrev Rul := ByteArray × ByteArray × ByteArray × ByteArray × Int
/-- A schema: Version, Kinds, Lives, Rules. -/
abbrev Sch := Int × List Knd × List Lif × List Rul
abbrev Wor := List (List (List Int))
namespace Sc
def nm (f : Fld) : ByteArray := f.1
def of_ (f : Fld) : ByteArray := f.2.1
def up (f : Fld) : ByteArray := f.2.2.1
def kd (f : Fld) : Int := f.2.2.2.1
def lo (f : Fld) : Int := f.2.2.2.2.1
def hi (f : Fld) : Int := f.2.2.2.2.2.1
def words (f : Fld) : List ByteArray := f.2.2.2.2.2.2.1
def wts (f : Fld) : List Int := f.2.2.2.2.2.2.2
def flds (k : Knd) : List Fld := k.2.2.2
def kinds (x : Sch) : List Knd := x.2.1
end Sc
section
variable {G : List Nat} {w : World}
theorem sl_of {α : Type} [Mem α] {l : List α} {v : Value} (h : Rep G w l v) : ∃ A c, v = .slice A l.length c ∧ l.length ≤ c ∧ c ≤ 9223372036854775807 ∧ SlAt G w A l := by
  obtain ⟨A, c, h1, h2, h3, h4⟩ := h
  injection h1 with h1 _
  exact ⟨A, c, h1, h2, h3, h4⟩
theorem rep_fld {f : Fld} {us : List Value} (h : Mem.rep G w f us) : ∃ A c B d, us = [.string (Sc.nm f), .string (Sc.of_ f), .string (Sc.up f), .int .i64 (Sc.kd f), .int .i64 (Sc.lo f), .int .i64 (Sc.hi f), .slice A (Sc.words f).length c, .slice B (Sc.wts f).length d] ∧
    SlAt G w A (Sc.words f) ∧ SlAt G w B (Sc.wts f) ∧ inI (Sc.kd f) ∧ inI (Sc.lo f) ∧ inI (Sc.hi f) ∧ (Sc.nm f).size ≤ 9223372036854775807 ∧ (Sc.of_ f).size ≤ 9223372036854775807 ∧ (Sc.up f).size ≤ 9223372036854775807 ∧
    (Sc.words f).length ≤ c ∧ c ≤ 9223372036854775807 ∧ (Sc.wts f).length ≤ d ∧ d ≤ 9223372036854775807 := by
  obtain ⟨u1, t1, rfl, ⟨rfl, a1⟩, u2, t2, rfl, ⟨rfl, a2⟩, u3, t3, rfl, ⟨rfl, a3⟩, u4, t4, rfl, ⟨rfl, a4⟩, u5, t5, rfl, ⟨rfl, a5⟩, u6, t6, rfl, ⟨rfl, a6⟩, u7, t7, rfl, ⟨A, c, rfl, b1, b2, b3⟩, ⟨B, d, rfl, e1, e2, e3⟩⟩ := h
  exact ⟨A, c, B, d, rfl, b3, e3, a4, a5, a6, a1, a2, a3, b1, b2, e1, e2⟩
theorem rep_knd {k : Knd} {us : List Value} (h : Mem.rep G w k us) : ∃ A c, us = [.string k.1, .int .i64 k.2.1, .int .i64 k.2.2.1, .slice A (Sc.flds k).length c] ∧ SlAt G w A (Sc.flds k) ∧ inI k.2.1 ∧ inI k.2.2.1 ∧ k.1.size ≤ 9223372036854775807 ∧ (Sc.flds k).length ≤ c ∧ c ≤ 9223372036854775807 := by
  obtain ⟨u1, t1, rfl, ⟨rfl, a1⟩, u2, t2, rfl, ⟨rfl, a2⟩, u3, t3, rfl, ⟨rfl, a3⟩, ⟨A, c, rfl, b1, b2, b3⟩⟩ := h
  exact ⟨A, c, rfl, b3, a2, a3, a1, b1, b2⟩
theorem rep_sch {x : Sch} {us : List Value} (h : Mem.rep G w x us) : ∃ A c B d C e, us = [.int .i64 x.1, .slice A (Sc.kinds x).length c, .slice B x.2.2.1.length d, .slice C x.2.2.2.length e] ∧ SlAt G w A (Sc.kinds x) ∧ SlAt G w B x.2.2.1 ∧ SlAt G w C x.2.2.2 ∧ inI x.1 ∧
    (Sc.kinds x).length ≤ c ∧ c ≤ 9223372036854775807 ∧ x.2.2.1.length ≤ d ∧ d ≤ 9223372036854775807 ∧ x.2.2.2.length ≤ e ∧ e ≤ 9223372036854775807 := by
  obtain ⟨u1, t1, rfl, ⟨rfl, a1⟩, u2, t2, rfl, ⟨A, c, rfl, b1, b2, b3⟩, u3, t3, rfl, ⟨B, d, rfl, c1, c2, c3⟩, ⟨C, e, rfl, d1, d2, d3⟩⟩ := h
  exact ⟨A, c, B, d, C, e, rfl, b3, c3, d3, a1, b1, b2, c1, c2, d1, d2⟩
/-- A kind of a slice of kinds, cell by cell. -/
theorem knd_at {A : Option Addr} {l : List Knd} (h : SlAt G w A l) (k : Nat) (hk : k < l.length) : ∃ b o B c, A = some ⟨b, o, none⟩ ∧ b ∉ G ∧
    w.cell? ⟨b, o + k * 4, none⟩ = some (.string l[k].1) ∧ w.cell? ⟨b, o + k * 4 + 1, none⟩ = some (.int .i64 l[k].2.1) ∧ w.cell? ⟨b, o + k * 4 + 2, none⟩ = some (.int .i64 l[k].2.2.1) ∧ w.cell? ⟨b, o + k * 4 + 3, none⟩ = some (.slice B (Sc.flds l[k]).length c) ∧
    SlAt G w B (Sc.flds l[k]) ∧ (Sc.flds l[k]).length ≤ c ∧ c ≤ 9223372036854775807 ∧ inI l[k].2.1 ∧ inI l[k].2.2.1 ∧ l[k].1.size ≤ 9223372036854775807 := by
  obtain ⟨b, o, us, hA, hg, hr, hc⟩ := h.get k hk
  obtain ⟨B, c, rfl, s1, a1, a2, a3, a4, a5⟩ := rep_knd hr
  exact ⟨b, o, B, c, hA, hg, hc 0 _ rfl, hc 1 _ rfl, hc 2 _ rfl, hc 3 _ rfl, s1, a4, a5, a1, a2, a3⟩
/-- A field of a slice of fields, cell by cell. -/
theorem fld_at {A : Option Addr} {l : List Fld} (h : SlAt G w A l) (k : Nat) (hk : k < l.length) : ∃ b o B c C d, A = some ⟨b, o, none⟩ ∧ b ∉ G ∧
    w.cell? ⟨b, o + k * 8, none⟩ = some (.string (Sc.nm l[k])) ∧ w.cell? ⟨b, o + k * 8 + 1, none⟩ = some (.string (Sc.of_ l[k])) ∧ w.cell? ⟨b, o + k * 8 + 2, none⟩ = some (.string (Sc.up l[k])) ∧ w.cell? ⟨b, o + k * 8 + 3, none⟩ = some (.int .i64 (Sc.kd l[k])) ∧
    w.cell? ⟨b, o + k * 8 + 4, none⟩ = some (.int .i64 (Sc.lo l[k])) ∧ w.cell? ⟨b, o + k * 8 + 5, none⟩ = some (.int .i64 (Sc.hi l[k])) ∧ w.cell? ⟨b, o + k * 8 + 6, none⟩ = some (.slice B (Sc.words l[k]).length c) ∧ w.cell? ⟨b, o + k * 8 + 7, none⟩ = some (.slice C (Sc.wts l[k]).length d) ∧
    SlAt G w B (Sc.words l[k]) ∧ SlAt G w C (Sc.wts l[k]) ∧ inI (Sc.kd l[k]) ∧ inI (Sc.lo l[k]) ∧ inI (Sc.hi l[k]) ∧ (Sc.nm l[k]).size ≤ 9223372036854775807 := by
  obtain ⟨b, o, us, hA, hg, hr, hc⟩ := h.get k hk
  obtain ⟨B, c, C, d, rfl, s1, s2, a1, a2, a3, a4, a5, a6, a7⟩ := rep_fld hr
  exact ⟨b, o, B, c, C, d, hA, hg, hc 0 _ rfl, hc 1 _ rfl, hc 2 _ rfl, hc 3 _ rfl, hc 4 _ rfl, hc 5 _ rfl, hc 6 _ rfl, hc 7 _ rfl, s1, s2, a1, a2, a3, a4⟩
/-- An element of a slice of slices. -/
theorem lst_at {α : Type} [Mem α] {A : Option Addr} {l : List (List α)} (h : SlAt G w A l) (k : Nat) (hk : k < l.length) : ∃ b o B c, A = some ⟨b, o, none⟩ ∧ b ∉ G ∧ w.cell? ⟨b, o + k, none⟩ = some (.slice B l[k].length c) ∧ SlAt G w B l[k] ∧ l[k].length ≤ c ∧ c ≤ 9223372036854775807 := by
  obtain ⟨b, o, us, hA, hg, ⟨B, c, rfl, b1, b2, b3⟩, hc⟩ := h.get k hk
  refine ⟨b, o, B, c, hA, hg, ?_, b3, b1, b2⟩
  have := hc 0 _ rfl
  rw [show k * Mem.sz (List α) + 0 = k from Nat.mul_one k] at this
  exact this
theorem int_at {A : Option Addr} {l : List Int} (h : SlAt G w A l) (k : Nat) (hk : k < l.length) : ∃ b o, A = some ⟨b, o, none⟩ ∧ b ∉ G ∧ w.cell? ⟨b, o + k, none⟩ = some (.int .i64 l[k]) ∧ inI l[k] := by
  obtain ⟨b, o, us, hA, hg, ⟨rfl, hi⟩, hc⟩ := h.get k hk
  refine ⟨b, o, hA, hg, ?_, hi⟩
  have := hc 0 _ rfl
  rw [show k * Mem.sz Int + 0 = k from Nat.mul_one k] at this
  exact this
theorem str_at {A : Option Addr} {l : List ByteArray} (h : SlAt G w A l) (k : Nat) (hk : k < l.length) : ∃ b o, A = some ⟨b, o, none⟩ ∧ b ∉ G ∧ w.cell? ⟨b, o + k, none⟩ = some (.string l[k]) ∧ l[k].size ≤ 9223372036854775807 := by
  obtain ⟨b, o, us, hA, hg, ⟨rfl, hi⟩, hc⟩ := h.get k hk
  refine ⟨b, o, hA, hg, ?_, hi⟩
  have := hc 0 _ rfl
  rw [show k * Mem.sz ByteArray + 0 = k from Nat.mul_one k] at this
  exact this
end
end Go.Proofs.YtdpcdocaahjeoaaDoor
namespace Go.Proofs.YtdpcdocaahjeoaaDoor
open Go Go.RowKit
namespace Vm
/-- An instruction: Op, A, B, C. -/
abbrev Ins := Int × Int × Int × Int
/-- The sorts of the numbers: 0 none, 1 code, 2 register, 3 constant, 4 kind, 5 field, 6 target. -/
def sortOf (op : Int) (k : Nat) : Nat :=
  if op = 0 then [1, 0, 0].getD k 0
  else if op = 1 then [2, 3, 0].getD k 0
  else if op = 2 then [2, 2, 2].getD k 0
  else if op = 3 then [2, 2, 2].getD k 0
  else if op = 4 then [2, 4, 0].getD k 0
  else if op = 5 then [2, 4, 5].getD k 0
  else if op = 6 then [6, 0, 0].getD k 0
  else if op = 7 then [2, 2, 6].getD k 0
  else if op = 8 then [2, 2, 6].getD k 0
  else 0
def fits (s : Nat) (v n : Int) : Bool :=
  if s = 1 then decide (0 ≤ v) && decide (v ≤ 250)
  else if s = 2 then decide (0 ≤ v) && decide (v ≤ 7)
  else if s = 3 then decide (-1048576 ≤ v) && decide (v ≤ 1048576)
  else if s = 4 then decide (0 ≤ v) && decide (v ≤ 5)
  else if s = 5 then decide (0 ≤ v) && decide (v ≤ 9)
  else if s = 6 then decide (0 ≤ v) && decide (v ≤ n)
  else v == 0
def insOk (n : Int) (i : Ins) : Bool := decide (0 ≤ i.1) && decide (i.1 ≤ 8) && fits (sortOf i.1 0) i.2.1 n && fits (sortOf i.1 1) i.2.2.1 n && fits (sortOf i.1 2) i.2.2.2 n
def vld (p : List Ins) : Int := if 128 < p.length then 4 else if p.all (insOk p.length) then 0 else 1
/-- Kinds by the numbers of their fields; a world. -/
abbrev Shape := List Nat
abbrev Wld := List (List (List Int))
def nmOk (x : Shape) (i : Ins) : Bool :=
  if i.1 = 4 then decide (i.2.2.1 < x.length)
  else if i.1 = 5 then decide (i.2.2.1 < x.length) && decide (i.2.2.2 < ((x.getD i.2.2.1.toNat 0 : Nat) : Int))
  else true
def named (x : Shape) (p : List Ins) : Bool := p.all (nmOk x)
def cnt (w : Wld) (k : Int) : Int := if k < 0 then 0 else ((w.getD k.toNat []).length : Int)
def val (w : Wld) (k i f : Int) : Int := if k < 0 ∨ i < 0 ∨ f < 0 then 0 else ((w.getD k.toNat []).getD i.toNat []).getD f.toNat 0
/-- What an instruction does: it stops with a code, or goes on at a place with registers. -/
inductive Does where
  | stop (code : Int)
  | on (at_ : Int) (r : List Int)
def reg (r : List Int) (k : Int) : Int := r.getD k.toNat 0
def setR (r : List Int) (k v : Int) : List Int := r.set k.toNat v
def step (w : Wld) (i : Ins) (at_ : Int) (r : List Int) : Does :=
  if i.1 = 0 then .stop i.2.1
  else if i.1 = 1 then .on (at_ + 1) (setR r i.2.1 i.2.2.1)
  else if i.1 = 2 then .on (at_ + 1) (setR r i.2.1 (IntKind.i64.wrap (reg r i.2.2.1 + reg r i.2.2.2)))
  else if i.1 = 3 then .on (at_ + 1) (setR r i.2.1 (IntKind.i64.wrap (reg r i.2.2.1 - reg r i.2.2.2)))
  else if i.1 = 4 then .on (at_ + 1) (setR r i.2.1 (cnt w i.2.2.1))
  else if i.1 = 5 then if reg r i.2.1 < 0 ∨ cnt w i.2.2.1 ≤ reg r i.2.1 then .stop 251 else .on (at_ + 1) (setR r i.2.1 (val w i.2.2.1 (reg r i.2.1) i.2.2.2))
  else if i.1 = 6 then .on i.2.1 r
  else if i.1 = 7 then .on (if reg r i.2.1 < reg r i.2.2.1 then i.2.2.2 else at_ + 1) r
  else .on (if reg r i.2.1 = reg r i.2.2.1 then i.2.2.2 else at_ + 1) r
/-- The run from a place on, `left` steps at most: (code, steps, error), steps counted from n. -/
def go (p : List Ins) (w : Wld) : Nat → Int → Int → List Int → Int × Int × Int
  | left, n, at_, r =>
    if at_ = p.length then (0, n, 0) else
    match left with
    | 0 => (0, 0, 23)
    | left + 1 => match step w (p.getD at_.toNat (0, 0, 0, 0)) at_ r with
      | .stop c => (c, n + 1, 0)
      | .on b r' => go p w left (n + 1) b r'
def run (x : Shape) (p : List Ins) (w : Wld) (most : Int) : Int × Int × Int :=
  if vld p ≠ 0 then (0, 0, vld p)
  else if most < 0 ∨ 1000000 < most then (0, 0, 4)
  else if named x p = false then (0, 0, 12)
  else go p w most.toNat 0 0 [0, 0, 0, 0, 0, 0, 0, 0]
end Vm
end Go.Proofs.YtdpcdocaahjeoaaDoor
namespace Go.Proofs.YtdpcdocaahjeoaaDoor
open Go Go.RowKit
namespace Vm
theorem go_eq (p : List Ins) (w : Wld) (left : Nat) (n at_ : Int) (r : List Int) : go p w left n at_ r =
    if at_ = p.length then (0, n, 0) else match left with
      | 0 => (0, 0, 23)
      | left + 1 => match step w (p.getD at_.toNat (0, 0, 0, 0)) at_ r with
        | .stop c => (c, n + 1, 0)
        | .on b r' => go p w left (n + 1) b r' := by
  cases left <;> rfl
/-- A run that ends: its steps, and what comes of more and of less. -/
theorem go_steps (p : List Ins) (w : Wld) : ∀ (left : Nat) (n at_ : Int) (r : List Int) (c s : Int), go p w left n at_ r = (c, s, 0) →
    n ≤ s ∧ s ≤ n + left ∧ ∀ left' : Nat, (s ≤ n + left' → go p w left' n at_ r = (c, s, 0)) ∧ (n + left' < s → go p w left' n at_ r = (0, 0, 23)) := by
  intro left
  induction left with
  | zero =>
    intro n at_ r c s h
    rw [go_eq] at h
    split at h
    · rename_i he
      injection h with h1 h2; injection h2 with h2 h3
      subst h1 h2
      refine ⟨by omega, by omega, fun left' => ⟨fun _ => ?_, fun hl => by omega⟩⟩
      rw [go_eq, if_pos he]
    · simp at h
  | succ left ih =>
    intro n at_ r c s h
    rw [go_eq] at h
    by_cases he : at_ = p.length
    · rw [if_pos he] at h
      injection h with h1 h2; injection h2 with h2 h3
      subst h1 h2
      refine ⟨by omega, by omega, fun left' => ⟨fun _ => ?_, fun hl => by omega⟩⟩
      rw [go_eq, if_pos he]
    · rw [if_neg he] at h
      dsimp only at h
      cases hs : step w (p.getD at_.toNat (0, 0, 0, 0)) at_ r with
      | stop k =>
        rw [hs] at h
        dsimp only at h
        injection h with h1 h2; injection h2 with h2 h3
        subst h1 h2
        refine ⟨by omega, by omega, fun left' => ⟨fun hl => ?_, fun hl => ?_⟩⟩
        · rw [go_eq, if_neg he]
          cases left' with
          | zero => omega
          | succ k => dsimp only; rw [hs]
        · obtain rfl : left' = 0 := by omega
          rw [go_eq, if_neg he]
      | on b r' =>
        rw [hs] at h
        dsimp only at h
        obtain ⟨a1, a2, a3⟩ := ih _ _ _ _ _ h
        refine ⟨by omega, by omega, fun left' => ⟨fun hl => ?_, fun hl => ?_⟩⟩
        · rw [go_eq, if_neg he]
          cases left' with
          | zero => omega
          | succ k => dsimp only; rw [hs]; exact (a3 k).1 (by omega)
        · rw [go_eq, if_neg he]
          cases left' with
          | zero => rfl
          | succ k => dsimp only; rw [hs]; exact (a3 k).2 (by omega)
theorem go_err (p : List Ins) (w : Wld) : ∀ (left : Nat) (n at_ : Int) (r : List Int), (go p w left n at_ r).2.2 = 0 ∨ go p w left n at_ r = (0, 0, 23) := by
  intro left
  induction left with
  | zero => intro n at_ r; rw [go_eq]; split <;> simp
  | succ left ih =>
    intro n at_ r
    rw [go_eq]
    split
    · simp
    · dsimp only
      split
      · simp
      · exact ih _ _ _
/-- Two worlds that look the same to all instructions. -/
theorem go_same (p : List Ins) (w w' : Wld) (h : ∀ i ∈ p, ∀ a r, step w i a r = step w' i a r) (h0 : ∀ a r, step w (0, 0, 0, 0) a r = step w' (0, 0, 0, 0) a r) : ∀ (left : Nat) (n at_ : Int) (r : List Int), go p w left n at_ r = go p w' left n at_ r := by
  intro left
  induction left with
  | zero => intro n at_ r; rw [go_eq, go_eq]
  | succ left ih =>
    intro n at_ r
    rw [go_eq, go_eq p w']
    have hs : step w (p.getD at_.toNat (0, 0, 0, 0)) at_ r = step w' (p.getD at_.toNat (0, 0, 0, 0)) at_ r := by
      rw [List.getD]
      rcases Nat.lt_or_ge at_.toNat p.length with hl | hl
      · rw [List.getElem?_eq_getElem hl]; exact h _ (List.getElem_mem hl) _ _
      · rw [List.getElem?_eq_none hl]; exact h0 _ _
    rw [hs]
    split
    · rfl
    · dsimp only
      split
      · rfl
      · exact ih _ _ _
theorem step_same {w w' : Wld} {i : Ins} (h4 : i.1 = 4 → cnt w i.2.2.1 = cnt w' i.2.2.1) (h5 : i.1 = 5 → cnt w i.2.2.1 = cnt w' i.2.2.1 ∧ ∀ k, 0 ≤ k → k < cnt w i.2.2.1 → val w i.2.2.1 k i.2.2.2 = val w' i.2.2.1 k i.2.2.2) (a : Int) (r : List Int) : step w i a r = step w' i a r := by
  unfold step
  repeat' (apply ite_congr rfl <;> intro)
  all_goals try rfl
  · rw [h4 (by assumption)]
  · rename_i hh
    obtain ⟨e1, e2⟩ := h5 hh
    rw [← e1]
    by_cases hr : reg r i.2.1 < 0 ∨ cnt w i.2.2.1 ≤ reg r i.2.1
    · rw [if_pos hr, if_pos hr]
    · rw [if_neg hr, if_neg hr, e2 _ (by omega) (by omega)]
theorem step_on {w : Wld} {i : Ins} {n a b : Int} {r r' : List Int} (hi : insOk n i = true) (h : step w i a r = .on b r') : b = a + 1 ∨ (0 ≤ b ∧ b ≤ n) := by
  obtain ⟨op, A, B, C⟩ := i
  unfold insOk at hi
  simp only [Bool.and_eq_true, decide_eq_true_eq] at hi
  obtain ⟨⟨⟨⟨h0, h8⟩, f0⟩, f1⟩, f2⟩ := hi
  unfold step at h
  dsimp only at h f0 f1 f2 h0 h8
  have key : op = 0 ∨ op = 1 ∨ op = 2 ∨ op = 3 ∨ op = 4 ∨ op = 5 ∨ op = 6 ∨ op = 7 ∨ op = 8 := by omega
  rcases key with e | e | e | e | e | e | e | e | e <;> subst e
  · simp at h
  · simp at h; exact .inl h.1.symm
  · simp at h; exact .inl h.1.symm
  · simp at h; exact .inl h.1.symm
  · simp at h; exact .inl h.1.symm
  · simp at h
    split at h
    · simp at h
    · simp at h; exact .inl h.1.symm
  · simp at h
    simp [sortOf, fits] at f0
    obtain ⟨rfl, _⟩ := h
    exact .inr f0
  · simp at h
    simp [sortOf, fits] at f2
    obtain ⟨rfl, _⟩ := h
    split
    · exact .inr f2
    · exact .inl rfl
  · simp at h
    simp [sortOf, fits] at f2
    obtain ⟨rfl, _⟩ := h
    split
    · exact .inr f2
    · exact .inl rfl
/-- Further instructions behind a last stop. -/
theorem go_ext (p q : List Ins) (w : Wld) (hp : ∀ i ∈ p, insOk p.length i = true) : ∀ (left : Nat) (n at_ : Int) (r : List Int), 0 ≤ at_ → at_ ≤ p.length →
    go (p ++ [(0, 0, 0, 0)]) w left n at_ r = go (p ++ [(0, 0, 0, 0)] ++ q) w left n at_ r := by
  intro left
  induction left with
  | zero =>
    intro n at_ r h0 h1
    rw [go_eq, go_eq, if_neg (by simp; omega), if_neg (by simp; omega)]
  | succ left ih =>
    intro n at_ r h0 h1
    rw [go_eq, go_eq (p ++ [(0, 0, 0, 0)] ++ q), if_neg (by simp; omega), if_neg (by simp; omega)]
    dsimp only
    have hg : (p ++ [(0, 0, 0, 0)] ++ q).getD at_.toNat (0, 0, 0, 0) = (p ++ [(0, 0, 0, 0)]).getD at_.toNat (0, 0, 0, 0) := by
      rw [List.getD_eq_getElem?_getD, List.getD_eq_getElem?_getD, List.getElem?_append_left (by simp; omega)]
    rw [hg]
    cases hs : step w ((p ++ [(0, 0, 0, 0)]).getD at_.toNat (0, 0, 0, 0)) at_ r with
    | stop c => rfl
    | on b r' =>
      dsimp only
      have hlt : at_ < p.length := by
        rcases Int.lt_or_le at_ p.length with h | h
        · exact h
        · exfalso
          have e : at_.toNat = p.length := by omega
          rw [e, List.getD_eq_getElem?_getD, List.getElem?_append_right (Nat.le_refl _)] at hs
          simp [step] at hs
      have hi : insOk p.length ((p ++ [(0, 0, 0, 0)]).getD at_.toNat (0, 0, 0, 0)) = true := by
        rw [List.getD_eq_getElem?_getD, List.getElem?_append_left (by omega), List.getElem?_eq_getElem (by omega)]
        exact hp _ (List.getElem_mem _)
      have hb := step_on hi hs
      exact ih _ _ _ (by omega) (by omega)
end Vm
end Go.Proofs.YtdpcdocaahjeoaaDoor
namespace Go.Proofs.YtdpcdocaahjeoaaDoor
open Go Go.RowKit
namespace Vm
theorem rep_ins {G : List Nat} {w : World} {i : Ins} {us : List Value} (h : Mem.rep G w i us) : us = [.int .i64 i.1, .int .i64 i.2.1, .int .i64 i.2.2.1, .int .i64 i.2.2.2] ∧ inI i.1 ∧ inI i.2.1 ∧ inI i.2.2.1 ∧ inI i.2.2.2 := by
  obtain ⟨u1, t1, rfl, ⟨rfl, a1⟩, u2, t2, rfl, ⟨rfl, a2⟩, u3, t3, rfl, ⟨rfl, a3⟩, ⟨rfl, a4⟩⟩ := h
  exact ⟨rfl, a1, a2, a3, a4⟩
theorem ins_rep {G : List Nat} {w : World} {a b c d : Int} (ha : inI a) (hb : inI b) (hc : inI c) (hd : inI d) : Mem.rep G w ((a, b, c, d) : Ins) [.int .i64 a, .int .i64 b, .int .i64 c, .int .i64 d] :=
  ⟨[_], _, rfl, ⟨rfl, ha⟩, [_], _, rfl, ⟨rfl, hb⟩, [_], _, rfl, ⟨rfl, hc⟩, ⟨rfl, hd⟩⟩
/-- An instruction of a program, cell by cell. -/
theorem ins_at {G : List Nat} {w : World} {A : Option Addr} {p : List Ins} (h : SlAt G w A p) (k : Nat) (hk : k < p.length) : ∃ b o, A = some ⟨b, o, none⟩ ∧ b ∉ G ∧
    w.cell? ⟨b, o + k * 4, none⟩ = some (.int .i64 p[k].1) ∧ w.cell? ⟨b, o + k * 4 + 1, none⟩ = some (.int .i64 p[k].2.1) ∧ w.cell? ⟨b, o + k * 4 + 2, none⟩ = some (.int .i64 p[k].2.2.1) ∧ w.cell? ⟨b, o + k * 4 + 3, none⟩ = some (.int .i64 p[k].2.2.2) ∧
    inI p[k].1 ∧ inI p[k].2.1 ∧ inI p[k].2.2.1 ∧ inI p[k].2.2.2 := by
  obtain ⟨b, o, us, hA, hg, hr, hc⟩ := h.get k hk
  obtain ⟨rfl, a1, a2, a3, a4⟩ := rep_ins hr
  exact ⟨b, o, hA, hg, hc 0 _ rfl, hc 1 _ rfl, hc 2 _ rfl, hc 3 _ rfl, a1, a2, a3, a4⟩
end Vm
end Go.Proofs.YtdpcdocaahjeoaaDoor
namespace Go.Proofs.YtdpcdocaahjeoaaDoor
open Go Go.RowKit
namespace Vm
def isBlank (c : UInt8) : Bool := c == 32 || c == 10
def isTok (c : UInt8) : Bool := decide (33 ≤ c.toNat) && decide (c.toNat ≤ 126)
/-- The next token from a place on: where it begins, and what it is. -/
def skipN (s : List UInt8) (at_ : Nat) : Nat := at_ + ((s.drop at_).takeWhile isBlank).length
def wordAt (s : List UInt8) (at_ : Nat) : List UInt8 := (s.drop at_).takeWhile isTok
def tokAt (s : List UInt8) (at_ : Nat) : Nat × List UInt8 := (skipN s at_, wordAt s (skipN s at_))
def wordsL : List (List UInt8) := [[115, 116, 111, 112], [108, 111, 97, 100], [97, 100, 100], [115, 117, 98], [115, 105, 122, 101], [103, 101, 116], [106, 117, 109, 112], [108, 101, 115, 115], [115, 97, 109, 101]]
def opOf (w : List UInt8) : Option Nat := wordsL.findIdx? (· == w)
def neg (w : List UInt8) : Bool := w.head? == some 45
def digs (w : List UInt8) : List UInt8 := if neg w then w.tail else w
def numOk (w : List UInt8) : Bool := decide (1 ≤ (digs w).length) && decide ((digs w).length ≤ 7) && (digs w).all Dc.isDig
def numV (w : List UInt8) : Int := if neg w then -(Dc.decV (digs w) : Int) else (Dc.decV (digs w) : Int)
def numOf (w : List UInt8) : Option Int := if numOk w then some (numV w) else none
/-- The numbers of an instruction: those of its sorts that are none are 0. -/
def argsP (s : List UInt8) : List Nat → Nat → List UInt8 → Nat ⊕ (List Int × Nat × List UInt8)
  | [], at_, w => .inr ([], at_, w)
  | k :: ks, at_, w =>
    if k = 0 then match argsP s ks at_ w with
      | .inl e => .inl e
      | .inr (l, b) => .inr (0 :: l, b)
    else match numOf (tokAt s (at_ + w.length)).2 with
      | none => .inl (tokAt s (at_ + w.length)).1
      | some n => match argsP s ks (tokAt s (at_ + w.length)).1 (tokAt s (at_ + w.length)).2 with
        | .inl e => .inl e
        | .inr (l, b) => .inr (n :: l, b)
def sorts3 (op : Nat) : List Nat := [sortOf op 0, sortOf op 1, sortOf op 2]
def mkIns (op : Nat) (l : List Int) : Ins := ((op : Int), l.getD 0 0, l.getD 1 0, l.getD 2 0)
def fin (acc : List Ins) : List Ins × Int × Int := if vld acc = 0 then (acc, 0, 0) else ([], 0, vld acc)
def loopP (s : List UInt8) : Nat → Nat → List UInt8 → List Ins → List Ins × Int × Int
  | 0, _, _, _ => ([], 0, 0)
  | fuel + 1, at_, w, acc =>
    if w = [] then (if at_ < s.length then ([], (at_ : Int), 2) else fin acc)
    else match opOf w with
      | none => ([], (at_ : Int), 2)
      | some op => match argsP s (sorts3 op) at_ w with
        | .inl e => ([], (e : Int), 2)
        | .inr (l, a, v) => loopP s fuel (tokAt s (a + v.length)).1 (tokAt s (a + v.length)).2 (acc ++ [mkIns op l])
def parse (s : List UInt8) : List Ins × Int × Int :=
  if 8192 < s.length then ([], 8192, 4) else loopP s (s.length + 1) (tokAt s 0).1 (tokAt s 0).2 []
/-- The examples. -/
def ex1 : List UInt8 := "size 1 0 load 2 1 less 2 1 4 stop 7 get 2 0 0 load 3 9 same 2 3 8 stop 8 stop 9".toUTF8.data.toList
def ex2 : List UInt8 := "get 0 0 0 stop 3".toUTF8.data.toList
def ex3 : List UInt8 := "load 0 2 get 0 0 0".toUTF8.data.toList
theorem ex1_p : parse ex1 = ([(4, 1, 0, 0), (1, 2, 1, 0), (7, 2, 1, 4), (0, 7, 0, 0), (5, 2, 0, 0), (1, 3, 9, 0), (8, 2, 3, 8), (0, 8, 0, 0), (0, 9, 0, 0)], 0, 0) := by decide +kernel
theorem ex2_p : parse ex2 = ([(5, 0, 0, 0), (0, 3, 0, 0)], 0, 0) := by decide +kernel
theorem ex3_p : parse ex3 = ([(1, 0, 2, 0), (5, 0, 0, 0)], 0, 0) := by decide +kernel
theorem ex1_r : run [1] (parse ex1).1 [[[5], [9]]] 100 = (9, 7, 0) := by rw [ex1_p]; decide +kernel
theorem ex2_r : run [1] (parse ex2).1 [[[5], [9]]] 100 = (3, 2, 0) := by rw [ex2_p]; decide +kernel
theorem ex3_r : run [1] (parse ex3).1 [[[5], [9]]] 100 = (251, 2, 0) := by rw [ex3_p]; decide +kernel
theorem ex0_r : run [] [(6, 0, 0, 0)] [] 1000 = (0, 0, 23) := by decide +kernel
end Vm
end Go.Proofs.YtdpcdocaahjeoaaDoor
namespace Go.Proofs.YtdpcdocaahjeoaaDoor
open Go Go.RowKit
namespace Vm
/-- The tokens from a place on, and the place where none begins. -/
def scan (s : List UInt8) : Nat → Nat → List (Nat × Nat) × Nat
  | 0, i => ([], i)
  | fuel + 1, i => if wordAt s (skipN s i) = [] then ([], skipN s i) else
      ((skipN s i, skipN s i + (wordAt s (skipN s i)).length) :: (scan s fuel (skipN s i + (wordAt s (skipN s i)).length)).1, (scan s fuel (skipN s i + (wordAt s (skipN s i)).length)).2)
def piece (s : List UInt8) (a e : Nat) : List UInt8 := (s.take e).drop a
/-- An instruction may be whole. -/
def whole (left : List Nat) : Bool := match left with | [] => true | k :: _ => k == 0
def refL (s : List UInt8) (end_ : Nat) : List (Nat × Nat) → List Nat → Nat → List Int → List Ins → List Ins × Int × Int
  | [], left, _, _, acc => if left ≠ [] ∨ end_ < s.length then ([], (end_ : Int), 2) else fin acc
  | (a, e) :: T, [], _, _, acc => match opOf (piece s a e) with
    | none => ([], (a : Int), 2)
    | some op => if whole (sorts3 op) then refL s end_ T [] op [] (acc ++ [mkIns op []]) else refL s end_ T (sorts3 op) op [] acc
  | (a, e) :: T, _ :: ks, op, nums, acc => match numOf (piece s a e) with
    | none => ([], (a : Int), 2)
    | some n => if whole ks then refL s end_ T [] op [] (acc ++ [mkIns op (nums ++ [n])]) else refL s end_ T ks op (nums ++ [n]) acc
def refP (s : List UInt8) : List Ins × Int × Int :=
  if 8192 < s.length then ([], 8192, 4) else refL s (scan s (s.length + 1) 0).2 (scan s (s.length + 1) 0).1 [] 0 [] []
theorem tw_le (p : UInt8 → Bool) (l : List UInt8) : (l.takeWhile p).length ≤ l.length := (List.takeWhile_sublist p).length_le
theorem skipN_le (s : List UInt8) (i : Nat) : i ≤ skipN s i ∧ (i ≤ s.length → skipN s i ≤ s.length) := by
  unfold skipN
  have := tw_le isBlank (s.drop i)
  rw [List.length_drop] at this
  exact ⟨by omega, by omega⟩
theorem wordAt_le (s : List UInt8) (i : Nat) (h : i ≤ s.length) : i + (wordAt s i).length ≤ s.length := by
  unfold wordAt
  have := tw_le isTok (s.drop i)
  rw [List.length_drop] at this
  omega
theorem take_takeWhile (p : UInt8 → Bool) : ∀ l : List UInt8, l.take (l.takeWhile p).length = l.takeWhile p
  | [] => rfl
  | c :: l => by
    rw [List.takeWhile_cons]
    split
    · simp [take_takeWhile p l]
    · rfl
theorem piece_word (s : List UInt8) (a : Nat) : piece s a (a + (wordAt s a).length) = wordAt s a := by
  unfold piece
  rw [← List.take_drop]
  exact take_takeWhile _ _
theorem scan_eq (s : List UInt8) (fuel i : Nat) : scan s (fuel + 1) i = if wordAt s (skipN s i) = [] then ([], skipN s i) else
      ((skipN s i, skipN s i + (wordAt s (skipN s i)).length) :: (scan s fuel (skipN s i + (wordAt s (skipN s i)).length)).1, (scan s fuel (skipN s i + (wordAt s (skipN s i)).length)).2) := rfl
/-- The fuel does not matter where it is enough. -/
theorem scan_fuel (s : List UInt8) : ∀ (f g i : Nat), i ≤ s.length → s.length < i + f → s.length < i + g → scan s f i = scan s g i
  | 0, _, i, hi, hf, _ => by omega
  | _, 0, i, hi, _, hg => by omega
  | f + 1, g + 1, i, hi, hf, hg => by
    rw [scan_eq, scan_eq s g]
    split
    · rfl
    · rename_i hw
      have h1 := skipN_le s i
      have h2 := wordAt_le s (skipN s i) (h1.2 hi)
      have h3 : 0 < (wordAt s (skipN s i)).length := List.length_pos_iff.2 hw
      rw [scan_fuel s f g _ h2 (by omega) (by omega)]
/-- Sorts that are none stand last. -/
def lastNone : List Nat → Prop
  | [] => True
  | k :: ks => (k = 0 → ∀ x ∈ ks, x = 0) ∧ lastNone ks
theorem sorts3_last (op : Nat) : lastNone (sorts3 op) := by
  unfold sorts3 sortOf
  repeat' split
  all_goals simp [lastNone]
theorem argsP_zero (s : List UInt8) : ∀ (ks : List Nat) (a : Nat) (w : List UInt8), (∀ x ∈ ks, x = 0) → argsP s ks a w = .inr (List.replicate ks.length 0, a, w)
  | [], a, w, _ => rfl
  | k :: ks, a, w, h => by
    have hk : k = 0 := h k (.head _)
    simp only [argsP, if_pos hk, argsP_zero s ks a w (fun x hx => h x (.tail _ hx))]
    rfl
theorem getD_pad (nums : List Int) (n k : Nat) : (nums ++ List.replicate n 0).getD k 0 = nums.getD k 0 := by
  rw [List.getD_eq_getElem?_getD, List.getD_eq_getElem?_getD]
  rcases Nat.lt_or_ge k nums.length with h | h
  · rw [List.getElem?_append_left h]
  · rw [List.getElem?_append_right h, List.getElem?_eq_none h]
    rw [List.getElem?_replicate]; split <;> rfl
theorem mkIns_pad (op : Nat) (nums : List Int) (n : Nat) : mkIns op (nums ++ List.replicate n 0) = mkIns op nums := by
  unfold mkIns; rw [getD_pad, getD_pad, getD_pad]
theorem refL_idle (s : List UInt8) (end_ : Nat) (T : List (Nat × Nat)) (op op' : Nat) (nums nums' : List Int) (acc : List Ins) : refL s end_ T [] op nums acc = refL s end_ T [] op' nums' acc := by
  cases T with
  | nil => rfl
  | cons x T => rfl
theorem whole_zero {ks : List Nat} (h : lastNone ks) (hw : whole ks = true) : ∀ x ∈ ks, x = 0 := by
  cases ks with
  | nil => intro x hx; cases hx
  | cons k ks =>
    have hk : k = 0 := by simpa [whole] using hw
    intro x hx
    rcases List.mem_cons.1 hx with rfl | hx
    · exact hk
    · exact h.1 hk x hx
theorem numOf_nil : numOf [] = none := by decide
def Same (s : List UInt8) (f : Nat) : Prop := ∀ (i g : Nat) (acc : List Ins), i ≤ s.length → s.length < i + f → s.length < i + g →
  loopP s f (tokAt s i).1 (tokAt s i).2 acc = refL s (scan s g i).2 (scan s g i).1 [] 0 [] acc
def contP (s : List UInt8) (f : Nat) (op : Nat) (nums : List Int) (acc : List Ins) (r : Nat ⊕ (List Int × Nat × List UInt8)) : List Ins × Int × Int := match r with
  | .inl e => ([], (e : Int), 2)
  | .inr (l, a, v) => loopP s f (tokAt s (a + v.length)).1 (tokAt s (a + v.length)).2 (acc ++ [mkIns op (nums ++ l)])
theorem args_ref (s : List UInt8) (f : Nat) (IH : Same s f) : ∀ (ks : List Nat) (nums : List Int) (a : Nat) (w : List UInt8) (g : Nat) (acc : List Ins) (op : Nat), lastNone ks → whole ks = false →
    a + w.length ≤ s.length → s.length < a + w.length + f → s.length < a + w.length + g → contP s f op nums acc (argsP s ks a w) = refL s (scan s g (a + w.length)).2 (scan s g (a + w.length)).1 ks op nums acc
  | [], _, _, _, _, _, _, _, hw, _, _, _ => by simp [whole] at hw
  | k :: ks, nums, a, w, g, acc, op, hl, hw, h1, h2, h3 => by
    have hk : k ≠ 0 := by simpa [whole] using hw
    obtain ⟨g, rfl⟩ : ∃ g', g = g' + 1 := ⟨g - 1, by omega⟩
    generalize hi : a + w.length = i at *
    have s1 := skipN_le s i
    have s2 := wordAt_le s (skipN s i) (s1.2 h1)
    rw [scan_eq]
    simp only [argsP, if_neg hk, hi, tokAt]
    by_cases hw' : wordAt s (skipN s i) = []
    · rw [if_pos hw', hw', numOf_nil]
      simp [contP, refL]
    · have s3 : 0 < (wordAt s (skipN s i)).length := List.length_pos_iff.2 hw'
      rw [if_neg hw']
      simp only [refL, piece_word]
      cases hn : numOf (wordAt s (skipN s i)) with
      | none => rfl
      | some n =>
        dsimp only
        cases hks : whole ks with
        | true =>
          rw [argsP_zero s ks _ _ (whole_zero hl.2 hks), if_pos rfl]
          simp only [contP]
          rw [show nums ++ n :: List.replicate ks.length 0 = (nums ++ [n]) ++ List.replicate ks.length 0 by simp, mkIns_pad, IH _ g _ s2 (by omega) (by omega), refL_idle s _ _ op 0 [] []]
        | false =>
          have := args_ref s f IH ks (nums ++ [n]) (skipN s i) (wordAt s (skipN s i)) g acc op hl.2 hks s2 (by omega) (by omega)
          rw [if_neg (by decide), ← this]
          cases argsP s ks (skipN s i) (wordAt s (skipN s i)) with
          | inl e => rfl
          | inr r => simp [contP]
theorem loop_ref (s : List UInt8) : ∀ f : Nat, Same s f
  | 0 => fun i g acc hi hf _ => by omega
  | f + 1 => fun i g acc hi hf hg => by
    have IH := loop_ref s f
    obtain ⟨g, rfl⟩ : ∃ g', g = g' + 1 := ⟨g - 1, by omega⟩
    have s1 := skipN_le s i
    have s2 := wordAt_le s (skipN s i) (s1.2 hi)
    rw [scan_eq]
    show loopP s (f + 1) (skipN s i) (wordAt s (skipN s i)) acc = _
    simp only [loopP]
    by_cases hw' : wordAt s (skipN s i) = []
    · rw [if_pos hw', if_pos hw']
      simp [refL]
    · have s3 : 0 < (wordAt s (skipN s i)).length := List.length_pos_iff.2 hw'
      rw [if_neg hw', if_neg hw']
      simp only [refL, piece_word]
      cases ho : opOf (wordAt s (skipN s i)) with
      | none => rfl
      | some op =>
        dsimp only
        cases hks : whole (sorts3 op) with
        | true =>
          rw [argsP_zero s _ _ _ (whole_zero (sorts3_last op) hks), if_pos rfl]
          dsimp only
          have := IH _ g (acc ++ [mkIns op (List.replicate (sorts3 op).length 0)]) s2 (by omega) (by omega)
          rw [this, refL_idle s _ _ op 0 [] [], show mkIns op (List.replicate (sorts3 op).length 0) = mkIns op [] by have := mkIns_pad op [] (sorts3 op).length; rwa [List.nil_append] at this]
        | false =>
          have := args_ref s f IH (sorts3 op) [] (skipN s i) (wordAt s (skipN s i)) g acc op (sorts3_last op) hks s2 (by omega) (by omega)
          rw [if_neg (by decide), ← this]
          cases argsP s (sorts3 op) (skipN s i) (wordAt s (skipN s i)) with
          | inl e => rfl
          | inr r => simp [contP]
theorem parse_ref (s : List UInt8) : parse s = refP s := by
  unfold parse refP
  split
  · rfl
  · exact loop_ref s _ 0 _ [] (by omega) (by omega) (by omega)
end Vm
end Go.Proofs.YtdpcdocaahjeoaaDoor
namespace Go.Proofs.YtdpcdocaahjeoaaDoor
open Go Go.RowKit
namespace Vm
open Go.Lib
theorem digit_tok {c : UInt8} (h : Dc.isDig c = true) : isTok c = true := by
  simp only [Dc.isDig, isTok, Bool.and_eq_true, decide_eq_true_eq] at *
  omega
theorem digits_tok (u : Nat) : (decDigits u).all isTok = true := by
  have h := Dc.decDigits_all u
  rw [List.all_eq_true] at *
  exact fun c hc => digit_tok (h c hc)
theorem itoa_tok (n : Int) : (itoa n).all isTok = true := by
  unfold itoa
  split
  · rw [List.all_cons, digits_tok]; rfl
  · exact digits_tok _
theorem itoa_ne (n : Int) : itoa n ≠ [] := by
  unfold itoa
  split
  · simp
  · exact Dc.decDigits_ne _
theorem numOf_itoa (n : Int) (h : n.natAbs < 10000000) : numOf (itoa n) = some n := by
  unfold itoa
  split
  · rename_i h0
    have e1 : neg (45 :: decDigits n.natAbs) = true := rfl
    have l1 := Dc.decDigits_lt 7 n.natAbs (by omega) (by omega)
    have l2 : 0 < (decDigits n.natAbs).length := List.length_pos_iff.2 (Dc.decDigits_ne _)
    unfold numOf numOk numV digs
    rw [e1, if_pos rfl, List.tail_cons, Dc.decDigits_all, Dc.decV_digits]
    simp only [decide_eq_true (show 1 ≤ _ from l2), decide_eq_true l1, Bool.and_self, if_true]
    congr 1; omega
  · rename_i h0
    have e1 : neg (decDigits n.toNat) = false := Dc.digits_neg _
    have l1 := Dc.decDigits_lt 7 n.toNat (by omega) (by omega)
    have l2 : 0 < (decDigits n.toNat).length := List.length_pos_iff.2 (Dc.decDigits_ne _)
    unfold numOf numOk numV digs
    rw [e1]
    simp only [Bool.false_eq_true, if_false]
    rw [Dc.decDigits_all, Dc.decV_digits]
    simp only [decide_eq_true (show 1 ≤ _ from l2), decide_eq_true l1, Bool.and_self, if_true]
    congr 1; omega
/-- The next token of a text that goes on in a known way. -/
theorem tok_step {s pre w rest : List UInt8} {i : Nat} (h : s.drop i = pre ++ (w ++ rest)) (hp : pre.all isBlank = true) (hw : w.all isTok = true) (hne : w ≠ []) (hr : ∀ c l, rest = c :: l → isTok c = false) :
    tokAt s i = (i + pre.length, w) ∧ s.drop (i + pre.length + w.length) = rest := by
  have hblank : ∀ c, isTok c = true → isBlank c = false := by
    intro c hc
    simp only [isTok, Bool.and_eq_true, decide_eq_true_eq] at hc
    cases hb : isBlank c with
    | false => rfl
    | true =>
      simp only [isBlank, Bool.or_eq_true, beq_iff_eq] at hb
      rcases hb with rfl | rfl
      · exact absurd hc.1 (by decide)
      · exact absurd hc.1 (by decide)
  have tw : ∀ (p : UInt8 → Bool) (a b : List UInt8), a.all p = true → (∀ c l, b = c :: l → p c = false) → (a ++ b).takeWhile p = a := by
    intro p a b ha hb
    induction a with
    | nil =>
      cases b with
      | nil => rfl
      | cons c l => rw [List.nil_append, List.takeWhile_cons, hb c l rfl]; rfl
    | cons c a ih =>
      rw [List.all_cons, Bool.and_eq_true] at ha
      rw [List.cons_append, List.takeWhile_cons, ha.1, if_pos rfl, ih ha.2]
  have e1 : (s.drop i).takeWhile isBlank = pre := by
    rw [h]
    refine tw _ _ _ hp fun c l hc => ?_
    cases w with
    | nil => exact absurd rfl hne
    | cons d w =>
      rw [List.cons_append] at hc
      injection hc with hc _
      subst hc
      rw [List.all_cons, Bool.and_eq_true] at hw
      exact hblank _ hw.1
  have hd : s.drop (i + pre.length) = w ++ rest := by
    rw [← List.drop_drop, h]; simp
  have e2 : skipN s i = i + pre.length := by unfold skipN; rw [e1]
  have e3 : wordAt s (i + pre.length) = w := by
    unfold wordAt
    rw [hd]
    exact tw _ _ _ hw hr
  refine ⟨by unfold tokAt; rw [e2, e3], ?_⟩
  rw [← List.drop_drop, hd]; simp
theorem tok_end {s pre : List UInt8} {i : Nat} (h : s.drop i = pre) (hp : pre.all isBlank = true) (hi : i ≤ s.length) : tokAt s i = (s.length, []) := by
  have e1 : (s.drop i).takeWhile isBlank = pre := by
    rw [h]
    have : ∀ a : List UInt8, a.all isBlank = true → a.takeWhile isBlank = a := by
      intro a ha
      induction a with
      | nil => rfl
      | cons c a ih =>
        rw [List.all_cons, Bool.and_eq_true] at ha
        rw [List.takeWhile_cons, ha.1, if_pos rfl, ih ha.2]
    exact this _ hp
  have hl : pre.length = s.length - i := by rw [← h, List.length_drop]
  have e2 : skipN s i = s.length := by unfold skipN; rw [e1]; omega
  unfold tokAt
  rw [e2]
  unfold wordAt
  rw [List.drop_length]; rfl
/-- The numbers of an instruction, each behind a blank. -/
def numsT : List Nat → List Int → List UInt8
  | k :: ks, v :: vs => (if k = 0 then [] else 32 :: itoa v) ++ numsT ks vs
  | _, _ => []
def insT (i : Ins) : List UInt8 := wordsL.getD i.1.toNat [] ++ (numsT (sorts3 i.1.toNat) [i.2.1, i.2.2.1, i.2.2.2] ++ [10])
def source (p : List Ins) : List UInt8 := (p.map insT).flatten
def print (p : List Ins) : List UInt8 := if vld p = 0 then source p else []
def OkV : List Nat → List Int → Prop
  | k :: ks, v :: vs => (if k = 0 then v = 0 else v.natAbs < 10000000) ∧ OkV ks vs
  | [], [] => True
  | _, _ => False
theorem args_print (s : List UInt8) (rest : List UInt8) : ∀ (ks : List Nat) (vs : List Int) (a : Nat) (w : List UInt8), OkV ks vs → s.drop (a + w.length) = numsT ks vs ++ (10 :: rest) →
    ∃ a' w', argsP s ks a w = .inr (vs, a', w') ∧ s.drop (a' + w'.length) = 10 :: rest
  | [], [], a, w, _, h => ⟨a, w, rfl, h⟩
  | k :: ks, v :: vs, a, w, hok, h => by
    obtain ⟨h1, h2⟩ := hok
    by_cases hk : k = 0
    · rw [if_pos hk] at h1
      subst hk h1
      obtain ⟨a', w', e1, e2⟩ := args_print s rest ks vs a w h2 (by simpa [numsT] using h)
      exact ⟨a', w', by simp only [argsP, if_true, e1], e2⟩
    · rw [if_neg hk] at h1
      have hd : s.drop (a + w.length) = [32] ++ (itoa v ++ (numsT ks vs ++ 10 :: rest)) := by
        rw [h]; simp [numsT, hk]
      have hr : ∀ c l, numsT ks vs ++ 10 :: rest = c :: l → isTok c = false := by
        intro c l hc
        have : ∀ (ks : List Nat) (vs : List Int), ∀ c l, numsT ks vs ++ 10 :: rest = c :: l → c = 32 ∨ c = 10 := by
          intro ks
          induction ks with
          | nil => intro vs c l hc; simp [numsT] at hc; exact .inr hc.1.symm
          | cons k ks ih =>
            intro vs c l hc
            cases vs with
            | nil => simp [numsT] at hc; exact .inr hc.1.symm
            | cons v vs =>
              by_cases hk : k = 0
              · simp [numsT, hk] at hc; exact ih vs c l hc
              · simp [numsT, hk] at hc; exact .inl hc.1.symm
        rcases this ks vs c l hc with rfl | rfl <;> decide
      obtain ⟨t1, t2⟩ := tok_step hd (by decide) (itoa_tok v) (itoa_ne v) hr
      obtain ⟨a', w', e1, e2⟩ := args_print s rest ks vs _ (itoa v) h2 t2
      refine ⟨a', w', ?_, e2⟩
      simp only [argsP, if_neg hk, t1, numOf_itoa v h1, e1]
  | [], _ :: _, _, _, h, _ => by cases h
  | _ :: _, [], _, _, h, _ => by cases h
theorem ins_okV {n : Int} {i : Ins} (h : insOk n i = true) (hn : n ≤ 1000) : OkV (sorts3 i.1.toNat) [i.2.1, i.2.2.1, i.2.2.2] ∧ opOf (wordsL.getD i.1.toNat []) = some i.1.toNat ∧ (wordsL.getD i.1.toNat []).all isTok = true ∧ wordsL.getD i.1.toNat [] ≠ [] ∧ mkIns i.1.toNat [i.2.1, i.2.2.1, i.2.2.2] = i := by
  obtain ⟨op, A, B, C⟩ := i
  unfold insOk at h
  simp only [Bool.and_eq_true, decide_eq_true_eq] at h
  obtain ⟨⟨⟨⟨h0, h8⟩, f0⟩, f1⟩, f2⟩ := h
  dsimp only at *
  have key : op = 0 ∨ op = 1 ∨ op = 2 ∨ op = 3 ∨ op = 4 ∨ op = 5 ∨ op = 6 ∨ op = 7 ∨ op = 8 := by omega
  rcases key with e | e | e | e | e | e | e | e | e <;> subst e <;>
    (simp [sortOf, fits] at f0 f1 f2
     refine ⟨?_, by decide, by decide, by decide, rfl⟩
     simp [sorts3, sortOf, OkV]
     omega)
theorem loop_print (s : List UInt8) : ∀ (p : List Ins) (fuel i : Nat) (pre : List UInt8) (acc : List Ins) (n : Int), n ≤ 1000 → (∀ x ∈ p, insOk n x = true) → pre.all isBlank = true → s.drop i = pre ++ source p → i ≤ s.length → s.length < i + fuel →
    loopP s fuel (tokAt s i).1 (tokAt s i).2 acc = fin (acc ++ p)
  | [], fuel, i, pre, acc, n, hn, hp, hb, h, hi, hf => by
    obtain ⟨fuel, rfl⟩ : ∃ g, fuel = g + 1 := ⟨fuel - 1, by omega⟩
    have e := tok_end (s := s) (i := i) (pre := pre) (by rw [h]; simp [source]) hb hi
    rw [e]
    simp [loopP]
  | x :: p, fuel, i, pre, acc, n, hn, hp, hb, h, hi, hf => by
    obtain ⟨fuel, rfl⟩ : ∃ g, fuel = g + 1 := ⟨fuel - 1, by omega⟩
    obtain ⟨k1, k2, k3, k4, k5⟩ := ins_okV (hp x (.head _)) hn
    have hd : s.drop i = pre ++ (wordsL.getD x.1.toNat [] ++ (numsT (sorts3 x.1.toNat) [x.2.1, x.2.2.1, x.2.2.2] ++ 10 :: source p)) := by
      rw [h]; simp [source, insT]
    have hr : ∀ c l, numsT (sorts3 x.1.toNat) [x.2.1, x.2.2.1, x.2.2.2] ++ 10 :: source p = c :: l → isTok c = false := by
      intro c l hc
      unfold sorts3 at hc
      simp only [numsT] at hc
      repeat' split at hc
      all_goals (simp at hc; obtain ⟨rfl, _⟩ := hc; decide)
    obtain ⟨t1, t2⟩ := tok_step hd hb k3 k4 hr
    obtain ⟨a', w', e1, e2⟩ := args_print s (source p) _ _ _ _ k1 t2
    have hw : 0 < (wordsL.getD x.1.toNat []).length := List.length_pos_iff.2 k4
    have hlen : a' + w'.length < s.length := by
      rcases Nat.lt_or_ge (a' + w'.length) s.length with h' | h'
      · exact h'
      · rw [List.drop_eq_nil_of_le h'] at e2; cases e2
    have hge : i + 1 ≤ a' + w'.length := by
      have hlt : (s.drop (a' + w'.length)).length < (s.drop i).length := by
        rw [e2, hd]
        simp only [List.length_append, List.length_cons]
        omega
      rw [List.length_drop, List.length_drop] at hlt
      omega
    rw [t1]
    simp only [loopP, if_neg k4, k2, e1, k5]
    rw [loop_print s p fuel (a' + w'.length) [10] (acc ++ [x]) n hn (fun y hy => hp y (.tail _ hy)) (by decide) (by rw [e2]; rfl) (by omega) (by omega)]
    simp
theorem insT_len {n : Int} {i : Ins} (h : insOk n i = true) (hn : n ≤ 1000) : (insT i).length ≤ 41 := by
  obtain ⟨k1, _⟩ := ins_okV h hn
  have key : ∀ (ks : List Nat) (vs : List Int), OkV ks vs → (numsT ks vs).length ≤ ks.length * 12 := by
    intro ks
    induction ks with
    | nil => intro vs _; simp [numsT]
    | cons k ks ih =>
      intro vs hv
      cases vs with
      | nil => simp [numsT]
      | cons v vs =>
        have := ih vs hv.2
        by_cases hk : k = 0
        · simp [numsT, hk]; omega
        · have hv1 := hv.1
          rw [if_neg hk] at hv1
          have := Dc.itoa_len v (by omega)
          simp [numsT, hk]; omega
  have h1 := key _ _ k1
  have h2 : (wordsL.getD i.1.toNat []).length ≤ 4 ∨ 9 ≤ i.1.toNat := by
    rcases Nat.lt_or_ge i.1.toNat 9 with h | h
    · left
      generalize i.1.toNat = m at h
      match m, h with
      | 0, _ => decide
      | 1, _ => decide
      | 2, _ => decide
      | 3, _ => decide
      | 4, _ => decide
      | 5, _ => decide
      | 6, _ => decide
      | 7, _ => decide
      | 8, _ => decide
    · exact .inr h
  have h3 : (sorts3 i.1.toNat).length = 3 := rfl
  have h4 : i.1.toNat < 9 := by
    unfold insOk at h
    simp only [Bool.and_eq_true, decide_eq_true_eq] at h
    have := h.1.1.1; omega
  unfold insT
  simp only [List.length_append, List.length_cons, List.length_nil]
  omega
theorem source_len {n : Int} : ∀ {p : List Ins}, (∀ x ∈ p, insOk n x = true) → n ≤ 1000 → (source p).length ≤ 41 * p.length
  | [], _, _ => by simp [source]
  | x :: p, h, hn => by
    have h1 := insT_len (h x (.head _)) hn
    have h2 := source_len (p := p) (fun y hy => h y (.tail _ hy)) hn
    unfold source at h2 ⊢
    simp only [List.map_cons, List.flatten_cons, List.length_append, List.length_cons]
    omega
/-- Parse leads back from Print. -/
theorem parse_print {p : List Ins} (h : vld p = 0) : parse (print p) = (p, 0, 0) := by
  have hv := h
  unfold vld at hv
  have hl : ¬ 128 < p.length := by
    intro hc; rw [if_pos hc] at hv; cases hv
  rw [if_neg hl] at hv
  have ha : p.all (insOk p.length) = true := by
    cases hb : p.all (insOk p.length) with
    | true => rfl
    | false => rw [hb] at hv; simp at hv
  have hall : ∀ x ∈ p, insOk (p.length : Int) x = true := List.all_eq_true.1 ha
  have hlen := source_len hall (by omega)
  have hp : print p = source p := by unfold print; rw [if_pos h]
  rw [hp]
  unfold parse
  rw [if_neg (by omega)]
  rw [loop_print (source p) p _ 0 [] [] p.length (by omega) hall rfl (by simp) (by omega) (by omega)]
  unfold fin
  rw [List.nil_append, if_pos h]
end Vm
end Go.Proofs.YtdpcdocaahjeoaaDoor
namespace Go.Proofs.YtdpcdocaahjeoaaDoor
open Go Go.RowKit
namespace En
/-- How many bytes a number takes. -/
def nd (m : Nat) : Nat := if m < 1 then 0 else if m < 256 then 1 else if m < 65536 then 2 else if m < 16777216 then 3 else if m < 4294967296 then 4 else if m < 1099511627776 then 5 else if m < 281474976710656 then 6 else if m < 72057594037927936 then 7 else 8
def dg (m i : Nat) : Nat := m / 256 ^ i % 256
def mag (n : Int) : Nat := if n < 0 then (-1 - n).toNat else n.toNat
def flip (n : Int) (d : Nat) : UInt8 := UInt8.ofNat (if n < 0 then 255 - d else d)
def head (n : Int) : UInt8 := UInt8.ofNat (if n < 0 then 127 - nd (mag n) else 128 + nd (mag n))
/-- The bytes of m from the k-th down. -/
def tl (n : Int) (k : Nat) : List UInt8 := (List.range k).reverse.map fun i => flip n (dg (mag n) i)
def int (n : Int) : List UInt8 := head n :: tl n (nd (mag n))
def ints (l : List Int) : List UInt8 := int l.length ++ (l.map int).flatten
theorem nd_cases (m : Nat) : (m < 1 ∧ nd m = 0) ∨ (1 ≤ m ∧ m < 256 ∧ nd m = 1) ∨ (256 ≤ m ∧ m < 65536 ∧ nd m = 2) ∨ (65536 ≤ m ∧ m < 16777216 ∧ nd m = 3) ∨ (16777216 ≤ m ∧ m < 4294967296 ∧ nd m = 4) ∨ (4294967296 ≤ m ∧ m < 1099511627776 ∧ nd m = 5) ∨ (1099511627776 ≤ m ∧ m < 281474976710656 ∧ nd m = 6) ∨ (281474976710656 ≤ m ∧ m < 72057594037927936 ∧ nd m = 7) ∨ (72057594037927936 ≤ m ∧ nd m = 8) := by
  unfold nd
  by_cases h0 : m < 1
  · rw [if_pos h0]; omega
  · rw [if_neg h0]
    by_cases h1 : m < 256
    · rw [if_pos h1]; omega
    · rw [if_neg h1]
      by_cases h2 : m < 65536
      · rw [if_pos h2]; omega
      · rw [if_neg h2]
        by_cases h3 : m < 16777216
        · rw [if_pos h3]; omega
        · rw [if_neg h3]
          by_cases h4 : m < 4294967296
          · rw [if_pos h4]; omega
          · rw [if_neg h4]
            by_cases h5 : m < 1099511627776
            · rw [if_pos h5]; omega
            · rw [if_neg h5]
              by_cases h6 : m < 281474976710656
              · rw [if_pos h6]; omega
              · rw [if_neg h6]
                by_cases h7 : m < 72057594037927936
                · rw [if_pos h7]; omega
                · rw [if_neg h7]
                  omega
theorem nd_le (m : Nat) : nd m ≤ 8 := by have := nd_cases m; omega
theorem nd_is {m k : Nat} (hk : k ≤ 8) (h1 : m < 256 ^ k) (h2 : k = 0 ∨ 256 ^ (k - 1) ≤ m) : nd m = k := by
  have hc := nd_cases m
  have : k = 0 ∨ k = 1 ∨ k = 2 ∨ k = 3 ∨ k = 4 ∨ k = 5 ∨ k = 6 ∨ k = 7 ∨ k = 8 := by omega
  rcases this with rfl | rfl | rfl | rfl | rfl | rfl | rfl | rfl | rfl <;> simp at h1 h2 <;> omega
theorem nd_lt (m : Nat) (h : m < 9223372036854775808) : m < 256 ^ nd m := by
  rcases nd_cases m with hc | hc | hc | hc | hc | hc | hc | hc | hc
  · obtain ⟨h1, h2⟩ := hc; rw [h2]; omega
  all_goals (first | (obtain ⟨h1, h2, h3⟩ := hc; rw [h3]; simp; omega) | (obtain ⟨h1, h3⟩ := hc; rw [h3]; simp; omega))
theorem nd_ge (m : Nat) (h : nd m ≠ 0) : 256 ^ (nd m - 1) ≤ m := by
  rcases nd_cases m with hc | hc | hc | hc | hc | hc | hc | hc | hc
  · exact absurd hc.2 h
  all_goals (first | (obtain ⟨h1, h2, h3⟩ := hc; rw [h3]; simp; omega) | (obtain ⟨h1, h3⟩ := hc; rw [h3]; simp; omega))
theorem nd_at {m j : Nat} (h : m < 9223372036854775808) : j < nd m ↔ 0 < m / 256 ^ j := by
  constructor
  · intro hj
    apply Nat.div_pos _ (Nat.pow_pos (by omega))
    exact Nat.le_trans (Nat.pow_le_pow_right (by omega) (by omega)) (nd_ge m (by omega))
  · intro hj
    rcases Nat.lt_or_ge j (nd m) with h' | h'
    · exact h'
    · have h1 := nd_lt m h
      have h2 : 256 ^ nd m ≤ 256 ^ j := Nat.pow_le_pow_right (by omega) h'
      rw [Nat.div_eq_of_lt (by omega)] at hj
      omega
theorem mag_lt {n : Int} (h : inI n) : mag n < 9223372036854775808 := by unfold mag; unfold inI at h; split <;> omega
theorem dg_lt (m i : Nat) : dg m i < 256 := Nat.mod_lt _ (by omega)
theorem tl_snoc (n : Int) (k i : Nat) (h : i < k) : (tl n k).take (k - i) = (tl n k).take (k - (i + 1)) ++ [flip n (dg (mag n) i)] := by
  have hl : (tl n k).length = k := by simp [tl]
  rw [show k - i = (k - (i + 1)) + 1 by omega, List.take_succ_eq_append_getElem (by rw [hl]; omega)]
  congr 2
  simp only [tl, List.getElem_map, List.getElem_reverse, List.getElem_range, List.length_range]
  congr 2
  omega
theorem tl_length (n : Int) (k : Nat) : (tl n k).length = k := by simp [tl]
theorem int_length (n : Int) : (int n).length = 1 + nd (mag n) := by simp [int, tl_length]; omega
theorem int_le (n : Int) : (int n).length ≤ 9 := by rw [int_length]; have := nd_le (mag n); omega
end En
end Go.Proofs.YtdpcdocaahjeoaaDoor
