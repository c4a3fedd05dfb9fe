/- Fractions: what the functions give, by the rational numbers. No program in sight. -/
namespace Go.Proofs.YtknnbejhfhadnaaDoor
namespace Rt
/-- A rational number as a fraction of limited size, or the error. -/
def ofR (r : Rat) : Int × Int × Int := if r.num.natAbs ≤ 2147483648 ∧ r.den ≤ 2147483648 then (r.num, (r.den : Int), 0) else (0, 0, 5)
def mk (p q : Int) : Int × Int × Int := if q = 0 then (0, 0, 1) else ofR (Rat.divInt p q)
def den (Q : Int) : Int := if Q = 0 then 1 else Q
def vldP (P Q : Int) : Prop := (P = 0 ∧ Q = 0) ∨ (1 ≤ Q ∧ Q ≤ 2147483648 ∧ -2147483648 ≤ P ∧ P ≤ 2147483648 ∧ Nat.gcd P.natAbs Q.natAbs = 1)
instance (P Q : Int) : Decidable (vldP P Q) := inferInstanceAs (Decidable (_ ∨ _))
def val (P Q : Int) : Rat := Rat.divInt P (den Q)
theorem den_pos {P Q : Int} (h : vldP P Q) : 1 ≤ den Q ∧ den Q ≤ 2147483648 := by
  unfold den
  rcases h with ⟨_, rfl⟩ | ⟨a, b, _⟩
  · simp
  · rw [if_neg (by omega)]; omega
theorem num_bd {P Q : Int} (h : vldP P Q) : -2147483648 ≤ P ∧ P ≤ 2147483648 := by
  rcases h with ⟨rfl, _⟩ | ⟨_, _, a, b, _⟩ <;> omega
theorem cop {P Q : Int} (h : vldP P Q) : Nat.gcd P.natAbs (den Q).natAbs = 1 := by
  unfold den
  rcases h with ⟨rfl, rfl⟩ | ⟨a, _, _, _, h⟩
  · rfl
  · rw [if_neg (by omega)]; exact h
theorem val_num {P Q : Int} (h : vldP P Q) : (val P Q).num = P ∧ ((val P Q).den : Int) = den Q := by
  have hd := (den_pos h).1
  have hc := cop h
  have hg : Int.gcd (den Q) P = 1 := by rw [Int.gcd_comm]; exact hc
  unfold val
  rw [Rat.num_divInt, Rat.den_divInt, if_neg (by omega), hg, Int.sign_eq_one_of_pos (by omega)]
  simp
  omega
theorem val_inj {P Q P' Q' : Int} (h : vldP P Q) (h' : vldP P' Q') (e : val P Q = val P' Q') : P = P' ∧ den Q = den Q' := by
  obtain ⟨a, b⟩ := val_num h
  obtain ⟨a', b'⟩ := val_num h'
  rw [e] at a b
  exact ⟨a.symm.trans a', b.symm.trans b'⟩
/-- What comes of it is valid, and has its value. -/
theorem ofR_ok {r : Rat} (h : (ofR r).2.2 = 0) : vldP (ofR r).1 (ofR r).2.1 ∧ 1 ≤ (ofR r).2.1 ∧ val (ofR r).1 (ofR r).2.1 = r := by
  unfold ofR at h ⊢
  split at h
  · rename_i hb
    rw [if_pos hb]
    have hd : 0 < r.den := r.den_pos
    refine ⟨.inr ⟨by simp; omega, by simp; omega, by simp; omega, by simp; omega, by simpa using r.reduced⟩, by simp; omega, ?_⟩
    unfold val den
    rw [if_neg (by simp; omega)]
    exact Rat.num_divInt_den r
  · simp at h
theorem ofR_err (r : Rat) : (ofR r).2.2 = 0 ∨ ofR r = (0, 0, 5) := by unfold ofR; split <;> simp
theorem ofR_val {P Q : Int} (h : vldP P Q) : ofR (val P Q) = (P, den Q, 0) := by
  obtain ⟨a, b⟩ := val_num h
  obtain ⟨c, d⟩ := den_pos h
  obtain ⟨e, f⟩ := num_bd h
  unfold ofR
  rw [a, b, if_pos ⟨by omega, by omega⟩]
theorem ofR_inj {r s : Rat} (h : (ofR r).2.2 = 0) (e : ofR r = ofR s) : r = s := by
  have h' : (ofR s).2.2 = 0 := by rw [← e]; exact h
  rw [← (ofR_ok h).2.2, ← (ofR_ok h').2.2, e]
/-- How Make reckons. -/
theorem mk_calc (p q : Int) (hq : q ≠ 0) : mk p q =
    if 2147483648 < p.natAbs / Nat.gcd p.natAbs q.natAbs ∨ 2147483648 < q.natAbs / Nat.gcd p.natAbs q.natAbs then (0, 0, 5)
    else (if (decide (p < 0) != decide (q < 0)) = true then -((p.natAbs / Nat.gcd p.natAbs q.natAbs : Nat) : Int) else ((p.natAbs / Nat.gcd p.natAbs q.natAbs : Nat) : Int), ((q.natAbs / Nat.gcd p.natAbs q.natAbs : Nat) : Int), 0) := by
  have hg : 0 < Nat.gcd p.natAbs q.natAbs := Nat.gcd_pos_of_pos_right _ (by omega)
  have hgc : Int.gcd q p = Nat.gcd p.natAbs q.natAbs := by rw [Int.gcd_comm]; rfl
  have hnum : (Rat.divInt p q).num = if (decide (p < 0) != decide (q < 0)) = true then -((p.natAbs / Nat.gcd p.natAbs q.natAbs : Nat) : Int) else ((p.natAbs / Nat.gcd p.natAbs q.natAbs : Nat) : Int) := by
    rw [Rat.num_divInt, hgc]
    generalize hG : Nat.gcd p.natAbs q.natAbs = g at *
    have hdv : (g : Int) ∣ p := by rw [← hG]; exact Int.ofNat_dvd_left.2 (Nat.gcd_dvd_left _ _)
    obtain ⟨k, rfl⟩ := hdv
    have hgi : (g : Int) ≠ 0 := by omega
    have hga : g ≠ 0 := by omega
    rw [Int.natAbs_mul, Int.natAbs_natCast, Nat.mul_div_cancel_left _ hg]
    have hlt : ((g : Int) * k < 0) ↔ k < 0 := by
      constructor
      · intro h
        rcases Int.lt_or_le k 0 with h' | h'
        · exact h'
        · have := Int.mul_nonneg (show (0 : Int) ≤ g by omega) h'; omega
      · intro h; exact Int.mul_neg_of_pos_of_neg (by omega) h
    rcases Int.lt_or_gt_of_ne hq with h | h
    · rw [Int.sign_eq_neg_one_of_neg h, show -1 * ((g : Int) * k) = (g : Int) * (-k) by rw [Int.neg_mul, Int.one_mul, Int.mul_neg], Int.mul_ediv_cancel_left _ hgi]
      by_cases hk : k < 0
      · simp [hlt, hk, h]; omega
      · simp [hlt, hk, h]; omega
    · rw [Int.sign_eq_one_of_pos h, Int.one_mul, Int.mul_ediv_cancel_left _ hgi]
      by_cases hk : k < 0
      · simp [hlt, hk, show ¬ q < 0 by omega]; omega
      · simp [hlt, hk, show ¬ q < 0 by omega]; omega
  have hden : (Rat.divInt p q).den = q.natAbs / Nat.gcd p.natAbs q.natAbs := by rw [Rat.den_divInt, if_neg hq, hgc]
  have hna : (Rat.divInt p q).num.natAbs = p.natAbs / Nat.gcd p.natAbs q.natAbs := by rw [hnum]; split <;> simp only [Int.natAbs_neg, Int.natAbs_natCast]
  unfold mk ofR
  rw [if_neg hq, hna, hden, hnum]
  by_cases h : 2147483648 < p.natAbs / Nat.gcd p.natAbs q.natAbs ∨ 2147483648 < q.natAbs / Nat.gcd p.natAbs q.natAbs
  · rw [if_pos h, if_neg (by omega)]
  · rw [if_neg h, if_pos (by omega)]
theorem mk_of {p q p' q' : Int} (hq : q ≠ 0) (hq' : q' ≠ 0) (h : p * q' = p' * q) : mk p q = ofR (Rat.divInt p' q') := by
  unfold mk
  rw [if_neg hq, (Rat.divInt_eq_divInt_iff hq hq').2 h]
/-- A factor in both numbers. -/
theorem mk_terms (p q c : Int) (hc : c ≠ 0) : mk (p * c) (q * c) = mk p q := by
  unfold mk
  by_cases hq : q = 0
  · subst hq; simp
  · rw [if_neg hq, if_neg (Int.mul_ne_zero hq hc), Rat.divInt_mul_right hc]
section
variable {P Q P' Q' : Int}
theorem val_add (h : vldP P Q) (h' : vldP P' Q') : val P Q + val P' Q' = Rat.divInt (P * den Q' + P' * den Q) (den Q * den Q') := by
  have a := (den_pos h).1; have b := (den_pos h').1
  unfold val
  rw [Rat.divInt_add_divInt _ _ (by omega) (by omega)]
theorem val_neg : val (-P) Q = -val P Q := by unfold val; rw [Rat.neg_divInt]
theorem vld_neg (h : vldP P Q) : vldP (-P) Q := by
  rcases h with ⟨rfl, rfl⟩ | ⟨a, b, c, d, e⟩
  · exact .inl ⟨rfl, rfl⟩
  · exact .inr ⟨a, b, by omega, by omega, by rw [Int.natAbs_neg]; exact e⟩
/-- The sum as the program and the reference reckon it: over the quotients by the common divisor of the denominators. -/
theorem sum_calc (h : vldP P Q) (h' : vldP P' Q') {g x y : Int} (hg : 1 ≤ g) (hx : den Q = g * x) (hy : den Q' = g * y) :
    mk (P * y + P' * x) (x * den Q') = ofR (val P Q + val P' Q') := by
  have a := (den_pos h).1; have b := (den_pos h').1
  rw [val_add h h']
  have hx0 : x ≠ 0 := by rintro rfl; omega
  have hd0 : den Q ≠ 0 := by omega
  have hd1 : den Q' ≠ 0 := by omega
  refine mk_of (Int.mul_ne_zero hx0 hd1) (Int.mul_ne_zero hd0 hd1) ?_
  rw [hx, hy]
  simp only [Int.add_mul, Int.mul_add, Int.mul_assoc, Int.mul_comm, Int.mul_left_comm]
theorem mul_calc : mk (P * P') (den Q * den Q') = if den Q * den Q' = 0 then (0, 0, 1) else ofR (val P Q * val P' Q') := by
  unfold mk val
  rw [Rat.divInt_mul_divInt]
theorem mul_calc' (h : vldP P Q) (h' : vldP P' Q') : mk (P * P') (den Q * den Q') = ofR (val P Q * val P' Q') := by
  have a := (den_pos h).1; have b := (den_pos h').1
  rw [mul_calc, if_neg (Int.mul_ne_zero (by omega) (by omega))]
theorem cmp_lt (h : vldP P Q) (h' : vldP P' Q') : P * den Q' < P' * den Q ↔ val P Q < val P' Q' := by
  rw [Rat.lt_iff, (val_num h).1, (val_num h).2, (val_num h').1, (val_num h').2]
theorem cmp_eq (h : vldP P Q) (h' : vldP P' Q') : P * den Q' = P' * den Q ↔ val P Q = val P' Q' := by
  rw [Rat.eq_iff_mul_eq_mul, (val_num h).1, (val_num h).2, (val_num h').1, (val_num h').2]
theorem prod_bd {a b : Int} (h1 : -2147483648 ≤ a) (h2 : a ≤ 2147483648) (h3 : 0 ≤ b) (h4 : b ≤ 2147483648) : -4611686018427387904 ≤ a * b ∧ a * b ≤ 4611686018427387904 := by
  have m1 := Int.mul_le_mul_of_nonneg_right h2 h3
  have m2 := Int.mul_le_mul_of_nonneg_right h1 h3
  constructor <;> omega
theorem prod_top {a b : Int} (h1 : -2147483648 ≤ a) (h2 : a ≤ 2147483648) (h3 : 0 ≤ b) (h4 : b ≤ 2147483648) (h : a * b = 4611686018427387904) : a = 2147483648 ∧ b = 2147483648 := by
  have m1 := Int.mul_le_mul_of_nonneg_right h2 h3
  have hb : b = 2147483648 := by omega
  subst hb
  omega
/-- No sum of this kind overflows. -/
theorem sum_top (h : vldP P Q) (h' : vldP P' Q') {g x y : Int} (hg : 1 ≤ g) (hx : den Q = g * x) (hy : den Q' = g * y) (hx1 : 0 ≤ x) (hy1 : 0 ≤ y) :
    P * y + P' * x ≤ 9223372036854775807 ∧ -9223372036854775808 ≤ P * y + P' * x := by
  obtain ⟨p1, p2⟩ := num_bd h
  obtain ⟨p3, p4⟩ := num_bd h'
  have bx : x ≤ 2147483648 := by
    have := (den_pos h).2
    have m := Int.mul_le_mul_of_nonneg_right hg hx1
    omega
  have bY : y ≤ 2147483648 := by
    have := (den_pos h').2
    have m := Int.mul_le_mul_of_nonneg_right hg hy1
    omega
  have b1 := prod_bd p1 p2 hy1 bY
  have b2 := prod_bd p3 p4 hx1 bx
  refine ⟨?_, by omega⟩
  rcases Int.lt_or_le (P * y + P' * x) 9223372036854775808 with hl | hl
  · omega
  · exfalso
    obtain ⟨e1, e2⟩ := prod_top p1 p2 hy1 bY (by omega)
    obtain ⟨e3, e4⟩ := prod_top p3 p4 hx1 bx (by omega)
    have hq : den Q = 2147483648 := by
      have := (den_pos h).2
      have m := Int.mul_le_mul_of_nonneg_right hg hx1
      omega
    have := cop h
    rw [e1, hq] at this
    revert this; decide
end
/-- The functions, by the rational numbers. -/
def vld (P Q : Int) : Bool := decide (vldP P Q)
def add (P Q P' Q' : Int) : Int × Int × Int := if vld P Q && vld P' Q' then ofR (val P Q + val P' Q') else (0, 0, 1)
def sub (P Q P' Q' : Int) : Int × Int × Int := if vld P Q && vld P' Q' then ofR (val P Q - val P' Q') else (0, 0, 1)
def mul (P Q P' Q' : Int) : Int × Int × Int := if vld P Q && vld P' Q' then ofR (val P Q * val P' Q') else (0, 0, 1)
def cmp (P Q P' Q' : Int) : Int := if vld P Q && vld P' Q' then (if P * den Q' < P' * den Q then -1 else if P' * den Q < P * den Q' then 1 else 0) else 0
def flr (P Q : Int) : Int := if vld P Q then P / den Q else 0
theorem vld_iff {P Q : Int} : vld P Q = true ↔ vldP P Q := by unfold vld; simp
theorem vld_no {P Q : Int} : vld P Q = false ↔ ¬ vldP P Q := by unfold vld; simp
theorem cmp_val {P Q P' Q' : Int} (h : vldP P Q) (h' : vldP P' Q') : cmp P Q P' Q' = if val P Q < val P' Q' then -1 else if val P' Q' < val P Q then 1 else 0 := by
  unfold cmp
  rw [vld_iff.2 h, vld_iff.2 h']
  simp only [Bool.and_self, if_true]
  simp only [cmp_lt h h', cmp_lt h' h]
theorem flr_val {P Q : Int} (h : vldP P Q) : flr P Q = (val P Q).floor := by
  unfold flr
  rw [vld_iff.2 h, if_pos rfl, Rat.floor_def, (val_num h).1, (val_num h).2]
section
variable {P Q P' Q' P'' Q'' X Y U V : Int}
theorem add_ok (h : vldP P Q) (h' : vldP P' Q') : add P Q P' Q' = ofR (val P Q + val P' Q') := by unfold add; rw [vld_iff.2 h, vld_iff.2 h']; rfl
theorem sub_ok (h : vldP P Q) (h' : vldP P' Q') : sub P Q P' Q' = ofR (val P Q - val P' Q') := by unfold sub; rw [vld_iff.2 h, vld_iff.2 h']; rfl
theorem mul_ok (h : vldP P Q) (h' : vldP P' Q') : mul P Q P' Q' = ofR (val P Q * val P' Q') := by unfold mul; rw [vld_iff.2 h, vld_iff.2 h']; rfl
theorem of_ok {r : Rat} (h : ofR r = (X, Y, 0)) : vldP X Y ∧ 1 ≤ Y ∧ val X Y = r := by
  have := ofR_ok (r := r) (by rw [h])
  rw [h] at this
  exact this
theorem add_comm : add P Q P' Q' = add P' Q' P Q := by
  unfold add
  rw [Bool.and_comm, Rat.add_comm]
theorem mul_comm : mul P Q P' Q' = mul P' Q' P Q := by
  unfold mul
  rw [Bool.and_comm, Rat.mul_comm]
theorem add_assoc (h : vldP P Q) (h' : vldP P' Q') (h'' : vldP P'' Q'') (e : add P Q P' Q' = (X, Y, 0)) (e' : add P' Q' P'' Q'' = (U, V, 0)) : add X Y P'' Q'' = add P Q U V := by
  rw [add_ok h h'] at e
  rw [add_ok h' h''] at e'
  obtain ⟨a, _, b⟩ := of_ok e
  obtain ⟨c, _, d⟩ := of_ok e'
  rw [add_ok a h'', add_ok h c, b, d, Rat.add_assoc]
theorem mul_assoc (h : vldP P Q) (h' : vldP P' Q') (h'' : vldP P'' Q'') (e : mul P Q P' Q' = (X, Y, 0)) (e' : mul P' Q' P'' Q'' = (U, V, 0)) : mul X Y P'' Q'' = mul P Q U V := by
  rw [mul_ok h h'] at e
  rw [mul_ok h' h''] at e'
  obtain ⟨a, _, b⟩ := of_ok e
  obtain ⟨c, _, d⟩ := of_ok e'
  rw [mul_ok a h'', mul_ok h c, b, d, Rat.mul_assoc]
theorem sub_back (h : vldP P Q) (h' : vldP P' Q') (e : add P Q P' Q' = (X, Y, 0)) : sub X Y P' Q' = (P, den Q, 0) ∧ cmp P (den Q) P Q = 0 := by
  rw [add_ok h h'] at e
  obtain ⟨a, _, b⟩ := of_ok e
  refine ⟨by rw [sub_ok a h', b, Rat.add_sub_cancel, ofR_val h], ?_⟩
  have hd : vldP P (den Q) := (of_ok (ofR_val h)).1
  have hv : val P (den Q) = val P Q := (of_ok (ofR_val h)).2.2
  rw [cmp_val hd h, hv, if_neg Rat.lt_irrefl, if_neg Rat.lt_irrefl]
theorem distrib {A B C D E F : Int} (h : vldP P Q) (h' : vldP P' Q') (h'' : vldP P'' Q'') (e1 : add P' Q' P'' Q'' = (X, Y, 0)) (e2 : mul P Q P' Q' = (U, V, 0)) (e3 : mul P Q P'' Q'' = (A, B, 0))
    (e4 : mul P Q X Y = (C, D, 0)) (e5 : add U V A B = (E, F, 0)) : C = E ∧ D = F := by
  rw [add_ok h' h''] at e1
  rw [mul_ok h h'] at e2
  rw [mul_ok h h''] at e3
  obtain ⟨a, _, b⟩ := of_ok e1
  obtain ⟨c, _, d⟩ := of_ok e2
  obtain ⟨f, _, g⟩ := of_ok e3
  rw [mul_ok h a, b, Rat.mul_add] at e4
  rw [add_ok c f, d, g] at e5
  rw [e4] at e5
  injection e5 with i j
  injection j with j k
  exact ⟨i, j⟩
theorem cmp_neg (h : vldP P Q) (h' : vldP P' Q') : cmp P Q P' Q' = -cmp P' Q' P Q := by
  rw [cmp_val h h', cmp_val h' h]
  by_cases h1 : val P Q < val P' Q'
  · have h2 : ¬ val P' Q' < val P Q := Rat.not_lt.2 (Rat.le_of_lt h1)
    simp [h1, h2]
  · by_cases h2 : val P' Q' < val P Q <;> simp [h1, h2]
theorem cmp_self (h : vldP P Q) : cmp P Q P Q = 0 := by rw [cmp_val h h, if_neg Rat.lt_irrefl, if_neg Rat.lt_irrefl]
theorem cmp_zero (h : vldP P Q) (h' : vldP P' Q') : cmp P Q P' Q' = 0 ↔ val P Q = val P' Q' := by
  rw [cmp_val h h']
  by_cases h1 : val P Q < val P' Q'
  · simp [h1]; exact Rat.ne_of_lt h1
  · by_cases h2 : val P' Q' < val P Q
    · simp [h1, h2]; exact fun e => Rat.ne_of_lt h2 e.symm
    · simp [h1, h2]; exact Rat.le_antisymm (Rat.not_lt.1 h2) (Rat.not_lt.1 h1)
theorem cmp_neg_iff (h : vldP P Q) (h' : vldP P' Q') : cmp P Q P' Q' < 0 ↔ val P Q < val P' Q' := by
  rw [cmp_val h h']
  by_cases h1 : val P Q < val P' Q'
  · simp [h1]
  · by_cases h2 : val P' Q' < val P Q <;> simp [h1, h2]
theorem num_sign {r : Rat} : (r.num = 0 ↔ r = 0) ∧ (r.num < 0 ↔ r < 0) := by
  refine ⟨Rat.num_eq_zero, ?_⟩
  have := Rat.num_nonneg (q := r)
  constructor
  · intro h
    exact Rat.not_le.1 (fun h' => by have := this.2 h'; omega)
  · intro h
    rcases Int.lt_or_le r.num 0 with h' | h'
    · exact h'
    · exact absurd (this.1 h') (Rat.not_le.2 h)
/-- The sign of a difference tells the order. -/
theorem sub_sign (h : vldP P Q) (h' : vldP P' Q') (e : sub P Q P' Q' = (X, Y, 0)) : (cmp P Q P' Q' = 0 ↔ X = 0) ∧ (cmp P Q P' Q' < 0 ↔ X < 0) := by
  rw [sub_ok h h'] at e
  obtain ⟨a, _, b⟩ := of_ok e
  have hx := (val_num a).1
  rw [b] at hx
  obtain ⟨s1, s2⟩ := num_sign (r := val P Q - val P' Q')
  rw [hx] at s1 s2
  rw [cmp_zero h h', cmp_neg_iff h h', s1, s2]
  constructor
  · constructor
    · intro e; rw [e, Rat.sub_self]
    · intro e
      have := congrArg (· + val P' Q') e
      simp only [Rat.sub_add_cancel, Rat.zero_add] at this
      exact this
  · constructor
    · intro hl
      have := (Rat.add_lt_add_right (c := -val P' Q')).2 hl
      rwa [Rat.add_neg_cancel, ← Rat.sub_eq_add_neg] at this
    · intro hl
      have := (Rat.add_lt_add_right (c := val P' Q')).2 hl
      rwa [Rat.sub_add_cancel, Rat.zero_add] at this
theorem cmp_add {A B C D : Int} (h : vldP P Q) (h' : vldP P' Q') (h'' : vldP P'' Q'') (e1 : add P Q P'' Q'' = (A, B, 0)) (e2 : add P' Q' P'' Q'' = (C, D, 0)) : cmp A B C D = cmp P Q P' Q' := by
  rw [add_ok h h''] at e1
  rw [add_ok h' h''] at e2
  obtain ⟨a, _, b⟩ := of_ok e1
  obtain ⟨c, _, d⟩ := of_ok e2
  rw [cmp_val a c, cmp_val h h', b, d]
  simp only [Rat.add_lt_add_right]
theorem divInt_one (k : Int) : Rat.divInt k 1 = (k : Rat) := by
  have := Rat.num_divInt_den (k : Rat)
  simpa using this
theorem mk_one (k : Int) : mk k 1 = ofR (k : Rat) := by unfold mk; rw [if_neg (by decide), divInt_one]
theorem flr_bd (h : vldP P Q) : -2147483648 ≤ flr P Q ∧ flr P Q ≤ 2147483648 := by
  unfold flr
  rw [vld_iff.2 h, if_pos rfl]
  obtain ⟨a, b⟩ := num_bd h
  have d := (den_pos h).1
  constructor
  · rw [Int.le_ediv_iff_mul_le (by omega)]
    have := Int.mul_le_mul_of_nonpos_left (show (-2147483648 : Int) ≤ 0 by omega) d
    omega
  · refine Int.ediv_le_of_le_mul (by omega) ?_
    have := Int.mul_le_mul_of_nonneg_left d (show (0 : Int) ≤ 2147483648 by omega)
    omega
theorem below_ok (h : vldP P Q) : ∃ X Y, mk (flr P Q) 1 = (X, Y, 0) ∧ cmp X Y P Q ≤ 0 := by
  obtain ⟨a, b⟩ := flr_bd h
  have e : mk (flr P Q) 1 = (flr P Q, 1, 0) := by
    rw [mk_one]; unfold ofR; rw [if_pos (show _ ∧ _ from ⟨by rw [Rat.num_intCast]; omega, by rw [Rat.den_intCast]; omega⟩)]; simp
  refine ⟨_, _, e, ?_⟩
  rw [mk_one] at e
  obtain ⟨c, _, d⟩ := of_ok e
  have hl : ¬ val P Q < val (flr P Q) 1 := by
    rw [d, flr_val h]; exact Rat.not_lt.2 (Rat.floor_le _)
  rw [cmp_val c h, if_neg hl]
  split <;> omega
theorem above_ok (h : vldP P Q) : mk (flr P Q + 1) 1 = (0, 0, 5) ∨ ∃ X Y, mk (flr P Q + 1) 1 = (X, Y, 0) ∧ cmp P Q X Y < 0 := by
  rw [mk_one]
  rcases ofR_err ((flr P Q + 1 : Int) : Rat) with e | e
  · right
    have e' : ofR ((flr P Q + 1 : Int) : Rat) = (_, _, 0) := Prod.ext rfl (Prod.ext rfl e)
    refine ⟨_, _, e', ?_⟩
    obtain ⟨c, _, d⟩ := of_ok e'
    rw [cmp_neg_iff h c, d, flr_val h]
    exact Rat.lt_floor_add_one _
  · exact .inl e
end
end Rt
end Go.Proofs.YtknnbejhfhadnaaDoor
