/- Plain facts on the days of the Gregorian calendar: first days of years and months, and that each known day has one year, month and day of the month. No program in sight. -/
namespace Go.Proofs.YtlfgjpidamkpdaaDoor
namespace Cal

def leap (y : Int) : Bool := decide (y % 4 = 0) && (decide (¬ y % 100 = 0) || decide (y % 400 = 0))
def lp (y : Int) : Int := if leap y then 1 else 0
def md (y m : Int) : Int := if m = 2 then 28 + lp y else if m = 4 ∨ m = 6 ∨ m = 9 ∨ m = 11 then 30 else 31
def fst (y : Int) : Int := 365 * (y - 1600) + (y - 1600 + 3) / 4 - (y - 1600 + 99) / 100 + (y - 1600 + 399) / 400 - 146097
def cum (y m : Int) : Int :=
  if m ≤ 1 then 0 else if m = 2 then 31 else lp y +
    (if m = 3 then 59 else if m = 4 then 90 else if m = 5 then 120 else if m = 6 then 151 else if m = 7 then 181 else if m = 8 then 212
     else if m = 9 then 243 else if m = 10 then 273 else if m = 11 then 304 else if m = 12 then 334 else 365)
def num (y m d : Int) : Int := fst y + cum y m + d - 1
def known (d : Int) : Prop := -146097 ≤ d ∧ d ≤ 146096
instance (d : Int) : Decidable (known d) := inferInstanceAs (Decidable (_ ∧ _))
def valid (y m d : Int) : Prop := 1600 ≤ y ∧ y ≤ 2399 ∧ 1 ≤ m ∧ m ≤ 12 ∧ 1 ≤ d ∧ d ≤ md y m
instance (y m d : Int) : Decidable (valid y m d) := inferInstanceAs (Decidable (_ ∧ _))
def IsCivil (day y m d : Int) : Prop := valid y m d ∧ num y m d = day

theorem lp_01 (y : Int) : lp y = 0 ∨ lp y = 1 := by unfold lp; split <;> simp
theorem lp_lo (y : Int) : 0 ≤ lp y := by have := lp_01 y; omega
theorem lp_hi (y : Int) : lp y ≤ 1 := by have := lp_01 y; omega
theorem fst_succ (y : Int) : fst (y + 1) = fst y + 365 + lp y := by
  unfold fst lp leap
  by_cases h4 : y % 4 = 0 <;> by_cases h100 : y % 100 = 0 <;> by_cases h400 : y % 400 = 0 <;> simp [h4, h100, h400] <;> omega
theorem fst_1600 : fst 1600 = -146097 := by decide
theorem fst_2400 : fst 2400 = 146097 := by decide
theorem md_bd (y m : Int) : 28 ≤ md y m ∧ md y m ≤ 31 := by
  have := lp_01 y
  unfold md
  split
  · omega
  · split <;> omega
theorem cum_1 (y : Int) : cum y 1 = 0 := by simp [cum]
theorem cum_13 (y : Int) : cum y 13 = 365 + lp y := by simp [cum]; omega
theorem m_cases {P : Int → Prop} (m : Int) (h1 : 1 ≤ m) (h2 : m ≤ 12) (p1 : P 1) (p2 : P 2) (p3 : P 3) (p4 : P 4) (p5 : P 5) (p6 : P 6) (p7 : P 7) (p8 : P 8) (p9 : P 9) (p10 : P 10) (p11 : P 11) (p12 : P 12) : P m := by
  have h : m = 1 ∨ m = 2 ∨ m = 3 ∨ m = 4 ∨ m = 5 ∨ m = 6 ∨ m = 7 ∨ m = 8 ∨ m = 9 ∨ m = 10 ∨ m = 11 ∨ m = 12 := by omega
  rcases h with h | h | h | h | h | h | h | h | h | h | h | h <;> subst h <;> assumption
theorem cum_succ (y m : Int) (h1 : 1 ≤ m) (h2 : m ≤ 12) : cum y (m + 1) = cum y m + md y m := by
  refine m_cases (P := fun m => cum y (m + 1) = cum y m + md y m) m h1 h2 ?_ ?_ ?_ ?_ ?_ ?_ ?_ ?_ ?_ ?_ ?_ ?_ <;> simp [cum, md] <;> omega
theorem cum_bd (y m : Int) (h1 : 1 ≤ m) (h2 : m ≤ 13) : 0 ≤ cum y m ∧ cum y m ≤ 365 + lp y := by
  have := lp_01 y
  by_cases h : m = 13
  · subst h; rw [cum_13]; omega
  · refine m_cases (P := fun m => 0 ≤ cum y m ∧ cum y m ≤ 365 + lp y) m h1 (by omega) ?_ ?_ ?_ ?_ ?_ ?_ ?_ ?_ ?_ ?_ ?_ ?_ <;> simp [cum] <;> omega
theorem fst_mono (a b : Int) (h : a ≤ b) : fst a ≤ fst b := by unfold fst; omega
theorem fst_bd (y : Int) (h1 : 1600 ≤ y) (h2 : y ≤ 2400) : -146097 ≤ fst y ∧ fst y ≤ 146097 := by
  have a := fst_mono 1600 y h1; have b := fst_mono y 2400 h2; rw [fst_1600] at a; rw [fst_2400] at b; exact ⟨a, b⟩
theorem cum_mono (y a b : Int) (h1 : 1 ≤ a) (h : a ≤ b) (h2 : b ≤ 13) : cum y a ≤ cum y b := by
  obtain ⟨k, hk⟩ := Int.eq_ofNat_of_zero_le (show 0 ≤ b - a by omega)
  induction k generalizing b with
  | zero => have : b = a := by omega
            subst this; exact Int.le_refl _
  | succ k ih =>
    have := ih (b - 1) (by omega) (by omega) (by omega)
    have e := cum_succ y (b - 1) (by omega) (by omega)
    rw [show b - 1 + 1 = b by omega] at e
    have := (md_bd y (b - 1)).1
    omega
theorem num_lo {y m d : Int} (h : valid y m d) : fst y ≤ num y m d := by
  obtain ⟨_, _, h3, h4, h5, _⟩ := h
  have := (cum_bd y m h3 (by omega)).1
  unfold num; omega
theorem num_hi {y m d : Int} (h : valid y m d) : num y m d < fst (y + 1) := by
  obtain ⟨_, _, h3, h4, _, h6⟩ := h
  have a := cum_succ y m h3 h4
  have b := (cum_bd y (m + 1) (by omega) (by omega)).2
  rw [fst_succ]
  unfold num; omega
theorem num_known {y m d : Int} (h : valid y m d) : known (num y m d) := by
  have a := num_lo h; have b := num_hi h
  obtain ⟨h1, h2, _⟩ := h
  have c := fst_mono 1600 y h1; have e := fst_mono (y + 1) 2400 (by omega)
  rw [fst_1600] at c; rw [fst_2400] at e
  exact ⟨by omega, by omega⟩
theorem civil_uniq {day y m d y' m' d' : Int} (h : IsCivil day y m d) (h' : IsCivil day y' m' d') : y = y' ∧ m = m' ∧ d = d' := by
  obtain ⟨hv, hn⟩ := h
  obtain ⟨hv', hn'⟩ := h'
  have a := num_lo hv; have b := num_hi hv; have a' := num_lo hv'; have b' := num_hi hv'
  rw [hn] at a b; rw [hn'] at a' b'
  have hy : y = y' := by
    rcases Int.lt_trichotomy y y' with h | h | h
    · have := fst_mono (y + 1) y' (by omega); omega
    · exact h
    · have := fst_mono (y' + 1) y (by omega); omega
  subst hy
  obtain ⟨_, _, h3, h4, h5, h6⟩ := hv
  obtain ⟨_, _, h3', h4', h5', h6'⟩ := hv'
  unfold num at hn hn'
  have hm : m = m' := by
    rcases Int.lt_trichotomy m m' with h | h | h
    · have := cum_mono y (m + 1) m' (by omega) (by omega) (by omega)
      have := cum_succ y m h3 h4
      omega
    · exact h
    · have := cum_mono y (m' + 1) m (by omega) (by omega) (by omega)
      have := cum_succ y m' h3' h4'
      omega
  subst hm
  exact ⟨rfl, rfl, by omega⟩
theorem year_ex (day : Int) (h : known day) : ∃ y, 1600 ≤ y ∧ y ≤ 2399 ∧ fst y ≤ day ∧ day < fst (y + 1) := by
  have key : ∀ k : Nat, (k : Int) ≤ 800 → fst (1600 + k) ≤ day ∨ ∃ y : Int, 1600 ≤ y ∧ y < 1600 + k ∧ fst y ≤ day ∧ day < fst (y + 1) := by
    intro k
    induction k with
    | zero => intro _; left; simp only [Int.natCast_zero, Int.add_zero]; rw [fst_1600]; exact h.1
    | succ k ih =>
      intro hk
      rcases ih (by omega) with h' | ⟨y, a, b, c, d⟩
      · by_cases hd : fst (1600 + ((k + 1 : Nat) : Int)) ≤ day
        · exact .inl hd
        · refine .inr ⟨1600 + k, by omega, by omega, h', ?_⟩
          rw [show (1600 + (k : Int) + 1) = 1600 + ((k + 1 : Nat) : Int) by omega]; omega
      · exact .inr ⟨y, a, by omega, c, d⟩
  rcases key 800 (by omega) with h' | ⟨y, a, b, c, d⟩
  · rw [show (1600 : Int) + ((800 : Nat) : Int) = 2400 by decide, fst_2400] at h'
    have := h.2; omega
  · exact ⟨y, a, by omega, c, d⟩
theorem month_ex (y r : Int) (h0 : 0 ≤ r) (h1 : r < 365 + lp y) : ∃ m, 1 ≤ m ∧ m ≤ 12 ∧ cum y m ≤ r ∧ r < cum y (m + 1) := by
  have key : ∀ k : Nat, (k : Int) ≤ 12 → cum y (1 + k) ≤ r ∨ ∃ m : Int, 1 ≤ m ∧ m < 1 + k ∧ cum y m ≤ r ∧ r < cum y (m + 1) := by
    intro k
    induction k with
    | zero => intro _; left; simp only [Int.natCast_zero, Int.add_zero]; rw [cum_1]; exact h0
    | succ k ih =>
      intro hk
      rcases ih (by omega) with h' | ⟨m, a, b, c, d⟩
      · by_cases hd : cum y (1 + ((k + 1 : Nat) : Int)) ≤ r
        · exact .inl hd
        · refine .inr ⟨1 + k, by omega, by omega, h', ?_⟩
          rw [show (1 + (k : Int) + 1) = 1 + ((k + 1 : Nat) : Int) by omega]; omega
      · exact .inr ⟨m, a, by omega, c, d⟩
  rcases key 12 (by omega) with h' | ⟨m, a, b, c, d⟩
  · rw [show (1 : Int) + ((12 : Nat) : Int) = 13 by decide, cum_13] at h'
    omega
  · exact ⟨m, a, by omega, c, d⟩
theorem civil_ex (day : Int) (h : known day) : ∃ y m d, IsCivil day y m d := by
  obtain ⟨y, a, b, c, d⟩ := year_ex day h
  rw [fst_succ] at d
  obtain ⟨m, e, f, g, i⟩ := month_ex y (day - fst y) (by omega) (by omega)
  rw [cum_succ y m e f] at i
  exact ⟨y, m, day - fst y - cum y m + 1, ⟨a, b, e, f, by omega, by omega⟩, by unfold num; omega⟩

open Classical in
noncomputable def cy (day : Int) : Int := if h : known day then (civil_ex day h).choose else 0
open Classical in
noncomputable def cm (day : Int) : Int := if h : known day then (civil_ex day h).choose_spec.choose else 0
open Classical in
noncomputable def cd (day : Int) : Int := if h : known day then (civil_ex day h).choose_spec.choose_spec.choose else 0
theorem civil_is {day : Int} (h : known day) : IsCivil day (cy day) (cm day) (cd day) := by
  unfold cy cm cd
  rw [dif_pos h, dif_pos h, dif_pos h]
  exact (civil_ex day h).choose_spec.choose_spec.choose_spec
theorem civil_eq {day y m d : Int} (h : IsCivil day y m d) : cy day = y ∧ cm day = m ∧ cd day = d := by
  have hk : known day := by rw [← h.2]; exact num_known h.1
  exact civil_uniq (civil_is hk) h
theorem civil_no {day : Int} (h : ¬ known day) : cy day = 0 ∧ cm day = 0 ∧ cd day = 0 := by
  unfold cy cm cd
  rw [dif_neg h, dif_neg h, dif_neg h]; exact ⟨rfl, rfl, rfl⟩
theorem civil_num {day : Int} (h : known day) : num (cy day) (cm day) (cd day) = day := (civil_is h).2
theorem civil_bd (day : Int) : 0 ≤ cy day ∧ cy day ≤ 2399 ∧ 0 ≤ cm day ∧ cm day ≤ 12 ∧ 0 ≤ cd day ∧ cd day ≤ 31 := by
  by_cases h : known day
  · obtain ⟨⟨a, b, c, d, e, f⟩, _⟩ := civil_is h
    have := (md_bd (cy day) (cm day)).2
    exact ⟨by omega, b, by omega, d, by omega, by omega⟩
  · obtain ⟨a, b, c⟩ := civil_no h
    rw [a, b, c]; decide

/-- What Day gives: the day's number and the error. -/
def dayV (y m d : Int) : Int := if valid y m d then num y m d else 0
def dayE (y m d : Int) : Int := if valid y m d then 0 else 5
def wd (day : Int) : Int := if known day then (day + 5) % 7 else 0
end Cal
end Go.Proofs.YtlfgjpidamkpdaaDoor
