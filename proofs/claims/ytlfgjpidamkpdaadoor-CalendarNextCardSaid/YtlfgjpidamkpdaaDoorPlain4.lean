/- Plain facts on the day after a day, and on the day 400 years later. -/
import Derived.Test.YtlfgjpidamkpdaaDoorPlain3
import GoSem.Op.String
namespace Go.Proofs.YtlfgjpidamkpdaaDoor
namespace Cal
open Go
theorem leap_400 (y : Int) : leap (y + 400) = leap y := by
  unfold leap
  rw [show (y + 400) % 4 = y % 4 by omega, show (y + 400) % 100 = y % 100 by omega, show (y + 400) % 400 = y % 400 by omega]
theorem lp_400 (y : Int) : lp (y + 400) = lp y := by unfold lp; rw [leap_400]
theorem md_400 (y m : Int) : md (y + 400) m = md y m := by unfold md; rw [lp_400]
theorem cum_400 (y m : Int) : cum (y + 400) m = cum y m := by unfold cum; rw [lp_400]
theorem fst_400 (y : Int) : fst (y + 400) = fst y + 146097 := by unfold fst; omega
theorem civil_400 {day : Int} (h : known day) (h0 : day < 0) : cy (day + 146097) = cy day + 400 ∧ cm (day + 146097) = cm day ∧ cd (day + 146097) = cd day := by
  obtain ⟨hv, hn⟩ := civil_is h
  obtain ⟨a, b, c, d, e, f⟩ := hv
  have hy : cy day ≤ 1999 := by
    have := fst_mono 2000 (cy day)
    have l := num_lo ⟨a, b, c, d, e, f⟩
    rw [hn] at l
    have z : fst 2000 = 0 := by decide
    omega
  refine civil_eq ⟨⟨by omega, by omega, c, d, e, by rw [md_400]; exact f⟩, ?_⟩
  unfold num at hn ⊢
  rw [fst_400, cum_400]; omega
theorem civil_next {day : Int} (h : known day) (h1 : day < 146096) :
    (cy (day + 1) = cy day ∧ cm (day + 1) = cm day ∧ cd (day + 1) = cd day + 1) ∨ (cy (day + 1) = cy day ∧ cm (day + 1) = cm day + 1 ∧ cd (day + 1) = 1) ∨ (cy (day + 1) = cy day + 1 ∧ cm (day + 1) = 1 ∧ cm day = 12 ∧ cd (day + 1) = 1) := by
  obtain ⟨hv, hn⟩ := civil_is h
  obtain ⟨a, b, c, d, e, f⟩ := hv
  have hc := cum_succ (cy day) (cm day) c d
  unfold num at hn
  by_cases hd : cd day < md (cy day) (cm day)
  · exact .inl (civil_eq ⟨⟨a, b, c, d, by omega, by omega⟩, by unfold num; omega⟩)
  · by_cases hm : cm day < 12
    · have hb := (md_bd (cy day) (cm day + 1)).1
      exact .inr (.inl (civil_eq ⟨⟨a, b, by omega, by omega, by omega, by omega⟩, by unfold num; omega⟩))
    · have h12 : cm day = 12 := by omega
      rw [h12] at hc f hd hn
      have h13 := cum_13 (cy day)
      rw [show (12 : Int) + 1 = 13 by omega] at hc
      have hs := fst_succ (cy day)
      have hy : cy day < 2399 := by
        rcases Int.lt_or_le (cy day) 2399 with h' | h'
        · exact h'
        · have : cy day = 2399 := by omega
          rw [this] at hs
          rw [show (2399 : Int) + 1 = 2400 by omega, fst_2400] at hs
          rw [this] at hn hc h13
          rw [this] at hd f
          omega
      have hb := (md_bd (cy day + 1) 1).1
      obtain ⟨e1, e2, e3⟩ := civil_eq (day := day + 1) (y := cy day + 1) (m := 1) (d := 1) ⟨⟨by omega, by omega, by omega, by omega, by omega, by omega⟩, by unfold num; rw [cum_1]; omega⟩
      exact .inr (.inr ⟨e1, e2, h12, e3⟩)
/-- The first list is greater at the first place where they part. -/
def gtP : List UInt8 → List UInt8 → Bool
  | x :: xs, y :: ys => decide (y < x) || (x == y && gtP xs ys)
  | _, _ => false
theorem gt_less : ∀ (a b r s : List UInt8), gtP a b = true → Op.bytesLess (a ++ r) (b ++ s) = false
  | [], _, _, _, h => by simp [gtP] at h
  | _ :: _, [], _, _, h => by simp [gtP] at h
  | x :: a, y :: b, r, s, h => by
    simp only [gtP, Bool.or_eq_true, decide_eq_true_eq, Bool.and_eq_true, beq_iff_eq] at h
    simp only [List.cons_append, Op.bytesLess, Bool.or_eq_false_iff, decide_eq_false_iff_not, Bool.and_eq_false_iff, beq_eq_false_iff_ne]
    rcases h with h | ⟨rfl, h⟩
    · exact ⟨fun h2 => absurd (UInt8.lt_trans h h2) (UInt8.lt_irrefl _), .inl (fun e => by subst e; exact absurd h (UInt8.lt_irrefl _))⟩
    · exact ⟨UInt8.lt_irrefl _, .inr (gt_less a b r s h)⟩
theorem less_pre (a r s : List UInt8) : Op.bytesLess (a ++ r) (a ++ s) = Op.bytesLess r s := by
  induction a with
  | nil => rfl
  | cons x a ih => simp [Op.bytesLess, ih, UInt8.lt_irrefl]
theorem gt4 : ∀ p : Fin 799, gtP (digs (1600 + p.val + 1) 4) (digs (1600 + p.val) 4) = true := by decide +kernel
theorem gt2 : ∀ p : Fin 99, gtP (digs (p.val + 1) 2) (digs p.val 2) = true := by decide +kernel
theorem gt4' (y : Int) (h1 : 1600 ≤ y) (h2 : y < 2399) : gtP (digs (y + 1).toNat 4) (digs y.toNat 4) = true := by
  have := gt4 ⟨(y - 1600).toNat, by omega⟩
  rw [show (y + 1).toNat = 1600 + (y - 1600).toNat + 1 by omega, show y.toNat = 1600 + (y - 1600).toNat by omega]; exact this
theorem gt2' (n : Int) (h1 : 0 ≤ n) (h2 : n < 99) : gtP (digs (n + 1).toNat 2) (digs n.toNat 2) = true := by
  have := gt2 ⟨n.toNat, by omega⟩
  rw [show (n + 1).toNat = n.toNat + 1 by omega]; exact this
theorem txt_less {day : Int} (h : known day) (h1 : day < 146096) : Op.bytesLess (txt (day + 1)) (txt day) = false := by
  have h' : known (day + 1) := ⟨by have := h.1; omega, by omega⟩
  obtain ⟨r1, r2, r3, r4, r5, r6⟩ := civil_range h
  obtain ⟨q1, q2, q3, q4, q5, q6⟩ := civil_range h'
  unfold txt
  rw [if_pos h, if_pos h']
  simp only [List.append_assoc]
  rcases civil_next h h1 with ⟨e1, e2, e3⟩ | ⟨e1, e2, e3⟩ | ⟨e1, e2, e3, e4⟩
  · rw [e1, e2, e3, less_pre, less_pre, less_pre, less_pre]
    have := gt_less _ _ [] [] (gt2' (cd day) (by omega) (by omega))
    simpa using this
  · rw [e1, e2, less_pre, less_pre]
    exact gt_less _ _ _ _ (gt2' (cm day) (by omega) (by omega))
  · rw [e1]
    exact gt_less _ _ _ _ (gt4' (cy day) (by omega) (by omega))
theorem txt_ne {day : Int} (h : known day) (h1 : day < 146096) : txt (day + 1) ≠ txt day := fun e => by
  have h' : known (day + 1) := ⟨by have := h.1; omega, by omega⟩
  have := txt_inj h' h e
  omega
theorem wd_next {day : Int} (h : known day) (h1 : day < 146096) : wd (day + 1) = (wd day + 1) % 7 := by
  have h' : known (day + 1) := ⟨by have := h.1; omega, by omega⟩
  unfold wd; rw [if_pos h, if_pos h']; omega
theorem wd_400 {day : Int} (h : known day) (h0 : day < 0) : wd (day + 146097) = wd day := by
  have h' : known (day + 146097) := ⟨by have := h.1; omega, by omega⟩
  unfold wd; rw [if_pos h, if_pos h']; omega
end Cal
end Go.Proofs.YtlfgjpidamkpdaaDoor
