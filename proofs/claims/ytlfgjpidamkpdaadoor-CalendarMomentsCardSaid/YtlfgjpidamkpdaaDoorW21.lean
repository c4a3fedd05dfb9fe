/- The examples hold. -/
import Derived.Test.YtlfgjpidamkpdaaDoorW20
namespace Go.Proofs.YtlfgjpidamkpdaaDoor
open Go.RowKit
theorem ex_civil {day y m d : Int} (h : Cal.valid y m d) (hn : Cal.num y m d = day) : Cal.cy day = y ∧ Cal.cm day = m ∧ Cal.cd day = d := Cal.civil_eq ⟨h, hn⟩
theorem ex1 : Cal.dayV 2000 2 29 = 59 ∧ Cal.dayE 2000 2 29 = 0 := by decide
theorem ex2 : Cal.dayE 1900 2 29 = 5 := by decide
theorem ex3 : Cal.cy (-1) = 1999 ∧ Cal.cm (-1) = 12 ∧ Cal.cd (-1) = 31 := ex_civil (by decide) (by decide)
theorem ex4 : Cal.wd (-1) = 4 := by decide
theorem ex5 : Cal.txt 366 = [50, 48, 48, 49, 45, 48, 49, 45, 48, 49] := by
  obtain ⟨a, b, c⟩ := ex_civil (day := 366) (y := 2001) (m := 1) (d := 1) (by decide) (by decide)
  unfold Cal.txt
  rw [if_pos (by decide), a, b, c]
  decide
theorem ex6 : Cal.txt 8951 = [50, 48, 50, 52, 45, 48, 55, 45, 48, 52] := by
  obtain ⟨a, b, c⟩ := ex_civil (day := 8951) (y := 2024) (m := 7) (d := 4) (by decide) (by decide)
  unfold Cal.txt
  rw [if_pos (by decide), a, b, c]
  decide
theorem ex7 : Cal.parV [50, 48, 50, 52, 45, 48, 55, 45, 48, 52] = 8951 ∧ Cal.parE [50, 48, 50, 52, 45, 48, 55, 45, 48, 52] = 0 := by
  rw [← ex6]; exact Cal.par_ok (by decide)
theorem loc0 {mo o s f t : Int} (h : zok o s f t = true) (h1 : knownB ((mo + o) / 1440) = true) (hN : locN (mo + o) s f t = mo + o) : loc mo o s f t = ((mo + o) / 1440, (mo + o) % 1440, 0) := by
  rw [loc_ok h h1 (by rw [hN]; exact h1), hN]
theorem ex8 : loc 0 (-60) 0 1 1 = (-1, 1380, 0) := by
  rw [loc0 (by decide) (by decide)]
  · decide
  · unfold locN; rw [if_neg]; rintro ⟨a, b⟩; omega
theorem ex9 : work 0 1 [] = (2, 0) ∧ work 0 1 [2] = (3, 0) := by
  constructor
  · have e : (146096 - (0 : Int)).toNat = 146094 + 1 + 1 := by decide
    unfold work
    rw [if_neg (by decide), if_neg (by decide), if_pos (by decide), e, show (1 : Int).toNat = 0 + 1 by decide]
    have a1 : workB [] (0 + 1) = false := by decide
    have a2 : workB [] (0 + 1 + 1) = true := by decide
    rw [wk, a1, if_neg (by decide), wk, a2, if_pos rfl, wk_zero]
    rfl
  · have e : (146096 - (0 : Int)).toNat = 146093 + 1 + 1 + 1 := by decide
    unfold work
    rw [if_neg (by decide), if_neg (by decide), if_pos (by decide), e, show (1 : Int).toNat = 0 + 1 by decide]
    have a1 : workB [2] (0 + 1) = false := by decide
    have a2 : workB [2] (0 + 1 + 1) = false := by decide
    have a3 : workB [2] (0 + 1 + 1 + 1) = true := by decide
    rw [wk, a1, if_neg (by decide), wk, a2, if_neg (by decide), wk, a3, if_pos rfl, wk_zero]
    rfl
theorem ex_y {day y m d : Int} (h : Cal.valid y m d) (hn : Cal.num y m d = day) : Cal.fst (Cal.cy day) = Cal.fst y := by rw [(ex_civil h hn).1]
/-- Of a moment whose standard time lies on a known day. -/
theorem hit_std {n day mi o s f t : Int} (h : zok o s f t = true) (h1 : knownB ((n + o) / 1440) = true) (h2 : knownB (locN (n + o) s f t / 1440) = true) :
    hitB n day mi o s f t = (decide (locN (n + o) s f t / 1440 = day) && decide (locN (n + o) s f t % 1440 = mi)) := by
  unfold hitB; rw [loc_ok h h1 h2]; simp
theorem ex10 : momL 89 30 60 60 90 300 = [] := by
  have y1 : Cal.fst (Cal.cy 88) = 0 := by rw [ex_y (y := 2000) (m := 3) (d := 29) (by decide) (by decide)]; decide
  have y2 : Cal.fst (Cal.cy 89) = 0 := by rw [ex_y (y := 2000) (m := 3) (d := 30) (by decide) (by decide)]; decide
  have l1 : locN (1440 * 89 + 30 - 60 - 60 + 60) 60 90 300 = 128130 := by
    unfold locN yday; rw [show (1440 * 89 + 30 - 60 - 60 + 60 : Int) / 1440 = 88 by decide, y1, if_neg (by decide)]; decide
  have l2 : locN (1440 * 89 + 30 - 60 + 60) 60 90 300 = 128250 := by
    unfold locN yday; rw [show (1440 * 89 + 30 - 60 + 60 : Int) / 1440 = 89 by decide, y2, if_pos (by decide)]; decide
  have h1 : hitB (1440 * 89 + 30 - 60 - 60) 89 30 60 60 90 300 = false := by
    rw [hit_std (by decide) (by decide) (by rw [l1]; decide), l1]; decide
  have h2 : hitB (1440 * 89 + 30 - 60) 89 30 60 60 90 300 = false := by
    rw [hit_std (by decide) (by decide) (by rw [l2]; decide), l2]; decide
  unfold momL tryL
  rw [h1, h2]; rfl
theorem ex11 : (momL 299 0 60 60 90 300).length = 2 := by
  have y1 : Cal.fst (Cal.cy 298) = 0 := by rw [ex_y (y := 2000) (m := 10) (d := 25) (by decide) (by decide)]; decide
  have y2 : Cal.fst (Cal.cy 299) = 0 := by rw [ex_y (y := 2000) (m := 10) (d := 26) (by decide) (by decide)]; decide
  have l1 : locN (1440 * 299 + 0 - 60 - 60 + 60) 60 90 300 = 430560 := by
    unfold locN yday; rw [show (1440 * 299 + 0 - 60 - 60 + 60 : Int) / 1440 = 298 by decide, y1, if_pos (by decide)]; decide
  have l2 : locN (1440 * 299 + 0 - 60 + 60) 60 90 300 = 430560 := by
    unfold locN yday; rw [show (1440 * 299 + 0 - 60 + 60 : Int) / 1440 = 299 by decide, y2, if_neg (by decide)]; decide
  have h1 : hitB (1440 * 299 + 0 - 60 - 60) 299 0 60 60 90 300 = true := by
    rw [hit_std (by decide) (by decide) (by rw [l1]; decide), l1]; decide
  have h2 : hitB (1440 * 299 + 0 - 60) 299 0 60 60 90 300 = true := by
    rw [hit_std (by decide) (by decide) (by rw [l2]; decide), l2]; decide
  unfold momL tryL
  rw [h1, h2]; decide
end Go.Proofs.YtlfgjpidamkpdaaDoor
