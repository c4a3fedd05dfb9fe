/- Plain facts on the texts of days: digits, and the numbers that digits spell. No program in sight. -/
import Derived.Test.YtlfgjpidamkpdaaDoorPlain
import Derived.Lib.ItoaNum
import Derived.Lib.AtoiAll
namespace Go.Proofs.YtlfgjpidamkpdaaDoor
namespace Cal
/-- The last k decimal digits of n, as bytes. -/
def digs (n : Nat) : Nat → List UInt8
  | 0 => []
  | k + 1 => digs (n / 10) k ++ [UInt8.ofNat (48 + n % 10)]
noncomputable def txt (day : Int) : List UInt8 :=
  if known day then digs (cy day).toNat 4 ++ [45] ++ digs (cm day).toNat 2 ++ [45] ++ digs (cd day).toNat 2 else []
theorem digs_length : ∀ (k n : Nat), (digs n k).length = k
  | 0, _ => rfl
  | k + 1, n => by simp [digs, digs_length k]
theorem digs_cons : ∀ (k n : Nat), digs n (k + 1) = UInt8.ofNat (48 + n / 10 ^ k % 10) :: digs n k
  | 0, n => by simp [digs]
  | k + 1, n => by
    have h := digs_cons k (n / 10)
    rw [digs, h, List.cons_append, Nat.div_div_eq_div_mul, show 10 * 10 ^ k = 10 ^ (k + 1) by rw [Nat.pow_succ, Nat.mul_comm]]
    rfl
theorem itoa4_fin : ∀ p : Fin 800, Lib.decDigits (1600 + p.val) = digs (1600 + p.val) 4 := by decide +kernel
theorem itoa2_fin : ∀ p : Fin 100, Lib.decDigits (100 + p.val) = 49 :: digs p.val 2 := by decide +kernel
theorem itoa4 (y : Int) (h1 : 1600 ≤ y) (h2 : y ≤ 2399) : Lib.itoa y = digs y.toNat 4 := by
  have := itoa4_fin ⟨(y - 1600).toNat, by omega⟩
  unfold Lib.itoa
  rw [if_neg (by omega)]
  rw [show y.toNat = 1600 + (y - 1600).toNat by omega]; exact this
theorem itoa2 (n : Int) (h1 : 0 ≤ n) (h2 : n ≤ 99) : Lib.itoa (100 + n) = 49 :: digs n.toNat 2 := by
  have := itoa2_fin ⟨n.toNat, by omega⟩
  unfold Lib.itoa
  rw [if_neg (by omega)]
  rw [show (100 + n).toNat = 100 + n.toNat by omega]; exact this
/-- Does Atoi read this text, and as which number. -/
def atOk (l : List UInt8) : Bool := match Lib.atoiAll l with | .ok _ => true | _ => false
def atV (l : List UInt8) : Int := match Lib.atoiAll l with | .ok v => v | _ => 0
theorem at4_fin : ∀ p : Fin 800, atOk (digs (1600 + p.val) 4) = true ∧ atV (digs (1600 + p.val) 4) = 1600 + p.val := by decide +kernel
theorem at2_fin : ∀ p : Fin 100, atOk (digs p.val 2) = true ∧ atV (digs p.val 2) = p.val := by decide +kernel
theorem at4 (y : Int) (h1 : 1600 ≤ y) (h2 : y ≤ 2399) : atOk (digs y.toNat 4) = true ∧ atV (digs y.toNat 4) = y := by
  have := at4_fin ⟨(y - 1600).toNat, by omega⟩
  rw [show y.toNat = 1600 + (y - 1600).toNat by omega]
  exact ⟨this.1, by rw [this.2]; simp; omega⟩
theorem at2 (n : Int) (h1 : 0 ≤ n) (h2 : n ≤ 99) : atOk (digs n.toNat 2) = true ∧ atV (digs n.toNat 2) = n := by
  have := at2_fin ⟨n.toNat, by omega⟩
  exact ⟨this.1, by rw [this.2]; simp; omega⟩
theorem digs4_fin : ∀ p : Fin 800, ∀ q : Fin 800, digs (1600 + p.val) 4 = digs (1600 + q.val) 4 → p = q := by
  intro p q h
  have a := (at4_fin p).2; have b := (at4_fin q).2
  rw [h, b] at a
  apply Fin.ext; omega
theorem civil_range {day : Int} (h : known day) : 1600 ≤ cy day ∧ cy day ≤ 2399 ∧ 1 ≤ cm day ∧ cm day ≤ 12 ∧ 1 ≤ cd day ∧ cd day ≤ 31 := by
  obtain ⟨⟨a, b, c, d, e, f⟩, _⟩ := civil_is h
  have h7 := (md_bd (cy day) (cm day)).2
  exact ⟨a, b, c, d, e, by omega⟩
theorem txt_parts {d : Int} (h : known d) : (txt d).take 4 = digs (cy d).toNat 4 ∧ ((txt d).drop 5).take 2 = digs (cm d).toNat 2 ∧ (txt d).drop 8 = digs (cd d).toNat 2 ∧ (txt d).length = 10 ∧ (txt d)[4]? = some 45 ∧ (txt d)[7]? = some 45 := by
  unfold txt; rw [if_pos h]
  generalize (cy d).toNat = a; generalize (cm d).toNat = b; generalize (cd d).toNat = c
  simp [digs]
theorem txt_inj {d d' : Int} (h : known d) (h' : known d') (he : txt d = txt d') : d = d' := by
  obtain ⟨a1, a2, a3, _⟩ := txt_parts h
  obtain ⟨b1, b2, b3, _⟩ := txt_parts h'
  rw [he] at a1 a2 a3
  obtain ⟨r1, r2, r3, r4, r5, r6⟩ := civil_range h
  obtain ⟨s1, s2, s3, s4, s5, s6⟩ := civil_range h'
  have e1 : cy d = cy d' := by rw [← (at4 (cy d) r1 r2).2, ← a1, b1, (at4 (cy d') s1 s2).2]
  have e2 : cm d = cm d' := by rw [← (at2 (cm d) (by omega) (by omega)).2, ← a2, b2, (at2 (cm d') (by omega) (by omega)).2]
  have e3 : cd d = cd d' := by rw [← (at2 (cd d) (by omega) (by omega)).2, ← a3, b3, (at2 (cd d') (by omega) (by omega)).2]
  rw [← civil_num h, ← civil_num h', e1, e2, e3]
/-- What Parse gives: the known day whose text this is, and the error. -/
def IsTxt (l : List UInt8) : Prop := ∃ d, known d ∧ txt d = l
open Classical in
noncomputable def parV (l : List UInt8) : Int := if h : IsTxt l then h.choose else 0
open Classical in
noncomputable def parE (l : List UInt8) : Int := if IsTxt l then 0 else 2
theorem par_ok {d : Int} (h : known d) : parV (txt d) = d ∧ parE (txt d) = 0 := by
  have hi : IsTxt (txt d) := ⟨d, h, rfl⟩
  unfold parV parE
  rw [dif_pos hi, if_pos hi]
  exact ⟨txt_inj hi.choose_spec.1 h hi.choose_spec.2, rfl⟩
theorem par_no {l : List UInt8} (h : ¬ IsTxt l) : parV l = 0 ∧ parE l = 2 := by
  unfold parV parE
  rw [dif_neg h, if_neg h]
  exact ⟨rfl, rfl⟩
theorem isTxt_at {l : List UInt8} (h : IsTxt l) : atOk (l.take 4) = true ∧ atOk ((l.drop 5).take 2) = true ∧ atOk (l.drop 8) = true ∧ l.length = 10 := by
  obtain ⟨d, hk, rfl⟩ := h
  obtain ⟨a1, a2, a3, a4, _⟩ := txt_parts hk
  obtain ⟨r1, r2, r3, r4, r5, r6⟩ := civil_range hk
  rw [a1, a2, a3]
  exact ⟨(at4 _ r1 r2).1, (at2 _ (by omega) (by omega)).1, (at2 _ (by omega) (by omega)).1, a4⟩
/-- Where it is a day's text, its day is the one that its three numbers make. -/
theorem isTxt_num {l : List UInt8} (h : IsTxt l) : valid (atV (l.take 4)) (atV ((l.drop 5).take 2)) (atV (l.drop 8)) ∧ txt (num (atV (l.take 4)) (atV ((l.drop 5).take 2)) (atV (l.drop 8))) = l := by
  obtain ⟨d, hk, rfl⟩ := h
  obtain ⟨a1, a2, a3, a4, _⟩ := txt_parts hk
  obtain ⟨r1, r2, r3, r4, r5, r6⟩ := civil_range hk
  rw [a1, a2, a3, (at4 _ r1 r2).2, (at2 _ (by omega) (by omega)).2, (at2 _ (by omega) (by omega)).2, civil_num hk]
  exact ⟨(civil_is hk).1, rfl⟩
end Cal
end Go.Proofs.YtlfgjpidamkpdaaDoor
