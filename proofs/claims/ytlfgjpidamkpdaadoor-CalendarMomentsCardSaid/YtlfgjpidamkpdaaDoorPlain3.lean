/- Plain facts on the numbers that the reference reads out of a text. -/
import Derived.Test.YtlfgjpidamkpdaaDoorPlain2
namespace Go.Proofs.YtlfgjpidamkpdaaDoor
namespace Cal
def isDig (c : UInt8) : Bool := decide (48 ≤ c.toNat) && decide (c.toNat ≤ 57)
def decV (l : List UInt8) : Nat := l.foldl (fun n c => 10 * n + (c.toNat - 48)) 0
def numV (l : List UInt8) : Int := if l.all isDig then (decV l : Int) else -1
theorem decV_snoc (l : List UInt8) (c : UInt8) : decV (l ++ [c]) = 10 * decV l + (c.toNat - 48) := by simp [decV, List.foldl_append]
theorem snoc_ind {P : List UInt8 → Prop} (h0 : P []) (hs : ∀ l c, P l → P (l ++ [c])) : ∀ l, P l := by
  intro l
  have : ∀ r : List UInt8, P r.reverse := by
    intro r
    induction r with
    | nil => simpa using h0
    | cons c r ih => rw [List.reverse_cons]; exact hs _ _ ih
  simpa using this l.reverse
theorem digs_decV (l : List UInt8) : l.all isDig = true → digs (decV l) l.length = l := by
  refine snoc_ind (P := fun l => l.all isDig = true → digs (decV l) l.length = l) ?_ ?_ l
  · intro _; rfl
  · intro l c ih h
    rw [List.all_append, Bool.and_eq_true] at h
    have hc := h.2
    simp only [List.all_cons, List.all_nil, Bool.and_true, isDig, Bool.and_eq_true, decide_eq_true_eq] at hc
    rw [decV_snoc, List.length_append]
    show digs _ (l.length + 1) = _
    rw [digs, show (10 * decV l + (c.toNat - 48)) / 10 = decV l by omega, show 48 + (10 * decV l + (c.toNat - 48)) % 10 = c.toNat by omega, ih h.1, UInt8.ofNat_toNat]
theorem decV_lt (l : List UInt8) : l.all isDig = true → decV l < 10 ^ l.length := by
  refine snoc_ind (P := fun l => l.all isDig = true → decV l < 10 ^ l.length) ?_ ?_ l
  · intro _; decide
  · intro l c ih h
    rw [List.all_append, Bool.and_eq_true] at h
    have hc := h.2
    simp only [List.all_cons, List.all_nil, Bool.and_true, isDig, Bool.and_eq_true, decide_eq_true_eq] at hc
    have := ih h.1
    rw [decV_snoc, List.length_append, List.length_singleton, Nat.pow_succ]
    omega
theorem numV4_fin : ∀ p : Fin 800, numV (digs (1600 + p.val) 4) = 1600 + p.val := by decide +kernel
theorem numV2_fin : ∀ p : Fin 100, numV (digs p.val 2) = p.val := by decide +kernel
theorem numV4 (y : Int) (h1 : 1600 ≤ y) (h2 : y ≤ 2399) : numV (digs y.toNat 4) = y := by
  have := numV4_fin ⟨(y - 1600).toNat, by omega⟩
  rw [show y.toNat = 1600 + (y - 1600).toNat by omega, this]; simp; omega
theorem numV2 (n : Int) (h1 : 0 ≤ n) (h2 : n ≤ 99) : numV (digs n.toNat 2) = n := by
  have := numV2_fin ⟨n.toNat, by omega⟩
  rw [this]; simp; omega
theorem digs_of_numV (l : List UInt8) (h : 0 ≤ numV l) : digs (numV l).toNat l.length = l := by
  unfold numV at h ⊢
  split at h
  · rename_i ha; rw [if_pos ha]; exact digs_decV l ha
  · omega
theorem numV_bd (l : List UInt8) (h : l.length ≤ 10) : -1 ≤ numV l ∧ numV l ≤ 10000000000 := by
  unfold numV
  split
  · rename_i ha
    have := decV_lt l ha
    have : 10 ^ l.length ≤ 10 ^ 10 := Nat.pow_le_pow_right (by decide) h
    omega
  · omega
/-- The reference's test decides the same. -/
theorem list10 {l : List UInt8} (h : l.length = 10) (h4 : l[4]? = some 45) (h7 : l[7]? = some 45) : l = l.take 4 ++ [45] ++ (l.drop 5).take 2 ++ [45] ++ l.drop 8 := by
  match l, h with
  | [a, b, c, d, e, f, g, i, j, k], _ =>
    simp at h4 h7
    simp [h4, h7]
theorem isTxt_ref {l : List UInt8} (hl : l.length = 10) (h4 : l[4]? = some 45) (h7 : l[7]? = some 45) (hv : valid (numV (l.take 4)) (numV ((l.drop 5).take 2)) (numV (l.drop 8))) :
    txt (num (numV (l.take 4)) (numV ((l.drop 5).take 2)) (numV (l.drop 8))) = l := by
  have hc := civil_eq (day := num _ _ _) ⟨hv, rfl⟩
  have hk := num_known hv
  unfold txt
  rw [if_pos hk, hc.1, hc.2.1, hc.2.2]
  obtain ⟨a, b, c, d, e, f⟩ := hv
  have l1 : (l.take 4).length = 4 := by rw [List.length_take]; omega
  have l2 : ((l.drop 5).take 2).length = 2 := by rw [List.length_take, List.length_drop]; omega
  have l3 : (l.drop 8).length = 2 := by rw [List.length_drop]; omega
  have d1 := digs_of_numV (l.take 4) (by omega)
  have d2 := digs_of_numV ((l.drop 5).take 2) (by omega)
  have d3 := digs_of_numV (l.drop 8) (by omega)
  rw [l1] at d1; rw [l2] at d2; rw [l3] at d3
  rw [d1, d2, d3]
  exact (list10 hl h4 h7).symm
theorem isTxt_back {l : List UInt8} (h : IsTxt l) : l.length = 10 ∧ l[4]? = some 45 ∧ l[7]? = some 45 ∧ valid (numV (l.take 4)) (numV ((l.drop 5).take 2)) (numV (l.drop 8)) := by
  obtain ⟨d, hk, rfl⟩ := h
  obtain ⟨a1, a2, a3, a4, a5, a6⟩ := txt_parts hk
  obtain ⟨r1, r2, r3, r4, r5, r6⟩ := civil_range hk
  rw [a1, a2, a3, numV4 _ r1 r2, numV2 _ (by omega) (by omega), numV2 _ (by omega) (by omega)]
  exact ⟨a4, a5, a6, (civil_is hk).1⟩
end Cal
end Go.Proofs.YtlfgjpidamkpdaaDoor
