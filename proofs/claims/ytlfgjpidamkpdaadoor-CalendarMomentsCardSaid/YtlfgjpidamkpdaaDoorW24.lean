/- A slice of noughts, and a list read at an index. -/
import Derived.Test.YtlfgjpidamkpdaaDoorW23
import Derived.Laws.MakeOwn
namespace Go.Proofs.YtlfgjpidamkpdaaDoor
open Go.RowKit
def noughts (n : Nat) : Array Value := madeCells #[.int .i64 0] n
theorem mk_ints (w : World) (x : Int) (h0 : 0 ≤ x) (h1 : x ≤ 1000) :
    (Instr.makeSlice 23 (.int .i64 x) (.int .i64 x)).run Tryd.prog w = .ok (.slice (some ⟨w.heap.size, 0, none⟩) x.toNat x.toNat) (w.alloc (.cells (noughts x.toNat) 3)) := by
  obtain ⟨i0, hi0, hi1, hi2, hi3⟩ := info_parts int_info
  have h := run_make (P := Tryd.prog) w 23 3 i0 _ Tryd.underlying23 hi0 hi1 .i64 .i64 x x h0 (Int.le_refl _) (by rw [hi3]; omega) (by omega)
  rw [hi2, Nat.mul_one] at h
  exact h
theorem noughts_get (n j : Nat) (h : j < n) : (noughts n)[j]? = some (.int .i64 0) := by
  unfold noughts madeCells
  rw [Array.getElem?_map, Array.getElem?_range]
  simp [h]
  rw [Nat.mod_one]; rfl
theorem ints_of_blk {w : World} {g B : Nat} {n : Nat} (h : Blk w g 3 (noughts n)) (hB : g < B) : Ints w B (some ⟨g, 0, none⟩) n (List.replicate n 0) := by
  refine ⟨by simp [intVals], fun _ => ⟨_, rfl, hB, fun j u hu => ?_⟩⟩
  have hj : j < n := by
    have := (List.getElem?_eq_some_iff.1 hu).1
    simpa [intVals] using this
  have e : (⟨g, 0, none⟩ : Addr).add j = ⟨g, j, none⟩ := by
    unfold Addr.add
    by_cases h0 : j = 0
    · subst h0; rfl
    · rw [if_neg h0]; simp
  rw [e, h.cell j, noughts_get n j hj, ← hu]
  simp [intVals, hj]
/-- The numbers that a list holds, cell by cell. -/
theorem ints_get {w : World} {B n : Nat} {A : Option Addr} {L : List Int} (h : Ints w B A n L) {k : Nat} (hk : k < n) : ∃ b o, A = some ⟨b, o, none⟩ ∧ w.cell? ⟨b, o + k, none⟩ = some (.int .i64 (L.getD k 0)) := by
  obtain ⟨b, o, rfl, _, hc⟩ := h.form (by omega)
  exact ⟨b, o, rfl, hc k (by rw [h.len]; exact hk)⟩
end Go.Proofs.YtlfgjpidamkpdaaDoor
