/- The plain law of VmKept: what no instruction names does not change the result. -/
import Derived.Test.YtdpcdocaahjeoaaDoorVmL1
import Derived.Deep.OwnRows
namespace Go.Proofs.YtdpcdocaahjeoaaDoor
open Go Go.RowKit
namespace Vm
def NamedK (p : List Ins) (a : Nat) : Prop := ∃ i ∈ p, (i.1 = 4 ∨ i.1 = 5) ∧ i.2.2.1 = (a : Int)
def SeenK (p : List Ins) (a f : Nat) : Prop := ∃ i ∈ p, i.1 = 5 ∧ i.2.2.1 = (a : Int) ∧ i.2.2.2 = (f : Int)
/-- A record in which only fields that no instruction names have turned. -/
def RowK (p : List Ins) (a : Nat) (r r' : List Int) : Prop := ∀ f : Nat, SeenK p a f → r'.getD f 0 = r.getD f 0
def KndK (p : List Ins) (a : Nat) (rs rs' : List (List Int)) : Prop := NamedK p a → rs'.length = rs.length ∧ ∀ i : Nat, RowK p a (rs.getD i []) (rs'.getD i [])
theorem ok_kind {n : Int} {i : Ins} (h : insOk n i = true) (h4 : i.1 = 4 ∨ i.1 = 5) : 0 ≤ i.2.2.1 ∧ i.2.2.1 ≤ 5 := by
  unfold insOk at h
  simp only [Bool.and_eq_true, decide_eq_true_eq] at h
  have h1 := h.1.2
  rcases h4 with h4 | h4 <;> (rw [h4] at h1; simp [sortOf, fits] at h1; exact h1)
theorem ok_field {n : Int} {i : Ins} (h : insOk n i = true) (h5 : i.1 = 5) : 0 ≤ i.2.2.2 ∧ i.2.2.2 ≤ 9 := by
  unfold insOk at h
  simp only [Bool.and_eq_true, decide_eq_true_eq] at h
  have h1 := h.2
  rw [h5] at h1
  simp [sortOf, fits] at h1
  exact h1
theorem nm_kind {s : Shape} {i : Ins} (h : nmOk s i = true) (h4 : i.1 = 4 ∨ i.1 = 5) : i.2.2.1 < s.length := by
  unfold nmOk at h
  rcases h4 with h4 | h4
  · rw [if_pos h4] at h; simpa using h
  · rw [if_neg (by omega), if_pos h4] at h
    simp at h; exact h.1
theorem nm_field {s : Shape} {i : Ins} (h : nmOk s i = true) (h5 : i.1 = 5) : i.2.2.2 < ((s.getD i.2.2.1.toNat 0 : Nat) : Int) := by
  unfold nmOk at h
  rw [if_neg (by omega), if_pos h5] at h
  simp at h
  rw [List.getD_eq_getElem?_getD]
  exact h.2
theorem run_kept {s : Shape} {p : List Ins} {w w' : Wld} (hf : Fine s 20 p) (hs : s.length = w.length) (hk : ∀ a, a < w.length → KndK p a (w.getD a []) (w'.getD a [])) (n : Int) : run s p w n = run s p w' n := by
  unfold run
  split
  · rfl
  · split
    · rfl
    · split
      · rfl
      · refine go_same p w w' (fun i hi => ?_) (fun a r => rfl) _ _ _ _
        have hok := hf.ok i hi
        have hnm := hf.nm i hi
        refine step_same (fun h4 => ?_) (fun h5 => ?_)
        · obtain ⟨b0, _⟩ := ok_kind hok (.inl h4)
          have b1 := nm_kind hnm (.inl h4)
          obtain ⟨a, ha⟩ : ∃ a : Nat, i.2.2.1 = (a : Int) := ⟨i.2.2.1.toNat, by omega⟩
          have := (hk a (by omega) ⟨i, hi, .inl h4, ha⟩).1
          rw [ha]
          unfold cnt
          rw [if_neg (by omega), if_neg (by omega), Int.toNat_natCast, this]
        · obtain ⟨b0, _⟩ := ok_kind hok (.inr h5)
          have b1 := nm_kind hnm (.inr h5)
          obtain ⟨c0, _⟩ := ok_field hok h5
          obtain ⟨a, ha⟩ : ∃ a : Nat, i.2.2.1 = (a : Int) := ⟨i.2.2.1.toNat, by omega⟩
          obtain ⟨f, hff⟩ : ∃ f : Nat, i.2.2.2 = (f : Int) := ⟨i.2.2.2.toNat, by omega⟩
          obtain ⟨k1, k2⟩ := hk a (by omega) ⟨i, hi, .inr h5, ha⟩
          rw [ha, hff]
          refine ⟨?_, fun k hk0 _ => ?_⟩
          · unfold cnt
            rw [if_neg (by omega), if_neg (by omega), Int.toNat_natCast, k1]
          · unfold val
            rw [if_neg (by omega), if_neg (by omega), Int.toNat_natCast, Int.toNat_natCast]
            exact (k2 k.toNat f ⟨i, hi, h5, ha, hff⟩).symm
end Vm
/-- A row of bools. -/
def boolVals (bs : List Bool) : List Value := bs.map Value.bool
theorem boolVals_at {bs : List Bool} {j : Nat} (h : j < bs.length) : (boolVals bs).toArray[j]? = some (.bool (bs.getD j false)) := by
  simp [boolVals, List.getD, h]
theorem boolVals_set (bs : List Bool) (j : Nat) (b : Bool) : (boolVals bs).toArray.setIfInBounds j (.bool b) = (boolVals (bs.set j b)).toArray := by
  simp [boolVals, List.map_set]
theorem made_bools (n : Nat) : madeCells #[.bool false] n = (boolVals (List.replicate n false)).toArray := by
  apply Array.ext
  · simp [boolVals, size_madeCells]
  · intro i h1 h2
    simp [madeCells, boolVals, Nat.mod_one]
theorem getD_set_same {α : Type} (l : List α) (j : Nat) (d x : α) (h : j < l.length) : (l.set j x).getD j d = x := by simp [List.getD, h]
theorem getD_set_other {α : Type} (l : List α) (j k : Nat) (d x : α) (h : j ≠ k) : (l.set j x).getD k d = l.getD k d := by simp [List.getD, List.getElem?_set_ne h]
theorem flat_intVals {G : List Nat} {w : World} : ∀ {l : List Int} {xs : List Value}, Flat G w l xs → xs = intVals l
  | [], xs, h => by
    have h2 : xs = [] := h
    rw [h2]; rfl
  | x :: l, xs, h => by
    obtain ⟨u, t, rfl, ⟨rfl, _⟩, h2⟩ := h
    rw [flat_intVals h2]
    rfl
end Go.Proofs.YtdpcdocaahjeoaaDoor
