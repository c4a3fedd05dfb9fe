/- Slices of ints that read as lists; slices.Contains over them. -/
import Derived.Test.YtlfgjpidamkpdaaDoorMem2
import Derived.Test.YtlfgjpidamkpdaaDoorShelf
namespace Go.Proofs.YtlfgjpidamkpdaaDoor
open Go.RowKit
def intVals (L : List Int) : List Value := L.map (Value.int .i64)
theorem intVals_length (L : List Int) : (intVals L).length = L.length := by simp [intVals]
theorem intVals_append (a b : List Int) : intVals (a ++ b) = intVals a ++ intVals b := by simp [intVals]
theorem intVals_one (L : List Int) : ∀ u ∈ intVals L, u.oneCell' = true := ints_oneCell .i64 L
theorem intVals_get {L : List Int} {j : Nat} (h : j < L.length) : (intVals L)[j]? = some (.int .i64 (L.getD j 0)) := by
  simp [intVals, List.getD, List.getElem?_eq_getElem h]
def Ints (w : World) (B : Nat) (A : Option Addr) (n : Nat) (L : List Int) : Prop := Reads w B 1 A n (intVals L)
section
variable {w w' : World} {B n : Nat} {A : Option Addr} {L : List Int}
theorem Ints.len (h : Ints w B A n L) : L.length = n := by have := h.1; rw [intVals_length] at this; omega
theorem Ints.nil : Ints w B A 0 [] := ⟨by simp [intVals], fun h => absurd h (by omega)⟩
theorem Ints.form (h : Ints w B A n L) (hn : 0 < n) : ∃ b off, A = some ⟨b, off, none⟩ ∧ b < B ∧ ∀ j, j < L.length → w.cell? ⟨b, off + j, none⟩ = some (.int .i64 (L.getD j 0)) := by
  obtain ⟨ad, u, rfl, hb, hx, hc⟩ := h.at_ (k := 0) hn
  have hs := World.cell?_spot hc
  obtain ⟨b, off, spot⟩ := ad
  have hsp : spot = none := by simpa [Addr.add] using hs
  subst hsp
  refine ⟨b, off, rfl, hb, fun j hj => ?_⟩
  have hjn : j < n := by rw [← h.len]; exact hj
  obtain ⟨ad', u', e, _, hx', hc'⟩ := h.at_ hjn
  injection e with e
  subst e
  rw [intVals_get hj] at hx'
  injection hx' with hx'
  subst hx'
  have : (⟨b, off, none⟩ : Addr).add j = ⟨b, off + j, none⟩ := by
    unfold Addr.add
    by_cases h0 : j = 0
    · subst h0; rfl
    · rw [if_neg h0]
  rw [this] at hc'
  exact hc'
theorem contains_any (x : Int) (c : Nat) (h : Ints w B A n L) (hn : n ≤ 9223372036854775807) :
    Calls Tryd.prog 53 #[.slice A n c, .int .i64 x] w fun e w' => e = .returned (.bool (L.contains x)) ∧ w = w' := by
  have hl := h.len
  rcases Nat.eq_zero_or_pos n with h0 | h0
  · subst h0
    obtain rfl : L = [] := List.eq_nil_of_length_eq_zero hl
    exact (Tryd.slices_Contains_int_empty A c x w).mono fun e w' ⟨he, hw⟩ => ⟨he, hw.symm⟩
  · obtain ⟨b, off, rfl, _, hc⟩ := h.form h0
    refine (Tryd.slices_Contains_int b off n c L x w (by omega) hn hc).mono fun e w' ⟨he, hw⟩ => ⟨?_, hw.symm⟩
    rw [List.take_of_length_le (by omega)] at he
    exact he
end
theorem own_ints {w : World} {base n c : Nat} {A : Option Addr} {L : List Int} (h : w.ownsRow base 3 1 (.slice A n c) n (intVals L)) : Ints w w.heap.size A n L := Reads.of_own h
end Go.Proofs.YtlfgjpidamkpdaaDoor
