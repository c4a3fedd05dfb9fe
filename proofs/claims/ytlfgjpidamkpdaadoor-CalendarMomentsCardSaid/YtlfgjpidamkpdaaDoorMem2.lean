/- Bytes of the call's own as a string. -/
import Derived.Test.YtlfgjpidamkpdaaDoorMem
import Derived.Laws.BytesString
import Derived.Laws.Cells
namespace Go.Proofs.YtlfgjpidamkpdaaDoor
open Go.RowKit
def byteVals (l : List UInt8) : List Value := l.map fun c => .int .u8 c.toNat
theorem byteVals_cons (c : UInt8) (l : List UInt8) : byteVals (c :: l) = .int .u8 c.toNat :: byteVals l := rfl
theorem byteVals_append (a b : List UInt8) : byteVals (a ++ b) = byteVals a ++ byteVals b := by simp [byteVals]
theorem byteVals_one (l : List UInt8) : ∀ u ∈ byteVals l, u.oneCell' = true := by
  intro u hu
  simp only [byteVals, List.mem_map] at hu
  obtain ⟨c, _, rfl⟩ := hu
  rfl
theorem byteVals_length (l : List UInt8) : (byteVals l).length = l.length := by simp [byteVals]
theorem foldl_bytes (l : List UInt8) : ∀ (s : ByteArray), ((l.map fun c => (c.toNat : Int)).foldl (fun r n => r.push (UInt8.ofNat n.toNat)) s).data.toList = s.data.toList ++ l := by
  induction l with
  | nil => intro s; simp
  | cons c l ih =>
    intro s
    simp only [List.map_cons, List.foldl_cons]
    rw [ih]
    simp [ByteArray.push]
theorem run_str_own {P : Program} (w : World) (src dst e : TypeId) (hs : P.underlying src = some (.slice e)) (he : P.underlying e = some (.int .u8)) (hd : P.underlying dst = some .string)
    {base n : Nat} {v : Value} {l : List UInt8} (h : w.ownsRow base e 1 v n (byteVals l)) : (convert src dst v).run P w = .ok (.string ⟨l.toArray⟩) w := by
  have hl : l.length = n := by have := h.1; rw [byteVals_length] at this; omega
  rcases h.2 with ⟨rfl, rfl⟩ | ⟨g, cap, cur, rfl, _⟩
  · obtain rfl : l = [] := List.eq_nil_of_length_eq_zero hl
    rw [run_convert_bytes_string w src dst e none 0 0 hs he hd]
    rfl
  · rw [run_convert_bytes_string w src dst e _ n cap hs he hd]
    have hc := h.cells (g := g) rfl
    have hld := run_loadCells_list (P := P) (w := w) ⟨g, 0, none⟩ (byteVals l) hc
    rw [byteVals_length, hl] at hld
    rw [run_bytesToString w ⟨g, 0, none⟩ n cap (l.map fun c => (c.toNat : Int)) (by rw [hld]; simp [byteVals])]
    congr 2
    have := foldl_bytes l ByteArray.empty
    generalize List.foldl _ _ _ = r at this ⊢
    cases r
    simp at this
    subst this
    simp
theorem own_form {w : World} {base size n : Nat} {e : TypeId} {v : Value} {xs : List Value} (h : w.ownsRow base e size v n xs) : ∃ A c, v = .slice A n c := by
  rcases h.2 with ⟨rfl, rfl⟩ | ⟨g, cap, cur, rfl, _⟩
  · exact ⟨_, _, rfl⟩
  · exact ⟨_, _, rfl⟩
theorem own_lit {w : World} {base : Nat} {e : TypeId} (u : Value) (hb : base ≤ w.heap.size) : (w.alloc (.cells #[u] e)).ownsRow base e 1 (.slice (some ⟨w.heap.size, 0, none⟩) 1 1) 1 [u] :=
  World.ownsRow_lit w #[u] 1 hb (by decide) rfl
end Go.Proofs.YtlfgjpidamkpdaaDoor
