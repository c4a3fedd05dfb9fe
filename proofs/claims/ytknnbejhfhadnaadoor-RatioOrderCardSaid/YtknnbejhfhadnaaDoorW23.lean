/- Parse (under way). -/
import Derived.Test.YtknnbejhfhadnaaDoorW22
namespace Go.Proofs.YtknnbejhfhadnaaDoor
open Go.RowKit Go.Sort
/-- The result's block in a world with the library's variables. -/
structure ResT (w w' : World) : Prop where
  b2 : Blk w' w.heap.size 23 #[.int .i64 0, .int .i64 0]
  bl : Below w.heap.size w w'
  env : TEnv w'
theorem ResT.below {w w' w'' : World} (h : ResT w w') (hb : Below w'.heap.size w' w'') : ResT w w'' := ⟨h.b2.below hb h.b2.lt, h.bl.trans (hb.mono (by have := h.b2.lt; omega)), h.env.below hb h.env.sz⟩
theorem resT0 (w : World) (ht : TEnv w) : ResT w (w.alloc (.cells #[.int .i64 0, .int .i64 0] 23)) := ⟨Blk.new w 23 _, (Below.refl _ _).alloc (Nat.le_refl _) _, ht.below ((Below.refl _ _).alloc (Nat.le_refl _) _) ht.sz⟩
theorem cut_len (l sep : List UInt8) : (Lib.cut l sep).1.length ≤ l.length ∧ (Lib.cut l sep).2.1.length ≤ l.length := by
  unfold Lib.cut
  split
  · exact ⟨by simp only [List.length_take]; omega, by simp only [List.length_drop]; omega⟩
  · exact ⟨Nat.le_refl _, Nat.zero_le _⟩
end Go.Proofs.YtknnbejhfhadnaaDoor
