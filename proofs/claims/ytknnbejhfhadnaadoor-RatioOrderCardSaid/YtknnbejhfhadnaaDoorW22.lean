/- Parse. -/
import Derived.Test.YtknnbejhfhadnaaDoorW21
namespace Go.Proofs.YtknnbejhfhadnaaDoor
open Go.RowKit Go.Sort
theorem cut_any (s : ByteArray) (m : Int) (w : World) (hs : s.size < 4294967281) (hm : w.cell? ⟨0, 0, none⟩ = some (.int .i64 m)) {f g : ByteArray} {b : Bool} (hf : (⟨(Lib.cut s.data.toList [47]).1.toArray⟩ : ByteArray) = f) (hg : (⟨(Lib.cut s.data.toList [47]).2.1.toArray⟩ : ByteArray) = g) (hb : (Lib.cut s.data.toList [47]).2.2 = b) :
    Calls Tryd.prog 36 #[.string s, .string ⟨#[47]⟩] w fun e w' => e = .returned (.tuple #[.string f, .string g, .bool b]) ∧ Below w.heap.size w w' :=
  (Tryd.strings_Cut s ⟨#[47]⟩ m w hs hm).mono fun e w' ⟨he, n, hw⟩ => ⟨by rw [he, ← hf, ← hg, ← hb], by rw [hw]; exact ⟨rfl, rfl, rfl, Nat.le_refl _, fun _ _ => rfl⟩⟩
end Go.Proofs.YtknnbejhfhadnaaDoor
