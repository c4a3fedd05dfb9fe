/- strconv.Atoi at this seat. -/
import Derived.Test.YtknnbejhfhadnaaDoorW20
import Derived.Lib.AtoiAllCases
import Derived.Lib.AtoiErrMem
namespace Go.Proofs.YtknnbejhfhadnaaDoor
open Go.RowKit Go.Sort
inductive AtIs (l : List UInt8) : Int → Value → Prop where
  | ok (n : Int) (h : Lib.atoiAll l = .ok n) (b : inI n) : AtIs l n .nilIface
  | bad (n : Int) (N : Nat) (h : ∀ p, Lib.atoiAll l ≠ .ok p) (b : inI n) : AtIs l n (.iface 71 (.pointer (some ⟨N, 0, none⟩)))
theorem atoi_any (s : ByteArray) (w : World) (hs : s.size ≤ 281474976710656) (ht : TEnv w) :
    Calls Tryd.prog 37 #[.string s] w fun e w' => ∃ (n : Int) (ev : Value), e = .returned (.tuple #[.int .i64 n, ev]) ∧ AtIs s.data.toList n ev ∧ Below w.heap.size w w' := by
  obtain ⟨_, ⟨a, b, h2⟩, ⟨c, d, h3⟩, _, _⟩ := ht
  cases hh : Lib.atoiAll s.data.toList
  · rename_i v
    refine (Any.strconv_Atoi_ok Tryd.laysC172 s (by omega) v hh w).mono ?_
    rintro e w' ⟨rfl, hw⟩
    have hbd := Lib.atoiAll_bounds hh
    refine ⟨v, .nilIface, rfl, .ok v hh hbd, ?_⟩
    rcases hw with rfl | ⟨t, rfl⟩
    · exact Below.refl _ _
    · exact Lib.bytesWorld_below _ _ _
  · refine (Any.strconv_Atoi_syntax_var Tryd.laysC172 s hs hh a b w h2).mono ?_
    rintro e w' ⟨N, rfl, _, _, hb⟩
    refine ⟨_, _, rfl, .bad _ N (fun p hp => by rw [hh] at hp; cases hp) ⟨by decide, by decide⟩, hb⟩
  · refine (Any.strconv_Atoi_range_var Tryd.laysC172 s hs hh c d w h3).mono ?_
    rintro e w' ⟨N, rfl, _, _, hb⟩
    refine ⟨_, _, rfl, .bad _ N (fun p hp => by rw [hh] at hp; cases hp) ⟨?_, ?_⟩, hb⟩
    · unfold Lib.atoiSat; split <;> decide
    · unfold Lib.atoiSat; split <;> decide
end Go.Proofs.YtknnbejhfhadnaaDoor
