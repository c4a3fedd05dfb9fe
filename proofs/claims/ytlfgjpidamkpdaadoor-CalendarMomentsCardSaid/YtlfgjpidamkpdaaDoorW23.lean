/- The reference's Short: a text cut to a length. -/
import Derived.Test.YtlfgjpidamkpdaaDoorW22
namespace Go.Proofs.YtlfgjpidamkpdaaDoor
open Go.RowKit
set_option maxHeartbeats 400000 in
theorem short_any (s : ByteArray) (w : World) (hm : s.size ≤ 9223372036854775807) :
    Calls Tryd.prog 21 #[.string s, .int .i64 12] w fun e w' => (∃ t : ByteArray, e = .returned (.string t) ∧ t.size ≤ 12) ∧ w = w' := by
  by_cases h : s.size ≤ 12
  · have hp : ¬ (12 : Int) < (s.size : Int) := by omega
    go_enter Tryd.func21, Tryd.ntmps21
    go_wp2
    go_ret
    exact ⟨⟨s, rfl, h⟩, rfl⟩
  · have hp : (12 : Int) < (s.size : Int) := by omega
    have hp2 : 12 ≤ s.size := by omega
    go_enter Tryd.func21, Tryd.ntmps21
    go_wp2
    go_ret
    refine ⟨⟨_, rfl, ?_⟩, rfl⟩
    simp; omega
end Go.Proofs.YtlfgjpidamkpdaaDoor
