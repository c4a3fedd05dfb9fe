/- lives: the examples, called. -/
import Derived.Test.YtlfgjpidamkpdaaDoorW21
namespace Go.Proofs.YtlfgjpidamkpdaaDoor
open Go.RowKit
theorem mom89 (w : World) : Calls Tryd.prog 29 #[.int .i64 89, .int .i64 30, .agg #[.int .i64 60, .int .i64 60, .int .i64 90, .int .i64 300]] w fun e w' => ∃ A c, e = .returned (.tuple #[.slice A 0 c, .int .i64 0]) ∧ Below w.heap.size w w' := by
  refine (moments_any 89 30 60 60 90 300 w).mono ?_
  rintro e w' ⟨A, c, he, _, hb⟩
  rw [if_pos (by decide), if_pos (by decide), if_pos (by decide), ex10] at he
  exact ⟨A, c, he, hb⟩
theorem mom299 (w : World) : Calls Tryd.prog 29 #[.int .i64 299, .int .i64 0, .agg #[.int .i64 60, .int .i64 60, .int .i64 90, .int .i64 300]] w fun e w' => ∃ A c, e = .returned (.tuple #[.slice A 2 c, .int .i64 0]) ∧ Below w.heap.size w w' := by
  refine (moments_any 299 0 60 60 90 300 w).mono ?_
  rintro e w' ⟨A, c, he, _, hb⟩
  rw [if_pos (by decide), if_pos (by decide), if_pos (by decide), ex11] at he
  exact ⟨A, c, he, hb⟩
set_option maxHeartbeats 8000000 in
theorem lives_any (w : World) (ht : TEnv w) :
    Calls Tryd.prog 20 #[] w fun e w' => e = .returned (.bool true) ∧ Below w.heap.size w w' := by
  have hb := Below.refl w.heap.size w
  have ht0 := ht
  have hsz := ht.sz
  obtain ⟨a1, a2⟩ := ex1
  have a3 := ex2
  obtain ⟨b1, b2, b3⟩ := ex3
  have b4 := ex4
  have c1 := ex5
  obtain ⟨d1, d2⟩ := ex7
  have f1 := ex8
  obtain ⟨g1, g2⟩ := ex9
  go_enter Tryd.func20, Tryd.ntmps20
  go_wp2_with (first
    | (go_at_call 18; refine (day_any _ _ _ _ (by omega)).mono ?_; rintro e w1 ⟨rfl, hb1⟩; have hb := hb.trans (hb1.mono hb.size); clear hb1; have ht := ht0.below hb hsz)
    | (go_at_call 11; refine (civil_any _ _).mono ?_; rintro e w1 ⟨rfl, hb1⟩; have hb := hb.trans (hb1.mono hb.size); clear hb1; have ht := ht0.below hb hsz)
    | (go_at_call 22; refine (parse_any _ _ ht (by decide)).mono ?_; rintro e w1 ⟨rfl, hb1⟩; have hb := hb.trans (hb1.mono hb.size); clear hb1; have ht := ht0.below hb hsz)
    | (go_at_call 26; refine (local_any _ _ _ _ _ _ (by omega) (by omega)).mono ?_; rintro e w1 ⟨rfl, hb1⟩; have hb := hb.trans (hb1.mono hb.size); clear hb1; have ht := ht0.below hb hsz)
    | (go_at_call 32; fail))
  refine (work_any none 0 0 0 [] 0 1 _ Ints.nil (by omega) (by omega) (by omega)).mono ?_
  rintro e w1 ⟨rfl, rfl⟩
  rw [g1]
  go_wp2_with (go_at_call 32; fail)
  refine (work_any _ 1 1 _ [2] 0 1 _ (reads_lit _ 3 (.int .i64 2)) (by omega) (by omega) (by omega)).mono ?_
  rintro e w1 ⟨rfl, rfl⟩
  rw [g2]
  have hb := hb.alloc hb.size (.cells #[.int .i64 2] 3)
  go_wp2_with (go_at_call 29; fail)
  have hb := hb.alloc hb.size (.cells #[.int .i64 60, .int .i64 60, .int .i64 90, .int .i64 300] 39)
  refine (mom89 _).mono ?_
  rintro e w2 ⟨A, c, rfl, hb1⟩
  have hb := hb.trans (hb1.mono hb.size)
  have k := fun i => hb1.cell (p := ⟨w1.heap.size + 1, i, none⟩) (by simp only [World.size_alloc]; omega)
  clear hb1
  go_wp2_with (go_at_call 29; fail)
  refine (mom299 _).mono ?_
  rintro e w3 ⟨A', c', rfl, hb1⟩
  have hb := hb.trans (hb1.mono hb.size)
  clear hb1
  have ht := ht0.below hb hsz
  go_wp2_with (first
    | (go_at_call 13; refine (weekday_any _ _ (by omega) (by omega)).mono ?_; rintro e w1 ⟨rfl, rfl⟩)
    | (go_at_call 15; refine (text_any _ _ ht).mono ?_; rintro e w1 ⟨rfl, hb1⟩; have hb := hb.trans (hb1.mono hb.size); clear hb1))
  go_ret
  exact ⟨rfl, hb⟩
end Go.Proofs.YtlfgjpidamkpdaaDoor
