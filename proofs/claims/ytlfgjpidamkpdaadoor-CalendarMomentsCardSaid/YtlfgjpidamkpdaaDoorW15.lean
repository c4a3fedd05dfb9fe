/- Moments of the calendar. -/
import Derived.Test.YtlfgjpidamkpdaaDoorW14
namespace Go.Proofs.YtlfgjpidamkpdaaDoor
open Go.RowKit
theorem tryL_len (n day mi o s f t : Int) (L : List Int) : (tryL n day mi o s f t L).length ≤ L.length + 1 := by
  unfold tryL; split <;> simp
theorem try_any (n day mi o s f t : Int) (bo : Nat) (L : List Int) (w0 w : World) (hn1 : -9223372036854775808 ≤ n) (hn2 : n ≤ 9223372036854775807) (hs : MSt w0 w day mi o s f t bo L) (hL : L.length ≤ 2) :
    Calls Tryd.prog 52 #[.int .i64 n, .pointer (some ⟨w0.heap.size + 2, 0, none⟩), .pointer (some ⟨w0.heap.size, 0, none⟩), .pointer (some ⟨w0.heap.size + 1, 0, none⟩), .pointer (some ⟨bo, 0, none⟩)] w fun e w' => e = .returned (.tuple #[]) ∧ MSt w0 w' day mi o s f t bo (tryL n day mi o s f t L) := by
  cases hB : hitB n day mi o s f t
  · have hT : tryL n day mi o s f t L = L := by unfold tryL; rw [hB]; rfl
    rw [hT]
    refine try_no n day mi o s f t bo L w0 w hn1 hn2 hs (loc n o s f t).2.2 (loc n o s f t).1 (loc n o s f t).2.1 rfl ?_
    unfold hitB at hB
    by_cases h1 : (loc n o s f t).2.2 = 0
    · by_cases h2 : (loc n o s f t).1 = day
      · by_cases h3 : (loc n o s f t).2.1 = mi
        · simp [h1, h2, h3] at hB
        · exact .inr (.inr ⟨beq_iff_eq.2 h1, beq_iff_eq.2 h2, beq_eq_false_iff_ne.2 h3⟩)
      · exact .inr (.inl ⟨beq_iff_eq.2 h1, beq_eq_false_iff_ne.2 h2⟩)
    · exact .inl (beq_eq_false_iff_ne.2 h1)
  · have hE : loc n o s f t = (day, mi, 0) := by
      unfold hitB at hB
      simp only [Bool.and_eq_true, decide_eq_true_eq] at hB
      obtain ⟨⟨h1, h2⟩, h3⟩ := hB
      exact Prod.ext h2 (Prod.ext h3 h1)
    cases hc : L.contains n
    · have hT : tryL n day mi o s f t L = L ++ [n] := by unfold tryL; rw [hB, hc]; rfl
      rw [hT]
      exact try_yes n day mi o s f t bo L w0 w hn1 hn2 hs hL hE hc
    · have hT : tryL n day mi o s f t L = L := by unfold tryL; rw [hB, hc]; rfl
      rw [hT]
      exact try_again n day mi o s f t bo L w0 w hn1 hn2 hs hL hE hc
noncomputable def momL (day mi o s f t : Int) : List Int := tryL (1440 * day + mi - o) day mi o s f t (tryL (1440 * day + mi - o - s) day mi o s f t [])
def SlRes (L : List Int) (E : Int) (w w' : World) (e : Ending) : Prop := ∃ A c, e = .returned (.tuple #[.slice A L.length c, .int .i64 E]) ∧ Ints w' w'.heap.size A L.length L ∧ Below w.heap.size w w'
theorem SlRes.nil {w w' : World} {E : Int} (hb : Below w.heap.size w w') : SlRes [] E w w' (.returned (.tuple #[.slice none 0 0, .int .i64 E])) := ⟨_, _, rfl, Ints.nil, hb⟩
theorem below2 {w w1 : World} {o1 o2 o3 : Obj} (h : Below (((w.alloc o1).alloc o2).alloc o3).heap.size (((w.alloc o1).alloc o2).alloc o3) w1) : Below w.heap.size w w1 :=
  ((((Below.refl _ _).alloc (Nat.le_refl _) _).alloc (by simp) _).alloc (by simp; omega) _).trans (h.mono (by simp; omega))
set_option maxHeartbeats 4000000 in
theorem moments_badz (day mi o s f t : Int) (w : World) (hz : zok o s f t = false) :
    Calls Tryd.prog 29 #[.int .i64 day, .int .i64 mi, .agg #[.int .i64 o, .int .i64 s, .int .i64 f, .int .i64 t]] w fun e w' => SlRes [] 1 w w' e := by
  go_enter Tryd.func29, Tryd.ntmps29
  go_wp2_with (go_at_call 48; refine (valid_any _ _ _ _ _).mono ?_; rintro e w1 ⟨rfl, hb1⟩)
  go_ret2
  exact SlRes.nil (below2 hb1)
set_option maxHeartbeats 4000000 in
theorem moments_badd (day mi o s f t : Int) (w : World) (hz : zok o s f t = true) (hk : knownB day = false ∨ knownB day = true ∧ mi < 0 ∨ knownB day = true ∧ 0 ≤ mi ∧ 1439 < mi) :
    Calls Tryd.prog 29 #[.int .i64 day, .int .i64 mi, .agg #[.int .i64 o, .int .i64 s, .int .i64 f, .int .i64 t]] w fun e w' => SlRes [] 5 w w' e := by
  rcases hk with hk | ⟨hk, h0⟩ | ⟨hk, h0, h1⟩
  all_goals
    go_enter Tryd.func29, Tryd.ntmps29
    go_wp2_with fail
    refine (valid_any _ _ _ _ _).mono ?_
    rintro e w1 ⟨rfl, hb1⟩
    have k0 := hb1.cell (p := ⟨w.heap.size, 0, none⟩) (by simp only [World.size_alloc]; omega)
    have k1 := hb1.cell (p := ⟨w.heap.size + 1, 0, none⟩) (by simp only [World.size_alloc]; omega)
    go_wp2_with (go_at_call 36; refine (known_any _ _).mono ?_; rintro e w1 ⟨rfl, rfl⟩)
    go_ret2
    exact SlRes.nil (below2 hb1)
theorem MSt.start {w w1 : World} {day mi o s f t : Int}
    (hb : Below (((w.alloc (.cells #[.int .i64 day] 3)).alloc (.cells #[.int .i64 mi] 3)).alloc (.cells #[.int .i64 o, .int .i64 s, .int .i64 f, .int .i64 t] 39)).heap.size (((w.alloc (.cells #[.int .i64 day] 3)).alloc (.cells #[.int .i64 mi] 3)).alloc (.cells #[.int .i64 o, .int .i64 s, .int .i64 f, .int .i64 t] 39)) w1) :
    MSt w (w1.alloc (.cells #[.slice none 0 0] 23)) day mi o s f t w1.heap.size [] := by
  have b0 := below2 hb
  have hs := hb.size
  simp only [World.size_alloc] at hs
  have n0 := (((Blk.new w 3 #[.int .i64 day]).alloc (.cells #[.int .i64 mi] 3)).alloc (.cells #[.int .i64 o, .int .i64 s, .int .i64 f, .int .i64 t] 39)).below hb (by simp only [World.size_alloc]; omega)
  have n1 := ((Blk.new (w.alloc (.cells #[.int .i64 day] 3)) 3 #[.int .i64 mi]).alloc (.cells #[.int .i64 o, .int .i64 s, .int .i64 f, .int .i64 t] 39)).below hb (by simp only [World.size_alloc]; omega)
  have n2 := (Blk.new ((w.alloc (.cells #[.int .i64 day] 3)).alloc (.cells #[.int .i64 mi] 3)) 39 #[.int .i64 o, .int .i64 s, .int .i64 f, .int .i64 t]).below hb (by simp only [World.size_alloc]; omega)
  simp only [World.size_alloc] at n1 n2
  exact ⟨b0.alloc b0.size _, n0.alloc _, n1.alloc _, n2.alloc _, by omega, _, Blk.new w1 23 _, by simp [intVals], .inl ⟨rfl, rfl⟩⟩
set_option maxHeartbeats 4000000 in
theorem moments_ok (day mi o s f t : Int) (w : World) (hz : zok o s f t = true) (hk : knownB day = true) (h0 : 0 ≤ mi) (h1 : mi ≤ 1439) :
    Calls Tryd.prog 29 #[.int .i64 day, .int .i64 mi, .agg #[.int .i64 o, .int .i64 s, .int .i64 f, .int .i64 t]] w fun e w' => SlRes (momL day mi o s f t) 0 w w' e := by
  obtain ⟨z1, z2, z3, z4, z5, z6, z7⟩ := zok_iff.1 hz
  have dk := knownB_true hk
  obtain ⟨d1, d2⟩ := dk
  have l1 := tryL_len (1440 * day + mi - o - s) day mi o s f t []
  have L1 := Lib.hid l1
  clear l1
  go_enter Tryd.func29, Tryd.ntmps29
  go_wp2_with fail
  refine (valid_any _ _ _ _ _).mono ?_
  rintro e w1 ⟨rfl, hb1⟩
  have k0 := hb1.cell (p := ⟨w.heap.size, 0, none⟩) (by simp only [World.size_alloc]; omega)
  have k1 := hb1.cell (p := ⟨w.heap.size + 1, 0, none⟩) (by simp only [World.size_alloc]; omega)
  have m0 := MSt.start hb1
  have c0 : (w1.alloc (.cells #[.slice none 0 0] 23)).cell? ⟨w.heap.size, 0, none⟩ = some (.int .i64 day) := m0.hd.cell 0
  have c1 : (w1.alloc (.cells #[.slice none 0 0] 23)).cell? ⟨w.heap.size + 1, 0, none⟩ = some (.int .i64 mi) := m0.hm.cell 0
  have c20 : (w1.alloc (.cells #[.slice none 0 0] 23)).cell? ⟨w.heap.size + 2, 0, none⟩ = some (.int .i64 o) := m0.hz.cell 0
  have c21 : (w1.alloc (.cells #[.slice none 0 0] 23)).cell? ⟨w.heap.size + 2, 1, none⟩ = some (.int .i64 s) := m0.hz.cell 1
  go_wp2_with (first
    | (go_at_call 36; refine (known_any _ _).mono ?_; rintro e w1 ⟨rfl, rfl⟩)
    | (go_at_call 52; fail))
  refine (try_any _ day mi o s f t _ [] w _ (by omega) (by omega) m0 (by simp)).mono ?_
  rintro e w2 ⟨rfl, m2⟩
  go_wp2_with fail
  refine (try_any _ day mi o s f t _ _ w _ (by omega) (by omega) m2 (by have := L1.out; simp at this; omega)).mono ?_
  rintro e w3 ⟨rfl, m3⟩
  obtain ⟨A, c, o1, _, o3, _⟩ := m3.own
  go_wp2_with fail
  go_ret2
  exact ⟨A, c, rfl, own_ints o3, m3.below⟩
theorem moments_any (day mi o s f t : Int) (w : World) :
    Calls Tryd.prog 29 #[.int .i64 day, .int .i64 mi, .agg #[.int .i64 o, .int .i64 s, .int .i64 f, .int .i64 t]] w fun e w' =>
      SlRes (if zok o s f t && knownB day && decide (0 ≤ mi) && decide (mi ≤ 1439) then momL day mi o s f t else []) (if zok o s f t then (if knownB day && decide (0 ≤ mi) && decide (mi ≤ 1439) then 0 else 5) else 1) w w' e := by
  cases hz : zok o s f t
  · exact moments_badz day mi o s f t w hz
  · cases hk : knownB day
    · exact moments_badd day mi o s f t w hz (.inl hk)
    · by_cases h0 : 0 ≤ mi
      · by_cases h1 : mi ≤ 1439
        · simp only [h0, h1, decide_true, Bool.and_true, if_true]
          exact moments_ok day mi o s f t w hz hk h0 h1
        · simp only [h0, h1, decide_true, decide_false, Bool.and_true, Bool.and_false, if_true, Bool.false_eq_true, if_false]
          exact moments_badd day mi o s f t w hz (.inr (.inr ⟨hk, h0, by omega⟩))
      · simp only [h0, decide_false, Bool.and_false, Bool.false_and, if_true, Bool.false_eq_true, if_false]
        exact moments_badd day mi o s f t w hz (.inr (.inl ⟨hk, by omega⟩))
end Go.Proofs.YtlfgjpidamkpdaaDoor
