/- The statement CalendarDays: the walk. -/
import Derived.Test.YtlfgjpidamkpdaaDoorW22
namespace Go.Proofs.YtlfgjpidamkpdaaDoor
open Go.RowKit
theorem same_below {P : Program} {f : FuncId} {args : Array Value} {w : World} {v : Value} (h : Calls P f args w fun e w' => e = .returned v ∧ w = w') :
    Calls P f args w fun e w' => e = .returned v ∧ Below w.heap.size w w' :=
  h.mono fun _ _ ⟨h1, h2⟩ => ⟨h1, h2 ▸ Below.refl _ _⟩
theorem TEnv.re {w : World} (h : TEnv w) (d : Nat) (os : Array Obj) : TEnv (Sort.grow (redrawn w d) os) := h.below (below_regrown w d os) h.sz
/-- The cell of a list at an index. -/
theorem Ints.at0 {w : World} {B g n : Nat} {L : List Int} (h : Ints w B (some ⟨g, 0, none⟩) n L) {k : Nat} (hk : k < n) : w.cell? ⟨g, k, none⟩ = some (.int .i64 (L.getD k 0)) := by
  obtain ⟨b, o, e, _, hc⟩ := h.form (by omega)
  injection e with e
  injection e with e1 e2 e3
  subst e1 e2
  have := hc k (by rw [h.len]; exact hk)
  rwa [Nat.zero_add] at this
theorem four_at (a b c d : Int) {w : World} {B g : Nat} (h0 : w.heap[g]? = some (.cells #[.int .i64 a, .int .i64 b, .int .i64 c, .int .i64 d] 3 (0, 0))) (hB : g < B) : Ints w B (some ⟨g, 0, none⟩) 4 [a, b, c, d] := by
  refine ⟨rfl, fun _ => ⟨_, rfl, hB, fun j u hu => ?_⟩⟩
  have hb : Blk w g 3 #[.int .i64 a, .int .i64 b, .int .i64 c, .int .i64 d] := h0
  have hc := hb.cell j
  have : (⟨g, 0, none⟩ : Addr).add j = ⟨g, j, none⟩ := by
    unfold Addr.add
    by_cases h0 : j = 0
    · subst h0; rfl
    · rw [if_neg h0]; simp
  rw [this, hc, ← hu]
  simp [intVals]
theorem two_at (a b : Int) {w : World} {B g : Nat} (h0 : w.heap[g]? = some (.cells #[.int .i64 a, .int .i64 b] 3 (0, 0))) (hB : g < B) : Ints w B (some ⟨g, 0, none⟩) 2 [a, b] := by
  refine ⟨rfl, fun _ => ⟨_, rfl, hB, fun j u hu => ?_⟩⟩
  have hb : Blk w g 3 #[.int .i64 a, .int .i64 b] := h0
  have hc := hb.cell j
  have : (⟨g, 0, none⟩ : Addr).add j = ⟨g, j, none⟩ := by
    unfold Addr.add
    by_cases h0 : j = 0
    · subst h0; rfl
    · rw [if_neg h0]; simp
  rw [this, hc, ← hu]
  simp [intVals]
def AllG (L : List Int) : Prop := ∀ k : Nat, -9223372036854775808 ≤ L.getD k 0 ∧ L.getD k 0 ≤ 9223372036854775807
theorem AllG.nil : AllG [] := fun k => by simp
theorem AllG.cons {x : Int} {L : List Int} (h1 : -9223372036854775808 ≤ x) (h2 : x ≤ 9223372036854775807) (h : AllG L) : AllG (x :: L) := fun k => by
  cases k with
  | zero => exact ⟨h1, h2⟩
  | succ k => exact h k
theorem days_lists (y m d : Int) (w : World) (hy : inI y) (hm : inI m) (hd : inI d) : ∃ L1 L2 L3 : List Int,
    Ints (((w.alloc (.cells #[.int .i64 y, .int .i64 (1600 + around y 800), .int .i64 1599, .int .i64 2400] 3)).alloc (.cells #[.int .i64 m, .int .i64 (around m 14)] 3)).alloc (.cells #[.int .i64 d, .int .i64 (around d 33)] 3)) (w.heap.size + 3) (some ⟨w.heap.size, 0, none⟩) 4 L1 ∧
    Ints (((w.alloc (.cells #[.int .i64 y, .int .i64 (1600 + around y 800), .int .i64 1599, .int .i64 2400] 3)).alloc (.cells #[.int .i64 m, .int .i64 (around m 14)] 3)).alloc (.cells #[.int .i64 d, .int .i64 (around d 33)] 3)) (w.heap.size + 3) (some ⟨w.heap.size + 1, 0, none⟩) 2 L2 ∧
    Ints (((w.alloc (.cells #[.int .i64 y, .int .i64 (1600 + around y 800), .int .i64 1599, .int .i64 2400] 3)).alloc (.cells #[.int .i64 m, .int .i64 (around m 14)] 3)).alloc (.cells #[.int .i64 d, .int .i64 (around d 33)] 3)) (w.heap.size + 3) (some ⟨w.heap.size + 2, 0, none⟩) 2 L3 ∧ AllG L1 ∧ AllG L2 ∧ AllG L3 := by
  obtain ⟨y1, y2⟩ := hy; obtain ⟨m1, m2⟩ := hm; obtain ⟨d1, d2⟩ := hd
  have a1 := around_bd y 800 (by omega)
  have a2 := around_bd m 14 (by omega)
  have a3 := around_bd d 33 (by omega)
  refine ⟨_, _, _, four_at y (1600 + around y 800) 1599 2400 (((Blk.new w 3 _).alloc _).alloc _) (by omega), two_at m (around m 14) (g := w.heap.size + 1) ?_ (by omega), two_at d (around d 33) (g := w.heap.size + 2) ?_ (by omega), ?_, ?_, ?_⟩
  · have := (Blk.new (w.alloc (.cells #[.int .i64 y, .int .i64 (1600 + around y 800), .int .i64 1599, .int .i64 2400] 3)) 3 #[.int .i64 m, .int .i64 (around m 14)]).alloc (.cells #[.int .i64 d, .int .i64 (around d 33)] 3)
    simp only [World.size_alloc] at this
    exact this
  · have := Blk.new ((w.alloc (.cells #[.int .i64 y, .int .i64 (1600 + around y 800), .int .i64 1599, .int .i64 2400] 3)).alloc (.cells #[.int .i64 m, .int .i64 (around m 14)] 3)) 3 #[.int .i64 d, .int .i64 (around d 33)]
    simp only [World.size_alloc] at this
    exact this
  · exact .cons y1 y2 (.cons (by omega) (by omega) (.cons (by omega) (by omega) (.cons (by omega) (by omega) .nil)))
  · exact .cons m1 m2 (.cons (by omega) (by omega) .nil)
  · exact .cons d1 d2 (.cons (by omega) (by omega) .nil)
set_option maxRecDepth 10000 in
set_option maxHeartbeats 4000000 in
theorem days_x (n day y m d : Int) (w : World) (ht : TEnv w) (hn : inI n) (hday : inI day) (hy : inI y) (hm : inI m) (hd : inI d) :
    Calls Tryd.prog 3 #[.int .i64 n, .int .i64 day, .int .i64 y, .int .i64 m, .int .i64 d] w fun e w' => e = .returned (.bool true) ∧ Below w.heap.size w w' := by
  obtain ⟨n1, n2⟩ := hn; obtain ⟨m1, m2⟩ := id hm; obtain ⟨y1, y2⟩ := id hy; obtain ⟨d1, d2⟩ := id hd; obtain ⟨q1, q2⟩ := hday
  have hb := Below.refl w.heap.size w
  have ht0 := ht
  have hsz := ht.sz
  obtain ⟨k1, k2⟩ := som_known n
  go_enter Tryd.func3, Tryd.ntmps3
  go_wp2_with (go_at_call 10; refine (some_any _ _ (by omega) (by omega)).mono ?_; rintro e w1 ⟨rfl, hb1⟩; have hb := hb.trans (hb1.mono hb.size); clear hb1)
  have hL : Ints (w1.alloc (.cells #[.int .i64 (som n), .int .i64 day, .int .i64 (-146098), .int .i64 146097] 3)) (w1.heap.size + 1) (some ⟨w1.heap.size, 0, none⟩) 4 [som n, day, -146098, 146097] :=
    four_at _ _ _ _ (Blk.new _ _ _) (by omega)
  have hb := hb.alloc hb.size (.cells #[.int .i64 (som n), .int .i64 day, .int .i64 (-146098), .int .i64 146097] 3)
  have hAll : ∀ k : Nat, -9223372036854775808 ≤ [som n, day, -146098, 146097].getD k 0 ∧ [som n, day, -146098, 146097].getD k 0 ≤ 9223372036854775807 := by
    intro k
    match k with
    | 0 => exact ⟨by simp; omega, by simp; omega⟩
    | 1 => exact ⟨by simp; omega, by simp; omega⟩
    | 2 => exact ⟨show (-9223372036854775808 : Int) ≤ -146098 by decide, show (-146098 : Int) ≤ 9223372036854775807 by decide⟩
    | 3 => exact ⟨show (-9223372036854775808 : Int) ≤ 146097 by decide, show (146097 : Int) ≤ 9223372036854775807 by decide⟩
    | _ + 4 => exact ⟨show (-9223372036854775808 : Int) ≤ 0 by decide, show (0 : Int) ≤ 9223372036854775807 by decide⟩
  have HL := Lib.hid hL
  have HA := Lib.hid hAll
  clear hL hAll
  generalize [som n, day, -146098, 146097] = L at HL HA
  go_loopw [12] (fun i wr => ∃ k : Nat, k ≤ 4 ∧ i = .int .i64 k ∧ Ints wr (w1.heap.size + 1) (some ⟨w1.heap.size, 0, none⟩) 4 L ∧ w1.heap.size < wr.heap.size ∧ Below w.heap.size w wr) (fun i _ => 4 - (intOf i).toNat)
  case atStart => exact ⟨0, by omega, rfl, HL.out, by simp, hb⟩
  case round =>
    obtain ⟨k, hk, rfl, hI, hgs, hb⟩ := hrel
    have ht := ht0.below hb hsz
    by_cases hlt : k < 4
    · have c1 := hI.at0 (k := k) (by omega)
      obtain ⟨x1, x2⟩ := HA.out k
      generalize L.getD k 0 = x at c1 x1 x2
      have HI := Lib.hid hI
      clear hI
      go_wp2_with (first
        | (go_at_call 11; refine (civil_any _ _).mono ?_; rintro e w2 ⟨rfl, hb1⟩; have hb := hb.trans (hb1.mono hb.size); have ht := ht0.below hb hsz; have c2 := (hb1.cell (p := ⟨w1.heap.size, k, none⟩) (by omega)).trans c1; have HI2 := Lib.hid (Reads.below HI.out (hb1.mono (by omega))); have hgs2 := hb1.size; clear hb1)
        | (go_at_call 12; refine (rCivil_any _ _).mono ?_; rintro e w3 ⟨rfl, rfl⟩))
      have hcl := fun d os => cell_regrown c2 d os
      refine wp_region_quiet_below (by kernel_rfl) (by kernel_rfl) ?_
      repeat (quiet_step (first
        | (go_at_call 13; exact Calls.regrown_of (same_below (weekday_any _ _ (by omega) (by omega))))
        | (go_at_call 14; exact Calls.regrown_of (same_below (rWeekday_any _ _ (by omega) (by omega))))
        | (go_at_call 15; exact Calls.regrown_of (text_any _ _ (ht.re _ _)))
        | (go_at_call 16; exact Calls.regrown_of (rText_any _ _))))
      refine wpQuiet_nil ?_
      intro _ hw'
      obtain ⟨⟨dq, osq⟩, rfl⟩ := hw'
      have hb4 := below_regrown w2 dq osq
      clear hcl
      generalize Sort.grow (redrawn w2 dq) osq = w4 at hb4 ⊢
      have hs4 := hb4.size
      go_wp2_with fail
      go_roundw
      case rel => exact ⟨k + 1, by omega, by go_num, Reads.below HI2.out (hb4.mono (by omega)), by omega, hb.trans (hb4.mono hb.size)⟩
      case measure => simp [intOf]; omega
    · clear hI HA HL
      obtain rfl : k = 4 := by omega
      go_wp2_with (go_at_call 17; refine (around_any _ _ _ (by omega) (by omega)).mono ?_; rintro e w3 ⟨rfl, rfl⟩)
      have hA := days_lists y m d wr hy hm hd
      obtain ⟨L1, L2, L3, I1, I2, I3, HA1, HA2, HA3⟩ := hA
      have hbs := hb.size
      have HB5 := Lib.hid (((hb.alloc hb.size (.cells #[.int .i64 y, .int .i64 (1600 + around y 800), .int .i64 1599, .int .i64 2400] 3)).alloc (by simp only [World.size_alloc]; omega) (.cells #[.int .i64 m, .int .i64 (around m 14)] 3)).alloc (by simp only [World.size_alloc]; omega) (.cells #[.int .i64 d, .int .i64 (around d 33)] 3))
      have J1 := Lib.hid I1; have J2 := Lib.hid I2; have J3 := Lib.hid I3
      have K1 := Lib.hid HA1; have K2 := Lib.hid HA2; have K3 := Lib.hid HA3
      clear I1 I2 I3 HA1 HA2 HA3 hb hgs
      obtain ⟨wo, hwo⟩ : ∃ wo : World, wo = wr := ⟨_, rfl⟩
      subst hwo
      go_loopw [22] (fun i wr => ∃ k : Nat, k ≤ 4 ∧ i = .int .i64 k ∧ Ints wr (wo.heap.size + 3) (some ⟨wo.heap.size, 0, none⟩) 4 L1 ∧ Ints wr (wo.heap.size + 3) (some ⟨wo.heap.size + 1, 0, none⟩) 2 L2 ∧ Ints wr (wo.heap.size + 3) (some ⟨wo.heap.size + 2, 0, none⟩) 2 L3 ∧ wo.heap.size + 3 ≤ wr.heap.size ∧ Below w.heap.size w wr) (fun i _ => 4 - (intOf i).toNat)
      case atStart => 
        have a1 := around_bd y 800 (by omega)
        rw [IntWalk.wrap64_in (1600 + around y 800) (by omega)]
        exact ⟨0, by omega, rfl, J1.out, J2.out, J3.out, by simp, HB5.out⟩
      case round =>
        obtain ⟨k, hk, rfl, I1, I2, I3, hgs, hb⟩ := hrel
        by_cases hlt : k < 4
        · have hp : (k : Int) < 4 := by omega
          go_wp2_with fail
          obtain ⟨wq, hwq⟩ : ∃ wq : World, wq = wr := ⟨_, rfl⟩
          subst hwq
          have P1 := Lib.hid I1; have P2 := Lib.hid I2; have P3 := Lib.hid I3; have PB := Lib.hid hb
          clear I1 I2 I3 hb
          go_loopw [23] (fun i wr => ∃ j : Nat, j ≤ 4 ∧ i = .int .i64 j ∧ Ints wr (wo.heap.size + 3) (some ⟨wo.heap.size, 0, none⟩) 4 L1 ∧ Ints wr (wo.heap.size + 3) (some ⟨wo.heap.size + 1, 0, none⟩) 2 L2 ∧ Ints wr (wo.heap.size + 3) (some ⟨wo.heap.size + 2, 0, none⟩) 2 L3 ∧ wo.heap.size + 3 ≤ wr.heap.size ∧ Below w.heap.size w wr) (fun i _ => 4 - (intOf i).toNat)
          case atStart => exact ⟨0, by omega, rfl, P1.out, P2.out, P3.out, hgs, PB.out⟩
          case round =>
            obtain ⟨j, hj, rfl, I1, I2, I3, hgs, hb⟩ := hrel
            by_cases hlt2 : j < 4
            · have hj4 : j = 0 ∨ j = 1 ∨ j = 2 ∨ j = 3 := by omega
              clear hj
              rcases hj4 with rfl | rfl | rfl | rfl
              · have c1 := I1.at0 (k := k) (by omega)
                have c2 := I2.at0 (k := 0) (by omega)
                have c3 := I3.at0 (k := 0) (by omega)
                obtain ⟨x1, x2⟩ := K1.out k
                obtain ⟨x3, x4⟩ := K2.out 0
                obtain ⟨x5, x6⟩ := K3.out 0
                generalize L1.getD k 0 = y' at c1 x1 x2
                generalize L2.getD 0 0 = m' at c2 x3 x4
                generalize L3.getD 0 0 = d' at c3 x5 x6
                have P1 := Lib.hid I1; have P2 := Lib.hid I2; have P3 := Lib.hid I3
                clear I1 I2 I3
                go_wp2_with fail
                have e0 : IntKind.i64.wrap 0 = 0 := rfl
                have e1 : IntKind.i64.wrap 1 = 1 := rfl
                have h1 := fun d os => cell_regrown c1 d os
                have h2 := fun d os => cell_regrown c2 d os
                have h3 := fun d os => cell_regrown c3 d os
                refine wp_region_quiet_below (by kernel_rfl) (by kernel_rfl) ?_
                repeat (quiet_step (first
                  | (go_at_call 18; exact Calls.regrown_of (day_any _ _ _ _ (by omega)))
                  | (go_at_call 19; exact Calls.regrown_of (same_below (rDay_any _ _ _ _)))))
                refine wpQuiet_nil ?_
                intro _ hw'
                obtain ⟨⟨dq, osq⟩, rfl⟩ := hw'
                have hb4 := below_regrown wr dq osq
                clear h1 h2 h3 e0 e1
                have c1 := (hb4.cell (p := ⟨wo.heap.size, k, none⟩) (show wo.heap.size < wr.heap.size by omega)).trans c1
                have c2 := (hb4.cell (p := ⟨wo.heap.size + 1, 0, none⟩) (show wo.heap.size + 1 < wr.heap.size by omega)).trans c2
                have c3 := (hb4.cell (p := ⟨wo.heap.size + 2, 0, none⟩) (show wo.heap.size + 2 < wr.heap.size by omega)).trans c3
                generalize Sort.grow (redrawn wr dq) osq = w4 at hb4 c1 c2 c3 ⊢
                have hs4 := hb4.size
                go_wp2_with fail
                have e0 : IntKind.i64.wrap 0 = 0 := rfl
                have e1 : IntKind.i64.wrap 1 = 1 := rfl
                have h1 := fun d os => cell_regrown c1 d os
                have h2 := fun d os => cell_regrown c2 d os
                have h3 := fun d os => cell_regrown c3 d os
                refine wp_region_quiet_below (by kernel_rfl) (by kernel_rfl) ?_
                repeat (quiet_step (first
                  | (go_at_call 18; exact Calls.regrown_of (day_any _ _ _ _ (by omega)))
                  | (go_at_call 19; exact Calls.regrown_of (same_below (rDay_any _ _ _ _)))))
                refine wpQuiet_nil ?_
                intro _ hw'
                obtain ⟨⟨dq, osq⟩, rfl⟩ := hw'
                have hb4 := hb4.trans ((below_regrown w4 dq osq).mono hs4)
                clear h1 h2 h3 e0 e1 hs4
                generalize Sort.grow (redrawn w4 dq) osq = w5 at hb4 ⊢
                have hs4 := hb4.size
                go_wp2_with fail
                go_roundw
                case measure => simp [intOf]
                case rel => exact ⟨1, by omega, by go_num, Reads.below P1.out (hb4.mono (by omega)), Reads.below P2.out (hb4.mono (by omega)), Reads.below P3.out (hb4.mono (by omega)), by omega, hb.trans (hb4.mono hb.size)⟩
              · have c1 := I1.at0 (k := k) (by omega)
                have c2 := I2.at0 (k := 0) (by omega)
                have c3 := I3.at0 (k := 1) (by omega)
                obtain ⟨x1, x2⟩ := K1.out k
                obtain ⟨x3, x4⟩ := K2.out 0
                obtain ⟨x5, x6⟩ := K3.out 1
                generalize L1.getD k 0 = y' at c1 x1 x2
                generalize L2.getD 0 0 = m' at c2 x3 x4
                generalize L3.getD 1 0 = d' at c3 x5 x6
                have P1 := Lib.hid I1; have P2 := Lib.hid I2; have P3 := Lib.hid I3
                clear I1 I2 I3
                go_wp2_with fail
                have e0 : IntKind.i64.wrap 0 = 0 := rfl
                have e1 : IntKind.i64.wrap 1 = 1 := rfl
                have h1 := fun d os => cell_regrown c1 d os
                have h2 := fun d os => cell_regrown c2 d os
                have h3 := fun d os => cell_regrown c3 d os
                refine wp_region_quiet_below (by kernel_rfl) (by kernel_rfl) ?_
                repeat (quiet_step (first
                  | (go_at_call 18; exact Calls.regrown_of (day_any _ _ _ _ (by omega)))
                  | (go_at_call 19; exact Calls.regrown_of (same_below (rDay_any _ _ _ _)))))
                refine wpQuiet_nil ?_
                intro _ hw'
                obtain ⟨⟨dq, osq⟩, rfl⟩ := hw'
                have hb4 := below_regrown wr dq osq
                clear h1 h2 h3 e0 e1
                have c1 := (hb4.cell (p := ⟨wo.heap.size, k, none⟩) (show wo.heap.size < wr.heap.size by omega)).trans c1
                have c2 := (hb4.cell (p := ⟨wo.heap.size + 1, 0, none⟩) (show wo.heap.size + 1 < wr.heap.size by omega)).trans c2
                have c3 := (hb4.cell (p := ⟨wo.heap.size + 2, 1, none⟩) (show wo.heap.size + 2 < wr.heap.size by omega)).trans c3
                generalize Sort.grow (redrawn wr dq) osq = w4 at hb4 c1 c2 c3 ⊢
                have hs4 := hb4.size
                go_wp2_with fail
                have e0 : IntKind.i64.wrap 0 = 0 := rfl
                have e1 : IntKind.i64.wrap 1 = 1 := rfl
                have h1 := fun d os => cell_regrown c1 d os
                have h2 := fun d os => cell_regrown c2 d os
                have h3 := fun d os => cell_regrown c3 d os
                refine wp_region_quiet_below (by kernel_rfl) (by kernel_rfl) ?_
                repeat (quiet_step (first
                  | (go_at_call 18; exact Calls.regrown_of (day_any _ _ _ _ (by omega)))
                  | (go_at_call 19; exact Calls.regrown_of (same_below (rDay_any _ _ _ _)))))
                refine wpQuiet_nil ?_
                intro _ hw'
                obtain ⟨⟨dq, osq⟩, rfl⟩ := hw'
                have hb4 := hb4.trans ((below_regrown w4 dq osq).mono hs4)
                clear h1 h2 h3 e0 e1 hs4
                generalize Sort.grow (redrawn w4 dq) osq = w5 at hb4 ⊢
                have hs4 := hb4.size
                go_wp2_with fail
                go_roundw
                case measure => simp [intOf]
                case rel => exact ⟨2, by omega, by go_num, Reads.below P1.out (hb4.mono (by omega)), Reads.below P2.out (hb4.mono (by omega)), Reads.below P3.out (hb4.mono (by omega)), by omega, hb.trans (hb4.mono hb.size)⟩
              · have c1 := I1.at0 (k := k) (by omega)
                have c2 := I2.at0 (k := 1) (by omega)
                have c3 := I3.at0 (k := 0) (by omega)
                obtain ⟨x1, x2⟩ := K1.out k
                obtain ⟨x3, x4⟩ := K2.out 1
                obtain ⟨x5, x6⟩ := K3.out 0
                generalize L1.getD k 0 = y' at c1 x1 x2
                generalize L2.getD 1 0 = m' at c2 x3 x4
                generalize L3.getD 0 0 = d' at c3 x5 x6
                have P1 := Lib.hid I1; have P2 := Lib.hid I2; have P3 := Lib.hid I3
                clear I1 I2 I3
                go_wp2_with fail
                have e0 : IntKind.i64.wrap 0 = 0 := rfl
                have e1 : IntKind.i64.wrap 1 = 1 := rfl
                have h1 := fun d os => cell_regrown c1 d os
                have h2 := fun d os => cell_regrown c2 d os
                have h3 := fun d os => cell_regrown c3 d os
                refine wp_region_quiet_below (by kernel_rfl) (by kernel_rfl) ?_
                repeat (quiet_step (first
                  | (go_at_call 18; exact Calls.regrown_of (day_any _ _ _ _ (by omega)))
                  | (go_at_call 19; exact Calls.regrown_of (same_below (rDay_any _ _ _ _)))))
                refine wpQuiet_nil ?_
                intro _ hw'
                obtain ⟨⟨dq, osq⟩, rfl⟩ := hw'
                have hb4 := below_regrown wr dq osq
                clear h1 h2 h3 e0 e1
                have c1 := (hb4.cell (p := ⟨wo.heap.size, k, none⟩) (show wo.heap.size < wr.heap.size by omega)).trans c1
                have c2 := (hb4.cell (p := ⟨wo.heap.size + 1, 1, none⟩) (show wo.heap.size + 1 < wr.heap.size by omega)).trans c2
                have c3 := (hb4.cell (p := ⟨wo.heap.size + 2, 0, none⟩) (show wo.heap.size + 2 < wr.heap.size by omega)).trans c3
                generalize Sort.grow (redrawn wr dq) osq = w4 at hb4 c1 c2 c3 ⊢
                have hs4 := hb4.size
                go_wp2_with fail
                have e0 : IntKind.i64.wrap 0 = 0 := rfl
                have e1 : IntKind.i64.wrap 1 = 1 := rfl
                have h1 := fun d os => cell_regrown c1 d os
                have h2 := fun d os => cell_regrown c2 d os
                have h3 := fun d os => cell_regrown c3 d os
                refine wp_region_quiet_below (by kernel_rfl) (by kernel_rfl) ?_
                repeat (quiet_step (first
                  | (go_at_call 18; exact Calls.regrown_of (day_any _ _ _ _ (by omega)))
                  | (go_at_call 19; exact Calls.regrown_of (same_below (rDay_any _ _ _ _)))))
                refine wpQuiet_nil ?_
                intro _ hw'
                obtain ⟨⟨dq, osq⟩, rfl⟩ := hw'
                have hb4 := hb4.trans ((below_regrown w4 dq osq).mono hs4)
                clear h1 h2 h3 e0 e1 hs4
                generalize Sort.grow (redrawn w4 dq) osq = w5 at hb4 ⊢
                have hs4 := hb4.size
                go_wp2_with fail
                go_roundw
                case measure => simp [intOf]
                case rel => exact ⟨3, by omega, by go_num, Reads.below P1.out (hb4.mono (by omega)), Reads.below P2.out (hb4.mono (by omega)), Reads.below P3.out (hb4.mono (by omega)), by omega, hb.trans (hb4.mono hb.size)⟩
              · have c1 := I1.at0 (k := k) (by omega)
                have c2 := I2.at0 (k := 1) (by omega)
                have c3 := I3.at0 (k := 1) (by omega)
                obtain ⟨x1, x2⟩ := K1.out k
                obtain ⟨x3, x4⟩ := K2.out 1
                obtain ⟨x5, x6⟩ := K3.out 1
                generalize L1.getD k 0 = y' at c1 x1 x2
                generalize L2.getD 1 0 = m' at c2 x3 x4
                generalize L3.getD 1 0 = d' at c3 x5 x6
                have P1 := Lib.hid I1; have P2 := Lib.hid I2; have P3 := Lib.hid I3
                clear I1 I2 I3
                go_wp2_with fail
                have e0 : IntKind.i64.wrap 0 = 0 := rfl
                have e1 : IntKind.i64.wrap 1 = 1 := rfl
                have h1 := fun d os => cell_regrown c1 d os
                have h2 := fun d os => cell_regrown c2 d os
                have h3 := fun d os => cell_regrown c3 d os
                refine wp_region_quiet_below (by kernel_rfl) (by kernel_rfl) ?_
                repeat (quiet_step (first
                  | (go_at_call 18; exact Calls.regrown_of (day_any _ _ _ _ (by omega)))
                  | (go_at_call 19; exact Calls.regrown_of (same_below (rDay_any _ _ _ _)))))
                refine wpQuiet_nil ?_
                intro _ hw'
                obtain ⟨⟨dq, osq⟩, rfl⟩ := hw'
                have hb4 := below_regrown wr dq osq
                clear h1 h2 h3 e0 e1
                have c1 := (hb4.cell (p := ⟨wo.heap.size, k, none⟩) (show wo.heap.size < wr.heap.size by omega)).trans c1
                have c2 := (hb4.cell (p := ⟨wo.heap.size + 1, 1, none⟩) (show wo.heap.size + 1 < wr.heap.size by omega)).trans c2
                have c3 := (hb4.cell (p := ⟨wo.heap.size + 2, 1, none⟩) (show wo.heap.size + 2 < wr.heap.size by omega)).trans c3
                generalize Sort.grow (redrawn wr dq) osq = w4 at hb4 c1 c2 c3 ⊢
                have hs4 := hb4.size
                go_wp2_with fail
                have e0 : IntKind.i64.wrap 0 = 0 := rfl
                have e1 : IntKind.i64.wrap 1 = 1 := rfl
                have h1 := fun d os => cell_regrown c1 d os
                have h2 := fun d os => cell_regrown c2 d os
                have h3 := fun d os => cell_regrown c3 d os
                refine wp_region_quiet_below (by kernel_rfl) (by kernel_rfl) ?_
                repeat (quiet_step (first
                  | (go_at_call 18; exact Calls.regrown_of (day_any _ _ _ _ (by omega)))
                  | (go_at_call 19; exact Calls.regrown_of (same_below (rDay_any _ _ _ _)))))
                refine wpQuiet_nil ?_
                intro _ hw'
                obtain ⟨⟨dq, osq⟩, rfl⟩ := hw'
                have hb4 := hb4.trans ((below_regrown w4 dq osq).mono hs4)
                clear h1 h2 h3 e0 e1 hs4
                generalize Sort.grow (redrawn w4 dq) osq = w5 at hb4 ⊢
                have hs4 := hb4.size
                go_wp2_with fail
                go_roundw
                case measure => simp [intOf]
                case rel => exact ⟨4, by omega, by go_num, Reads.below P1.out (hb4.mono (by omega)), Reads.below P2.out (hb4.mono (by omega)), Reads.below P3.out (hb4.mono (by omega)), by omega, hb.trans (hb4.mono hb.size)⟩
            · obtain rfl : j = 4 := by omega
              go_wp2_with fail
              go_roundw
              case rel => exact ⟨k + 1, by omega, by go_num, I1, I2, I3, hgs, hb⟩
              case measure => simp [intOf]; omega
        · clear I1 I2 I3
          go_wp2_with (go_at_call 20; refine (lives_any _ (ht0.below hb hsz)).mono ?_; rintro e w6 ⟨rfl, hb6⟩)
          go_ret
          exact ⟨rfl, hb.trans (hb6.mono hb.size)⟩
end Go.Proofs.YtlfgjpidamkpdaaDoor
