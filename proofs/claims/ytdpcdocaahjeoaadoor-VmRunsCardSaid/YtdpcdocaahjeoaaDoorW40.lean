/- Where a field leads up: Has, Up of typing's reference. -/
import Derived.Test.YtdpcdocaahjeoaaDoorM10
namespace Go.Proofs.YtdpcdocaahjeoaaDoor
open Go Go.RowKit
namespace Sc
/-- The field that leads up for a field. -/
def upF (fs : List Fld) (f : Nat) (fd : Fld) : Option Fld := if kd fd = 7 ∨ kd fd = 8 then (if 0 ≤ ix (named (up fd)) fs ∧ ix (named (up fd)) fs < f then fs[(ix (named (up fd)) fs).toNat]? else none) else some fd
def upK (ks : List Knd) (k : Nat) : Option Fld → Int
  | none => -1
  | some g => if kd g = 1 then (if ix (kindNamed (of_ g)) ks < k then ix (kindNamed (of_ g)) ks else -1) else -1
def upOf (ks : List Knd) (k f : Nat) : Int := match ks[k]? with
  | none => -1
  | some kn => match (flds kn)[f]? with
    | none => -1
    | some fd => upK ks k (upF (flds kn) f fd)
theorem upK_bd (ks : List Knd) (k : Nat) (g : Option Fld) : -1 ≤ upK ks k g ∧ (upK ks k g < k) := by
  unfold upK
  split
  · omega
  · split
    · split
      · have := (ix_bd (kindNamed (of_ ‹Fld›)) ks).1; omega
      · omega
    · omega
theorem upOf_bd (ks : List Knd) (k f : Nat) : -1 ≤ upOf ks k f ∧ upOf ks k f < k := by
  unfold upOf
  split
  · omega
  · split
    · omega
    · exact upK_bd _ _ _
end Sc
set_option maxRecDepth 100000 in
set_option maxHeartbeats 4000000 in
theorem has10_any {G : List Nat} (l : List Knd) (A : Option Addr) (c : Nat) (ver : Int) (B C : Option Addr) (n2 c2 n3 c3 : Nat) (k f : Nat) (w : World) (hs : SlAt G w A l) (hk : k < l.length) (hf : f < (Sc.flds l[k]).length) :
    Calls Tryd.prog 67 #[.agg #[.int .i64 ver, .slice A l.length c, .slice B n2 c2, .slice C n3 c3], .int .i64 k, .int .i64 f] w fun e w' => e = .returned (.bool true) ∧ Below w.heap.size w w' := by
  obtain ⟨n, hn⟩ : ∃ n, l.length = n := ⟨_, rfl⟩
  obtain ⟨m, hmm⟩ : ∃ m, (Sc.flds l[k]).length = m := ⟨_, rfl⟩
  have T0 := Lib.hid ((held0 w [] (fun _ h => by cases h)).new #[.int .i64 ver, .slice A n c, .slice B n2 c2, .slice C n3 c3] 27 rfl)
  obtain ⟨y0, y1, y2, y3⟩ := cells4 (T0.out.box (.head _))
  obtain ⟨b1, o1, B1, d1, rfl, _, _, _, _, q3, _⟩ := knd_at (hs.keep (Chg.alloc w (.cells #[.int .i64 ver, .slice A n c, .slice B n2 c2, .slice C n3 c3] 27))) k hk
  rw [hmm] at q3 hf
  rw [hn] at hk ⊢
  have k1 : (k : Int) < (n : Int) := by omega
  have k2 : (0 : Int) ≤ (k : Int) := by omega
  have k3 : (f : Int) < (m : Int) := by omega
  have k4 : (0 : Int) ≤ (f : Int) := by omega
  clear hs hn hmm
  go_enter Tryd.func67, Tryd.ntmps67
  go_wp2_with fail
  go_ret
  exact ⟨rfl, T0.out.bl⟩
theorem fld_box {G : List Nat} {w : World} {g : Fld} {us : List Value} (h : Mem.rep G w g us) : ∃ A n a B m b, us = [.string (Sc.nm g), .string (Sc.of_ g), .string (Sc.up g), .int .i64 (Sc.kd g), .int .i64 (Sc.lo g), .int .i64 (Sc.hi g), .slice A n a, .slice B m b] := by
  obtain ⟨A, c, B, d, rfl, _⟩ := rep_fld h
  exact ⟨_, _, _, _, _, _, rfl⟩
theorem Held.set0 {w W : World} {G M : List Nat} {L : List (List Nat → World → Prop)} {N : Nat} {t : TypeId} {cs : Array Value} {bx2 : List Box} (h : Held w G M ((N, t, cs) :: bx2) L W) (i : Nat) (u : Value) : Held w G M ((N, t, cs.setIfInBounds i u) :: bx2) L (W.setCell ⟨N, i, none⟩ u) := Held.set_ (bx1 := []) h i u
def fldC (g : Fld) (A : Option Addr) (n a : Nat) (B : Option Addr) (m b : Nat) : Array Value := #[.string (Sc.nm g), .string (Sc.of_ g), .string (Sc.up g), .int .i64 (Sc.kd g), .int .i64 (Sc.lo g), .int .i64 (Sc.hi g), .slice A n a, .slice B m b]
theorem Held.setFld {w W : World} {G M : List Nat} {L : List (List Nat → World → Prop)} {N : Nat} {t : TypeId} {y0 y1 y2 y3 y4 y5 y6 y7 : Value} {bx2 : List Box} (h : Held w G M ((N, t, #[y0, y1, y2, y3, y4, y5, y6, y7]) :: bx2) L W) (g : Fld) (A : Option Addr) (n a : Nat) (B : Option Addr) (m b : Nat) : Held w G M ((N, t, fldC g A n a B m b) :: bx2) L
    ((((((((W.setCell ⟨N, 0, none⟩ (.string (Sc.nm g))).setCell ⟨N, 1, none⟩ (.string (Sc.of_ g))).setCell ⟨N, 2, none⟩ (.string (Sc.up g))).setCell ⟨N, 3, none⟩ (.int .i64 (Sc.kd g))).setCell ⟨N, 4, none⟩ (.int .i64 (Sc.lo g))).setCell ⟨N, 5, none⟩ (.int .i64 (Sc.hi g))).setCell ⟨N, 6, none⟩ (.slice A n a)).setCell ⟨N, 7, none⟩ (.slice B m b)) := by
  have h1 := ((((((((h.set0 0 (.string (Sc.nm g))).set0 1 (.string (Sc.of_ g))).set0 2 (.string (Sc.up g))).set0 3 (.int .i64 (Sc.kd g))).set0 4 (.int .i64 (Sc.lo g))).set0 5 (.int .i64 (Sc.hi g))).set0 6 (.slice A n a)).set0 7 (.slice B m b))
  simpa [fldC] using h1
set_option maxRecDepth 100000 in
set_option maxHeartbeats 4000000 in
theorem up_any (l : List Knd) (A : Option Addr) (c : Nat) (ver : Int) (B C : Option Addr) (n2 c2 n3 c3 : Nat) (k f : Nat) (w : World) (hs : SlAt [] w A l) (hm : l.length ≤ 9223372036854775807) (hk : k < l.length) (hf : f < (Sc.flds l[k]).length) :
    Calls Tryd.prog 36 #[.agg #[.int .i64 ver, .slice A l.length c, .slice B n2 c2, .slice C n3 c3], .int .i64 k, .int .i64 f] w fun e w' => e = .returned (.int .i64 (Sc.upOf l k f)) ∧ Below w.heap.size w w' := by
  have CH := Lib.hid (fun W (hb : SlAt [] W A l) => has10_any (G := []) l A c ver B C n2 c2 n3 c3 k f W hb hk hf)
  have CK := Lib.hid (fun s W (hb : SlAt [] W A l) => kind_any (G := []) l A c ver B C n2 c2 n3 c3 s W hb hm)
  obtain ⟨kn, hkn⟩ : ∃ x, l[k] = x := ⟨_, rfl⟩
  rw [hkn] at hf
  obtain ⟨fd, hfd⟩ : ∃ fd, (Sc.flds kn)[f] = fd := ⟨_, rfl⟩
  have hu : Sc.upOf l k f = Sc.upK l k (Sc.upF (Sc.flds kn) f fd) := by
    unfold Sc.upOf
    rw [List.getElem?_eq_getElem hk, hkn]
    dsimp only
    rw [List.getElem?_eq_getElem hf, hfd]
  have HU := Lib.hid hu
  clear hu
  obtain ⟨n, hn⟩ : ∃ n, l.length = n := ⟨_, rfl⟩
  obtain ⟨m, hmm⟩ : ∃ m, (Sc.flds kn).length = m := ⟨_, rfl⟩
  obtain ⟨r, hr⟩ : ∃ r, Sc.upOf l k f = r := ⟨_, rfl⟩
  have T0 := Lib.hid (((held0 w [] (fun _ h => by cases h)).add (keeps_sl A l) hs).new #[.int .i64 ver, .slice A n c, .slice B n2 c2, .slice C n3 c3] 27 rfl)
  rw [hn] at CH CK
  rw [hr] at HU
  have k1 : (k : Int) < (n : Int) := by rw [← hn]; omega
  have k2 : (0 : Int) ≤ (k : Int) := by omega
  have k3 : (f : Int) < (m : Int) := by rw [← hmm]; omega
  have k4 : (0 : Int) ≤ (f : Int) := by omega
  rw [hn, hr]
  have HKN := Lib.hid (show ∃ h : k < l.length, l[k] = kn from ⟨hk, hkn⟩)
  have HFD := Lib.hid (show ∃ h : f < (Sc.flds kn).length, (Sc.flds kn)[f] = fd from ⟨hf, hfd⟩)
  have HM := Lib.hid hmm
  clear hs hn hmm hm hfd hr hkn hk hf
  go_enter Tryd.func36, Tryd.ntmps36
  obtain ⟨y0, y1, y2, y3⟩ := cells4 (T0.out.box (.head _))
  go_upto_region 3 with (go_at_call 67; refine (CH.out _ ((T0.out.fact (.head _)).sub (G' := []) (fun g hg => by cases hg))).mono ?_; rintro e w1 ⟨rfl, hb⟩; replace T0 := Lib.hid (T0.out.below hb); clear hb y0 y1 y2 y3)
  obtain ⟨y0, y1, y2, y3⟩ := cells4 (T0.out.box (.head _))
  obtain ⟨hk, hkn⟩ := HKN.out
  obtain ⟨b1, o1, B1, d1, rfl, hg1, _, _, _, q3, hs1, hfl1, hfl2, _⟩ := knd_at (T0.out.fact (.head _)) k hk
  rw [hkn] at q3 hs1 hfl1
  obtain ⟨hf, hfd⟩ := HFD.out
  obtain ⟨b2, o2, us, rfl, hg2, hrep, hc2⟩ := hs1.get f hf
  rw [hfd] at hrep
  clear hf hfd
  obtain ⟨a2, a3, a4, e2, e3, e4, rfl⟩ := fld_box hrep
  have z0 := hc2 0 _ rfl; have z1 := hc2 1 _ rfl; have z2 := hc2 2 _ rfl; have z3 := hc2 3 _ rfl; have z4 := hc2 4 _ rfl; have z5 := hc2 5 _ rfl; have z6 := hc2 6 _ rfl; have z7 := hc2 7 _ rfl
  rw [HM.out] at q3
  have hn0 := Blk.new w1 96 #[.string ⟨#[]⟩, .string ⟨#[]⟩, .string ⟨#[]⟩, .int .i64 0, .int .i64 0, .int .i64 0, .slice none 0 0, .slice none 0 0]
  have f0 := hn0.frozen 0; have f1 := hn0.frozen 1; have f2 := hn0.frozen 2; have f3 := hn0.frozen 3; have f4 := hn0.frozen 4; have f5 := hn0.frozen 5; have f6 := hn0.frozen 6; have f7 := hn0.frozen 7
  have x0 := hn0.cell 0; have x1 := hn0.cell 1; have x2 := hn0.cell 2; have x3 := hn0.cell 3; have x4 := hn0.cell 4; have x5 := hn0.cell 5; have x6 := hn0.cell 6; have x7 := hn0.cell 7
  simp at x0 x1 x2 x3 x4 x5 x6 x7
  have T1 := Lib.hid (((T0.out.add (keeps_sl _ _) hs1).new #[.string (Sc.nm fd), .string (Sc.of_ fd), .string (Sc.up fd), .int .i64 (Sc.kd fd), .int .i64 (Sc.lo fd), .int .i64 (Sc.hi fd), .slice a2 a3 a4, .slice e2 e3 e4] 96 rfl))
  clear hc2 hs1 hrep hn0
  simp only [Nat.add_zero, show Mem.sz Fld = 8 from rfl, ← Nat.add_assoc] at z0 z1 z2 z3 z4 z5 z6 z7
  go_upto_region 4 with fail
  clear f0 f1 f2 f3 f4 f5 f6 f7 x0 x1 x2 x3 x4 x5 x6 x7 z0 z1 z2 z3 z4 z5 z6 z7 y0 y1 y2 y3 q3 T0
  generalize hW2 : w1.alloc _ = W2 at T1 ⊢
  generalize w1.heap.size = fb at T1 ⊢
  generalize w.heap.size = xb at T1 ⊢
  clear hW2
  obtain ⟨y, hy⟩ : ∃ y, Sc.kd fd = y := ⟨_, rfl⟩
  by_cases hy7 : y = 7
  · subst hy7
    have hif : Sc.upF (Sc.flds kn) f fd = (if 0 ≤ Sc.ix (Sc.named (Sc.up fd)) (Sc.flds kn) ∧ Sc.ix (Sc.named (Sc.up fd)) (Sc.flds kn) < f then (Sc.flds kn)[(Sc.ix (Sc.named (Sc.up fd)) (Sc.flds kn)).toNat]? else none) := by unfold Sc.upF; rw [hy, if_pos (by omega)]
    rw [hif] at HU
    have q := T1.out.box (.head _); have x0 := q.cell 0; have x1 := q.cell 1; have x2 := q.cell 2; have x3 := q.cell 3; have x4 := q.cell 4; have x5 := q.cell 5; have x6 := q.cell 6; have x7 := q.cell 7; (simp at x0 x1 x2 x3 x4 x5 x6 x7); clear q
    rw [hy] at x3
    obtain ⟨y0, y1, y2, y3⟩ := cells4 (T1.out.box (.tail _ (.head _)))
    obtain ⟨b9, o9, B9, d9, hbo, _, c0, c1, c2, c3, hs9, hfl9, hfl8, _⟩ := knd_at (T1.out.fact (.tail _ (.head _))) k hk
    obtain ⟨rfl, rfl⟩ := addr_inj hbo
    rw [hkn] at c0 c1 c2 c3 hs9 hfl9
    have CF := Lib.hid (fun W (hb : Below W2.heap.size W2 W) => field_any (G := []) (Sc.flds kn) B9 d9 kn.1 kn.2.1 kn.2.2.1 (Sc.up fd) W ((hs9.keep (Chg.of_below hb)).sub (G' := []) (fun g hg => nomatch hg)) (Nat.le_trans hfl9 hfl8))
    obtain ⟨u, hu⟩ : ∃ u, Sc.ix (Sc.named (Sc.up fd)) (Sc.flds kn) = u := ⟨_, rfl⟩
    rw [hu] at CF HU
    have HS9 := Lib.hid hs9
    rw [HM.out] at CF c3
    clear hu hif hs9 hfl9 hfl8 hy hbo
    generalize kn.1 = ka at *
    generalize kn.2.1 = kb at *
    generalize kn.2.2.1 = kc at *
    go_upto_region 5 with fail
    apply wp_region_typed (C := fun w' => Below W2.heap.size W2 w') (n := 67) (m := 8) (l1 := [_, _, _, _, _, _, _, _]) (l2 := [_])
    · rfl
    · rfl
    · kernel_rfl
    · rfl
    · kernel_rfl
    · exact ⟨rfl, rfl, rfl, Nat.le_refl _, fun _ _ => rfl⟩
    · exact fun u u' h hb => (by first | exact h.below hb | exact h.trans (hb.mono h.size))
    iterate 7 ((apply wpT_exact; · (intro w' hC hf; unfold Gives; have q1 := (hC.cell (World.block_lt_of_cell? _ _ y1)).trans y1; have q2 := (hC.cell (World.block_lt_of_cell? _ _ x2)).trans x2; have q3 := (hC.cell (World.block_lt_of_cell? _ _ c0)).trans c0; have q4 := (hC.cell (World.block_lt_of_cell? _ _ c1)).trans c1; have q5 := (hC.cell (World.block_lt_of_cell? _ _ c2)).trans c2; have q6 := (hC.cell (World.block_lt_of_cell? _ _ c3)).trans c3; clear hf hC; go_wp2_with (fail); apply postT_val rfl (Below.refl _ _); simp only [valAt, Array.getD_eq_getD_getElem?, List.getElem?_toArray, List.getElem?_cons_succ, List.getElem?_cons_zero, Option.getD_some]; exact rfl)); (try simp only [Act.put, List.setIfInBounds_toArray, List.set_cons_zero, List.set_cons_succ]))
    apply wpT_exact (c := .int .i64 u)
    · intro w' hC hf; unfold Gives; clear hf
      go_wp2_with (go_at_call 68; ((with_reducible refine (CF.out w' hC).mono ?_)); rintro e w3 ⟨rfl, hb⟩)
      apply postT_val rfl hb; simp only [valAt, Array.getD_eq_getD_getElem?, List.getElem?_toArray, List.getElem?_cons_succ, List.getElem?_cons_zero, Option.getD_some]
    (try simp only [Act.put, List.setIfInBounds_toArray, List.set_cons_zero, List.set_cons_succ])
    apply wpT_done
    intro w4 hC hall
    have T2 := Lib.hid (T1.out.below hC)
    have HB4 := Lib.hid T2.out.bl
    clear hall x0 x1 x2 x3 x4 x5 x6 x7
    go_upto_region 6 with fail
    by_cases hu0 : u < 0
    · rw [if_neg (by omega)] at HU
      have hr := Lib.hid (show r = -1 from HU.out)
      have t1 : decide (u < 0) = true := decide_eq_true hu0
      clear hu0 T1 T2 HU
      go_wp2_with fail
      go_ret
      exact ⟨ret_int hr.out.symm, HB4.out⟩
    · have t1 : decide (u < 0) = false := decide_eq_false hu0
      by_cases hu1 : u < f
      · rw [if_pos (by omega)] at HU
        obtain ⟨un, rfl⟩ : ∃ z : Nat, u = z := ⟨u.toNat, by omega⟩
        have hul : un < (Sc.flds kn).length := by rw [HM.out]; omega
        rw [Int.toNat_natCast, List.getElem?_eq_getElem hul] at HU
        obtain ⟨b8, o8, us8, rfl, _, hrep8, hc8⟩ := (HS9.out.keep (Chg.of_below hC)).get un hul
        obtain ⟨fg, hfg⟩ : ∃ g, (Sc.flds kn)[un] = g := ⟨_, rfl⟩
        rw [hfg] at HU hrep8
        obtain ⟨p2, p3, p4, r2, r3, r4, rfl⟩ := fld_box hrep8
        have z0 := hc8 0 _ rfl; have z1 := hc8 1 _ rfl; have z2 := hc8 2 _ rfl; have z3 := hc8 3 _ rfl; have z4 := hc8 4 _ rfl; have z5 := hc8 5 _ rfl; have z6 := hc8 6 _ rfl; have z7 := hc8 7 _ rfl
        simp only [Nat.add_zero, show Mem.sz Fld = 8 from rfl, ← Nat.add_assoc] at z0 z1 z2 z3 z4 z5 z6 z7
        have t2 : decide ((f : Int) ≤ (un : Int)) = false := decide_eq_false (Int.not_le.2 hu1)
        have k5 : (un : Int) < (m : Int) := by omega
        have k6 : (0 : Int) ≤ (un : Int) := by omega
        have v1 := (hC.cell (World.block_lt_of_cell? _ _ y1)).trans y1
        have v3 := (hC.cell (World.block_lt_of_cell? _ _ c3)).trans c3
        have q := T2.out.box (.head _)
        have f0 := q.frozen 0; have f1 := q.frozen 1; have f2 := q.frozen 2; have f3 := q.frozen 3; have f4 := q.frozen 4; have f5 := q.frozen 5; have f6 := q.frozen 6; have f7 := q.frozen 7
        have x0 := q.cell 0; have x1 := q.cell 1; have x2 := q.cell 2; have x3 := q.cell 3; have x4 := q.cell 4; have x5 := q.cell 5; have x6 := q.cell 6; have x7 := q.cell 7
        simp at x0 x1 x2 x3 x4 x5 x6 x7
        have T3 := Lib.hid (T2.out.setFld fg p2 p3 p4 r2 r3 r4)
        clear q hc8 hrep8 hfg hu0 y0 y1 y2 y3 c0 c1 c2 c3 hC
        go_upto_region 9 with fail
        clear z0 z1 z2 z3 z4 z5 z6 z7 f0 f1 f2 f3 f4 f5 f6 f7 x0 x1 x2 x3 x4 x5 x6 x7 v1 v3 T2 t1 t2
        generalize hW5 : World.setCell _ _ _ = W5 at T3 ⊢
        clear hW5
        have q := T3.out.box (.head _); have x0 := q.cell 0; have x1 := q.cell 1; have x2 := q.cell 2; have x3 := q.cell 3; (simp [fldC] at x0 x1 x2 x3); clear q
        obtain ⟨y0, y1, y2, y3⟩ := cells4 (T3.out.box (.tail _ (.head _)))
        obtain ⟨g, hg⟩ : ∃ g, Sc.kd fg = g := ⟨_, rfl⟩
        rw [hg] at x3
        by_cases hg1 : g = 1
        · subst hg1
          have hu : r = (if Sc.ix (Sc.kindNamed (Sc.of_ fg)) l < k then Sc.ix (Sc.kindNamed (Sc.of_ fg)) l else -1) := by rw [HU.out]; unfold Sc.upK; simp only [hg, if_true]
          obtain ⟨z, hz⟩ : ∃ z, Sc.ix (Sc.kindNamed (Sc.of_ fg)) l = z := ⟨_, rfl⟩
          have CZ := Lib.hid (CK.out (Sc.of_ fg))
          rw [hz] at hu CZ
          clear hz hg
          have HSL := Lib.hid ((T3.out.fact (.tail _ (.head _))).sub (G' := []) (fun g hg => by cases hg))
          have HB := Lib.hid T3.out.bl
          clear T1 T3
          by_cases hlt : z < (k : Int)
          · rw [if_pos hlt] at hu
            have HUU := Lib.hid hu; clear hu
            have t3 : decide (z ≥ (k : Int)) = false := decide_eq_false (by omega)
            have t4 : decide ((k : Int) ≤ z) = false := decide_eq_false (by omega)
            go_wp2_with (go_at_call 69; ((with_reducible refine (CZ.out _ HSL.out).mono ?_)); rintro e w4 ⟨rfl, hb⟩; replace HB := Lib.hid (HB.out.trans (hb.mono HB.out.size)); clear hb)
            go_ret
            exact ⟨ret_int HUU.out.symm, HB.out⟩
          · rw [if_neg hlt] at hu
            have HUU := Lib.hid hu; clear hu
            have t4 : decide ((k : Int) ≤ z) = true := decide_eq_true (Int.not_lt.1 hlt)
            go_wp2_with (go_at_call 69; ((with_reducible refine (CZ.out _ HSL.out).mono ?_)); rintro e w4 ⟨rfl, hb⟩; replace HB := Lib.hid (HB.out.trans (hb.mono HB.out.size)); clear hb)
            go_ret
            exact ⟨ret_int HUU.out.symm, HB.out⟩
        · have hu := Lib.hid (show r = -1 by rw [HU.out]; unfold Sc.upK; simp only [hg, hg1, if_false])
          have HB := Lib.hid T3.out.bl
          have t3 : (g != 1) = true := bne_iff_ne.2 hg1
          clear hg hg1 T1 T3
          go_wp2_with fail
          go_ret
          exact ⟨ret_int hu.out.symm, HB.out⟩
      · rw [if_neg (by omega)] at HU
        have hr := Lib.hid (show r = -1 from HU.out)
        have t2 : decide ((f : Int) ≤ u) = true := decide_eq_true (Int.not_lt.1 hu1)
        clear hu0 hu1 T1 T2 HU
        go_wp2_with fail
        go_ret
        exact ⟨ret_int hr.out.symm, HB4.out⟩
  by_cases hy8 : y = 8
  · subst hy8
    have hif : Sc.upF (Sc.flds kn) f fd = (if 0 ≤ Sc.ix (Sc.named (Sc.up fd)) (Sc.flds kn) ∧ Sc.ix (Sc.named (Sc.up fd)) (Sc.flds kn) < f then (Sc.flds kn)[(Sc.ix (Sc.named (Sc.up fd)) (Sc.flds kn)).toNat]? else none) := by unfold Sc.upF; rw [hy, if_pos (by omega)]
    rw [hif] at HU
    have q := T1.out.box (.head _); have x0 := q.cell 0; have x1 := q.cell 1; have x2 := q.cell 2; have x3 := q.cell 3; have x4 := q.cell 4; have x5 := q.cell 5; have x6 := q.cell 6; have x7 := q.cell 7; (simp at x0 x1 x2 x3 x4 x5 x6 x7); clear q
    rw [hy] at x3
    obtain ⟨y0, y1, y2, y3⟩ := cells4 (T1.out.box (.tail _ (.head _)))
    obtain ⟨b9, o9, B9, d9, hbo, _, c0, c1, c2, c3, hs9, hfl9, hfl8, _⟩ := knd_at (T1.out.fact (.tail _ (.head _))) k hk
    obtain ⟨rfl, rfl⟩ := addr_inj hbo
    rw [hkn] at c0 c1 c2 c3 hs9 hfl9
    have CF := Lib.hid (fun W (hb : Below W2.heap.size W2 W) => field_any (G := []) (Sc.flds kn) B9 d9 kn.1 kn.2.1 kn.2.2.1 (Sc.up fd) W ((hs9.keep (Chg.of_below hb)).sub (G' := []) (fun g hg => nomatch hg)) (Nat.le_trans hfl9 hfl8))
    obtain ⟨u, hu⟩ : ∃ u, Sc.ix (Sc.named (Sc.up fd)) (Sc.flds kn) = u := ⟨_, rfl⟩
    rw [hu] at CF HU
    have HS9 := Lib.hid hs9
    rw [HM.out] at CF c3
    clear hu hif hs9 hfl9 hfl8 hy hbo
    generalize kn.1 = ka at *
    generalize kn.2.1 = kb at *
    generalize kn.2.2.1 = kc at *
    go_upto_region 5 with fail
    apply wp_region_typed (C := fun w' => Below W2.heap.size W2 w') (n := 67) (m := 8) (l1 := [_, _, _, _, _, _, _, _]) (l2 := [_])
    · rfl
    · rfl
    · kernel_rfl
    · rfl
    · kernel_rfl
    · exact ⟨rfl, rfl, rfl, Nat.le_refl _, fun _ _ => rfl⟩
    · exact fun u u' h hb => (by first | exact h.below hb | exact h.trans (hb.mono h.size))
    iterate 7 ((apply wpT_exact; · (intro w' hC hf; unfold Gives; have q1 := (hC.cell (World.block_lt_of_cell? _ _ y1)).trans y1; have q2 := (hC.cell (World.block_lt_of_cell? _ _ x2)).trans x2; have q3 := (hC.cell (World.block_lt_of_cell? _ _ c0)).trans c0; have q4 := (hC.cell (World.block_lt_of_cell? _ _ c1)).trans c1; have q5 := (hC.cell (World.block_lt_of_cell? _ _ c2)).trans c2; have q6 := (hC.cell (World.block_lt_of_cell? _ _ c3)).trans c3; clear hf hC; go_wp2_with (fail); apply postT_val rfl (Below.refl _ _); simp only [valAt, Array.getD_eq_getD_getElem?, List.getElem?_toArray, List.getElem?_cons_succ, List.getElem?_cons_zero, Option.getD_some]; exact rfl)); (try simp only [Act.put, List.setIfInBounds_toArray, List.set_cons_zero, List.set_cons_succ]))
    apply wpT_exact (c := .int .i64 u)
    · intro w' hC hf; unfold Gives; clear hf
      go_wp2_with (go_at_call 68; ((with_reducible refine (CF.out w' hC).mono ?_)); rintro e w3 ⟨rfl, hb⟩)
      apply postT_val rfl hb; simp only [valAt, Array.getD_eq_getD_getElem?, List.getElem?_toArray, List.getElem?_cons_succ, List.getElem?_cons_zero, Option.getD_some]
    (try simp only [Act.put, List.setIfInBounds_toArray, List.set_cons_zero, List.set_cons_succ])
    apply wpT_done
    intro w4 hC hall
    have T2 := Lib.hid (T1.out.below hC)
    have HB4 := Lib.hid T2.out.bl
    clear hall x0 x1 x2 x3 x4 x5 x6 x7
    go_upto_region 6 with fail
    by_cases hu0 : u < 0
    · rw [if_neg (by omega)] at HU
      have hr := Lib.hid (show r = -1 from HU.out)
      have t1 : decide (u < 0) = true := decide_eq_true hu0
      clear hu0 T1 T2 HU
      go_wp2_with fail
      go_ret
      exact ⟨ret_int hr.out.symm, HB4.out⟩
    · have t1 : decide (u < 0) = false := decide_eq_false hu0
      by_cases hu1 : u < f
      · rw [if_pos (by omega)] at HU
        obtain ⟨un, rfl⟩ : ∃ z : Nat, u = z := ⟨u.toNat, by omega⟩
        have hul : un < (Sc.flds kn).length := by rw [HM.out]; omega
        rw [Int.toNat_natCast, List.getElem?_eq_getElem hul] at HU
        obtain ⟨b8, o8, us8, rfl, _, hrep8, hc8⟩ := (HS9.out.keep (Chg.of_below hC)).get un hul
        obtain ⟨fg, hfg⟩ : ∃ g, (Sc.flds kn)[un] = g := ⟨_, rfl⟩
        rw [hfg] at HU hrep8
        obtain ⟨p2, p3, p4, r2, r3, r4, rfl⟩ := fld_box hrep8
        have z0 := hc8 0 _ rfl; have z1 := hc8 1 _ rfl; have z2 := hc8 2 _ rfl; have z3 := hc8 3 _ rfl; have z4 := hc8 4 _ rfl; have z5 := hc8 5 _ rfl; have z6 := hc8 6 _ rfl; have z7 := hc8 7 _ rfl
        simp only [Nat.add_zero, show Mem.sz Fld = 8 from rfl, ← Nat.add_assoc] at z0 z1 z2 z3 z4 z5 z6 z7
        have t2 : decide ((f : Int) ≤ (un : Int)) = false := decide_eq_false (Int.not_le.2 hu1)
        have k5 : (un : Int) < (m : Int) := by omega
        have k6 : (0 : Int) ≤ (un : Int) := by omega
        have v1 := (hC.cell (World.block_lt_of_cell? _ _ y1)).trans y1
        have v3 := (hC.cell (World.block_lt_of_cell? _ _ c3)).trans c3
        have q := T2.out.box (.head _)
        have f0 := q.frozen 0; have f1 := q.frozen 1; have f2 := q.frozen 2; have f3 := q.frozen 3; have f4 := q.frozen 4; have f5 := q.frozen 5; have f6 := q.frozen 6; have f7 := q.frozen 7
        have x0 := q.cell 0; have x1 := q.cell 1; have x2 := q.cell 2; have x3 := q.cell 3; have x4 := q.cell 4; have x5 := q.cell 5; have x6 := q.cell 6; have x7 := q.cell 7
        simp at x0 x1 x2 x3 x4 x5 x6 x7
        have T3 := Lib.hid (T2.out.setFld fg p2 p3 p4 r2 r3 r4)
        clear q hc8 hrep8 hfg hu0 y0 y1 y2 y3 c0 c1 c2 c3 hC
        go_upto_region 9 with fail
        clear z0 z1 z2 z3 z4 z5 z6 z7 f0 f1 f2 f3 f4 f5 f6 f7 x0 x1 x2 x3 x4 x5 x6 x7 v1 v3 T2 t1 t2
        generalize hW5 : World.setCell _ _ _ = W5 at T3 ⊢
        clear hW5
        have q := T3.out.box (.head _); have x0 := q.cell 0; have x1 := q.cell 1; have x2 := q.cell 2; have x3 := q.cell 3; (simp [fldC] at x0 x1 x2 x3); clear q
        obtain ⟨y0, y1, y2, y3⟩ := cells4 (T3.out.box (.tail _ (.head _)))
        obtain ⟨g, hg⟩ : ∃ g, Sc.kd fg = g := ⟨_, rfl⟩
        rw [hg] at x3
        by_cases hg1 : g = 1
        · subst hg1
          have hu : r = (if Sc.ix (Sc.kindNamed (Sc.of_ fg)) l < k then Sc.ix (Sc.kindNamed (Sc.of_ fg)) l else -1) := by rw [HU.out]; unfold Sc.upK; simp only [hg, if_true]
          obtain ⟨z, hz⟩ : ∃ z, Sc.ix (Sc.kindNamed (Sc.of_ fg)) l = z := ⟨_, rfl⟩
          have CZ := Lib.hid (CK.out (Sc.of_ fg))
          rw [hz] at hu CZ
          clear hz hg
          have HSL := Lib.hid ((T3.out.fact (.tail _ (.head _))).sub (G' := []) (fun g hg => by cases hg))
          have HB := Lib.hid T3.out.bl
          clear T1 T3
          by_cases hlt : z < (k : Int)
          · rw [if_pos hlt] at hu
            have HUU := Lib.hid hu; clear hu
            have t3 : decide (z ≥ (k : Int)) = false := decide_eq_false (by omega)
            have t4 : decide ((k : Int) ≤ z) = false := decide_eq_false (by omega)
            go_wp2_with (go_at_call 69; ((with_reducible refine (CZ.out _ HSL.out).mono ?_)); rintro e w4 ⟨rfl, hb⟩; replace HB := Lib.hid (HB.out.trans (hb.mono HB.out.size)); clear hb)
            go_ret
            exact ⟨ret_int HUU.out.symm, HB.out⟩
          · rw [if_neg hlt] at hu
            have HUU := Lib.hid hu; clear hu
            have t4 : decide ((k : Int) ≤ z) = true := decide_eq_true (Int.not_lt.1 hlt)
            go_wp2_with (go_at_call 69; ((with_reducible refine (CZ.out _ HSL.out).mono ?_)); rintro e w4 ⟨rfl, hb⟩; replace HB := Lib.hid (HB.out.trans (hb.mono HB.out.size)); clear hb)
            go_ret
            exact ⟨ret_int HUU.out.symm, HB.out⟩
        · have hu := Lib.hid (show r = -1 by rw [HU.out]; unfold Sc.upK; simp only [hg, hg1, if_false])
          have HB := Lib.hid T3.out.bl
          have t3 : (g != 1) = true := bne_iff_ne.2 hg1
          clear hg hg1 T1 T3
          go_wp2_with fail
          go_ret
          exact ⟨ret_int hu.out.symm, HB.out⟩
      · rw [if_neg (by omega)] at HU
        have hr := Lib.hid (show r = -1 from HU.out)
        have t2 : decide ((f : Int) ≤ u) = true := decide_eq_true (Int.not_lt.1 hu1)
        clear hu0 hu1 T1 T2 HU
        go_wp2_with fail
        go_ret
        exact ⟨ret_int hr.out.symm, HB4.out⟩
  · have hup : Sc.upF (Sc.flds kn) f fd = some fd := by unfold Sc.upF; rw [hy, if_neg (by omega)]
    rw [hup] at HU
    obtain ⟨fg, hfg⟩ : ∃ g, g = fd := ⟨_, rfl⟩
    rw [← hfg] at HU T1 hy
    rw [← hfg]
    have q := T1.out.box (.head _); have x3 := q.cell 3; (simp at x3); clear q
    rw [hy] at x3
    have t7 : (y == 7) = false := beq_eq_false_iff_ne.2 hy7
    have t8 : (y == 8) = false := beq_eq_false_iff_ne.2 hy8
    go_upto_region 9 with fail
    clear x3 hy hy7 hy8 t7 t8 hfg
    have q := T1.out.box (.head _); have x0 := q.cell 0; have x1 := q.cell 1; have x2 := q.cell 2; have x3 := q.cell 3; (simp at x0 x1 x2 x3); clear q
    obtain ⟨y0, y1, y2, y3⟩ := cells4 (T1.out.box (.tail _ (.head _)))
    obtain ⟨g, hg⟩ : ∃ g, Sc.kd fg = g := ⟨_, rfl⟩
    rw [hg] at x3
    by_cases hg1 : g = 1
    · subst hg1
      have hu : r = (if Sc.ix (Sc.kindNamed (Sc.of_ fg)) l < k then Sc.ix (Sc.kindNamed (Sc.of_ fg)) l else -1) := by rw [HU.out]; unfold Sc.upK; simp only [hg, if_true]
      obtain ⟨z, hz⟩ : ∃ z, Sc.ix (Sc.kindNamed (Sc.of_ fg)) l = z := ⟨_, rfl⟩
      have CZ := Lib.hid (CK.out (Sc.of_ fg))
      rw [hz] at hu CZ
      clear hz hg
      have HSL := Lib.hid ((T1.out.fact (.tail _ (.head _))).sub (G' := []) (fun g hg => by cases hg))
      have HB := Lib.hid T1.out.bl
      clear T1
      by_cases hlt : z < (k : Int)
      · rw [if_pos hlt] at hu
        have HUU := Lib.hid hu; clear hu
        have t3 : decide (z ≥ (k : Int)) = false := decide_eq_false (by omega)
        have t4 : decide ((k : Int) ≤ z) = false := decide_eq_false (by omega)
        go_wp2_with (go_at_call 69; ((with_reducible refine (CZ.out _ HSL.out).mono ?_)); rintro e w4 ⟨rfl, hb⟩; replace HB := Lib.hid (HB.out.trans (hb.mono HB.out.size)); clear hb)
        go_ret
        exact ⟨ret_int HUU.out.symm, HB.out⟩
      · rw [if_neg hlt] at hu
        have HUU := Lib.hid hu; clear hu
        have t4 : decide ((k : Int) ≤ z) = true := decide_eq_true (Int.not_lt.1 hlt)
        go_wp2_with (go_at_call 69; ((with_reducible refine (CZ.out _ HSL.out).mono ?_)); rintro e w4 ⟨rfl, hb⟩; replace HB := Lib.hid (HB.out.trans (hb.mono HB.out.size)); clear hb)
        go_ret
        exact ⟨ret_int HUU.out.symm, HB.out⟩
    · have hu := Lib.hid (show r = -1 by rw [HU.out]; unfold Sc.upK; simp only [hg, hg1, if_false])
      have HB := Lib.hid T1.out.bl
      have t3 : (g != 1) = true := bne_iff_ne.2 hg1
      clear hg hg1 T1
      go_wp2_with fail
      go_ret
      exact ⟨ret_int hu.out.symm, HB.out⟩
end Go.Proofs.YtdpcdocaahjeoaaDoor
