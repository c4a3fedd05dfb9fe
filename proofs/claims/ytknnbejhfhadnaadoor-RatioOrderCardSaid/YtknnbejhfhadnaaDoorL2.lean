/- three valid fractions. -/
import Derived.Test.YtknnbejhfhadnaaDoorL1
import Derived.Deep.RegionHeld3
namespace Go.Proofs.YtknnbejhfhadnaaDoor
open Go.RowKit Go.Sort
def thr (L : List Int) (k : Int) : Int × Int := som (atL L (2 * k) 1600) (atL L (2 * k + 1) 120)
theorem thr_vld (L : List Int) (k : Int) : Rt.vldP (thr L k).1 (thr L k).2 := som_vld _ _
/-- A list of numbers that came in. -/
structure Inp (A : Option Addr) (n : Nat) (L : List Int) (w : World) : Prop where
  hi : Ints w w.heap.size A n L
  hL : AllI L
  hn : n ≤ 9223372036854775807
theorem at_c {A : Option Addr} {n c : Nat} {L : List Int} {w w1 : World} (I : Inp A n L w) (hb : Below w.heap.size w w1) {i m v : Int} (h0 : 0 ≤ i) (h1 : i ≤ 10000) (hv : atL L i m = v) :
    Calls Tryd.prog 17 #[.slice A n c, .int .i64 i, .int .i64 m] w1 fun e w' => e = .returned (.int .i64 v) ∧ w1 = w' := by
  obtain ⟨k, rfl⟩ := Int.eq_ofNat_of_zero_le h0
  rw [← hv]
  exact at_any A n c w.heap.size L k m w1 (Reads.below I.hi hb) I.hL I.hn (by omega)
theorem at_in (L : List Int) (i m : Int) (h : 1 ≤ m) (h2 : m ≤ 10000) : inI (atL L i m) := by have := atL_bd L i m h; unfold inI; omega
theorem some_c {n k P Q : Int} {w : World} (hn : inI n) (hk : inI k) (h : som n k = (P, Q)) : Calls Tryd.prog 16 #[.int .i64 n, .int .i64 k] w fun e w' => e = .returned (.agg #[.int .i64 P, .int .i64 Q]) ∧ Below w.heap.size w w' :=
  (some_any n k w hn hk).mono fun e w' ⟨a, b⟩ => ⟨by rw [a, h], b⟩
theorem fin4 {fn : Func} {a : Act} {w : World} {b c d s t u : Nat} {x y x' y' x'' y'' : Int} {R : Ending → World → Prop} (hr : fn.results = #[.cell s 23, .cell t 23, .cell u 23]) (ha : a.tmps.getD s undef = .pointer (some ⟨b, 0, none⟩)) (ha' : a.tmps.getD t undef = .pointer (some ⟨c, 0, none⟩)) (hc : a.tmps.getD u undef = .pointer (some ⟨d, 0, none⟩)) (hd : a.defers = [])
    (hb : Blk w b 23 #[.int .i64 x, .int .i64 y]) (hb' : Blk w c 23 #[.int .i64 x', .int .i64 y']) (hb'' : Blk w d 23 #[.int .i64 x'', .int .i64 y'']) (hR : R (.returned (.tuple #[.agg #[.int .i64 x, .int .i64 y], .agg #[.int .i64 x', .int .i64 y'], .agg #[.int .i64 x'', .int .i64 y'']])) w) : bodyPost Tryd.prog fn R .ret a w := by
  have k0 : w.cell? ⟨b, 0, none⟩ = some (.int .i64 x) := hb.cell 0
  have k1 : w.cell? ⟨b, 1, none⟩ = some (.int .i64 y) := hb.cell 1
  have l0 : w.cell? ⟨c, 0, none⟩ = some (.int .i64 x') := hb'.cell 0
  have l1 : w.cell? ⟨c, 1, none⟩ = some (.int .i64 y') := hb'.cell 1
  have m0 : w.cell? ⟨d, 0, none⟩ = some (.int .i64 x'') := hb''.cell 0
  have m1 : w.cell? ⟨d, 1, none⟩ = some (.int .i64 y'') := hb''.cell 1
  refine bodyPost_ret (v := .tuple #[.agg #[.int .i64 x, .int .i64 y], .agg #[.int .i64 x', .int .i64 y'], .agg #[.int .i64 x'', .int .i64 y'']]) ?_ hd hR
  simp only [Array.getD_eq_getD_getElem?] at ha ha' hc
  simp [results, hr, go_sem, ha, ha', hc, k0, k1, l0, l1, m0, m1]
abbrev two (a b : Int) : Array Value := #[.int .i64 a, .int .i64 b]
def ThreeP (L : List Int) (e : Ending) : Prop := e = .returned (.tuple #[.agg (two (thr L 0).1 (thr L 0).2), .agg (two (thr L 1).1 (thr L 1).2), .agg (two (thr L 2).1 (thr L 2).2)])
set_option maxHeartbeats 4000000 in
theorem three_any (A : Option Addr) (n c : Nat) (L : List Int) (w : World) (I : Inp A n L w) : Calls Tryd.prog 22 #[.slice A n c] w fun e w' => ThreeP L e ∧ Below w.heap.size w w' := by
  have T0 := Lib.hid ((((hold0 w).new (two 0 0) 23 rfl).new (two 0 0) 23 (N := w.heap.size + 1) (by simp)).new (two 0 0) 23 (N := w.heap.size + 1 + 1) (by simp))
  have i0 := at_in L 0 1600 (by omega) (by omega); have i1 := at_in L 1 120 (by omega) (by omega)
  have i2 := at_in L 2 1600 (by omega) (by omega); have i3 := at_in L 3 120 (by omega) (by omega)
  have i4 := at_in L 4 1600 (by omega) (by omega); have i5 := at_in L 5 120 (by omega) (by omega)
  have e0 : thr L 0 = som (atL L 0 1600) (atL L 1 120) := rfl
  have e1 : thr L 1 = som (atL L 2 1600) (atL L 3 120) := rfl
  have e2 : thr L 2 = som (atL L 4 1600) (atL L 5 120) := rfl
  generalize h0 : atL L 0 1600 = a0 at *
  generalize h1 : atL L 1 120 = a1 at *
  generalize h2 : atL L 2 1600 = a2 at *
  generalize h3 : atL L 3 120 = a3 at *
  generalize h4 : atL L 4 1600 = a4 at *
  generalize h5 : atL L 5 120 = a5 at *
  obtain ⟨p0, hp0⟩ : ∃ p, som a0 a1 = p := ⟨_, rfl⟩
  obtain ⟨p1, hp1⟩ : ∃ p, som a2 a3 = p := ⟨_, rfl⟩
  obtain ⟨p2, hp2⟩ : ∃ p, som a4 a5 = p := ⟨_, rfl⟩
  rw [hp0] at e0; rw [hp1] at e1; rw [hp2] at e2
  obtain ⟨P0, Q0⟩ := p0
  obtain ⟨P1, Q1⟩ := p1
  obtain ⟨P2, Q2⟩ := p2
  have HR := Lib.hid (show ThreeP L (.returned (.tuple #[.agg (two P0 Q0), .agg (two P1 Q1), .agg (two P2 Q2)])) by unfold ThreeP; rw [e0, e1, e2])
  have c0 := fun w1 (hb : Below w.heap.size w w1) => at_c (c := c) I hb (by omega) (by omega) h0
  have c1 := fun w1 (hb : Below w.heap.size w w1) => at_c (c := c) I hb (by omega) (by omega) h1
  have c2 := fun w1 (hb : Below w.heap.size w w1) => at_c (c := c) I hb (by omega) (by omega) h2
  have c3 := fun w1 (hb : Below w.heap.size w w1) => at_c (c := c) I hb (by omega) (by omega) h3
  have c4 := fun w1 (hb : Below w.heap.size w w1) => at_c (c := c) I hb (by omega) (by omega) h4
  have c5 := fun w1 (hb : Below w.heap.size w w1) => at_c (c := c) I hb (by omega) (by omega) h5
  have s0 := fun w => some_c (w := w) i0 i1 hp0
  have s1 := fun w => some_c (w := w) i2 i3 hp1
  have s2 := fun w => some_c (w := w) i4 i5 hp2
  have C0 := Lib.hid c0; have C1 := Lib.hid c1; have C2 := Lib.hid c2; have C3 := Lib.hid c3; have C4 := Lib.hid c4; have C5 := Lib.hid c5
  have S0 := Lib.hid s0; have S1 := Lib.hid s1; have S2 := Lib.hid s2
  have HI := Lib.hid I
  clear c0 c1 c2 c3 c4 c5 s0 s1 s2 h0 h1 h2 h3 h4 h5 hp0 hp1 hp2 e0 e1 e2 i0 i1 i2 i3 i4 i5 I
  go_enter Tryd.func22, Tryd.ntmps22
  go_wp2_with (first | (go_at_call 17; ((with_reducible refine (C0.out _ T0.out.bl).mono ?_)); rintro e w2 ⟨rfl, rfl⟩) | (go_at_call 17; ((with_reducible refine (C1.out _ T0.out.bl).mono ?_)); rintro e w2 ⟨rfl, rfl⟩) | (go_at_call 17; ((with_reducible refine (C2.out _ T0.out.bl).mono ?_)); rintro e w2 ⟨rfl, rfl⟩) | (go_at_call 17; ((with_reducible refine (C3.out _ T0.out.bl).mono ?_)); rintro e w2 ⟨rfl, rfl⟩) | (go_at_call 16; ((with_reducible refine (S0.out _).mono ?_)); rintro e wa ⟨rfl, hb2⟩; replace T0 := Lib.hid (T0.out.below hb2); clear hb2; have lta := Lib.hid T0.out.at1.lt; replace T0 := Lib.hid (T0.out.new (two P0 Q0) 23 rfl)) | (go_at_call 16; ((with_reducible refine (S1.out _).mono ?_)); rintro e wb ⟨rfl, hb2⟩; replace T0 := Lib.hid (T0.out.below hb2); clear hb2; have ltb := Lib.hid T0.out.tl.at1.lt; replace T0 := Lib.hid (T0.out.new (two P1 Q1) 23 rfl)))
  replace T0 := Lib.hid T0.out.drew
  have n1 : ¬ w.heap.size = wa.heap.size := by have := lta.out; have := ltb.out; omega
  have n1' : ¬ wa.heap.size = w.heap.size := by have := lta.out; have := ltb.out; omega
  have n2 : ¬ w.heap.size + 1 = wa.heap.size := by have := lta.out; have := ltb.out; omega
  have n2' : ¬ wa.heap.size = w.heap.size + 1 := by have := lta.out; have := ltb.out; omega
  have n3 : ¬ w.heap.size + 1 + 1 = wa.heap.size := by have := lta.out; have := ltb.out; omega
  have n3' : ¬ wa.heap.size = w.heap.size + 1 + 1 := by have := lta.out; have := ltb.out; omega
  have n4 : ¬ w.heap.size = wb.heap.size := by have := lta.out; have := ltb.out; omega
  have n4' : ¬ wb.heap.size = w.heap.size := by have := lta.out; have := ltb.out; omega
  have n5 : ¬ w.heap.size + 1 = wb.heap.size := by have := lta.out; have := ltb.out; omega
  have n5' : ¬ wb.heap.size = w.heap.size + 1 := by have := lta.out; have := ltb.out; omega
  have n6 : ¬ w.heap.size + 1 + 1 = wb.heap.size := by have := lta.out; have := ltb.out; omega
  have n6' : ¬ wb.heap.size = w.heap.size + 1 + 1 := by have := lta.out; have := ltb.out; omega
  obtain ⟨g0, g1, _, _⟩ := cells_of T0.out.tl.at1; obtain ⟨g2, g3, _, _⟩ := cells_of T0.out.at1; obtain ⟨r0, r1, k0, k1⟩ := cells_of T0.out.tl.tl.at1; obtain ⟨r2, r3, k2, k3⟩ := cells_of T0.out.tl.tl.tl.at1; obtain ⟨r4, r5, k4, k5⟩ := cells_of T0.out.tl.tl.tl.tl.at1
  go_region_held3 (fun w' => w'.cell? ⟨wa.heap.size, 0, none⟩ = some (.int .i64 P0) ∧ w'.cell? ⟨wa.heap.size, 1, none⟩ = some (.int .i64 Q0) ∧ w'.cell? ⟨wb.heap.size, 0, none⟩ = some (.int .i64 P1) ∧ w'.cell? ⟨wb.heap.size, 1, none⟩ = some (.int .i64 Q1))
    (go_keep)
    (first | (go_at_call 17; ((with_reducible refine (C4.out _ T0.out.bl).mono ?_)); rintro e w2 ⟨rfl, rfl⟩) | (go_at_call 17; ((with_reducible refine (C5.out _ T0.out.bl).mono ?_)); rintro e w2 ⟨rfl, rfl⟩) | (go_at_call 16; ((with_reducible refine (S2.out _).mono ?_)); rintro e w2 ⟨rfl, hb2⟩; replace T0 := Lib.hid (T0.out.below hb2); clear hb2; obtain ⟨g0, g1, _, _⟩ := cells_of T0.out.tl.at1; obtain ⟨g2, g3, _, _⟩ := cells_of T0.out.at1; obtain ⟨r0, r1, k0, k1⟩ := cells_of T0.out.tl.tl.at1; obtain ⟨r2, r3, k2, k3⟩ := cells_of T0.out.tl.tl.tl.at1; obtain ⟨r4, r5, k4, k5⟩ := cells_of T0.out.tl.tl.tl.tl.at1))
  go_wp2
  refine fin4 rfl rfl rfl rfl rfl (Blk.far (Blk.far (Blk.far (Blk.far (set2 T0.out.tl.tl.tl.tl.at1 _ _) (by simp) _) (by simp) _) (by simp; omega) _) (by simp; omega) _) (Blk.far (Blk.far (set2 (Blk.far (Blk.far T0.out.tl.tl.tl.at1 (by simp) _) (by simp) _) _ _) (by simp) _) (by simp) _) (set2 (Blk.far (Blk.far (Blk.far (Blk.far T0.out.tl.tl.at1 (by simp; omega) _) (by simp; omega) _) (by simp) _) (by simp) _) _ _) ⟨HR.out, ?_⟩
  exact (((((T0.out.bl.setCell (p := ⟨w.heap.size, 0, none⟩) (Nat.le_refl _) _).setCell (p := ⟨w.heap.size, 1, none⟩) (Nat.le_refl _) _).setCell (p := ⟨w.heap.size + 1, 0, none⟩) (by simp) _).setCell (p := ⟨w.heap.size + 1, 1, none⟩) (by simp) _).setCell (p := ⟨w.heap.size + 1 + 1, 0, none⟩) (by simp; omega) _).setCell (p := ⟨w.heap.size + 1 + 1, 1, none⟩) (by simp; omega) _
end Go.Proofs.YtknnbejhfhadnaaDoor
