/- proper, Den, both. -/
import Derived.Test.YtknnbejhfhadnaaDoorW5
namespace Go.Proofs.YtknnbejhfhadnaaDoor
open Go.RowKit
/-- The end of a function whose result is a struct of two ints. -/
theorem fin1 {fn : Func} {a : Act} {w : World} {b s : Nat} {x y : Int} {R : Ending → World → Prop} (hr : fn.results = #[.cell s 23]) (ha : a.tmps.getD s undef = .pointer (some ⟨b, 0, none⟩)) (hd : a.defers = [])
    (hb : Blk w b 23 #[.int .i64 x, .int .i64 y]) (hR : R (.returned (.agg #[.int .i64 x, .int .i64 y])) w) : bodyPost Tryd.prog fn R .ret a w := by
  have k0 : w.cell? ⟨b, 0, none⟩ = some (.int .i64 x) := hb.cell 0
  have k1 : w.cell? ⟨b, 1, none⟩ = some (.int .i64 y) := hb.cell 1
  refine bodyPost_ret (v := .agg #[.int .i64 x, .int .i64 y]) ?_ hd hR
  simp only [Array.getD_eq_getD_getElem?] at ha
  simp [results, hr, go_sem, ha, k0, k1]
theorem Blk.new2 (w : World) (o : Obj) (t : TypeId) (cs : Array Value) : Blk ((w.alloc o).alloc (.cells cs t)) (w.heap.size + 1) t cs := by
  have h := Blk.new (w.alloc o) t cs
  simpa using h
theorem proper_any (P Q : Int) (w : World) : Calls Tryd.prog 52 #[.agg #[.int .i64 P, .int .i64 Q]] w fun e w' => e = .returned (.agg #[.int .i64 P, .int .i64 (Rt.den Q)]) ∧ Below w.heap.size w w' := by
  by_cases h0 : Q = 0
  · have hq : (Q == 0) = true := by simpa using h0
    have hd := Lib.hid (show Rt.den Q = 1 by unfold Rt.den; rw [if_pos h0])
    clear h0
    go_enter Tryd.func52, Tryd.ntmps52
    go_wp2
    exact fin1 rfl rfl rfl (Blk.new2 _ _ _ _) ⟨by rw [hd.out], ((Below.refl _ _).alloc (Nat.le_refl _) _).alloc (by simp) _⟩
  · have hq : (Q == 0) = false := by simpa using h0
    have hd := Lib.hid (show Rt.den Q = Q by unfold Rt.den; rw [if_neg h0])
    clear h0
    go_enter Tryd.func52, Tryd.ntmps52
    go_wp2
    exact fin1 rfl rfl rfl (Blk.new2 _ _ _ _) ⟨by rw [hd.out], ((Below.refl _ _).alloc (Nat.le_refl _) _).alloc (by simp) _⟩
theorem den_any (P Q : Int) (w : World) (h : 0 ≤ Q) : Calls Tryd.prog 35 #[.agg #[.int .i64 P, .int .i64 Q]] w fun e w' => e = .returned (.int .i64 (Rt.den Q)) ∧ Below w.heap.size w w' := by
  have hd := Lib.hid (show ∀ x, (x = Q ∧ 1 ≤ Q) ∨ (x = 1 ∧ Q < 1) → x = Rt.den Q by intro x hx; unfold Rt.den; split <;> omega)
  clear h
  go_enter Tryd.func35, Tryd.ntmps35
  go_wp2
  all_goals
    go_ret
    exact ⟨congrArg (fun x => Ending.returned (.int .i64 x)) (hd.out _ (by first | exact .inl ⟨rfl, by assumption⟩ | exact .inr ⟨rfl, by assumption⟩)), (Below.refl _ _).alloc (Nat.le_refl _) _⟩
/-- Two fractions and whether both are valid. -/
def BothIs (P Q P' Q' : Int) (e : Ending) : Prop := e = .returned (.tuple #[.agg #[.int .i64 P, .int .i64 (Rt.den Q)], .agg #[.int .i64 P', .int .i64 (Rt.den Q')], .bool (Rt.vld P Q && Rt.vld P' Q')])
theorem fin3 {fn : Func} {a : Act} {w : World} {b c s t u : Nat} {x y x' y' : Int} {v : Bool} {R : Ending → World → Prop} (hr : fn.results = #[.cell s 23, .cell t 23, .tmp u]) (ha : a.tmps.getD s undef = .pointer (some ⟨b, 0, none⟩)) (ha' : a.tmps.getD t undef = .pointer (some ⟨c, 0, none⟩)) (hc : a.tmps.getD u undef = .bool v) (hd : a.defers = [])
    (hb : Blk w b 23 #[.int .i64 x, .int .i64 y]) (hb' : Blk w c 23 #[.int .i64 x', .int .i64 y']) (hR : R (.returned (.tuple #[.agg #[.int .i64 x, .int .i64 y], .agg #[.int .i64 x', .int .i64 y'], .bool v])) w) : bodyPost Tryd.prog fn R .ret a w := by
  have k0 : w.cell? ⟨b, 0, none⟩ = some (.int .i64 x) := hb.cell 0
  have k1 : w.cell? ⟨b, 1, none⟩ = some (.int .i64 y) := hb.cell 1
  have l0 : w.cell? ⟨c, 0, none⟩ = some (.int .i64 x') := hb'.cell 0
  have l1 : w.cell? ⟨c, 1, none⟩ = some (.int .i64 y') := hb'.cell 1
  refine bodyPost_ret (v := .tuple #[.agg #[.int .i64 x, .int .i64 y], .agg #[.int .i64 x', .int .i64 y'], .bool v]) ?_ hd hR
  simp only [Array.getD_eq_getD_getElem?] at ha ha' hc
  simp [results, hr, go_sem, ha, ha', hc, k0, k1, l0, l1]
/-- The world of `both` behind its boxes. -/
def boxed (P Q P' Q' : Int) (w : World) : World := (((w.alloc (.cells #[.int .i64 P, .int .i64 Q] 23)).alloc (.cells #[.int .i64 P', .int .i64 Q'] 23)).alloc (.cells #[.int .i64 0, .int .i64 0] 23)).alloc (.cells #[.int .i64 0, .int .i64 0] 23)
set_option maxHeartbeats 4000000 in
theorem both_any (P Q P' Q' : Int) (w : World) (hP : inI P) (hQ : inI Q) (hP' : inI P') (hQ' : inI Q') : Calls Tryd.prog 40 #[.agg #[.int .i64 P, .int .i64 Q], .agg #[.int .i64 P', .int .i64 Q']] w fun e w' => BothIs P Q P' Q' e ∧ Below w.heap.size w w' := by
  obtain ⟨d, hd⟩ : ∃ d, Rt.den Q = d := ⟨_, rfl⟩
  obtain ⟨d', hd'⟩ : ∃ d', Rt.den Q' = d' := ⟨_, rfl⟩
  obtain ⟨v, hv⟩ : ∃ v, Rt.vld P Q = v := ⟨_, rfl⟩
  obtain ⟨v', hv'⟩ : ∃ v', Rt.vld P' Q' = v' := ⟨_, rfl⟩
  have cp := fun w => proper_any P Q w
  have cp' := fun w => proper_any P' Q' w
  have cv := fun w => valid_any P Q w hP hQ
  have cv' := fun w => valid_any P' Q' w hP' hQ'
  rw [hd] at cp; rw [hd'] at cp'; rw [hv] at cv; rw [hv'] at cv'
  have CP := Lib.hid cp; have CP' := Lib.hid cp'; have CV := Lib.hid cv; have CV' := Lib.hid cv'
  have HE := Lib.hid (show ∀ e, e = .returned (.tuple #[.agg #[.int .i64 P, .int .i64 d], .agg #[.int .i64 P', .int .i64 d'], .bool (v && v')]) → BothIs P Q P' Q' e by rw [← hd, ← hd', ← hv, ← hv']; exact fun e h => h)
  clear cp cp' cv cv' hd hd' hv hv' hP hQ hP' hQ'
  have z0 := (((Blk.new w 23 #[.int .i64 P, .int .i64 Q]).alloc (.cells #[.int .i64 P', .int .i64 Q'] 23)).alloc (.cells #[.int .i64 0, .int .i64 0] 23)).alloc (.cells #[.int .i64 0, .int .i64 0] 23)
  have z1 := ((Blk.new2 w (.cells #[.int .i64 P, .int .i64 Q] 23) 23 #[.int .i64 P', .int .i64 Q']).alloc (.cells #[.int .i64 0, .int .i64 0] 23)).alloc (.cells #[.int .i64 0, .int .i64 0] 23)
  have z2 : Blk (boxed P Q P' Q' w) (w.heap.size + 2) 23 #[.int .i64 0, .int .i64 0] := by
    have := (Blk.new2 (w.alloc (.cells #[.int .i64 P, .int .i64 Q] 23)) (.cells #[.int .i64 P', .int .i64 Q'] 23) 23 #[.int .i64 0, .int .i64 0]).alloc (.cells #[.int .i64 0, .int .i64 0] 23)
    simpa [boxed, Nat.add_assoc] using this
  have z3 : Blk (boxed P Q P' Q' w) (w.heap.size + 3) 23 #[.int .i64 0, .int .i64 0] := by
    have := Blk.new2 ((w.alloc (.cells #[.int .i64 P, .int .i64 Q] 23)).alloc (.cells #[.int .i64 P', .int .i64 Q'] 23)) (.cells #[.int .i64 0, .int .i64 0] 23) 23 #[.int .i64 0, .int .i64 0]
    simpa [boxed, Nat.add_assoc] using this
  have hbx : Below w.heap.size w (boxed P Q P' Q' w) := ((((Below.refl _ _).alloc (Nat.le_refl _) _).alloc (by simp) _).alloc (by simp; omega) _).alloc (by simp; omega) _
  have hsz : (boxed P Q P' Q' w).heap.size = w.heap.size + 4 := by simp [boxed]
  have Z0 := Lib.hid (show Blk (boxed P Q P' Q' w) w.heap.size 23 _ from z0); have Z1 := Lib.hid (show Blk (boxed P Q P' Q' w) (w.heap.size + 1) 23 _ from z1); have Z2 := Lib.hid z2; have Z3 := Lib.hid z3; have HX := Lib.hid hbx; have HS := Lib.hid hsz
  clear z0 z1 z2 z3 hbx hsz
  cases v <;> go_enter Tryd.func40, Tryd.ntmps40 <;> go_wp2
  all_goals
    apply wp_region_typed0 (C := fun w' => Below (w.heap.size + 4) (boxed P Q P' Q' w) w') (n := 17) (m := 9) (l1 := [_, _, _, _, _, _, _, _, _]) (l2 := [_, _, _, _])
    · rfl
    · rfl
    · kernel_rfl
    · rfl
    · kernel_rfl
    · exact ⟨rfl, rfl, rfl, Nat.le_refl _, fun _ _ => rfl⟩
    · exact fun u u' h hb => h.trans (hb.mono (by have := h.size; rw [HS.out] at this; exact this))
    repeat (first
      | ((apply wpT_exact; · (intro w' hC hf; unfold Gives; have c0 : w'.cell? ⟨w.heap.size, 0, none⟩ = some (.int .i64 P) := (Z0.out.below hC (by omega)).cell 0; have c1 : w'.cell? ⟨w.heap.size, 1, none⟩ = some (.int .i64 Q) := (Z0.out.below hC (by omega)).cell 1; have c2 : w'.cell? ⟨w.heap.size + 1, 0, none⟩ = some (.int .i64 P') := (Z1.out.below hC (by omega)).cell 0; have c3 : w'.cell? ⟨w.heap.size + 1, 1, none⟩ = some (.int .i64 Q') := (Z1.out.below hC (by omega)).cell 1; clear hf hC; go_wp2_with (fail); apply postT_val rfl (Below.refl _ _); simp only [valAt, Array.getD_eq_getD_getElem?, List.getElem?_toArray, List.getElem?_cons_succ, List.getElem?_cons_zero, Option.getD_some]; exact rfl)); (try simp only [Act.put, List.setIfInBounds_toArray, List.set_cons_zero, List.set_cons_succ]))
      | ((apply wpT_exact; · (intro w' hC hf; unfold Gives; have c0 : w'.cell? ⟨w.heap.size, 0, none⟩ = some (.int .i64 P) := (Z0.out.below hC (by omega)).cell 0; have c1 : w'.cell? ⟨w.heap.size, 1, none⟩ = some (.int .i64 Q) := (Z0.out.below hC (by omega)).cell 1; have c2 : w'.cell? ⟨w.heap.size + 1, 0, none⟩ = some (.int .i64 P') := (Z1.out.below hC (by omega)).cell 0; have c3 : w'.cell? ⟨w.heap.size + 1, 1, none⟩ = some (.int .i64 Q') := (Z1.out.below hC (by omega)).cell 1; clear hf hC; go_wp2_with (first | (go_at_call 52; ((with_reducible refine (CP.out _).mono ?_)); rintro e w2 ⟨rfl, hb2⟩) | (go_at_call 52; ((with_reducible refine (CP'.out _).mono ?_)); rintro e w2 ⟨rfl, hb2⟩) | (go_at_call 12; ((with_reducible refine (CV.out _).mono ?_)); rintro e w2 ⟨rfl, hb2⟩) | (go_at_call 12; ((with_reducible refine (CV'.out _).mono ?_)); rintro e w2 ⟨rfl, hb2⟩)); apply postT_val rfl (by first | exact Below.refl _ _ | assumption); simp only [valAt, Array.getD_eq_getD_getElem?, List.getElem?_toArray, List.getElem?_cons_succ, List.getElem?_cons_zero, Option.getD_some]; exact rfl)); (try simp only [Act.put, List.setIfInBounds_toArray, List.set_cons_zero, List.set_cons_succ])))
    apply wpT_done
    intro w3 hC _
    have g2 : Blk w3 (w.heap.size + 1 + 1) 23 #[.int .i64 0, .int .i64 0] := Z2.out.below hC (by omega)
    have g3 : Blk w3 (w.heap.size + 1 + 1 + 1) 23 #[.int .i64 0, .int .i64 0] := Z3.out.below hC (by omega)
    have hb3 : Below w.heap.size w w3 := HX.out.trans (hC.mono (by omega))
    have c20 : w3.cell? ⟨w.heap.size + 1 + 1, 0, none⟩ = some (.int .i64 0) := g2.cell 0
    have c21 : w3.cell? ⟨w.heap.size + 1 + 1, 1, none⟩ = some (.int .i64 0) := g2.cell 1
    have c30 : w3.cell? ⟨w.heap.size + 1 + 1 + 1, 0, none⟩ = some (.int .i64 0) := g3.cell 0
    have c31 : w3.cell? ⟨w.heap.size + 1 + 1 + 1, 1, none⟩ = some (.int .i64 0) := g3.cell 1
    have f20 := g2.frozen 0; have f21 := g2.frozen 1; have f30 := g3.frozen 0; have f31 := g3.frozen 1
    have G2 := Lib.hid g2; have G3 := Lib.hid g3; have HB3 := Lib.hid hb3
    clear g2 g3 hb3 hC
    change wpAny _ _ _ _ 4 _ _ _
    refine wpAny_take (i := 9) (v := ?_) rfl (by kernel_rfl) (by kernel_rfl) (by kernel_rfl) (fun _ _ _ h => h) (Or.inl ⟨by rfl, ?_⟩) ?_
    rotate_left
    · intro w; go_simp; with_reducible rfl
    refine wpAny_ready (rs := [10]) (by kernel_rfl) (by simp) ?_
    refine AllReady.cons rfl (fun K hK => ?_) AllReady.nil
    go_simp
    refine hK _ _ ?_
    clear hK K
    refine wpAny_ready (rs := [11]) (by kernel_rfl) (by simp) ?_
    refine AllReady.cons rfl (fun K hK => ?_) AllReady.nil
    go_simp
    refine hK _ _ ?_
    clear hK K
    refine wpAny_ready (rs := [12]) (by kernel_rfl) (by simp) ?_
    refine AllReady.cons rfl (fun K hK => ?_) AllReady.nil
    go_simp
    refine hK _ _ ?_
    clear hK K
    refine wpAny_done (by kernel_rfl) ?_ _
    go_wp2
    refine fin3 rfl rfl rfl rfl rfl (Blk.far (Blk.far (set2 G2.out _ _) (by simp) _) (by simp) _) (set2 (Blk.far (Blk.far G3.out (by simp) _) (by simp) _) _ _) ⟨HE.out _ rfl, ?_⟩
    exact (((HB3.out.setCell (p := ⟨w.heap.size + 1 + 1, 0, none⟩) (by simp; omega) _).setCell (p := ⟨w.heap.size + 1 + 1, 1, none⟩) (by simp; omega) _).setCell (p := ⟨w.heap.size + 1 + 1 + 1, 0, none⟩) (by simp; omega) _).setCell (p := ⟨w.heap.size + 1 + 1 + 1, 1, none⟩) (by simp; omega) _
end Go.Proofs.YtknnbejhfhadnaaDoor
