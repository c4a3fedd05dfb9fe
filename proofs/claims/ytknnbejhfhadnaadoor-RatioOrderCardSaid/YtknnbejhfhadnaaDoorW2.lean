/- Make: the program's and the reference's. -/
import Derived.Test.YtknnbejhfhadnaaDoorW1
namespace Go.Proofs.YtknnbejhfhadnaaDoor
open Go.RowKit
theorem size_v {n : Int} {u : Nat} (w : World) (h : inI n) (hu : Hid (n.natAbs = u)) : Calls Tryd.prog 30 #[.int .i64 n] w fun e w' => e = .returned (.int .u64 (u : Int)) ∧ w = w' := by
  rw [← hu.out]; exact size_any n w h
theorem rSize_v {n : Int} {u : Nat} (w : World) (h : inI n) (hu : Hid (n.natAbs = u)) : Calls Tryd.prog 33 #[.int .i64 n] w fun e w' => e = .returned (.int .u64 (u : Int)) ∧ w = w' := by
  rw [← hu.out]; exact rSize_any n w h
theorem gcd_v {a b g : Nat} (w : World) (ha : isU a) (hb : isU b) (h : Hid (Nat.gcd a b = g)) : Calls Tryd.prog 31 #[.int .u64 (a : Int), .int .u64 (b : Int)] w fun e w' => e = .returned (.int .u64 (g : Int)) ∧ Below w.heap.size w w' := by
  rw [← h.out]; exact gcd_any a b w ha hb
theorem rGcd_v {a b g : Nat} (w : World) (ha : isU a) (hb : isU b) (h : Hid (Nat.gcd a b = g)) : Calls Tryd.prog 32 #[.int .u64 (a : Int), .int .u64 (b : Int)] w fun e w' => e = .returned (.int .u64 (g : Int)) ∧ w = w' := by
  rw [← h.out]; exact rGcd_any a b w ha hb
/-- The end of a function whose results are a struct of two ints and an int. -/
theorem fin2 {fn : Func} {a : Act} {w : World} {b s u : Nat} {x y c : Int} {R : Ending → World → Prop} (hr : fn.results = #[.cell s 23, .tmp u]) (ha : a.tmps.getD s undef = .pointer (some ⟨b, 0, none⟩)) (hc : a.tmps.getD u undef = .int .i64 c) (hd : a.defers = [])
    (hb : Blk w b 23 #[.int .i64 x, .int .i64 y]) (hR : R (.returned (.tuple #[.agg #[.int .i64 x, .int .i64 y], .int .i64 c])) w) : bodyPost Tryd.prog fn R .ret a w := by
  have k0 : w.cell? ⟨b, 0, none⟩ = some (.int .i64 x) := hb.cell 0
  have k1 : w.cell? ⟨b, 1, none⟩ = some (.int .i64 y) := hb.cell 1
  refine bodyPost_ret (v := .tuple #[.agg #[.int .i64 x, .int .i64 y], .int .i64 c]) ?_ hd hR
  simp only [Array.getD_eq_getD_getElem?] at ha hc
  simp [results, hr, go_sem, ha, hc, k0, k1]
theorem wrap_quo {u g : Nat} {X : Int} (h : isU u) (hX : (u : Int) / (g : Int) = X) : IntKind.u64.wrap X = X := by
  have h0 : 0 ≤ X := by rw [← hX]; exact Int.ediv_nonneg (by omega) (by omega)
  have h1 : X ≤ (u : Int) := by rw [← hX]; exact Int.ediv_le_self _ (by omega)
  unfold isU at h
  simp only [IntKind.wrap, IntKind.signed, IntKind.bits]
  simp
  omega
/-- What Make comes to, by its quotients. -/
inductive MkIs (p q X Y : Int) (R : Int × Int × Int) : Prop where
  | big (h : 2147483648 < X) (e : R = (0, 0, 5))
  | big2 (h : ¬ 2147483648 < X) (h' : 2147483648 < Y) (e : R = (0, 0, 5))
  | pp (h0 : 0 ≤ X) (h : ¬ 2147483648 < X) (h0' : 0 ≤ Y) (h' : ¬ 2147483648 < Y) (hp : ¬ p < 0) (hq : ¬ q < 0) (e : R = (X, Y, 0))
  | nn (h0 : 0 ≤ X) (h : ¬ 2147483648 < X) (h0' : 0 ≤ Y) (h' : ¬ 2147483648 < Y) (hp : p < 0) (hq : q < 0) (e : R = (X, Y, 0))
  | np (h0 : 0 ≤ X) (h : ¬ 2147483648 < X) (h0' : 0 ≤ Y) (h' : ¬ 2147483648 < Y) (hp : p < 0) (hq : ¬ q < 0) (e : R = (-X, Y, 0))
  | pn (h0 : 0 ≤ X) (h : ¬ 2147483648 < X) (h0' : 0 ≤ Y) (h' : ¬ 2147483648 < Y) (hp : ¬ p < 0) (hq : q < 0) (e : R = (-X, Y, 0)) (hX : p = 0 → X = 0)
theorem mkIs {p q : Int} (hq : q ≠ 0) {u v g : Nat} (hu : p.natAbs = u) (hv : q.natAbs = v) (hg : Nat.gcd u v = g) {X Y : Int} (hX : (u : Int) / (g : Int) = X) (hY : (v : Int) / (g : Int) = Y) : MkIs p q X Y (Rt.mk p q) := by
  have h := Rt.mk_calc p q hq
  rw [hu, hv, hg] at h
  have eX : ((u / g : Nat) : Int) = X := by rw [Int.natCast_ediv]; exact hX
  have eY : ((v / g : Nat) : Int) = Y := by rw [Int.natCast_ediv]; exact hY
  have x0 : 0 ≤ X := by rw [← hX]; exact Int.ediv_nonneg (by omega) (by omega)
  have y0 : 0 ≤ Y := by rw [← hY]; exact Int.ediv_nonneg (by omega) (by omega)
  by_cases hx : 2147483648 < X
  · rw [if_pos (.inl (by omega))] at h; exact .big hx h
  · by_cases hy : 2147483648 < Y
    · rw [if_pos (.inr (by omega))] at h; exact .big2 hx hy h
    · rw [if_neg (by omega), eX, eY] at h
      by_cases h1 : p < 0
      · by_cases h2 : q < 0
        · exact .nn x0 hx y0 hy h1 h2 (by rw [h]; simp [h1, h2])
        · exact .np x0 hx y0 hy h1 h2 (by rw [h]; simp [h1, h2])
      · by_cases h2 : q < 0
        · exact .pn x0 hx y0 hy h1 h2 (by rw [h]; simp [h1, h2]) (fun h0 => by subst h0; simp at hu; subst hu; rw [← hX]; simp)
        · exact .pp x0 hx y0 hy h1 h2 (by rw [h]; simp [h1, h2])
def TupIs (R : Int × Int × Int) (e : Ending) : Prop := e = .returned (.tuple #[.agg #[.int .i64 R.1, .int .i64 R.2.1], .int .i64 R.2.2])
theorem TupIs.mk {R : Int × Int × Int} {a b c : Int} (h : R = (a, b, c)) : TupIs R (.returned (.tuple #[.agg #[.int .i64 a, .int .i64 b], .int .i64 c])) := by subst h; rfl
theorem set2 {w : World} {g : Nat} {t : TypeId} {a b : Value} (h : Blk w g t #[a, b]) (x y : Value) : Blk ((w.setCell ⟨g, 0, none⟩ x).setCell ⟨g, 1, none⟩ y) g t #[x, y] := (h.set_ 0 x).set_ 1 y
set_option maxHeartbeats 4000000 in
theorem make_any (p q : Int) (w : World) (hp : inI p) (hq : inI q) : Calls Tryd.prog 10 #[.int .i64 p, .int .i64 q] w fun e w' => TupIs (Rt.mk p q) e ∧ Below w.heap.size w w' := by
  by_cases h0 : q = 0
  · subst h0
    have hR := Lib.hid (show Rt.mk p 0 = (0, 0, 1) by unfold Rt.mk; rw [if_pos rfl])
    go_enter Tryd.func10, Tryd.ntmps10
    go_wp2
    exact bodyPost_ret (v := .tuple #[.agg #[.int .i64 0, .int .i64 0], .int .i64 1]) (by simp [results, Tryd.results10, go_sem]) rfl ⟨TupIs.mk hR.out, (Below.refl _ _).alloc (Nat.le_refl _) _⟩
  · obtain ⟨u, hu⟩ : ∃ u, p.natAbs = u := ⟨_, rfl⟩
    obtain ⟨v, hv⟩ : ∃ v, q.natAbs = v := ⟨_, rfl⟩
    obtain ⟨g, hg⟩ : ∃ g, Nat.gcd u v = g := ⟨_, rfl⟩
    obtain ⟨X, hX⟩ : ∃ X, (u : Int) / (g : Int) = X := ⟨_, rfl⟩
    obtain ⟨Y, hY⟩ : ∃ Y, (v : Int) / (g : Int) = Y := ⟨_, rfl⟩
    have hmk := mkIs h0 hu hv hg hX hY
    have hg0 : 0 < (g : Int) := by
      have := Nat.gcd_pos_of_pos_right u (show 0 < v by omega)
      omega
    have hzb : (q == 0) = false := by simpa using h0
    have hgz : ((g : Int) == 0) = false := by simp; omega
    have uu : isU u := by rw [← hu]; exact isU_abs hp
    have uv : isU v := by rw [← hv]; exact isU_abs hq
    have hwX := wrap_quo uu hX
    have hwY := wrap_quo uv hY
    have HU := Lib.hid hu; have HV := Lib.hid hv; have HG := Lib.hid hg; have H0 := Lib.hid h0
    clear hu hv hg h0
    generalize Rt.mk p q = R at hmk
    have hb := Below.refl (w.heap.size + 1) (w.alloc (.cells #[.int .i64 0, .int .i64 0] 23))
    have HP := Lib.hid hp; have HQ := Lib.hid hq
    have cp := fun w => size_v w HP.out HU
    have cq := fun w => size_v w HQ.out HV
    have cg := fun w => gcd_v w uu uv HG
    have CP := Lib.hid cp; have CQ := Lib.hid cq; have CG := Lib.hid cg
    clear cp cq cg hp hq
    go_enter Tryd.func10, Tryd.ntmps10
    go_upto_region 5 with (first
      | (go_at_call 30; ((with_reducible refine (CP.out _).mono ?_)); rintro e w1 ⟨rfl, rfl⟩)
      | (go_at_call 30; ((with_reducible refine (CQ.out _).mono ?_)); rintro e w1 ⟨rfl, rfl⟩)
      | (go_at_call 31; ((with_reducible refine (CG.out _).mono ?_)); rintro e w1 ⟨rfl, hb1⟩; have hb := step_box hb hb1; clear hb1))
    have HB := Lib.hid hb
    clear hb
    apply wp_region_typed (C := fun w' => Below (w.heap.size + 1) (w.alloc (.cells #[.int .i64 0, .int .i64 0] 23)) w') (n := 48) (m := 8) (l1 := [_, _, _, _, _, _, _, _]) (l2 := [])
    · rfl
    · rfl
    · kernel_rfl
    · rfl
    · kernel_rfl
    · exact HB.out.trans ⟨rfl, rfl, rfl, Nat.le_refl _, fun _ _ => rfl⟩
    · exact fun u u' h hb => h.trans (hb.mono (by have := h.size; simpa using this))
    repeat ((apply wpT_exact; · (intro w' hC hf; unfold Gives; clear hf hC; go_wp2_with (fail); apply postT_val rfl (Below.refl _ _); simp only [valAt, Array.getD_eq_getD_getElem?, List.getElem?_toArray, List.getElem?_cons_succ, List.getElem?_cons_zero, Option.getD_some]; exact rfl)); (try simp only [Act.put, List.setIfInBounds_toArray, List.set_cons_zero, List.set_cons_succ]))
    apply wpT_done
    intro w3 hC _
    have hblk := (Blk.new w 23 #[.int .i64 0, .int .i64 0]).below hC (Nat.lt_succ_self _)
    have c0 : w3.cell? ⟨w.heap.size, 0, none⟩ = some (.int .i64 0) := hblk.cell 0
    have c1 : w3.cell? ⟨w.heap.size, 1, none⟩ = some (.int .i64 0) := hblk.cell 1
    have f0 := hblk.frozen 0; have f1 := hblk.frozen 1
    have HC := Lib.hid hC; have HBK := Lib.hid hblk
    have hs3 : w.heap.size < w3.heap.size := by have := hC.size; simp at this; omega
    have hne : ¬ w.heap.size = w3.heap.size := by omega
    have hne2 : ¬ w3.heap.size = w.heap.size := by omega
    clear hC hblk
    rcases hmk with ⟨h, e⟩ | ⟨h, h', e⟩ | ⟨x0, h, y0, h', hp, hq, e⟩ | ⟨x0, h, y0, h', hp, hq, e⟩ | ⟨x0, h, y0, h', hp, hq, e⟩ | ⟨x0, h, y0, h', hp, hq, e, hz⟩
    · subst e
      have b1 : decide (2147483648 < X) = true := by simpa using h
      go_wp2
      all_goals exact fin2 rfl rfl rfl rfl (set2 HBK.out _ _) ⟨TupIs.mk rfl, ((of_box HC.out).setCell (p := ⟨w.heap.size, 0, none⟩) (Nat.le_refl _) _).setCell (p := ⟨w.heap.size, 1, none⟩) (Nat.le_refl _) _⟩
    · subst e
      have b1 : decide (2147483648 < X) = false := by simpa using h
      have b2 : decide (2147483648 < Y) = true := by simpa using h'
      go_wp2
      all_goals exact fin2 rfl rfl rfl rfl (set2 HBK.out _ _) ⟨TupIs.mk rfl, ((of_box HC.out).setCell (p := ⟨w.heap.size, 0, none⟩) (Nat.le_refl _) _).setCell (p := ⟨w.heap.size, 1, none⟩) (Nat.le_refl _) _⟩
    all_goals
      subst e
      have b1 : decide (2147483648 < X) = false := by simpa using h
      have b2 : decide (2147483648 < Y) = false := by simpa using h'
      go_wp2
      all_goals exact fin2 rfl rfl rfl rfl ((set2 HBK.out _ _).alloc _) ⟨TupIs.mk rfl, (((of_box HC.out).setCell (p := ⟨w.heap.size, 0, none⟩) (Nat.le_refl _) _).setCell (p := ⟨w.heap.size, 1, none⟩) (Nat.le_refl _) _).alloc (by simp; omega) _⟩
end Go.Proofs.YtknnbejhfhadnaaDoor
