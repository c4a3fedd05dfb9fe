/- Text. -/
import Derived.Test.YtknnbejhfhadnaaDoorW15
import Derived.Test.YtknnbejhfhadnaaDoorShelf
import Derived.Lib.QuietBelow
namespace Go.Proofs.YtknnbejhfhadnaaDoor
open Go.RowKit Go.Sort
theorem gPow : Tryd.prog.globalNamed "internal/strconv.uint64pow10" = some 3 := by kernel_rfl
theorem gSyn : Tryd.prog.globalNamed "strconv.ErrSyntax" = some 1 := by kernel_rfl
theorem gRng : Tryd.prog.globalNamed "strconv.ErrRange" = some 2 := by kernel_rfl
/-- What the calls take of the library's variables. -/
structure TEnv (w : World) : Prop where
  tab : Lib.TabIs Tryd.prog w "internal/strconv.uint64pow10" .u64 Lib.pow10Tab
  syn : ∃ (tp : TypeId) (p : Value), w.var? Tryd.prog "strconv.ErrSyntax" = some #[.iface tp p]
  rng : ∃ (tp : TypeId) (p : Value), w.var? Tryd.prog "strconv.ErrRange" = some #[.iface tp p]
  mx : ∃ m : Int, w.cell? ⟨0, 0, none⟩ = some (.int .i64 m)
  sz : 6 ≤ w.heap.size
theorem TEnv.below {w w' : World} {B : Nat} (h : TEnv w) (hb : Below B w w') (hB : 6 ≤ B) : TEnv w' := by
  obtain ⟨h1, ⟨a, b, h2⟩, ⟨c, d, h3⟩, ⟨m, hm⟩, h4⟩ := h
  refine ⟨?_, ⟨a, b, var?_below hb gSyn (by omega) h2⟩, ⟨c, d, var?_below hb gRng (by omega) h3⟩, ⟨m, (hb.cell (p := ⟨0, 0, none⟩) (show 0 < B by omega)).trans hm⟩, by have := hb.size; omega⟩
  unfold Lib.TabIs at h1 ⊢
  exact var?_below hb gPow (by omega) h1
theorem below_grow (w : World) (k : Nat) (os : Array Obj) : Below w.heap.size w (grow (w.drewN k) os) :=
  (regrown_of_below (w := w) (Below.refl _ _)).elim fun _ _ => ⟨rfl, rfl, rfl, by simp [grow, World.drewN], fun i hi => by simp [grow, World.drewN, Array.getElem?_append, hi]⟩
theorem itoa_any (n : Int) (w : World) (h : inI n) (ht : TEnv w) :
    Calls Tryd.prog 39 #[.int .i64 n] w fun e w' => e = .returned (.string ⟨(Lib.itoa n).toArray⟩) ∧ Below w.heap.size w w' :=
  (Tryd.strconv_Itoa n h.1 h.2 w ht.tab).mono fun e w' ⟨he, k, os, hw⟩ => ⟨he, by rw [hw]; exact below_grow w k os⟩
/-- A fraction in its box, in a world with the library's variables. -/
structure OneT (P Q : Int) (w w' : World) : Prop where
  one : One P Q w w'
  env : TEnv w'
theorem OneT.below {P Q : Int} {w w' w'' : World} (h : OneT P Q w w') (hb : Below w'.heap.size w' w'') : OneT P Q w w'' := ⟨h.one.below hb, h.env.below hb h.env.sz⟩
theorem OneT.drew {P Q : Int} {w w' : World} (h : OneT P Q w w') : OneT P Q w w'.drew := h.below ⟨rfl, rfl, rfl, Nat.le_refl _, fun _ _ => rfl⟩
theorem oneT0 (P Q : Int) (w : World) (ht : TEnv w) : OneT P Q w (w.alloc (.cells #[.int .i64 P, .int .i64 Q] 23)) := ⟨one0 P Q w, ht.below ((Below.refl _ _).alloc (Nat.le_refl _) _) ht.sz⟩
set_option maxHeartbeats 4000000 in
theorem text_any (P Q : Int) (w : World) (hP : inI P) (hQ : inI Q) (hte : TEnv w) : Calls Tryd.prog 23 #[.agg #[.int .i64 P, .int .i64 Q]] w fun e w' => e = .returned (.string ⟨(Rt.txt P Q).toArray⟩) ∧ Below w.heap.size w w' := by
  have cv := fun w => valid_any P Q w hP hQ
  have cp := fun w (h : TEnv w) => itoa_any P w hP h
  have cq := fun w (h : TEnv w) => itoa_any Q w hQ h
  have T0 := Lib.hid (oneT0 P Q w hte)
  cases hv : Rt.vld P Q
  · have HR := Lib.hid (show Rt.txt P Q = [] by unfold Rt.txt; rw [hv]; rfl)
    rw [hv] at cv
    have CV := Lib.hid cv; have CP := Lib.hid cp
    clear cv cp cq hP hQ hv hte
    go_enter Tryd.func23, Tryd.ntmps23
    go_wp2_with (first | (go_at_call 12; ((with_reducible refine (CV.out _).mono ?_)); rintro e w2 ⟨rfl, hb2⟩; replace T0 := Lib.hid (T0.out.below hb2); clear hb2; obtain ⟨c0, c1, f0, f1⟩ := cells_of T0.out.one.b0) | (go_at_call 39; ((with_reducible refine (CP.out _ T0.out.env).mono ?_)); rintro e w2 ⟨rfl, hb2⟩; replace T0 := Lib.hid (T0.out.below hb2); clear hb2; obtain ⟨c0, c1, f0, f1⟩ := cells_of T0.out.one.b0))
    go_ret
    exact ⟨by rw [HR.out]; rfl, T0.out.one.bl⟩
  · rw [hv] at cv
    have hvp := Rt.vld_iff.1 hv
    have ht : Rt.txt P Q = Lib.itoa P ++ (if 1 < Q then 47 :: Lib.itoa Q else []) := by unfold Rt.txt; rw [if_pos hv]
    have bp := Rt.num_bd hvp
    have bq := Rt.den_pos hvp
    have hden : Rt.den Q = if Q = 0 then 1 else Q := rfl
    obtain ⟨s, hs⟩ : ∃ s : ByteArray, (⟨(Lib.itoa P).toArray⟩ : ByteArray) = s := ⟨_, rfl⟩
    obtain ⟨r, hr⟩ : ∃ r : ByteArray, (⟨(Lib.itoa Q).toArray⟩ : ByteArray) = r := ⟨_, rfl⟩
    have s1 : s.size ≤ 11 := by rw [← hs]; exact Rt.itoa_len P (by omega)
    have r1 : r.size ≤ 11 := by rw [← hr]; exact Rt.itoa_len Q (by split at hden <;> omega)
    rw [hs] at cp; rw [hr] at cq
    have CV := Lib.hid cv; have CP := Lib.hid cp; have CQ := Lib.hid cq
    have HT := Lib.hid ht; have HS := Lib.hid hs; have HR := Lib.hid hr
    clear cv cp cq hv hvp bp bq hden ht hs hr hP hQ hte
    by_cases h1 : 1 < Q
    · have b1 : decide (Q ≤ 1) = false := by simp; omega
      have HX := Lib.hid (show (⟨(Rt.txt P Q).toArray⟩ : ByteArray) = s ++ ⟨#[47]⟩ ++ r by
        apply ByteArray.ext
        rw [HT.out, if_pos h1, ← HS.out, ← HR.out]
        simp [ByteArray.data_append])
      clear h1 HT HS HR
      go_enter Tryd.func23, Tryd.ntmps23
      go_wp2_with (first | (go_at_call 12; ((with_reducible refine (CV.out _).mono ?_)); rintro e w2 ⟨rfl, hb2⟩; replace T0 := Lib.hid (T0.out.below hb2); clear hb2; obtain ⟨c0, c1, f0, f1⟩ := cells_of T0.out.one.b0) | (go_at_call 39; ((with_reducible refine (CP.out _ T0.out.env).mono ?_)); rintro e w2 ⟨rfl, hb2⟩; replace T0 := Lib.hid (T0.out.below hb2); clear hb2; obtain ⟨c0, c1, f0, f1⟩ := cells_of T0.out.one.b0))
      apply wp_region_typed (C := fun w' => OneT P Q w w') (n := 20) (m := 9) (l1 := [_, _, _, _, _, _, _, _, _]) (l2 := [])
      · rfl
      · rfl
      · kernel_rfl
      · rfl
      · kernel_rfl
      · exact T0.out.drew
      · exact fun u u' h hb => h.below hb
      repeat (first
        | ((apply wpT_exact; · (intro w' hC hf; unfold Gives; obtain ⟨c0, c1, f0, f1⟩ := cells_of hC.one.b0; clear hf hC; go_wp2_with (fail); apply postT_val rfl (Below.refl _ _); simp only [valAt, Array.getD_eq_getD_getElem?, List.getElem?_toArray, List.getElem?_cons_succ, List.getElem?_cons_zero, Option.getD_some]; exact rfl)); (try simp only [Act.put, List.setIfInBounds_toArray, List.set_cons_zero, List.set_cons_succ]))
        | ((apply wpT_exact; · (intro w' hC hf; unfold Gives; obtain ⟨c0, c1, f0, f1⟩ := cells_of hC.one.b0; have HE := Lib.hid hC.env; clear hf hC; go_wp2_with (first | (go_at_call 39; ((with_reducible refine (CP.out _ HE.out).mono ?_)); rintro e w2 ⟨rfl, hb2⟩) | (go_at_call 39; ((with_reducible refine (CQ.out _ HE.out).mono ?_)); rintro e w2 ⟨rfl, hb2⟩)); apply postT_val rfl (by first | exact Below.refl _ _ | assumption); simp only [valAt, Array.getD_eq_getD_getElem?, List.getElem?_toArray, List.getElem?_cons_succ, List.getElem?_cons_zero, Option.getD_some]; exact rfl)); (try simp only [Act.put, List.setIfInBounds_toArray, List.set_cons_zero, List.set_cons_succ])))
      apply wpT_done
      intro w3 hC _
      go_wp2
      go_ret
      exact ⟨by rw [HX.out]; rfl, hC.one.bl⟩
    · have b1 : decide (Q ≤ 1) = true := by simp; omega
      have HX := Lib.hid (show (⟨(Rt.txt P Q).toArray⟩ : ByteArray) = s by rw [HT.out, if_neg h1, List.append_nil]; exact HS.out)
      clear h1 HT HS HR
      go_enter Tryd.func23, Tryd.ntmps23
      go_wp2_with (first | (go_at_call 12; ((with_reducible refine (CV.out _).mono ?_)); rintro e w2 ⟨rfl, hb2⟩; replace T0 := Lib.hid (T0.out.below hb2); clear hb2; obtain ⟨c0, c1, f0, f1⟩ := cells_of T0.out.one.b0) | (go_at_call 39; ((with_reducible refine (CP.out _ T0.out.env).mono ?_)); rintro e w2 ⟨rfl, hb2⟩; replace T0 := Lib.hid (T0.out.below hb2); clear hb2; obtain ⟨c0, c1, f0, f1⟩ := cells_of T0.out.one.b0))
      go_ret
      exact ⟨by rw [HX.out]; rfl, T0.out.one.bl⟩
end Go.Proofs.YtknnbejhfhadnaaDoor
