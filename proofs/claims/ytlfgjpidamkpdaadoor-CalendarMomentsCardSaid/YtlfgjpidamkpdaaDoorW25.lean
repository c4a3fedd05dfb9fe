/- The maker of zones: the call. -/
import Derived.Test.YtlfgjpidamkpdaaDoorW24
import Derived.Test.YtlfgjpidamkpdaaDoorTyp2
import Derived.IntWalk
namespace Go.Proofs.YtlfgjpidamkpdaaDoor
open Go.RowKit
def AtBlk (B : Nat) (t : TypeId) (cs : Array Value) (v : Value) (w : World) : Prop := ∃ g, v = .pointer (some ⟨g, 0, none⟩) ∧ B ≤ g ∧ Blk w g t cs
theorem atBlk_kept (B : Nat) (t : TypeId) (cs : Array Value) : Kept (AtBlk B t cs) := fun _ _ _ ⟨g, h1, h2, h3⟩ hb => ⟨g, h1, h2, h3.below hb h3.lt⟩
theorem Blk.set4 {w : World} {g : Nat} {t : TypeId} {a b c d : Value} (h : Blk w g t #[a, b, c, d]) (x y z u : Value) :
    Blk ((((w.setCell ⟨g, 0, none⟩ x).setCell ⟨g, 1, none⟩ y).setCell ⟨g, 2, none⟩ z).setCell ⟨g, 3, none⟩ u) g t #[x, y, z, u] := (((h.set_ 0 x).set_ 1 y).set_ 2 z).set_ 3 u
def SlBlk (n : Nat) (t : TypeId) (cs : Array Value) (v : Value) (w : World) : Prop := ∃ g, v = .slice (some ⟨g, 0, none⟩) n n ∧ Blk w g t cs
theorem slBlk_kept (n : Nat) (t : TypeId) (cs : Array Value) : Kept (SlBlk n t cs) := fun _ _ _ ⟨g, h1, h2⟩ hb => ⟨g, h1, h2.below hb h2.lt⟩
def AtCell (u : Value) (v : Value) (w : World) : Prop := ∃ a, v = .pointer (some a) ∧ w.cell? a = some u
theorem atCell_kept (u : Value) : Kept (AtCell u) := fun _ _ _ ⟨a, h1, h2⟩ hb => ⟨a, h1, (hb.cell (World.block_lt_of_cell? _ _ h2)).trans h2⟩
theorem five_get (k : Int) (h0 : 0 ≤ k) (h1 : k < 5) : (#[Value.int IntKind.i64 0, Value.int IntKind.i64 60, Value.int IntKind.i64 60, Value.int IntKind.i64 30, Value.int IntKind.i64 120] : Array Value)[k.toNat]? = some (.int .i64 (sumr k)) := by
  have h : k = 0 ∨ k = 1 ∨ k = 2 ∨ k = 3 ∨ k = 4 := by omega
  rcases h with h | h | h | h | h <;> subst h <;> rfl
set_option maxRecDepth 10000 in
set_option maxHeartbeats 4000000 in
theorem zones_any (A : Option Addr) (n c : Nat) (L : List Int) (w : World) (hI : Ints w w.heap.size A n L) (hL : AllI L) (hn : n ≤ 9223372036854775807) :
    Calls Tryd.prog 25 #[.slice A n c] w fun e w' => e = .returned (.agg #[.int .i64 (znO L), .int .i64 (znS L), .int .i64 (znF L), .int .i64 (znT L)]) ∧ Below w.heap.size w w' := by
  have b0 := atL_bd L 0 1801 (by omega)
  have b1 := atL_bd L 1 5 (by omega)
  have b2 := atL_bd L 2 367 (by omega)
  have b3 := atL_bd L 3 (368 - znF L) (by unfold znF; omega)
  have hT : znF L + atL L 3 (368 - znF L) = znT L := rfl
  have HT := Lib.hid hT
  clear hT
  have h5 := five_get _ b1.1 b1.2
  obtain ⟨p0, q0⟩ := b0; obtain ⟨p1, q1⟩ := b1; obtain ⟨p2, q2⟩ := b2; obtain ⟨p3, q3⟩ := b3
  have H5 := Lib.hid h5
  clear h5
  have HI := Lib.hid (Reads.alloc hI (Nat.le_refl _) (.cells #[.int .i64 0, .int .i64 0, .int .i64 0, .int .i64 0] 41))
  clear hI
  go_enter Tryd.func25, Tryd.ntmps25
  go_wp2
  apply wp_region_typed (C := fun w' => Below (w.heap.size + 1) (w.alloc (.cells #[.int .i64 0, .int .i64 0, .int .i64 0, .int .i64 0] 41)) w') (n := 26) (m := 13) (l1 := [_, _, _, _, _, _, _, _, _, _, _, _, _]) (l2 := [_])
  · rfl
  · rfl
  · kernel_rfl
  · rfl
  · kernel_rfl
  · exact ⟨rfl, rfl, rfl, Nat.le_refl _, fun _ _ => rfl⟩
  · exact fun u u' h hb => h.trans (hb.mono (by have := h.size; simpa using this))
  (apply wpT_exact; · (intro w' hC hf; unfold Gives; clear hf hC; go_wp2_with (fail); apply postT_val rfl (Below.refl _ _); simp only [valAt, Array.getD_eq_getD_getElem?, List.getElem?_toArray, List.getElem?_cons_succ, List.getElem?_cons_zero, Option.getD_some]; exact rfl)); (try simp only [Act.put, List.setIfInBounds_toArray, List.set_cons_zero, List.set_cons_succ])
  (apply wpT_exact; · (intro w' hC hf; unfold Gives; have hI' := Reads.below HI.out (hC.mono (Nat.le_succ _)); clear hf hC; go_wp2_with (go_at_call 34; refine (at_int _ _ _ _ L _ _ _ _ hI' hL hn (by omega) (by omega) rfl).mono ?_; rintro e w2 ⟨rfl, rfl⟩); apply postT_val rfl (Below.refl _ _); simp only [valAt, Array.getD_eq_getD_getElem?, List.getElem?_toArray, List.getElem?_cons_succ, List.getElem?_cons_zero, Option.getD_some]; exact rfl)); (try simp only [Act.put, List.setIfInBounds_toArray, List.set_cons_zero, List.set_cons_succ])
  (apply wpT_exact; · (intro w' hC hf; unfold Gives; clear hf hC; go_wp2_with (fail); apply postT_val rfl (Below.refl _ _); simp only [valAt, Array.getD_eq_getD_getElem?, List.getElem?_toArray, List.getElem?_cons_succ, List.getElem?_cons_zero, Option.getD_some]; exact rfl)); (try simp only [Act.put, List.setIfInBounds_toArray, List.set_cons_zero, List.set_cons_succ])
  apply wpT_typed (slBlk_kept 5 3 #[.int .i64 0, .int .i64 60, .int .i64 60, .int .i64 30, .int .i64 120])
  · intro w' hC hf; unfold Gives; clear hf hC; go_wp2; apply postT_mk rfl (by go_grown); simp only [valAt, Array.getD_eq_getD_getElem?, List.getElem?_toArray, List.getElem?_cons_succ, List.getElem?_cons_zero, Option.getD_some]; exact ⟨_, rfl, Blk.new _ _ _⟩
  intro v7; (try simp only [Act.put, List.setIfInBounds_toArray, List.set_cons_zero, List.set_cons_succ])
  (apply wpT_exact; · (intro w' hC hf; unfold Gives; clear hf hC; go_wp2_with (fail); apply postT_val rfl (Below.refl _ _); simp only [valAt, Array.getD_eq_getD_getElem?, List.getElem?_toArray, List.getElem?_cons_succ, List.getElem?_cons_zero, Option.getD_some]; exact rfl)); (try simp only [Act.put, List.setIfInBounds_toArray, List.set_cons_zero, List.set_cons_succ])
  (apply wpT_exact; · (intro w' hC hf; unfold Gives; have hI' := Reads.below HI.out (hC.mono (Nat.le_succ _)); clear hf hC; go_wp2_with (go_at_call 34; refine (at_int _ _ _ _ L _ _ _ _ hI' hL hn (by omega) (by omega) rfl).mono ?_; rintro e w2 ⟨rfl, rfl⟩); apply postT_val rfl (Below.refl _ _); simp only [valAt, Array.getD_eq_getD_getElem?, List.getElem?_toArray, List.getElem?_cons_succ, List.getElem?_cons_zero, Option.getD_some]; exact rfl)); (try simp only [Act.put, List.setIfInBounds_toArray, List.set_cons_zero, List.set_cons_succ])
  apply wpT_typed (atCell_kept (.int .i64 (znS L)))
  · intro w' hC hf; unfold Gives
    obtain ⟨g, rfl, hblk⟩ := hf.1 rfl
    have hc := (hblk.cell (atL L 1 5).toNat).trans H5.out
    clear hf hC; go_wp2_with fail
    apply postT_mk rfl (Below.refl _ _); simp only [valAt, Array.getD_eq_getD_getElem?, List.getElem?_toArray, List.getElem?_cons_succ, List.getElem?_cons_zero, Option.getD_some]
    exact ⟨_, rfl, hc⟩
  intro v10; (try simp only [Act.put, List.setIfInBounds_toArray, List.set_cons_zero, List.set_cons_succ])
  apply wpT_exact
  · intro w' hC hf; unfold Gives
    obtain ⟨ad, rfl, hc⟩ := hf.1 rfl
    clear hf hC; go_wp2_with fail
    apply postT_val rfl (Below.refl _ _); simp only [valAt, Array.getD_eq_getD_getElem?, List.getElem?_toArray, List.getElem?_cons_succ, List.getElem?_cons_zero, Option.getD_some]; exact rfl
  (try simp only [Act.put, List.setIfInBounds_toArray, List.set_cons_zero, List.set_cons_succ])
  (apply wpT_exact; · (intro w' hC hf; unfold Gives; clear hf hC; go_wp2_with (fail); apply postT_val rfl (Below.refl _ _); simp only [valAt, Array.getD_eq_getD_getElem?, List.getElem?_toArray, List.getElem?_cons_succ, List.getElem?_cons_zero, Option.getD_some]; exact rfl)); (try simp only [Act.put, List.setIfInBounds_toArray, List.set_cons_zero, List.set_cons_succ])
  (apply wpT_exact; · (intro w' hC hf; unfold Gives; have hI' := Reads.below HI.out (hC.mono (Nat.le_succ _)); clear hf hC; go_wp2_with (go_at_call 34; refine (at_int _ _ _ _ L _ _ _ _ hI' hL hn (by omega) (by omega) rfl).mono ?_; rintro e w2 ⟨rfl, rfl⟩); apply postT_val rfl (Below.refl _ _); simp only [valAt, Array.getD_eq_getD_getElem?, List.getElem?_toArray, List.getElem?_cons_succ, List.getElem?_cons_zero, Option.getD_some]; exact rfl)); (try simp only [Act.put, List.setIfInBounds_toArray, List.set_cons_zero, List.set_cons_succ])
  (apply wpT_exact; · (intro w' hC hf; unfold Gives; clear hf hC; go_wp2_with (fail); apply postT_val rfl (Below.refl _ _); simp only [valAt, Array.getD_eq_getD_getElem?, List.getElem?_toArray, List.getElem?_cons_succ, List.getElem?_cons_zero, Option.getD_some]; exact rfl)); (try simp only [Act.put, List.setIfInBounds_toArray, List.set_cons_zero, List.set_cons_succ])
  (apply wpT_exact; · (intro w' hC hf; unfold Gives; clear hf hC; go_wp2_with (fail); apply postT_val rfl (Below.refl _ _); simp only [valAt, Array.getD_eq_getD_getElem?, List.getElem?_toArray, List.getElem?_cons_succ, List.getElem?_cons_zero, Option.getD_some]; exact rfl)); (try simp only [Act.put, List.setIfInBounds_toArray, List.set_cons_zero, List.set_cons_succ])
  apply wpT_typed (atBlk_kept (w.heap.size + 1) 41 #[.int .i64 0, .int .i64 0, .int .i64 0, .int .i64 0])
  · intro w' hC hf; unfold Gives; have hsz := hC.size; simp only [World.size_alloc] at hsz; clear hf hC; go_wp2; apply postT_mk rfl (by go_grown); simp only [valAt, Array.getD_eq_getD_getElem?, List.getElem?_toArray, List.getElem?_cons_succ, List.getElem?_cons_zero, Option.getD_some]; exact ⟨_, rfl, hsz, Blk.new _ _ _⟩
  intro v3; (try simp only [Act.put, List.setIfInBounds_toArray, List.set_cons_zero, List.set_cons_succ])
  apply wpT_done
  intro w2 hC hf
  obtain ⟨g, rfl, hg, hblk⟩ := hf.1
  clear hf
  have c0 := hblk.cell 0; have c1 := hblk.cell 1; have c2 := hblk.cell 2; have c3 := hblk.cell 3
  have f0 := hblk.frozen 0; have f1 := hblk.frozen 1; have f2 := hblk.frozen 2; have f3 := hblk.frozen 3
  have HC := Lib.hid hC; have HB := Lib.hid hblk
  clear hC hblk
  go_wp2
  have hF : 1 + atL L 2 367 = znF L := rfl
  rw [hF]
  have hO : atL L 0 1801 - 900 = znO L := rfl
  have hb2 := (Blk.new w 41 #[.int .i64 0, .int .i64 0, .int .i64 0, .int .i64 0]).below HC.out (Nat.lt_succ_self _)
  obtain ⟨w3, hw3⟩ : ∃ w3 : World, w3 = ((((w2.setCell ⟨g, 0, none⟩ (.int .i64 (atL L 0 1801 - 900))).setCell ⟨g, 1, none⟩ (.int .i64 (znS L))).setCell ⟨g, 2, none⟩ (.int .i64 (znF L))).setCell ⟨g, 3, none⟩ (.int .i64 0)) := ⟨_, rfl⟩
  have h3 : Blk w3 g 41 #[.int .i64 (znO L), .int .i64 (znS L), .int .i64 (znF L), .int .i64 0] := by rw [hw3, hO]; exact HB.out.set4 _ _ _ _
  have hr3 : Blk w3 w.heap.size 41 #[.int .i64 0, .int .i64 0, .int .i64 0, .int .i64 0] := by
    rw [hw3]
    exact (((hb2.far (p := ⟨g, 0, none⟩) (by simp; omega) _).far (p := ⟨g, 1, none⟩) (by simp; omega) _).far (p := ⟨g, 2, none⟩) (by simp; omega) _).far (p := ⟨g, 3, none⟩) (by simp; omega) _
  have hb3 : Below (w.heap.size + 1) (w.alloc (.cells #[.int .i64 0, .int .i64 0, .int .i64 0, .int .i64 0] 41)) w3 := by
    rw [hw3]
    exact (((HC.out.setCell (p := ⟨g, 0, none⟩) hg _).setCell (p := ⟨g, 1, none⟩) hg _).setCell (p := ⟨g, 2, none⟩) hg _).setCell (p := ⟨g, 3, none⟩) hg _
  rw [← hw3]
  clear hw3 HC HB c0 c1 c2 c3 f0 f1 f2 f3 hb2 hF
  have H3 := Lib.hid h3; have HR3 := Lib.hid hr3; have HB3 := Lib.hid hb3
  clear h3 hr3 hb3
  have hf1 : 1 ≤ znF L := by unfold znF; omega
  have hf2 : znF L ≤ 367 := by unfold znF; omega
  clear hO
  apply wp_region_typed (C := fun w' => Below w3.heap.size w3 w') (n := 26) (m := 9) (l1 := [_, _, _, _, _, _, _, _, _]) (l2 := [_])
  · rfl
  · rfl
  · kernel_rfl
  · rfl
  · kernel_rfl
  · exact ⟨rfl, rfl, rfl, Nat.le_refl _, fun _ _ => rfl⟩
  · exact fun u u' h hb => h.trans (hb.mono h.size)
  (apply wpT_exact; · (intro w' hC hf; unfold Gives; clear hf hC; go_wp2_with (fail); apply postT_val rfl (Below.refl _ _); simp only [valAt, Array.getD_eq_getD_getElem?, List.getElem?_toArray, List.getElem?_cons_succ, List.getElem?_cons_zero, Option.getD_some]; exact rfl)); (try simp only [Act.put, List.setIfInBounds_toArray, List.set_cons_zero, List.set_cons_succ])
  (apply wpT_exact; · (intro w' hC hf; unfold Gives; have c2 := (H3.out.below hC H3.out.lt).cell 2; clear hf hC; go_wp2_with (fail); apply postT_val rfl (Below.refl _ _); simp only [valAt, Array.getD_eq_getD_getElem?, List.getElem?_toArray, List.getElem?_cons_succ, List.getElem?_cons_zero, Option.getD_some]; exact rfl)); (try simp only [Act.put, List.setIfInBounds_toArray, List.set_cons_zero, List.set_cons_succ])
  (apply wpT_exact; · (intro w' hC hf; unfold Gives; clear hf hC; go_wp2_with (fail); apply postT_val rfl (Below.refl _ _); simp only [valAt, Array.getD_eq_getD_getElem?, List.getElem?_toArray, List.getElem?_cons_succ, List.getElem?_cons_zero, Option.getD_some]; exact rfl)); (try simp only [Act.put, List.setIfInBounds_toArray, List.set_cons_zero, List.set_cons_succ])
  (apply wpT_exact; · (intro w' hC hf; unfold Gives; clear hf hC; go_wp2_with (fail); apply postT_val rfl (Below.refl _ _); simp only [valAt, Array.getD_eq_getD_getElem?, List.getElem?_toArray, List.getElem?_cons_succ, List.getElem?_cons_zero, Option.getD_some]; exact rfl)); (try simp only [Act.put, List.setIfInBounds_toArray, List.set_cons_zero, List.set_cons_succ])
  (apply wpT_exact; · (intro w' hC hf; unfold Gives; have c2 := (H3.out.below hC H3.out.lt).cell 2; clear hf hC; go_wp2_with (fail); apply postT_val rfl (Below.refl _ _); simp only [valAt, Array.getD_eq_getD_getElem?, List.getElem?_toArray, List.getElem?_cons_succ, List.getElem?_cons_zero, Option.getD_some]; exact rfl)); (try simp only [Act.put, List.setIfInBounds_toArray, List.set_cons_zero, List.set_cons_succ])
  (apply wpT_exact; · (intro w' hC hf; unfold Gives; clear hf hC; go_wp2_with (fail); apply postT_val rfl (Below.refl _ _); simp only [valAt, Array.getD_eq_getD_getElem?, List.getElem?_toArray, List.getElem?_cons_succ, List.getElem?_cons_zero, Option.getD_some]; exact rfl)); (try simp only [Act.put, List.setIfInBounds_toArray, List.set_cons_zero, List.set_cons_succ])
  (apply wpT_exact; · (intro w' hC hf; unfold Gives; have hI' := Reads.below HI.out ((HB3.out.mono (Nat.le_succ _)).trans (hC.mono (by have := HB3.out.size; simp only [World.size_alloc] at this; omega))); clear hf hC; go_wp2_with (go_at_call 34; refine (at_int _ _ _ _ L _ _ _ _ hI' hL hn (by omega) (by omega) rfl).mono ?_; rintro e w2 ⟨rfl, rfl⟩); apply postT_val rfl (Below.refl _ _); simp only [valAt, Array.getD_eq_getD_getElem?, List.getElem?_toArray, List.getElem?_cons_succ, List.getElem?_cons_zero, Option.getD_some]; exact rfl)); (try simp only [Act.put, List.setIfInBounds_toArray, List.set_cons_zero, List.set_cons_succ])
  (apply wpT_exact; · (intro w' hC hf; unfold Gives; clear hf hC; go_wp2_with (fail); apply postT_val rfl (Below.refl _ _); simp only [valAt, Array.getD_eq_getD_getElem?, List.getElem?_toArray, List.getElem?_cons_succ, List.getElem?_cons_zero, Option.getD_some]; exact rfl)); (try simp only [Act.put, List.setIfInBounds_toArray, List.set_cons_zero, List.set_cons_succ])
  (apply wpT_exact; · (intro w' hC hf; unfold Gives; clear hf hC; go_wp2_with (fail); apply postT_val rfl (Below.refl _ _); simp only [valAt, Array.getD_eq_getD_getElem?, List.getElem?_toArray, List.getElem?_cons_succ, List.getElem?_cons_zero, Option.getD_some]; exact rfl)); (try simp only [Act.put, List.setIfInBounds_toArray, List.set_cons_zero, List.set_cons_succ])
  apply wpT_done
  intro w4 hC _
  have h4 := H3.out.below hC H3.out.lt
  have hr4 := HR3.out.below hC HR3.out.lt
  have c0 := h4.cell 0; have c1 := h4.cell 1; have c2 := h4.cell 2; have c3 := h4.cell 3
  have f0 := h4.frozen 0; have f1 := h4.frozen 1; have f2 := h4.frozen 2; have f3 := h4.frozen 3
  have d0 := hr4.cell 0; have d1 := hr4.cell 1; have d2 := hr4.cell 2; have d3 := hr4.cell 3
  have e0 := hr4.frozen 0; have e1 := hr4.frozen 1; have e2 := hr4.frozen 2; have e3 := hr4.frozen 3
  have hne : g ≠ w.heap.size := by omega
  have hne2 : w.heap.size ≠ g := by omega
  have HC := Lib.hid hC
  clear hC h4 hr4
  go_wp2
  rw [HT.out]
  have hb4 : Below w.heap.size w w4 := of_box (HB3.out.trans (HC.out.mono (by have := HB3.out.size; simp only [World.size_alloc] at this; omega)))
  obtain ⟨w5, hw5⟩ : ∃ w5 : World, w5 = (((((w4.setCell ⟨g, 3, none⟩ (.int .i64 (znT L))).setCell ⟨w.heap.size, 0, none⟩ (.int .i64 (znO L))).setCell ⟨w.heap.size, 1, none⟩ (.int .i64 (znS L))).setCell ⟨w.heap.size, 2, none⟩ (.int .i64 (znF L))).setCell ⟨w.heap.size, 3, none⟩ (.int .i64 (znT L))) := ⟨_, rfl⟩
  have hb5 : Below w.heap.size w w5 := by
    rw [hw5]
    exact ((((hb4.setCell (p := ⟨g, 3, none⟩) (by simp; omega) _).setCell (p := ⟨w.heap.size, 0, none⟩) (by simp) _).setCell (p := ⟨w.heap.size, 1, none⟩) (by simp) _).setCell (p := ⟨w.heap.size, 2, none⟩) (by simp) _).setCell (p := ⟨w.heap.size, 3, none⟩) (by simp) _
  have hblk5 : Blk w5 w.heap.size 41 #[.int .i64 (znO L), .int .i64 (znS L), .int .i64 (znF L), .int .i64 (znT L)] := by
    rw [hw5]
    exact ((HR3.out.below HC.out HR3.out.lt).far (p := ⟨g, 3, none⟩) hne2 _).set4 _ _ _ _
  rw [← hw5]
  clear hw5 d0 d1 d2 d3 e0 e1 e2 e3 c0 c1 c2 c3 f0 f1 f2 f3
  have k0 : w5.cell? ⟨w.heap.size, 0, none⟩ = some (.int .i64 (znO L)) := hblk5.cell 0
  have k1 : w5.cell? ⟨w.heap.size, 1, none⟩ = some (.int .i64 (znS L)) := hblk5.cell 1
  have k2 : w5.cell? ⟨w.heap.size, 2, none⟩ = some (.int .i64 (znF L)) := hblk5.cell 2
  have k3 : w5.cell? ⟨w.heap.size, 3, none⟩ = some (.int .i64 (znT L)) := hblk5.cell 3
  exact bodyPost_ret (v := .agg #[.int .i64 (znO L), .int .i64 (znS L), .int .i64 (znF L), .int .i64 (znT L)]) (by simp [results, Tryd.results25, go_sem, k0, k1, k2, k3]) rfl ⟨rfl, hb5⟩
end Go.Proofs.YtlfgjpidamkpdaaDoor
