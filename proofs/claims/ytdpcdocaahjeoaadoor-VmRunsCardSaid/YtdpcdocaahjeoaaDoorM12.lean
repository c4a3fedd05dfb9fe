/- loop, and plain laws of Program. -/
import Derived.Test.YtdpcdocaahjeoaaDoorM9
import Derived.Test.YtdpcdocaahjeoaaDoorBaseB
import Derived.Test.YtdpcdocaahjeoaaDoorM2
import Derived.Deep.CutBlock
namespace Go.Proofs.YtdpcdocaahjeoaaDoor
open Go Go.RowKit
namespace Vm
/-- What loop gives. -/
def overP (kind field up g op n code : Int) : List Ins :=
  if 0 ≤ up then [(4, 1, kind, 0), (1, 2, 1, 0), (1, 5, n, 0), (8, 0, 1, 11), (2, 4, 0, 7), (5, 4, kind, field), (5, 4, up, g), (2, 0, 0, 2), (op, 4, 5, 10), (6, 3, 0, 0), (0, code, 0, 0)]
  else [(4, 1, kind, 0), (1, 2, 1, 0), (1, 5, n, 0), (8, 0, 1, 10), (2, 4, 0, 7), (5, 4, kind, field), (2, 0, 0, 2), (op, 4, 5, 9), (6, 3, 0, 0), (0, code, 0, 0)]
end Vm
/-- A program that a call made and may go on writing. -/
def InsP (p : List Vm.Ins) (w : World) (e : Ending) (w' : World) : Prop := ∃ v, e = .returned v ∧ w'.ownsRow w.heap.size 58 4 v p.length (insVals p) ∧ Below w.heap.size w w'
theorem insP_of {p : List Vm.Ins} {w W : World} {M : List Nat} {bx : List Box} {L : List (List Nat → World → Prop)} {rs : List Rw} {v : Value} {n : Nat} {xs : List Value} (h : HR w [] M bx (⟨58, 4, v, n, xs⟩ :: rs) L W) (hn : n = p.length) (hx : xs = insVals p) : InsP p w (.returned v) W := by
  subst hn hx
  exact ⟨v, rfl, h.own _ (.head _), h.h.bl⟩
set_option maxRecDepth 100000 in
set_option maxHeartbeats 4000000 in
theorem loop_any (kind field up g op n code : Int) (w : World) : Calls Tryd.prog 37 #[.int .i64 kind, .int .i64 field, .int .i64 up, .int .i64 g, .int .i64 op, .int .i64 n, .int .i64 code] w (InsP (Vm.overP kind field up g op n code) w) := by
  obtain ⟨M, T, _⟩ := (HR.start (held0 w [] (fun _ h => by cases h))).take ((Below.refl _ _).alloc (Nat.le_refl _) (.cells #[.int .i64 4, .int .i64 1, .int .i64 kind, .int .i64 0, .int .i64 1, .int .i64 2, .int .i64 1, .int .i64 0, .int .i64 1, .int .i64 5, .int .i64 n, .int .i64 0, .int .i64 8, .int .i64 0, .int .i64 1, .int .i64 10, .int .i64 2, .int .i64 4, .int .i64 0, .int .i64 7, .int .i64 5, .int .i64 4, .int .i64 kind, .int .i64 field] 58)) (World.ownsRow_lit w #[.int .i64 4, .int .i64 1, .int .i64 kind, .int .i64 0, .int .i64 1, .int .i64 2, .int .i64 1, .int .i64 0, .int .i64 1, .int .i64 5, .int .i64 n, .int .i64 0, .int .i64 8, .int .i64 0, .int .i64 1, .int .i64 10, .int .i64 2, .int .i64 4, .int .i64 0, .int .i64 7, .int .i64 5, .int .i64 4, .int .i64 kind, .int .i64 field] 6 (size := 4) (Nat.le_refl _) (by decide) rfl)
  have H := Lib.hid T
  clear T
  unfold Vm.overP
  by_cases h0 : 0 ≤ up
  · rw [if_pos h0]
    have t0 : decide (0 ≤ up) = true := decide_eq_true h0
    clear h0
    go_enter Tryd.func37, Tryd.ntmps37
    go_upto_region 2 with fail
    generalize hW1 : w.alloc _ = W1 at H ⊢
    generalize w.heap.size = g0 at H ⊢
    clear hW1
    go_upto_region 4 with (at_builtin; obtain ⟨i0, hI, hz0, hz1, hz2⟩ := info_parts infoRIns; refine wpList_append_rows (by rfl) _ _ 32 (by rfl) 58 i0 _ 4 32 Tryd.underlying32 hI hz0 hz1 hz2 rfl (by decide) (H.out.below ((Below.refl _ _).alloc (Nat.le_refl _) _)) (by rfl) _ _ 1 1 [.int .i64 5, .int .i64 4, .int .i64 up, .int .i64 g] (by rfl) (reads_blk (Blk.new _ _ _) rfl) (by simp [Value.oneCell']) (by unfold maxLen; omega) (by omega) ?_; intro v5 w5 M5 h5 _; obtain ⟨A5, c5, rfl⟩ := h5.form (.head _); obtain ⟨g5, rfl⟩ := h5.rform (.head _) (by omega); have f5 := h5.rfroz (.head _) (by omega) 15; have q5 := h5.rcell (.head _) (by omega) (j := 15) (u := .int .i64 10) rfl; have H5 := Lib.hid h5; clear h5 hI hz0 hz1 hz2)
    clear H
    have H6 := Lib.hid (H5.out.setRow (.int .i64 11) (k := 15) (by omega))
    go_upto_region 5 with fail
    clear H5 f5 q5
    generalize hW6 : w5.setCell _ _ = W6 at H6 ⊢
    clear hW6
    have q6 := H6.out.rcell (.head _) (by omega) (j := 15) (u := .int .i64 11) rfl
    go_wp2_with (at_builtin; obtain ⟨i0, hI, hz0, hz1, hz2⟩ := info_parts infoRIns; refine wpList_append_rows (by rfl) _ _ 32 (by rfl) 58 i0 _ 4 32 Tryd.underlying32 hI hz0 hz1 hz2 rfl (by decide) (H6.out.below ((Below.refl _ _).alloc (Nat.le_refl _) _)) (by rfl) _ _ 4 4 [.int .i64 2, .int .i64 0, .int .i64 0, .int .i64 2, .int .i64 op, .int .i64 4, .int .i64 5, .int .i64 10, .int .i64 6, .int .i64 3, .int .i64 0, .int .i64 0, .int .i64 0, .int .i64 code, .int .i64 0, .int .i64 0] (by rfl) (reads_blk (Blk.new _ _ _) rfl) (by simp [Value.oneCell']) (by unfold maxLen; omega) (by omega) ?_; intro v5 w5 M5 h5 _; obtain ⟨A7, c7, rfl⟩ := h5.form (.head _); have H7 := Lib.hid h5; clear h5 hI hz0 hz1 hz2)
    go_ret
    exact insP_of H7.out rfl rfl
  · rw [if_neg h0]
    have t0 : decide (0 ≤ up) = false := decide_eq_false h0
    clear h0
    go_enter Tryd.func37, Tryd.ntmps37
    go_upto_region 2 with fail
    generalize hW1 : w.alloc _ = W1 at H ⊢
    generalize w.heap.size = g0 at H ⊢
    clear hW1
    have q5 := H.out.rcell (.head _) (by omega) (j := 15) (u := .int .i64 10) rfl
    go_wp2_with (at_builtin; obtain ⟨i0, hI, hz0, hz1, hz2⟩ := info_parts infoRIns; refine wpList_append_rows (by rfl) _ _ 32 (by rfl) 58 i0 _ 4 32 Tryd.underlying32 hI hz0 hz1 hz2 rfl (by decide) (H.out.below ((Below.refl _ _).alloc (Nat.le_refl _) _)) (by rfl) _ _ 4 4 [.int .i64 2, .int .i64 0, .int .i64 0, .int .i64 2, .int .i64 op, .int .i64 4, .int .i64 5, .int .i64 9, .int .i64 6, .int .i64 3, .int .i64 0, .int .i64 0, .int .i64 0, .int .i64 code, .int .i64 0, .int .i64 0] (by rfl) (reads_blk (Blk.new _ _ _) rfl) (by simp [Value.oneCell']) (by unfold maxLen; omega) (by omega) ?_; intro v5 w5 M5 h5 _; obtain ⟨A7, c7, rfl⟩ := h5.form (.head _); have H7 := Lib.hid h5; clear h5 hI hz0 hz1 hz2)
    go_ret
    exact insP_of H7.out rfl rfl
end Go.Proofs.YtdpcdocaahjeoaaDoor
namespace Go.Proofs.YtdpcdocaahjeoaaDoor
open Go Go.RowKit
namespace Vm
theorem vld_of {p : List Ins} (hl : p.length ≤ 128) (h : ∀ i ∈ p, insOk p.length i = true) : vld p = 0 := by
  unfold vld
  rw [if_neg (by omega), if_pos (List.all_eq_true.2 h)]
theorem named_of {s : Shape} {p : List Ins} (h : ∀ i ∈ p, nmOk s i = true) : named s p = true := List.all_eq_true.2 h
/-- A program that is right and fits, of at most m instructions. -/
structure Fine (s : Shape) (m : Nat) (p : List Ins) : Prop where
  len : p.length ≤ m
  ok : ∀ i ∈ p, insOk p.length i = true
  nm : ∀ i ∈ p, nmOk s i = true
theorem Fine.vld {s : Shape} {m : Nat} {p : List Ins} (h : Fine s m p) (hm : m ≤ 128) : vld p = 0 := vld_of (by have := h.len; omega) h.ok
theorem Fine.named {s : Shape} {m : Nat} {p : List Ins} (h : Fine s m p) : named s p = true := named_of h.nm
section
variable {n r a b c : Int}
theorem ok_size (h1 : 0 ≤ r) (h2 : r ≤ 7) (h3 : 0 ≤ a) (h4 : a ≤ 5) : insOk n (4, r, a, 0) = true := by simp [insOk, sortOf, fits]; omega
theorem ok_load (h1 : 0 ≤ r) (h2 : r ≤ 7) (h3 : -1048576 ≤ a) (h4 : a ≤ 1048576) : insOk n (1, r, a, 0) = true := by simp [insOk, sortOf, fits]; omega
theorem ok_add (h1 : 0 ≤ r) (h2 : r ≤ 7) (h3 : 0 ≤ a) (h4 : a ≤ 7) (h5 : 0 ≤ b) (h6 : b ≤ 7) : insOk n (2, r, a, b) = true := by simp [insOk, sortOf, fits]; omega
theorem ok_get (h1 : 0 ≤ r) (h2 : r ≤ 7) (h3 : 0 ≤ a) (h4 : a ≤ 5) (h5 : 0 ≤ b) (h6 : b ≤ 9) : insOk n (5, r, a, b) = true := by simp [insOk, sortOf, fits]; omega
theorem ok_jump (h1 : 0 ≤ a) (h2 : a ≤ n) : insOk n (6, a, 0, 0) = true := by simp [insOk, sortOf, fits]; omega
theorem ok_stop (h1 : 0 ≤ a) (h2 : a ≤ 250) : insOk n (0, a, 0, 0) = true := by simp [insOk, sortOf, fits]; omega
theorem ok_less {op : Int} (ho : op = 7 ∨ op = 8) (h1 : 0 ≤ r) (h2 : r ≤ 7) (h3 : 0 ≤ a) (h4 : a ≤ 7) (h5 : 0 ≤ b) (h6 : b ≤ n) : insOk n (op, r, a, b) = true := by rcases ho with rfl | rfl <;> (simp [insOk, sortOf, fits]; omega)
theorem nm_size {s : Shape} (h : a < s.length) : nmOk s (4, r, a, b) = true := by simp [nmOk]; omega
theorem nm_get {s : Shape} (h : a < s.length) (h2 : b < ((s.getD a.toNat 0 : Nat) : Int)) : nmOk s (5, r, a, b) = true := by
  unfold nmOk; simp only [show ¬ (5 : Int) = 4 by decide, if_false, if_true]
  rw [decide_eq_true h, decide_eq_true h2]; rfl
theorem nm_other {s : Shape} {i : Ins} (h4 : i.1 ≠ 4) (h5 : i.1 ≠ 5) : nmOk s i = true := by unfold nmOk; rw [if_neg h4, if_neg h5]
end
/-- Targets three further on. -/
def shift (i : Ins) : Ins := (i.1, (if i.1 = 6 then i.2.1 + 3 else i.2.1), i.2.2.1, (if i.1 = 7 ∨ i.1 = 8 then i.2.2.2 + 3 else i.2.2.2))
def shiftTo (j : Nat) (p : List Ins) : List Ins := (p.take j).map shift ++ p.drop j
theorem shiftTo_length (j : Nat) (p : List Ins) : (shiftTo j p).length = p.length := by
  unfold shiftTo
  rw [List.length_append, List.length_map, List.length_take, List.length_drop]
  omega
theorem shiftTo_zero (p : List Ins) : shiftTo 0 p = p := by simp [shiftTo]
theorem shiftTo_all (p : List Ins) : shiftTo p.length p = p.map shift := by simp [shiftTo]
theorem shiftTo_at {j : Nat} {p : List Ins} (h : j < p.length) : (shiftTo j p)[j]? = some p[j] := by
  unfold shiftTo
  rw [List.getElem?_append_right (by simp; omega), List.length_map, List.length_take, List.getElem?_drop, show j + (j - min j p.length) = j by omega, List.getElem?_eq_getElem h]
theorem shiftTo_succ {j : Nat} {p : List Ins} (h : j < p.length) : shiftTo (j + 1) p = (shiftTo j p).set j (shift p[j]) := by
  unfold shiftTo
  have hl : ((p.take j).map shift).length = j := by simp; omega
  rw [List.take_succ_eq_append_getElem h, List.map_append, List.set_append_right _ _ (by omega), hl, Nat.sub_self, List.append_assoc]
  congr 1
  rw [List.drop_eq_getElem_cons h]
  rfl
section
variable {s : Shape} {kind field up g op n code : Int}
theorem over_fine (hk : 0 ≤ kind) (hk2 : kind < s.length) (hs : s.length ≤ 6) (hf : 0 ≤ field) (hf2 : field < ((s.getD kind.toNat 0 : Nat) : Int)) (hm : field ≤ 9) (hg : 0 ≤ up → up < s.length ∧ 0 ≤ g ∧ g < ((s.getD up.toNat 0 : Nat) : Int) ∧ g ≤ 9)
    (ho : op = 7 ∨ op = 8) (hn : -1000 ≤ n) (hn2 : n ≤ 1000) (hc : 0 ≤ code) (hc2 : code ≤ 250) : Fine s 11 (overP kind field up g op n code) := by
  have hop4 : op ≠ 4 := by omega
  have hop5 : op ≠ 5 := by omega
  unfold overP
  split
  · rename_i h0
    obtain ⟨g1, g2, g3, g4⟩ := hg h0
    refine ⟨by simp, fun i hi => ?_, fun i hi => ?_⟩
    · simp only [List.length_cons, List.length_nil]
      simp only [List.mem_cons, List.not_mem_nil, or_false] at hi
      rcases hi with rfl | rfl | rfl | rfl | rfl | rfl | rfl | rfl | rfl | rfl | rfl
      · exact ok_size (by omega) (by omega) (by omega) (by omega)
      · exact ok_load (by omega) (by omega) (by omega) (by omega)
      · exact ok_load (by omega) (by omega) (by omega) (by omega)
      · exact ok_less (.inr rfl) (by omega) (by omega) (by omega) (by omega) (by omega) (by omega)
      · exact ok_add (by omega) (by omega) (by omega) (by omega) (by omega) (by omega)
      · exact ok_get (by omega) (by omega) (by omega) (by omega) (by omega) (by omega)
      · exact ok_get (by omega) (by omega) (by omega) (by omega) (by omega) (by omega)
      · exact ok_add (by omega) (by omega) (by omega) (by omega) (by omega) (by omega)
      · exact ok_less ho (by omega) (by omega) (by omega) (by omega) (by omega) (by omega)
      · exact ok_jump (by omega) (by omega)
      · exact ok_stop (by omega) (by omega)
    · simp only [List.mem_cons, List.not_mem_nil, or_false] at hi
      rcases hi with rfl | rfl | rfl | rfl | rfl | rfl | rfl | rfl | rfl | rfl | rfl
      · exact nm_size hk2
      · exact nm_other (by simp) (by simp)
      · exact nm_other (by simp) (by simp)
      · exact nm_other (by simp) (by simp)
      · exact nm_other (by simp) (by simp)
      · exact nm_get hk2 hf2
      · exact nm_get g1 g3
      · exact nm_other (by simp) (by simp)
      · exact nm_other hop4 hop5
      · exact nm_other (by simp) (by simp)
      · exact nm_other (by simp) (by simp)
  · refine ⟨by simp, fun i hi => ?_, fun i hi => ?_⟩
    · simp only [List.length_cons, List.length_nil]
      simp only [List.mem_cons, List.not_mem_nil, or_false] at hi
      rcases hi with rfl | rfl | rfl | rfl | rfl | rfl | rfl | rfl | rfl | rfl
      · exact ok_size (by omega) (by omega) (by omega) (by omega)
      · exact ok_load (by omega) (by omega) (by omega) (by omega)
      · exact ok_load (by omega) (by omega) (by omega) (by omega)
      · exact ok_less (.inr rfl) (by omega) (by omega) (by omega) (by omega) (by omega) (by omega)
      · exact ok_add (by omega) (by omega) (by omega) (by omega) (by omega) (by omega)
      · exact ok_get (by omega) (by omega) (by omega) (by omega) (by omega) (by omega)
      · exact ok_add (by omega) (by omega) (by omega) (by omega) (by omega) (by omega)
      · exact ok_less ho (by omega) (by omega) (by omega) (by omega) (by omega) (by omega)
      · exact ok_jump (by omega) (by omega)
      · exact ok_stop (by omega) (by omega)
    · simp only [List.mem_cons, List.not_mem_nil, or_false] at hi
      rcases hi with rfl | rfl | rfl | rfl | rfl | rfl | rfl | rfl | rfl | rfl
      · exact nm_size hk2
      · exact nm_other (by simp) (by simp)
      · exact nm_other (by simp) (by simp)
      · exact nm_other (by simp) (by simp)
      · exact nm_other (by simp) (by simp)
      · exact nm_get hk2 hf2
      · exact nm_other (by simp) (by simp)
      · exact nm_other hop4 hop5
      · exact nm_other (by simp) (by simp)
      · exact nm_other (by simp) (by simp)
/-- An instruction that is right among n stays so, three further on, among three more. -/
theorem shift_ok {N : Int} {i : Ins} (h : insOk N i = true) : insOk (N + 3) (shift i) = true := by
  obtain ⟨o, a, b, c⟩ := i
  simp only [insOk, Bool.and_eq_true, decide_eq_true_eq] at h
  obtain ⟨⟨⟨⟨h1, h2⟩, h3⟩, h4⟩, h5⟩ := h
  rcases (show o = 0 ∨ o = 1 ∨ o = 2 ∨ o = 3 ∨ o = 4 ∨ o = 5 ∨ o = 6 ∨ o = 7 ∨ o = 8 by omega) with rfl | rfl | rfl | rfl | rfl | rfl | rfl | rfl | rfl <;>
    (simp [sortOf, fits] at h3 h4 h5; simp [insOk, shift, sortOf, fits]; omega)
theorem shift_nm {i : Ins} (h : nmOk s i = true) : nmOk s (shift i) = true := by
  obtain ⟨o, a, b, c⟩ := i
  by_cases h4 : o = 4
  · subst h4; exact h
  · by_cases h5 : o = 5
    · subst h5; exact h
    · exact nm_other h4 h5
theorem shift_in {i : Ins} {N : Int} (h : insOk N i = true) (hN : N ≤ 1000) : inI (shift i).1 ∧ inI (shift i).2.1 ∧ inI (shift i).2.2.1 ∧ inI (shift i).2.2.2 := by
  obtain ⟨o, a, b, c⟩ := i
  simp only [insOk, Bool.and_eq_true, decide_eq_true_eq] at h
  obtain ⟨⟨⟨⟨h1, h2⟩, h3⟩, h4⟩, h5⟩ := h
  unfold inI
  rcases (show o = 0 ∨ o = 1 ∨ o = 2 ∨ o = 3 ∨ o = 4 ∨ o = 5 ∨ o = 6 ∨ o = 7 ∨ o = 8 by omega) with rfl | rfl | rfl | rfl | rfl | rfl | rfl | rfl | rfl <;>
    (simp [sortOf, fits] at h3 h4 h5; simp [shift]; omega)
theorem ins_in {i : Ins} {N : Int} (h : insOk N i = true) (hN : N ≤ 1000) : -1048576 ≤ i.2.1 ∧ i.2.1 ≤ 1048576 ∧ -1048576 ≤ i.2.2.1 ∧ i.2.2.1 ≤ 1048576 ∧ -1048576 ≤ i.2.2.2 ∧ i.2.2.2 ≤ 1048576 ∧ 0 ≤ i.1 ∧ i.1 ≤ 8 := by
  obtain ⟨o, a, b, c⟩ := i
  simp only [insOk, Bool.and_eq_true, decide_eq_true_eq] at h
  obtain ⟨⟨⟨⟨h1, h2⟩, h3⟩, h4⟩, h5⟩ := h
  rcases (show o = 0 ∨ o = 1 ∨ o = 2 ∨ o = 3 ∨ o = 4 ∨ o = 5 ∨ o = 6 ∨ o = 7 ∨ o = 8 by omega) with rfl | rfl | rfl | rfl | rfl | rfl | rfl | rfl | rfl <;>
    (simp [sortOf, fits] at h3 h4 h5; simp; omega)
theorem Fine.allIns {s : Shape} {m : Nat} {p : List Ins} (h : Fine s m p) (hm : m ≤ 128) : AllIns p := fun i hi => by
  have := ins_in (h.ok i hi) (by have := h.len; omega)
  unfold inI
  omega
end
theorem insVals_at {p : List Ins} {j t : Nat} {i : Ins} {u : Value} (h : p[j]? = some i) (hu : (insCells i)[t]? = some u) : (insVals p)[j * 4 + t]? = some u := by
  induction p generalizing j with
  | nil => simp at h
  | cons a p ih =>
    rw [show insVals (a :: p) = insCells a ++ insVals p from by simp [insVals]]
    have ht : t < 4 := by have := (List.getElem?_eq_some_iff.1 hu).1; simpa [insCells] using this
    cases j with
    | zero =>
      simp only [List.getElem?_cons_zero, Option.some.injEq] at h
      subst h
      rw [List.getElem?_append_left (by simp [insCells]; omega), Nat.zero_mul, Nat.zero_add]; exact hu
    | succ j =>
      rw [List.getElem?_append_right (by simp [insCells]; omega)]
      have := ih (j := j) (by simpa using h)
      rw [show (j + 1) * 4 + t - (insCells a).length = j * 4 + t by simp [insCells]; omega]
      exact this
theorem insVals_set : ∀ {p : List Ins} {j t : Nat} {u : Value} {i' : Ins} (h : j < p.length), (insCells p[j]).set t u = insCells i' → t < 4 → (insVals p).set (j * 4 + t) u = insVals (p.set j i')
  | a :: p, 0, t, u, i', h, he, ht => by
    rw [show insVals (a :: p) = insCells a ++ insVals p from by simp [insVals], show insVals ((a :: p).set 0 i') = insCells i' ++ insVals p from by simp [insVals], List.set_append_left _ _ (by simp [insCells]; omega), Nat.zero_mul, Nat.zero_add, ← he]
    rfl
  | a :: p, j + 1, t, u, i', h, he, ht => by
    have ih := insVals_set (p := p) (j := j) (t := t) (u := u) (i' := i') (by simpa using h) he ht
    rw [show insVals (a :: p) = insCells a ++ insVals p from by simp [insVals], show insVals ((a :: p).set (j + 1) i') = insCells a ++ insVals (p.set j i') from by simp [insVals], List.set_append_right _ _ (by simp [insCells]; omega), ← ih]
    congr 2
    simp [insCells]; omega
end Vm
end Go.Proofs.YtdpcdocaahjeoaaDoor
