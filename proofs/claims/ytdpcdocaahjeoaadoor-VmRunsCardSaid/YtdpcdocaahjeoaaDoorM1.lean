/- numbers, sorts, fits, Valid. -/
import Derived.Test.YtdpcdocaahjeoaaDoorVmGP
import Derived.Deep.MidRow
import Derived.Lib.EndianMore
import Derived.Deep.Cut
import Derived.Outline
import Derived.Deep.LoopGhost
namespace Go.Proofs.YtdpcdocaahjeoaaDoor
open Go Go.RowKit
set_option maxHeartbeats 1000000 in
theorem numbers_any (o a b c : Int) (w : World) : Calls Tryd.prog 43 #[.agg #[.int .i64 o, .int .i64 a, .int .i64 b, .int .i64 c]] w fun e w' => e = .returned (.agg #[.int .i64 a, .int .i64 b, .int .i64 c]) ∧ Below w.heap.size w w' := by
  go_enter Tryd.func43, Tryd.ntmps43
  go_wp2
  exact bodyPost_ret (v := .agg #[.int .i64 a, .int .i64 b, .int .i64 c]) (by simp [results, Tryd.results43, go_sem]) rfl ⟨rfl, ((Below.refl _ _).alloc (Nat.le_refl _) _).alloc (by simp) _⟩
def str (l : List UInt8) : ByteArray := ⟨l.toArray⟩
def SORTL : List Value := [.string (str [115, 116, 111, 112]), .int .i64 1, .int .i64 0, .int .i64 0, .string (str [108, 111, 97, 100]), .int .i64 2, .int .i64 3, .int .i64 0, .string (str [97, 100, 100]), .int .i64 2, .int .i64 2, .int .i64 2, .string (str [115, 117, 98]), .int .i64 2, .int .i64 2, .int .i64 2, .string (str [115, 105, 122, 101]), .int .i64 2, .int .i64 4, .int .i64 0, .string (str [103, 101, 116]), .int .i64 2, .int .i64 4, .int .i64 5, .string (str [106, 117, 109, 112]), .int .i64 6, .int .i64 0, .int .i64 0, .string (str [108, 101, 115, 115]), .int .i64 2, .int .i64 2, .int .i64 6, .string (str [115, 97, 109, 101]), .int .i64 2, .int .i64 2, .int .i64 6]
theorem wpList_val {P : Program} {ops : Array Oper} {rest : List Oper} {o : Oper} {a : Act} {w : World} {Q : Exit → Act → World → Prop} {v : Value} (hg : o.guard = none) (h : (execOp a.eval o).run P w = .ok (.value v) w) (hr : wpList P ops Q rest (a.put o.dst v) w) : wpList P ops Q (o :: rest) a w :=
  wpList_plain hg fun _ hK => by
    simp only [Oper.wp, h, Oper.upon]
    exact hK _ _ hr
theorem there_new (w : World) (cs : Array Value) (t : TypeId) : (w.alloc (.cells cs t)).there w.heap.size 0 cs.size := fun j hj => by
  rw [Nat.zero_add]
  have hb := Blk.new w t cs
  exact ⟨by rw [hb.cell j]; simpa using hj, hb.frozen j⟩
theorem wpList_store_new {P : Program} {ops : Array Oper} {rest : List Oper} {op : Oper} {a : Act} {w : World} {Q : Exit → Act → World → Prop} {Z : Array Value} {t : TypeId} (hgd : op.guard = none) (ty : TypeId) (x y : Operand) (ho : op.op = .store ty x y)
    (cells : Array Value) (hx : a.eval x = .pointer (some ⟨w.heap.size, 0, none⟩)) (hy : a.eval y = .agg cells) (hZ : Z.size = cells.size) (hi : (P.info? ty).map (·.size) = some cells.size) (h1 : cells.all (·.oneCell') = true)
    (h : ∀ W, W.rangeAt w.heap.size 0 cells.toList → Below w.heap.size w W → wpList P ops Q rest (a.put op.dst undef) W) : wpList P ops Q (op :: rest) a (w.alloc (.cells Z t)) := by
  have hth : (w.alloc (.cells Z t)).there w.heap.size 0 cells.size := by rw [← hZ]; exact there_new w Z t
  refine wpList_store_mid hgd ty x y ho w.heap.size 0 cells hx hy hth hi h1 (h _ ?_ ?_)
  · exact World.rangeAt_setCells_same _ _ _ _ (by rw [Array.length_toList]; exact hth)
  · exact ((Below.refl _ _).alloc (Nat.le_refl _) _).trans (Lib.below_setCells_w (Nat.le_refl _) _ _ _)
theorem results_cell_mid {P : Program} {fn : Func} {p : Tmp} {ty : TypeId} (h : fn.results = #[.cell p ty]) (tmps : Array Value) (w : World) (b o : Nat) (cs : List Value) (d : TypeDesc)
    (hp : tmps.getD p undef = .pointer (some ⟨b, o, none⟩)) (hc : w.rangeAt b o cs) (hu : P.underlying ty = some d) (hd : d.isRow = true) (hi : (P.info? ty).map (·.size) = some cs.length) :
    (results fn tmps).run P w = .ok (.agg cs.toArray) w := by
  have hp' : tmps[p]?.getD undef = .pointer (some ⟨b, o, none⟩) := by simpa using hp
  simp [results, h, hp', asAddr, run_loadVar_mid w b o ty cs d hc hu hd hi]
theorem sort_size : (Tryd.prog.info? 113).map (·.size) = some SORTL.toArray.size := by kernel_rfl
theorem sort_one : SORTL.toArray.all (·.oneCell') = true := by kernel_rfl
set_option maxRecDepth 100000 in
set_option maxHeartbeats 4000000 in
theorem sorts_any (w : World) : Calls Tryd.prog 45 #[] w fun e w' => e = .returned (.agg SORTL.toArray) ∧ Below w.heap.size w w' := by
  go_enter Tryd.func45, Tryd.ntmps45
  go_upto_region 1 with fail
  refine wp_region_lit ?_
  refine wpList_val (v := .agg #[.int .i64 1, .int .i64 0, .int .i64 0]) rfl (by kernel_rfl) ?_; (try simp only [Act.put, List.setIfInBounds_toArray, List.set_cons_zero, List.set_cons_succ])
  refine wpList_val (v := .agg #[.string (str [115, 116, 111, 112]), .int .i64 1, .int .i64 0, .int .i64 0]) rfl (by kernel_rfl) ?_; (try simp only [Act.put, List.setIfInBounds_toArray, List.set_cons_zero, List.set_cons_succ])
  refine wpList_val (v := .agg #[.int .i64 2, .int .i64 3, .int .i64 0]) rfl (by kernel_rfl) ?_; (try simp only [Act.put, List.setIfInBounds_toArray, List.set_cons_zero, List.set_cons_succ])
  refine wpList_val (v := .agg #[.string (str [108, 111, 97, 100]), .int .i64 2, .int .i64 3, .int .i64 0]) rfl (by kernel_rfl) ?_; (try simp only [Act.put, List.setIfInBounds_toArray, List.set_cons_zero, List.set_cons_succ])
  refine wpList_val (v := .agg #[.int .i64 2, .int .i64 2, .int .i64 2]) rfl (by kernel_rfl) ?_; (try simp only [Act.put, List.setIfInBounds_toArray, List.set_cons_zero, List.set_cons_succ])
  refine wpList_val (v := .agg #[.string (str [97, 100, 100]), .int .i64 2, .int .i64 2, .int .i64 2]) rfl (by kernel_rfl) ?_; (try simp only [Act.put, List.setIfInBounds_toArray, List.set_cons_zero, List.set_cons_succ])
  refine wpList_val (v := .agg #[.int .i64 2, .int .i64 2, .int .i64 2]) rfl (by kernel_rfl) ?_; (try simp only [Act.put, List.setIfInBounds_toArray, List.set_cons_zero, List.set_cons_succ])
  refine wpList_val (v := .agg #[.string (str [115, 117, 98]), .int .i64 2, .int .i64 2, .int .i64 2]) rfl (by kernel_rfl) ?_; (try simp only [Act.put, List.setIfInBounds_toArray, List.set_cons_zero, List.set_cons_succ])
  refine wpList_val (v := .agg #[.int .i64 2, .int .i64 4, .int .i64 0]) rfl (by kernel_rfl) ?_; (try simp only [Act.put, List.setIfInBounds_toArray, List.set_cons_zero, List.set_cons_succ])
  refine wpList_val (v := .agg #[.string (str [115, 105, 122, 101]), .int .i64 2, .int .i64 4, .int .i64 0]) rfl (by kernel_rfl) ?_; (try simp only [Act.put, List.setIfInBounds_toArray, List.set_cons_zero, List.set_cons_succ])
  refine wpList_val (v := .agg #[.int .i64 2, .int .i64 4, .int .i64 5]) rfl (by kernel_rfl) ?_; (try simp only [Act.put, List.setIfInBounds_toArray, List.set_cons_zero, List.set_cons_succ])
  refine wpList_val (v := .agg #[.string (str [103, 101, 116]), .int .i64 2, .int .i64 4, .int .i64 5]) rfl (by kernel_rfl) ?_; (try simp only [Act.put, List.setIfInBounds_toArray, List.set_cons_zero, List.set_cons_succ])
  refine wpList_val (v := .agg #[.int .i64 6, .int .i64 0, .int .i64 0]) rfl (by kernel_rfl) ?_; (try simp only [Act.put, List.setIfInBounds_toArray, List.set_cons_zero, List.set_cons_succ])
  refine wpList_val (v := .agg #[.string (str [106, 117, 109, 112]), .int .i64 6, .int .i64 0, .int .i64 0]) rfl (by kernel_rfl) ?_; (try simp only [Act.put, List.setIfInBounds_toArray, List.set_cons_zero, List.set_cons_succ])
  refine wpList_val (v := .agg #[.int .i64 2, .int .i64 2, .int .i64 6]) rfl (by kernel_rfl) ?_; (try simp only [Act.put, List.setIfInBounds_toArray, List.set_cons_zero, List.set_cons_succ])
  refine wpList_val (v := .agg #[.string (str [108, 101, 115, 115]), .int .i64 2, .int .i64 2, .int .i64 6]) rfl (by kernel_rfl) ?_; (try simp only [Act.put, List.setIfInBounds_toArray, List.set_cons_zero, List.set_cons_succ])
  refine wpList_val (v := .agg #[.int .i64 2, .int .i64 2, .int .i64 6]) rfl (by kernel_rfl) ?_; (try simp only [Act.put, List.setIfInBounds_toArray, List.set_cons_zero, List.set_cons_succ])
  refine wpList_val (v := .agg #[.string (str [115, 97, 109, 101]), .int .i64 2, .int .i64 2, .int .i64 6]) rfl (by kernel_rfl) ?_; (try simp only [Act.put, List.setIfInBounds_toArray, List.set_cons_zero, List.set_cons_succ])
  refine wpList_val (v := .agg SORTL.toArray) rfl (by kernel_rfl) ?_; (try simp only [Act.put, List.setIfInBounds_toArray, List.set_cons_zero, List.set_cons_succ])
  refine wpList_store_new rfl _ (.tmp 0) (.tmp 19) rfl SORTL.toArray rfl rfl rfl sort_size sort_one fun W hr hb => ?_
  have HB := Lib.hid hb
  have HR := Lib.hid hr
  clear hr hb
  go_wp2_with fail
  exact bodyPost_ret (v := .agg SORTL.toArray) (results_cell_mid Tryd.results45 _ _ _ _ SORTL _ rfl HR.out Tryd.underlying113 rfl sort_size) rfl ⟨rfl, HB.out⟩
end Go.Proofs.YtdpcdocaahjeoaaDoor
namespace Go.Proofs.YtdpcdocaahjeoaaDoor
open Go Go.RowKit
namespace Vm
def loS (s : Nat) : Int := if s = 3 then -1048576 else 0
def hiS (s : Nat) (n : Int) : Int := if s = 1 then 250 else if s = 2 then 7 else if s = 3 then 1048576 else if s = 4 then 5 else if s = 5 then 9 else if s = 6 then n else 0
theorem fits_is (s : Nat) (v n : Int) : fits s v n = (decide (loS s ≤ v) && decide (v ≤ hiS s n)) := by
  unfold fits loS hiS
  by_cases h1 : s = 1
  · subst h1; rfl
  by_cases h2 : s = 2
  · subst h2; rfl
  by_cases h3 : s = 3
  · subst h3; rfl
  by_cases h4 : s = 4
  · subst h4; rfl
  by_cases h5 : s = 5
  · subst h5; rfl
  by_cases h6 : s = 6
  · subst h6; rfl
  simp only [if_neg h1, if_neg h2, if_neg h3, if_neg h4, if_neg h5, if_neg h6]
  rw [Bool.eq_iff_iff]; simp; omega
def sortB (s : Nat) : UInt8 := if s = 1 then 99 else if s = 2 then 114 else if s = 3 then 110 else if s = 4 then 107 else if s = 5 then 102 else if s = 6 then 105 else 45
end Vm
set_option maxHeartbeats 4000000 in
theorem fits_any (s : Nat) (v n : Int) (w : World) (hs : s < 7) : Calls Tryd.prog 44 #[.int .i64 (s : Int), .int .i64 v, .int .i64 n] w fun e w' => e = .returned (.bool (Vm.fits s v n)) ∧ w = w' := by
  have hf := Vm.fits_is s v n
  obtain ⟨lo, hlo⟩ : ∃ x, Vm.loS s = x := ⟨_, rfl⟩
  obtain ⟨hi, hhi⟩ : ∃ x, Vm.hiS s n = x := ⟨_, rfl⟩
  rw [hlo, hhi] at hf
  by_cases h1 : lo ≤ v
  · by_cases h2 : v ≤ hi
    · have HF := Lib.hid (show Vm.fits s v n = true by rw [hf, decide_eq_true h1, decide_eq_true h2]; rfl)
      clear hf
      match s, hs with
      | 0, _ | 1, _ | 2, _ | 3, _ | 4, _ | 5, _ | 6, _ =>
        simp [Vm.loS] at hlo
        simp [Vm.hiS] at hhi
        subst hlo hhi
        go_enter Tryd.func44, Tryd.ntmps44
        go_wp2
        go_ret
        exact ⟨by rw [HF.out]; rfl, rfl⟩
    · have HF := Lib.hid (show Vm.fits s v n = false by rw [hf, decide_eq_false h2, Bool.and_false])
      clear hf
      match s, hs with
      | 0, _ | 1, _ | 2, _ | 3, _ | 4, _ | 5, _ | 6, _ =>
        simp [Vm.loS] at hlo
        simp [Vm.hiS] at hhi
        subst hlo hhi
        go_enter Tryd.func44, Tryd.ntmps44
        go_wp2
        go_ret
        exact ⟨by rw [HF.out]; rfl, rfl⟩
  · have HF := Lib.hid (show Vm.fits s v n = false by rw [hf, decide_eq_false h1, Bool.false_and])
    clear hf
    match s, hs with
    | 0, _ | 1, _ | 2, _ | 3, _ | 4, _ | 5, _ | 6, _ =>
      simp [Vm.loS] at hlo
      simp [Vm.hiS] at hhi
      subst hlo hhi
      go_enter Tryd.func44, Tryd.ntmps44
      go_wp2
      go_ret
      exact ⟨by rw [HF.out]; rfl, rfl⟩
set_option maxHeartbeats 4000000 in
theorem rFits_any (s : Nat) (v n : Int) (w : World) (hs : s < 7) : Calls Tryd.prog 46 #[.int .u8 ((Vm.sortB s).toNat : Int), .int .i64 v, .int .i64 n] w fun e w' => e = .returned (.bool (Vm.fits s v n)) ∧ w = w' := by
  have hf := Vm.fits_is s v n
  obtain ⟨lo, hlo⟩ : ∃ x, Vm.loS s = x := ⟨_, rfl⟩
  obtain ⟨hi, hhi⟩ : ∃ x, Vm.hiS s n = x := ⟨_, rfl⟩
  rw [hlo, hhi] at hf
  by_cases h1 : lo ≤ v
  · by_cases h2 : v ≤ hi
    · have HF := Lib.hid (show Vm.fits s v n = true by rw [hf, decide_eq_true h1, decide_eq_true h2]; rfl)
      clear hf
      match s, hs with
      | 0, _ =>
        simp [Vm.loS] at hlo
        simp [Vm.hiS] at hhi
        subst hlo hhi
        have z : (v == 0) = true := by simp; omega
        simp only [Vm.sortB]
        go_enter Tryd.func46, Tryd.ntmps46
        go_wp2
        go_ret
        exact ⟨by rw [HF.out]; rfl, rfl⟩
      | 1, _ | 2, _ | 3, _ | 4, _ | 5, _ | 6, _ =>
        simp [Vm.loS] at hlo
        simp [Vm.hiS] at hhi
        subst hlo hhi
        simp only [Vm.sortB]
        go_enter Tryd.func46, Tryd.ntmps46
        go_wp2
        go_ret
        exact ⟨by rw [HF.out]; rfl, rfl⟩
    · have HF := Lib.hid (show Vm.fits s v n = false by rw [hf, decide_eq_false h2, Bool.and_false])
      clear hf
      match s, hs with
      | 0, _ =>
        simp [Vm.loS] at hlo
        simp [Vm.hiS] at hhi
        subst hlo hhi
        have z : (v == 0) = false := by simp; omega
        simp only [Vm.sortB]
        go_enter Tryd.func46, Tryd.ntmps46
        go_wp2
        go_ret
        exact ⟨by rw [HF.out]; rfl, rfl⟩
      | 1, _ | 2, _ | 3, _ | 4, _ | 5, _ | 6, _ =>
        simp [Vm.loS] at hlo
        simp [Vm.hiS] at hhi
        subst hlo hhi
        simp only [Vm.sortB]
        go_enter Tryd.func46, Tryd.ntmps46
        go_wp2
        go_ret
        exact ⟨by rw [HF.out]; rfl, rfl⟩
  · have HF := Lib.hid (show Vm.fits s v n = false by rw [hf, decide_eq_false h1, Bool.false_and])
    clear hf
    match s, hs with
    | 0, _ =>
      simp [Vm.loS] at hlo
      simp [Vm.hiS] at hhi
      subst hlo hhi
      have z : (v == 0) = false := by simp; omega
      simp only [Vm.sortB]
      go_enter Tryd.func46, Tryd.ntmps46
      go_wp2
      go_ret
      exact ⟨by rw [HF.out]; rfl, rfl⟩
    | 1, _ | 2, _ | 3, _ | 4, _ | 5, _ | 6, _ =>
      simp [Vm.loS] at hlo
      simp [Vm.hiS] at hhi
      subst hlo hhi
      simp only [Vm.sortB]
      go_enter Tryd.func46, Tryd.ntmps46
      go_wp2
      go_ret
      exact ⟨by rw [HF.out]; rfl, rfl⟩
end Go.Proofs.YtdpcdocaahjeoaaDoor
namespace Go.Proofs.YtdpcdocaahjeoaaDoor
open Go Go.RowKit
namespace Vm
theorem vld_bad {p : List Ins} (hl : p.length ≤ 128) {k : Nat} (hk : k < p.length) (h : insOk p.length p[k] = false) : vld p = 1 := by
  have ha : p.all (insOk p.length) = false := by
    cases hb : p.all (insOk p.length) with
    | false => rfl
    | true => rw [List.all_eq_true.1 hb _ (List.getElem_mem hk)] at h; cases h
  unfold vld
  rw [if_neg (by omega), ha]; rfl
theorem vld_good {p : List Ins} (hl : p.length ≤ 128) (h : ∀ k (hk : k < p.length), insOk p.length p[k] = true) : vld p = 0 := by
  have ha : p.all (insOk p.length) = true := List.all_eq_true.2 fun x hx => by
    obtain ⟨k, hk, rfl⟩ := List.getElem_of_mem hx
    exact h k hk
  unfold vld
  rw [if_neg (by omega), ha]; rfl
theorem vld_long {p : List Ins} (hl : 128 < p.length) : vld p = 4 := by unfold vld; rw [if_pos hl]
def wordB (op : Nat) : ByteArray := str (wordsL.getD op [])
theorem sortOf_lt (op : Int) (k : Nat) (hk : k < 3) : sortOf op k < 7 := by
  unfold sortOf
  match k, hk with
  | 0, _ | 1, _ | 2, _ => (repeat' split) <;> decide
end Vm
theorem index_sorts (op : Nat) (h : op < 9) (w : World) : (Instr.index 113 (.agg SORTL.toArray) (.int .i64 (op : Int))).run Tryd.prog w = .ok (.agg #[.string (Vm.wordB op), .int .i64 (Vm.sortOf op 0 : Nat), .int .i64 (Vm.sortOf op 1 : Nat), .int .i64 (Vm.sortOf op 2 : Nat)]) w := by
  match op, h with
  | 0, _ | 1, _ | 2, _ | 3, _ | 4, _ | 5, _ | 6, _ | 7, _ | 8, _ => (show _ = _; kernel_rfl)
theorem index_three (a b c : Int) (j : Nat) (h : j < 3) (w : World) : (Instr.index 109 (.agg #[.int .i64 a, .int .i64 b, .int .i64 c]) (.int .i64 (j : Int))).run Tryd.prog w = .ok (.int .i64 ([a, b, c].getD j 0)) w := by
  match j, h with
  | 0, _ | 1, _ | 2, _ => (show _ = _; kernel_rfl)
theorem field_sorts (s : ByteArray) (a b c : Int) (w : World) : (Instr.field 112 (.agg #[.string s, .int .i64 a, .int .i64 b, .int .i64 c]) 1).run Tryd.prog w = .ok (.agg #[.int .i64 a, .int .i64 b, .int .i64 c]) w := by kernel_rfl
end Go.Proofs.YtdpcdocaahjeoaaDoor
namespace Go.Proofs.YtdpcdocaahjeoaaDoor
open Go Go.RowKit
theorem cells4 {w : World} {g : Nat} {t : TypeId} {a b c d : Value} (h : Blk w g t #[a, b, c, d]) : w.cell? ⟨g, 0, none⟩ = some a ∧ w.cell? ⟨g, 1, none⟩ = some b ∧ w.cell? ⟨g, 2, none⟩ = some c ∧ w.cell? ⟨g, 3, none⟩ = some d := ⟨h.cell 0, h.cell 1, h.cell 2, h.cell 3⟩
theorem Vm.insOk_op {n : Int} {i : Vm.Ins} (h : ¬ (0 ≤ i.1 ∧ i.1 ≤ 8)) : Vm.insOk n i = false := by
  unfold Vm.insOk
  by_cases h0 : 0 ≤ i.1
  · rw [decide_eq_false (show ¬ i.1 ≤ 8 from fun h' => h ⟨h0, h'⟩)]; simp
  · rw [decide_eq_false h0]; simp
theorem Vm.insOk_nums {n : Int} {op : Nat} {a b c : Int} (h : op < 9) : Vm.insOk n ((op : Int), a, b, c) = (Vm.fits (Vm.sortOf op 0) a n && Vm.fits (Vm.sortOf op 1) b n && Vm.fits (Vm.sortOf op 2) c n) := by
  unfold Vm.insOk
  rw [decide_eq_true (show (0 : Int) ≤ (op : Int) by omega), decide_eq_true (show (op : Int) ≤ 8 by omega)]; simp
set_option maxRecDepth 100000 in
set_option maxHeartbeats 4000000 in
theorem valid_any (p : List Vm.Ins) (A : Option Addr) (c : Nat) (w : World) (hp : SlAt [] w A p) (hm : p.length ≤ 9223372036854775807) : Calls Tryd.prog 18 #[.slice A p.length c] w fun e w' => e = .returned (.int .i64 (Vm.vld p)) ∧ Below w.heap.size w w' := by
  obtain ⟨n, hn⟩ : ∃ n, p.length = n := ⟨_, rfl⟩
  by_cases hl : 128 < n
  · have HV := Lib.hid (Vm.vld_long (p := p) (by omega))
    rw [hn]
    clear hp
    go_enter Tryd.func18, Tryd.ntmps18
    go_wp2
    go_ret
    exact ⟨by rw [HV.out]; rfl, Below.refl _ _⟩
  · have HP := Lib.hid hp
    rw [hn]
    rw [hn] at hm
    have HN := Lib.hid hn
    have l1 : decide ((128 : Int) < (n : Int)) = false := decide_eq_false (by omega)
    clear hp hn
    go_enter Tryd.func18, Tryd.ntmps18
    go_wp2_with fail
    go_loopg [12] n (fun r i wr => ∃ k : Nat, k + r = n ∧ i = .int .i64 k ∧ Below w.heap.size w wr ∧ ∀ j (hj : j < p.length), j < k → Vm.insOk p.length p[j] = true)
    case atStart => exact ⟨0, by omega, rfl, Below.refl _ _, fun _ _ h => by omega⟩
    case round =>
      obtain ⟨k, hk, rfl, hb, hall⟩ := hrel
      obtain ⟨gq, rfl⟩ : ∃ g, g = gk := ⟨_, rfl⟩
      obtain ⟨wo, rfl⟩ : ∃ wo : World, wo = wr := ⟨_, rfl⟩
      have HB := Lib.hid hb
      have HA := Lib.hid hall
      clear hb hall
      by_cases hlt : k < n
      · have hkp : k < p.length := by rw [HN.out]; exact hlt
        have k0 : (0 : Int) ≤ (k : Int) := Int.natCast_nonneg _
        have k1 : (k : Int) < (n : Int) := by omega
        obtain ⟨b, o, rfl, _, c0, c1, c2, c3, i0, i1, i2, i3⟩ := Vm.ins_at (HP.out.keep (Chg.of_below HB.out)) k hkp
        obtain ⟨i, hi⟩ : ∃ i, p[k] = i := ⟨_, rfl⟩
        rw [hi] at c0 c1 c2 c3 i0 i1 i2 i3
        obtain ⟨op, x, y, z⟩ := i
        dsimp only at c0 c1 c2 c3 i0 i1 i2 i3
        have HI := Lib.hid hi
        clear hi
        by_cases hop : 0 ≤ op ∧ op ≤ 8
        · obtain ⟨op, rfl⟩ := Int.eq_ofNat_of_zero_le hop.1
          obtain ⟨_, hop2⟩ := hop
          have o1 : decide ((op : Int) < 0) = false := decide_eq_false (by omega)
          have o2 : decide (9 ≤ (op : Int)) = false := decide_eq_false (by omega)
          have U0 := Lib.hid ((held0 wo [] (fun _ h => by cases h)).new #[.int .i64 (op : Int), .int .i64 x, .int .i64 y, .int .i64 z] 104 rfl)
          have hnum := Lib.hid (numbers_any (op : Int) x y z)
          clear i0 i1 i2 i3
          go_wp2_with (go_at_call 43; ((with_reducible refine (hnum.out _).mono ?_)); rintro e w2 ⟨rfl, hb2⟩; replace U0 := Lib.hid (U0.out.below hb2); clear hb2)
          go_loopg [26] 3 (fun r i wi => ∃ j : Nat, j + r = 3 ∧ i = .int .i64 j ∧ Held wo [] [wo.heap.size] [(wo.heap.size, 104, #[.int .i64 (op : Int), .int .i64 x, .int .i64 y, .int .i64 z])] [] wi ∧ ∀ q, q < j → Vm.fits (Vm.sortOf op q) ([x, y, z].getD q 0) n = true)
          case atStart => exact ⟨0, rfl, rfl, U0.out, fun _ h => by omega⟩
          case round =>
            obtain ⟨j, hj, rfl, hU, hq⟩ := hrel
            have U1 := Lib.hid hU
            have HQ := Lib.hid hq
            clear hU hq U0
            by_cases hlj : j < 3
            · have j0 : (0 : Int) ≤ (j : Int) := Int.natCast_nonneg _
              have j1 : (j : Int) < 3 := by omega
              have x1 := index_three x y z j hlj
              have x2 := index_sorts op (by omega)
              have x4 := field_sorts
              have x3 := index_three (Vm.sortOf op 0 : Nat) (Vm.sortOf op 1 : Nat) (Vm.sortOf op 2 : Nat) j hlj
              have e3 : [((Vm.sortOf op 0 : Nat) : Int), ((Vm.sortOf op 1 : Nat) : Int), ((Vm.sortOf op 2 : Nat) : Int)].getD j 0 = ((Vm.sortOf op j : Nat) : Int) := by
                match j, hlj with
                | 0, _ | 1, _ | 2, _ => rfl
              rw [e3] at x3
              obtain ⟨v, hv⟩ : ∃ v, [x, y, z].getD j 0 = v := ⟨_, rfl⟩
              rw [hv] at x1
              have HVV := Lib.hid hv
              have hs := Vm.sortOf_lt op j hlj
              have cf := fun w => fits_any (Vm.sortOf op j) v n w hs
              obtain ⟨s, hss⟩ : ∃ s, Vm.sortOf op j = s := ⟨_, rfl⟩
              rw [hss] at cf x3
              have HS := Lib.hid hss
              obtain ⟨fb, hfb⟩ : ∃ b, Vm.fits s v n = b := ⟨_, rfl⟩
              rw [hfb] at cf
              have HF := Lib.hid hfb
              have CF := Lib.hid cf
              have CS := Lib.hid sorts_any
              clear cf hv hss hs hfb e3
              go_wp2_with fail
              apply wp_region_typed (C := fun w' => Held wo [] [wo.heap.size] [(wo.heap.size, 104, #[.int .i64 (op : Int), .int .i64 x, .int .i64 y, .int .i64 z])] [] w') (n := 44) (m := 12) (l1 := [_, _, _, _, _, _, _, _, _, _, _, _]) (l2 := [])
              · rfl
              · rfl
              · kernel_rfl
              · rfl
              · kernel_rfl
              · exact U1.out.drew
              · exact fun u u' h hb => h.below hb
              repeat (first
                | ((apply wpT_exact; · (intro w' hC hf; unfold Gives; obtain ⟨d0, d1, d2, d3⟩ := cells4 (hC.box (.head _)); clear hf hC; go_wp2_with (fail); apply postT_val rfl (Below.refl _ _); simp only [valAt, Array.getD_eq_getD_getElem?, List.getElem?_toArray, List.getElem?_cons_succ, List.getElem?_cons_zero, Option.getD_some]; exact rfl)); (try simp only [Act.put, List.setIfInBounds_toArray, List.set_cons_zero, List.set_cons_succ]))
                | ((apply wpT_exact; · (intro w' hC hf; unfold Gives; clear hf hC; go_wp2_with (first | (go_at_call 44; ((with_reducible refine (CF.out _).mono ?_)); rintro e w2 ⟨rfl, rfl⟩) | (go_at_call 45; ((with_reducible refine (CS.out _).mono ?_)); rintro e w2 ⟨rfl, hb2⟩)); apply postT_val rfl (by first | exact Below.refl _ _ | assumption); simp only [valAt, Array.getD_eq_getD_getElem?, List.getElem?_toArray, List.getElem?_cons_succ, List.getElem?_cons_zero, Option.getD_some]; exact rfl)); (try simp only [Act.put, List.setIfInBounds_toArray, List.set_cons_zero, List.set_cons_succ])))
              apply wpT_done
              intro w3 hC _
              have U2 := Lib.hid hC
              clear hC
              cases fb
              · have HV := Lib.hid (Vm.vld_bad (p := p) (by rw [HN.out]; omega) hkp (by
                  rw [HI.out, HN.out, Vm.insOk_nums (by omega)]
                  have e := HF.out
                  rw [← HS.out, ← HVV.out] at e
                  match j, hlj, e with
                  | 0, _, e => have e' : Vm.fits (Vm.sortOf op 0) x n = false := e; rw [e']; rfl
                  | 1, _, e => have e' : Vm.fits (Vm.sortOf op 1) y n = false := e; rw [e', Bool.and_false]; rfl
                  | 2, _, e => have e' : Vm.fits (Vm.sortOf op 2) z n = false := e; rw [e', Bool.and_false]))
                go_wp2_with fail
                go_ret
                exact ⟨by rw [HV.out]; rfl, HB.out.trans (U2.out.bl.mono HB.out.size)⟩
              · go_wp2_with fail
                go_roundg (gk - 1)
                case measure => omega
                case rel =>
                  refine ⟨j + 1, by omega, by go_num, U2.out, fun q hq => ?_⟩
                  rcases Nat.lt_or_ge q j with h' | h'
                  · exact HQ.out q h'
                  · obtain rfl : q = j := by omega
                    rw [HS.out, HVV.out]; exact HF.out
            · have j1 : ¬ (j : Int) < 3 := by omega
              have hgood : Vm.insOk p.length p[k] = true := by
                rw [HI.out, HN.out, Vm.insOk_nums (by omega)]
                have q0 := HQ.out 0 (by omega); have q1 := HQ.out 1 (by omega); have q2 := HQ.out 2 (by omega)
                simp only [List.getD_cons_zero, List.getD_cons_succ] at q0 q1 q2
                rw [q0, q1, q2]; rfl
              have HG := Lib.hid hgood
              clear hgood
              go_wp2_with fail
              go_roundg (gq - 1)
              case measure => omega
              case rel =>
                refine ⟨k + 1, by omega, by go_num, HB.out.trans (U1.out.bl.mono HB.out.size), fun q hq hlt => ?_⟩
                rcases Nat.lt_or_ge q k with h' | h'
                · exact HA.out q hq h'
                · obtain rfl : q = k := by omega
                  exact HG.out
        · have HV := Lib.hid (Vm.vld_bad (p := p) (by rw [HN.out]; omega) hkp (by rw [HI.out]; exact Vm.insOk_op hop))
          by_cases h0 : op < 0
          · have o1 : decide (op < 0) = true := by simpa using h0
            go_wp2_with fail
            go_ret
            exact ⟨by rw [HV.out]; rfl, HB.out.alloc HB.out.size _⟩
          · have o1 : decide (op < 0) = false := by simpa using h0
            have o2 : decide (9 ≤ op) = true := decide_eq_true (by omega)
            go_wp2_with fail
            go_ret
            exact ⟨by rw [HV.out]; rfl, HB.out.alloc HB.out.size _⟩
      · have hv : Vm.vld p = 0 := Vm.vld_good (by rw [HN.out]; omega) fun j hj => HA.out j hj (by rw [HN.out] at hj; omega)
        have HV := Lib.hid hv
        have k1 : ¬ (k : Int) < (n : Int) := by omega
        clear hv
        go_wp2_with fail
        go_ret
        exact ⟨by rw [HV.out]; rfl, HB.out⟩
end Go.Proofs.YtdpcdocaahjeoaaDoor
namespace Go.Proofs.YtdpcdocaahjeoaaDoor
open Go Go.RowKit
def sortS (op : Nat) : ByteArray := str (([[99, 45, 45], [114, 110, 45], [114, 114, 114], [114, 114, 114], [114, 107, 45], [114, 107, 102], [105, 45, 45], [114, 114, 105], [114, 114, 105]] : List (List UInt8)).getD op [])
def SSTR : Array Value := #[.string (sortS 0), .string (sortS 1), .string (sortS 2), .string (sortS 3), .string (sortS 4), .string (sortS 5), .string (sortS 6), .string (sortS 7), .string (sortS 8)]
theorem sstr_get (op : Nat) (h : op < 9) : SSTR[op]? = some (.string (sortS op)) := by
  match op, h with
  | 0, _ | 1, _ | 2, _ | 3, _ | 4, _ | 5, _ | 6, _ | 7, _ | 8, _ => rfl
theorem sortS_size (op : Nat) (h : op < 9) : (sortS op).size = 3 := by
  match op, h with
  | 0, _ | 1, _ | 2, _ | 3, _ | 4, _ | 5, _ | 6, _ | 7, _ | 8, _ => rfl
theorem sortS_byte (op : Nat) (h : op < 9) (s : ByteArray) (hs : sortS op = s) (h3 : s.size = 3) : s[0] = Vm.sortB (Vm.sortOf op 0) ∧ s[1] = Vm.sortB (Vm.sortOf op 1) ∧ s[2] = Vm.sortB (Vm.sortOf op 2) := by
  subst hs
  match op, h with
  | 0, _ | 1, _ | 2, _ | 3, _ | 4, _ | 5, _ | 6, _ | 7, _ | 8, _ => exact ⟨rfl, rfl, rfl⟩
/-- A new slice of known cells. -/
def NewSl (n : Nat) (t : TypeId) (cs : Array Value) (w : World) (e : Ending) (w' : World) : Prop := ∃ g, e = .returned (.slice (some ⟨g, 0, none⟩) n n) ∧ w.heap.size ≤ g ∧ Blk w' g t cs ∧ Below w.heap.size w w'
theorem rSorts_any (w : World) : Calls Tryd.prog 38 #[] w (NewSl 9 9 SSTR w) := by
  go_enter Tryd.func38, Tryd.ntmps38
  go_wp2
  go_ret
  exact ⟨_, rfl, Nat.le_refl _, Blk.new _ _ _, (Below.refl _ _).alloc (Nat.le_refl _) _⟩
end Go.Proofs.YtdpcdocaahjeoaaDoor
