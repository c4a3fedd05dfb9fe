/- Run: what both need. -/
import Derived.Test.YtdpcdocaahjeoaaDoorM2
namespace Go.Proofs.YtdpcdocaahjeoaaDoor
open Go Go.RowKit
theorem cells2 {w : World} {g : Nat} {t : TypeId} {a b : Value} (h : Blk w g t #[a, b]) : w.cell? ⟨g, 0, none⟩ = some a ∧ w.cell? ⟨g, 1, none⟩ = some b ∧ w.frozen? ⟨g, 0, none⟩ = false ∧ w.frozen? ⟨g, 1, none⟩ = false := ⟨h.cell 0, h.cell 1, h.frozen 0, h.frozen 1⟩
def TupR (R : Int × Int × Int) (e : Ending) : Prop := e = .returned (.tuple #[.agg #[.int .i64 R.1, .int .i64 R.2.1], .int .i64 R.2.2])
theorem set2 {w : World} {g : Nat} {t : TypeId} {a b : Value} (h : Blk w g t #[a, b]) (x y : Value) : Blk ((w.setCell ⟨g, 0, none⟩ x).setCell ⟨g, 1, none⟩ y) g t #[x, y] := (h.set_ 0 x).set_ 1 y
theorem fin2 {fn : Func} {a : Act} {w : World} {b s u : Nat} {x y c : Int} {R : Ending → World → Prop} (hr : fn.results = #[.cell s 38, .tmp u]) (ha : a.tmps.getD s undef = .pointer (some ⟨b, 0, none⟩)) (hc : a.tmps.getD u undef = .int .i64 c) (hd : a.defers = [])
    (hb : Blk w b 38 #[.int .i64 x, .int .i64 y]) (hR : R (.returned (.tuple #[.agg #[.int .i64 x, .int .i64 y], .int .i64 c])) w) : bodyPost Tryd.prog fn R .ret a w := by
  have k0 : w.cell? ⟨b, 0, none⟩ = some (.int .i64 x) := hb.cell 0
  have k1 : w.cell? ⟨b, 1, none⟩ = some (.int .i64 y) := hb.cell 1
  refine bodyPost_ret (v := .tuple #[.agg #[.int .i64 x, .int .i64 y], .int .i64 c]) ?_ hd hR
  simp only [Array.getD_eq_getD_getElem?] at ha hc
  simp [results, hr, go_sem, ha, hc, k0, k1]
theorem tupR_mk {R : Int × Int × Int} {a b c : Int} (h : R = (a, b, c)) : TupR R (.returned (.tuple #[.agg #[.int .i64 a, .int .i64 b], .int .i64 c])) := by subst h; rfl
/-- The boxes of Run ahead of its loop: the schema's, the result's. -/
theorem run_box (w : World) (s : Array Value) : Held w [] [w.heap.size + 1, w.heap.size] [(w.heap.size + 1, 38, #[.int .i64 0, .int .i64 0]), (w.heap.size, 27, s)] [] ((w.alloc (.cells s 27)).alloc (.cells #[.int .i64 0, .int .i64 0] 38)) :=
  ((held0 w [] (fun _ h => by cases h)).new s 27 rfl).new #[.int .i64 0, .int .i64 0] 38 (N := w.heap.size + 1) (by simp)
theorem Held.res {w W : World} {M : List Nat} {bx : List Box} {N : Nat} {t : TypeId} {a b : Value} {L : List (List Nat → World → Prop)} (h : Held w [] M ((N, t, #[a, b]) :: bx) L W) (x y : Value) :
    Blk ((W.setCell ⟨N, 0, none⟩ x).setCell ⟨N, 1, none⟩ y) N t #[x, y] ∧ Below w.heap.size w ((W.setCell ⟨N, 0, none⟩ x).setCell ⟨N, 1, none⟩ y) := by
  have hb := (h.bs _ (.head _))
  exact ⟨set2 hb.2.2 _ _, (h.bl.setCell (p := ⟨N, 0, none⟩) hb.2.1 _).setCell (p := ⟨N, 1, none⟩) hb.2.1 _⟩
theorem meth_c (A : Option Addr) (n c : Nat) (w : World) : (method 157 46 (.agg #[.slice A n c]) "Count").run Tryd.prog w = .ok (123, .agg #[.slice A n c]) w := by kernel_rfl
theorem nil_ahead_v (A : Option Addr) (n c : Nat) (w : World) : (nilAhead 307 46 (.agg #[.slice A n c]) "Value").run Tryd.prog w = .ok (some false) w := by kernel_rfl
theorem meth_v (A : Option Addr) (n c : Nat) (w : World) : (method 157 46 (.agg #[.slice A n c]) "Value").run Tryd.prog w = .ok (124, .agg #[.slice A n c]) w := by kernel_rfl
theorem ins_cases {n : Int} {op a b c : Int} (h : Vm.insOk n (op, a, b, c) = true) :
    (op = 0 ∧ 0 ≤ a ∧ a ≤ 250) ∨ (op = 1 ∧ 0 ≤ a ∧ a ≤ 7) ∨ (op = 2 ∧ 0 ≤ a ∧ a ≤ 7 ∧ 0 ≤ b ∧ b ≤ 7 ∧ 0 ≤ c ∧ c ≤ 7) ∨ (op = 3 ∧ 0 ≤ a ∧ a ≤ 7 ∧ 0 ≤ b ∧ b ≤ 7 ∧ 0 ≤ c ∧ c ≤ 7) ∨
    (op = 4 ∧ 0 ≤ a ∧ a ≤ 7 ∧ 0 ≤ b ∧ b ≤ 5) ∨ (op = 5 ∧ 0 ≤ a ∧ a ≤ 7 ∧ 0 ≤ b ∧ b ≤ 5 ∧ 0 ≤ c ∧ c ≤ 9) ∨ (op = 6 ∧ 0 ≤ a ∧ a ≤ n) ∨ (op = 7 ∧ 0 ≤ a ∧ a ≤ 7 ∧ 0 ≤ b ∧ b ≤ 7 ∧ 0 ≤ c ∧ c ≤ n) ∨ (op = 8 ∧ 0 ≤ a ∧ a ≤ 7 ∧ 0 ≤ b ∧ b ≤ 7 ∧ 0 ≤ c ∧ c ≤ n) := by
  unfold Vm.insOk at h
  simp only [Bool.and_eq_true, decide_eq_true_eq] at h
  obtain ⟨⟨⟨⟨h0, h8⟩, f0⟩, f1⟩, f2⟩ := h
  have key : op = 0 ∨ op = 1 ∨ op = 2 ∨ op = 3 ∨ op = 4 ∨ op = 5 ∨ op = 6 ∨ op = 7 ∨ op = 8 := by omega
  rcases key with e | e | e | e | e | e | e | e | e <;> subst e <;> simp [Vm.sortOf, Vm.fits] at f0 f1 f2 <;> simp <;> omega
theorem regc {w : World} {g : Nat} {t : TypeId} {r : List Int} (h : Blk w g t (regV r)) (h8 : r.length = 8) (k : Nat) (hk : k < 8) : w.cell? ⟨g, k, none⟩ = some (.int .i64 (r.getD k 0)) := (h.cell k).trans (regV_get (by omega))
theorem nil_ahead_c (A : Option Addr) (n c : Nat) (w : World) : (nilAhead 157 46 (.agg #[.slice A n c]) "Count").run Tryd.prog w = .ok (some false) w := by kernel_rfl
end Go.Proofs.YtdpcdocaahjeoaaDoor
