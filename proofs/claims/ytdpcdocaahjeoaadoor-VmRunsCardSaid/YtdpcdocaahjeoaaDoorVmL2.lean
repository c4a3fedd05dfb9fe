/- What the walks of the laws about Run share. -/
import Derived.Test.YtdpcdocaahjeoaaDoorW39
import Derived.Test.YtdpcdocaahjeoaaDoorW46
import Derived.Test.YtdpcdocaahjeoaaDoorW30
import Derived.Test.YtdpcdocaahjeoaaDoorVmL1
namespace Go.Proofs.YtdpcdocaahjeoaaDoor
open Go Go.RowKit
theorem Sg.Schema.bd' {x : Sch} (h : Sg.Schema x) : 1 ≤ (Sc.kinds x).length ∧ (Sc.kinds x).length ≤ 3 ∧ ∀ kn ∈ Sc.kinds x, 1 ≤ (Sc.flds kn).length ∧ (Sc.flds kn).length ≤ 10 := by
  cases h with
  | mk ver ks lf i rs _ _ h1 h2 hk _ _ _ =>
    refine ⟨h1, h2, fun kn hkn => ?_⟩
    have := hk.ok h2 kn hkn
    exact ⟨this.len1, by rcases this.len with h | h <;> omega⟩
/-- The schema's parts. -/
def SchemaU (w : World) (e : Ending) (w' : World) : Prop := ∃ x A1 c1 A2 c2 A3 c3, e = .returned (.agg #[.int .i64 x.1, .slice A1 (Sc.kinds x).length c1, .slice A2 x.2.2.1.length c2, .slice A3 x.2.2.2.length c3]) ∧ Sg.Schema x ∧ Mem.rep [] w' x [.int .i64 x.1, .slice A1 (Sc.kinds x).length c1, .slice A2 x.2.2.1.length c2, .slice A3 x.2.2.2.length c3] ∧ Below w.heap.size w w'
theorem schemaU_any (l : List Int) (A : Option Addr) (c : Nat) (w : World) (hs : SlAt [] w A l) (hc : l.length ≤ c) (hm : c ≤ 9223372036854775807) : Calls Tryd.prog 9 #[.slice A l.length c] w (SchemaU w) :=
  (gschema_any l A c w hs hc hm).mono fun e w' h => by
    unfold SchemaP at h
    obtain ⟨x, v, rfl, hsx, ⟨us, rfl, hu⟩, hb⟩ := h
    obtain ⟨A1, c1, A2, c2, A3, c3, rfl, _⟩ := rep_sch hu
    exact ⟨x, A1, c1, A2, c2, A3, c3, rfl, hsx, hu, hb⟩
/-- A run from a world that has all that it reads. -/
theorem run_env {x : Sch} {us : Array Value} {p : List Vm.Ins} {Ap : Option Addr} {wl : Wor} {Aw : Option Addr} {w : World} (hx : Mem.rep [] w x us.toList) (hp : SlAt [] w Ap p) (hm : p.length ≤ 1000000) (hw : SlAt [] w Aw wl) (hwm : wl.length ≤ 1000000)
    (N : Int) {a b c : Int} (hr : Vm.run (shp (Sc.kinds x)) p wl N = (a, b, c)) (cp cw : Nat) (W : World) (hb : Below w.heap.size w W) :
    Calls Tryd.prog 14 #[.agg us, .slice Ap p.length cp, .iface 46 (.agg #[.slice Aw wl.length cw]), .int .i64 N] W fun e w' => e = .returned (.tuple #[.agg #[.int .i64 a, .int .i64 b], .int .i64 c]) ∧ Below W.heap.size W w' :=
  (run_any x (.agg us) p Ap cp wl Aw cw N W ⟨us.toList, by simp, Mem.keep hx (Chg.of_below (G := []) hb)⟩ (hp.keep (Chg.of_below hb)) (by omega) (hw.keep (Chg.of_below hb)) (by omega)).mono fun e w' ⟨h, hb⟩ => ⟨by
    rw [hr] at h
    exact h, hb⟩
theorem Below.then_ {a b c : World} (h : Below a.heap.size a b) (k : Below b.heap.size b c) : Below a.heap.size a c := h.trans (k.mono h.size)
theorem below_drew (W : World) : Below W.heap.size W W.drew := ⟨rfl, rfl, rfl, Nat.le_refl _, fun _ _ => rfl⟩
theorem below_alloc (W : World) (o : Obj) : Below W.heap.size W (W.alloc o) := (Below.refl _ _).alloc (Nat.le_refl _) o
theorem below_drew_alloc (W : World) (o : Obj) : Below W.heap.size W (W.drew.alloc o) := Below.then_ (below_drew W) (below_alloc _ o)
theorem below_alloc_drew (W : World) (o : Obj) : Below W.heap.size W (W.alloc o).drew := Below.then_ (below_alloc W o) (below_drew _)
/-- A box that was made behind W holds what came. -/
def ResBox (W w' : World) (g : Nat) (t : TypeId) (a b : Value) : Prop := Below W.heap.size W w' ∧ W.heap.size ≤ g ∧ Blk w' g t #[a, b]
theorem res_fill {W w3 : World} {t : TypeId} {a b : Value} (hb : Below (W.alloc (.cells #[a, b] t)).drew.heap.size (W.alloc (.cells #[a, b] t)).drew w3) (x y : Value) :
    ResBox W ((w3.setCell ⟨W.heap.size, 0, none⟩ x).setCell ⟨W.heap.size, 1, none⟩ y) W.heap.size t x y := by
  have h1 := Below.then_ (below_alloc_drew W (.cells #[a, b] t)) hb
  refine ⟨(h1.setCell (p := ⟨W.heap.size, 0, none⟩) (Nat.le_refl _) _).setCell (p := ⟨W.heap.size, 1, none⟩) (Nat.le_refl _) _, Nat.le_refl _, ?_⟩
  have hk : Blk w3 W.heap.size t #[a, b] := Blk.below ((Blk.new W t #[a, b]).drew) hb (by simp)
  exact (hk.set_ 0 x).set_ 1 y
theorem res_fill2 {W w2 w3 : World} {t : TypeId} {a b : Value} (h : Below W.heap.size W w2) (hb : Below (w2.alloc (.cells #[a, b] t)).heap.size (w2.alloc (.cells #[a, b] t)) w3) (x y : Value) :
    ResBox W ((w3.setCell ⟨w2.heap.size, 0, none⟩ x).setCell ⟨w2.heap.size, 1, none⟩ y) w2.heap.size t x y := by
  have h1 := Below.then_ h (Below.then_ (below_alloc w2 (.cells #[a, b] t)) hb)
  refine ⟨(h1.setCell (p := ⟨w2.heap.size, 0, none⟩) h.size _).setCell (p := ⟨w2.heap.size, 1, none⟩) h.size _, h.size, ?_⟩
  have hk : Blk w3 w2.heap.size t #[a, b] := Blk.below (Blk.new w2 t #[a, b]) hb (by simp)
  exact (hk.set_ 0 x).set_ 1 y
theorem res_new {W w3 : World} (t : TypeId) (hb : Below W.heap.size W w3) (x y : Value) : ResBox W (w3.alloc (.cells #[x, y] t)) w3.heap.size t x y :=
  ⟨Below.then_ hb (below_alloc _ _), hb.size, Blk.new _ _ _⟩
theorem cells2' {w : World} {g : Nat} {t : TypeId} {a b : Value} (h : Blk w g t #[a, b]) : w.cell? ⟨g, 0, none⟩ = some a ∧ w.cell? ⟨g, 1, none⟩ = some b := ⟨h.cell 0, h.cell 1⟩
theorem cells1' {w : World} {g : Nat} {t : TypeId} {a : Value} (h : Blk w g t #[a]) : w.cell? ⟨g, 0, none⟩ = some a := h.cell 0
end Go.Proofs.YtdpcdocaahjeoaaDoor
