/- An argument that is a struct of four ints. -/
import Derived.Test.YtlfgjpidamkpdaaDoorMet2
namespace Go.Proofs.YtlfgjpidamkpdaaDoor
open Go Go.ChangeShapes Go.WideShapes Go.ChangeAt Go.RowKit
section
variable {H : Type} {enc : TypeId × Value → H} {P : Program} {W : World} {t : TypeId} {v : Value} {d : DataW H} {ps : List MemPlace} {b0 : Nat}
theorem arg_four {f0 f1 f2 f3 : Field} (hs : P.underlying t = some (.struct #[f0, f1, f2, f3])) (hone : Deep.oneCellFields P #[f0, f1, f2, f3] = true) (hC : P.cellsOf t = 4)
    (h0 : P.underlying f0.type = some (.int .i64)) (h1 : P.underlying f1.type = some (.int .i64)) (h2 : P.underlying f2.type = some (.int .i64)) (h3 : P.underlying f3.type = some (.int .i64))
    (hv : Value.okWide P W .any b0 t v) (h : DataW.Trod enc P W 0 (fun _ => true) true t v d ps) : ∃ a b c e, v = .agg #[.int .i64 a, .int .i64 b, .int .i64 c, .int .i64 e] ∧ inI a ∧ inI b ∧ inI c ∧ inI e := by
  obtain ⟨v0, v1, v2, v3, y0, y1, y2, y3, n, rfl, _, _, t0, t1, t2, t3⟩ := Joins.open_agg4 hs hone hC hv h
  obtain ⟨a, e0, _, w0⟩ := DataW.trod_int h0 t0
  obtain ⟨b, e1, _, w1⟩ := DataW.trod_int h1 t1
  obtain ⟨c, e2, _, w2⟩ := DataW.trod_int h2 t2
  obtain ⟨e, e3, _, w3⟩ := DataW.trod_int h3 t3
  injection e0 with e0; injection e1 with e1; injection e2 with e2; injection e3 with e3
  subst e0 e1 e2 e3
  exact ⟨a, b, c, e, rfl, inI_of_wf w0, inI_of_wf w1, inI_of_wf w2, inI_of_wf w3⟩
end
set_option maxRecDepth 100000 in
theorem arg_zone {H : Type} {enc : TypeId × Value → H} {W : World} {v : Value} {d : DataW H} {ps : List MemPlace} {b0 : Nat} (hv : Value.okWide Tryd.prog W .any b0 39 v) (h : DataW.Trod enc Tryd.prog W 0 (fun _ => true) true 39 v d ps) :
    ∃ a b c e, v = .agg #[.int .i64 a, .int .i64 b, .int .i64 c, .int .i64 e] ∧ inI a ∧ inI b ∧ inI c ∧ inI e :=
  arg_four Tryd.underlying39 (by kernel_rfl) (by kernel_rfl) Tryd.underlying3 Tryd.underlying3 Tryd.underlying3 Tryd.underlying3 hv h
end Go.Proofs.YtlfgjpidamkpdaaDoor
