/- What every calendar row lays, and what the closing of each of them shares: the library's variables, the witness' world, the law of the results. -/
import Derived.Test.YtlfgjpidamkpdaaDoorCards
import Derived.Test.YtlfgjpidamkpdaaDoorTie
import Derived.Test.YtlfgjpidamkpdaaDoorW5
import Derived.WalkKit
import Derived.ProofKit
import Derived.OpenShut
import Derived.LaidMore
import Derived.LaidOnce
import Derived.Stop.LaidErr
import Derived.Deep.DeepHandedRow
import Derived.Deep.DeepWitnessRowRef
import Derived.Lib.LaidTab
import Derived.Below
import Derived.ChangeSame
namespace Go.Proofs.YtlfgjpidamkpdaaDoor
open Go Go.ChangeShapes Go.WideShapes Go.ChangeAt Go.RowKit
theorem own : ownKnob Tryd.prog.godebug = none := by kernel_rfl
theorem gB64 : Tryd.prog.globalNamed "math/bits.deBruijn64tab" = some 4 := by kernel_rfl
theorem tPow : (Tryd.prog.globals[2]?).map (·.type) = some 96 := by kernel_rfl
theorem tSyn : (Tryd.prog.globals[0]?).map (·.type) = some 63 := by kernel_rfl
theorem tRng : (Tryd.prog.globals[1]?).map (·.type) = some 63 := by kernel_rfl
theorem rowErr (u : TypeId) (h : Tryd.prog.typeName? 3 u = some "*errors.errorString") : u = 103 :=
  typeName_ptr_named (nm := "errors.errorString") (by rw [show ("*" ++ "errors.errorString" : String) = "*errors.errorString" from by decide]; kernel_rfl) (by kernel_rfl) (by decide) u (by rw [show ("*" ++ "errors.errorString" : String) = "*errors.errorString" from by decide]; exact h)
/-- The list of the library's variables, the same on every row. -/
abbrev laidAll : List (String × DataW Unit) := Rows.calendarDaysRow.laid
theorem size_of_var {P : Program} {w : World} {n : String} {g : Nat} {cs : Array Value} (hg : P.globalNamed n = some g) (h : w.var? P n = some cs) : g < w.heap.size := by
  unfold World.var? at h
  rw [hg] at h
  rcases Nat.lt_or_ge g w.heap.size with h' | h'
  · exact h'
  · simp [Array.getElem?_eq_none h'] at h
theorem tenv_of_laid {W : World} (hL : laidMetH Tryd.prog laidAll W) : TEnv W := by
  have h : laidMet Tryd.prog laidAll W := hL
  have h2 := h.tail
  have h3 := h2.tail
  have h4 := h3.tail
  have h5 := h4.tail
  obtain ⟨_, ⟨g4, _, _, _, _, _, hg4, _, hv4, _⟩, _⟩ := h2
  obtain rfl := Option.some.inj (gB64.symm.trans hg4)
  obtain ⟨a1, s1, hv1, _⟩ := laid_sentinel h4 gRng tRng Tryd.underlying63 rowErr Tryd.underlying103 Tryd.underlying105 rfl rfl Tryd.underlying9 (by kernel_rfl) (by kernel_rfl)
  obtain ⟨a0, s0, hv0, _⟩ := laid_sentinel h5 gSyn tSyn Tryd.underlying63 rowErr Tryd.underlying103 Tryd.underlying105 rfl rfl Tryd.underlying9 (by kernel_rfl) (by kernel_rfl)
  exact ⟨Lib.tabIs_of_head gPow tPow Tryd.underlying96 Tryd.underlying83 (by kernel_rfl) (by kernel_rfl) h3, ⟨_, _, hv0⟩, ⟨_, _, hv1⟩, size_of_var gB64 hv4⟩
theorem laid_met (os : Os) (args : Array Value) : laidMet Tryd.prog laidAll ((World.doorLaid Tryd.prog 3000 os).forCall (fun _ _ => 0) ⟨#[], args, []⟩).memory :=
  laidMet_of_run' 8 (by kernel_rfl) (by kernel_rfl)
section
variable {H : Type} {enc : TypeId × Value → H} {P : Program}
/-- A call that left everything that stood as it was, answers with plain results, and has no variables to tell of. -/
theorem post_low {f : Func} {s : ChangeSpec} {apart fresh handsOn again : Bool} {W W' : World} {args : Array Value} {v : Value} {ds gs : List (DataW H)} {before : List MemPlace}
    (hW : DataW.Whole enc P f.params.toList s.vars apart W args.toList ds gs before) (hb : Below W.heap.size W W')
    (hres : ∀ (b : Nat) (sp : Nat → Bool) (hd : Bool), DataW.TrodAll enc P W' b sp hd f.resultTypes.toList (v.resultList f.resultTypes.size) (s.fn H (ds ++ gs)).results [])
    (hargs : ∀ sp : Nat → Bool, (∀ p ∈ before, sp p.block = true) → DataW.TrodAll enc P W' 0 sp true f.params.toList args.toList (s.fn H (ds ++ gs)).args before)
    (hvars : ∀ sp : Nat → Bool, DataW.TrodVars enc P W' sp s.vars (s.fn H (ds ++ gs)).vars [])
    (hok : ∀ (j : Nat) (t : TypeId) (r : Value), f.resultTypes[j]? = some t → (v.resultList f.resultTypes.size)[j]? = some r → Value.okWide P W' .any 0 t r) :
    s.post enc P f apart fresh handsOn again W args v W' := by
  have hold : ∀ p ∈ before, (fun b => decide (b < W.heap.size)) p.block = true := fun p hp => decide_eq_true (hW.lt p hp)
  have hz2 := hW
  obtain ⟨_, _, _, _, _, hz, hn⟩ := hz2
  have hwhole : DataW.TrodAll enc P W' 0 (fun _ => true) true f.params.toList args.toList (s.fn H (ds ++ gs)).args before := hargs _ (fun _ _ => rfl)
  refine ⟨ds, gs, before, [], before, [], hW, hres _ _ _, hargs _ hold, hvars _, World.keptBut_mono (fun p hp => ⟨hp, .inr (.inl hp)⟩) (hb.frame (· ∈ before)), fun _ => ?_⟩
  refine ⟨hok, _, _, ([] ++ before) ++ [], ⟨[] ++ before, [], trodAll_append hwhole (hres _ _ _), hvars _, rfl, ?_, ?_⟩, ?_⟩
  · intro b off hp
    have hin : MemPlace.cell b off ∈ before := by simpa using hp
    rw [hb.frozen (hW.lt _ hin)]
    exact hz b off hin
  · intro ha
    have := hn ha
    simpa using this
  · intro p hp _
    simpa using hp
end
end Go.Proofs.YtlfgjpidamkpdaaDoor
