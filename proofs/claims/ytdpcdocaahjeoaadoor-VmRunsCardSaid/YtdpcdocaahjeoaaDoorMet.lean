/- What every row of the vm laws lays, and what the closing of each of them shares: the library's variables, the witness' world, the law of the results. -/
import Derived.Test.YtdpcdocaahjeoaaDoorCards
import Derived.Test.YtdpcdocaahjeoaaDoorTie
import Derived.Test.YtdpcdocaahjeoaaDoorW22
import Derived.Carry
import Derived.ChangeSlices
import Derived.Lib.SmallJoins
import Derived.WalkKit
import Derived.ProofKit
import Derived.OpenShut
import Derived.LaidMore
import Derived.LaidOnce
import Derived.Stop.LaidErr
import Derived.Deep.DeepHandedRow
import Derived.Deep.DeepWitnessRowRef
import Derived.Lib.LaidTab
import Derived.Below
import Derived.ChangeSame
namespace Go.Proofs.YtdpcdocaahjeoaaDoor
open Go Go.ChangeShapes Go.WideShapes Go.ChangeAt Go.RowKit
theorem own : ownKnob Tryd.prog.godebug = none := by kernel_rfl
theorem gB64 : Tryd.prog.globalNamed "math/bits.deBruijn64tab" = some 4 := by kernel_rfl
theorem tPow : (Tryd.prog.globals[0]?).map (·.type) = some 174 := by kernel_rfl
/-- The list of the library's variables, the same on every row. -/
abbrev laidAll : List (String × DataW Unit) := Rows.vmRunsRow.laid
theorem size_of_var {P : Program} {w : World} {n : String} {g : Nat} {cs : Array Value} (hg : P.globalNamed n = some g) (h : w.var? P n = some cs) : g < w.heap.size := by
  unfold World.var? at h
  rw [hg] at h
  rcases Nat.lt_or_ge g w.heap.size with h' | h'
  · exact h'
  · simp [Array.getElem?_eq_none h'] at h
theorem tenv_of_laid {W : World} (hL : laidMetH Tryd.prog laidAll W) : TEnv W := by
  have h : laidMet Tryd.prog laidAll W := hL
  have h2 := h.tail
  have h3 := h2.tail
  obtain ⟨_, ⟨g4, _, _, _, _, _, hg4, _, hv4, _⟩, _⟩ := h2
  obtain rfl := Option.some.inj (gB64.symm.trans hg4)
  exact ⟨Lib.tabIs_of_head gPow tPow Tryd.underlying174 Tryd.underlying149 (by kernel_rfl) (by kernel_rfl) h3, Nat.lt_of_le_of_lt (by decide) (size_of_var gB64 hv4)⟩
theorem laid_met (os : Os) (args : Array Value) : laidMet Tryd.prog laidAll ((World.doorLaid Tryd.prog 3000 os).forCall (fun _ _ => 0) ⟨#[], args, []⟩).memory :=
  laidMet_of_run' 8 (by kernel_rfl) (by kernel_rfl)
section
variable {H : Type} {enc : TypeId × Value → H} {P : Program}
/-- A call that left everything that stood as it was, answers with plain results, and has no variables to tell of. -/
theorem post_low {f : Func} {s : ChangeSpec} {apart fresh handsOn again : Bool} {W W' : World} {args : Array Value} {v : Value} {ds gs : List (DataW H)} {before : List MemPlace}
    (hW : DataW.Whole enc P f.params.toList s.vars apart W args.toList ds gs before) (hb : Below W.heap.size W W')
    (hres : ∀ (b : Nat) (sp : Nat → Bool) (hd : Bool), DataW.TrodAll enc P W' b sp hd f.resultTypes.toList (v.resultList f.resultTypes.size) (s.fn H (ds ++ gs)).results [])
    (hargs : ∀ sp : Nat → Bool, (∀ p ∈ before, sp p.block = true) → DataW.TrodAll enc P W' 0 sp true f.params.toList args.toList (s.fn H (ds ++ gs)).args before)
    (hvars : ∀ sp : Nat → Bool, DataW.TrodVars enc P W' sp s.vars (s.fn H (ds ++ gs)).vars [])
    (hok : ∀ (j : Nat) (t : TypeId) (r : Value), f.resultTypes[j]? = some t → (v.resultList f.resultTypes.size)[j]? = some r → Value.okWide P W' .any 0 t r) :
    s.post enc P f apart fresh handsOn again W args v W' := by
  have hold : ∀ p ∈ before, (fun b => decide (b < W.heap.size)) p.block = true := fun p hp => decide_eq_true (hW.lt p hp)
  have hz2 := hW
  obtain ⟨_, _, _, _, _, hz, hn⟩ := hz2
  have hwhole : DataW.TrodAll enc P W' 0 (fun _ => true) true f.params.toList args.toList (s.fn H (ds ++ gs)).args before := hargs _ (fun _ _ => rfl)
  refine ⟨ds, gs, before, [], before, [], hW, hres _ _ _, hargs _ hold, hvars _, World.keptBut_mono (fun p hp => ⟨hp, .inr (.inl hp)⟩) (hb.frame (· ∈ before)), fun _ => ?_⟩
  refine ⟨hok, _, _, ([] ++ before) ++ [], ⟨[] ++ before, [], trodAll_append hwhole (hres _ _ _), hvars _, rfl, ?_, ?_⟩, ?_⟩
  · intro b off hp
    have hin : MemPlace.cell b off ∈ before := by simpa using hp
    rw [hb.frozen (hW.lt _ hin)]
    exact hz b off hin
  · intro ha
    have := hn ha
    simpa using this
  · intro p hp _
    simpa using hp
end
theorem laidOut : laidOutB Tryd.prog = true := by kernel_rfl
section
variable {H : Type} {enc : TypeId × Value → H} {P : Program}
theorem trodAll_stays (hl : laidOutB P = true) {W W' : World} {sp : Nat → Bool} : ∀ (ts : List TypeId) (vs : List Value) (ds : List (DataW H)) (ps : List MemPlace),
    (ts.all fun t => P.readableRec t && decide (t < P.types.size)) = true → DataW.TrodAll enc P W 0 (fun _ => true) true ts vs ds ps → (∀ p ∈ ps, W.sameAt W' p) → (∀ p ∈ ps, sp p.block = true) → DataW.TrodAll enc P W' 0 sp true ts vs ds ps
  | [], vs, ds, ps, _, h, _, _ => by
    match vs, ds, h with
    | [], [], h => exact h
  | t :: ts, vs, ds, ps, ht, h, hs, hp => by
    obtain ⟨v, vs', d, ds', p, q, rfl, rfl, rfl, h1, h2⟩ := trodAll_cons h
    simp only [List.all_cons, Bool.and_eq_true, decide_eq_true_eq] at ht
    exact trodAll_cons_mk (WideElems.Trod_stays hl ht.1.1 ht.1.2 h1 (fun x hx => hs x (List.mem_append_left _ hx)) (fun x hx => hp x (List.mem_append_left _ hx)))
      (trodAll_stays hl ts vs' ds' q ht.2 h2 (fun x hx => hs x (List.mem_append_right _ hx)) (fun x hx => hp x (List.mem_append_right _ hx)))
/-- A law that says true, and leaves what it was handed as it was. -/
theorem post_law {f : Func} {s : ChangeSpec} {apart fresh handsOn again : Bool} {W W' : World} {args : Array Value} {ds : List (DataW H)} {before : List MemPlace} {tb : TypeId}
    (hl : laidOutB P = true) (hts : (f.params.toList.all fun t => P.readableRec t && decide (t < P.types.size)) = true) (hr : f.resultTypes = #[tb]) (htb : P.underlying tb = some .bool)
    (hW : DataW.Whole enc P f.params.toList s.vars apart W args.toList ds [] before) (hb : Below W.heap.size W W') (hv : s.vars = [])
    (hs : s.fn H ds = { results := [.lit (.bool true)], args := ds }) : s.post enc P f apart fresh handsOn again W args (.bool true) W' := by
  have hW0 := hW
  obtain ⟨p, q, hA, hV, hpq, hz, hn⟩ := hW
  have hq : q = [] := by rw [hv] at hV; exact (trodVars_none hV).2
  have hA' : DataW.TrodAll enc P W 0 (fun _ => true) true f.params.toList args.toList ds before := by
    have e : before = p := by rw [hpq, hq, List.append_nil]
    rw [e]; exact hA
  refine post_low hW0 hb ?_ ?_ ?_ (ok_one hr rfl (okWide_bool_mk htb _))
  · intro b sp hd
    rw [List.append_nil, hs]
    show DataW.TrodAll enc P W' b sp hd f.resultTypes.toList ((Value.bool true).resultList f.resultTypes.size) [.lit (.bool true)] []
    rw [hr]
    exact trodAll_cons_mk (shut_bool htb _) trodAll_mk0
  · intro sp hsp
    rw [List.append_nil, hs]
    exact trodAll_stays hl _ _ _ _ hts hA' (fun x hx => hb.same (hW0.lt x hx)) hsp
  · intro sp
    rw [List.append_nil, hs, hv]
    rfl
end
theorem inI_of_wf {x : Int} (h : (Lit.int .i64 x).wf = true) : inI x := by
  have h2 : -9223372036854775808 ≤ x ∧ x ≤ 9223372036854775807 := by
    simp [Lit.wf, IntKind.min, IntKind.max, IntKind.signed, IntKind.bits] at h
    omega
  exact h2
section
variable {H : Type} {enc : TypeId × Value → H} {P : Program} {W : World} {t e : TypeId} {v : Value} {d : DataW H} {ps : List MemPlace} {b0 : Nat}
theorem arg_int (ht : P.underlying t = some (.int .i64)) (hv : Value.okWide P W .any b0 t v) (h : DataW.Trod enc P W 0 (fun _ => true) true t v d ps) : ∃ a, v = .int .i64 a ∧ inI a := by
  obtain ⟨a, rfl, _, _, hw⟩ := open_int ht hv h
  exact ⟨a, rfl, inI_of_wf hw⟩
theorem arg_u8 (ht : P.underlying t = some (.int .u8)) (hv : Value.okWide P W .any b0 t v) (h : DataW.Trod enc P W 0 (fun _ => true) true t v d ps) : ∃ a : UInt8, v = .int .u8 a.toNat := by
  obtain ⟨a, rfl, _, _, hw⟩ := open_int ht hv h
  have h2 : 0 ≤ a ∧ a ≤ 255 := by
    simp [Lit.wf, IntKind.min, IntKind.max, IntKind.signed, IntKind.bits] at hw
    omega
  refine ⟨UInt8.ofNat a.toNat, ?_⟩
  congr 1
  simp
  omega
theorem arg_str (ht : P.underlying t = some .string) (hv : Value.okWide P W .any b0 t v) (h : DataW.Trod enc P W 0 (fun _ => true) true t v d ps) : ∃ s : ByteArray, v = .string s ∧ s.size ≤ 9223372036854775807 := by
  obtain ⟨s, rfl, _, _, hs⟩ := ChangeMaps.open_string ht hv h
  exact ⟨s, rfl, hs⟩
theorem arg_ints (ht : P.underlying t = some (.slice e)) (he : P.underlying e = some (.int .i64)) (hc : P.cellsOf e = 1) (hv : Value.okWide P W .any b0 t v)
    (h : DataW.Trod enc P W 0 (fun _ => true) true t v d ps) (hlt : ∀ p ∈ ps, p.block < W.heap.size) : ∃ A n c L, v = .slice A n c ∧ Ints W W.heap.size A n L ∧ AllI L ∧ n ≤ 9223372036854775807 := by
  obtain ⟨A, n, c, rfl⟩ := okWide_slice ht hv
  obtain ⟨fuel, hf⟩ := h
  rcases open_ints ht he hc hf with ⟨hcs, _⟩ | ⟨a, len, cap, zs, hcs, _, hl, hm, hz, hx, hcell, hw⟩
  · simp [Value.cells] at hcs
    obtain ⟨rfl, rfl, rfl⟩ := hcs
    exact ⟨none, 0, 0, [], rfl, Ints.nil, fun _ h => (by cases h), by omega⟩
  · simp [Value.cells] at hcs
    obtain ⟨rfl, rfl, rfl⟩ := hcs
    simp only [Prod.mk.injEq] at hx
    obtain ⟨rfl, rfl⟩ := hx
    simp only [if_true] at hz
    have hL : (zs.take n).length = n := by rw [List.length_take]; omega
    refine ⟨some a, n, c, zs.take n, rfl, ⟨by simp [intVals]; omega, fun hn => ⟨a, rfl, hlt (.cell a.block a.off) (MemPlace.mem_row.2 ⟨0, by omega, by simp⟩), fun j u hu => ?_⟩⟩, fun x hx => inI_of_wf (hw x (List.mem_of_mem_take hx)), by unfold maxLen at hm; omega⟩
    have hj : j < n := by
      have := (List.getElem?_eq_some_iff.1 hu).1
      simp [intVals] at this; omega
    rw [intVals_get (by omega)] at hu
    obtain rfl := Option.some.inj hu
    rw [hcell j (by omega)]
    simp [List.getD, hj]
end
theorem ints_sl {W : World} {A : Option Addr} {n : Nat} {L : List Int} (h : Ints W W.heap.size A n L) (hL : AllI L) : SlAt [] W A L := by
  rcases Nat.eq_zero_or_pos n with hn | hn
  · have := h.len
    rw [hn] at this
    exact .inl (List.eq_nil_of_length_eq_zero this)
  · obtain ⟨b, off, rfl, hb, hc⟩ := h.form hn
    refine .inr ⟨b, off, rfl, hb, (fun h => nomatch h), fun i hi => ⟨[.int .i64 L[i]], ⟨rfl, hL _ (List.getElem_mem hi)⟩, fun j u hu => ?_⟩⟩
    match j, hu with
    | 0, hu =>
      obtain rfl := Option.some.inj hu
      have := hc i hi
      rw [show i * Mem.sz Int + 0 = i from Nat.mul_one i, this]
      simp [List.getD, List.getElem?_eq_getElem hi]
/-- A slice of ints that was handed in. -/
theorem arg_sl {H : Type} {enc : TypeId × Value → H} {P : Program} {W : World} {t e : TypeId} {v : Value} {d : DataW H} {ps : List MemPlace} {b0 : Nat} (ht : P.underlying t = some (.slice e)) (he : P.underlying e = some (.int .i64)) (hc : P.cellsOf e = 1) (hv : Value.okWide P W .any b0 t v)
    (h : DataW.Trod enc P W 0 (fun _ => true) true t v d ps) (hlt : ∀ p ∈ ps, p.block < W.heap.size) : ∃ (A : Option Addr) (c : Nat) (L : List Int), v = .slice A L.length c ∧ SlAt [] W A L ∧ L.length ≤ c ∧ c ≤ 9223372036854775807 := by
  obtain ⟨A, n, c, L, rfl, hI, hA, hn⟩ := arg_ints ht he hc hv h hlt
  have hb : n ≤ c ∧ c ≤ 9223372036854775807 := by
    obtain ⟨fuel, hf⟩ := h
    rcases open_ints ht he hc hf with ⟨hcs, _⟩ | ⟨a, len, cap, zs, hcs, _, hl, hm, _⟩
    · simp [Value.cells] at hcs
      omega
    · simp [Value.cells] at hcs
      unfold maxLen at hm
      omega
  exact ⟨A, c, L, by rw [hI.len], ints_sl hI hA, by rw [hI.len]; exact hb.1, hb.2⟩
end Go.Proofs.YtdpcdocaahjeoaaDoor
