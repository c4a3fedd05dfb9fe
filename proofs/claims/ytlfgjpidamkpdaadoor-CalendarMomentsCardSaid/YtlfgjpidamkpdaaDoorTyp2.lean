/- A region that draws its order, walked once: each operation's value is told by a predicate that later steps keep; an operation may lay memory. -/
import Derived.Orders
import Derived.Below
import Derived.Still
import Derived.Tactics
namespace Go.Proofs.YtlfgjpidamkpdaaDoor
open Go Go.RowKit
/-- What is known of the value of an operation: the value itself, or a predicate that holds of it in each later world. -/
inductive Spec where
  | exact (c : Value)
  | typed (T : Value → World → Prop)
namespace Spec
def holds : Spec → Value → World → Prop
  | .exact c, v, _ => v = c
  | .typed T, v, w => T v w
def val : Spec → Value → Value
  | .exact c, _ => c
  | .typed _, v => v
end Spec
def Kept (T : Value → World → Prop) : Prop := ∀ v w w', T v w → Below w.heap.size w w' → T v w'
def depsOf (o : Oper) : List Nat := (o.after.toList.filter (Region.binds .any)).map (·.on)
def valAt (o : Oper) (a : Act) : Value := match o.dst with
  | some d => a.tmps.getD d undef
  | none => undef
/-- The operation, carried out alone in this frame and world, yields a value of this kind, and nothing that was there has turned. -/
def PostT (o : Oper) (a : Act) (w : World) (R : Value → World → Prop) (e : Exit) (a' : Act) (w' : World) : Prop := e = .normal ∧ a'.defers = a.defers ∧ Below w.heap.size w w' ∧ R (valAt o a') w'
def Gives (P : Program) (ops : Array Oper) (o : Oper) (a : Act) (w : World) (R : Value → World → Prop) : Prop := wpList P ops (PostT o a w R) [o] a w
theorem postT_mk {o : Oper} {a a' : Act} {w w' : World} {R : Value → World → Prop} (hd : a'.defers = a.defers) (hb : Below w.heap.size w w') (hr : R (valAt o a') w') : PostT o a w R .normal a' w' := ⟨rfl, hd, hb, hr⟩
theorem postT_val {o : Oper} {a a' : Act} {w w' : World} {c : Value} (hd : a'.defers = a.defers) (hb : Below w.heap.size w w') (hv : valAt o a' = c) : PostT o a w (fun v _ => v = c) .normal a' w' := ⟨rfl, hd, hb, hv⟩
def factsOn : List (Nat × (World → Prop)) → List Nat → World → Prop
  | [], _, _ => True
  | p :: r, ds, w => (ds.contains p.1 = true → p.2 w) ∧ factsOn r ds w
def allFacts : List (Nat × (World → Prop)) → World → Prop
  | [], _ => True
  | p :: r, w => p.2 w ∧ allFacts r w
section
variable (P : Program) (ops : Array Oper) (C : World → Prop) (Q : Act → World → Prop)
def wpT : List Oper → List Spec → Nat → List (Nat × (World → Prop)) → Act → Prop
  | [], _, _, fs, a => ∀ w, C w → allFacts fs w → Q a w
  | _ :: _, [], _, _, _ => False
  | o :: os, .exact c :: ss, k, fs, a =>
    (∀ w, C w → factsOn fs (depsOf o) w → Gives P ops o a w (fun v _ => v = c)) ∧ wpT os ss (k + 1) fs (a.put o.dst c)
  | o :: os, .typed T :: ss, k, fs, a =>
    (Kept T ∧ ∀ w, C w → factsOn fs (depsOf o) w → Gives P ops o a w T) ∧ ∀ v, wpT os ss (k + 1) ((k, T v) :: fs) (a.put o.dst v)
end
def frameAt (vs : Nat → Value) : List Oper → List Spec → Nat → Act → Nat → Act
  | o :: os, s :: ss, k, a, j + 1 => frameAt vs os ss (k + 1) (a.put o.dst (s.val (vs k))) j
  | _, _, _, a, _ => a
section
variable {P : Program} {ops : Array Oper} {C : World → Prop} {Q : Act → World → Prop}
def HoldsAt (SS : List Spec) (vs : Nat → Value) (i : Nat) (w : World) : Prop := ∀ s, SS[i]? = some s → s.holds (vs i) w
theorem factsOn_of {H : Nat → World → Prop} {ds : List Nat} {w : World} (hd : ∀ i ∈ ds, H i w) : ∀ {fs : List (Nat × (World → Prop))}, (∀ p ∈ fs, ∀ w, H p.1 w → p.2 w) → factsOn fs ds w
  | [], _ => trivial
  | p :: _, h => ⟨fun hc => h p List.mem_cons_self w (hd _ (by simpa using hc)), factsOn_of hd (fun q hq => h q (List.mem_cons_of_mem _ hq))⟩
theorem allFacts_of {H : Nat → World → Prop} {w : World} : ∀ {fs : List (Nat × (World → Prop))}, (∀ p ∈ fs, ∀ w, H p.1 w → p.2 w) → (∀ p ∈ fs, H p.1 w) → allFacts fs w
  | [], _, _ => trivial
  | p :: r, h, hh => ⟨h p List.mem_cons_self w (hh p List.mem_cons_self), allFacts_of (fun q hq => h q (List.mem_cons_of_mem _ hq)) (fun q hq => hh q (List.mem_cons_of_mem _ hq))⟩
theorem wpT_extract (SS : List Spec) (vs : Nat → Value) : ∀ (os : List Oper) (ss : List Spec) (k : Nat) (fs : List (Nat × (World → Prop))) (a : Act),
    (∀ j, ss[j]? = SS[k + j]?) → (∀ p ∈ fs, p.1 < k ∧ ∀ w, HoldsAt SS vs p.1 w → p.2 w) → wpT P ops C Q os ss k fs a →
    (∀ j o, os[j]? = some o → ∃ s, ss[j]? = some s ∧ (∀ T, s = .typed T → Kept T) ∧
      ∀ w, C w → (∀ i ∈ depsOf o, HoldsAt SS vs i w) → Gives P ops o (frameAt vs os ss k a j) w s.holds) ∧
    (∀ w, C w → (∀ i, i < k + os.length → HoldsAt SS vs i w) → Q (frameAt vs os ss k a os.length) w)
  | [], ss, k, fs, a, hss, hfs, h => by
    refine ⟨fun j o ho => by simp at ho, fun w hw hH => ?_⟩
    have e : frameAt vs [] ss k a 0 = a := by cases ss <;> rfl
    rw [List.length_nil, e]
    exact h w hw (allFacts_of (H := HoldsAt SS vs) (fun p hp => (hfs p hp).2) (fun p hp => hH _ (by have := (hfs p hp).1; simp; exact this)))
  | o :: os, [], k, fs, a, _, _, h => h.elim
  | o :: os, .exact c :: ss, k, fs, a, hss, hfs, h => by
    obtain ⟨h1, h2⟩ := h
    obtain ⟨r1, r2⟩ := wpT_extract SS vs os ss (k + 1) fs (a.put o.dst c) (fun j => by have := hss (j + 1); rw [List.getElem?_cons_succ] at this; rw [this]; congr 1; omega) (fun p hp => ⟨by have := (hfs p hp).1; omega, (hfs p hp).2⟩) h2
    refine ⟨fun j o' ho => ?_, fun w hw hH => ?_⟩
    · cases j with
      | zero =>
        simp at ho; subst ho
        exact ⟨.exact c, rfl, (fun T hT => by cases hT), fun w hC hd => h1 w hC (factsOn_of (H := HoldsAt SS vs) hd (fun p hp => (hfs p hp).2))⟩
      | succ j => exact r1 j o' (by simpa using ho)
    · exact r2 w hw (fun i hi => hH i (by simp at hi ⊢; omega))
  | o :: os, .typed T :: ss, k, fs, a, hss, hfs, h => by
    obtain ⟨⟨hk, h1⟩, h2⟩ := h
    have hk0 : SS[k]? = some (.typed T) := by have := hss 0; simpa using this.symm
    obtain ⟨r1, r2⟩ := wpT_extract SS vs os ss (k + 1) ((k, T (vs k)) :: fs) (a.put o.dst (vs k)) (fun j => by have := hss (j + 1); rw [List.getElem?_cons_succ] at this; rw [this]; congr 1; omega)
      (fun p hp => by
        rcases List.mem_cons.1 hp with rfl | hp
        · exact ⟨Nat.lt_succ_self _, fun w hH => hH _ hk0⟩
        · exact ⟨by have := (hfs p hp).1; omega, (hfs p hp).2⟩) (h2 _)
    refine ⟨fun j o' ho => ?_, fun w hw hH => ?_⟩
    · cases j with
      | zero =>
        simp at ho; subst ho
        exact ⟨.typed T, rfl, fun T' hT => by injection hT with hT; subst hT; exact hk, fun w hC hd => h1 w hC (factsOn_of (H := HoldsAt SS vs) hd (fun p hp => (hfs p hp).2))⟩
      | succ j => exact r1 j o' (by simpa using ho)
    · exact r2 w hw (fun i hi => hH i (by simp at hi ⊢; omega))
/-- Each of the first m operations writes a slot of its own, which is there; it looks at slots that an operation writes only behind that one; its edges lead back. At most one operation follows, behind all of them. -/
def typedB (ops : Array Oper) (size m : Nat) : Bool :=
  Region.noSelect ops && (List.range m).all (fun j => match ops[j]? with
    | none => false
    | some o =>
      (match o.dst with | some d => decide (d < size) | none => false) && (o.after.all fun e => !Region.binds .any e || decide (e.on < j)) &&
      (List.range m).all fun i => match ops[i]? with
        | none => false
        | some x => (decide (i = j) || x.dst != o.dst) && (match x.dst with | some t => !(o.looksAt ops).contains t || (decide (i < j) && (depsOf o).contains i) | none => true)) &&
  decide (m ≤ ops.size) && (match ops[m]? with
    | none => true
    | some o => decide (ops.size = m + 1) && (o.after.all fun e => !Region.binds .any e || decide (e.on < m)) && (List.range m).all fun i => (depsOf o).contains i)
structure Typed (ops : Array Oper) (size m : Nat) : Prop where
  sel : Region.noSelect ops = true
  dst : ∀ (j : Nat) (o : Oper), j < m → ops[j]? = some o → ∃ d, o.dst = some d ∧ d < size
  back : ∀ (j : Nat) (o : Oper), j < m → ops[j]? = some o → ∀ e ∈ o.after, Region.binds .any e = true → e.on < j
  apart : ∀ (j : Nat) (o : Oper) (i : Nat) (x : Oper), j < m → i < m → ops[j]? = some o → ops[i]? = some x → i ≠ j → x.dst ≠ o.dst
  looks : ∀ (j : Nat) (o : Oper) (i : Nat) (x : Oper) (t : Tmp), j < m → i < m → ops[j]? = some o → ops[i]? = some x → x.dst = some t → t ∈ o.looksAt ops → i < j ∧ i ∈ depsOf o
  le : m ≤ ops.size
  tail : ∀ o, ops[m]? = some o → ops.size = m + 1 ∧ (∀ e ∈ o.after, Region.binds .any e = true → e.on < m) ∧ ∀ i, i < m → i ∈ depsOf o
theorem typed_of {size m : Nat} (h : typedB ops size m = true) : Typed ops size m := by
  unfold typedB at h
  rw [Bool.and_eq_true, Bool.and_eq_true, Bool.and_eq_true] at h
  obtain ⟨⟨⟨hs, h⟩, hle⟩, ht⟩ := h
  rw [List.all_eq_true] at h
  have key : ∀ j o, j < m → ops[j]? = some o → _ := fun j o hj ho => h j (List.mem_range.2 hj)
  refine ⟨hs, fun j o hj ho => ?_, fun j o hj ho e he hb => ?_, fun j o i x hj hi ho hx hne => ?_, fun j o i x t hj hi ho hx hd ht => ?_, by simpa using hle, fun o ho => ?_⟩
  · have := key j o hj ho
    simp only [ho, Bool.and_eq_true] at this
    have h1 := this.1.1
    cases hd : o.dst with
    | none => rw [hd] at h1; simp at h1
    | some d => rw [hd] at h1; exact ⟨d, rfl, by simpa using h1⟩
  · have := key j o hj ho
    simp only [ho, Bool.and_eq_true] at this
    have h1 := Array.all_eq_true_iff_forall_mem.1 this.1.2 e he
    rw [hb] at h1
    simpa using h1
  · have := key j o hj ho
    simp only [ho, Bool.and_eq_true, List.all_eq_true] at this
    have h1 := this.2 i (List.mem_range.2 hi)
    simp only [hx, Bool.and_eq_true, Bool.or_eq_true, decide_eq_true_eq] at h1
    rcases h1.1 with h1 | h1
    · exact absurd h1 hne
    · simpa using h1
  · have := key j o hj ho
    simp only [ho, Bool.and_eq_true, List.all_eq_true] at this
    have h1 := this.2 i (List.mem_range.2 hi)
    simp only [hx, hd, Bool.and_eq_true, Bool.or_eq_true, decide_eq_true_eq] at h1
    rcases h1.2 with h1 | h1
    · simp [ht] at h1
    · exact ⟨h1.1, by simpa using h1.2⟩
  · simp only [ho, Bool.and_eq_true, List.all_eq_true, decide_eq_true_eq] at ht
    refine ⟨ht.1.1, fun e he hb => ?_, fun i hi => by simpa using ht.2 i (List.mem_range.2 hi)⟩
    have h1 := Array.all_eq_true_iff_forall_mem.1 ht.1.2 e he
    rw [hb] at h1
    simpa using h1
def lead (ops : Array Oper) (m : Nat) : List Oper := ops.toList.take m
theorem lead_get {m i : Nat} (h : i < m) : (lead ops m)[i]? = ops[i]? := by unfold lead; rw [List.getElem?_take, if_pos h]; simp
theorem lead_some {m i : Nat} {o : Oper} (h : (lead ops m)[i]? = some o) : i < m ∧ ops[i]? = some o := by
  unfold lead at h
  rw [List.getElem?_take] at h
  split at h
  · rename_i hl; exact ⟨hl, by simpa using h⟩
  · cases h
theorem lead_length {m : Nat} (h : m ≤ ops.size) : (lead ops m).length = m := by unfold lead; rw [List.length_take, Array.length_toList]; omega
theorem put_size (a : Act) (d : Option Tmp) (v : Value) : (a.put d v).tmps.size = a.tmps.size := by cases d <;> simp [Act.put]
theorem put_defers (a : Act) (d : Option Tmp) (v : Value) : (a.put d v).defers = a.defers := by cases d <;> rfl
theorem put_same (a : Act) (d : Tmp) (v : Value) (h : d < a.tmps.size) : (a.put (some d) v).tmps.getD d undef = v := by simp [Act.put, h]
theorem put_other (a : Act) (d : Option Tmp) (v : Value) (t : Tmp) (h : d ≠ some t) : (a.put d v).tmps.getD t undef = a.tmps.getD t undef := by
  cases d with
  | none => rfl
  | some d =>
    have hne : d ≠ t := fun e => h (by rw [e])
    simp [Act.put, Array.getElem?_setIfInBounds_ne hne]
theorem frame_get (vs : Nat → Value) : ∀ (os : List Oper) (ss : List Spec) (k : Nat) (a : Act) (j : Nat),
    (frameAt vs os ss k a j).defers = a.defers ∧ (frameAt vs os ss k a j).tmps.size = a.tmps.size ∧
    (∀ t, (∀ i o, i < j → os[i]? = some o → o.dst ≠ some t) → (frameAt vs os ss k a j).tmps.getD t undef = a.tmps.getD t undef) ∧
    (∀ i o s d, i < j → os[i]? = some o → ss[i]? = some s → o.dst = some d → d < a.tmps.size → (∀ i' o', i' ≠ i → os[i']? = some o' → o'.dst ≠ some d) → (frameAt vs os ss k a j).tmps.getD d undef = s.val (vs (k + i)))
  | [], ss, k, a, j => by
    have e : frameAt vs [] ss k a j = a := by cases ss <;> rfl
    rw [e]
    exact ⟨rfl, rfl, fun _ _ => rfl, fun i o s d _ h => by simp at h⟩
  | o :: os, [], k, a, j => by
    have e : frameAt vs (o :: os) [] k a j = a := rfl
    rw [e]
    exact ⟨rfl, rfl, fun _ _ => rfl, fun i o s d _ _ h => by simp at h⟩
  | o :: os, s :: ss, k, a, 0 => ⟨rfl, rfl, fun _ _ => rfl, fun i o s d h => by omega⟩
  | o :: os, s :: ss, k, a, j + 1 => by
    obtain ⟨h1, h2, h3, h4⟩ := frame_get vs os ss (k + 1) (a.put o.dst (s.val (vs k))) j
    refine ⟨by rw [frameAt, h1, put_defers], by rw [frameAt, h2, put_size], fun t ht => ?_, fun i o' s' d hi ho hs hd hlt hap => ?_⟩
    · rw [frameAt, h3 t (fun i o' hi ho => ht (i + 1) o' (by omega) (by simpa using ho)), put_other]
      exact ht 0 o (by omega) rfl
    · cases i with
      | zero =>
        simp at ho hs; subst ho; subst hs
        rw [frameAt, h3 d (fun i' o' hi' ho' => hap (i' + 1) o' (by omega) (by simpa using ho')), hd, put_same _ _ _ hlt]
        rfl
      | succ i =>
        rw [frameAt, h4 i o' s' d (by omega) (by simpa using ho) (by simpa using hs) hd (by rw [put_size]; exact hlt) (fun i' o'' hne ho'' => hap (i' + 1) o'' (by omega) (by simpa using ho''))]
        congr 2; omega
theorem act_ext {a b : Act} (hd : a.defers = b.defers) (hs : a.tmps.size = b.tmps.size) (h : ∀ t, a.tmps.getD t undef = b.tmps.getD t undef) : a = b := by
  obtain ⟨ta, da⟩ := a
  obtain ⟨tb, db⟩ := b
  simp only at hd hs h
  subst hd
  congr 1
  apply Array.ext hs
  intro i h1 h2
  have := h i
  simpa [h1, h2] using this
theorem eval_same {a b : Act} {x : Operand} (h : ∀ t, x = .tmp t → a.tmps.getD t undef = b.tmps.getD t undef) : a.eval x = b.eval x := by
  cases x with
  | tmp t => exact h t rfl
  | _ => rfl
theorem wanted_same (o : Oper) {a b : Act} (hs : a.tmps.size = b.tmps.size) (h : ∀ t ∈ o.looksAt ops, a.tmps.getD t undef = b.tmps.getD t undef) : Region.wanted o (yielded ops a.tmps) = Region.wanted o (yielded ops b.tmps) := by
  unfold Region.wanted
  cases hg : o.guard with
  | none => rfl
  | some gw =>
    obtain ⟨g, want⟩ := gw
    have hy : yielded ops a.tmps g = yielded ops b.tmps g := by
      unfold yielded
      cases ht : (ops[g]?).bind (·.dst) with
      | none => rfl
      | some t =>
        have he := h t (by simp [Oper.looksAt, hg, ht])
        simp only [Option.bind_some]
        by_cases hlt : t < a.tmps.size
        · have hlt' : t < b.tmps.size := by rw [← hs]; exact hlt
          simp only [Array.getElem?_eq_getElem hlt, Array.getElem?_eq_getElem hlt']
          simp only [Array.getD, hlt, hlt', dif_pos] at he
          rw [show a.tmps[t] = b.tmps[t] from he]
        · rw [Array.getElem?_eq_none (Nat.le_of_not_lt hlt), Array.getElem?_eq_none (by rw [← hs]; exact Nat.le_of_not_lt hlt)]
    simp only [hy]
theorem exec_same (o : Oper) (hs : ∀ cs b, o.op ≠ .select cs b) {a b : Act} (h : ∀ t ∈ o.looksAt ops, a.tmps.getD t undef = b.tmps.getD t undef) : execOp a.eval o = execOp b.eval o :=
  execOp_congr o hs fun x hx => eval_same fun t ht => h t (by
    subst ht
    exact List.mem_append_left _ (List.mem_filterMap.2 ⟨.tmp t, by simpa using hx, rfl⟩))
theorem valAt_put {o : Oper} {a : Act} {d : Tmp} (hd : o.dst = some d) (hda : d < a.tmps.size) (v : Value) : valAt o (a.put o.dst v) = v := by
  simp only [valAt, hd]; exact put_same _ _ _ hda
theorem gives_at {o : Oper} {a b : Act} {w : World} {R : Value → World → Prop} {Q' : Exit → Act → World → Prop} {d : Tmp} (hd : o.dst = some d) (hda : d < a.tmps.size) (he : execOp a.eval o = execOp b.eval o)
    (hw : Region.wanted o (yielded ops a.tmps) = true) (h : Gives P ops o a w R) : o.wp P b w (fun a' w' => ∃ v, a' = b.put o.dst v ∧ Below w.heap.size w w' ∧ R v w') Q' := by
  unfold Gives wpList at h
  rw [if_pos hw] at h
  rcases h with h | ⟨_, _, _, h, _, _⟩
  case inr => cases h
  simp only [wpList] at h
  unfold Oper.wp at *
  rw [he] at h
  generalize (execOp b.eval o).run P w = r at *
  have key : ∀ v w', PostT o a w R .normal (a.put o.dst v) w' → ∃ v', b.put o.dst v = b.put o.dst v' ∧ Below w.heap.size w w' ∧ R v' w' := fun v w' ⟨_, _, hb, hr⟩ => ⟨v, rfl, hb, by rwa [valAt_put hd hda] at hr⟩
  cases r with
  | ok n w' =>
    cases n <;> simp only [Oper.upon] at h ⊢
    case value v => exact key _ _ h
    case skip => exact key _ _ h
    case defer f =>
      have e := h.2.1
      rw [put_defers] at e
      simp at e
    case enter f args =>
      refine Calls.mono h fun e w'' he => ?_
      cases e with
      | returned u => exact key _ _ he
      | panicked c => cases he.1
      | outgrown => obtain ⟨_, _, he⟩ := he; cases he.1
    case row row args => exact Rows.mono h fun u w'' he => key _ _ he
  | halt x w' =>
    cases x <;> simp only [Oper.upon] at h
    case panic u => cases h.1
theorem gives_skip {o : Oper} {a : Act} {w : World} {R : Value → World → Prop} {d : Tmp} (hd : o.dst = some d) (hda : d < a.tmps.size) (hw : Region.wanted o (yielded ops a.tmps) = false) (h : Gives P ops o a w R) : R undef w := by
  unfold Gives wpList at h
  rw [if_neg (by rw [hw]; simp)] at h
  have := h.2.2.2
  rwa [valAt_put hd hda] at this
theorem filter_less {α : Type} (p q : α → Bool) : ∀ (l : List α), (∀ x ∈ l, q x = true → p x = true) → (∃ x ∈ l, p x = true ∧ q x = false) → (l.filter q).length < (l.filter p).length
  | [], _, h => by obtain ⟨x, hx, _⟩ := h; cases hx
  | x :: l, hs, h => by
    have hle : (l.filter q).length ≤ (l.filter p).length := by
      clear h
      induction l with
      | nil => simp
      | cons y l ih =>
        have := ih (fun z hz => hs z (by rcases List.mem_cons.1 hz with rfl | hz; exact List.mem_cons_self; exact List.mem_cons_of_mem _ (List.mem_cons_of_mem _ hz)))
        have hy := hs y (List.mem_cons_of_mem _ List.mem_cons_self)
        rw [List.filter_cons, List.filter_cons]
        split
        · rename_i hq; rw [if_pos (hy hq)]; simpa using this
        · split
          · simp; omega
          · exact this
    by_cases hx : p x = true ∧ q x = false
    · rw [List.filter_cons, List.filter_cons, if_pos hx.1, if_neg (by rw [hx.2]; simp)]
      simp; omega
    · obtain ⟨y, hy, hpy⟩ := h
      rcases List.mem_cons.1 hy with rfl | hy
      · exact absurd hpy hx
      have := filter_less p q l (fun z hz => hs z (List.mem_cons_of_mem _ hz)) ⟨y, hy, hpy⟩
      rw [List.filter_cons, List.filter_cons]
      have hq := hs x List.mem_cons_self
      split
      · rename_i h1; rw [if_pos (hq h1)]; simpa using this
      · split
        · simp; omega
        · exact this
/-- What stands in the course of the region, whatever came up so far. -/
structure Mid (P : Program) (ops : Array Oper) (C : World → Prop) (SS : List Spec) (m : Nat) (a0 : Act) (listed : Array Bool) (a : Act) (w : World) : Prop where
  cls : C w
  defers : a.defers = a0.defers
  size : a.tmps.size = a0.tmps.size
  far : ∀ t, (∀ (i : Nat) (o : Oper), i < m → ops[i]? = some o → o.dst ≠ some t) → a.tmps.getD t undef = a0.tmps.getD t undef
  near : ∀ (i : Nat) (o : Oper) (s : Spec) (d : Tmp), i < m → ops[i]? = some o → listed.getD i false = true → SS[i]? = some s → o.dst = some d → s.holds (a.tmps.getD d undef) w
  list : listed.size = ops.size
  tail : listed.getD m false = false
def valsOf (ops : Array Oper) (a : Act) (i : Nat) : Value := match ops[i]? with
  | some o => (match o.dst with | some d => a.tmps.getD d undef | none => undef)
  | none => undef
theorem valsOf_at {a : Act} {i : Nat} {o : Oper} {d : Tmp} (ho : ops[i]? = some o) (hd : o.dst = some d) : valsOf ops a i = a.tmps.getD d undef := by
  simp only [valsOf, ho, hd]
section
variable {SS : List Spec} {m : Nat} {a0 a : Act} {listed : Array Bool} {w w' : World}
theorem Mid.holdsAt (h : Mid P ops C SS m a0 listed a w) (ht : Typed ops a0.tmps.size m) {i : Nat} (him : i < m) (hi : listed.getD i false = true) : HoldsAt SS (valsOf ops a) i w := by
  intro s hs
  have hlt : i < ops.size := by have := ht.le; omega
  obtain ⟨d, hd, _⟩ := ht.dst i _ him (Array.getElem?_eq_getElem hlt)
  rw [valsOf_at (Array.getElem?_eq_getElem hlt) hd]
  exact h.near i _ s d him (Array.getElem?_eq_getElem hlt) hi hs hd
theorem holds_val {s : Spec} {v : Value} {w : World} (h : s.holds v w) : s.val v = v := by
  cases s with
  | exact c => exact h.symm
  | typed T => rfl
/-- The frame of the walk and the frame at hand agree on what an operation looks at. -/
theorem Mid.agree (h : Mid P ops C SS m a0 listed a w) (ht : Typed ops a0.tmps.size m) {j : Nat} {o : Oper} (hjm : j < m) (hj : ops[j]? = some o)
    (hall : ∀ e ∈ o.after, Region.binds .any e = true → listed.getD e.on false = true) (hSS : ∀ i, i < m → ∃ s, SS[i]? = some s) :
    ∀ t ∈ o.looksAt ops, (frameAt (valsOf ops a) (lead ops m) SS 0 a0 j).tmps.getD t undef = a.tmps.getD t undef := by
  intro t hlt
  obtain ⟨_, _, f3, f4⟩ := frame_get (valsOf ops a) (lead ops m) SS 0 a0 j
  by_cases hex : ∃ (i : Nat) (x : Oper), i < m ∧ ops[i]? = some x ∧ x.dst = some t
  · obtain ⟨i, x, him, hx, hd⟩ := hex
    obtain ⟨hij, hdep⟩ := ht.looks j o i x t hjm him hj hx hd hlt
    obtain ⟨s, hs⟩ := hSS i him
    obtain ⟨d', hd', hsz⟩ := ht.dst i x him hx
    obtain rfl : t = d' := by rw [hd] at hd'; injection hd'
    rw [f4 i x s t hij (by rw [lead_get him]; exact hx) hs hd hsz (fun i' o' hne ho' => by
      obtain ⟨hm', ho''⟩ := lead_some ho'
      rw [← hd]; exact fun e => ht.apart i x i' o' him hm' hx ho'' hne e), Nat.zero_add, valsOf_at hx hd]
    unfold depsOf at hdep
    simp only [List.mem_map, List.mem_filter] at hdep
    obtain ⟨e, ⟨he, hb⟩, rfl⟩ := hdep
    exact holds_val (h.near _ x s t him hx (hall e (by simpa using he) hb) hs hd)
  · have hno : ∀ (i : Nat) (x : Oper), i < m → ops[i]? = some x → x.dst ≠ some t := fun i x him hx hd => hex ⟨i, x, him, hx, hd⟩
    rw [f3 t (fun i x _ hx => by obtain ⟨hm', hx'⟩ := lead_some hx; exact hno i x hm' hx'), h.far t hno]
theorem Mid.all (h : Mid P ops C SS m a0 listed a w) (ht : Typed ops a0.tmps.size m) (hall : ∀ i, i < m → listed.getD i false = true) (hSS : ∀ i, i < m → ∃ s, SS[i]? = some s) :
    frameAt (valsOf ops a) (lead ops m) SS 0 a0 m = a := by
  obtain ⟨f1, f2, f3, f4⟩ := frame_get (valsOf ops a) (lead ops m) SS 0 a0 m
  refine act_ext (f1.trans h.defers.symm) (f2.trans h.size.symm) fun t => ?_
  by_cases hex : ∃ (i : Nat) (x : Oper), i < m ∧ ops[i]? = some x ∧ x.dst = some t
  · obtain ⟨i, x, him, hx, hd⟩ := hex
    obtain ⟨s, hs⟩ := hSS i him
    obtain ⟨d', hd', hsz⟩ := ht.dst i x him hx
    obtain rfl : t = d' := by rw [hd] at hd'; injection hd'
    rw [f4 i x s t him (by rw [lead_get him]; exact hx) hs hd hsz (fun i' o' hne ho' => by
      obtain ⟨hm', ho''⟩ := lead_some ho'
      rw [← hd]; exact fun e => ht.apart i x i' o' him hm' hx ho'' hne e), Nat.zero_add, valsOf_at hx hd]
    exact holds_val (h.near _ x s t him hx (hall i him) hs hd)
  · have hno : ∀ (i : Nat) (x : Oper), i < m → ops[i]? = some x → x.dst ≠ some t := fun i x him hx hd => hex ⟨i, x, him, hx, hd⟩
    rw [f3 t (fun i x _ hx => by obtain ⟨hm', hx'⟩ := lead_some hx; exact hno i x hm' hx'), h.far t hno]
theorem Mid.put (h : Mid P ops C SS m a0 listed a w) (ht : Typed ops a0.tmps.size m) (hC : ∀ w w', C w → Below w.heap.size w w' → C w') (hK : ∀ (i : Nat) T, i < m → SS[i]? = some (Spec.typed T) → Kept T)
    {j : Nat} {o : Oper} {s : Spec} {v : Value} (hjm : j < m) (hj : ops[j]? = some o) (hs : SS[j]? = some s) (hb : Below w.heap.size w w') (hv : s.holds v w') : Mid P ops C SS m a0 (listed.setIfInBounds j true) (a.put o.dst v) w' := by
  obtain ⟨d, hd, hsz⟩ := ht.dst j o hjm hj
  refine ⟨hC _ _ h.cls hb, by rw [put_defers]; exact h.defers, by rw [put_size]; exact h.size, fun t hno => ?_, fun i x s' d' him hx hl hs' hd' => ?_, by simpa using h.list, by rw [getD_set_ne false (by omega)]; exact h.tail⟩
  · rw [put_other _ _ _ _ (hno j o hjm hj)]; exact h.far t hno
  · by_cases hij : i = j
    · subst hij
      rw [hj] at hx; injection hx with hx; subst hx
      rw [hs] at hs'; injection hs' with hs'; subst hs'
      rw [hd] at hd'; injection hd' with hd'; subst hd'
      rw [hd, put_same _ _ _ (by rw [h.size]; exact hsz)]
      exact hv
    · rw [put_other _ _ _ _ (by rw [← hd']; exact fun e => ht.apart i x j o him hjm hx hj (Ne.symm hij) e)]
      have hl' : listed.getD i false = true := by rw [getD_set_ne false (Ne.symm hij)] at hl; exact hl
      have hn := h.near i x s' d' him hx hl' hs' hd'
      cases s' with
      | exact c => exact hn
      | typed T => exact hK i T him hs' _ _ _ hn hb
end
/-- What is done by the operation that follows all others, if there is one. -/
def tailQ (P : Program) (ops : Array Oper) (m : Nat) (Q' : Exit → Act → World → Prop) (a : Act) (w : World) : Prop := wpList P ops Q' (ops.toList.drop m) a w
/-- Whatever order the tape picks. -/
theorem wpAny_typed {SS : List Spec} {m : Nat} {a0 : Act} {Q' : Exit → Act → World → Prop} (ht : Typed ops a0.tmps.size m) (hC : ∀ w w', C w → Below w.heap.size w w' → C w')
    (h : wpT P ops C (tailQ P ops m Q') (lead ops m) SS 0 [] a0) : ∀ (fuel : Nat) (listed : Array Bool) (a : Act) (w : World), ((List.range ops.size).filter fun i => !listed.getD i false).length ≤ fuel → Mid P ops C SS m a0 listed a w → wpAny P .any ops Q' fuel listed a w := by
  have ext := fun vs => wpT_extract (P := P) (ops := ops) (C := C) (Q := tailQ P ops m Q') SS vs (lead ops m) SS 0 [] a0 (fun j => by rw [Nat.zero_add]) (fun p hp => by cases hp) h
  have hle := ht.le
  have hSS : ∀ i, i < m → ∃ s, SS[i]? = some s := fun i hi => by
    obtain ⟨s, hs, _⟩ := (ext (fun _ => undef)).1 i ops[i] (by rw [lead_get hi]; exact Array.getElem?_eq_getElem (by omega))
    exact ⟨s, hs⟩
  have hK : ∀ (i : Nat) T, i < m → SS[i]? = some (Spec.typed T) → Kept T := fun i T hlt hi => by
    obtain ⟨s, hs, hk, _⟩ := (ext (fun _ => undef)).1 i ops[i] (by rw [lead_get hlt]; exact Array.getElem?_eq_getElem (by omega))
    rw [hi] at hs; injection hs with hs; subst hs
    exact hk T rfl
  -- nothing of the first m waits: all of them have come up, and the frame is the walk's
  have full : ∀ (listed : Array Bool) (a : Act) (w : World), Mid P ops C SS m a0 listed a w → (∀ i, i < m → listed.getD i false = true) → tailQ P ops m Q' a w := fun listed a w hm hall => by
    have hf := (ext (valsOf ops a)).2 w hm.cls (fun i hi => by
      have hi' : i < m := by rw [lead_length hle] at hi; omega
      exact hm.holdsAt ht hi' (hall i hi'))
    rw [lead_length hle, hm.all ht hall hSS] at hf
    exact hf
  have alld : ∀ (listed : Array Bool) (a : Act) (w : World), Mid P ops C SS m a0 listed a w → Region.ready .any ops listed = [] → ∀ i, i < m → listed.getD i false = true := fun listed a w hm hr i => by
    induction i using Nat.strongRecOn with
    | ind i ih =>
      intro hi
      cases hl : listed.getD i false with
      | true => rfl
      | false =>
        have hio : i < ops.size := by omega
        have hmem : i ∈ Region.ready .any ops listed := mem_ready.2 ⟨by
          have hz : i < listed.size := by rw [hm.list]; exact hio
          simpa [hz] using hl, ops[i], Array.getElem?_eq_getElem hio, fun e he hb => by
            have := ht.back i _ hi (Array.getElem?_eq_getElem hio) e he hb
            exact ih e.on this (by omega)⟩
        rw [hr] at hmem; cases hmem
  have done : ∀ (listed : Array Bool) (a : Act) (w : World), Mid P ops C SS m a0 listed a w → Region.ready .any ops listed = [] → Q' .normal a w := fun listed a w hm hr => by
    have hall := alld listed a w hm hr
    have hf := full listed a w hm hall
    unfold tailQ at hf
    cases hto : ops[m]? with
    | none =>
      have hd : ops.toList.drop m = [] := by
        rw [List.drop_eq_nil_iff, Array.length_toList]
        rcases Nat.lt_or_ge m ops.size with h' | h'
        · rw [Array.getElem?_eq_getElem h'] at hto; cases hto
        · exact h'
      rw [hd] at hf
      exact hf
    | some o =>
      obtain ⟨hsz, hb, _⟩ := ht.tail o hto
      have hmem : m ∈ Region.ready .any ops listed := mem_ready.2 ⟨by
        have hz : m < listed.size := by rw [hm.list]; omega
        have := hm.tail
        simpa [hz] using this, o, hto, fun e he hbb => hall _ (hb e he hbb)⟩
      rw [hr] at hmem; cases hmem
  intro fuel
  induction fuel with
  | zero =>
    intro listed a w hf hm
    have hr : Region.ready .any ops listed = [] := by
      rw [List.eq_nil_iff_forall_not_mem]
      intro i hi
      obtain ⟨h0, o, ho, _⟩ := mem_ready.1 hi
      have hlt := (Array.getElem?_eq_some_iff.1 ho).1
      have : i ∈ (List.range ops.size).filter fun i => !listed.getD i false := by
        rw [List.mem_filter]
        have hz : i < listed.size := by rw [hm.list]; exact hlt
        exact ⟨List.mem_range.2 hlt, by simp [hz] at h0 ⊢; exact h0⟩
      rw [List.eq_nil_of_length_eq_zero (Nat.le_zero.1 hf)] at this
      cases this
    exact ⟨hr, done listed a w hm hr⟩
  | succ fuel ih =>
    intro listed a w hf hm
    refine ⟨done listed a w hm, fun j hj => ?_⟩
    obtain ⟨h0, o, ho, hall⟩ := mem_ready.1 hj
    have hlt := (Array.getElem?_eq_some_iff.1 ho).1
    have hz : j < listed.size := by rw [hm.list]; exact hlt
    have hl0 : listed.getD j false = false := by simp [hz] at h0 ⊢; exact h0
    have hcount : ((List.range ops.size).filter fun i => !(listed.setIfInBounds j true).getD i false).length ≤ fuel := by
      have := filter_less (fun i => !listed.getD i false) (fun i => !(listed.setIfInBounds j true).getD i false) (List.range ops.size) (fun i _ h => by
        by_cases hij : j = i
        · subst hij; rw [hl0]; rfl
        · rw [getD_set_ne false hij] at h; exact h) ⟨j, List.mem_range.2 hlt, by rw [hl0]; rfl, by simp [hz]⟩
      omega
    by_cases hjm : j < m
    · obtain ⟨s, hs, _, hcase⟩ := (ext (valsOf ops a)).1 j o (by rw [lead_get hjm]; exact ho)
      have hag := hm.agree ht hjm ho hall hSS
      obtain ⟨f1, f2, _, _⟩ := frame_get (valsOf ops a) (lead ops m) SS 0 a0 j
      have hsz : (frameAt (valsOf ops a) (lead ops m) SS 0 a0 j).tmps.size = a.tmps.size := f2.trans hm.size.symm
      obtain ⟨d, hd, hdl⟩ := ht.dst j o hjm ho
      have hg1 := hcase w hm.cls (fun i hi => by
          unfold depsOf at hi
          simp only [List.mem_map, List.mem_filter] at hi
          obtain ⟨e, ⟨he, hb⟩, rfl⟩ := hi
          exact hm.holdsAt ht (by have := ht.back j o hjm ho e (by simpa using he) hb; omega) (hall e (by simpa using he) hb))
      unfold wpOp
      simp only [ho]
      have hws := wanted_same (ops := ops) o hsz hag
      cases hw : Region.wanted o (yielded ops a.tmps)
      · rw [if_neg (by simp)]
        exact ih _ _ _ hcount (hm.put ht hC hK hjm ho hs (Below.refl _ _) (gives_skip hd (by rw [f2]; exact hdl) (hws.trans hw) hg1))
      · rw [if_pos rfl]
        refine .inl ?_
        refine Oper.wp_mono ?_ (gives_at hd (by rw [f2]; exact hdl) (exec_same (ops := ops) o (fun cs b => Region.noSelect_spec ht.sel j o cs b ho) hag) (hws.trans hw) hg1)
        rintro a' w' ⟨v, rfl, hb, hv⟩
        exact ih _ _ _ hcount (hm.put ht hC hK hjm ho hs hb hv)
    · -- the one that follows all
      have hjeq : j = m := by
        cases hto : ops[m]? with
        | none =>
          rcases Nat.lt_or_ge m ops.size with h' | h'
          · rw [Array.getElem?_eq_getElem h'] at hto; cases hto
          · omega
        | some o' => have := (ht.tail o' hto).1; omega
      subst hjeq
      obtain ⟨hsz, hb, hdeps⟩ := ht.tail o ho
      have hall' : ∀ i, i < j → listed.getD i false = true := fun i hi => by
        have := hdeps i hi
        unfold depsOf at this
        simp only [List.mem_map, List.mem_filter] at this
        obtain ⟨e, ⟨he, hbe⟩, rfl⟩ := this
        exact hall e (by simpa using he) hbe
      have hf := full listed a w hm hall'
      unfold tailQ at hf
      have hdrop : ops.toList.drop j = [o] := by
        rw [List.drop_eq_getElem_cons (by rw [Array.length_toList]; omega), List.drop_eq_nil_iff.2 (by rw [Array.length_toList]; omega)]
        congr 1
        have := Array.getElem?_eq_some_iff.1 ho
        obtain ⟨_, h2⟩ := this
        simpa using h2
      rw [hdrop] at hf
      have hend : ∀ (listed' : Array Bool), (∀ i, i < ops.size → listed'.getD i true = true) → Region.ready .any ops listed' = [] := fun listed' hl => by
        rw [List.eq_nil_iff_forall_not_mem]
        intro i hi
        obtain ⟨h0, o', ho', _⟩ := mem_ready.1 hi
        rw [hl i (Array.getElem?_eq_some_iff.1 ho').1] at h0
        cases h0
      have hl' : ∀ i, i < ops.size → (listed.setIfInBounds j true).getD i true = true := fun i hi => by
        by_cases hij : j = i
        · subst hij; simp [hz]
        · rw [getD_set_ne true hij]
          have := hall' i (by omega)
          have hz' : i < listed.size := by rw [hm.list]; exact hi
          simp [hz'] at this ⊢
          exact this
      have stop : ∀ (a : Act) (w : World), Q' .normal a w → wpAny P .any ops Q' fuel (listed.setIfInBounds j true) a w := fun a w hq => by
        have he := hend _ hl'
        cases fuel with
        | zero => exact ⟨he, hq⟩
        | succ f => exact ⟨fun _ => hq, fun i hi => by rw [he] at hi; cases hi⟩
      unfold wpOp
      simp only [ho]
      unfold wpList at hf
      split
      · rename_i hw
        rw [if_pos hw] at hf
        exact hf.imp (Oper.wp_mono (fun a w hq => stop a w hq)) id
      · rename_i hw
        rw [if_neg hw] at hf
        exact stop _ _ hf
/-- **The region, walked once.** -/
theorem wp_region_typed {id : Nat} {l : List Oper} {a : Act} {w : World} {SS : List Spec} {Q' : Exit → Act → World → Prop} {n m : Nat} {l1 l2 : List Oper} (hl : l = l1 ++ l2) (hlm : l1.length = m) (hm : P.follows .mixedOrders = true) (hn : a.tmps.size = n) (hB : typedB l.toArray n m = true)
    (hw : C w.drew) (hC : ∀ w w', C w → Below w.heap.size w w' → C w') (h : wpT P l.toArray C (fun a w => wpList P l.toArray Q' l2 a w) l1 SS 0 [] a) : (Code.region id l.toArray true).wp P Q' a w := by
  have ht := typed_of hB
  rw [← hn] at ht
  have e1 : lead l.toArray m = l1 := by unfold lead; rw [hl, ← hlm]; simp
  have e2 : tailQ P l.toArray m Q' = fun a w => wpList P l.toArray Q' l2 a w := by
    funext a w; unfold tailQ; rw [show l.toArray.toList.drop m = l2 by rw [hl, ← hlm]; simp]
  refine wp_region_any hm (wpAny_typed (C := C) (SS := SS) (m := m) ht hC (by rw [e1, e2]; exact h) _ _ _ _ ?_ ?_)
  · refine Nat.le_trans (List.length_filter_le _ _) (by simp)
  · have hz : ∀ i, (Array.replicate l.toArray.size false).getD i false = false := fun i => by
      rcases Nat.lt_or_ge i l.toArray.size with h' | h'
      · rw [Array.getD_eq_getD_getElem?, Array.getElem?_replicate, if_pos h']; rfl
      · rw [Array.getD_eq_getD_getElem?, Array.getElem?_replicate, if_neg (Nat.not_lt.2 h')]; rfl
    exact ⟨hw, rfl, rfl, fun _ _ => rfl, (fun i o s d _ _ hl => by rw [hz i] at hl; cases hl), by simp, hz m⟩
section
variable {o : Oper} {os : List Oper} {ss : List Spec} {k : Nat} {fs : List (Nat × (World → Prop))} {a : Act}
theorem wpT_exact {c : Value} (h : ∀ w, C w → factsOn fs (depsOf o) w → Gives P ops o a w (fun v _ => v = c)) (hr : wpT P ops C Q os ss (k + 1) fs (a.put o.dst c)) : wpT P ops C Q (o :: os) (.exact c :: ss) k fs a := ⟨h, hr⟩
theorem wpT_typed {T : Value → World → Prop} (hk : Kept T) (h : ∀ w, C w → factsOn fs (depsOf o) w → Gives P ops o a w T) (hr : ∀ v, wpT P ops C Q os ss (k + 1) ((k, T v) :: fs) (a.put o.dst v)) : wpT P ops C Q (o :: os) (.typed T :: ss) k fs a := ⟨⟨hk, h⟩, hr⟩
theorem wpT_done (h : ∀ w, C w → allFacts fs w → Q a w) : wpT P ops C Q [] [] k fs a := h
end
end
end Go.Proofs.YtlfgjpidamkpdaaDoor
