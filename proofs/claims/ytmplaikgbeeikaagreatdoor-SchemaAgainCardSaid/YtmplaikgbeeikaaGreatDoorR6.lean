/- Parts of the proof, joined: BaseB, M9. -/
import Derived.Test.YtmplaikgbeeikaaGreatDoorR1
import Derived.Test.YtmplaikgbeeikaaGreatDoorR2
set_option linter.unusedVariables false
set_option linter.unusedSimpArgs false
set_option linter.unusedSectionVars false
namespace Go.Proofs.YtmplaikgbeeikaaGreatDoor
open Go Go.RowKit
class Grow where
 R:World→World→Prop
 refl:∀ w,R w w
 trans:∀ {a b c},R a b→R b c→R a c
 below:∀ {w w':World},Below w.heap.size w w'→R w w'
namespace RG
section
variable [Grow]
inductive Spec where
 | exact (c:Value)
 | typed (T:Value→World→Prop)
end
namespace Spec
section
variable [Grow]
def holds:Spec→Value→World→Prop
 | .exact c,v,_=>v=c
 | .typed T,v,w=>T v w
def val:Spec→Value→Value
 | .exact c,_=>c
 | .typed _,v=>v
end
end Spec
section
variable [Grow]
def Kept (T:Value→World→Prop):Prop:=∀ v w w',T v w→Grow.R w w'→T v w'
def depsOf (o:Oper):List Nat:=(o.after.toList.filter (Region.binds .any)).map (·.on)
def valAt (o:Oper) (a:Act):Value:=match o.dst with
 | some d=>a.tmps.getD d undef
 | none=>undef
def PostT (o:Oper) (a:Act) (w:World) (R:Value→World→Prop) (e:Exit) (a':Act) (w':World):Prop:=e=.normal∧a'.defers=a.defers∧Grow.R w w'∧R (valAt o a') w'
def Gives (P:Program) (ops:Array Oper) (o:Oper) (a:Act) (w:World) (R:Value→World→Prop):Prop:=wpList P ops (PostT o a w R) [o] a w
theorem postT_mk {o:Oper} {a a':Act} {w w':World} {R:Value→World→Prop} (hd:a'.defers=a.defers) (hb:Grow.R w w') (hr:R (valAt o a') w'):PostT o a w R .normal a' w':=⟨rfl,hd,hb,hr⟩
theorem postT_val {o:Oper} {a a':Act} {w w':World} {c:Value} (hd:a'.defers=a.defers) (hb:Grow.R w w') (hv:valAt o a'=c):PostT o a w (fun v _=>v=c) .normal a' w':=⟨rfl,hd,hb,hv⟩
def factsOn:List (Nat × (World→Prop))→List Nat→World→Prop
 | [],_,_=>True
 | p::r,ds,w=>(ds.contains p.1=true→p.2 w)∧factsOn r ds w
def allFacts:List (Nat × (World→Prop))→World→Prop
 | [],_=>True
 | p::r,w=>p.2 w∧allFacts r w
end
section
variable (P:Program) (ops:Array Oper) (C:World→Prop) (Q:Act→World→Prop)
section
variable [Grow]
def wpT:List Oper→List Spec→Nat→List (Nat × (World→Prop))→Act→Prop
 | [],_,_,fs,a=>∀ w,C w→allFacts fs w→Q a w
 | _::_,[],_,_,_=>False
 | o::os,.exact c::ss,k,fs,a =>
  (∀ w,C w→factsOn fs (depsOf o) w→Gives P ops o a w (fun v _=>v=c))∧wpT os ss (k+1) fs (a.put o.dst c)
 | o::os,.typed T::ss,k,fs,a =>
  (Kept T∧∀ w,C w→factsOn fs (depsOf o) w→Gives P ops o a w T)∧∀ v,wpT os ss (k+1) ((k,T v)::fs) (a.put o.dst v)
end
end
section
variable [Grow]
def frameAt (vs:Nat→Value):List Oper→List Spec→Nat→Act→Nat→Act
 | o::os,s::ss,k,a,j+1=>frameAt vs os ss (k+1) (a.put o.dst (s.val (vs k))) j
 | _,_,_,a,_=>a
end
section
variable {P:Program} {ops:Array Oper} {C:World→Prop} {Q:Act→World→Prop}
section
variable [Grow]
def HoldsAt (SS:List Spec) (vs:Nat→Value) (i:Nat) (w:World):Prop:=∀ s,SS[i]?=some s→s.holds (vs i) w
end
theorem factsOn_of {H:Nat→World→Prop} {ds:List Nat} {w:World} (hd:∀ i∈ds,H i w):∀ {fs:List (Nat × (World→Prop))},(∀ p∈fs,∀ w,H p.1 w→p.2 w)→factsOn fs ds w
 | [],_=>trivial
 | p::_,h=>⟨fun hc=>h p List.mem_cons_self w (hd _ (by simpa using hc)),factsOn_of hd (fun q hq=>h q (List.mem_cons_of_mem _ hq))⟩
theorem allFacts_of {H:Nat→World→Prop} {w:World}:∀ {fs:List (Nat × (World→Prop))},(∀ p∈fs,∀ w,H p.1 w→p.2 w)→(∀ p∈fs,H p.1 w)→allFacts fs w
 | [],_,_=>trivial
 | p::_r,h,hh=>⟨h p List.mem_cons_self w (hh p List.mem_cons_self),allFacts_of (fun q hq=>h q (List.mem_cons_of_mem _ hq)) (fun q hq=>hh q (List.mem_cons_of_mem _ hq))⟩
section
variable [Grow]
theorem wpT_extract (SS:List Spec) (vs:Nat→Value):∀ (os:List Oper) (ss:List Spec) (k:Nat) (fs:List (Nat × (World→Prop))) (a:Act),
  (∀ j,ss[j]?=SS[k+j]?)→(∀ p∈fs,p.1 < k∧∀ w,HoldsAt SS vs p.1 w→p.2 w)→wpT P ops C Q os ss k fs a →
  (∀ j o,os[j]?=some o→∃ s,ss[j]?=some s∧(∀ T,s=.typed T→Kept T) ∧
   ∀ w,C w→(∀ i∈depsOf o,HoldsAt SS vs i w)→Gives P ops o (frameAt vs os ss k a j) w s.holds) ∧
  (∀ w,C w→(∀ i,i < k+os.length→HoldsAt SS vs i w)→Q (frameAt vs os ss k a os.length) w)
 | [],ss,k,fs,a,hss,hfs,h=>by
  refine ⟨fun j o ho=>by simp at ho,fun w hw hH=>?_⟩
  have e:frameAt vs [] ss k a 0=a:=by cases ss <;> rfl
  rw [List.length_nil,e]
  exact h w hw (allFacts_of (H:=HoldsAt SS vs) (fun p hp=>(hfs p hp).2) (fun p hp=>hH _ (by have:=(hfs p hp).1;simp;exact this)))
 | o::os,[],k,fs,a,_,_,h=>h.elim
 | o::os,.exact c::ss,k,fs,a,hss,hfs,h=>by
  obtain ⟨h1,h2⟩:=h
  obtain ⟨r1,r2⟩:=wpT_extract SS vs os ss (k+1) fs (a.put o.dst c) (fun j=>by have:=hss (j+1);rw [aC] at this;rw [this];congr 1;omega) (fun p hp=>⟨by have:=(hfs p hp).1;omega,(hfs p hp).2⟩) h2
  refine ⟨fun j o' ho=>?_,fun w hw hH=>?_⟩
  ·cases j with
   | zero =>
    simp at ho;subst ho
    exact ⟨.exact c,rfl,(fun T hT=>by cases hT),fun w hC hd=>h1 w hC (factsOn_of (H:=HoldsAt SS vs) hd (fun p hp=>(hfs p hp).2))⟩
   | succ j=>exact r1 j o' (by simpa using ho)
  ·exact r2 w hw (fun i hi=>hH i (by simp at hi ⊢;omega))
 | o::os,.typed T::ss,k,fs,a,hss,hfs,h=>by
  obtain ⟨⟨hk,h1⟩,h2⟩:=h
  have hk0:SS[k]?=some (.typed T):=by have:=hss 0;simpa using this.symm
  obtain ⟨r1,r2⟩:=wpT_extract SS vs os ss (k+1) ((k,T (vs k))::fs) (a.put o.dst (vs k)) (fun j=>by have:=hss (j+1);rw [aC] at this;rw [this];congr 1;omega)
   (fun p hp=>by
    rcases aL hp with rfl | hp
    ·exact ⟨Nat.lt_succ_self _,fun w hH=>hH _ hk0⟩
    ·exact ⟨by have:=(hfs p hp).1;omega,(hfs p hp).2⟩) (h2 _)
  refine ⟨fun j o' ho=>?_,fun w hw hH=>?_⟩
  ·cases j with
   | zero =>
    simp at ho;subst ho
    exact ⟨.typed T,rfl,fun T' hT=>by injection hT with hT;subst hT;exact hk,fun w hC hd=>h1 w hC (factsOn_of (H:=HoldsAt SS vs) hd (fun p hp=>(hfs p hp).2))⟩
   | succ j=>exact r1 j o' (by simpa using ho)
  ·exact r2 w hw (fun i hi=>hH i (by simp at hi ⊢;omega))
def covB (ops:Array Oper):Nat→List Nat→Bool
 | 0,_=>true
 | i+1,S=>S.contains i && covB ops i (S++(match ops[i]? with | some o=>depsOf o | none=>[]))
end
theorem cov_all {listed:Array Bool}:∀ (k:Nat) (S:List Nat),(∀ (i:Nat) (o:Oper),i < k→ops[i]?=some o→listed.getD i false=true→∀ e∈o.after,Region.binds .any e=true→listed.getD e.on false=true)→covB ops k S=true→(∀ i∈S,listed.getD i false=true)→∀ i,i < k→listed.getD i false=true
 | 0,_,_,_,_,i,hi=>by omega
 | k+1,S,hc,h,hS,i,hi=>by
  unfold covB at h
  rw [Bool.and_eq_true] at h
  have hk:listed.getD k false=true:=hS k (by simpa using h.1)
  rcases Nat.lt_or_ge i k with hik | hik
  ·refine cov_all k _ (fun i o hi=>hc i o (by omega)) h.2 (fun x hx=>?_) i hik
   rcases List.mem_append.1 hx with hx | hx
   ·exact hS x hx
   ·cases ho:ops[k]? with
    | none=>rw [ho] at hx;cases hx
    | some o =>
     rw [ho] at hx
     unfold depsOf at hx
     simp only [List.mem_map,List.mem_filter] at hx
     obtain ⟨e,⟨he,hb⟩,rfl⟩:=hx
     exact hc k o (Nat.lt_succ_self _) ho hk e (by simpa using he) hb
  ·have:i=k:=by omega
   rw [this];exact hk
section
variable [Grow]
def typedB0 (ops:Array Oper) (size m:Nat):Bool :=
 Region.noSelect ops && (List.range m).all (fun j=>match ops[j]? with
  | none=>false
  | some o =>
   (match o.dst with | some d=>decide (d < size) | none=>false) &&
   (List.range m).all fun i=>match ops[i]? with
    | none=>false
    | some x=>(decide (i=j) || x.dst != o.dst) && (match x.dst with | some t=>!(o.looksAt ops).contains t || (decide (i < j) && (depsOf o).contains i) || (decide (j < i) && (depsOf x).contains j) | none=>true)) &&
 decide (m≤ops.size) && (List.range ops.size).all fun j=>match ops[j]? with
  | none=>true
  | some o=>(o.after.all fun e=>!Region.binds .any e || decide (e.on < j)) && (decide (j < m) || covB ops m (depsOf o) || (depsOf o).any fun d=>decide (m≤d))
def chainB (ops:Array Oper) (m:Nat):Bool:=(List.range ops.size).all fun j=>match ops[j]? with
  | none=>true
  | some o=>decide (j < m) || covB ops j (depsOf o)
def typedB (ops:Array Oper) (size m:Nat):Bool:=typedB0 ops size m && chainB ops m
structure Typed (ops:Array Oper) (size m:Nat):Prop where
 sel:Region.noSelect ops=true
 dst:∀ (j:Nat) (o:Oper),j < m→ops[j]?=some o→∃ d,o.dst=some d∧d < size
 back:∀ (j:Nat) (o:Oper),ops[j]?=some o→∀ e∈o.after,Region.binds .any e=true→e.on < j
 apart:∀ (j:Nat) (o:Oper) (i:Nat) (x:Oper),j < m→i < m→ops[j]?=some o→ops[i]?=some x→i≠j→x.dst≠o.dst
 looks:∀ (j:Nat) (o:Oper) (i:Nat) (x:Oper) (t:Tmp),j < m→i < m→ops[j]?=some o→ops[i]?=some x→x.dst=some t→t∈o.looksAt ops→(i < j∧i∈depsOf o)∨(j < i∧j∈depsOf x)
 le:m≤ops.size
 tail:∀ (j:Nat) (o:Oper),m≤j→ops[j]?=some o→covB ops m (depsOf o)=true∨∃ d∈depsOf o,m≤d
end
theorem typed_of {size m:Nat} (h:typedB0 ops size m=true):Typed ops size m:=by
 unfold typedB0 at h
 rw [Bool.and_eq_true,Bool.and_eq_true,Bool.and_eq_true] at h
 obtain ⟨⟨⟨hs,h⟩,hle⟩,ht⟩:=h
 rw [List.all_eq_true] at h ht
 have key:∀ j o,j < m→ops[j]?=some o→_:=fun j o hj ho=>h j (List.mem_range.2 hj)
 refine ⟨hs,fun j o hj ho=>?_,fun j o ho e he hb=>?_,fun j o i x hj hi ho hx hne=>?_,fun j o i x t hj hi ho hx hd ht=>?_,by simpa using hle,fun j o hj ho=>?_⟩
 ·have:=key j o hj ho
  simp only [ho,Bool.and_eq_true] at this
  have h1:=this.1
  cases hd:o.dst with
  | none=>rw [hd] at h1;simp at h1
  | some d=>rw [hd] at h1;exact ⟨d,rfl,by simpa using h1⟩
 ·have:=ht j (List.mem_range.2 (Array.getElem?_eq_some_iff.1 ho).1)
  simp only [ho,Bool.and_eq_true] at this
  have h1:=Array.all_eq_true_iff_forall_mem.1 this.1 e he
  rw [hb] at h1
  simpa using h1
 ·have:=key j o hj ho
  simp only [ho,Bool.and_eq_true,List.all_eq_true] at this
  have h1:=this.2 i (List.mem_range.2 hi)
  simp only [hx,Bool.and_eq_true,Bool.or_eq_true,decide_eq_true_eq] at h1
  rcases h1.1 with h1 | h1
  ·exact absurd h1 hne
  ·simpa using h1
 ·have:=key j o hj ho
  simp only [ho,Bool.and_eq_true,List.all_eq_true] at this
  have h1:=this.2 i (List.mem_range.2 hi)
  simp only [hx,hd,Bool.and_eq_true,Bool.or_eq_true,decide_eq_true_eq] at h1
  rcases h1.2 with (h1 | h1) | h1
  ·simp [ht] at h1
  ·exact .inl ⟨h1.1,by simpa using h1.2⟩
  ·exact .inr ⟨h1.1,by simpa using h1.2⟩
 ·have:=ht j (List.mem_range.2 (Array.getElem?_eq_some_iff.1 ho).1)
  simp only [ho,Bool.and_eq_true,Bool.or_eq_true,decide_eq_true_eq] at this
  rcases this.2 with (h1 | h1) | h1
  ·omega
  ·exact .inl h1
  ·refine .inr ?_
   rw [List.any_eq_true] at h1
   obtain ⟨d,hd,h1⟩:=h1
   exact ⟨d,hd,by simpa using h1⟩
section
variable [Grow]
def lead (ops:Array Oper) (m:Nat):List Oper:=ops.toList.take m
end
theorem lead_get {m i:Nat} (h:i < m):(lead ops m)[i]?=ops[i]?:=by unfold lead;rw [List.getElem?_take,if_pos h];simp
theorem lead_some {m i:Nat} {o:Oper} (h:(lead ops m)[i]?=some o):i < m∧ops[i]?=some o:=by
 unfold lead at h
 rw [List.getElem?_take] at h
 split at h
 ·rename_i hl;exact ⟨hl,by simpa using h⟩
 ·cases h
theorem lead_length {m:Nat} (h:m≤ops.size):(lead ops m).length=m:=by unfold lead;rw [List.length_take,Array.length_toList];omega
theorem put_size (a:Act) (d:Option Tmp) (v:Value):(a.put d v).tmps.size=a.tmps.size:=by cases d <;> simp [Act.put]
theorem put_defers (a:Act) (d:Option Tmp) (v:Value):(a.put d v).defers=a.defers:=by cases d <;> rfl
theorem put_same (a:Act) (d:Tmp) (v:Value) (h:d < a.tmps.size):(a.put (some d) v).tmps.getD d undef=v:=by simp [Act.put,h]
theorem put_other (a:Act) (d:Option Tmp) (v:Value) (t:Tmp) (h:d≠some t):(a.put d v).tmps.getD t undef=a.tmps.getD t undef:=by
 cases d with
 | none=>rfl
 | some d =>
  have hne:d≠t:=fun e=>h (by rw [e])
  simp [Act.put,Array.getElem?_setIfInBounds_ne hne]
theorem frame_get (vs:Nat→Value):∀ (os:List Oper) (ss:List Spec) (k:Nat) (a:Act) (j:Nat),
  (frameAt vs os ss k a j).defers=a.defers∧(frameAt vs os ss k a j).tmps.size=a.tmps.size ∧
  (∀ t,(∀ i o,i < j→os[i]?=some o→o.dst≠some t)→(frameAt vs os ss k a j).tmps.getD t undef=a.tmps.getD t undef) ∧
  (∀ i o s d,i < j→os[i]?=some o→ss[i]?=some s→o.dst=some d→d < a.tmps.size→(∀ i' o',i'≠i→os[i']?=some o'→o'.dst≠some d)→(frameAt vs os ss k a j).tmps.getD d undef=s.val (vs (k+i)))
 | [],ss,k,a,j=>by
  have e:frameAt vs [] ss k a j=a:=by cases ss <;> rfl
  rw [e]
  exact ⟨rfl,rfl,fun _ _=>rfl,fun i o s d _ h=>by simp at h⟩
 | o::os,[],k,a,j=>by
  have e:frameAt vs (o::os) [] k a j=a:=rfl
  rw [e]
  exact ⟨rfl,rfl,fun _ _=>rfl,fun i o s d _ _ h=>by simp at h⟩
 | o::os,s::ss,k,a,0=>⟨rfl,rfl,fun _ _=>rfl,fun i o s d h=>by omega⟩
 | o::os,s::ss,k,a,j+1=>by
  obtain ⟨h1,h2,h3,h4⟩:=frame_get vs os ss (k+1) (a.put o.dst (s.val (vs k))) j
  refine ⟨by rw [frameAt,h1,put_defers],by rw [frameAt,h2,put_size],fun t ht=>?_,fun i o' s' d hi ho hs hd hlt hap=>?_⟩
  ·rw [frameAt,h3 t (fun i o' hi ho=>ht (i+1) o' (by omega) (by simpa using ho)),put_other]
   exact ht 0 o (by omega) rfl
  ·cases i with
   | zero =>
    simp at ho hs;subst ho;subst hs
    rw [frameAt,h3 d (fun i' o' hi' ho'=>hap (i'+1) o' (by omega) (by simpa using ho')),hd,put_same _ _ _ hlt]
    rfl
   | succ i =>
    rw [frameAt,h4 i o' s' d (by omega) (by simpa using ho) (by simpa using hs) hd (by rw [put_size];exact hlt) (fun i' o'' hne ho''=>hap (i'+1) o'' (by omega) (by simpa using ho''))]
    congr 2;omega
theorem act_ext {a b:Act} (hd:a.defers=b.defers) (hs:a.tmps.size=b.tmps.size) (h:∀ t,a.tmps.getD t undef=b.tmps.getD t undef):a=b:=by
 obtain ⟨ta,da⟩:=a
 obtain ⟨tb,db⟩:=b
 simp only at hd hs h
 subst hd
 congr 1
 apply Array.ext hs
 intro i h1 h2
 have:=h i
 simpa [h1,h2] using this
theorem eval_same {a b:Act} {x:Operand} (h:∀ t,x=.tmp t→a.tmps.getD t undef=b.tmps.getD t undef):a.eval x=b.eval x:=by
 cases x with
 | tmp t=>exact h t rfl
 | _=>rfl
theorem wanted_same (o:Oper) {a b:Act} (hs:a.tmps.size=b.tmps.size) (h:∀ t∈o.looksAt ops,a.tmps.getD t undef=b.tmps.getD t undef):Region.wanted o (yielded ops a.tmps)=Region.wanted o (yielded ops b.tmps):=by
 unfold Region.wanted
 cases hg:o.guard with
 | none=>rfl
 | some gw =>
  obtain ⟨g,want⟩:=gw
  have hy:yielded ops a.tmps g=yielded ops b.tmps g:=by
   unfold yielded
   cases ht:(ops[g]?).bind (·.dst) with
   | none=>rfl
   | some t =>
    have he:=h t (by simp [Oper.looksAt,hg,ht])
    simp only [Option.bind_some]
    by_cases hlt:t < a.tmps.size
    ·have hlt':t < b.tmps.size:=by rw [← hs];exact hlt
     simp only [Array.getElem?_eq_getElem hlt,Array.getElem?_eq_getElem hlt']
     simp only [Array.getD,hlt,hlt',dif_pos] at he
     rw [show a.tmps[t]=b.tmps[t] from he]
    ·rw [Array.getElem?_eq_none (Nat.le_of_not_lt hlt),Array.getElem?_eq_none (by rw [← hs];exact Nat.le_of_not_lt hlt)]
  simp only [hy]
theorem exec_same (o:Oper) (hs:∀ cs b,o.op≠.select cs b) {a b:Act} (h:∀ t∈o.looksAt ops,a.tmps.getD t undef=b.tmps.getD t undef):execOp a.eval o=execOp b.eval o :=
 execOp_congr o hs fun x hx=>eval_same fun t ht=>h t (by
  subst ht
  exact List.mem_append_left _ (List.mem_filterMap.2 ⟨.tmp t,by simpa using hx,rfl⟩))
theorem valAt_put {o:Oper} {a:Act} {d:Tmp} (hd:o.dst=some d) (hda:d < a.tmps.size) (v:Value):valAt o (a.put o.dst v)=v:=by
 simp only [valAt,hd];exact put_same _ _ _ hda
section
variable [Grow]
theorem gives_at {o:Oper} {a b:Act} {w:World} {R:Value→World→Prop} {Q':Exit→Act→World→Prop} {d:Tmp} (hd:o.dst=some d) (hda:d < a.tmps.size) (he:execOp a.eval o=execOp b.eval o)
  (hw:Region.wanted o (yielded ops a.tmps)=true) (h:Gives P ops o a w R):o.wp P b w (fun a' w'=>∃ v,a'=b.put o.dst v∧Grow.R w w'∧R v w') Q':=by
 unfold Gives wpList at h
 rw [if_pos hw] at h
 rcases h with h | ⟨_,_,_,h,_,_⟩
 case inr=>cases h
 simp only [wpList] at h
 unfold Oper.wp at *
 rw [he] at h
 generalize (execOp b.eval o).run P w=r at *
 have key:∀ v w',PostT o a w R .normal (a.put o.dst v) w'→∃ v',b.put o.dst v=b.put o.dst v'∧Grow.R w w'∧R v' w':=fun v w' ⟨_,_,hb,hr⟩=>⟨v,rfl,hb,by rwa [valAt_put hd hda] at hr⟩
 cases r with
 | ok n w' =>
  cases n <;> simp only [Oper.upon] at h ⊢
  case value v=>exact key _ _ h
  case skip=>exact key _ _ h
  case defer f =>
   have e:=h.2.1
   rw [put_defers] at e
   simp at e
  case enter f args =>
   refine Calls.mono h fun e w'' he=>?_
   cases e with
   | returned u=>exact key _ _ he
   | panicked c=>cases he.1
   | outgrown=>obtain ⟨_,_,he⟩:=he;cases he.1
  case row row args=>exact Rows.mono h fun u w'' he=>key _ _ he
 | halt x w' =>
  cases x <;> simp only [Oper.upon] at h
  case panic u=>cases h.1
theorem gives_skip {o:Oper} {a:Act} {w:World} {R:Value→World→Prop} {d:Tmp} (hd:o.dst=some d) (hda:d < a.tmps.size) (hw:Region.wanted o (yielded ops a.tmps)=false) (h:Gives P ops o a w R):R undef w:=by
 unfold Gives wpList at h
 rw [if_neg (by rw [hw];simp)] at h
 have:=h.2.2.2
 rwa [valAt_put hd hda] at this
end
section
variable [Grow]
structure Mid (P:Program) (ops:Array Oper) (C:World→Prop) (SS:List Spec) (m:Nat) (a0:Act) (listed:Array Bool) (a:Act) (w:World):Prop where
 cls:C w
 defers:a.defers=a0.defers
 size:a.tmps.size=a0.tmps.size
 far:∀ t,(∀ (i:Nat) (o:Oper),i < m→ops[i]?=some o→o.dst≠some t)→a.tmps.getD t undef=a0.tmps.getD t undef
 near:∀ (i:Nat) (o:Oper) (s:Spec) (d:Tmp),i < m→ops[i]?=some o→listed.getD i false=true→SS[i]?=some s→o.dst=some d→s.holds (a.tmps.getD d undef) w
 list:listed.size=ops.size
 tail:∀ j,m≤j→listed.getD j false=false
 closed:∀ (i:Nat) (o:Oper),i < m→ops[i]?=some o→listed.getD i false=true→∀ e∈o.after,Region.binds .any e=true→listed.getD e.on false=true
 still:∀ (i:Nat) (o:Oper) (d:Tmp),i < m→ops[i]?=some o→listed.getD i false=false→o.dst=some d→a.tmps.getD d undef=a0.tmps.getD d undef
def valsOf (ops:Array Oper) (a:Act) (i:Nat):Value:=match ops[i]? with
 | some o=>(match o.dst with | some d=>a.tmps.getD d undef | none=>undef)
 | none=>undef
end
theorem valsOf_at {a:Act} {i:Nat} {o:Oper} {d:Tmp} (ho:ops[i]?=some o) (hd:o.dst=some d):valsOf ops a i=a.tmps.getD d undef:=by
 simp only [valsOf,ho,hd]
section
variable {SS:List Spec} {m:Nat} {a0 a:Act} {listed:Array Bool} {w w':World}
theorem Mid.holdsAt (h:Mid P ops C SS m a0 listed a w) (ht:Typed ops a0.tmps.size m) {i:Nat} (him:i < m) (hi:listed.getD i false=true):HoldsAt SS (valsOf ops a) i w:=by
 intro s hs
 have hlt:i < ops.size:=by have:=ht.le;omega
 obtain ⟨d,hd,_⟩:=ht.dst i _ him (Array.getElem?_eq_getElem hlt)
 rw [valsOf_at (Array.getElem?_eq_getElem hlt) hd]
 exact h.near i _ s d him (Array.getElem?_eq_getElem hlt) hi hs hd
theorem holds_val {s:Spec} {v:Value} {w:World} (h:s.holds v w):s.val v=v:=by
 cases s with
 | exact c=>exact h.symm
 | typed T=>rfl
theorem Mid.agree (h:Mid P ops C SS m a0 listed a w) (ht:Typed ops a0.tmps.size m) {j:Nat} {o:Oper} (hjm:j < m) (hj:ops[j]?=some o)
  (hjl:listed.getD j false=false) (hall:∀ e∈o.after,Region.binds .any e=true→listed.getD e.on false=true) (hSS:∀ i,i < m→∃ s,SS[i]?=some s) :
  ∀ t∈o.looksAt ops,(frameAt (valsOf ops a) (lead ops m) SS 0 a0 j).tmps.getD t undef=a.tmps.getD t undef:=by
 intro t hlt
 obtain ⟨_,_,f3,f4⟩:=frame_get (valsOf ops a) (lead ops m) SS 0 a0 j
 by_cases hex:∃ (i:Nat) (x:Oper),i < m∧ops[i]?=some x∧x.dst=some t
 ·obtain ⟨i,x,him,hx,hd⟩:=hex
  rcases ht.looks j o i x t hjm him hj hx hd hlt with ⟨hij,hdep⟩ | ⟨hij,hdep⟩
  case inr =>
   have hil:listed.getD i false=false:=by
    cases hl:listed.getD i false with
    | false=>rfl
    | true =>
     unfold depsOf at hdep
     simp only [List.mem_map,List.mem_filter] at hdep
     obtain ⟨e,⟨he,hb⟩,rfl⟩:=hdep
     have:=h.closed i x him hx hl e (by simpa using he) hb
     rw [hjl] at this;cases this
   rw [h.still i x t him hx hil hd,f3 t (fun i' x' hi' hx'=>by
    obtain ⟨hm',hx''⟩:=lead_some hx'
    rw [← hd];exact fun e=>ht.apart i x i' x' him hm' hx hx'' (by omega) e)]
  obtain ⟨s,hs⟩:=hSS i him
  obtain ⟨d',hd',hsz⟩:=ht.dst i x him hx
  obtain rfl:t=d':=by rw [hd] at hd';injection hd'
  rw [f4 i x s t hij (by rw [lead_get him];exact hx) hs hd hsz (fun i' o' hne ho'=>by
   obtain ⟨hm',ho''⟩:=lead_some ho'
   rw [← hd];exact fun e=>ht.apart i x i' o' him hm' hx ho'' hne e),Nat.zero_add,valsOf_at hx hd]
  unfold depsOf at hdep
  simp only [List.mem_map,List.mem_filter] at hdep
  obtain ⟨e,⟨he,hb⟩,rfl⟩:=hdep
  exact holds_val (h.near _ x s t him hx (hall e (by simpa using he) hb) hs hd)
 ·have hno:∀ (i:Nat) (x:Oper),i < m→ops[i]?=some x→x.dst≠some t:=fun i x him hx hd=>hex ⟨i,x,him,hx,hd⟩
  rw [f3 t (fun i x _ hx=>by obtain ⟨hm',hx'⟩:=lead_some hx;exact hno i x hm' hx'),h.far t hno]
theorem Mid.all (h:Mid P ops C SS m a0 listed a w) (ht:Typed ops a0.tmps.size m) (hall:∀ i,i < m→listed.getD i false=true) (hSS:∀ i,i < m→∃ s,SS[i]?=some s) :
  frameAt (valsOf ops a) (lead ops m) SS 0 a0 m=a:=by
 obtain ⟨f1,f2,f3,f4⟩:=frame_get (valsOf ops a) (lead ops m) SS 0 a0 m
 refine act_ext (f1.trans h.defers.symm) (f2.trans h.size.symm) fun t=>?_
 by_cases hex:∃ (i:Nat) (x:Oper),i < m∧ops[i]?=some x∧x.dst=some t
 ·obtain ⟨i,x,him,hx,hd⟩:=hex
  obtain ⟨s,hs⟩:=hSS i him
  obtain ⟨d',hd',hsz⟩:=ht.dst i x him hx
  obtain rfl:t=d':=by rw [hd] at hd';injection hd'
  rw [f4 i x s t him (by rw [lead_get him];exact hx) hs hd hsz (fun i' o' hne ho'=>by
   obtain ⟨hm',ho''⟩:=lead_some ho'
   rw [← hd];exact fun e=>ht.apart i x i' o' him hm' hx ho'' hne e),Nat.zero_add,valsOf_at hx hd]
  exact holds_val (h.near _ x s t him hx (hall i him) hs hd)
 ·have hno:∀ (i:Nat) (x:Oper),i < m→ops[i]?=some x→x.dst≠some t:=fun i x him hx hd=>hex ⟨i,x,him,hx,hd⟩
  rw [f3 t (fun i x _ hx=>by obtain ⟨hm',hx'⟩:=lead_some hx;exact hno i x hm' hx'),h.far t hno]
section
variable [Grow]
theorem Mid.put (h:Mid P ops C SS m a0 listed a w) (ht:Typed ops a0.tmps.size m) (hC:∀ w w',C w→Grow.R w w'→C w') (hK:∀ (i:Nat) T,i < m→SS[i]?=some (Spec.typed T)→Kept T)
  {j:Nat} {o:Oper} {s:Spec} {v:Value} (hall:∀ e∈o.after,Region.binds .any e=true→listed.getD e.on false=true) (hjm:j < m) (hj:ops[j]?=some o) (hs:SS[j]?=some s) (hb:Grow.R w w') (hv:s.holds v w'):Mid P ops C SS m a0 (listed.setIfInBounds j true) (a.put o.dst v) w':=by
 obtain ⟨d,hd,hsz⟩:=ht.dst j o hjm hj
 refine ⟨hC _ _ h.cls hb,by rw [put_defers];exact h.defers,by rw [put_size];exact h.size,fun t hno=>?_,fun i x s' d' him hx hl hs' hd'=>?_,by simpa using h.list,fun j' hj'=>by rw [getD_set_ne false (by omega)];exact h.tail j' hj',fun i x him hx hl e he hb=>?_,fun i x d' him hx hl hd'=>?_⟩
 ·rw [put_other _ _ _ _ (hno j o hjm hj)];exact h.far t hno
 ·by_cases hij:i=j
  ·subst hij
   rw [hj] at hx;injection hx with hx;subst hx
   rw [hs] at hs';injection hs' with hs';subst hs'
   rw [hd] at hd';injection hd' with hd';subst hd'
   rw [hd,put_same _ _ _ (by rw [h.size];exact hsz)]
   exact hv
  ·rw [put_other _ _ _ _ (by rw [← hd'];exact fun e=>ht.apart i x j o him hjm hx hj (Ne.symm hij) e)]
   have hl':listed.getD i false=true:=by rw [getD_set_ne false (Ne.symm hij)] at hl;exact hl
   have hn:=h.near i x s' d' him hx hl' hs' hd'
   cases s' with
   | exact c=>exact hn
   | typed T=>exact hK i T him hs' _ _ _ hn hb
 ·by_cases hij:i=j
  ·subst hij
   rw [hj] at hx;injection hx with hx;subst hx
   exact getD_set_true (hall e he hb)
  ·rw [getD_set_ne false (Ne.symm hij)] at hl
   exact getD_set_true (h.closed i x him hx hl e he hb)
 ·by_cases hij:i=j
  ·subst hij
   exfalso
   have hz:i < listed.size:=by rw [h.list];exact (Array.getElem?_eq_some_iff.1 hj).1
   simp [hz] at hl
  ·rw [put_other _ _ _ _ (by rw [← hd'];exact fun e=>ht.apart i x j o him hjm hx hj (Ne.symm hij) e)]
   exact h.still i x d' him hx (by rw [getD_set_ne false (Ne.symm hij)] at hl;exact hl) hd'
end
end
section
variable [Grow]
def upTo (n j:Nat):Array Bool:=Array.ofFn (n:=n) fun i=>decide (i.val < j)
end
theorem upTo_size (n j:Nat):(upTo n j).size=n:=by simp [upTo]
theorem upTo_get {n j i:Nat} (h:i < n) (d:Bool):(upTo n j).getD i d=decide (i < j):=by
 unfold upTo
 rw [aA,Array.getElem?_ofFn,dif_pos h]
 rfl
theorem upTo_set {n j:Nat} (_h:j < n):(upTo n j).setIfInBounds j true=upTo n (j+1):=by
 apply Array.ext (by simp [upTo])
 intro i h1 h2
 have hn:i < n:=by rw [upTo_size] at h2;exact h2
 by_cases e:j=i
 ·subst e;simp [upTo]
 ·rw [Array.getElem_setIfInBounds_ne (by rw [upTo_size];exact hn) e]
  simp only [upTo,Array.getElem_ofFn]
  by_cases hij:i < j
  ·have:=Nat.lt_succ_of_lt hij;simp [hij];omega
  ·have:¬ i < j+1:=by omega
   simp [hij,this]
section
variable [Grow]
def tailQ (P:Program) (ops:Array Oper) (m:Nat) (Q':Exit→Act→World→Prop) (a:Act) (w:World):Prop:=wpAny P .any ops Q' (ops.size - m) (upTo ops.size m) a w
end
theorem left_upTo (n:Nat):∀ j,j≤n→((List.range n).filter fun i=>!(upTo n j).getD i false).length=n - j:=by
 intro j hj
 have e:((List.range n).filter fun i=>!(upTo n j).getD i false)=(List.range n).filter fun i=>decide (j≤i):=List.filter_congr fun i hi=>by
  rw [upTo_get (List.mem_range.1 hi)]
  by_cases h:i < j
  ·have:¬ j≤i:=by omega
   simp [h,this]
  ·have:j≤i:=by omega
   simp [h,this]
 rw [e]
 clear e
 induction n with
 | zero=>simp
 | succ n ih =>
  rw [List.range_succ,List.filter_append,aK]
  rcases Nat.lt_or_ge n j with h | h
  ·have hnj:j=n+1:=by omega
   subst hnj
   have e0:(List.range n).filter (fun i=>decide (n+1≤i))=[]:=by
    rw [List.filter_eq_nil_iff]
    intro i hi
    have:=List.mem_range.1 hi
    simp;omega
   rw [e0]
   simp
  ·rw [ih h]
   simp [h];omega
theorem filter_one {α:Type} (p q:α→Bool) {x:α}:∀ (l:List α),l.Nodup→x∈l→p x=true→q x=false→(∀ y∈l,y≠x→q y=p y)→(l.filter p).length=(l.filter q).length+1
 | [],_,h,_,_,_=>by cases h
 | y::l,hn,h,hp,hq,hs=>by
  rw [List.nodup_cons] at hn
  rcases aL h with rfl | h
  ·rw [List.filter_cons,List.filter_cons,if_pos hp,if_neg (by rw [hq];simp)]
   have:l.filter q=l.filter p:=List.filter_congr fun z hz=>hs z (List.mem_cons_of_mem _ hz) (fun e=>hn.1 (e ▸ hz))
   rw [this,List.length_cons]
  ·have ih:=filter_one p q l hn.2 h hp hq (fun z hz=>hs z (List.mem_cons_of_mem _ hz))
   have hyx:y≠x:=fun e=>hn.1 (e ▸ h)
   have hy:=hs y List.mem_cons_self hyx
   rw [List.filter_cons,List.filter_cons,hy]
   split
   ·rw [List.length_cons,List.length_cons,ih]
   ·exact ih
section
variable [Grow]
theorem wpAny_typed {SS:List Spec} {m:Nat} {a0:Act} {Q':Exit→Act→World→Prop} (ht:Typed ops a0.tmps.size m) (hC:∀ w w',C w→Grow.R w w'→C w')
  (h:wpT P ops C (tailQ P ops m Q') (lead ops m) SS 0 [] a0):∀ (fuel:Nat) (listed:Array Bool) (a:Act) (w:World),((List.range ops.size).filter fun i=>!listed.getD i false).length=fuel→Mid P ops C SS m a0 listed a w→wpAny P .any ops Q' fuel listed a w:=by
 have ext:=fun vs=>wpT_extract (P:=P) (ops:=ops) (C:=C) (Q:=tailQ P ops m Q') SS vs (lead ops m) SS 0 [] a0 (fun j=>by rw [Nat.zero_add]) (fun p hp=>by cases hp) h
 have hle:=ht.le
 have hSS:∀ i,i < m→∃ s,SS[i]?=some s:=fun i hi=>by
  obtain ⟨s,hs,_⟩:=(ext (fun _=>undef)).1 i ops[i] (by rw [lead_get hi];exact Array.getElem?_eq_getElem (by omega))
  exact ⟨s,hs⟩
 have hK:∀ (i:Nat) T,i < m→SS[i]?=some (Spec.typed T)→Kept T:=fun i T hlt hi=>by
  obtain ⟨s,hs,hk,_⟩:=(ext (fun _=>undef)).1 i ops[i] (by rw [lead_get hlt];exact Array.getElem?_eq_getElem (by omega))
  rw [hi] at hs;injection hs with hs;subst hs
  exact hk T rfl
 -- nothing of the first m waits: all of them have come up,and the frame is the walk's
 have full:∀ (listed:Array Bool) (a:Act) (w:World),Mid P ops C SS m a0 listed a w→(∀ i,i < m→listed.getD i false=true)→tailQ P ops m Q' a w:=fun listed a w hm hall=>by
  have hf:=(ext (valsOf ops a)).2 w hm.cls (fun i hi=>by
   have hi':i < m:=by rw [lead_length hle] at hi;omega
   exact hm.holdsAt ht hi' (hall i hi'))
  rw [lead_length hle,hm.all ht hall hSS] at hf
  exact hf
 have alld:∀ (listed:Array Bool) (a:Act) (w:World),Mid P ops C SS m a0 listed a w→Region.ready .any ops listed=[]→∀ i,i < m→listed.getD i false=true:=fun listed a w hm hr i=>by
  induction i using Nat.strongRecOn with
  | ind i ih =>
   intro hi
   cases hl:listed.getD i false with
   | true=>rfl
   | false =>
    have hio:i < ops.size:=by omega
    have hmem:i∈Region.ready .any ops listed:=mem_ready.2 ⟨by
     have hz:i < listed.size:=by rw [hm.list];exact hio
     simpa [hz] using hl,ops[i],Array.getElem?_eq_getElem hio,fun e he hb=>by
      have:=ht.back i _ (Array.getElem?_eq_getElem hio) e he hb
      exact ih e.on this (by omega)⟩
    rw [hr] at hmem;cases hmem
 have atEnd:∀ (fuel:Nat) (listed:Array Bool) (a:Act) (w:World),((List.range ops.size).filter fun i=>!listed.getD i false).length=fuel→Mid P ops C SS m a0 listed a w→(∀ i,i < m→listed.getD i false=true)→wpAny P .any ops Q' fuel listed a w:=fun fuel listed a w hf hm hall=>by
  have e:listed=upTo ops.size m:=by
   apply Array.ext (by rw [hm.list,upTo_size])
   intro i h1 h2
   have hz:i < ops.size:=by rw [upTo_size] at h2;exact h2
   have e1:listed.getD i false=listed[i]:=by simp [Array.getD,h1]
   have e2:(upTo ops.size m).getD i false=(upTo ops.size m)[i]:=by simp [Array.getD,h2]
   rw [← e1,← e2,upTo_get hz]
   rcases Nat.lt_or_ge i m with h' | h'
   ·rw [hall i h'];simp [h']
   ·rw [hm.tail i h']
    have:¬ i < m:=by omega
    simp [this]
  have hq:=full listed a w hm hall
  unfold tailQ at hq
  rw [e,left_upTo _ _ hle] at hf
  rw [e,← hf]
  exact hq
 intro fuel
 induction fuel with
 | zero =>
  intro listed a w hf hm
  refine atEnd 0 listed a w hf hm fun i hi=>?_
  cases hl:listed.getD i false with
  | true=>rfl
  | false =>
   have:i∈(List.range ops.size).filter fun i=>!listed.getD i false:=List.mem_filter.2 ⟨List.mem_range.2 (by omega),by rw [hl];rfl⟩
   rw [List.eq_nil_of_length_eq_zero hf] at this
   cases this
 | succ fuel ih =>
  intro listed a w hf hm
  by_cases hend:∀ i,i < m→listed.getD i false=true
  ·exact atEnd _ listed a w hf hm hend
  refine ⟨fun hr=>absurd (alld listed a w hm hr) hend,fun j hj=>?_⟩
  obtain ⟨h0,o,ho,hall⟩:=mem_ready.1 hj
  have hlt:=(Array.getElem?_eq_some_iff.1 ho).1
  have hz:j < listed.size:=by rw [hm.list];exact hlt
  have hl0:listed.getD j false=false:=by simp [hz] at h0 ⊢;exact h0
  have hcount:((List.range ops.size).filter fun i=>!(listed.setIfInBounds j true).getD i false).length=fuel:=by
   have:=filter_one (x:=j) (fun i=>!listed.getD i false) (fun i=>!(listed.setIfInBounds j true).getD i false) (List.range ops.size) List.nodup_range (List.mem_range.2 hlt) (by rw [hl0];rfl) (by simp [hz]) (fun i _ h=>by
    rw [getD_set_ne false (Ne.symm h)])
   omega
  have hjm:j < m:=by
   rcases Nat.lt_or_ge j m with h' | h'
   ·exact h'
   ·have hdl:∀ i∈depsOf o,listed.getD i false=true:=fun i hi=>by
     unfold depsOf at hi
     simp only [List.mem_map,List.mem_filter] at hi
     obtain ⟨e,⟨he,hb⟩,rfl⟩:=hi
     exact hall e (by simpa using he) hb
    rcases ht.tail j o h' ho with hcv | ⟨d,hd,hmd⟩
    ·exact absurd (cov_all m (depsOf o) (fun i o' hi ho' hl=>hm.closed i o' hi ho' hl) hcv hdl) hend
    ·have h1:=hdl d hd
     rw [hm.tail d hmd] at h1;cases h1
  obtain ⟨s,hs,_,hcase⟩:=(ext (valsOf ops a)).1 j o (by rw [lead_get hjm];exact ho)
  have hag:=hm.agree ht hjm ho hl0 hall hSS
  obtain ⟨f1,f2,_,_⟩:=frame_get (valsOf ops a) (lead ops m) SS 0 a0 j
  have hsz:(frameAt (valsOf ops a) (lead ops m) SS 0 a0 j).tmps.size=a.tmps.size:=f2.trans hm.size.symm
  obtain ⟨d,hd,hdl⟩:=ht.dst j o hjm ho
  have hg1:=hcase w hm.cls (fun i hi=>by
    unfold depsOf at hi
    simp only [List.mem_map,List.mem_filter] at hi
    obtain ⟨e,⟨he,hb⟩,rfl⟩:=hi
    exact hm.holdsAt ht (by have:=ht.back j o ho e (by simpa using he) hb;omega) (hall e (by simpa using he) hb))
  unfold wpOp
  simp only [ho]
  have hws:=wanted_same (ops:=ops) o hsz hag
  cases hw:Region.wanted o (yielded ops a.tmps)
  ·rw [if_neg (by simp)]
   exact ih _ _ _ hcount (hm.put ht hC hK hall hjm ho hs (Grow.refl _) (gives_skip hd (by rw [f2];exact hdl) (hws.trans hw) hg1))
  ·rw [if_pos rfl]
   refine .inl ?_
   refine Oper.wp_mono ?_ (gives_at hd (by rw [f2];exact hdl) (exec_same (ops:=ops) o (fun cs b=>Region.noSelect_spec ht.sel j o cs b ho) hag) (hws.trans hw) hg1)
   rintro a' w' ⟨v,rfl,hb,hv⟩
   exact ih _ _ _ hcount (hm.put ht hC hK hall hjm ho hs hb hv)
end
theorem wpAny_chain {Q':Exit→Act→World→Prop} {m:Nat} (hback:∀ (j:Nat) (o:Oper),ops[j]?=some o→∀ e∈o.after,Region.binds .any e=true→e.on < j)
  (hch:∀ (j:Nat) (o:Oper),m≤j→ops[j]?=some o→covB ops j (depsOf o)=true):∀ (n j:Nat) (a:Act) (w:World),ops.size - j=n→m≤j→j≤ops.size→wpList P ops Q' (ops.toList.drop j) a w→wpAny P .any ops Q' n (upTo ops.size j) a w
 | 0,j,a,w,hn,hm,hj,h=>by
  have e:j=ops.size:=by omega
  refine ⟨?_,?_⟩
  ·rw [List.eq_nil_iff_forall_not_mem]
   intro i hi
   obtain ⟨h0,o',ho',_⟩:=mem_ready.1 hi
   have hlt:=(Array.getElem?_eq_some_iff.1 ho').1
   rw [upTo_get hlt] at h0
   simp at h0;omega
  ·rw [List.drop_eq_nil_iff.2 (by rw [Array.length_toList];omega)] at h
   exact h
 | n+1,j,a,w,hn,hm,hj,h=>by
  have hlt:j < ops.size:=by omega
  have hno:∀ i∈Region.ready .any ops (upTo ops.size j),i=j:=fun i hi=>by
   obtain ⟨h0,o',ho',hall⟩:=mem_ready.1 hi
   have hil:=(Array.getElem?_eq_some_iff.1 ho').1
   rw [upTo_get hil] at h0
   have hij:j≤i:=by simpa using h0
   rcases Nat.eq_or_lt_of_le hij with h' | h'
   ·exact h'.symm
   ·have:=cov_all (ops:=ops) (listed:=upTo ops.size j) i (depsOf o') (fun x ox hx hox hl e he hb=>by
     have hxs:=(Array.getElem?_eq_some_iff.1 hox).1
     rw [upTo_get hxs] at hl
     have hxj:x < j:=by simpa using hl
     have:=hback x ox hox e he hb
     rw [upTo_get (by omega)]
     simp;omega) (hch i o' (by omega) ho') (fun x hx=>by
     unfold depsOf at hx
     simp only [List.mem_map,List.mem_filter] at hx
     obtain ⟨e,⟨he,hb⟩,rfl⟩:=hx
     exact hall e (by simpa using he) hb) j h'
    rw [upTo_get hlt] at this
    simp at this
  have hmem:j∈Region.ready .any ops (upTo ops.size j):=mem_ready.2 ⟨by rw [upTo_get hlt];simp,ops[j],Array.getElem?_eq_getElem hlt,fun e he hb=>by
   have:=hback j _ (Array.getElem?_eq_getElem hlt) e he hb
   rw [upTo_get (by omega)]
   simp;omega⟩
  refine ⟨fun hr=>absurd hmem (by rw [hr];exact List.not_mem_nil),fun i hi=>?_⟩
  obtain rfl:=hno i hi
  rw [List.drop_eq_getElem_cons (by rw [Array.length_toList];omega)] at h
  have next:∀ (a:Act) (w:World),wpList P ops Q' (ops.toList.drop (i+1)) a w→wpAny P .any ops Q' n ((upTo ops.size i).setIfInBounds i true) a w:=fun a w hq=>by
   rw [upTo_set hlt]
   exact wpAny_chain hback hch n (i+1) a w (by omega) (by omega) (by omega) hq
  unfold wpOp
  simp only [Array.getElem?_eq_getElem hlt]
  unfold wpList at h
  have eo:ops.toList[i]'(by rw [Array.length_toList];exact hlt)=ops[i]:=by simp
  rw [eo] at h
  split
  ·rename_i hw
   rw [if_pos hw] at h
   exact h.imp (Oper.wp_mono (fun a w hq=>next a w hq)) id
  ·rename_i hw
   rw [if_neg hw] at h
   exact next _ _ h
section
variable [Grow]
theorem wp_region_typed0 {id:Nat} {l:List Oper} {a:Act} {w:World} {SS:List Spec} {Q':Exit→Act→World→Prop} {n m:Nat} {l1 l2:List Oper} (hl:l=l1++l2) (hlm:l1.length=m) (hm:P.follows .mixedOrders=true) (hn:a.tmps.size=n) (hB:typedB0 l.toArray n m=true)
  (hw:C w.drew) (hC:∀ w w',C w→Grow.R w w'→C w') (h:wpT P l.toArray C (fun a w=>wpAny P .any l.toArray Q' (l.toArray.size - m) (upTo l.toArray.size m) a w) l1 SS 0 [] a):(Code.region id l.toArray true).wp P Q' a w:=by
 have ht:=typed_of hB
 rw [← hn] at ht
 have e1:lead l.toArray m=l1:=by unfold lead;rw [hl,← hlm];simp
 have hz:∀ i,(Array.replicate l.toArray.size false).getD i false=false:=fun i=>by
   rcases Nat.lt_or_ge i l.toArray.size with h' | h'
   ·rw [aA,Array.getElem?_replicate,if_pos h'];rfl
   ·rw [aA,Array.getElem?_replicate,if_neg (Nat.not_lt.2 h')];rfl
 refine wp_region_any hm (wpAny_typed (C:=C) (SS:=SS) (m:=m) ht hC (by rw [e1];exact h) _ _ _ _ ?_ ?_)
 ·rw [List.filter_eq_self.2 (fun i _=>by rw [hz i];rfl),List.length_range]
 ·exact ⟨hw,rfl,rfl,fun _ _=>rfl,(fun i o s d _ _ hl=>by rw [hz i] at hl;cases hl),by simp,fun j _=>hz j,(fun i o _ _ hl=>by rw [hz i] at hl;cases hl),fun _ _ _ _ _ _ _=>rfl⟩
theorem wpT_mono {Q1 Q2:Act→World→Prop} (hq:∀ a w,Q1 a w→Q2 a w):∀ (os:List Oper) (ss:List Spec) (k:Nat) (fs:List (Nat × (World→Prop))) (a:Act),wpT P ops C Q1 os ss k fs a→wpT P ops C Q2 os ss k fs a
 | [],_,_,_,_,h=>fun w h1 h2=>hq _ _ (h w h1 h2)
 | _::_,[],_,_,_,h=>h
 | _::os,.exact _::ss,_,_,_,h=>⟨h.1,wpT_mono hq os ss _ _ _ h.2⟩
 | _::os,.typed _::ss,_,_,_,h=>⟨h.1,fun v=>wpT_mono hq os ss _ _ _ (h.2 v)⟩
theorem wp_region_typed {id:Nat} {l:List Oper} {a:Act} {w:World} {SS:List Spec} {Q':Exit→Act→World→Prop} {n m:Nat} {l1 l2:List Oper} (hl:l=l1++l2) (hlm:l1.length=m) (hm:P.follows .mixedOrders=true) (hn:a.tmps.size=n) (hB:typedB l.toArray n m=true)
  (hw:C w.drew) (hC:∀ w w',C w→Grow.R w w'→C w') (h:wpT P l.toArray C (fun a w=>wpList P l.toArray Q' l2 a w) l1 SS 0 [] a):(Code.region id l.toArray true).wp P Q' a w:=by
 unfold typedB at hB
 rw [Bool.and_eq_true] at hB
 have ht:=typed_of hB.1
 have hc:=hB.2
 unfold chainB at hc
 rw [List.all_eq_true] at hc
 refine wp_region_typed0 hl hlm hm hn hB.1 hw hC (wpT_mono (fun a w hq=>?_) _ _ _ _ _ h)
 have e2:l.toArray.toList.drop m=l2:=by rw [hl,← hlm];simp
 rw [← e2] at hq
 refine wpAny_chain ht.back (fun j o hj ho=>?_) _ m a w rfl (Nat.le_refl _) ht.le hq
 have:=hc j (List.mem_range.2 (Array.getElem?_eq_some_iff.1 ho).1)
 simp only [ho,Bool.or_eq_true,decide_eq_true_eq] at this
 rcases this with h' | h'
 ·omega
 ·exact h'
end
section
variable {o:Oper} {os:List Oper} {ss:List Spec} {k:Nat} {fs:List (Nat × (World→Prop))} {a:Act}
section
variable [Grow]
theorem wpT_exact {c:Value} (h:∀ w,C w→factsOn fs (depsOf o) w→Gives P ops o a w (fun v _=>v=c)) (hr:wpT P ops C Q os ss (k+1) fs (a.put o.dst c)):wpT P ops C Q (o::os) (.exact c::ss) k fs a:=⟨h,hr⟩
theorem wpT_typed {T:Value→World→Prop} (hk:Kept T) (h:∀ w,C w→factsOn fs (depsOf o) w→Gives P ops o a w T) (hr:∀ v,wpT P ops C Q os ss (k+1) ((k,T v)::fs) (a.put o.dst v)):wpT P ops C Q (o::os) (.typed T::ss) k fs a:=⟨⟨hk,h⟩,hr⟩
theorem wpT_done (h:∀ w,C w→allFacts fs w→Q a w):wpT P ops C Q [] [] k fs a:=h
end
end
end
end RG
end Go.Proofs.YtmplaikgbeeikaaGreatDoor
namespace Go.Proofs.YtmplaikgbeeikaaGreatDoor
open Go Go.RowKit
structure MkR (gm:Nat) (t:TypeId) (sl:Value) (W W':World):Prop where
 chg:Chg [gm] W W'
 box:∀ i,inI i→Blk W gm t #[sl,.int .i64 i]→∃ i',inI i'∧Blk W' gm t #[sl,.int .i64 i']
section
variable {gm:Nat} {t:TypeId} {sl:Value} {W W' W'':World}
theorem MkR.refl (gm:Nat) (t:TypeId) (sl:Value) (W:World):MkR gm t sl W W:=⟨Chg.refl _ _,fun i h1 h2=>⟨i,h1,h2⟩⟩
theorem MkR.trans (h:MkR gm t sl W W') (k:MkR gm t sl W' W''):MkR gm t sl W W'' :=
 ⟨h.chg.trans k.chg,fun i h1 h2=>by obtain ⟨i',h1',h2'⟩:=h.box i h1 h2;exact k.box i' h1' h2'⟩
theorem MkR.below (h:Below W.heap.size W W'):MkR gm t sl W W':=⟨Chg.of_below h,fun i h1 h2=>⟨i,h1,h2.below h h2.lt⟩⟩
theorem MkR.set_ (i:Int) (_hi:inI i) (_hb:Blk W gm t #[sl,.int .i64 i]) (j:Int) (hj:inI j):MkR gm t sl W (W.setCell ⟨gm,1,none⟩ (.int .i64 j)) :=
 ⟨Chg.set_ W (p:=⟨gm,1,none⟩) (.head _) _,fun _i' _ hb'=>⟨j,hj,hb'.set_ 1 _⟩⟩
@[reducible] def mkGrow (gm:Nat) (t:TypeId) (sl:Value):Grow:=⟨MkR gm t sl,MkR.refl gm t sl,MkR.trans,MkR.below⟩
variable {w:World} {G M:List Nat} {bx:List Box} {L:List (List Nat→World→Prop)}
theorem Held.mkr {i:Int} (h:Held w G M ((gm,t,#[sl,.int .i64 i])::bx) L W) (hi:inI i) (hr:MkR gm t sl W W'):∃ i',inI i'∧Held w G M ((gm,t,#[sl,.int .i64 i'])::bx) L W':=by
 have hb:=h.bs (gm,t,#[sl,.int .i64 i]) (.head _)
 obtain ⟨i',hi',hb'⟩:=hr.box i hi hb.2.2
 have nd:=h.nd
 rw [List.map_cons,List.nodup_cons] at nd
 refine ⟨i',hi',⟨⟨hr.chg.os.trans h.bl.os,hr.chg.tape.trans h.bl.tape,hr.chg.output.trans h.bl.output,Nat.le_trans h.bl.size hr.chg.size,fun k hk=>?_⟩,fun g hg=>Nat.lt_of_lt_of_le (h.mb g hg) hr.chg.size,h.gm,fun x hx=>?_,h.nd,fun P hP=>⟨(h.all P hP).1,?_⟩⟩⟩
 ·refine (hr.chg.block k (Nat.lt_of_lt_of_le hk h.bl.size) fun hm=>?_).trans (h.bl.block k hk)
  have e:k=gm:=by simpa using hm
  have:=hb.2.1
  simp only at this
  omega
 ·rcases aL hx with rfl | hx'
  ·exact ⟨hb.1,hb.2.1,hb'⟩
  ·have h1:=h.bs x (.tail _ hx')
   refine ⟨h1.1,h1.2.1,(hr.chg.block x.1 h1.2.2.lt fun hm=>?_).trans h1.2.2⟩
   have e:x.1=gm:=by simpa using hm
   exact nd.1 (e ▸ List.mem_map.2 ⟨x,hx',rfl⟩)
 ·exact (h.all P hP).1.1 _ _ _ (h.all P hP).2 (hr.chg.mono fun g hg=>by rw [List.mem_singleton.1 hg];exact .inl hb.1)
end
structure Rw where
 e:TypeId
 size:Nat
 v:Value
 n:Nat
 xs:List Value
def RwApart (r s:Rw):Prop:=∀ g,r.v.ownBlock=some g→s.v.ownBlock≠some g
theorem RwApart.symm {r s:Rw} (h:RwApart r s):RwApart s r:=fun g h1 h2=>h g h2 h1
theorem RwApart.nil {e:TypeId} {size:Nat} {s:Rw}:RwApart ⟨e,size,.slice none 0 0,0,[]⟩ s:=fun g h=>by simp [Value.ownBlock] at h
structure HR (w:World) (G M:List Nat) (bx:List Box) (rs:List Rw) (L:List (List Nat→World→Prop)) (W:World):Prop where
 h:Held w G M bx L W
 ok:∀ r∈rs,RowOk w M bx r.v
 own:∀ r∈rs,W.ownsRow w.heap.size r.e r.size r.v r.n r.xs
 apart:rs.Pairwise RwApart
section
variable {w W W':World} {G M:List Nat} {bx:List Box} {rs:List Rw} {r:Rw} {L:List (List Nat→World→Prop)}
theorem HR.start (h:Held w G M bx L W):HR w G M bx [] L W:=⟨h,fun _ h=>(by cases h),fun _ h=>(by cases h),List.Pairwise.nil⟩
theorem HR.below (h:HR w G M bx rs L W) (hb:Below W.heap.size W W'):HR w G M bx rs L W':=⟨h.h.below hb,h.ok,fun r hr=>owns_below (h.own r hr) hb,h.apart⟩
theorem HR.drew (h:HR w G M bx rs L W):HR w G M bx rs L W.drew:=h.below ⟨rfl,rfl,rfl,Nat.le_refl _,fun _ _=>rfl⟩
theorem HR.add (h:HR w G M bx rs L W) {P:List Nat→World→Prop} (hk:Keeps P) (hp:P M W):HR w G M bx rs (P::L) W:=⟨h.h.add hk hp,h.ok,h.own,h.apart⟩
theorem HR.less {L':List (List Nat→World→Prop)} (h:HR w G M bx rs L W) (hL:∀ P∈L',P∈L):HR w G M bx rs L' W:=⟨h.h.less hL (List.Sublist.refl _),h.ok,h.own,h.apart⟩
theorem HR.boxes {bx':List Box} (h:HR w G M bx rs L W) (hb:bx'.Sublist bx):HR w G M bx' rs L W:=⟨h.h.less (fun _ h=>h) hb,fun r hr=>(h.ok r hr).sub (fun _x hx=>hb.subset hx),h.own,h.apart⟩
theorem HR.bperm {bx':List Box} (h:HR w G M bx rs L W) (hb:bx.Perm bx'):HR w G M bx' rs L W :=
 ⟨⟨h.h.bl,h.h.mb,h.h.gm,fun x hx=>h.h.bs x (hb.mem_iff.2 hx),(hb.map _).nodup_iff.1 h.h.nd,h.h.all⟩,fun r hr=>(h.ok r hr).sub (fun _x hx=>hb.mem_iff.2 hx),h.own,h.apart⟩
theorem HR.perm {rs':List Rw} (h:HR w G M bx rs L W) (hp:rs.Perm rs'):HR w G M bx rs' L W :=
 ⟨h.h,fun r hr=>h.ok r (hp.mem_iff.2 hr),fun r hr=>h.own r (hp.mem_iff.2 hr),(hp.pairwise_iff RwApart.symm).1 h.apart⟩
theorem HR.new (h:HR w G M bx rs L W) (cs:Array Value) (t:TypeId) {N:Nat} (hN:W.heap.size=N):HR w G (N::M) ((N,t,cs)::bx) rs L (W.alloc (.cells cs t)) :=
 ⟨h.h.new cs t hN,fun r hr=>(h.ok r hr).new (h.own r hr) hN rfl,fun r hr=>owns_below (h.own r hr) ((Below.refl _ _).alloc (Nat.le_refl _) _),h.apart⟩
theorem HR.push (h:HR w G M bx rs L W) (e:TypeId) (size:Nat):HR w G M bx (⟨e,size,.slice none 0 0,0,[]⟩::rs) L W :=
 ⟨h.h,fun r hr=>by
  rcases aL hr with rfl | hr
  ·exact RowOk.none_
  ·exact h.ok r hr,fun r hr=>by
  rcases aL hr with rfl | hr
  ·exact ownsRow_nil _ _ _ _ h.h.bl.size
  ·exact h.own r hr,List.pairwise_cons.2 ⟨fun s _=>RwApart.nil,h.apart⟩⟩
theorem HR.take (h:HR w G M bx rs L W) (hb:Below W.heap.size W W') {e:TypeId} {size n:Nat} {v:Value} {xs:List Value} (hown:W'.ownsRow W.heap.size e size v n xs) :
  ∃ M',HR w G M' bx (⟨e,size,v,n,xs⟩::rs) L W'∧∀ g∈M,g∈M':=by
 obtain ⟨M',h',hs⟩:=h.h.take hb hown
 refine ⟨M',⟨h'.h,fun r hr=>?_,fun r hr=>?_,List.pairwise_cons.2 ⟨fun s hs' g h1 h2=>?_,h.apart⟩⟩,hs⟩
 ·rcases aL hr with rfl | hr
  ·exact h'.ok
  ·exact (h.ok r hr).mono hs
 ·rcases aL hr with rfl | hr
  ·exact h'.own
  ·exact owns_below (h.own r hr) hb
 ·have k1:=(World.ownsRow.lt (h.own s hs') g h2).2
  have k2:=(World.ownsRow.lt hown g h1).1
  omega
theorem HR.set_ {N:Nat} {t:TypeId} {cs:Array Value} {bx1 bx2:List Box} (h:HR w G M (bx1++(N,t,cs)::bx2) rs L W) (i:Nat) (u:Value):HR w G M (bx1++(N,t,cs.setIfInBounds i u)::bx2) rs L (W.setCell ⟨N,i,none⟩ u):=by
 have key:∀ r∈rs,HRow w G M (bx1++(N,t,cs.setIfInBounds i u)::bx2) L r.e r.size r.v r.n r.xs (W.setCell ⟨N,i,none⟩ u):=fun r hr=>HRow.set_ ⟨h.h,h.ok r hr,h.own r hr⟩ i u
 exact ⟨h.h.set_ i u,fun r hr=>(key r hr).ok,fun r hr=>(key r hr).own,h.apart⟩
theorem HR.setRow {e:TypeId} {size n c g k:Nat} {xs:List Value} (h:HR w G M bx (⟨e,size,.slice (some ⟨g,0,none⟩) n c,n,xs⟩::rs) L W) (u:Value) (_hk:k < n*size) :
  HR w G M bx (⟨e,size,.slice (some ⟨g,0,none⟩) n c,n,xs.set k u⟩::rs) L (W.setCell ⟨g,k,none⟩ u):=by
 have hok:=h.ok _ (.head _) g rfl
 have hown:=h.own _ (.head _)
 have hgr:W.grownBy (W.setCell ⟨g,k,none⟩ u) (some g):=⟨rfl,rfl,rfl,by simp [World.setCell],fun j _ hj=>Below.heap_setCell _ _ _ _ (fun e=>hj (by rw [e]))⟩
 have hap:=(List.pairwise_cons.1 h.apart)
 refine ⟨⟨h.h.bl.setCell (p:=⟨g,k,none⟩) hok.2.1 u,fun j hj=>by simpa [World.setCell] using h.h.mb j hj,h.h.gm,fun x hx=>⟨(h.h.bs x hx).1,(h.h.bs x hx).2.1,(h.h.bs x hx).2.2.far (hok.2.2 x hx) u⟩,h.h.nd,fun P hP=>⟨(h.h.all P hP).1,(h.h.all P hP).1.1 _ _ _ (h.h.all P hP).2 (Chg.set_ W (p:=⟨g,k,none⟩) hok.1 u)⟩⟩,fun r hr=>?_,fun r hr=>?_,List.pairwise_cons.2 ⟨fun s hs=>hap.1 s hs,hap.2⟩⟩
 ·rcases aL hr with rfl | hr
  ·exact h.ok ⟨e,size,.slice (some ⟨g,0,none⟩) n c,n,xs⟩ (.head _)
  ·exact h.ok r (.tail _ hr)
 ·rcases aL hr with rfl | hr
  ·refine ⟨by rw [List.length_set];exact hown.1,?_⟩
   rcases hown.2 with ⟨h1,_⟩ | ⟨g',cap,cur,h1,h2,h3,h4,h5,h6,h7⟩
   ·cases h1
   ·injection h1 with h1 _ h1c
    injection h1 with h1
    injection h1 with h1
    subst h1
    refine .inr ⟨g,cap,cur.setIfInBounds k u,by rw [h1c],h2,?_,h4,h5,by rw [Array.size_setIfInBounds];exact h6,?_⟩
    ·exact Blk.set_ h3 k u
    ·simp only at h7
     rw [Array.toList_setIfInBounds,List.take_set,h7]
  ·exact World.ownsRow.kept (h.own r (.tail _ hr)) hgr (.inr fun he=>hap.1 r hr g rfl he)
theorem HR.freeze {α:Type} [Mem α] {l:List α} {e:TypeId} {size n:Nat} {v:Value} {xs:List Value} (h:HR w G M bx (⟨e,size,v,n,xs⟩::rs) L W) (hs:size=Mem.sz α) (hn:n=l.length) (hf:Flat M W l xs) (hG:∀ g∈G,g < w.heap.size) :
  ∃ A c M',v=.slice A l.length c∧l.length≤c∧c≤9223372036854775807∧HR w G M' bx rs ((fun M W=>SlAt M W A l)::L) W∧(∀ g∈M',g∈M)∧∀ g∈M,g < w.heap.size→g∈M':=by
 subst hs hn
 obtain ⟨M',hM⟩:∃ M':List Nat,M'=M.filter (fun g=>decide (v.ownBlock≠some g)):=⟨_,rfl⟩
 have hmem:∀ g,g∈M'↔g∈M∧v.ownBlock≠some g:=fun g=>by rw [hM,List.mem_filter];simp
 have hsub:∀ g∈M',g∈M:=fun g hg=>((hmem g).1 hg).1
 have hok:=h.ok _ (.head _)
 have hap:=List.pairwise_cons.1 h.apart
 have hr:Rep M' W l v:=Rep.of_own (h.own _ (.head _)) (hf.sub fun g hg=>.inl (hsub g hg)) fun g hg hm=>((hmem g).1 hm).2 hg
 obtain ⟨A,c,h1,h2,h3,h4⟩:=hr
 injection h1 with h1 _
 refine ⟨A,c,M',h1,h2,h3,⟨⟨h.h.bl,fun g hg=>h.h.mb g (hsub g hg),fun g hg=>(hmem g).2 ⟨h.h.gm g hg,fun he=>?_⟩,fun x hx=>⟨(hmem x.1).2 ⟨(h.h.bs x hx).1,fun he=>(hok _ he).2.2 x hx rfl⟩,(h.h.bs x hx).2⟩,h.h.nd,fun P hP=>?_⟩,fun r hr g hg=>⟨(hmem g).2 ⟨(h.ok r (.tail _ hr) g hg).1,fun he=>hap.1 r hr g he hg⟩,(h.ok r (.tail _ hr) g hg).2⟩,fun r hr=>h.own r (.tail _ hr),hap.2⟩,hsub,fun g hg hlt=>(hmem g).2 ⟨hg,fun he=>?_⟩⟩
 ·have:=hG g hg
  have:=(hok _ he).2.1
  omega
 ·rcases aL hP with rfl | hP
  ·exact ⟨keeps_sl A l,h4⟩
  ·exact ⟨(h.h.all P hP).1,(h.h.all P hP).1.2 _ _ _ (h.h.all P hP).2 fun g hg=>.inl (hsub g hg)⟩
 ·have:=(hok _ he).2.1
  omega
theorem HR.mkr {gm:Nat} {t:TypeId} {sl:Value} {i:Int} (h:HR w G M ((gm,t,#[sl,.int .i64 i])::bx) rs L W) (hi:inI i) (hr:MkR gm t sl W W'):∃ i',inI i'∧HR w G M ((gm,t,#[sl,.int .i64 i'])::bx) rs L W':=by
 obtain ⟨i',hi',h'⟩:=h.h.mkr hi hr
 have key:∀ r∈rs,∀ g,r.v.ownBlock=some g→g≠gm:=fun r hr g hg e=>(h.ok r hr g hg).2.2 _ (.head _) e.symm
 refine ⟨i',hi',h',fun r hr g hg=>⟨(h.ok r hr g hg).1,(h.ok r hr g hg).2.1,fun x hx=>?_⟩,fun r hrs=>?_,h.apart⟩
 ·rcases aL hx with rfl | hx
  ·exact fun e=>key r hr g hg e.symm
  ·exact (h.ok r hr g hg).2.2 x (.tail _ hx)
 ·have hk:=key r hrs
  refine World.ownsRow.kept (row:=some gm) (h.own r hrs) ⟨hr.chg.os,hr.chg.tape,hr.chg.output,hr.chg.size,fun k hk hne=>hr.chg.block k hk fun hm=>hne (by rw [List.mem_singleton.1 hm])⟩ (.inr fun he=>hk gm he rfl)
variable {P:Program}
theorem wpList_append_rows {ops:Array Oper} {rest:List Oper} {o:Oper} {a:Act} {Q:Exit→Act→World→Prop} (hgd:o.guard=none) (s x:Operand) (t:TypeId)
  (ho:o.op=.call { callee:=.builtin .append,args:=#[s,x],argTypes:=#[t,t] })
  (e:TypeId) (i:TypeInfo) (z:Value) (size bytes:Nat) (ht:P.underlying t=some (.slice e)) (hi:P.info? e=some i) (hz:i.zero=some z)
  (hsize:i.size=size) (hby:i.bytes=bytes) (hzs:z.cells.size=size) (hsz:0 < size)
  {v:Value} {n:Nat} {xs:List Value} (H:HR w G M bx (⟨e,size,v,n,xs⟩::rs) L W) (hs:a.eval s=v)
  (B:Nat) (A:Option Addr) (m c:Nat) (news:List Value) (hx:a.eval x=.slice A m c) (hr:Reads W B size A m news) (h1:∀ u∈news,u.oneCell'=true)
  (h63:n+m≤maxLen) (hbytes:(n+m)*bytes≤140737488355328)
  (h:∀ v' W' M',HR w G M' bx (⟨e,size,v',n+m,xs++news⟩::rs) L W'→(∀ g∈M,g∈M')→wpList P ops Q rest (a.put o.dst v') W'):wpList P ops Q (o::rest) a W :=
 wpList_append_any W hgd s x t ho w.heap.size e i z size bytes ht hi hz hsize hby hzs hsz v n xs hs (H.own _ (.head _)) B A m c news hx hr h1 h63 hbytes H.h.bl.size fun v' W' h2 h3 h4=>by
  have hok:=H.ok _ (.head _)
  have hap:=List.pairwise_cons.1 H.apart
  obtain ⟨M',k1,k2,k3⟩:=H.h.grown hok h3 h4 h2
  refine h v' W' M' ⟨k1,fun r hr=>?_,fun r hr=>?_,List.pairwise_cons.2 ⟨fun s hs g hg1 hg2=>?_,hap.2⟩⟩ k3
  ·rcases aL hr with rfl | hr
   ·exact k2
   ·exact (H.ok r (.tail _ hr)).mono k3
  ·rcases aL hr with rfl | hr
   ·exact h2
   ·refine World.ownsRow.kept (H.own r (.tail _ hr)) h3 ?_
    cases he:r.v.ownBlock with
    | none=>exact .inl rfl
    | some g=>exact .inr fun e=>hap.1 r hr g e.symm he
  ·rcases h4 with he | he
   ·exact hap.1 s hs g (he ▸ hg1) hg2
   ·have k1:=(World.ownsRow.lt (H.own s (.tail _ hs)) g hg2).2
    rw [he] at hg1
    injection hg1 with hg1
    omega
end
theorem owns_blk' {w:World} {base size n c:Nat} {e:TypeId} {A:Option Addr} {xs:List Value} (h:w.ownsRow base e size (.slice A n c) n xs) (hn:0 < n):∃ g cur,A=some ⟨g,0,none⟩∧Blk w g e cur∧cur.toList.take (n*size)=xs:=by
 rcases h.2 with ⟨hv,h0⟩ | ⟨g,cap,cur,hv,_,hh,_,_,_,ht⟩
 ·omega
 ·injection hv with h1 h2 h3
  exact ⟨g,cur,h1,hh,ht⟩
section
variable {w W W':World} {G M:List Nat} {bx:List Box} {rs:List Rw} {r:Rw} {L:List (List Nat→World→Prop)}
theorem HR.form {e:TypeId} {size n:Nat} {v:Value} {xs:List Value} (h:HR w G M bx rs L W) (hr:(⟨e,size,v,n,xs⟩:Rw)∈rs):∃ A c,v=.slice A n c:=own_form (h.own _ hr)
theorem HR.rform {e:TypeId} {size n c:Nat} {A:Option Addr} {xs:List Value} (h:HR w G M bx rs L W) (hr:(⟨e,size,.slice A n c,n,xs⟩:Rw)∈rs) (hn:0 < n):∃ g,A=some ⟨g,0,none⟩:=by
 obtain ⟨g,rfl,_⟩:=owns_cell (h.own _ hr) hn
 exact ⟨g,rfl⟩
theorem HR.rcell {e:TypeId} {size n c g:Nat} {xs:List Value} (h:HR w G M bx rs L W) (hr:(⟨e,size,.slice (some ⟨g,0,none⟩) n c,n,xs⟩:Rw)∈rs) (hn:0 < n) {j:Nat} {u:Value} (hu:xs[j]?=some u):W.cell? ⟨g,j,none⟩=some u:=by
 obtain ⟨g',hg,hc⟩:=owns_cell (h.own _ hr) hn
 obtain rfl:g=g':=by injection hg with h;injection h
 exact hc j u hu
theorem HR.rfroz {e:TypeId} {size n c g:Nat} {xs:List Value} (h:HR w G M bx rs L W) (hr:(⟨e,size,.slice (some ⟨g,0,none⟩) n c,n,xs⟩:Rw)∈rs) (hn:0 < n) (j:Nat):W.frozen? ⟨g,j,none⟩=false:=by
 obtain ⟨g',cur,hg,hb,_⟩:=owns_blk' (h.own _ hr) hn
 obtain rfl:g=g':=by injection hg with h;injection h
 exact hb.frozen j
theorem HR.box {x:Box} (h:HR w G M bx rs L W) (hx:x∈bx):Blk W x.1 x.2.1 x.2.2:=h.h.box hx
theorem HR.fact {P:List Nat→World→Prop} (h:HR w G M bx rs L W) (hP:P∈L):P M W:=h.h.fact hP
theorem HR.tail {P:List Nat→World→Prop} (h:HR w G M bx rs (P::L) W):HR w G M bx rs L W:=h.less fun _P hP=>.tail _ hP
theorem HR.bswap {x y:Box} (h:HR w G M (x::y::bx) rs L W):HR w G M (y::x::bx) rs L W:=h.bperm (List.Perm.swap _ _ _)
theorem HR.rswap {r s:Rw} (h:HR w G M bx (r::s::rs) L W):HR w G M bx (s::r::rs) L W:=h.perm (List.Perm.swap _ _ _)
theorem HR.set0 {N:Nat} {t:TypeId} {cs:Array Value} (h:HR w G M ((N,t,cs)::bx) rs L W) (i:Nat) (u:Value):HR w G M ((N,t,cs.setIfInBounds i u)::bx) rs L (W.setCell ⟨N,i,none⟩ u):=HR.set_ (bx1:=[]) h i u
theorem HR.made (h:HR w G M bx rs L W) (cs:Array Value) (t:TypeId) {N:Nat} (hN:W.heap.size=N):HR w G M bx rs ((fun M W=>N∉M∧Blk W N t cs)::L) (W.alloc (.cells cs t)):=by
 subst hN
 exact (h.below ((Below.refl _ _).alloc (Nat.le_refl _) _)).add (keeps_blk _ t cs) ⟨fun hm=>by have:=h.h.mb _ hm;omega,Blk.new _ _ _⟩
end
theorem flat_intsB {G:List Nat} {w:World}:∀ {l:List Int},(∀ x∈l,inI x)→Flat G w l (intVals l)
 | [],_=>rfl
 | x::l,h=>⟨[.int .i64 x],intVals l,rfl,⟨rfl,h x (.head _)⟩,flat_intsB fun y hy=>h y (.tail _ hy)⟩
set_option maxHeartbeats 1000000 in
theorem at_some {G:List Nat} (A:Option Addr) (c:Nat) (l:List Int) (i m:Int) (w:World) (hs:SlAt G w A l) (_hl:l.length≤9223372036854775807) (hi:inI i) (hm:1≤m) (hm2:m≤9223372036854775807) :
  Calls Tryz.prog 30 #[.slice A l.length c,.int .i64 i,.int .i64 m] w fun e w'=>∃ v:Int,e=.returned (.int .i64 v)∧0≤v∧v < m∧w=w':=by
 obtain ⟨i1,i2⟩:=hi
 by_cases h0:i < 0
 ·clear hs
  go_enter Tryz.func30,Tryz.ntmps30
  go_wp2_with fail
  go_ret
  exact ⟨0,rfl,by omega,by omega,rfl⟩
 ·obtain ⟨k,rfl⟩:∃ k:Nat,i=k:=⟨i.toNat,by omega⟩
  by_cases hlt:k < l.length
  ·obtain ⟨b1,o1,rfl,_,d1,q⟩:=int_at hs k hlt
   obtain ⟨q1,q2⟩:=q
   have HB:=aI (around_bd l[k] m hm)
   generalize l[k]=x at d1 q1 q2 HB
   generalize l.length=n at *
   clear hs
   go_enter Tryz.func30,Tryz.ntmps30
   go_wp2_with (go_at_call 17;refine (around_any _ _ _ (by omega) (by omega)).mono ?_;rintro e w' ⟨rfl,rfl⟩)
   go_ret
   exact ⟨_,rfl,HB.out.1,HB.out.2,rfl⟩
  ·generalize l.length=n at *
   clear hs
   go_enter Tryz.func30,Tryz.ntmps30
   go_wp2_with fail
   go_ret
   exact ⟨0,rfl,by omega,by omega,rfl⟩
theorem wrap_in (x:Int):inI (IntKind.i64.wrap x):=by
 unfold inI IntKind.wrap IntKind.signed IntKind.bits
 simp
 split <;> omega
set_option maxHeartbeats 2000000 in
theorem take_any {gm:Nat} {A:Option Addr} {c:Nat} {l:List Int} {i:Int} (n:Int) (w:World) (hb:Blk w gm 62 #[.slice A l.length c,.int .i64 i]) (hi:inI i) (hs:SlAt [gm] w A l) (hl:l.length≤9223372036854775807) (h1:1≤n) (h2:n≤9223372036854775807) :
  Calls Tryz.prog 26 #[.pointer (some ⟨gm,0,none⟩),.int .i64 n] w fun e w'=>∃ v:Int,e=.returned (.int .i64 v)∧0≤v∧v < n∧MkR gm 62 (.slice A l.length c) w w':=by
 obtain ⟨i1,e1⟩:∃ z,IntKind.i64.wrap (i+1)=z:=⟨_,rfl⟩
 obtain ⟨i2,e2⟩:∃ z,IntKind.i64.wrap (i1 - 1)=z:=⟨_,rfl⟩
 have k1:inI i1:=e1 ▸ wrap_in (i+1)
 have k2:=aI (show inI i2 from e2 ▸ wrap_in (i1 - 1))
 have f1:=hb.frozen 1
 have c0:=hb.cell 0
 have c1:=hb.cell 1
 have b2:=hb.set_ 1 (.int .i64 i1)
 have d0:=b2.cell 0
 have d1:=b2.cell 1
 have hr:=aI (MkR.set_ (sl:=.slice A l.length c) i hi hb _ k1)
 have HS2:=aI (hs.keep hr.out.chg)
 have HL:=aI hl
 clear hb hi hs hl b2 k1
 simp at c0 c1 d0 d1
 go_enter Tryz.func26,Tryz.ntmps26
 go_wp2_with fail
 apply wp_region_typed (C:=fun w'=>Below (w.setCell ⟨gm,1,none⟩ (.int .i64 i1)).heap.size (w.setCell ⟨gm,1,none⟩ (.int .i64 i1)) w') (n:=23) (m:=12) (l1:=[_,_,_,_,_,_,_,_,_,_,_,_]) (l2:=[])
 ·rfl
 ·rfl
 ·kernel_rfl
 ·rfl
 ·kernel_rfl
 ·exact ⟨rfl,rfl,rfl,Nat.le_refl _,fun _ _=>rfl⟩
 ·exact fun u u' h hb=>(by first | exact h.below hb | exact h.trans (hb.mono h.size))
 iterate 10 ((apply wpT_exact;· (intro w' hC hf;unfold Gives;have q0:=(hC.cell (World.block_lt_of_cell? _ _ d0)).trans d0;have q1:=(hC.cell (World.block_lt_of_cell? _ _ d1)).trans d1;clear hf hC;go_wp2_with (fail);apply postT_val rfl (Below.refl _ _);simp only [valAt,aA,aE,aC,aD,aH];exact rfl));(try simp only [Act.put,aB,aF,aG]))
 apply wpT_typed (T:=fun v _=>∃ z:Int,v=.int .i64 z∧0≤z∧z < n) (fun v w w' h _=>h)
 ·intro w' hC hf;unfold Gives;clear hf
  have HC:=aI hC;clear hC
  go_wp2_with (go_at_call 30;refine (at_some A c l i2 n _ (HS2.out.keep (Chg.of_below HC.out)) HL.out k2.out h1 h2).mono ?_;rintro e w' ⟨v,rfl,v1,v2,rfl⟩)

  refine postT_mk rfl (Below.refl _ _) ?_;simp only [valAt,aA,aE,aC,aD,aH];exact ⟨_,rfl,v1,v2⟩
 intro v;(try simp only [Act.put,aB,aF,aG])
 apply wpT_typed (T:=fun v _=>∃ z:Int,v=.int .i64 z∧0≤z∧z < n) (fun v w w' h _=>h)
 ·intro w' hC hf;unfold Gives;obtain ⟨z,rfl,z1,z2⟩:=hf.1 rfl;clear hf hC
  go_wp2_with fail
  refine postT_mk rfl (Below.refl _ _) ?_;simp only [valAt,aA,aE,aC,aD,aH];exact ⟨_,rfl,z1,z2⟩
 intro v2;(try simp only [Act.put,aB,aF,aG])
 apply wpT_done
 intro w4 hC hall
 obtain ⟨z,rfl,z1,z2⟩:=hall.1
 have HC:=aI hC;clear hC hall
 go_wp2_with fail
 go_ret
 exact ⟨_,rfl,z1,z2,hr.out.trans (MkR.below HC.out)⟩
structure MkK where
 w:World
 G:List Nat
 gm:Nat
 A:Option Addr
 l:List Int
 c:Nat
def MkK.sl (K:MkK):Value:=.slice K.A K.l.length K.c
def MkK.R (K:MkK):World→World→Prop:=MkR K.gm 62 K.sl
def MkK.p (K:MkK):Value:=.pointer (some ⟨K.gm,0,none⟩)
@[reducible] def MkK.grow (K:MkK):Grow:=mkGrow K.gm 62 K.sl
structure MkH (K:MkK) (M:List Nat) (bx:List Box) (rs:List Rw) (L:List (List Nat→World→Prop)) (W:World):Prop where
 len:K.l.length≤9223372036854775807
 base:∀ g∈K.G,g < K.w.heap.size
 it:∃ i,inI i∧HR K.w K.G M ((K.gm,62,#[K.sl,.int .i64 i])::bx) rs ((fun M W=>SlAt M W K.A K.l)::L) W
section
variable {K:MkK} {M:List Nat} {bx:List Box} {rs:List Rw} {r:Rw} {L:List (List Nat→World→Prop)} {W W':World}
theorem MkH.take (h:MkH K M bx rs L W) (n:Int) (h1:1≤n) (h2:n≤9223372036854775807) :
  Calls Tryz.prog 26 #[K.p,.int .i64 n] W fun e w'=>∃ v:Int,e=.returned (.int .i64 v)∧0≤v∧v < n∧K.R W w':=by
 obtain ⟨i,hi,H⟩:=h.it
 exact take_any n W (H.h.box (.head _)) hi ((H.h.fact (.head _)).sub fun g hg=>by rw [List.mem_singleton.1 hg];exact .inl (H.h.bs _ (.head _)).1) h.len h1 h2
theorem MkH.turn (h:MkH K M bx rs L W) (hr:K.R W W'):MkH K M bx rs L W':=by
 obtain ⟨i,hi,H⟩:=h.it
 obtain ⟨i',hi',H'⟩:=H.mkr hi hr
 exact ⟨h.len,h.base,i',hi',H'⟩
theorem MkH.below (h:MkH K M bx rs L W) (hb:Below W.heap.size W W'):MkH K M bx rs L W':=h.turn (MkR.below hb)
theorem MkH.drew (h:MkH K M bx rs L W):MkH K M bx rs L W.drew:=h.below ⟨rfl,rfl,rfl,Nat.le_refl _,fun _ _=>rfl⟩
theorem MkH.drewN (h:MkH K M bx rs L W) (n:Nat):MkH K M bx rs L (W.drewN n):=h.below ⟨rfl,rfl,rfl,Nat.le_refl _,fun _ _=>rfl⟩
theorem MkH.new (h:MkH K M bx rs L W) (cs:Array Value) (t:TypeId) {N:Nat} (hN:W.heap.size=N):MkH K (N::M) ((N,t,cs)::bx) rs L (W.alloc (.cells cs t)):=by
 obtain ⟨i,hi,H⟩:=h.it
 exact ⟨h.len,h.base,i,hi,(H.new cs t hN).bperm (List.Perm.swap _ _ _)⟩
theorem MkH.set_ {N:Nat} {t:TypeId} {cs:Array Value} {bx1 bx2:List Box} (h:MkH K M (bx1++(N,t,cs)::bx2) rs L W) (i:Nat) (u:Value):MkH K M (bx1++(N,t,cs.setIfInBounds i u)::bx2) rs L (W.setCell ⟨N,i,none⟩ u):=by
 obtain ⟨j,hj,H⟩:=h.it
 exact ⟨h.len,h.base,j,hj,HR.set_ (bx1:=(K.gm,62,#[K.sl,.int .i64 j])::bx1) H i u⟩
theorem MkH.set0 {N:Nat} {t:TypeId} {cs:Array Value} {bx2:List Box} (h:MkH K M ((N,t,cs)::bx2) rs L W) (i:Nat) (u:Value):MkH K M ((N,t,cs.setIfInBounds i u)::bx2) rs L (W.setCell ⟨N,i,none⟩ u):=MkH.set_ (bx1:=[]) h i u
theorem MkH.push (h:MkH K M bx rs L W) (e:TypeId) (size:Nat):MkH K M bx (⟨e,size,.slice none 0 0,0,[]⟩::rs) L W:=by
 obtain ⟨j,hj,H⟩:=h.it
 exact ⟨h.len,h.base,j,hj,H.push e size⟩
theorem MkH.perm {rs':List Rw} (h:MkH K M bx rs L W) (hp:rs.Perm rs'):MkH K M bx rs' L W:=by
 obtain ⟨j,hj,H⟩:=h.it
 exact ⟨h.len,h.base,j,hj,H.perm hp⟩
theorem MkH.boxes {bx':List Box} (h:MkH K M bx rs L W) (hb:bx'.Sublist bx):MkH K M bx' rs L W:=by
 obtain ⟨j,hj,H⟩:=h.it
 exact ⟨h.len,h.base,j,hj,H.boxes (hb.cons_cons _)⟩
theorem MkH.add (h:MkH K M bx rs L W) {P:List Nat→World→Prop} (hk:Keeps P) (hp:P M W):MkH K M bx rs (P::L) W:=by
 obtain ⟨j,hj,H⟩:=h.it
 exact ⟨h.len,h.base,j,hj,(H.add hk hp).less fun P hP=>by
  rcases aL hP with rfl | hP
  ·exact .tail _ (.head _)
  ·rcases aL hP with rfl | hP
   ·exact .head _
   ·exact .tail _ (.tail _ hP)⟩
theorem MkH.less {L':List (List Nat→World→Prop)} (h:MkH K M bx rs L W) (hL:∀ P∈L',P∈L):MkH K M bx rs L' W:=by
 obtain ⟨j,hj,H⟩:=h.it
 exact ⟨h.len,h.base,j,hj,H.less fun P hP=>by
  rcases aL hP with rfl | hP
  ·exact .head _
  ·exact .tail _ (hL P hP)⟩
theorem MkH.box {x:Box} (h:MkH K M bx rs L W) (hx:x∈bx):Blk W x.1 x.2.1 x.2.2:=by
 obtain ⟨j,hj,H⟩:=h.it
 exact H.h.box (.tail _ hx)
theorem MkH.fact {P:List Nat→World→Prop} (h:MkH K M bx rs L W) (hP:P∈L):P M W:=by
 obtain ⟨j,hj,H⟩:=h.it
 exact H.h.fact (.tail _ hP)
theorem MkH.mb (h:MkH K M bx rs L W):∀ g∈M,g < W.heap.size:=by
 obtain ⟨j,hj,H⟩:=h.it
 exact H.h.mb
theorem MkH.gmM (h:MkH K M bx rs L W):K.gm∈M:=by
 obtain ⟨j,hj,H⟩:=h.it
 exact (H.h.bs _ (.head _)).1
theorem MkH.own (h:MkH K M bx rs L W):∀ r∈rs,W.ownsRow K.w.heap.size r.e r.size r.v r.n r.xs:=by
 obtain ⟨j,hj,H⟩:=h.it
 exact H.own
theorem MkH.form {e:TypeId} {size n:Nat} {v:Value} {xs:List Value} (h:MkH K M bx (⟨e,size,v,n,xs⟩::rs) L W):∃ A c,v=.slice A n c:=own_form (h.own _ (.head _))
theorem MkH.setRow {e:TypeId} {size n c g k:Nat} {xs:List Value} (h:MkH K M bx (⟨e,size,.slice (some ⟨g,0,none⟩) n c,n,xs⟩::rs) L W) (u:Value) (hk:k < n*size) :
  MkH K M bx (⟨e,size,.slice (some ⟨g,0,none⟩) n c,n,xs.set k u⟩::rs) L (W.setCell ⟨g,k,none⟩ u):=by
 obtain ⟨j,hj,H⟩:=h.it
 exact ⟨h.len,h.base,j,hj,H.setRow u hk⟩
theorem MkH.freeze {α:Type} [Mem α] {l:List α} {e:TypeId} {size n:Nat} {v:Value} {xs:List Value} (h:MkH K M bx (⟨e,size,v,n,xs⟩::rs) L W) (hs:size=Mem.sz α) (hn:n=l.length) (hf:Flat M W l xs) :
  ∃ A c M',v=.slice A l.length c∧l.length≤c∧c≤9223372036854775807∧MkH K M' bx rs ((fun M W=>SlAt M W A l)::L) W∧∀ g∈M',g∈M:=by
 obtain ⟨j,hj,H⟩:=h.it
 obtain ⟨A,c,M',h1,h2,h3,h4,h5,_⟩:=H.freeze hs hn hf h.base
 refine ⟨A,c,M',h1,h2,h3,⟨h.len,h.base,j,hj,h4.less fun P hP=>?_⟩,h5⟩
 rcases aL hP with rfl | hP
 ·exact .tail _ (.head _)
 ·rcases aL hP with rfl | hP
  ·exact .head _
  ·exact .tail _ (.tail _ hP)
variable {P:Program}
theorem wpList_append_mk {ops:Array Oper} {rest:List Oper} {o:Oper} {a:Act} {Q:Exit→Act→World→Prop} (hgd:o.guard=none) (s x:Operand) (t:TypeId)
  (ho:o.op=.call { callee:=.builtin .append,args:=#[s,x],argTypes:=#[t,t] })
  (e:TypeId) (i:TypeInfo) (z:Value) (size bytes:Nat) (ht:P.underlying t=some (.slice e)) (hi:P.info? e=some i) (hz:i.zero=some z)
  (hsize:i.size=size) (hby:i.bytes=bytes) (hzs:z.cells.size=size) (hsz:0 < size)
  {v:Value} {n:Nat} {xs:List Value} (H:MkH K M bx (⟨e,size,v,n,xs⟩::rs) L W) (hs:a.eval s=v)
  (B:Nat) (A:Option Addr) (m c:Nat) (news:List Value) (hx:a.eval x=.slice A m c) (hr:Reads W B size A m news) (h1:∀ u∈news,u.oneCell'=true)
  (h63:n+m≤maxLen) (hbytes:(n+m)*bytes≤140737488355328)
  (h:∀ v' W' M',MkH K M' bx (⟨e,size,v',n+m,xs++news⟩::rs) L W'→(∀ g∈M,g∈M')→wpList P ops Q rest (a.put o.dst v') W'):wpList P ops Q (o::rest) a W:=by
 obtain ⟨j,hj,H'⟩:=H.it
 exact wpList_append_rows hgd s x t ho e i z size bytes ht hi hz hsize hby hzs hsz H' hs B A m c news hx hr h1 h63 hbytes fun v' W' M' h2 h3=>h v' W' M' ⟨H.len,H.base,j,hj,h2⟩ h3
end
theorem slAt_blk {α:Type} [Mem α] {G:List Nat} {w:World} {g:Nat} {t:TypeId} {cs:Array Value} {l:List α} (h:Blk w g t cs) (hg:g∉G) (hf:Flat G w l cs.toList):SlAt G w (some ⟨g,0,none⟩) l:=by
 refine .inr ⟨g,0,rfl,h.lt,hg,fun i hi=>?_⟩
 obtain ⟨us,h1,h2⟩:=hf.get i hi
 refine ⟨us,h1,fun j u hu=>?_⟩
 rw [Nat.zero_add,h.cell]
 have:=h2 j u hu
 simpa using this
def LitT (B n:Nat) (t:TypeId) (Q:Array Value→Prop) (v:Value) (w:World):Prop:=∃ cs N,v=.slice (some ⟨N,0,none⟩) n n∧Q cs∧B≤N∧Blk w N t cs
theorem litT_kept (K:MkK) (B n:Nat) (t:TypeId) (Q:Array Value→Prop) (hB:K.gm < B):@RG.Kept K.grow (LitT B n t Q):=by
 rintro v w w' ⟨cs,N,h1,h2,h3,h4⟩ hr
 exact ⟨cs,N,h1,h2,h3,((MkR.chg hr).block N h4.lt (by simp;omega)).trans h4⟩
theorem MkH.gmLt {K:MkK} {M:List Nat} {bx:List Box} {rs:List Rw} {L:List (List Nat→World→Prop)} {W:World} (h:MkH K M bx rs L W):K.gm < W.heap.size:=h.mb _ h.gmM
theorem MkK.drew (K:MkK) (W:World):K.R W W.drew:=MkR.below ⟨rfl,rfl,rfl,Nat.le_refl _,fun _ _=>rfl⟩
theorem MkK.grown (K:MkK) {W W':World} (h:Below W.heap.size W W'):K.R W W':=MkR.below h
theorem MkK.size (K:MkK) {W W':World} (h:K.R W W'):W.heap.size≤W'.heap.size:=h.chg.size
theorem MkH.lit {K:MkK} {M:List Nat} {bx:List Box} {rs:List Rw} {L:List (List Nat→World→Prop)} {W:World} {α:Type} [Mem α] {l:List α} {t:TypeId} {cs:Array Value} (h:MkH K M bx rs L W) {N:Nat} (hb:Blk W N t cs) (hN:N∉M) (hf:Flat M W l cs.toList):MkH K M bx rs ((fun M W=>SlAt M W (some ⟨N,0,none⟩) l)::L) W :=
 h.add (keeps_sl _ l) (slAt_blk hb hN hf)
theorem fld_mk {G:List Nat} {w:World} {nm of_ up:ByteArray} {kd lo hi:Int} {ws:List ByteArray} {wt:List Int} {vw vt:Value} (h1:nm.size≤9223372036854775807) (h2:of_.size≤9223372036854775807) (h3:up.size≤9223372036854775807) (h4:inI kd) (h5:inI lo) (h6:inI hi) (h7:Rep G w ws vw) (h8:Rep G w wt vt) :
  Mem.rep G w ((nm,of_,up,kd,lo,hi,ws,wt):Fld) [.string nm,.string of_,.string up,.int .i64 kd,.int .i64 lo,.int .i64 hi,vw,vt] :=
 ⟨[_],_,rfl,⟨rfl,h1⟩,[_],_,rfl,⟨rfl,h2⟩,[_],_,rfl,⟨rfl,h3⟩,[_],_,rfl,⟨rfl,h4⟩,[_],_,rfl,⟨rfl,h5⟩,[_],_,rfl,⟨rfl,h6⟩,[_],_,rfl,h7,h8⟩
theorem rep_nil {α:Type} [Mem α] {G:List Nat} {w:World}:Rep G w ([]:List α) (.slice none 0 0):=⟨none,0,rfl,Nat.le_refl _,by decide,SlAt.nil⟩
end Go.Proofs.YtmplaikgbeeikaaGreatDoor
