/- Parts of the proof, joined: SxW6, SxW7, SxW8, W28, W29, SxW9, SxV1, SxV2, SxL2, SxAt, SxL3. -/
import Derived.Test.YtobcnhmhgoccnaaGreatDoorV9
import Derived.Deep.CutBlock
set_option maxRecDepth 100000
set_option maxHeartbeats 16000000
set_option linter.unusedVariables false
set_option linter.unusedSimpArgs false
set_option linter.unusedSectionVars false
namespace Go.Proofs.YtobcnhmhgoccnaaGreatDoor
open Go Go.RowKit
section
def Sx.sameF (a b:Fld):Bool:=decide (Sc.nm a=Sc.nm b) && (decide (Sc.of_ a=Sc.of_ b) && (decide (Sc.up a=Sc.up b) && (decide (Sc.kd a=Sc.kd b) && (decide (Sc.lo a=Sc.lo b) && (decide (Sc.hi a=Sc.hi b) && (decide (Sc.words a=Sc.words b) && (decide (Sc.wts a=Sc.wts b))))))))
theorem strEqB (s t:ByteArray):(s.toList == t.toList)=decide (s=t):=by
 by_cases h:s=t
 .rw [ac h,h];exact strEq_true t
 .rw [ad h];exact strEq_false h
theorem intEqB (a b:Int):(a == b)=decide (a=b):=by by_cases h:a=b <;> simp [h]
theorem sameField_any (a b:Fld) (us vs:List Value) (w:World) (ha:Mem.rep [] w a us) (hb:Mem.rep [] w b vs) :
  Calls Tryz.prog 62 #[.agg us.toArray,.agg vs.toArray] w (BoolP (Sx.sameF a b) w):=by
 obtain ⟨A,c,B,d,rfl,s1,s2,a4,a5,a6,a1,a2,a3,b1,b2,e1,e2⟩:=rep_fld ha
 obtain ⟨A',c',B',d',rfl,s1',s2',a4',a5',a6',a1',a2',a3',b1',b2',e1',e2'⟩:=rep_fld hb
 obtain ⟨W1,hW1⟩:=aX ((w.alloc (.cells #[.string (Sc.nm a),.string (Sc.of_ a),.string (Sc.up a),.int .i64 (Sc.kd a),.int .i64 (Sc.lo a),.int .i64 (Sc.hi a),.slice A (Sc.words a).length c,.slice B (Sc.wts a).length d] 65)))
 obtain ⟨W2,hW2⟩:=aX ((W1.alloc (.cells #[.string (Sc.nm b),.string (Sc.of_ b),.string (Sc.up b),.int .i64 (Sc.kd b),.int .i64 (Sc.lo b),.int .i64 (Sc.hi b),.slice A' (Sc.words b).length c',.slice B' (Sc.wts b).length d'] 65)))
 have hB1:Below w.heap.size w W1:=by rw [<-hW1];exact aP _ _
 have hB2:Below w.heap.size w W2:=by rw [<-hW2];exact hB1.alloc hB1.size _
 have CS:=aI (λw' (hb:Below w.heap.size w w')=>eqS_any (Sc.words a) (Sc.words b) A A' c c' w' (s1.keep (za hb)) (s1'.keep (za hb)) (ah b1 b2) (ah b1' b2'))
 have CI:=aI (λw' (hb:Below w.heap.size w w')=>eqI_any (Sc.wts a) (Sc.wts b) B B' d d' w' (s2.keep (za hb)) (s2'.keep (za hb)) (ah e1 e2) (ah e1' e2'))
 have hz1:W1.heap.size=w.heap.size+1:=by rw [<-hW1];show (w.heap.push _).size=_;rw [Array.size_push]
 have hc7:W2.cell? ⟨w.heap.size,7,none⟩=some (.slice B (Sc.wts a).length d):=by
  have h1:W1.cell? ⟨w.heap.size,7,none⟩=some (.slice B (Sc.wts a).length d):=by rw [<-hW1];exact (zj w _ _).cell 7
  have h2:Below W1.heap.size W1 W2:=by rw [<-hW2];exact (zf W1.heap.size W1).alloc (ag _) _
  exact (h2.cell (zc _ _ h1)).trans h1
 have hd7:W2.cell? ⟨w.heap.size+1,7,none⟩=some (.slice B' (Sc.wts b).length d'):=by rw [<-hz1,<-hW2];exact (zj W1 _ _).cell 7
 have HC7:=aI hc7
 have HD7:=aI hd7
 have HB:=aI hB2
 have HW1:=aI hW1
 have HW2:=aI hW2
 show Calls Tryz.prog 62 #[.agg #[.string (Sc.nm a),.string (Sc.of_ a),.string (Sc.up a),.int .i64 (Sc.kd a),.int .i64 (Sc.lo a),.int .i64 (Sc.hi a),.slice A (Sc.words a).length c,.slice B (Sc.wts a).length d],.agg #[.string (Sc.nm b),.string (Sc.of_ b),.string (Sc.up b),.int .i64 (Sc.kd b),.int .i64 (Sc.lo b),.int .i64 (Sc.hi b),.slice A' (Sc.words b).length c',.slice B' (Sc.wts b).length d']] w _
 clear ha hb s1 s2 s1' s2' hB1 hB2 hW1 hW2 hz1 hc7 hd7 a1 a2 a3 a4 a5 a6 a1' a2' a3' a4' a5' a6' b1 b2 b1' b2' e1 e2 e1' e2'
 obtain ⟨r0,h0⟩:∃r,decide (Sc.nm a=Sc.nm b)=r:=⟨_,rfl⟩
 obtain ⟨r1,h1⟩:∃r,decide (Sc.of_ a=Sc.of_ b)=r:=⟨_,rfl⟩
 obtain ⟨r2,h2⟩:∃r,decide (Sc.up a=Sc.up b)=r:=⟨_,rfl⟩
 obtain ⟨r3,h3⟩:∃r,decide (Sc.kd a=Sc.kd b)=r:=⟨_,rfl⟩
 obtain ⟨r4,h4⟩:∃r,decide (Sc.lo a=Sc.lo b)=r:=⟨_,rfl⟩
 obtain ⟨r5,h5⟩:∃r,decide (Sc.hi a=Sc.hi b)=r:=⟨_,rfl⟩
 obtain ⟨r6,h6⟩:∃r,decide (Sc.words a=Sc.words b)=r:=⟨_,rfl⟩
 obtain ⟨r7,h7⟩:∃r,decide (Sc.wts a=Sc.wts b)=r:=⟨_,rfl⟩
 have HF:=aI (show Sx.sameF a b=(r0 && (r1 && (r2 && (r3 && (r4 && (r5 && (r6 && (r7)))))))) by unfold Sx.sameF;rw [h0,h1,h2,h3,h4,h5,h6,h7])
 rw [h6] at CS
 rw [h7] at CI
 have q0:((Sc.nm a).toList == (Sc.nm b).toList)=r0:=by rw [<-h0];exact strEqB _ _
 have q1:((Sc.of_ a).toList == (Sc.of_ b).toList)=r1:=by rw [<-h1];exact strEqB _ _
 have q2:((Sc.up a).toList == (Sc.up b).toList)=r2:=by rw [<-h2];exact strEqB _ _
 have q3:(Sc.kd a == Sc.kd b)=r3:=by rw [<-h3];exact intEqB _ _
 have q4:(Sc.lo a == Sc.lo b)=r4:=by rw [<-h4];exact intEqB _ _
 have q5:(Sc.hi a == Sc.hi b)=r5:=by rw [<-h5];exact intEqB _ _
 clear h0 h1 h2 h3 h4 h5 h6 h7
 generalize Sx.sameF a b=sf at *
 generalize Sc.nm a=xnm at *
 generalize Sc.nm b=ynm at *
 generalize Sc.of_ a=xof at *
 generalize Sc.of_ b=yof at *
 generalize Sc.up a=xup at *
 generalize Sc.up b=yup at *
 generalize Sc.kd a=xkd at *
 generalize Sc.kd b=ykd at *
 generalize Sc.lo a=xlo at *
 generalize Sc.lo b=ylo at *
 generalize Sc.hi a=xhi at *
 generalize Sc.hi b=yhi at *
 generalize (Sc.words a).length=xwords at *
 generalize (Sc.words b).length=ywords at *
 generalize (Sc.wts a).length=xwts at *
 generalize (Sc.wts b).length=ywts at *
 go_enter Tryz.func62,Tryz.ntmps62
 cases r0
 .go_wp2_with (first | (go_at_call 65;rw [HW1.out,HW2.out];(with_reducible refine (CS.out _ HB.out).mono ?_);rintro e w2 ⟨rfl,hb2⟩;have z7:=(hb2.cell (zc _ _ HC7.out)).trans HC7.out;have z8:=(hb2.cell (zc _ _ HD7.out)).trans HD7.out;replace HB:=aT HB hb2;clear hb2) | (go_at_call 111;(with_reducible refine (CI.out _ HB.out).mono ?_);rintro e w2 ⟨rfl,hb2⟩;replace HB:=aT HB hb2;clear hb2))
  go_ret
  exact ⟨by rw [HF.out];rfl,by first | exact HB.out | (rw [HW1.out,HW2.out];exact HB.out)⟩
 cases r1
 .go_wp2_with (first | (go_at_call 65;rw [HW1.out,HW2.out];(with_reducible refine (CS.out _ HB.out).mono ?_);rintro e w2 ⟨rfl,hb2⟩;have z7:=(hb2.cell (zc _ _ HC7.out)).trans HC7.out;have z8:=(hb2.cell (zc _ _ HD7.out)).trans HD7.out;replace HB:=aT HB hb2;clear hb2) | (go_at_call 111;(with_reducible refine (CI.out _ HB.out).mono ?_);rintro e w2 ⟨rfl,hb2⟩;replace HB:=aT HB hb2;clear hb2))
  go_ret
  exact ⟨by rw [HF.out];rfl,by first | exact HB.out | (rw [HW1.out,HW2.out];exact HB.out)⟩
 cases r2
 .go_wp2_with (first | (go_at_call 65;rw [HW1.out,HW2.out];(with_reducible refine (CS.out _ HB.out).mono ?_);rintro e w2 ⟨rfl,hb2⟩;have z7:=(hb2.cell (zc _ _ HC7.out)).trans HC7.out;have z8:=(hb2.cell (zc _ _ HD7.out)).trans HD7.out;replace HB:=aT HB hb2;clear hb2) | (go_at_call 111;(with_reducible refine (CI.out _ HB.out).mono ?_);rintro e w2 ⟨rfl,hb2⟩;replace HB:=aT HB hb2;clear hb2))
  go_ret
  exact ⟨by rw [HF.out];rfl,by first | exact HB.out | (rw [HW1.out,HW2.out];exact HB.out)⟩
 cases r3
 .go_wp2_with (first | (go_at_call 65;rw [HW1.out,HW2.out];(with_reducible refine (CS.out _ HB.out).mono ?_);rintro e w2 ⟨rfl,hb2⟩;have z7:=(hb2.cell (zc _ _ HC7.out)).trans HC7.out;have z8:=(hb2.cell (zc _ _ HD7.out)).trans HD7.out;replace HB:=aT HB hb2;clear hb2) | (go_at_call 111;(with_reducible refine (CI.out _ HB.out).mono ?_);rintro e w2 ⟨rfl,hb2⟩;replace HB:=aT HB hb2;clear hb2))
  go_ret
  exact ⟨by rw [HF.out];rfl,by first | exact HB.out | (rw [HW1.out,HW2.out];exact HB.out)⟩
 cases r4
 .go_wp2_with (first | (go_at_call 65;rw [HW1.out,HW2.out];(with_reducible refine (CS.out _ HB.out).mono ?_);rintro e w2 ⟨rfl,hb2⟩;have z7:=(hb2.cell (zc _ _ HC7.out)).trans HC7.out;have z8:=(hb2.cell (zc _ _ HD7.out)).trans HD7.out;replace HB:=aT HB hb2;clear hb2) | (go_at_call 111;(with_reducible refine (CI.out _ HB.out).mono ?_);rintro e w2 ⟨rfl,hb2⟩;replace HB:=aT HB hb2;clear hb2))
  go_ret
  exact ⟨by rw [HF.out];rfl,by first | exact HB.out | (rw [HW1.out,HW2.out];exact HB.out)⟩
 cases r5
 .go_wp2_with (first | (go_at_call 65;rw [HW1.out,HW2.out];(with_reducible refine (CS.out _ HB.out).mono ?_);rintro e w2 ⟨rfl,hb2⟩;have z7:=(hb2.cell (zc _ _ HC7.out)).trans HC7.out;have z8:=(hb2.cell (zc _ _ HD7.out)).trans HD7.out;replace HB:=aT HB hb2;clear hb2) | (go_at_call 111;(with_reducible refine (CI.out _ HB.out).mono ?_);rintro e w2 ⟨rfl,hb2⟩;replace HB:=aT HB hb2;clear hb2))
  go_ret
  exact ⟨by rw [HF.out];rfl,by first | exact HB.out | (rw [HW1.out,HW2.out];exact HB.out)⟩
 cases r6
 .go_wp2_with (first | (go_at_call 65;rw [HW1.out,HW2.out];(with_reducible refine (CS.out _ HB.out).mono ?_);rintro e w2 ⟨rfl,hb2⟩;have z7:=(hb2.cell (zc _ _ HC7.out)).trans HC7.out;have z8:=(hb2.cell (zc _ _ HD7.out)).trans HD7.out;replace HB:=aT HB hb2;clear hb2) | (go_at_call 111;(with_reducible refine (CI.out _ HB.out).mono ?_);rintro e w2 ⟨rfl,hb2⟩;replace HB:=aT HB hb2;clear hb2))
  go_ret
  exact ⟨by rw [HF.out];rfl,by first | exact HB.out | (rw [HW1.out,HW2.out];exact HB.out)⟩
 go_wp2_with (first | (go_at_call 65;rw [HW1.out,HW2.out];(with_reducible refine (CS.out _ HB.out).mono ?_);rintro e w2 ⟨rfl,hb2⟩;have z7:=(hb2.cell (zc _ _ HC7.out)).trans HC7.out;have z8:=(hb2.cell (zc _ _ HD7.out)).trans HD7.out;replace HB:=aT HB hb2;clear hb2) | (go_at_call 111;(with_reducible refine (CI.out _ HB.out).mono ?_);rintro e w2 ⟨rfl,hb2⟩;replace HB:=aT HB hb2;clear hb2))
 go_ret
 exact ⟨by rw [HF.out];cases r7 <;> rfl,HB.out⟩
end
section
def Sx.only (f:Fld):Fld :=
 if Sc.kd f=0 then (Sc.nm f,⟨#[]⟩,⟨#[]⟩,0,Sc.lo f,0,[],[])
 else if Sc.kd f=1∨Sc.kd f=4∨Sc.kd f=5 then (Sc.nm f,Sc.of_ f,⟨#[]⟩,Sc.kd f,Sc.lo f,Sc.hi f,[],[])
 else if Sc.kd f=2 then (Sc.nm f,⟨#[]⟩,⟨#[]⟩,2,Sc.lo f,Sc.hi f,[],[])
 else if Sc.kd f=3 then (Sc.nm f,⟨#[]⟩,⟨#[]⟩,3,0,0,Sc.words f,Sc.wts f)
 else if Sc.kd f=6 then (Sc.nm f,Sc.of_ f,⟨#[]⟩,6,0,0,[],[])
 else if Sc.kd f=7 then (Sc.nm f,Sc.of_ f,Sc.up f,7,Sc.lo f,Sc.hi f,[],[])
 else if Sc.kd f=8 then (Sc.nm f,Sc.of_ f,Sc.up f,8,0,0,[],[])
 else (Sc.nm f,⟨#[]⟩,⟨#[]⟩,Sc.kd f,0,0,[],[])
def ValP {α:Type} [Mem α] (x:α) (W:World) (e:Ending) (W':World):Prop:=∃vs:List Value,e=.returned (.agg vs.toArray)/\Mem.rep [] W' x vs/\Below W.heap.size W W'
theorem only_0 (nm of_ up:ByteArray) (lo hi:Int) (A B:Option Addr) (a b c d:Nat) (w:World) :
  Calls Tryz.prog 119 #[.agg #[.string nm,.string of_,.string up,.int .i64 0,.int .i64 lo,.int .i64 hi,.slice A a c,.slice B b d]] w λe w'=>e=.returned (.agg #[.string nm,.string ⟨#[]⟩,.string ⟨#[]⟩,.int .i64 0,.int .i64 lo,.int .i64 0,.slice none 0 0,.slice none 0 0])/\Below w.heap.size w w':=by
 go_enter Tryz.func119,Tryz.ntmps119
 go_upto_region 19 with fail
 go_wp2_with fail
 refine zi (v:=.agg #[.string nm,.string ⟨#[]⟩,.string ⟨#[]⟩,.int .i64 0,.int .i64 lo,.int .i64 0,.slice none 0 0,.slice none 0 0]) ?_ rfl ?_
 .simp [results,Tryz.results119,go_sem]
 .exact ⟨rfl,by go_grown⟩
theorem only_1 (nm of_ up:ByteArray) (lo hi:Int) (A B:Option Addr) (a b c d:Nat) (w:World) :
  Calls Tryz.prog 119 #[.agg #[.string nm,.string of_,.string up,.int .i64 1,.int .i64 lo,.int .i64 hi,.slice A a c,.slice B b d]] w λe w'=>e=.returned (.agg #[.string nm,.string of_,.string ⟨#[]⟩,.int .i64 1,.int .i64 lo,.int .i64 hi,.slice none 0 0,.slice none 0 0])/\Below w.heap.size w w':=by
 go_enter Tryz.func119,Tryz.ntmps119
 go_upto_region 8 with fail
 go_region
 go_upto_region 19 with fail
 go_wp2_with fail
 refine zi (v:=.agg #[.string nm,.string of_,.string ⟨#[]⟩,.int .i64 1,.int .i64 lo,.int .i64 hi,.slice none 0 0,.slice none 0 0]) ?_ rfl ?_
 .simp [results,Tryz.results119,go_sem]
 .exact ⟨rfl,by go_grown⟩
theorem only_2 (nm of_ up:ByteArray) (lo hi:Int) (A B:Option Addr) (a b c d:Nat) (w:World) :
  Calls Tryz.prog 119 #[.agg #[.string nm,.string of_,.string up,.int .i64 2,.int .i64 lo,.int .i64 hi,.slice A a c,.slice B b d]] w λe w'=>e=.returned (.agg #[.string nm,.string ⟨#[]⟩,.string ⟨#[]⟩,.int .i64 2,.int .i64 lo,.int .i64 hi,.slice none 0 0,.slice none 0 0])/\Below w.heap.size w w':=by
 go_enter Tryz.func119,Tryz.ntmps119
 go_upto_region 10 with fail
 go_region
 go_upto_region 19 with fail
 go_wp2_with fail
 refine zi (v:=.agg #[.string nm,.string ⟨#[]⟩,.string ⟨#[]⟩,.int .i64 2,.int .i64 lo,.int .i64 hi,.slice none 0 0,.slice none 0 0]) ?_ rfl ?_
 .simp [results,Tryz.results119,go_sem]
 .exact ⟨rfl,by go_grown⟩
theorem only_3 (nm of_ up:ByteArray) (lo hi:Int) (A B:Option Addr) (a b c d:Nat) (w:World) :
  Calls Tryz.prog 119 #[.agg #[.string nm,.string of_,.string up,.int .i64 3,.int .i64 lo,.int .i64 hi,.slice A a c,.slice B b d]] w λe w'=>e=.returned (.agg #[.string nm,.string ⟨#[]⟩,.string ⟨#[]⟩,.int .i64 3,.int .i64 0,.int .i64 0,.slice A a c,.slice B b d])/\Below w.heap.size w w':=by
 go_enter Tryz.func119,Tryz.ntmps119
 go_upto_region 12 with fail
 go_region
 go_upto_region 19 with fail
 go_wp2_with fail
 refine zi (v:=.agg #[.string nm,.string ⟨#[]⟩,.string ⟨#[]⟩,.int .i64 3,.int .i64 0,.int .i64 0,.slice A a c,.slice B b d]) ?_ rfl ?_
 .simp [results,Tryz.results119,go_sem]
 .exact ⟨rfl,by go_grown⟩
theorem only_4 (nm of_ up:ByteArray) (lo hi:Int) (A B:Option Addr) (a b c d:Nat) (w:World) :
  Calls Tryz.prog 119 #[.agg #[.string nm,.string of_,.string up,.int .i64 4,.int .i64 lo,.int .i64 hi,.slice A a c,.slice B b d]] w λe w'=>e=.returned (.agg #[.string nm,.string of_,.string ⟨#[]⟩,.int .i64 4,.int .i64 lo,.int .i64 hi,.slice none 0 0,.slice none 0 0])/\Below w.heap.size w w':=by
 go_enter Tryz.func119,Tryz.ntmps119
 go_upto_region 8 with fail
 go_region
 go_upto_region 19 with fail
 go_wp2_with fail
 refine zi (v:=.agg #[.string nm,.string of_,.string ⟨#[]⟩,.int .i64 4,.int .i64 lo,.int .i64 hi,.slice none 0 0,.slice none 0 0]) ?_ rfl ?_
 .simp [results,Tryz.results119,go_sem]
 .exact ⟨rfl,by go_grown⟩
theorem only_5 (nm of_ up:ByteArray) (lo hi:Int) (A B:Option Addr) (a b c d:Nat) (w:World) :
  Calls Tryz.prog 119 #[.agg #[.string nm,.string of_,.string up,.int .i64 5,.int .i64 lo,.int .i64 hi,.slice A a c,.slice B b d]] w λe w'=>e=.returned (.agg #[.string nm,.string of_,.string ⟨#[]⟩,.int .i64 5,.int .i64 lo,.int .i64 hi,.slice none 0 0,.slice none 0 0])/\Below w.heap.size w w':=by
 go_enter Tryz.func119,Tryz.ntmps119
 go_upto_region 8 with fail
 go_region
 go_upto_region 19 with fail
 go_wp2_with fail
 refine zi (v:=.agg #[.string nm,.string of_,.string ⟨#[]⟩,.int .i64 5,.int .i64 lo,.int .i64 hi,.slice none 0 0,.slice none 0 0]) ?_ rfl ?_
 .simp [results,Tryz.results119,go_sem]
 .exact ⟨rfl,by go_grown⟩
theorem only_6 (nm of_ up:ByteArray) (lo hi:Int) (A B:Option Addr) (a b c d:Nat) (w:World) :
  Calls Tryz.prog 119 #[.agg #[.string nm,.string of_,.string up,.int .i64 6,.int .i64 lo,.int .i64 hi,.slice A a c,.slice B b d]] w λe w'=>e=.returned (.agg #[.string nm,.string of_,.string ⟨#[]⟩,.int .i64 6,.int .i64 0,.int .i64 0,.slice none 0 0,.slice none 0 0])/\Below w.heap.size w w':=by
 go_enter Tryz.func119,Tryz.ntmps119
 go_upto_region 19 with fail
 go_wp2_with fail
 refine zi (v:=.agg #[.string nm,.string of_,.string ⟨#[]⟩,.int .i64 6,.int .i64 0,.int .i64 0,.slice none 0 0,.slice none 0 0]) ?_ rfl ?_
 .simp [results,Tryz.results119,go_sem]
 .exact ⟨rfl,by go_grown⟩
theorem only_7 (nm of_ up:ByteArray) (lo hi:Int) (A B:Option Addr) (a b c d:Nat) (w:World) :
  Calls Tryz.prog 119 #[.agg #[.string nm,.string of_,.string up,.int .i64 7,.int .i64 lo,.int .i64 hi,.slice A a c,.slice B b d]] w λe w'=>e=.returned (.agg #[.string nm,.string of_,.string up,.int .i64 7,.int .i64 lo,.int .i64 hi,.slice none 0 0,.slice none 0 0])/\Below w.heap.size w w':=by
 go_enter Tryz.func119,Tryz.ntmps119
 go_upto_region 16 with fail
 go_region
 go_upto_region 19 with fail
 go_wp2_with fail
 refine zi (v:=.agg #[.string nm,.string of_,.string up,.int .i64 7,.int .i64 lo,.int .i64 hi,.slice none 0 0,.slice none 0 0]) ?_ rfl ?_
 .simp [results,Tryz.results119,go_sem]
 .exact ⟨rfl,by go_grown⟩
theorem only_8 (nm of_ up:ByteArray) (lo hi:Int) (A B:Option Addr) (a b c d:Nat) (w:World) :
  Calls Tryz.prog 119 #[.agg #[.string nm,.string of_,.string up,.int .i64 8,.int .i64 lo,.int .i64 hi,.slice A a c,.slice B b d]] w λe w'=>e=.returned (.agg #[.string nm,.string of_,.string up,.int .i64 8,.int .i64 0,.int .i64 0,.slice none 0 0,.slice none 0 0])/\Below w.heap.size w w':=by
 go_enter Tryz.func119,Tryz.ntmps119
 go_upto_region 18 with fail
 go_region
 go_upto_region 19 with fail
 go_wp2_with fail
 refine zi (v:=.agg #[.string nm,.string of_,.string up,.int .i64 8,.int .i64 0,.int .i64 0,.slice none 0 0,.slice none 0 0]) ?_ rfl ?_
 .simp [results,Tryz.results119,go_sem]
 .exact ⟨rfl,by go_grown⟩
theorem only_9 (nm of_ up:ByteArray) (lo hi:Int) (A B:Option Addr) (a b c d:Nat) (kd:Int) (hk:∀j:Nat,j < 9->kd≠(j:Int)) (w:World) :
  Calls Tryz.prog 119 #[.agg #[.string nm,.string of_,.string up,.int .i64 kd,.int .i64 lo,.int .i64 hi,.slice A a c,.slice B b d]] w λe w'=>e=.returned (.agg #[.string nm,.string ⟨#[]⟩,.string ⟨#[]⟩,.int .i64 kd,.int .i64 0,.int .i64 0,.slice none 0 0,.slice none 0 0])/\Below w.heap.size w w':=by
 have k0:(kd == 0)=false:=beq_eq_false_iff_ne.2 (hk 0 (by omega))
 have k1:(kd == 1)=false:=beq_eq_false_iff_ne.2 (hk 1 (by omega))
 have k2:(kd == 2)=false:=beq_eq_false_iff_ne.2 (hk 2 (by omega))
 have k3:(kd == 3)=false:=beq_eq_false_iff_ne.2 (hk 3 (by omega))
 have k4:(kd == 4)=false:=beq_eq_false_iff_ne.2 (hk 4 (by omega))
 have k5:(kd == 5)=false:=beq_eq_false_iff_ne.2 (hk 5 (by omega))
 have k6:(kd == 6)=false:=beq_eq_false_iff_ne.2 (hk 6 (by omega))
 have k7:(kd == 7)=false:=beq_eq_false_iff_ne.2 (hk 7 (by omega))
 have k8:(kd == 8)=false:=beq_eq_false_iff_ne.2 (hk 8 (by omega))
 clear hk
 go_enter Tryz.func119,Tryz.ntmps119
 go_upto_region 19 with fail
 go_wp2_with fail
 refine zi (v:=.agg #[.string nm,.string ⟨#[]⟩,.string ⟨#[]⟩,.int .i64 kd,.int .i64 0,.int .i64 0,.slice none 0 0,.slice none 0 0]) ?_ rfl ?_
 .simp [results,Tryz.results119,go_sem]
 .exact ⟨rfl,by go_grown⟩
theorem fld_rep {G:List Nat} {w:World} {nm of_ up:ByteArray} {kd lo hi:Int} {ws:List ByteArray} {ns:List Int} {A B:Option Addr} {c d:Nat} (h1:nm.size<=9223372036854775807) (h2:of_.size<=9223372036854775807) (h3:up.size<=9223372036854775807) (h4:inI kd) (h5:inI lo) (h6:inI hi)
  (s1:SlAt G w A ws) (s2:SlAt G w B ns) (b1:ws.length<=c) (b2:c<=9223372036854775807) (e1:ns.length<=d) (e2:d<=9223372036854775807) :
  Mem.rep G w ((nm,of_,up,kd,lo,hi,ws,ns):Fld) [.string nm,.string of_,.string up,.int .i64 kd,.int .i64 lo,.int .i64 hi,.slice A ws.length c,.slice B ns.length d] :=
 ⟨[.string nm],_,rfl,⟨rfl,h1⟩,[.string of_],_,rfl,⟨rfl,h2⟩,[.string up],_,rfl,⟨rfl,h3⟩,[.int .i64 kd],_,rfl,⟨rfl,h4⟩,[.int .i64 lo],_,rfl,⟨rfl,h5⟩,[.int .i64 hi],_,rfl,⟨rfl,h6⟩,[.slice A ws.length c],_,rfl,⟨A,c,rfl,b1,b2,s1⟩,⟨B,d,rfl,e1,e2,s2⟩⟩
theorem empty_size:(⟨#[]⟩:ByteArray).size<=9223372036854775807:=by decide
theorem only_eq (nm of_ up:ByteArray) (kd lo hi:Int) (ws:List ByteArray) (ns:List Int):Sx.only (nm,of_,up,kd,lo,hi,ws,ns) =
  if kd=0 then (nm,⟨#[]⟩,⟨#[]⟩,0,lo,0,[],[])
  else if kd=1∨kd=4∨kd=5 then (nm,of_,⟨#[]⟩,kd,lo,hi,[],[])
  else if kd=2 then (nm,⟨#[]⟩,⟨#[]⟩,2,lo,hi,[],[])
  else if kd=3 then (nm,⟨#[]⟩,⟨#[]⟩,3,0,0,ws,ns)
  else if kd=6 then (nm,of_,⟨#[]⟩,6,0,0,[],[])
  else if kd=7 then (nm,of_,up,7,lo,hi,[],[])
  else if kd=8 then (nm,of_,up,8,0,0,[],[])
  else (nm,⟨#[]⟩,⟨#[]⟩,kd,0,0,[],[]):=rfl
theorem only_any (f:Fld) (us:List Value) (w:World) (h:Mem.rep [] w f us):Calls Tryz.prog 119 #[.agg us.toArray] w (ValP (Sx.only f) w):=by
 obtain ⟨nm,of_,up,kd,lo,hi,ws,ns⟩:=f
 obtain ⟨A,c,B,d,rfl,s1,s2,a4,a5,a6,a1,a2,a3,b1,b2,e1,e2⟩:=rep_fld h
 clear h
 have a4:inI kd:=a4
 have a5:inI lo:=a5
 have a6:inI hi:=a6
 have s1:SlAt [] w A ws:=s1
 have s2:SlAt [] w B ns:=s2
 show Calls Tryz.prog 119 #[.agg #[.string nm,.string of_,.string up,.int .i64 kd,.int .i64 lo,.int .i64 hi,.slice A ws.length c,.slice B ns.length d]] w _
 have z:inI 0:=by constructor <;> decide
 rw [only_eq]
 have zz:=zN 9223372036854775807
 by_cases k0:kd=0
 .subst k0;rw [if_pos rfl]
  exact (only_0 nm of_ up lo hi A B _ _ c d w).mono λe w' ⟨h1,h2⟩=>⟨_,h1,fld_rep a1 empty_size empty_size a4 a5 z .nil .nil (ag _) zz (ag _) zz,h2⟩
 .rw [if_neg k0]
  by_cases k1:kd=1∨kd=4∨kd=5
  .rw [if_pos k1]
   rcases k1 with rfl | rfl | rfl
   .exact (only_1 nm of_ up lo hi A B _ _ c d w).mono λe w' ⟨h1,h2⟩=>⟨_,h1,fld_rep a1 a2 empty_size a4 a5 a6 .nil .nil (ag _) zz (ag _) zz,h2⟩
   .exact (only_4 nm of_ up lo hi A B _ _ c d w).mono λe w' ⟨h1,h2⟩=>⟨_,h1,fld_rep a1 a2 empty_size a4 a5 a6 .nil .nil (ag _) zz (ag _) zz,h2⟩
   .exact (only_5 nm of_ up lo hi A B _ _ c d w).mono λe w' ⟨h1,h2⟩=>⟨_,h1,fld_rep a1 a2 empty_size a4 a5 a6 .nil .nil (ag _) zz (ag _) zz,h2⟩
  .rw [if_neg k1]
   by_cases k2:kd=2
   .subst k2;rw [if_pos rfl]
    exact (only_2 nm of_ up lo hi A B _ _ c d w).mono λe w' ⟨h1,h2⟩=>⟨_,h1,fld_rep a1 empty_size empty_size a4 a5 a6 .nil .nil (ag _) zz (ag _) zz,h2⟩
   .rw [if_neg k2]
    by_cases k3:kd=3
    .subst k3;rw [if_pos rfl]
     exact (only_3 nm of_ up lo hi A B _ _ c d w).mono λe w' ⟨h1,h2⟩=>⟨_,h1,fld_rep a1 empty_size empty_size a4 z z (s1.keep (za h2)) (s2.keep (za h2)) b1 b2 e1 e2,h2⟩
    .rw [if_neg k3]
     by_cases k6:kd=6
     .subst k6;rw [if_pos rfl]
      exact (only_6 nm of_ up lo hi A B _ _ c d w).mono λe w' ⟨h1,h2⟩=>⟨_,h1,fld_rep a1 a2 empty_size a4 z z .nil .nil (ag _) zz (ag _) zz,h2⟩
     .rw [if_neg k6]
      by_cases k7:kd=7
      .subst k7;rw [if_pos rfl]
       exact (only_7 nm of_ up lo hi A B _ _ c d w).mono λe w' ⟨h1,h2⟩=>⟨_,h1,fld_rep a1 a2 a3 a4 a5 a6 .nil .nil (ag _) zz (ag _) zz,h2⟩
      .rw [if_neg k7]
       by_cases k8:kd=8
       .subst k8;rw [if_pos rfl]
        exact (only_8 nm of_ up lo hi A B _ _ c d w).mono λe w' ⟨h1,h2⟩=>⟨_,h1,fld_rep a1 a2 a3 a4 z z .nil .nil (ag _) zz (ag _) zz,h2⟩
       .rw [if_neg k8]
        exact (only_9 nm of_ up lo hi A B _ _ c d kd (λj hj=>by omega) w).mono λe w' ⟨h1,h2⟩=>⟨_,h1,fld_rep a1 empty_size empty_size a4 z z .nil .nil (ag _) zz (ag _) zz,h2⟩
abbrev Tk:=Nat × Nat
theorem scan_blank {l:List UInt8} {f i:Nat} (h:i < l.length) (hb:Vm.isBlank l[i]=true):Vm.scan l (f+1) i=Vm.scan l (f+1) (i+1):=by
 have e:Vm.skipN l i=Vm.skipN l (i+1):=by
  unfold Vm.skipN
  rw [List.drop_eq_getElem_cons h,List.takeWhile_cons,hb,if_pos rfl,zm];omega
 rw [Vm.scan_eq,Vm.scan_eq,e]
theorem scan_len {l:List UInt8} {f:Nat}:Vm.scan l (f+1) l.length=([],l.length):=by
 have e:Vm.skipN l l.length=l.length:=by unfold Vm.skipN;simp
 rw [Vm.scan_eq,e];unfold Vm.wordAt;simp
namespace Vm
theorem piece_ext (s:ByteArray) (a e:Nat):(s.extract a e).data.toList=piece s.data.toList a e:=by
 rw [Lib.extract_data];unfold piece;rw [List.drop_take]
end Vm
theorem byte_eq {a b:ByteArray} (h:a.data.toList=b.data.toList):a=b:=by rw [str_eq h,<-str_eq rfl]
namespace Sx
def swB (f:Fld):Bool :=
 if Sc.kd f=0 then within (Sc.lo f) (-most) most
 else if Sc.kd f=1 then nm (Sc.of_ f) && span (Sc.lo f) (Sc.hi f) 0 65536
 else if Sc.kd f=2 then span (Sc.lo f) (Sc.hi f) (-most) most
 else if Sc.kd f=3 then pickB (Sc.words f) (Sc.wts f)
 else if Sc.kd f=4 then (em (Sc.of_ f) || nm (Sc.of_ f)) && span (Sc.lo f) (Sc.hi f) (-most) most
 else if Sc.kd f=5 then nm (Sc.of_ f) && span (Sc.lo f) (Sc.hi f) 0 32
 else if Sc.kd f=6 then nm (Sc.of_ f)
 else if Sc.kd f=7 then nm (Sc.of_ f) && (nm (Sc.up f) && span (Sc.lo f) (Sc.hi f) 0 most)
 else if Sc.kd f=8 then nm (Sc.of_ f) && nm (Sc.up f)
 else false
theorem em_is (s:ByteArray):em s=decide (s=⟨#[]⟩):=by
 unfold em
 by_cases h:s=⟨#[]⟩
 .rw [ac h,h];rfl
 .rw [ad h]
  refine ad λhz=>h ?_
  exact byte_eq (by
   have:s.data.toList.length=0:=by rw [Vm.strLn];exact hz
   rw [List.length_eq_zero_iff.1 this])
theorem noW_is (f:Fld):noW f=(decide (Sc.words f=[]) && decide (Sc.wts f=[])):=by
 unfold noW
 rw [show decide ((Sc.words f).length=0)=decide (Sc.words f=[]) from by simp,show decide ((Sc.wts f).length=0)=decide (Sc.wts f=[]) from by simp]
theorem fldB_is (f:Fld):fldB f=(nm (Sc.nm f) && (sameF f (only f) && swB f)):=by
 obtain ⟨n,of_,up,kd,lo,hi,ws,ns⟩:=f
 rw [only_eq]
 unfold fldB sameF swB
 rw [noW_is,em_is,em_is]
 simp only [Sc.nm,Sc.of_,Sc.up,Sc.kd,Sc.lo,Sc.hi,Sc.words,Sc.wts]
 by_cases k0:kd=0
 .subst k0;apply Bool.eq_iff_iff.2;simp;grind
 .by_cases k1:kd=1
  .subst k1;apply Bool.eq_iff_iff.2;simp;grind
  .by_cases k2:kd=2
   .subst k2;apply Bool.eq_iff_iff.2;simp;grind
   .by_cases k3:kd=3
    .subst k3;apply Bool.eq_iff_iff.2;simp;grind
    .by_cases k4:kd=4
     .subst k4;apply Bool.eq_iff_iff.2;simp;grind
     .by_cases k5:kd=5
      .subst k5;apply Bool.eq_iff_iff.2;simp;grind
      .by_cases k6:kd=6
       .subst k6;apply Bool.eq_iff_iff.2;simp;grind
       .by_cases k7:kd=7
        .subst k7;apply Bool.eq_iff_iff.2;simp;grind
        .by_cases k8:kd=8
         .subst k8;apply Bool.eq_iff_iff.2;simp;grind
         .simp [k0,k1,k2,k3,k4,k5,k6,k7,k8]
end Sx
theorem isField_no (f:Fld) (us:List Value) (w:World) (h:Mem.rep [] w f us) (hn:Sx.nm (Sc.nm f)=false):Calls Tryz.prog 77 #[.agg us.toArray] w (BoolP (Sx.fldB f) w):=by
 obtain ⟨A,c,B,d,rfl,s1,s2,a4,a5,a6,a1,a2,a3,b1,b2,e1,e2⟩:=rep_fld h
 have HF:=aI (show Sx.fldB f=false by rw [Sx.fldB_is,hn];rfl)
 have CN:=aI (λw=>isName_any (Sc.nm f) w a1)
 rw [hn] at CN
 show Calls Tryz.prog 77 #[.agg #[.string (Sc.nm f),.string (Sc.of_ f),.string (Sc.up f),.int .i64 (Sc.kd f),.int .i64 (Sc.lo f),.int .i64 (Sc.hi f),.slice A (Sc.words f).length c,.slice B (Sc.wts f).length d]] w _
 obtain ⟨W1,hW1,HB,hb⟩:=aW w #[.string (Sc.nm f),.string (Sc.of_ f),.string (Sc.up f),.int .i64 (Sc.kd f),.int .i64 (Sc.lo f),.int .i64 (Sc.hi f),.slice A (Sc.words f).length c,.slice B (Sc.wts f).length d] 65
 have c0:=hb.cell 0
 simp at c0
 have HW1:=aI hW1
 clear h s1 s2 a1 a2 a3 a4 a5 a6 b1 b2 e1 e2 hn hb hW1
 go_enter Tryz.func77,Tryz.ntmps77
 go_wp2_with fail
 rw [HW1.out]
 have hcl:=λd os=>cell_regrown c0 d os
 refine wp_region_quiet_below (by kernel_rfl) (by kernel_rfl) ?_
 repeat (quiet_step ((go_at_call 74;exact Calls.regrown_of (CN.out _))))
 refine wpQuiet_nil ?_
 intro _ hw'
 obtain ⟨⟨dq,osq⟩,rfl⟩:=hw'
 have hb4:=below_regrown W1 dq osq
 clear hcl
 generalize Sort.grow (redrawn W1 dq) osq=w4 at hb4 ⊢
 have HB4:=aI hb4
 clear hb4
 go_wp2_with fail
 go_ret
 exact ⟨by rw [HF.out];rfl,HB.out.trans (HB4.out.mono HB.out.size)⟩
theorem em_spell (s:ByteArray):s.toList.isEmpty=Sx.em s/\s.data.toList.isEmpty=Sx.em s/\(s.toList == [])=Sx.em s:=by
 have h:s.data.toList.isEmpty=Sx.em s:=by
  have e:s.data.toList.isEmpty=decide (s.data.toList.length=0):=by cases s.data.toList <;> simp
  rw [e,Vm.strLn];rfl
 refine ⟨by rw [ByteArray.toList_eq];exact h,h,?_⟩
 rw [ByteArray.toList_eq,<-h];cases s.data.toList <;> rfl
def IsFld (o:Fld) (v:Value) (w:World):Prop:=∃vs:List Value,v=.agg vs.toArray/\Mem.rep [] w o vs
theorem isFld_kept (o:Fld):Kept (IsFld o):=λ_ _ _ ⟨vs,h1,h2⟩ hb=>⟨vs,h1,Mem.keep h2 (za hb)⟩
theorem isField_any (f:Fld) (us:List Value) (w:World) (h:Mem.rep [] w f us) (hws:(Sc.wts f).length<=1000000):Calls Tryz.prog 77 #[.agg us.toArray] w (BoolP (Sx.fldB f) w):=by
 by_cases hn:Sx.nm (Sc.nm f)=false
 .exact isField_no f us w h hn
 rw [Bool.not_eq_false] at hn
 obtain ⟨nm,of_,up,kd,lo,hi,ws,ns⟩:=f
 obtain ⟨A,c,B,d,rfl,s1,s2,a4,a5,a6,a1,a2,a3,b1,b2,e1,e2⟩:=rep_f8 h
 replace hn:Sx.nm nm=true:=hn
 replace hws:ns.length<=1000000:=hws
 obtain ⟨o,ho⟩:=aX (Sx.only ((nm,of_,up,kd,lo,hi,ws,ns):Fld))
 obtain ⟨sm,hsm⟩:=aX (Sx.sameF ((nm,of_,up,kd,lo,hi,ws,ns):Fld) o)
 have CS:=aI (λ(W':World) (vs:List Value) (hb:Below w.heap.size w W') (hv:Mem.rep [] W' o vs)=>sameField_any ((nm,of_,up,kd,lo,hi,ws,ns):Fld) o [.string nm,.string of_,.string up,.int .i64 kd,.int .i64 lo,.int .i64 hi,.slice A ws.length c,.slice B ns.length d] vs W' (Mem.keep h (za hb)) hv)
 rw [hsm] at CS
 have CO:=aI (λ(W':World) (hb:Below w.heap.size w W')=>only_any ((nm,of_,up,kd,lo,hi,ws,ns):Fld) [.string nm,.string of_,.string up,.int .i64 kd,.int .i64 lo,.int .i64 hi,.slice A ws.length c,.slice B ns.length d] W' (Mem.keep h (za hb)))
 rw [ho] at CO
 have CN:=aI (λw=>isName_any nm w a1)
 rw [hn] at CN
 have C1:=aI (λw=>isName_any of_ w a2)
 have C2:=aI (λw=>isName_any up w a3)
 have CSP:=aI span_any
 have CW:=aI within_any
 have CP:=aI (λ(W':World) (hb:Below w.heap.size w W')=>isPick_any ws ns A B c d W' (s1.keep (za hb)) (s2.keep (za hb)) (by omega) hws)
 have HF:=aI (show Sx.fldB ((nm,of_,up,kd,lo,hi,ws,ns):Fld)=(sm && Sx.swB ((nm,of_,up,kd,lo,hi,ws,ns):Fld)) by rw [Sx.fldB_is,ho,hsm];show (Sx.nm nm && _)=_;rw [hn];rfl)
 obtain ⟨y1,y2,y3⟩:=em_spell of_
 obtain ⟨q1,hq1⟩:=aX (Sx.nm of_)
 obtain ⟨q2,hq2⟩:=aX (Sx.nm up)
 obtain ⟨be,hbe⟩:=aX (Sx.em of_)
 rw [hq1] at C1
 rw [hq2] at C2
 rw [hbe] at y1 y2 y3
 have HQ1:=aI hq1
 have HQ2:=aI hq2
 have HBE:=aI hbe
 obtain ⟨W1,hW1,HB,hbk⟩:=aW w #[.string nm,.string of_,.string up,.int .i64 kd,.int .i64 lo,.int .i64 hi,.slice A ws.length c,.slice B ns.length d] 65
 have HW1:=aI hW1
 show Calls Tryz.prog 77 #[.agg #[.string nm,.string of_,.string up,.int .i64 kd,.int .i64 lo,.int .i64 hi,.slice A ws.length c,.slice B ns.length d]] w _
 clear h s1 s2 a1 a2 a3 a4 a5 a6 b1 b2 e1 e2 hn hW1 hsm hws hq1 hq2 hbe ho
 obtain ⟨fb,hfb⟩:=aX (Sx.fldB ((nm,of_,up,kd,lo,hi,ws,ns):Fld))
 rw [hfb] at HF ⊢
 clear hfb
 obtain ⟨wl,hwl⟩:=aX ws.length
 obtain ⟨nl,hnl⟩:=aX ns.length
 rw [hwl,hnl] at CS CO CP HW1 hbk ⊢
 clear hwl hnl
 obtain ⟨N,hN⟩:=aX w.heap.size
 have HN:=aI hN
 rw [hN] at hbk
 have HBK:=aI hbk
 clear hbk hN
 go_enter Tryz.func77,Tryz.ntmps77
 go_wp2_with fail
 rw [HW1.out,HN.out]
 apply zy (C:=λw'=>Below W1.heap.size W1 w') (n:=108) (m:=11) (l1:=[_,_,_,_,_,_,_,_,_,_,_]) (l2:=[]);rfl;rfl;kernel_rfl;rfl;kernel_rfl;exact ⟨rfl,rfl,rfl,ag _,λ_ _=>rfl⟩;exact aR
 iterate 7 ((apply aJ;·(intro w' hC hf;obtain ⟨c0,c1,c2,c3,c4,c5,c6,c7⟩:=aM8 (HBK.out.below hC HBK.out.lt);have HC:=aI hC;clear hf hC;go_wp2_with (go_at_call 74;(with_reducible refine (CN.out _).mono ?_);rintro e w2 ⟨rfl,hb2⟩);apply postT_val rfl (by first | exact zf _ _ | assumption);simp only [zC];exact rfl));(try simp only [zn]))
 apply zF (isFld_kept o)
 .intro w' hC hf;unfold Gives
  have HC:=aI hC
  clear hf hC
  go_wp2_with (go_at_call 119;(with_reducible refine (CO.out _ (HB.out.trans (HC.out.mono HB.out.size))).mono ?_);rintro e w2 ⟨vs,rfl,hr,hb2⟩;have HR:=aI hr;have HB2:=aI hb2;clear hr hb2)
  apply zJ rfl HB2.out;simp only [zC];exact ⟨vs,rfl,HR.out⟩
 intro v10;(try simp only [zn])
 ((apply aJ;·(intro w' hC hf;obtain ⟨c0,c1,c2,c3,c4,c5,c6,c7⟩:=aM8 (HBK.out.below hC HBK.out.lt);obtain ⟨vs,rfl,hr⟩:=hf.1 rfl;have HR:=aI hr;clear hr;have HC:=aI hC;clear hf hC;go_wp2_with (go_at_call 62;(with_reducible refine (CS.out _ _ (HB.out.trans (HC.out.mono HB.out.size)) HR.out).mono ?_);rintro e w2 ⟨rfl,hb2⟩);apply postT_val rfl (by first | exact zf _ _ | assumption);simp only [zC];exact rfl));(try simp only [zn]))
 iterate 2 ((apply aJ;·(intro w' hC hf;obtain ⟨c0,c1,c2,c3,c4,c5,c6,c7⟩:=aM8 (HBK.out.below hC HBK.out.lt);have HC:=aI hC;clear hf hC;go_wp2_with (fail);apply postT_val rfl (by first | exact zf _ _ | assumption);simp only [zC];exact rfl));(try simp only [zn]))
 apply wpT_done
 intro w4 hC _
 have HB1:=aI hC
 have hbk:=HBK.out.below hC HBK.out.lt
 have HBQ:=aI hbk
 obtain ⟨c0,c1,c2,c3,c4,c5,c6,c7⟩:=aN8 hbk.cell;simp at c0 c1 c2 c3 c4 c5 c6 c7
 clear hbk hC
 cases sm
 .go_wp2_with fail
  go_ret
  exact ⟨by rw [HF.out];rfl,HB.out.trans (HB1.out.mono HB.out.size)⟩
 rw [Bool.true_and] at HF
 clear CS CO CN
 by_cases h0:kd=0∨kd=1∨kd=2∨kd=3∨kd=4∨kd=5∨kd=6∨kd=7∨kd=8
 .rcases h0 with rfl | rfl | rfl | rfl | rfl | rfl | rfl | rfl | rfl
  all_goals (cases q1 <;> cases q2 <;> cases be <;> (go_wp2_with (first | (go_at_call 74;(first | (with_reducible refine (C1.out _).mono ?_) | (with_reducible refine (C2.out _).mono ?_));rintro e w2 ⟨rfl,hb2⟩;have HB1:=aI (HB1.out.trans (hb2.mono HB1.out.size));have hbk:=HBQ.out.below hb2 HBQ.out.lt;have HBQ:=aI hbk;obtain ⟨c0,c1,c2,c3,c4,c5,c6,c7⟩:=aN8 hbk.cell;simp at c0 c1 c2 c3 c4 c5 c6 c7;clear hbk hb2) | (go_at_call 75;(with_reducible refine aS (CSP.out _ _ _ _ _) ?_)) | (go_at_call 25;(with_reducible refine aS (CW.out _ _ _ _) ?_)) | (go_at_call 120;(with_reducible refine (CP.out _ (HB.out.trans (HB1.out.mono HB.out.size))).mono ?_);rintro e w2 ⟨rfl,hb2⟩;have HB1:=aI (HB1.out.trans (hb2.mono HB1.out.size));have hbk:=HBQ.out.below hb2 HBQ.out.lt;have HBQ:=aI hbk;obtain ⟨c0,c1,c2,c3,c4,c5,c6,c7⟩:=aN8 hbk.cell;simp at c0 c1 c2 c3 c4 c5 c6 c7;clear hbk hb2));go_ret;exact ⟨by rw [HF.out];simp [Sx.swB,Sx.most,Sc.kd,Sc.of_,Sc.up,Sc.lo,Sc.hi,Sc.words,Sc.wts,HQ1.out,HQ2.out,HBE.out],HB.out.trans (HB1.out.mono HB.out.size)⟩))
 .simp only [not_or] at h0
  obtain ⟨n0,n1,n2,n3,n4,n5,n6,n7,n8⟩:=h0
  have HFF:=aI (show fb=false by rw [HF.out];simp [Sx.swB,Sc.kd,n0,n1,n2,n3,n4,n5,n6,n7,n8])
  have k0:=beq_eq_false_iff_ne.2 n0;have k1:=beq_eq_false_iff_ne.2 n1;have k2:=beq_eq_false_iff_ne.2 n2;have k3:=beq_eq_false_iff_ne.2 n3;have k4:=beq_eq_false_iff_ne.2 n4;have k5:=beq_eq_false_iff_ne.2 n5;have k6:=beq_eq_false_iff_ne.2 n6;have k7:=beq_eq_false_iff_ne.2 n7;have k8:=beq_eq_false_iff_ne.2 n8
  clear n0 n1 n2 n3 n4 n5 n6 n7 n8
  go_wp2_with fail
  go_ret
  exact ⟨by rw [HFF.out];rfl,HB.out.trans (HB1.out.mono HB.out.size)⟩
namespace Sx
theorem nm_sz {s:ByteArray} (h:nm s=true):1<=s.size/\s.size<=12:=by
 unfold nm nameB at h
 simp only [zw,zD] at h
 rw [show s.data.toList.length=s.size from strLen s] at h
 omega
theorem em_sz {s:ByteArray} (h:em s=true):s.size=0:=by unfold em at h;simpa using h
structure FB (f:Fld):Prop where
 nm:(Sc.nm f).size<=12
 of_:(Sc.of_ f).size<=12
 up:(Sc.up f).size<=12
 lo:-1048576<=Sc.lo f/\Sc.lo f<=1048576
 hi:-1048576<=Sc.hi f/\Sc.hi f<=1048576
 ws:(Sc.words f).length<=12
 ns:(Sc.wts f).length=(Sc.words f).length
 w:∀s∈Sc.words f,s.size<=12
 n:∀n∈Sc.wts f,0<=n/\n<=1048576
 kd:∃k:Nat,k<=8/\Sc.kd f=k
theorem within_of {n a b:Int} (h:within n a b=true):a<=n/\n<=b:=by unfold within at h;simpa using h
theorem span_of {n m a b:Int} (h:span n m a b=true):a<=n/\n<=m/\m<=b:=by unfold span at h;simpa using h
theorem noW_of {f:Fld} (h:noW f=true):Sc.words f=[]/\Sc.wts f=[]:=by unfold noW at h;simpa using h
theorem fldB_bd {f:Fld} (h:fldB f=true):FB f:=by
 unfold fldB at h
 rw [Bool.and_eq_true_iff] at h
 obtain ⟨h1,h⟩:=h
 have hn:=nm_sz h1
 have mk:noW f=true->(Sc.of_ f).size<=12->(Sc.up f).size<=12->(-1048576<=Sc.lo f/\Sc.lo f<=1048576)->(-1048576<=Sc.hi f/\Sc.hi f<=1048576)->(∃k:Nat,k<=8/\Sc.kd f=k)->FB f:=λa b c d e g=>by
  obtain ⟨e1,e2⟩:=noW_of a
  exact ⟨hn.2,b,c,d,e,by rw [e1];simp,by rw [e1,e2];rfl,(by rw [e1];intro _ h;cases h),(by rw [e2];intro _ h;cases h),g⟩
 unfold most at h
 split at h
 .rename_i hk
  simp only [zw,zD] at h
  have a1:=em_sz h.1;have a2:=em_sz h.2.1;have a3:=within_of h.2.2.2.2
  exact mk h.2.2.2.1 (by omega) (by omega) (by omega) (by omega) ⟨0,by omega,hk⟩
 split at h
 .rename_i hk
  simp only [zw,zD] at h
  have a1:=em_sz h.1;have a2:=nm_sz h.2.2.1;have a3:=span_of h.2.2.2
  exact mk h.2.1 (by omega) (by omega) (by omega) (by omega) ⟨1,by omega,hk⟩
 split at h
 .rename_i hk
  simp only [zw,zD] at h
  have a1:=em_sz h.1;have a2:=em_sz h.2.1;have a3:=span_of h.2.2.2
  exact mk h.2.2.1 (by omega) (by omega) (by omega) (by omega) ⟨2,by omega,hk⟩
 split at h
 .rename_i hk
  unfold pickB most at h
  simp only [zw,zD,List.all_eq_true] at h
  obtain ⟨b1,b2,b3,b4,b5,b6,b7,b8,b9⟩:=h
  have a1:=em_sz b1;have a2:=em_sz b2;have a3:=within_of b6
  exact ⟨hn.2,by omega,by omega,by omega,by omega,by omega,by omega,λs hs=>(nm_sz (b9 s hs)).2,λn hn=>within_of (b5 n hn),⟨3,by omega,hk⟩⟩
 split at h
 .rename_i hk
  simp only [zw,Bool.or_eq_true,zD] at h
  have a1:=em_sz h.1;have a3:=span_of h.2.2.2
  have a2:(Sc.of_ f).size<=12:=by
   rcases h.2.2.1 with h | h
   .have:=em_sz h;omega
   .have:=nm_sz h;omega
  exact mk h.2.1 (by omega) (by omega) (by omega) (by omega) ⟨4,by omega,hk⟩
 split at h
 .rename_i hk
  simp only [zw,zD] at h
  have a1:=em_sz h.1;have a2:=nm_sz h.2.2.1;have a3:=span_of h.2.2.2
  exact mk h.2.1 (by omega) (by omega) (by omega) (by omega) ⟨5,by omega,hk⟩
 split at h
 .rename_i hk
  simp only [zw,zD] at h
  have a1:=em_sz h.1;have a2:=nm_sz h.2.2.2.2
  exact mk h.2.1 (by omega) (by omega) (by omega) (by omega) ⟨6,by omega,hk⟩
 split at h
 .rename_i hk
  simp only [zw,zD] at h
  have a1:=nm_sz h.2.1;have a2:=nm_sz h.2.2.1;have a3:=span_of h.2.2.2
  exact mk h.1 (by omega) (by omega) (by omega) (by omega) ⟨7,by omega,hk⟩
 split at h
 .rename_i hk
  simp only [zw,zD] at h
  have a1:=nm_sz h.2.2.2.1;have a2:=nm_sz h.2.2.2.2
  exact mk h.1 (by omega) (by omega) (by omega) (by omega) ⟨8,by omega,hk⟩
 .cases h
def orN (s:ByteArray):ByteArray:=if em s=true then ⟨#[45]⟩ else s
theorem orN_list (s:ByteArray):bs (orN s)=orNone s:=by unfold orN orNone;split <;> rfl
theorem orN_sz {s:ByteArray} {n:Nat} (h:s.size<=n) (hn:1<=n):(orN s).size<=n:=by
 unfold orN
 split
 .exact hn
 .exact h
end Sx
def avCell:Sx.Av->Value
 | .n z=>.iface 3 (.int .i64 z)
 | .s b=>.iface 9 (.string b)
def avCells (l:List Sx.Av):List Value:=l.map avCell
def Sx.Av.fit:Sx.Av->Prop
 | .n z=>-1000000000<=z/\z<=1000000000
 | .s b=>b.size<=100
theorem Sx.Av.fit.ok {a:Sx.Av} (h:a.fit):a.ok:=by
 cases a with
 | n z=>unfold Sx.Av.fit at h;show z.natAbs < 10000000000;omega
 | s b=>exact h
theorem av_rep {G:List Nat} {w:World} {a:Sx.Av} (h:a.fit):Mem.rep G w a [avCell a]:=by
 cases a with
 | n z=>unfold Sx.Av.fit at h;exact ⟨rfl,by unfold inI;omega⟩
 | s b=>exact ⟨rfl,ah h (by decide)⟩
theorem flat_avs {G:List Nat} {w:World}:∀{l:List Sx.Av},(∀a∈l,a.fit)->Flat G w l (avCells l)
 | [],_=>rfl
 | a::l,h=>⟨[avCell a],avCells l,rfl,av_rep (h a (.head _)),flat_avs λx hx=>h x (.tail _ hx)⟩
theorem line_new (ws:ByteArray) (l:List Sx.Av) (W:World) (hok:∀a∈l,a.fit) (hm:l.length<=1000000) (hws:ws.size<=1000) (he:TEnv W) :
  Calls Tryz.prog 86 #[.string ws,.slice (some ⟨W.heap.size,0,none⟩) l.length l.length] (W.alloc (.cells (avCells l).toArray 20)) λe w'=>e=.returned (.string ⟨(Sx.lineT (Sx.bs ws::l.map Sx.Av.t)).toArray⟩)/\Below W.heap.size W w':=by
 have hb:Below W.heap.size W (W.alloc (.cells (avCells l).toArray 20)):=(zf _ _).alloc (ag _) _
 refine (line_any ws l (some ⟨W.heap.size,0,none⟩) l.length _ (SlAt.of_blk (flat_avs hok) (zj _ _ _) (by simp)) (λa ha=>(hok a ha).ok) hm hws (he.below hb he.sz)).mono ?_
 rintro e w' ⟨rfl,h⟩
 exact ⟨rfl,hb.trans (h.mono hb.size)⟩
theorem or_any (s:ByteArray) (b:Nat) (w:World) (c0:w.cell? ⟨b,0,none⟩=some (.string s)) (c1:w.cell? ⟨b,1,none⟩=some (.string ⟨#[45]⟩)):Calls Tryz.prog 130 #[.slice (some ⟨b,0,none⟩) 2 2] w λe w'=>e=.returned (.string (Sx.orN s))/\w=w':=by
 unfold Sx.orN
 obtain ⟨e1,e2,e3⟩:=em_spell s
 obtain ⟨r,hr⟩:=aX (Sx.em s)
 rw [hr] at e1 e2 e3 ⊢
 clear hr
 cases r
 .rw [if_neg (by simp)]
  have e4:(s.toList != [])=true:=by rw [bne,e3];rfl
  go_enter Tryz.func130,Tryz.ntmps130
  go_wp2_with fail
  go_loopg [8] 2 (λr i wr=>i=.int .i64 0/\r=2/\wr=w)
  case atStart=>exact ⟨rfl,rfl,rfl⟩
  case round =>
   obtain ⟨rfl,_,rfl⟩:=hrel
   go_wp2_with fail
   go_ret
   exact ⟨rfl,rfl⟩
 .rw [if_pos rfl]
  have e4:(s.toList != [])=false:=by rw [bne,e3];rfl
  go_enter Tryz.func130,Tryz.ntmps130
  go_wp2_with fail
  go_loopg [8] 2 (λr i wr=>∃k:Nat,k<=1/\k+r=2/\i=.int .i64 k/\wr=w)
  case atStart=>exact ⟨0,by omega,by omega,rfl,rfl⟩
  case round =>
   obtain ⟨k,hk,hk2,rfl,rfl⟩:=hrel
   obtain ⟨w,rfl⟩:=aY wr
   rcases (show k=0∨k=1 by omega) with rfl | rfl
   .go_wp2_with fail
    go_roundg (gk - 1)
    case measure=>omega
    case rel=>exact ⟨1,by omega,by omega,by go_num,rfl⟩
   .go_wp2_with fail
    go_ret
    exact ⟨rfl,rfl⟩
theorem named_any (s:ByteArray) (w:World):Calls Tryz.prog 88 #[.string s] w λe w'=>e=.returned (.string (Sx.orN s))/\Below w.heap.size w w':=by
 have CO:=aI (or_any s)
 go_enter Tryz.func88,Tryz.ntmps88
 go_wp2_with (go_at_call 130;(with_reducible refine aS (CO.out _ _ ((zj _ _ _).cell 0) ((zj _ _ _).cell 1)) ?_))
 go_ret
 exact ⟨rfl,(zf _ _).alloc (ag _) _⟩
theorem gSyn : Tryz.prog.globalNamed "strconv.ErrSyntax" = some 3 := by kernel_rfl
theorem gRng : Tryz.prog.globalNamed "strconv.ErrRange" = some 4 := by kernel_rfl
def wdS (k:Nat):ByteArray:=Sx.ofT (Sx.wordsL.getD k [])
structure SEnv (w:World):Prop where
 t:TEnv w
 syn : ∃(tp : TypeId) (p : Value), w.var? Tryz.prog "strconv.ErrSyntax" = some #[.iface tp p]
 rng : ∃(tp : TypeId) (p : Value), w.var? Tryz.prog "strconv.ErrRange" = some #[.iface tp p]
 words:∀k,k < 9->w.cell? ⟨0,k,none⟩=some (.string (wdS k))
 sz:max (max 3 4) (max 5 0) < w.heap.size
theorem SEnv.below {w w':World} {B:Nat} (h:SEnv w) (hb:Below B w w') (hB:max (max 3 4) (max 5 0) < B):SEnv w':=by
 obtain ⟨h1,⟨a,b,h2⟩,⟨c,d,h3⟩,h4,h5⟩:=h
 exact ⟨h1.below hb (by omega),⟨a,b,var?_below hb gSyn (by omega) h2⟩,⟨c,d,var?_below hb gRng (by omega) h3⟩,λk hk=>(hb.cell (p:=⟨0,k,none⟩) (show 0 < B by omega)).trans (h4 k hk),by have:=hb.size;omega⟩
def AtoiP (l:List UInt8) (w:World) (e:Ending) (w':World):Prop:=∃(n:Int) (ev:Value),e=.returned (.tuple #[.int .i64 n,ev])/\inI n/\(∀m,Lib.atoiAll l=.ok m->n=m)/\((∀m,Lib.atoiAll l≠.ok m)->l=[]->n=0)/\Below w.heap.size w w'
theorem atoi_any (s:ByteArray) (w:World) (hs:s.size<=1000000) (ht:SEnv w):Calls Tryz.prog 140 #[.string s] w (AtoiP s.data.toList w):=by
 obtain ⟨_,⟨a,b,h2⟩,⟨c,d,h3⟩,_,_⟩:=ht
 cases hh:Lib.atoiAll s.data.toList with
 | ok v =>
  refine (Tryz.strconv_Atoi_ok s (by omega) v hh w).mono ?_
  rintro e w' ⟨rfl,hw⟩
  exact ⟨v,.nilIface,rfl,Lib.atoiAll_bounds hh,λm hm=>by rw [hh] at hm;injection hm,λh=>zU hh (h v),below_atoi hw⟩
 | «syntax» =>
  refine (Tryz.strconv_Atoi_syntax_var s (by omega) hh a b w h2).mono ?_
  rintro e w' ⟨N,rfl,_,_,hb⟩
  exact ⟨_,_,rfl,⟨by decide,by decide⟩,λm hm=>(by rw [hh] at hm;cases hm),λ_ _=>rfl,hb⟩
 | range =>
  refine (Tryz.strconv_Atoi_range_var s (by omega) hh c d w h3).mono ?_
  rintro e w' ⟨N,rfl,_,_,hb⟩
  refine ⟨_,_,rfl,⟨?_,?_⟩,λm hm=>(by rw [hh] at hm;cases hm),λ_ hl=>?_,hb⟩
  .unfold Lib.atoiSat;split <;> decide
  .unfold Lib.atoiSat;split <;> decide
  .rw [hl] at hh;cases hh
namespace Sx
theorem vdigs (w:Txt):Vm.digs w=digs w:=rfl
theorem atoi_numB {w:Txt} (h:numB w=true):Lib.atoiAll w=.ok (numV w):=by
 unfold numB at h
 simp only [zw,zD] at h
 obtain ⟨h1,h7,hall⟩:=h
 have hpm:Lib.parseMag (digs w)=.ok (Dc.decV (digs w)):=by
  unfold Lib.parseMag
  rw [if_neg (by intro e;rw [e] at h1;simp at h1)]
  refine parse_digs _ 0 hall ?_
  rw [zG,Nat.one_mul]
  exact ah (Nat.pow_le_pow_right (by omega) h7) (by decide)
 have hlt:=Dc.decV_lt _ hall
 have hl7:10 ^ (digs w).length<=10 ^ 9:=Nat.pow_le_pow_right (by omega) h7
 have h107:(10:Nat) ^ 9=1000000000:=by decide
 cases w with
 | nil=>simp [digs,neg] at h1
 | cons c r =>
  unfold numV
  cases hn:neg (c::r)
  .have hd:digs (c::r)=c::r:=by unfold digs;rw [hn];rfl
   rw [hd] at hall hpm hlt hl7 ⊢
   rw [List.all_cons,zw] at hall
   have hc:=hall.1
   simp only [Dc.isDig,zw,zD] at hc
   unfold Lib.atoiAll
   simp only [if_neg (show ¬(c.toNat=43∨c.toNat=45) by omega),hpm,if_neg (show ¬(c.toNat=45/\9223372036854775808 < Dc.decV (c::r)) by omega),if_neg (show ¬(¬c.toNat=45/\9223372036854775808<=Dc.decV (c::r)) by omega),if_neg (show ¬c.toNat=45 by omega)]
   simp
  .have hd:digs (c::r)=r:=by unfold digs;rw [hn];rfl
   rw [hd] at hall hpm hlt hl7 ⊢
   have hc:c.toNat=45:=by unfold neg at hn;simp at hn;rw [hn];rfl
   unfold Lib.atoiAll
   simp only [if_pos (show (c.toNat=43∨c.toNat=45) by omega),hpm,if_neg (show ¬(c.toNat=45/\9223372036854775808 < Dc.decV r) by omega),if_neg (show ¬(¬c.toNat=45/\9223372036854775808<=Dc.decV r) by omega),if_pos hc]
   simp
def tenD:Txt:=[48,49,50,51,52,53,54,55,56,57]
theorem ten_dig (c:UInt8):tenD.contains c=Dc.isDig c:=by
 have h:∀n:Fin 256,tenD.contains (UInt8.ofNat n.val)=Dc.isDig (UInt8.ofNat n.val):=by decide
 have:=h ⟨c.toNat,c.toNat_lt⟩
 simpa using this
theorem dropWhile_nil {p:UInt8->Bool}:∀{l:Txt},(l.dropWhile p=[]↔l.all p=true)
 | []=>by simp
 | c::l=>by
  rw [List.dropWhile_cons,List.all_cons]
  cases hp:p c
  .simp
  .rw [if_pos rfl,dropWhile_nil];simp
theorem trim_ten (l:Txt):decide (Lib.trimS l tenD=[])=l.all Dc.isDig:=by
 have hf:(λc=>tenD.contains c)=Dc.isDig:=funext ten_dig
 unfold Lib.trimS Lib.trimLeftS Lib.trimRightS
 rw [hf]
 rw [Bool.eq_iff_iff,zD,dropWhile_nil]
 constructor
 .intro h
  rw [List.all_eq_true] at h ⊢
  -- an element that is no digit stays
  by_cases ha:l.all Dc.isDig=true
  .exact List.all_eq_true.1 ha
  .exfalso
   have hr:l.reverse.dropWhile Dc.isDig≠[]:=λe=>ha (by rw [dropWhile_nil,List.all_reverse] at e;exact e)
   obtain ⟨c,m,hm⟩:=List.exists_cons_of_ne_nil hr
   have hc:=List.head_dropWhile_not Dc.isDig hr
   simp only [hm,List.head_cons] at hc
   have:=h c (by rw [hm];simp)
   rw [this] at hc;cases hc
 .intro h
  rw [List.all_eq_true] at h ⊢
  have e:l.reverse.dropWhile Dc.isDig=[]:=by rw [dropWhile_nil,List.all_reverse];exact List.all_eq_true.2 h
  rw [e];simp
theorem numB_is (w:Txt):numB w=((decide (1<=(digs w).length) && decide ((digs w).length<=9)) && (digs w).all Dc.isDig):=by unfold numB;rw [Bool.and_assoc]
end Sx
theorem info256:(Tryz.prog.info? (Tryz.lays160_ren.t 116)).map (λi=>(i.zero,i.size))=some (some (.agg (Array.replicate 256 (.bool false))),256):=by kernel_rfl
theorem trim_any (s:ByteArray) (w:World) (hs:s.size<=9223372036854775807):Calls Tryz.prog 166 #[.string s,.string ⟨#[48,49,50,51,52,53,54,55,56,57]⟩] w λe w'=>e=.returned (.string ⟨(Lib.trimS s.data.toList Sx.tenD).toArray⟩)/\Below w.heap.size w w' :=
 Any.strings_Trim_laid Tryz.lays160 info256 s ⟨#[48,49,50,51,52,53,54,55,56,57]⟩ w hs (by decide) (ascii_of_all (by decide))
theorem isNumber_any (s:ByteArray) (w:World) (hs:s.size<=1000000):Calls Tryz.prog 141 #[.string s] w (BoolP (Sx.numB s.data.toList) w):=by
 have CT:=aI (λw=>Tryz.strings_TrimPrefix s ⟨#[45]⟩ w)
 simp only [trim_is,Sx.vdigs] at CT
 obtain ⟨d,hd⟩:∃d:ByteArray,(⟨(Sx.digs s.data.toList).toArray⟩:ByteArray)=d:=⟨_,rfl⟩
 rw [hd] at CT
 have hdl:d.data.toList=Sx.digs s.data.toList:=by rw [<-hd]
 have hok:Sx.numB s.data.toList=((decide (1<=d.size) && decide (d.size<=9)) && d.data.toList.all Dc.isDig):=by rw [Sx.numB_is,<-hdl,Vm.strLn]
 have hdm:d.size<=1000000:=by
  have:(Sx.digs s.data.toList).length<=s.data.toList.length:=by unfold Sx.digs;split <;> simp
  rw [<-hdl,Vm.strLn,Vm.strLn] at this;omega
 have CR:=aI (λw=>trim_any d w (by omega))
 obtain ⟨tt,htt⟩:∃t:ByteArray,(⟨(Lib.trimS d.data.toList Sx.tenD).toArray⟩:ByteArray)=t:=⟨_,rfl⟩
 rw [htt] at CR
 have ht:(tt.toList == (⟨#[]⟩:ByteArray).toList)=d.data.toList.all Dc.isDig:=by
  rw [strEqB,<-Sx.trim_ten,<-htt]
  by_cases h:Lib.trimS d.data.toList Sx.tenD=[]
  .rw [h];rfl
  .rw [ad h,ad]
   intro e
   exact h (by have:=zt (λb:ByteArray=>b.data.toList) e;simpa using this)
 obtain ⟨b3,h3⟩:=aX (d.data.toList.all Dc.isDig)
 rw [h3] at ht hok
 have ht2:tt.toList.isEmpty=b3:=by rw [<-ht,ByteArray.toList_eq,ByteArray.toList_eq];cases tt.data.toList <;> rfl
 have ht3:tt.data.toList.isEmpty=b3:=by rw [<-ht2,ByteArray.toList_eq]
 clear h3 hd hdl htt
 obtain ⟨b1,h1⟩:=aX (decide (1<=d.size))
 obtain ⟨b2,h2⟩:=aX (decide (d.size<=9))
 have h1':decide ((1:Int)<=(d.size:Int))=b1:=by rw [<-h1];exact le_cast 1 _
 have h2':decide ((d.size:Int)<=(9:Int))=b2:=by rw [<-h2];exact le_cast _ 9
 rw [h1,h2] at hok
 have HOK:=aI hok
 clear hok
 go_enter Tryz.func141,Tryz.ntmps141
 cases b1 <;> cases b2 <;> (go_wp2_with (first | (go_at_call 165;(with_reducible refine (CT.out _).mono ?_);rintro e w1 ⟨rfl,rfl⟩) | (go_at_call 166;(with_reducible refine (CR.out _).mono ?_);rintro e w1 ⟨rfl,hb1⟩;have HB:=aI hb1;clear hb1));go_ret;exact ⟨by rw [HOK.out];cases b3 <;> rfl,by first | exact HB.out | exact zf _ _⟩)
theorem wdS_bs (k:Nat):Sx.bs (wdS k)=Sx.wordsL.getD k []:=by simp [Sx.bs,wdS,Sx.ofT]
theorem wdS_size (k:Nat) (h:k < 9):(wdS k).size<=1000:=by
 match k,h with
 | 0,_ | 1,_ | 2,_ | 3,_ | 4,_ | 5,_ | 6,_ | 7,_ | 8,_=>decide
def LineP (l:List Sx.Txt) (w:World) (e:Ending) (w':World):Prop:=e=.returned (.string ⟨(Sx.lineT l).toArray⟩)/\Below w.heap.size w w'
theorem infoAny:(Tryz.prog.info? 20).map (λi=>(i.zero,i.size,i.bytes))=some (some .nilIface,1,16):=by kernel_rfl
theorem pfield_o (k:Nat) (hk9:k<=8) (hk3:k≠3) (nm of_ up:ByteArray) (lo hi:Int) (ws:List ByteArray) (ns:List Int) (us:List Value) (w:World) (h:Mem.rep [] w ((nm,of_,up,(k:Int),lo,hi,ws,ns):Fld) us) (hf:Sx.FB ((nm,of_,up,(k:Int),lo,hi,ws,ns):Fld)) (he:SEnv w):Calls Tryz.prog 87 #[.agg us.toArray] w (LineP (Sx.fldT ((nm,of_,up,(k:Int),lo,hi,ws,ns):Fld)) w):=by
 obtain ⟨A,c,B,d,rfl,s1,s2,a4,a5,a6,a1,a2,a3,b1,b2,e1,e2⟩:=rep_f8 h
 obtain ⟨h1,h2,h3,h4,h5,h6,h7,h8,h9,_⟩:=hf
 replace h1:nm.size<=12:=h1
 replace h2:of_.size<=12:=h2
 replace h3:up.size<=12:=h3
 replace h4:-1048576<=lo/\lo<=1048576:=h4
 replace h5:-1048576<=hi/\hi<=1048576:=h5
 obtain ⟨W1,hW1⟩:=aX (w.alloc (.cells #[.string nm,.string of_,.string up,.int .i64 (k:Int),.int .i64 lo,.int .i64 hi,.slice A ws.length c,.slice B ns.length d] 65))
 have hb0:Below w.heap.size w W1:=by rw [<-hW1];exact aP _ _
 have HB:=aI hb0
 have hbk:Blk W1 w.heap.size 65 #[.string nm,.string of_,.string up,.int .i64 (k:Int),.int .i64 lo,.int .i64 hi,.slice A ws.length c,.slice B ns.length d]:=by rw [<-hW1];exact zj w _ _
 obtain ⟨c0,c1,c2,c3,c4,c5,c6,c7⟩:=aN8 hbk.cell
 simp at c0 c1 c2 c3 c4 c5 c6 c7
 have he1:=he.below hb0 he.sz
 have cw:=he1.words k (by omega)
 have HE:=aI he1
 have HBK:=aI hbk
 obtain ⟨wd,hwd⟩:=aX (wdS k)
 have hws:wd.size<=1000:=by rw [<-hwd];exact wdS_size k (by omega)
 have HWD:=aI (show Sx.bs wd=Sx.wordsL.getD k [] by rw [<-hwd];exact wdS_bs k)
 rw [hwd] at cw
 have HW1:=aI hW1
 show Calls Tryz.prog 87 #[.agg #[.string nm,.string of_,.string up,.int .i64 (k:Int),.int .i64 lo,.int .i64 hi,.slice A ws.length c,.slice B ns.length d]] w _
 have FN:=aI (show Sx.Av.fit (.s nm) from (show nm.size<=100 by omega))
 have FO:=aI (show Sx.Av.fit (.s of_) from (show of_.size<=100 by omega))
 have FP:=aI (show Sx.Av.fit (.s up) from (show up.size<=100 by omega))
 have FL:=aI (show Sx.Av.fit (.n lo) from (show -1000000000<=lo/\lo<=1000000000 by omega))
 have FH:=aI (show Sx.Av.fit (.n hi) from (show -1000000000<=hi/\hi<=1000000000 by omega))
 have FR:=aI (show Sx.Av.fit (.s (Sx.orN of_)) from (show (Sx.orN of_).size<=100 from Sx.orN_sz (by omega) (by decide)))
 have HP:=aI (λ(l:List Sx.Av) (h:∀a∈l,a.fit) (hm:l.length<=1000000)=>line_new wd l W1 h hm hws HE.out.t)
 have HQ:=aI (λ(l:List Sx.Av) (g:Nat) (W:World) (h:∀a∈l,a.fit) (hB:Blk W g 20 (avCells l).toArray) (hb:Below W1.heap.size W1 W) (hm:l.length<=1000000)=>line_any wd l (some ⟨g,0,none⟩) l.length W (SlAt.of_blk (flat_avs h) hB (by simp)) (λa ha=>(h a ha).ok) hm hws (HE.out.t.below hb HE.out.t.sz))
 have k0:(0:Int)<=(k:Int):=Int.natCast_nonneg _
 have k9:(k:Int) < 9:=by omega
 clear h s1 s2 a1 a2 a3 a4 a5 a6 b1 b2 e1 e2 h1 h2 h3 h4 h5 h6 h7 h8 h9 hbk hW1 hb0 he1 he hwd hws
 go_enter Tryz.func87,Tryz.ntmps87
 go_upto_region 1 with fail
 rw [HW1.out]
 clear k0 k9
 rcases (show k=0∨k=2∨k=6∨k=7∨k=8∨(k=1∨k=4∨k=5) by omega) with rfl | rfl | rfl | rfl | rfl | hk
 case' inl =>
  have CL:=aI (show Calls Tryz.prog 86 #[.string wd,.slice (some ⟨W1.heap.size,0,none⟩) 2 2] (W1.alloc (.cells #[.iface 9 (.string nm),.iface 3 (.int .i64 lo)] 20)) λe w'=>e=.returned (.string ⟨(Sx.lineT (Sx.bs wd::[.s nm,.n lo].map Sx.Av.t)).toArray⟩)/\Below W1.heap.size W1 w' from HP.out [.s nm,.n lo] (by simp only [zB,zr,zQ,forall_eq_or_imp,forall_eq];exact ⟨FN.out,FL.out⟩) (Nat.le_of_lt_succ (by simp)))
  rw [HWD.out] at CL
 case' inr.inl =>
  have CL:=aI (show Calls Tryz.prog 86 #[.string wd,.slice (some ⟨W1.heap.size,0,none⟩) 3 3] (W1.alloc (.cells #[.iface 9 (.string nm),.iface 3 (.int .i64 lo),.iface 3 (.int .i64 hi)] 20)) λe w'=>e=.returned (.string ⟨(Sx.lineT (Sx.bs wd::[.s nm,.n lo,.n hi].map Sx.Av.t)).toArray⟩)/\Below W1.heap.size W1 w' from HP.out [.s nm,.n lo,.n hi] (by simp only [zB,zr,zQ,forall_eq_or_imp,forall_eq];exact ⟨FN.out,FL.out,FH.out⟩) (Nat.le_of_lt_succ (by simp)))
  rw [HWD.out] at CL
 case' inr.inr.inl =>
  have CL:=aI (show Calls Tryz.prog 86 #[.string wd,.slice (some ⟨W1.heap.size,0,none⟩) 2 2] (W1.alloc (.cells #[.iface 9 (.string nm),.iface 9 (.string of_)] 20)) λe w'=>e=.returned (.string ⟨(Sx.lineT (Sx.bs wd::[.s nm,.s of_].map Sx.Av.t)).toArray⟩)/\Below W1.heap.size W1 w' from HP.out [.s nm,.s of_] (by simp only [zB,zr,zQ,forall_eq_or_imp,forall_eq];exact ⟨FN.out,FO.out⟩) (Nat.le_of_lt_succ (by simp)))
  rw [HWD.out] at CL
 case' inr.inr.inr.inl =>
  have CL:=aI (show Calls Tryz.prog 86 #[.string wd,.slice (some ⟨W1.heap.size,0,none⟩) 5 5] (W1.alloc (.cells #[.iface 9 (.string nm),.iface 9 (.string up),.iface 9 (.string of_),.iface 3 (.int .i64 lo),.iface 3 (.int .i64 hi)] 20)) λe w'=>e=.returned (.string ⟨(Sx.lineT (Sx.bs wd::[.s nm,.s up,.s of_,.n lo,.n hi].map Sx.Av.t)).toArray⟩)/\Below W1.heap.size W1 w' from HP.out [.s nm,.s up,.s of_,.n lo,.n hi] (by simp only [zB,zr,zQ,forall_eq_or_imp,forall_eq];exact ⟨FN.out,FP.out,FO.out,FL.out,FH.out⟩) (Nat.le_of_lt_succ (by simp)))
  rw [HWD.out] at CL
 case' inr.inr.inr.inr.inl =>
  have CL:=aI (show Calls Tryz.prog 86 #[.string wd,.slice (some ⟨W1.heap.size,0,none⟩) 3 3] (W1.alloc (.cells #[.iface 9 (.string nm),.iface 9 (.string up),.iface 9 (.string of_)] 20)) λe w'=>e=.returned (.string ⟨(Sx.lineT (Sx.bs wd::[.s nm,.s up,.s of_].map Sx.Av.t)).toArray⟩)/\Below W1.heap.size W1 w' from HP.out [.s nm,.s up,.s of_] (by simp only [zB,zr,zQ,forall_eq_or_imp,forall_eq];exact ⟨FN.out,FP.out,FO.out⟩) (Nat.le_of_lt_succ (by simp)))
  rw [HWD.out] at CL
 rotate_right
 .have CN:=aI (λw=>named_any of_ w)
  have CL:=aI (λ(g:Nat) (W:World) (hB:Blk W g 20 #[.iface 9 (.string nm),.iface 9 (.string (Sx.orN of_)),.iface 3 (.int .i64 lo),.iface 3 (.int .i64 hi)]) (hb:Below W1.heap.size W1 W)=>show Calls Tryz.prog 86 #[.string wd,.slice (some ⟨g,0,none⟩) 4 4] W λe w'=>e=.returned (.string ⟨(Sx.lineT (Sx.bs wd::[.s nm,.s (Sx.orN of_),.n lo,.n hi].map Sx.Av.t)).toArray⟩)/\Below W.heap.size W w' from HQ.out [.s nm,.s (Sx.orN of_),.n lo,.n hi] g W (by simp only [zB,zr,zQ,forall_eq_or_imp,forall_eq];exact ⟨FN.out,FR.out,FL.out,FH.out⟩) hB hb (by simp))
  rw [HWD.out] at CL
  clear HP HQ FN FO FP FL FH FR
  rcases hk with rfl | rfl | rfl
  all_goals (
   go_wp2_with fail
   clear c0 c1 c2 c3 c4 c5 c6 c7
   apply zy (C:=λw'=>Below W1.heap.size W1 w') (n:=132) (m:=17) (l1:=[_,_,_,_,_,_,_,_,_,_,_,_,_,_,_,_,_]) (l2:=[]);rfl;rfl;kernel_rfl;rfl;kernel_rfl;exact ⟨rfl,rfl,rfl,ag _,λ_ _=>rfl⟩;exact aR
   (apply aJ;·(intro w' hC hf;clear hf hC;go_wp2_with (fail);apply aO;simp only [zC];exact rfl));(try simp only [zn])
   iterate 5 ((apply aJ;·(intro w' hC hf;have hbk:=HBK.out.below hC HBK.out.lt;obtain ⟨c0,c1⟩:=aN2 hbk.cell;have c4:=hbk.cell 4;have c5:=hbk.cell 5;simp at c0 c1 c4 c5;clear hbk;clear hf hC;go_wp2_with (fail);apply aO;simp only [zC];exact rfl));(try simp only [zn]))
   (apply aJ;·(intro w' hC hf;clear hf hC;go_wp2_with (go_at_call 88;(with_reducible refine (CN.out _).mono ?_);rintro e w2 ⟨rfl,hb2⟩);apply postT_val rfl (by assumption);simp only [zC];exact rfl));(try simp only [zn])
   iterate 7 ((apply aJ;·(intro w' hC hf;have hbk:=HBK.out.below hC HBK.out.lt;obtain ⟨c0,c1⟩:=aN2 hbk.cell;have c4:=hbk.cell 4;have c5:=hbk.cell 5;simp at c0 c1 c4 c5;clear hbk;clear hf hC;go_wp2_with (fail);apply aO;simp only [zC];exact rfl));(try simp only [zn]))
   apply zF (slBlk_kept 4 20 #[.iface 9 (.string nm),.iface 9 (.string (Sx.orN of_)),.iface 3 (.int .i64 lo),.iface 3 (.int .i64 hi)])
   .intro w' hC hf;unfold Gives;clear hf hC;go_wp2_with fail;apply zJ rfl (by go_grown);simp only [zC];exact ⟨_,rfl,zj _ _ _⟩
   intro vsl;(try simp only [zn])
   (apply aJ;·(intro w' hC hf;obtain ⟨g,rfl,hB⟩:=hf.1 rfl;have CQ:=aI (CL.out g w' hB hC);clear hf hC hB;go_wp2_with (go_at_call 86;(with_reducible refine CQ.out.mono ?_);rintro e w2 ⟨rfl,hb2⟩);apply postT_val rfl (by assumption);simp only [zC];exact rfl));(try simp only [zn])
   (apply aJ;·(intro w' hC hf;clear hf hC;go_wp2_with (fail);apply aO;simp only [zC];exact rfl));(try simp only [zn])
   apply wpT_done
   intro w4 hC _
   replace HB:=aT HB hC
   clear hC
   go_wp2_with fail
   go_ret
   refine ⟨?_,HB.out⟩
   show _=Ending.returned (.string ⟨(Sx.lineT [_,_,Sx.orNone of_,_,_]).toArray⟩)
   rw [<-Sx.orN_list];rfl)
 all_goals (
 clear HP HQ FN FO FP FL FH FR
 go_wp2_with (go_at_call 86;(with_reducible refine CL.out.mono ?_);rintro e w2 ⟨rfl,hb2⟩;replace HB:=aT HB hb2;clear hb2)
 go_ret
 exact ⟨rfl,HB.out⟩)
end
end Go.Proofs.YtobcnhmhgoccnaaGreatDoor
