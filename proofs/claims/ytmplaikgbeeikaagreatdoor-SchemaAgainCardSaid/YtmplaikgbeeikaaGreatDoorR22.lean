/- Parts of the proof, joined: SxB2, SxMet. -/
import Derived.Test.YtmplaikgbeeikaaGreatDoorR4
import Derived.Test.YtmplaikgbeeikaaGreatDoorR16
import Derived.Test.YtmplaikgbeeikaaGreatDoorR17
import Derived.Test.YtmplaikgbeeikaaGreatDoorR21
import Derived.Test.YtmplaikgbeeikaaGreatDoorCards
import Derived.Test.YtmplaikgbeeikaaGreatDoorTie
import Derived.WalkLawsBesides
import Derived.Carry
import Derived.ChangeSlices
import Derived.Lib.SmallJoins
import Derived.WalkKit
import Derived.ProofKit
import Derived.OpenShut
import Derived.LaidMore
import Derived.Lay
import Derived.LaidOnce
import Derived.Stop.LaidErr
import Derived.Deep.DeepHandedRow
import Derived.Deep.DeepWitnessRowRef
import Derived.Lib.LaidTab
import Derived.Below
import Derived.ChangeSame
set_option linter.unusedVariables false
set_option linter.unusedSimpArgs false
set_option linter.unusedSectionVars false
namespace Go.Proofs.YtmplaikgbeeikaaGreatDoor
open Go Go.RowKit
theorem spoilt_open (x:Sch) (us:List Value) (w:World) (h:Mem.rep [] w x us) (OB:Sx.OB x) (at_ how by_:Int) (h1:inI at_) (h2:inI how) (h3:inI by_):Calls Tryz.prog 19 #[.agg us.toArray,.int .i64 at_,.int .i64 how,.int .i64 by_] w fun e' w'=>∃ (y:Sch) (A:Option Addr) (c:Nat) (B:Option Addr) (d:Nat) (C:Option Addr) (f nk nl nr:Nat),e'=.returned (.agg #[.int .i64 y.1,.slice A nk c,.slice B nl d,.slice C nr f])∧Mem.rep [] w' y [.int .i64 y.1,.slice A nk c,.slice B nl d,.slice C nr f]∧Sx.Sz y∧Below w.heap.size w w':=by
 refine (spoilt_any x us w h OB at_ how by_ h1 h2 h3).mono ?_
 rintro e' w' ⟨y,us',h1,h2,h3,h4⟩
 obtain ⟨A,c,B,d,C,f,rfl,_⟩:=rep_sch h2
 exact ⟨y,A,c,B,d,C,f,_,_,_,h1,h2,h3,h4⟩
theorem flat_strsB {G:List Nat} {w:World}:∀ {l:List ByteArray},(∀ t∈l,t.size≤9223372036854775807)→Flat G w l (l.map Value.string)
 | [],_=>rfl
 | t::l,h=>⟨[.string t],l.map Value.string,rfl,⟨rfl,h t (.head _)⟩,flat_strsB fun s hs=>h s (.tail _ hs)⟩
structure VS (y:Sch):Prop where
 ob:Sx.OB y
 sz:Sx.Sz y
 ln:(Sx.print y).length≤8192
 pp:Sx.parse (Sx.print y)=(y,0,0)
theorem VS.of {y:Sch} (h:Sx.valid y=0):VS y:=by
 have hk:=Sx.valid_ok h
 have hob:=Sx.okB_bd hk.1
 have hp:Sx.print y=Sx.source y:=by unfold Sx.print;rw [if_pos h]
 exact ⟨hob,hob.sz,by rw [hp];exact hk.2,Sx.parse_print h⟩
set_option maxRecDepth 100000 in
set_option maxHeartbeats 16000000 in
theorem law_again (l m:List Int) (L0 L1:Option Addr) (c c1:Nat) (at_ how by_:Int) (w:World) (he:SEnv w) (hl:SlAt [] w L0 l) (hm:SlAt [] w L1 m) (hc:l.length≤c) (hc2:c≤9223372036854775807) (hd:m.length≤c1) (hd2:c1≤9223372036854775807) (h1:inI at_) (h2:inI how) (h3:inI by_) :
  Calls Tryz.prog 5 #[.slice L0 l.length c,.slice L1 m.length c1,.int .i64 at_,.int .i64 how,.int .i64 by_] w fun e w'=>e=.returned (.bool true)∧Below w.heap.size w w':=by
 have CG:=aI (gsch_any l L0 c w hl hc hc2)
 have HE:=aI he
 have CSO:=aI (fun (x:Sch) (us:List Value) W (h:Mem.rep [] W x us) (OB:Sx.OB x)=>spoilt_open x us W h OB at_ how by_ h1 h2 h3)
 have CSP:=aI (fun (s:ByteArray) (W:World) (hb:Below w.heap.size w W) (hs:s.size≤8192)=>(spaced_any s m L1 c1 W (by omega) (hm.keep (Chg.of_below hb)) (by omega)).mono (fun e w' (h:StrP (s.size*(s.size+4)) W e w')=>(show StrP 100000000 W e w' by
  obtain ⟨t,k1,k2,k3⟩:=h
  exact ⟨t,k1,Nat.le_trans k2 (Nat.le_trans (Nat.mul_le_mul hs (show s.size+4≤8196 by omega)) (by omega)),k3⟩)))
 have CC:=aI (fun (s:ByteArray) W (hs:s.size≤8192)=>changed_any s by_ how at_ W (by omega) h3 h2 h1)
 have CP:=aI (fun (s:ByteArray) (x:Sch) (k e:Int) (W:World) (hb:Below w.heap.size w W) (hs:s.size≤9223372036854775807) (hp:Sx.parse s.data.toList=(x,k,e))=>pparse_open s W hs (he.to hb) hp)
 have CL:=aI (fun (W:World) (hb:Below w.heap.size w W)=>lives_any W (he.to hb))
 have CPR:=aI (fun (y:Sch) (us:List Value) (W:World) (h:Mem.rep [] W y us) (hz:Sx.Sz y) (hb:Below w.heap.size w W)=>print_any y us W h hz (he.to hb))
 have CVA:=aI (fun (y:Sch) (us:List Value) (W:World) (h:Mem.rep [] W y us) (hz:Sx.Sz y) (hb:Below w.heap.size w W)=>valid_any y us W h hz (he.to hb))
 have CSM:=aI (fun (x:Sch) (us vs:List Value) (W:World) (h:Mem.rep [] W x us) (k:Mem.rep [] W x vs) (OB:Sx.OB x)=>rsame_any x us vs W h k OB)
 unfold GSchP at CG
 unfold StrP at CSP CC
 clear he hl hm hc hc2 hd hd2 h1 h2 h3
 generalize l.length=ll at *
 generalize m.length=ml at *
 go_enter Tryz.func5,Tryz.ntmps5
 go_upto_region 2 with (first | (go_at_call 9;((with_reducible refine (CG.out).mono ?_));rintro e w1 ⟨x,A1,k1,B1,d1,C1,f1,nk1,nl1,nr1,rfl,hv,hr,hb⟩;have CS1:=aI (CSO.out x _ w1 hr (VS.of hv).ob);have HB:=aI hb;clear hv hr hb CG) | (go_at_call 19;((with_reducible refine (CS1.out).mono ?_));rintro e w2 ⟨y,A2,c2,B2,d2,C2,f2,nk2,nl2,nr2,rfl,hr,hz,hb⟩;have HR:=aI hr;have HZ:=aI hz;replace HB:=aI (HB.out.trans (hb.mono HB.out.size));clear hr hz hb CS1))
 have HB1:=aI ((Below.refl w2.heap.size w2).alloc (Nat.le_refl _) (.cells #[.int .i64 y.1,.slice A2 nk2 c2,.slice B2 nl2 d2,.slice C2 nr2 f2] 28))
 have KA:=aI (Blk.new w2 28 #[.int .i64 y.1,.slice A2 nk2 c2,.slice B2 nl2 d2,.slice C2 nr2 f2])
 replace HR:=aI (Mem.keep HR.out (Chg.of_below HB1.out))
 replace HB:=aI (HB.out.trans (HB1.out.mono HB.out.size))
 clear HB1
 obtain ⟨N1,hN1⟩:∃ n,w2.heap.size=n:=⟨_,rfl⟩
 generalize w2.alloc (.cells #[.int .i64 y.1,.slice A2 nk2 c2,.slice B2 nl2 d2,.slice C2 nr2 f2] 28)=w3 at *
 rw [hN1] at KA
 (try rw [hN1])
 clear hN1
 have CPR1:=aI (CPR.out y _ w3 HR.out HZ.out HB.out)
 obtain ⟨s,hs⟩:∃ s:ByteArray,(⟨(Sx.print y).toArray⟩:ByteArray)=s:=⟨_,rfl⟩
 have HS:=aI (show s.data.toList=Sx.print y by rw [← hs])
 rw [hs] at CPR1
 have HSE:=aI hs
 clear hs
 have HW:=aI (Below.refl w3.heap.size w3)
 obtain ⟨va,hva⟩:∃ z,Sx.valid y=z:=⟨_,rfl⟩
 have CV1:=aI (fun (W:World) (hb:Below w3.heap.size w3 W)=>CVA.out y _ W (Mem.keep HR.out (Chg.of_below hb)) HZ.out (HB.out.trans (hb.mono HB.out.size)))
 rw [hva] at CV1
 have ka:=KA.out;have z0:=ka.cell 0;have z1:=ka.cell 1;have z2:=ka.cell 2;have z3:=ka.cell 3;simp at z0 z1 z2 z3;clear ka
 go_upto_region 3 with (go_at_call 20;((with_reducible refine (CPR1.out).mono ?_));rintro e w4 ⟨rfl,hb⟩;have KA2:=aI (KA.out.below hb KA.out.lt);replace HW:=aI (HW.out.trans (hb.mono HW.out.size));clear hb z0 z1 z2 z3 KA)
 have ka:=KA2.out;have z0:=ka.cell 0;have z1:=ka.cell 1;have z2:=ka.cell 2;have z3:=ka.cell 3;simp at z0 z1 z2 z3;clear ka
 by_cases hv0:va=0
 ·subst hv0
  have VY:=aI (VS.of hva)
  clear hva
  go_upto_region 5 with (go_at_call 21;((with_reducible refine (CV1.out _ HW.out).mono ?_));rintro e w5 ⟨rfl,hb⟩;have KA:=aI (KA2.out.below hb KA2.out.lt);replace HW:=aI (HW.out.trans (hb.mono HW.out.size));clear hb z0 z1 z2 z3 KA2)
  have hs9:s.size≤8192:=by
   have h1:=VY.out.ln
   rw [← HS.out] at h1
   exact h1
  have hpa:Sx.parse s.data.toList=(y,0,0):=by rw [HS.out];exact VY.out.pp
  have CP1:=aI (CP.out s y 0 0 w5 (HB.out.trans (HW.out.mono HB.out.size)) (by omega) hpa)
  clear hpa CV1 CPR1
  go_upto_region 6 with (go_at_call 13;((with_reducible refine (CP1.out).mono ?_));rintro e w6 ⟨A3,c3,B3,d3,C3,f3,nk3,nl3,nr3,rfl,hr,hb⟩;have HR2:=aI hr;have KA2:=aI (KA.out.below hb KA.out.lt);replace HW:=aI (HW.out.trans (hb.mono HW.out.size));clear hb hr KA CP1)
  have HB1:=aI ((Below.refl w6.heap.size w6).alloc (Nat.le_refl _) (.cells #[.int .i64 y.1,.slice A3 nk3 c3,.slice B3 nl3 d3,.slice C3 nr3 f3] 28))
  have KB:=aI (Blk.new w6 28 #[.int .i64 y.1,.slice A3 nk3 c3,.slice B3 nl3 d3,.slice C3 nr3 f3])
  have KA:=aI (KA2.out.below HB1.out KA2.out.lt)
  replace HR2:=aI (Mem.keep HR2.out (Chg.of_below HB1.out))
  replace HW:=aI (HW.out.trans (HB1.out.mono HW.out.size))
  clear HB1 KA2
  obtain ⟨N2,hN2⟩:∃ n,w6.heap.size=n:=⟨_,rfl⟩
  generalize w6.alloc (.cells #[.int .i64 y.1,.slice A3 nk3 c3,.slice B3 nl3 d3,.slice C3 nr3 f3] 28)=w7 at *
  rw [hN2] at KB
  (try rw [hN2])
  clear hN2
  have CSM1:=aI (CSM.out y _ _ w7 (Mem.keep HR.out (Chg.of_below HW.out)) HR2.out VY.out.ob)
  have ka:=KA.out;have z0:=ka.cell 0;have z1:=ka.cell 1;have z2:=ka.cell 2;have z3:=ka.cell 3;simp at z0 z1 z2 z3;clear ka
  have ka:=KB.out;have y0:=ka.cell 0;have y1:=ka.cell 1;have y2:=ka.cell 2;have y3:=ka.cell 3;simp at y0 y1 y2 y3;clear ka
  go_upto_region 8 with (go_at_call 15;((with_reducible refine (CSM1.out).mono ?_));rintro e w8 ⟨rfl,hb⟩;replace HW:=aI (HW.out.trans (hb.mono HW.out.size));clear hb z0 z1 z2 z3 y0 y1 y2 y3 CSM1 KA KB)
  have HB8:=aI (HB.out.trans (HW.out.mono HB.out.size))
  clear HB HW HR HR2 HZ VY HS HSE
  go_upto_region 9 with (first | (go_at_call 10;((with_reducible refine (CSP.out s _ HB8.out hs9).mono ?_));rintro e w9 ⟨t1,rfl,ht1,hb⟩;replace HB8:=aI (HB8.out.trans (hb.mono HB8.out.size));clear hb CSP) | (go_at_call 11;((with_reducible refine (CC.out s _ hs9).mono ?_));rintro e w10 ⟨t2,rfl,ht2,hb⟩;replace HB8:=aI (HB8.out.trans (hb.mono HB8.out.size));clear hb CC))
  have HSL:=aI (show SlAt [] (w10.alloc (.cells #[.string t1,.string t2] 9)) (some ⟨w10.heap.size,0,none⟩) [t1,t2] from SlAt.of_blk (flat_strsB (l:=[t1,t2]) (fun t ht=>by
   simp only [List.mem_cons,List.not_mem_nil,or_false] at ht
   rcases ht with rfl | rfl <;> omega)) (Blk.new _ _ _) (by simp))
  have HTS:=aI (show ∀ t∈[t1,t2],t.size≤9223372036854775807 from fun t ht=>by
   simp only [List.mem_cons,List.not_mem_nil,or_false] at ht
   rcases ht with rfl | rfl <;> omega)
  replace HB8:=aI (HB8.out.alloc HB8.out.size (.cells #[.string t1,.string t2] 9))
  generalize w10.alloc (.cells #[.string t1,.string t2] 9)=w11 at *
  obtain ⟨Nt,hNt⟩:∃ n,w10.heap.size=n:=⟨_,rfl⟩
  rw [hNt] at HSL ⊢
  obtain ⟨ts,hts⟩:∃ l:List ByteArray,[t1,t2]=l:=⟨_,rfl⟩
  have HTL:=aI (show ts.length=2 by rw [← hts];rfl)
  rw [hts] at HSL HTS
  clear hts hNt ht1 ht2 hs9
  go_wp2_with fail
  go_loopg [17] 2 (fun r i wr=>∃ j:Nat,j+r=2∧i=.int .i64 j∧Below w11.heap.size w11 wr)
  case atStart=>exact ⟨0,by omega,rfl,Below.refl _ _⟩
  case round =>
   obtain ⟨j,hj,rfl,hT⟩:=hrel
   obtain ⟨wo,rfl⟩:∃ wo:World,wo=wr:=⟨_,rfl⟩
   have HW:=aI hT
   clear hT
   have HBO:=aI (HB8.out.trans (HW.out.mono HB8.out.size))
   by_cases hlt:j < 2
   ·have hjp:j < ts.length:=by rw [HTL.out];exact hlt
    have j0:(0:Int)≤(j:Int):=Int.natCast_nonneg _
    have j1:(j:Int) < 2:=by omega
    obtain ⟨b,o,hA,_,d0,_⟩:=str_at (HSL.out.keep (Chg.of_below HW.out)) j hjp
    injection hA with hA
    injection hA with hA1 hA2 _
    subst hA1 hA2
    have hsz:=HTS.out _ (List.getElem_mem hjp)
    obtain ⟨t,ht⟩:∃ t,ts[j]=t:=⟨_,rfl⟩
    rw [ht] at d0 hsz
    rw [Nat.zero_add] at d0
    clear ht
    obtain ⟨z,k,e,hpr⟩:∃ y k e,Sx.parse t.data.toList=(y,k,e):=⟨_,_,_,rfl⟩
    have CP1:=aI (CP.out t z k e wo HBO.out hsz hpr)
    by_cases he0:e=0
    ·subst he0
     obtain ⟨hvz,hk0⟩:=Sx.parse_valid hpr
     subst hk0
     have VZ:=aI (VS.of hvz)
     have HVZ:=aI hvz
     clear hpr hsz hvz
     go_upto_region 14 with (go_at_call 13;((with_reducible refine (CP1.out).mono ?_));rintro e w12 ⟨A4,c4,B4,d4,C4,f4,nk4,nl4,nr4,rfl,hr,hb⟩;have HR:=aI hr;replace HW:=aI (HW.out.trans (hb.mono HW.out.size));clear hb hr CP1 d0)
     have HB1:=aI ((Below.refl w12.heap.size w12).alloc (Nat.le_refl _) (.cells #[.int .i64 z.1,.slice A4 nk4 c4,.slice B4 nl4 d4,.slice C4 nr4 f4] 28))
     have KA:=aI (Blk.new w12 28 #[.int .i64 z.1,.slice A4 nk4 c4,.slice B4 nl4 d4,.slice C4 nr4 f4])
     replace HR:=aI (Mem.keep HR.out (Chg.of_below HB1.out))
     replace HW:=aI (HW.out.trans (HB1.out.mono HW.out.size))
     clear HB1
     obtain ⟨N3,hN3⟩:∃ n,w12.heap.size=n:=⟨_,rfl⟩
     generalize w12.alloc (.cells #[.int .i64 z.1,.slice A4 nk4 c4,.slice B4 nl4 d4,.slice C4 nr4 f4] 28)=w13 at *
     rw [hN3] at KA
     (try rw [hN3])
     clear hN3
     have CPR1:=aI (CPR.out z _ w13 HR.out VZ.out.sz (HB8.out.trans (HW.out.mono HB8.out.size)))
     obtain ⟨s2,hs2⟩:∃ s:ByteArray,(⟨(Sx.print z).toArray⟩:ByteArray)=s:=⟨_,rfl⟩
     have HS2:=aI hs2
     have hpa:Sx.parse s2.data.toList=(z,0,0):=by rw [← hs2];exact VZ.out.pp
     have hs28:s2.size≤9223372036854775807:=by
      have h1:=VZ.out.ln
      have h2:s2.size=(Sx.print z).length:=by rw [← hs2];exact List.size_toArray
      omega
     rw [hs2] at CPR1
     clear hs2
     have HX:=aI (Below.refl w13.heap.size w13)
     have ka:=KA.out;have z0:=ka.cell 0;have z1:=ka.cell 1;have z2:=ka.cell 2;have z3:=ka.cell 3;simp at z0 z1 z2 z3;clear ka
     go_upto_region 15 with (go_at_call 20;((with_reducible refine (CPR1.out).mono ?_));rintro e w14 ⟨rfl,hb⟩;have KA2:=aI (KA.out.below hb KA.out.lt);replace HX:=aI (HX.out.trans (hb.mono HX.out.size));clear hb z0 z1 z2 z3 KA CPR1)
     have CP2:=aI (CP.out s2 z 0 0 w14 (HB8.out.trans ((HW.out.trans (HX.out.mono HW.out.size)).mono HB8.out.size)) hs28 hpa)
     clear hpa hs28
     go_upto_region 16 with (go_at_call 13;((with_reducible refine (CP2.out).mono ?_));rintro e w15 ⟨A5,c5,B5,d5,C5,f5,nk5,nl5,nr5,rfl,hr,hb⟩;have HR2:=aI hr;have KA:=aI (KA2.out.below hb KA2.out.lt);replace HX:=aI (HX.out.trans (hb.mono HX.out.size));clear hb hr KA2 CP2)
     have HB1:=aI ((Below.refl w15.heap.size w15).alloc (Nat.le_refl _) (.cells #[.int .i64 z.1,.slice A5 nk5 c5,.slice B5 nl5 d5,.slice C5 nr5 f5] 28))
     have KB:=aI (Blk.new w15 28 #[.int .i64 z.1,.slice A5 nk5 c5,.slice B5 nl5 d5,.slice C5 nr5 f5])
     have KA2:=aI (KA.out.below HB1.out KA.out.lt)
     replace HR2:=aI (Mem.keep HR2.out (Chg.of_below HB1.out))
     replace HX:=aI (HX.out.trans (HB1.out.mono HX.out.size))
     clear HB1 KA
     obtain ⟨N4,hN4⟩:∃ n,w15.heap.size=n:=⟨_,rfl⟩
     generalize w15.alloc (.cells #[.int .i64 z.1,.slice A5 nk5 c5,.slice B5 nl5 d5,.slice C5 nr5 f5] 28)=w16 at *
     rw [hN4] at KB
     (try rw [hN4])
     clear hN4
     have HBX:=aI (HB8.out.trans ((HW.out.trans (HX.out.mono HW.out.size)).mono HB8.out.size))
     have HRZ:=aI (Mem.keep HR.out (Chg.of_below HX.out))
     have HY:=aI (Below.refl w16.heap.size w16)
     have CV2:=aI (CVA.out z _ w16 HRZ.out VZ.out.sz HBX.out)
     rw [HVZ.out] at CV2
     have CSM2:=aI (fun (W:World) (hb:Below w16.heap.size w16 W)=>CSM.out z _ _ W (Mem.keep HR2.out (Chg.of_below hb)) (Mem.keep HRZ.out (Chg.of_below hb)) VZ.out.ob)
     have CPR2:=aI (fun (W:World) (hb:Below w16.heap.size w16 W)=>CPR.out z _ W (Mem.keep HR2.out (Chg.of_below hb)) VZ.out.sz (HBX.out.trans (hb.mono HBX.out.size)))
     rw [HS2.out] at CPR2
     have ka:=KA2.out;have z0:=ka.cell 0;have z1:=ka.cell 1;have z2:=ka.cell 2;have z3:=ka.cell 3;simp at z0 z1 z2 z3;clear ka
     have ka:=KB.out;have y0:=ka.cell 0;have y1:=ka.cell 1;have y2:=ka.cell 2;have y3:=ka.cell 3;simp at y0 y1 y2 y3;clear ka
     have KEEP:=aI (fun (W:World) (hb:Below w16.heap.size w16 W)=>And.intro (KA2.out.below hb KA2.out.lt) (KB.out.below hb KB.out.lt))
     clear KA2 KB HR HR2
     go_wp2_with (first | (go_at_call 21;((with_reducible refine (CV2.out).mono ?_));rintro e w17 ⟨rfl,hb⟩;replace HY:=aI (HY.out.trans (hb.mono HY.out.size));clear hb z0 z1 z2 z3 y0 y1 y2 y3;have ka:=(KEEP.out _ HY.out).1;have z0:=ka.cell 0;have z1:=ka.cell 1;have z2:=ka.cell 2;have z3:=ka.cell 3;simp at z0 z1 z2 z3;clear ka;have ka:=(KEEP.out _ HY.out).2;have y0:=ka.cell 0;have y1:=ka.cell 1;have y2:=ka.cell 2;have y3:=ka.cell 3;simp at y0 y1 y2 y3;clear ka) | (go_at_call 15;((with_reducible refine (CSM2.out _ HY.out).mono ?_));rintro e w18 ⟨rfl,hb⟩;replace HY:=aI (HY.out.trans (hb.mono HY.out.size));clear hb z0 z1 z2 z3 y0 y1 y2 y3;have ka:=(KEEP.out _ HY.out).2;have y0:=ka.cell 0;have y1:=ka.cell 1;have y2:=ka.cell 2;have y3:=ka.cell 3;simp at y0 y1 y2 y3;clear ka) | (go_at_call 20;((with_reducible refine (CPR2.out _ HY.out).mono ?_));rintro e w19 ⟨rfl,hb⟩;replace HY:=aI (HY.out.trans (hb.mono HY.out.size));clear hb y0 y1 y2 y3))
     go_roundg (gk - 1)
     case measure=>omega
     case rel=>exact ⟨j+1,by omega,by go_num,(HW.out.trans (HX.out.mono HW.out.size)).trans (HY.out.mono (HW.out.trans (HX.out.mono HW.out.size)).size)⟩
    ·have q1:(e == 0)=false:=by simpa using he0
     have q2:(e != 0)=true:=by simpa using he0
     clear hpr hsz he0
     go_wp2_with (go_at_call 13;((with_reducible refine (CP1.out).mono ?_));rintro e w12 ⟨A4,c4,B4,d4,C4,f4,nk4,nl4,nr4,rfl,_,hb⟩;replace HW:=aI (HW.out.trans (hb.mono HW.out.size));clear hb)
     replace HW:=aI (HW.out.alloc HW.out.size (.cells #[.int .i64 z.1,.slice A4 nk4 c4,.slice B4 nl4 d4,.slice C4 nr4 f4] 28))
     go_roundg (gk - 1)
     case measure=>omega
     case rel=>exact ⟨j+1,by omega,by go_num,HW.out⟩
   ·have j1:¬ (j:Int) < 2:=by omega
    have CLE:=aI (CL.out wo HBO.out)
    go_wp2_with (go_at_call 16;((with_reducible refine (CLE.out).mono ?_));rintro e w12 ⟨rfl,hb⟩;replace HBO:=aI (HBO.out.trans (hb.mono HBO.out.size));clear hb)
    go_ret
    exact ⟨rfl,HBO.out⟩
 ·have q2:(va != 0)=true:=by simpa using hv0
  have hse:s=⟨#[]⟩:=by
   rw [← HSE.out]
   have:Sx.print y=[]:=by unfold Sx.print;rw [if_neg (by rw [hva];exact hv0)]
   rw [this]
  clear hva hv0 HSE HS
  subst hse
  go_upto_region 4 with (go_at_call 21;((with_reducible refine (CV1.out _ HW.out).mono ?_));rintro e w5 ⟨rfl,hb⟩;replace HW:=aI (HW.out.trans (hb.mono HW.out.size));clear hb z0 z1 z2 z3)
  have HBO:=aI (HB.out.trans (HW.out.mono HB.out.size))
  have CLE:=aI (CL.out w5 HBO.out)
  go_wp2_with (go_at_call 16;((with_reducible refine (CLE.out).mono ?_));rintro e w12 ⟨rfl,hb⟩;replace HBO:=aI (HBO.out.trans (hb.mono HBO.out.size));clear hb)
  go_ret
  exact ⟨rfl,HBO.out⟩
end Go.Proofs.YtmplaikgbeeikaaGreatDoor
namespace Go.Proofs.YtmplaikgbeeikaaGreatDoor
open Go Go.RowKit
open Go Go.ChangeShapes Go.WideShapes Go.ChangeAt Go.RowKit
theorem own:ownKnob Tryz.prog.godebug=none:=by kernel_rfl
theorem gPowS : Tryz.prog.globalNamed "internal/strconv.uint64pow10" = some 5 := by kernel_rfl
theorem gB64S : Tryz.prog.globalNamed "math/bits.deBruijn64tab" = some 8 := by kernel_rfl
theorem gWordsS : Tryz.prog.globalNamed "diorama/schema.words" = some 0 := by kernel_rfl
theorem tPow:(Tryz.prog.globals[5]?).map (·.type)=some 213:=by kernel_rfl
theorem tWords:(Tryz.prog.globals[0]?).map (·.type)=some 129:=by kernel_rfl
theorem tSyn:(Tryz.prog.globals[1]?).map (·.type)=some 124:=by kernel_rfl
theorem tRng:(Tryz.prog.globals[2]?).map (·.type)=some 124:=by kernel_rfl
theorem rowErr (u : TypeId) (h : Tryz.prog.typeName? 3 u = some "*errors.errorString") : u = 196 :=
 typeName_ptr_named (nm := "errors.errorString") (by rw [show ("*" ++ "errors.errorString" : String) = "*errors.errorString" from by decide]; kernel_rfl) (by kernel_rfl) (by decide) u (by rw [show ("*" ++ "errors.errorString" : String) = "*errors.errorString" from by decide]; exact h)
abbrev laidAll:List (String × DataW Unit):=Rows.schemaBeginningsRow.laid
theorem cells_of_strs {H:Type} {enc:TypeId × Value→H} {P:Program} {w:World} {base:Nat} {sp:Nat→Bool} {held:Bool} {fuel:Nat} {t e:TypeId} {n:Nat} {cs:List Value} {zs:List (List UInt8)} {p:List MemPlace}
  (ht:P.underlying t=some (.array n e)) (he:P.underlying e=some .string) (hce:P.cellsOf e=1) (hct:P.cellsOf t=n)
  (h:DataW.trod enc P w base sp held fuel t cs=some (.agg (zs.map fun z=>.lit (.string z)),p)):cs=zs.map fun z=>Value.string (Sx.ofT z):=by
 cases fuel with
 | zero=>simp [DataW.trod] at h
 | succ fuel =>
  simp only [DataW.trod,ht,hce,hct,Nat.mul_one] at h
  split at h
  ·rename_i hl
   obtain ⟨xs,hm,hx⟩:=Option.map_eq_some_iff.1 h
   have hxs:xs.map (·.1)=zs.map fun z=>(DataW.lit (.string z):DataW H):=by
    have:=congrArg Prod.fst hx
    simpa using this
   have hxl:xs.length=n:=by simpa using Lib.mapM_length hm
   have hzl:zs.length=n:=by
    have:=congrArg List.length hxs
    simp at this
    omega
   apply List.ext_getElem?
   intro i
   by_cases hi:i < n
   ·obtain ⟨b,hb,hf⟩:=Lib.mapM_at hm i i (by simp [hi])
    obtain ⟨z,hc,rfl,_⟩:=DataW.trod_string he hf
    have h1:cs[i]?=some (.string z):=by
     have:=congrArg (·[0]?) hc
     simpa [List.getElem?_take,List.getElem?_drop] using this
    have h2:(xs.map (·.1))[i]?=some (DataW.lit (.string z.data.toList):DataW H):=by simp [hb]
    rw [hxs] at h2
    simp only [List.getElem?_map,Option.map_eq_some_iff,DataW.lit.injEq,Lit.string.injEq] at h2
    obtain ⟨z',hz',h3⟩:=h2
    rw [h1,List.getElem?_map,hz']
    have:Sx.ofT z'=z:=by rw [h3];unfold Sx.ofT;simp
    rw [← this];rfl
   ·rw [List.getElem?_eq_none (by omega),List.getElem?_eq_none (by simp;omega)]
  ·cases h
theorem size_of_var {P:Program} {w:World} {n:String} {g:Nat} {cs:Array Value} (hg:P.globalNamed n=some g) (h:w.var? P n=some cs):g < w.heap.size:=by
 unfold World.var? at h
 rw [hg] at h
 rcases Nat.lt_or_ge g w.heap.size with h' | h'
 ·exact h'
 ·simp [Array.getElem?_eq_none h'] at h
theorem senv_of_laid {W:World} (hL:laidMetH Tryz.prog laidAll W):SEnv W:=by
 have h:laidMet Tryz.prog laidAll W:=hL
 have h2:=h.tail
 have h3:=h2.tail
 have h4:=h3.tail
 have h5:=h4.tail
 have h6:=h5.tail
 have h7:=h6.tail
 obtain ⟨a1,s1,hv1,_⟩:=laid_sentinel h5 gRng tRng Tryz.underlying124 rowErr Tryz.underlying196 Tryz.underlying198 rfl rfl Tryz.underlying9 (by kernel_rfl) (by kernel_rfl)
 obtain ⟨a0,s0,hv0,_⟩:=laid_sentinel h6 gSyn tSyn Tryz.underlying124 rowErr Tryz.underlying196 Tryz.underlying198 rfl rfl Tryz.underlying9 (by kernel_rfl) (by kernel_rfl)
 have hT : Lib.TabIs Tryz.prog W "internal/strconv.uint64pow10" .u64 Lib.pow10Tab := Lib.tabIs_of_head gPowS tPow Tryz.underlying213 Tryz.underlying183 (by kernel_rfl) (by kernel_rfl) h3
 have hp:5 < W.heap.size:=by
  unfold Lib.TabIs at hT
  exact size_of_var gPowS hT
 obtain ⟨_,⟨g4,t4,cs,_,_,_,hg4,ht4,hv4,hd,_⟩,_⟩:=h7
 obtain rfl:=Option.some.inj (gWordsS.symm.trans hg4)
 obtain rfl:=Option.some.inj (tWords.symm.trans ht4)
 have hcs:=cells_of_strs (zs:=Sx.wordsL) Tryz.underlying129 Tryz.underlying9 (by kernel_rfl) (by kernel_rfl) hd
 have hs:=size_of_var gSyn hv0
 have hr:=size_of_var gRng hv1
 have hw:=size_of_var gWordsS hv4
 refine ⟨⟨hT,hp⟩,⟨_,_,hv0⟩,⟨_,_,hv1⟩,fun k hk=>?_,?_⟩
 ·rw [World.var?_cell gWordsS hv4 k,← Array.getElem?_toList,hcs]
  rw [List.getElem?_map,List.getElem?_eq_getElem (show k < Sx.wordsL.length from hk)]
  unfold wdS
  rw [List.getD_eq_getElem?_getD,List.getElem?_eq_getElem (show k < Sx.wordsL.length from hk)]
  rfl
 ·obtain ⟨_,⟨g5,_,_,_,_,_,hg5,_,hv5,_⟩,_⟩:=h2
  obtain rfl:=Option.some.inj (gB64S.symm.trans hg5)
  exact Nat.lt_of_le_of_lt (by decide) (size_of_var gB64S hv5)
theorem laid_met (os:Os) (args:Array Value):laidMet Tryz.prog laidAll ((World.laidAll Tryz.prog os laidAll).forCall (fun _ _=>0) ⟨#[],args,[]⟩).memory :=
 laidMet_laidAll args (by kernel_rfl) (by kernel_rfl)
section
variable {H:Type} {enc:TypeId × Value→H} {P:Program}
theorem post_low {f:Func} {s:ChangeSpec} {apart fresh handsOn again:Bool} {W W':World} {args:Array Value} {v:Value} {ds gs:List (DataW H)} {before:List MemPlace}
  (hW:DataW.Whole enc P f.params.toList s.vars apart W args.toList ds gs before) (hb:Below W.heap.size W W')
  (hres:∀ (b:Nat) (sp:Nat→Bool) (hd:Bool),DataW.TrodAll enc P W' b sp hd f.resultTypes.toList (v.resultList f.resultTypes.size) (s.fn H (ds++gs)).results [])
  (hargs:∀ sp:Nat→Bool,(∀ p∈before,sp p.block=true)→DataW.TrodAll enc P W' 0 sp true f.params.toList args.toList (s.fn H (ds++gs)).args before)
  (hvars:∀ sp:Nat→Bool,DataW.TrodVars enc P W' sp s.vars (s.fn H (ds++gs)).vars [])
  (hok:∀ (j:Nat) (t:TypeId) (r:Value),f.resultTypes[j]?=some t→(v.resultList f.resultTypes.size)[j]?=some r→Value.okWide P W' .any 0 t r) :
  s.post enc P f apart fresh handsOn again W args v W':=by
 have hold:∀ p∈before,(fun b=>decide (b < W.heap.size)) p.block=true:=fun p hp=>decide_eq_true (hW.lt p hp)
 have hz2:=hW
 obtain ⟨_,_,_,_,_,hz,hn⟩:=hz2
 have hwhole:DataW.TrodAll enc P W' 0 (fun _=>true) true f.params.toList args.toList (s.fn H (ds++gs)).args before:=hargs _ (fun _ _=>rfl)
 refine ⟨ds,gs,before,[],before,[],hW,hres _ _ _,hargs _ hold,hvars _,World.keptBut_mono (fun p hp=>⟨hp,.inr (.inl hp)⟩) (hb.frame (·∈before)),fun _=>?_⟩
 refine ⟨hok,_,_,([]++before)++[],⟨[]++before,[],trodAll_append hwhole (hres _ _ _),hvars _,rfl,?_,?_⟩,?_⟩
 ·intro b off hp
  have hin:MemPlace.cell b off∈before:=by simpa using hp
  rw [hb.frozen (hW.lt _ hin)]
  exact hz b off hin
 ·intro ha
  have:=hn ha
  simpa using this
 ·intro p hp _
  simpa using hp
end
theorem laidOut:laidOutB Tryz.prog=true:=by kernel_rfl
section
variable {H:Type} {enc:TypeId × Value→H} {P:Program}
theorem trodAll_stays (hl:laidOutB P=true) {W W':World} {sp:Nat→Bool}:∀ (ts:List TypeId) (vs:List Value) (ds:List (DataW H)) (ps:List MemPlace),
  (ts.all fun t=>P.readableRec t && decide (t < P.types.size))=true→DataW.TrodAll enc P W 0 (fun _=>true) true ts vs ds ps→(∀ p∈ps,W.sameAt W' p)→(∀ p∈ps,sp p.block=true)→DataW.TrodAll enc P W' 0 sp true ts vs ds ps
 | [],vs,ds,ps,_,h,_,_=>by
  match vs,ds,h with
  | [],[],h=>exact h
 | t::ts,vs,ds,ps,ht,h,hs,hp=>by
  obtain ⟨v,vs',d,ds',p,q,rfl,rfl,rfl,h1,h2⟩:=trodAll_cons h
  simp only [List.all_cons,Bool.and_eq_true,decide_eq_true_eq] at ht
  exact trodAll_cons_mk (WideElems.Trod_stays hl ht.1.1 ht.1.2 h1 (fun x hx=>hs x (List.mem_append_left _ hx)) (fun x hx=>hp x (List.mem_append_left _ hx)))
   (trodAll_stays hl ts vs' ds' q ht.2 h2 (fun x hx=>hs x (List.mem_append_right _ hx)) (fun x hx=>hp x (List.mem_append_right _ hx)))
theorem post_law {f:Func} {s:ChangeSpec} {apart fresh handsOn again:Bool} {W W':World} {args:Array Value} {ds:List (DataW H)} {before:List MemPlace} {tb:TypeId}
  (hl:laidOutB P=true) (hts:(f.params.toList.all fun t=>P.readableRec t && decide (t < P.types.size))=true) (hr:f.resultTypes=#[tb]) (htb:P.underlying tb=some .bool)
  (hW:DataW.Whole enc P f.params.toList s.vars apart W args.toList ds [] before) (hb:Below W.heap.size W W') (hv:s.vars=[])
  (hs:s.fn H ds={ results:=[.lit (.bool true)],args:=ds }):s.post enc P f apart fresh handsOn again W args (.bool true) W':=by
 have hW0:=hW
 obtain ⟨p,q,hA,hV,hpq,hz,hn⟩:=hW
 have hq:q=[]:=by rw [hv] at hV;exact (trodVars_none hV).2
 have hA':DataW.TrodAll enc P W 0 (fun _=>true) true f.params.toList args.toList ds before:=by
  have e:before=p:=by rw [hpq,hq,List.append_nil]
  rw [e];exact hA
 refine post_low hW0 hb ?_ ?_ ?_ (ok_one hr rfl (okWide_bool_mk htb _))
 ·intro b sp hd
  rw [List.append_nil,hs]
  show DataW.TrodAll enc P W' b sp hd f.resultTypes.toList ((Value.bool true).resultList f.resultTypes.size) [.lit (.bool true)] []
  rw [hr]
  exact trodAll_cons_mk (shut_bool htb _) trodAll_mk0
 ·intro sp hsp
  rw [List.append_nil,hs]
  exact trodAll_stays hl _ _ _ _ hts hA' (fun x hx=>hb.same (hW0.lt x hx)) hsp
 ·intro sp
  rw [List.append_nil,hs,hv]
  rfl
end
theorem inI_of_wf {x:Int} (h:(Lit.int .i64 x).wf=true):inI x:=by
 have h2:-9223372036854775808≤x∧x≤9223372036854775807:=by
  simp [Lit.wf,IntKind.min,IntKind.max,IntKind.signed,IntKind.bits] at h
  omega
 exact h2
section
variable {H:Type} {enc:TypeId × Value→H} {P:Program} {W:World} {t e:TypeId} {v:Value} {d:DataW H} {ps:List MemPlace} {b0:Nat}
theorem arg_int (ht:P.underlying t=some (.int .i64)) (hv:Value.okWide P W .any b0 t v) (h:DataW.Trod enc P W 0 (fun _=>true) true t v d ps):∃ a,v=.int .i64 a∧inI a:=by
 obtain ⟨a,rfl,_,_,hw⟩:=open_int ht hv h
 exact ⟨a,rfl,inI_of_wf hw⟩
theorem arg_ints (ht:P.underlying t=some (.slice e)) (he:P.underlying e=some (.int .i64)) (hc:P.cellsOf e=1) (hv:Value.okWide P W .any b0 t v)
  (h:DataW.Trod enc P W 0 (fun _=>true) true t v d ps) (hlt:∀ p∈ps,p.block < W.heap.size):∃ A n c L,v=.slice A n c∧Ints W W.heap.size A n L∧AllI L∧n≤9223372036854775807:=by
 obtain ⟨A,n,c,rfl⟩:=okWide_slice ht hv
 obtain ⟨fuel,hf⟩:=h
 rcases open_ints ht he hc hf with ⟨hcs,_⟩ | ⟨a,len,cap,zs,hcs,_,hl,hm,hz,hx,hcell,hw⟩
 ·simp [Value.cells] at hcs
  obtain ⟨rfl,rfl,rfl⟩:=hcs
  exact ⟨none,0,0,[],rfl,Ints.nil,fun _ h=>(by cases h),by omega⟩
 ·simp [Value.cells] at hcs
  obtain ⟨rfl,rfl,rfl⟩:=hcs
  simp only [Prod.mk.injEq] at hx
  obtain ⟨rfl,rfl⟩:=hx
  simp only [if_true] at hz
  have hL:(zs.take n).length=n:=by rw [List.length_take];omega
  refine ⟨some a,n,c,zs.take n,rfl,⟨by simp [intVals];omega,fun hn=>⟨a,rfl,hlt (.cell a.block a.off) (MemPlace.mem_row.2 ⟨0,by omega,by simp⟩),fun j u hu=>?_⟩⟩,fun x hx=>inI_of_wf (hw x (List.mem_of_mem_take hx)),by unfold maxLen at hm;omega⟩
  have hj:j < n:=by
   have:=(List.getElem?_eq_some_iff.1 hu).1
   simp [intVals] at this;omega
  rw [intVals_get (by omega)] at hu
  obtain rfl:=Option.some.inj hu
  rw [hcell j (by omega)]
  simp [List.getD,hj]
end
theorem ints_sl {W:World} {A:Option Addr} {n:Nat} {L:List Int} (h:Ints W W.heap.size A n L) (hL:AllI L):SlAt [] W A L:=by
 rcases Nat.eq_zero_or_pos n with hn | hn
 ·have:=h.len
  rw [hn] at this
  exact .inl (List.eq_nil_of_length_eq_zero this)
 ·obtain ⟨b,off,rfl,hb,hc⟩:=h.form hn
  refine .inr ⟨b,off,rfl,hb,(fun h=>by cases h),fun i hi=>⟨[.int .i64 L[i]],⟨rfl,hL _ (List.getElem_mem hi)⟩,fun j u hu=>?_⟩⟩
  match j,hu with
  | 0,hu =>
   obtain rfl:=Option.some.inj hu
   have:=hc i hi
   rw [show i*Mem.sz Int+0=i from Nat.mul_one i,this]
   simp [List.getD,List.getElem?_eq_getElem hi]
theorem arg_sl {H:Type} {enc:TypeId × Value→H} {P:Program} {W:World} {t e:TypeId} {v:Value} {d:DataW H} {ps:List MemPlace} {b0:Nat} (ht:P.underlying t=some (.slice e)) (he:P.underlying e=some (.int .i64)) (hc:P.cellsOf e=1) (hv:Value.okWide P W .any b0 t v)
  (h:DataW.Trod enc P W 0 (fun _=>true) true t v d ps) (hlt:∀ p∈ps,p.block < W.heap.size):∃ (A:Option Addr) (c:Nat) (L:List Int),v=.slice A L.length c∧SlAt [] W A L∧L.length≤c∧c≤9223372036854775807:=by
 obtain ⟨A,n,c,L,rfl,hI,hA,hn⟩:=arg_ints ht he hc hv h hlt
 have hb:n≤c∧c≤9223372036854775807:=by
  obtain ⟨fuel,hf⟩:=h
  rcases open_ints ht he hc hf with ⟨hcs,_⟩ | ⟨a,len,cap,zs,hcs,_,hl,hm,_⟩
  ·simp [Value.cells] at hcs
   omega
  ·simp [Value.cells] at hcs
   unfold maxLen at hm
   omega
 exact ⟨A,c,L,by rw [hI.len],ints_sl hI hA,by rw [hI.len];exact hb.1,hb.2⟩
end Go.Proofs.YtmplaikgbeeikaaGreatDoor
