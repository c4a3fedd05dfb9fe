/- Parts of the proof, joined: W37, M11, SxLaw3, SxLaw4, SxLaw6, SxGen, SxNx, SxP0, SxP1, SxP2, SxW10, SxP3, SxP4, SxP5, SxP6, SxP7. -/
import Derived.Test.YtmplaikgbeeikaaGreatDoorS3
import Derived.Test.YtmplaikgbeeikaaGreatDoorS6
import Derived.Deep.RegionHeld3
set_option maxRecDepth 100000
set_option maxHeartbeats 100000000
set_option linter.unusedVariables false
set_option linter.unusedSimpArgs false
set_option linter.unusedSectionVars false
namespace Go.Proofs.YtmplaikgbeeikaaGreatDoor
open Go Go.RowKit
section
namespace Sg
def bmost:ByteArray:=⟨#[109,111,115,116]⟩
def bleast:ByteArray:=⟨#[108,101,97,115,116]⟩
inductive Rule (k:Knd):Rul->Bool->Prop
 | none:Sc.ix (Sc.named bsz) (Sc.flds k) < 0->Rule k (be,be,be,be,0) false
 | low (z:Int):0<=Sc.ix (Sc.named blow) (Sc.flds k)->0<=z->z<=7->Rule k (border++k.1.extract 0 1,k.1,blow,bhigh,z - 2) true
 | most (i:Nat) (h:i < (Sc.flds k).length) (z:Int):Sc.ix (Sc.named bsz) (Sc.flds k)=i->0<=z->z<=11->Rule k (bmost++k.1.extract 0 1,k.1,bsz,be,Sc.lo (Sc.flds k)[i]+z) true
 | least (i:Nat) (h:i < (Sc.flds k).length) (z:Int):Sc.ix (Sc.named bsz) (Sc.flds k)=i->0<=z->z<=11->Rule k (bleast++k.1.extract 0 1,k.1,be,bsz,z - Sc.hi (Sc.flds k)[i]) true
end Sg
def rulCells (r:Rul):Array Value:=#[.string r.1,.string r.2.1,.string r.2.2.1,.string r.2.2.2.1,.int .i64 r.2.2.2.2]
def RuleP (K:MkK) (bx:List Box) (rs:List Rw) (L:List (List Nat->World->Prop)) (k:Knd) (e:Ending) (w':World):Prop :=
 ∃ r b M',e=.returned (.tuple #[.agg (rulCells r),.bool b])/\Sg.Rule k r b/\MkH K M' bx rs L w'
theorem grule_any {K:MkK} {M:List Nat} {bx:List Box} {rs:List Rw} {L:List (List Nat->World->Prop)} {W:World} {k:Knd} {A:Option Addr} {c:Nat} (h:MkH K M bx rs L W) (hs:SlAt M W A (Sc.flds k)) (hm:(Sc.flds k).length<=20) (hn1:1<=k.1.size) (hn2:k.1.size<=20) (hbd:∀ f∈Sc.flds k,-1000<=Sc.lo f/\Sc.lo f<=1000/\-1000<=Sc.hi f/\Sc.hi f<=1000) :
  Calls Tryz.prog 28 #[K.p,.agg #[.string k.1,.int .i64 k.2.1,.int .i64 k.2.2.1,.slice A (Sc.flds k).length c]] W (RuleP K bx rs L k):=by
 obtain ⟨nm,hnm⟩:=aX k.1
 obtain ⟨n,hn⟩:=aX ((Sc.flds k).length)
 obtain ⟨lo,hlo⟩:=aX k.2.1
 obtain ⟨hi,hhi⟩:=aX k.2.2.1
 rw [hnm,hn,hlo,hhi]
 have h0:=(h.add (keeps_sl A (Sc.flds k)) hs)
 have h1:=((h0.new #[.string nm,.int .i64 lo,.int .i64 hi,.slice A n c] 49 rfl).new (N:=W.heap.size+1) #[.string ⟨#[]⟩,.string ⟨#[]⟩,.string ⟨#[]⟩,.string ⟨#[]⟩,.int .i64 0] 58 (by simp))
 obtain ⟨W0,hW0⟩:=aX ((W.alloc (.cells #[.string nm,.int .i64 lo,.int .i64 hi,.slice A n c] 49)).alloc (.cells #[.string ⟨#[]⟩,.string ⟨#[]⟩,.string ⟨#[]⟩,.string ⟨#[]⟩,.int .i64 0] 58))
 rw [hW0] at h1
 have hs0:=h1.fact (.head _)
 have H:=aI h1
 have q:=h1.box (.tail _ (.head _));have q3:=q.cell 3;(simp at q3);clear q h1
 have CL0:=fun w' (hb:Below W0.heap.size W0 w')=>has_any (Sc.flds k) A c Sg.blow w' (hs0.keep (Chg.of_below hb)) (by omega)
 have CS0:=fun w' (hb:Below W0.heap.size W0 w')=>has_any (Sc.flds k) A c Sg.bsz w' (hs0.keep (Chg.of_below hb)) (by omega)
 rw [hn] at CL0 CS0
 obtain ⟨il,hil⟩:=aX (Sc.ix (Sc.named Sg.blow) (Sc.flds k))
 obtain ⟨is,his⟩:=aX (Sc.ix (Sc.named Sg.bsz) (Sc.flds k))
 rw [hil] at CL0
 rw [his] at CS0
 have CL:=aI CL0;have CS:=aI CS0;have HIL:=aI hil;have HIS:=aI his;have HBD:=aI hbd;have HN:=aI hn;have HNM:=aI hnm
 rw [hnm] at hn1 hn2
 rw [hn] at hm
 clear hs0 CL0 CS0 hil his hbd hn hnm h0 h hs hlo hhi
 go_enter Tryz.func28,Tryz.ntmps28
 go_wp2_with fail
 generalize W.heap.size+1=rb at H ⊢
 generalize W.heap.size=kb at H ⊢
 clear hW0
 go_at_call 72
 refine (CL.out _ (Below.refl _ _)).mono ?_
 rintro e w3 ⟨rfl,hb⟩
 replace H:=aI (H.out.below hb)
 have HB3:=aI hb
 clear hb q3
 have q:=H.out.box (.tail _ (.head _));have q3:=q.cell 3;(simp at q3);clear q
 go_wp2_with fail
 go_at_call 72
 refine (CS.out _ HB3.out).mono ?_
 rintro e w4 ⟨rfl,hb⟩
 replace H:=aI (H.out.below hb)
 clear hb
 go_upto_region 3 with fail
 go_cut [21] from 9 (fun v21 w'=>∃ b:Bool,v21=.bool b/\(b=true->0<=il)/\∃ M,MkH K M ((rb,58,#[.string ⟨#[]⟩,.string ⟨#[]⟩,.string ⟨#[]⟩,.string ⟨#[]⟩,.int .i64 0])::(kb,49,#[.string nm,.int .i64 lo,.int .i64 hi,.slice A n c])::bx) rs ((fun M W=>SlAt M W A (Sc.flds k))::L) w')
 case first =>
  clear CL CS HB3
  by_cases hl0:0<=il
  ·go_wp2_with (go_at_call 26;refine (H.out.take 3 (by omega) (by omega)).mono ?_;rintro e w5 ⟨v,rfl,v1,v2,hr⟩;replace H:=aI (H.out.turn hr);clear hr)
   go_meet
   case rel=>exact ⟨_,rfl,fun _=>hl0,_,H.out⟩
  ·have t1:decide (0<=il)=false:=ad hl0
   go_wp2_with fail
   go_meet
   case rel=>exact ⟨_,rfl,fun h=>(by cases h),_,H.out⟩
 case rest =>
  obtain ⟨b,rfl,hb,M2,HS⟩:=hcut
  clear H CL CS HB3
  have H:=aI HS
  clear HS
  have hlen:(1:Int)<=((nm.size:Nat):Int):=by omega
  cases b
  ·clear hb
   by_cases hs0:is < 0
   ·have HB:=aI (show Sc.ix (Sc.named Sg.bsz) (Sc.flds k) < 0 by rw [HIS.out];exact hs0)
    have t1:decide (is < 0)=true:=ac hs0
    go_upto_region 6 with fail
    go_cut [5] from 6 (fun v5 w'=>v5=.bool false/\∃ r,Sg.Rule k r false/\∃ M,MkH K M ((rb,58,rulCells r)::(kb,49,#[.string nm,.int .i64 lo,.int .i64 hi,.slice A n c])::bx) rs ((fun M W=>SlAt M W A (Sc.flds k))::L) w')
    case first =>
     have q:=H.out.box (.head _);obtain ⟨f0,f1,f2,f3,f4⟩:=aN5 q.frozen;obtain ⟨q0,q1,q2,q3,q4⟩:=aN5 q.cell;(simp at q0 q1 q2 q3 q4);clear q
     go_wp2_with fail
     go_meet
     case rel=>exact ⟨rfl,(Sg.be,Sg.be,Sg.be,Sg.be,0),.none HB.out,_,((((H.out.set0 0 _).set0 1 _).set0 2 _).set0 3 _).set0 4 _⟩
    case rest =>
     obtain ⟨rfl,r,hr,M9,H9⟩:=hcut
     have q:=H9.box (.head _);obtain ⟨q0,q1,q2,q3,q4⟩:=aN5 q.cell;(simp [rulCells] at q0 q1 q2 q3 q4);clear q
     have H8:=aI H9.unbox.unbox.tail
     have HR:=aI hr
     clear H9 hr
     rename_i hK
     apply hK
     refine wp_ret ?_
     (try simp only [Exit.then])
     refine bodyPost_ret (v:=.tuple #[.agg (rulCells r),.bool false]) ?_ rfl ?_
     ·simp [results,Tryz.results28,go_sem,q0,q1,q2,q3,q4,rulCells]
      try rfl
     ·exact ⟨r,false,M9,rfl,HR.out,H8.out⟩
   ·have t1:decide (is < 0)=false:=ad hs0
    obtain ⟨i,hi',hie,_⟩:=Sc.ix_get (p:=Sc.named Sg.bsz) (l:=Sc.flds k) (by rw [HIS.out];omega)
    have HIE:=aI hie
    rw [HIS.out] at hie
    subst hie
    have hin:i < n:=by rw [<-HN.out];exact hi'
    have k2:(i:Int) < (n:Int):=by omega
    have hbd:=HBD.out _ (List.getElem_mem hi')
    obtain ⟨b1,o1,B,cB,C,cC,rfl,_,g0,g1,g2,g3,g4,g5,g6,g7,_⟩:=fld_at (H.out.fact (.head _)) i hi'
    obtain ⟨f,hf⟩:=aX ((Sc.flds k)[i])
    rw [hf] at g0 g1 g2 g3 g4 g5 g6 g7 hbd
    have HF:=aI hf
    obtain ⟨flo,hflo⟩:=aX (Sc.lo f)
    obtain ⟨fhi,hfhi⟩:=aX (Sc.hi f)
    rw [hflo] at g4 hbd
    rw [hfhi] at g5 hbd
    obtain ⟨d1,d2,d3,d4⟩:=hbd
    have H2:=aI (H.out.new #[.string (Sc.nm f),.string (Sc.of_ f),.string (Sc.up f),.int .i64 (Sc.kd f),.int .i64 flo,.int .i64 fhi,.slice B (Sc.words f).length cB,.slice C (Sc.wts f).length cC] 52 rfl)
    have q:=H.out.box (.tail _ (.head _));have y3:=q.cell 3;(simp at y3);clear q
    have HFL:=aI hflo
    have HFH:=aI hfhi
    clear H hf hflo hfhi hs0
    generalize Sc.nm f=z0 at *
    generalize Sc.of_ f=z1 at *
    generalize Sc.up f=z2 at *
    generalize Sc.kd f=z3 at *
    generalize (Sc.words f).length=z6 at *
    generalize (Sc.wts f).length=z7 at *
    go_upto_region 8 with fail
    generalize hW9:wc.alloc _=W9 at H2 ⊢
    generalize wc.heap.size=fb at H2 ⊢
    clear g0 g1 g2 g3 g4 g5 g6 g7 y3 hW9
    have H:=H2
    clear H2
    go_wp2_with fail
    go_at_call 26
    refine (H.out.take 2 (by omega) (by omega)).mono ?_
    rintro e w5 ⟨v,rfl,v1,v2,hr⟩
    replace H:=aI (H.out.turn hr);clear hr
    by_cases hv:v=0
    ·subst hv
     go_upto_region 9 with fail
     go_cut [5] from 6 (fun v5 w'=>v5=.bool true/\∃ r,Sg.Rule k r true/\∃ M,MkH K M ((rb,58,rulCells r)::(kb,49,#[.string nm,.int .i64 lo,.int .i64 hi,.slice (some ⟨b1,o1,none⟩) n c])::bx) rs ((fun M W=>SlAt M W (some ⟨b1,o1,none⟩) (Sc.flds k))::L) w')
     case first =>
      obtain ⟨wo,rfl⟩:=aY w5
      letI:Grow:=K.grow
      apply RG.wp_region_typed (C:=fun w'=>K.R wo w') (n:=67) (m:=12) (l1:=[_,_,_,_,_,_,_,_,_,_,_,_]) (l2:=[_,_])
      ·rfl
      ·rfl
      ·kernel_rfl
      ·rfl
      ·kernel_rfl
      ·exact K.drew wo
      ·exact fun u u' h hb=>h.trans hb
      (apply RG.wpT_exact;· (intro w' hC hf;unfold RG.Gives;clear hf hC;go_wp2_with (fail);apply RG.postT_val rfl (Grow.refl _);simp only [RG.valAt,aV];exact rfl));(try simp only [Act.put,aZ])
      (apply RG.wpT_exact;· (intro w' hC hf;unfold RG.Gives;have q:=(H.out.turn hC).box (.tail _ (.tail _ (.head _)));have q0:=q.cell 0;(simp at q0);clear q;clear hf hC;go_wp2_with (fail);apply RG.postT_val rfl (Grow.refl _);simp only [RG.valAt,aV];exact rfl));(try simp only [Act.put,aZ])
      iterate 3 ((apply RG.wpT_exact;· (intro w' hC hf;unfold RG.Gives;clear hf hC;go_wp2_with (fail);apply RG.postT_val rfl (Grow.refl _);simp only [RG.valAt,aV];exact rfl));(try simp only [Act.put,aZ]))
      (apply RG.wpT_exact;· (intro w' hC hf;unfold RG.Gives;have q:=(H.out.turn hC).box (.tail _ (.tail _ (.head _)));have q0:=q.cell 0;(simp at q0);clear q;clear hf hC;go_wp2_with (fail);apply RG.postT_val rfl (Grow.refl _);simp only [RG.valAt,aV];exact rfl));(try simp only [Act.put,aZ])
      (apply RG.wpT_exact;· (intro w' hC hf;unfold RG.Gives;clear hf hC;go_wp2_with (fail);apply RG.postT_val rfl (Grow.refl _);simp only [RG.valAt,aV];exact rfl));(try simp only [Act.put,aZ])
      (apply RG.wpT_exact;· (intro w' hC hf;unfold RG.Gives;have q:=(H.out.turn hC).box (.head _);have q4:=q.cell 4;(simp at q4);clear q;clear hf hC;go_wp2_with (fail);apply RG.postT_val rfl (Grow.refl _);simp only [RG.valAt,aV];exact rfl));(try simp only [Act.put,aZ])
      (apply RG.wpT_exact;· (intro w' hC hf;unfold RG.Gives;clear hf hC;go_wp2_with (fail);apply RG.postT_val rfl (Grow.refl _);simp only [RG.valAt,aV];exact rfl));(try simp only [Act.put,aZ])
      apply RG.wpT_typed (T:=fun v _=>∃ z:Nat,v=.int .i64 (z:Int)/\z < 12) (fun v w w' h _=>h)
      ·intro w' hC hf;unfold RG.Gives;clear hf
       go_wp2_with fail
       go_at_call 26
       refine ((H.out.turn hC).take 12 (by omega) (by omega)).mono ?_
       rintro e w3 ⟨v,rfl,v1,v2,hr⟩
       obtain ⟨z,rfl⟩:∃ z':Nat,v=z':=⟨v.toNat,by omega⟩
       go_wp2_with fail
       refine RG.postT_mk rfl hr ?_;simp only [RG.valAt,aV];exact ⟨z,rfl,by omega⟩
      intro v52;(try simp only [Act.put,aZ])
      apply RG.wpT_typed (T:=fun v _=>∃ z:Nat,v=.int .i64 (flo+(z:Int))/\z < 12) (fun v w w' h _=>h)
      ·intro w' hC hf;unfold RG.Gives;obtain ⟨z,rfl,z1⟩:=hf.1 rfl;clear hf hC
       go_wp2_with fail
       refine RG.postT_mk rfl (Grow.refl _) ?_;simp only [RG.valAt,aV];exact ⟨z,rfl,z1⟩
      intro v53;(try simp only [Act.put,aZ])
      apply RG.wpT_typed (T:=fun v _=>∃ z:Nat,v=.agg #[.string (Sg.bmost++nm.extract 0 1),.string nm,.string Sg.bsz,.string Sg.be,.int .i64 (flo+(z:Int))]/\z < 12) (fun v w w' h _=>h)
      ·intro w' hC hf;unfold RG.Gives;obtain ⟨z,rfl,z1⟩:=hf.1 rfl;clear hf hC
       go_wp2_with fail
       refine RG.postT_mk rfl (Grow.refl _) ?_;simp only [RG.valAt,aV];exact ⟨z,rfl,z1⟩
      intro v54;(try simp only [Act.put,aZ])
      apply RG.wpT_done
      intro w4 hC hall
      obtain ⟨z,rfl,z1⟩:=hall.1
      have T:=aI (H.out.turn hC)
      have q:=T.out.box (.tail _ (.head _));obtain ⟨f0,f1,f2,f3,f4⟩:=aN5 q.frozen;obtain ⟨q0,q1,q2,q3,q4⟩:=aN5 q.cell;(simp at q0 q1 q2 q3 q4);clear q
      clear hall hC H this
      go_wp2_with fail
      go_meet
      case rel =>
       refine ⟨rfl,(Sg.bmost++nm.extract 0 1,nm,Sg.bsz,Sg.be,flo+(z:Int)),?_,_,(((((T.out.swap.set0 0 _).set0 1 _).set0 2 _).set0 3 _).set0 4 _).swap.unbox⟩
       have:=Sg.Rule.most (k:=k) i hi' (z:Int) HIE.out (by omega) (by omega)
       rw [HNM.out,HF.out,HFL.out] at this
       exact this
     case rest =>
      obtain ⟨rfl,r,hr,M9,H9⟩:=hcut
      have q:=H9.box (.head _);obtain ⟨q0,q1,q2,q3,q4⟩:=aN5 q.cell;(simp [rulCells] at q0 q1 q2 q3 q4);clear q
      have H8:=aI H9.unbox.unbox.tail
      have HR:=aI hr
      clear H9 hr
      rename_i hK
      apply hK
      refine wp_ret ?_
      (try simp only [Exit.then])
      refine bodyPost_ret (v:=.tuple #[.agg (rulCells r),.bool true]) ?_ rfl ?_
      ·simp [results,Tryz.results28,go_sem,q0,q1,q2,q3,q4,rulCells]
       try rfl
      ·exact ⟨r,true,M9,rfl,HR.out,H8.out⟩
    ·have t2:(v == 0)=false:=by rw [beq_eq_false_iff_ne];exact hv
     go_upto_region 10 with fail
     go_cut [5] from 6 (fun v5 w'=>v5=.bool true/\∃ r,Sg.Rule k r true/\∃ M,MkH K M ((rb,58,rulCells r)::(kb,49,#[.string nm,.int .i64 lo,.int .i64 hi,.slice (some ⟨b1,o1,none⟩) n c])::bx) rs ((fun M W=>SlAt M W (some ⟨b1,o1,none⟩) (Sc.flds k))::L) w')
     case first =>
      obtain ⟨wo,rfl⟩:=aY w5
      letI:Grow:=K.grow
      apply RG.wp_region_typed (C:=fun w'=>K.R wo w') (n:=67) (m:=12) (l1:=[_,_,_,_,_,_,_,_,_,_,_,_]) (l2:=[_,_])
      ·rfl
      ·rfl
      ·kernel_rfl
      ·rfl
      ·kernel_rfl
      ·exact K.drew wo
      ·exact fun u u' h hb=>h.trans hb
      (apply RG.wpT_exact;· (intro w' hC hf;unfold RG.Gives;clear hf hC;go_wp2_with (fail);apply RG.postT_val rfl (Grow.refl _);simp only [RG.valAt,aV];exact rfl));(try simp only [Act.put,aZ])
      (apply RG.wpT_exact;· (intro w' hC hf;unfold RG.Gives;have q:=(H.out.turn hC).box (.tail _ (.tail _ (.head _)));have q0:=q.cell 0;(simp at q0);clear q;clear hf hC;go_wp2_with (fail);apply RG.postT_val rfl (Grow.refl _);simp only [RG.valAt,aV];exact rfl));(try simp only [Act.put,aZ])
      iterate 3 ((apply RG.wpT_exact;· (intro w' hC hf;unfold RG.Gives;clear hf hC;go_wp2_with (fail);apply RG.postT_val rfl (Grow.refl _);simp only [RG.valAt,aV];exact rfl));(try simp only [Act.put,aZ]))
      (apply RG.wpT_exact;· (intro w' hC hf;unfold RG.Gives;have q:=(H.out.turn hC).box (.tail _ (.tail _ (.head _)));have q0:=q.cell 0;(simp at q0);clear q;clear hf hC;go_wp2_with (fail);apply RG.postT_val rfl (Grow.refl _);simp only [RG.valAt,aV];exact rfl));(try simp only [Act.put,aZ])
      (apply RG.wpT_exact;· (intro w' hC hf;unfold RG.Gives;clear hf hC;go_wp2_with (fail);apply RG.postT_val rfl (Grow.refl _);simp only [RG.valAt,aV];exact rfl));(try simp only [Act.put,aZ])
      apply RG.wpT_typed (T:=fun v _=>∃ z:Nat,v=.int .i64 (z:Int)/\z < 12) (fun v w w' h _=>h)
      ·intro w' hC hf;unfold RG.Gives;clear hf
       go_wp2_with fail
       go_at_call 26
       refine ((H.out.turn hC).take 12 (by omega) (by omega)).mono ?_
       rintro e w3 ⟨v,rfl,v1,v2,hr⟩
       obtain ⟨z,rfl⟩:∃ z':Nat,v=z':=⟨v.toNat,by omega⟩
       go_wp2_with fail
       refine RG.postT_mk rfl hr ?_;simp only [RG.valAt,aV];exact ⟨z,rfl,by omega⟩
      intro v62;(try simp only [Act.put,aZ])
      (apply RG.wpT_exact;· (intro w' hC hf;unfold RG.Gives;clear hf hC;go_wp2_with (fail);apply RG.postT_val rfl (Grow.refl _);simp only [RG.valAt,aV];exact rfl));(try simp only [Act.put,aZ])
      (apply RG.wpT_exact;· (intro w' hC hf;unfold RG.Gives;have q:=(H.out.turn hC).box (.head _);have q5:=q.cell 5;(simp at q5);clear q;clear hf hC;go_wp2_with (fail);apply RG.postT_val rfl (Grow.refl _);simp only [RG.valAt,aV];exact rfl));(try simp only [Act.put,aZ])
      apply RG.wpT_typed (T:=fun v _=>∃ z:Nat,v=.int .i64 ((z:Int) - fhi)/\z < 12) (fun v w w' h _=>h)
      ·intro w' hC hf;unfold RG.Gives;obtain ⟨z,rfl,z1⟩:=hf.1 rfl;clear hf hC
       go_wp2_with fail
       refine RG.postT_mk rfl (Grow.refl _) ?_;simp only [RG.valAt,aV];exact ⟨z,rfl,z1⟩
      intro v65;(try simp only [Act.put,aZ])
      apply RG.wpT_typed (T:=fun v _=>∃ z:Nat,v=.agg #[.string (Sg.bleast++nm.extract 0 1),.string nm,.string Sg.be,.string Sg.bsz,.int .i64 ((z:Int) - fhi)]/\z < 12) (fun v w w' h _=>h)
      ·intro w' hC hf;unfold RG.Gives;obtain ⟨z,rfl,z1⟩:=hf.1 rfl;clear hf hC
       go_wp2_with fail
       refine RG.postT_mk rfl (Grow.refl _) ?_;simp only [RG.valAt,aV];exact ⟨z,rfl,z1⟩
      intro v66;(try simp only [Act.put,aZ])
      apply RG.wpT_done
      intro w4 hC hall
      obtain ⟨z,rfl,z1⟩:=hall.1
      have T:=aI (H.out.turn hC)
      have q:=T.out.box (.tail _ (.head _));obtain ⟨f0,f1,f2,f3,f4⟩:=aN5 q.frozen;obtain ⟨q0,q1,q2,q3,q4⟩:=aN5 q.cell;(simp at q0 q1 q2 q3 q4);clear q
      clear hall hC H this
      go_wp2_with fail
      go_meet
      case rel =>
       refine ⟨rfl,(Sg.bleast++nm.extract 0 1,nm,Sg.be,Sg.bsz,(z:Int) - fhi),?_,_,(((((T.out.swap.set0 0 _).set0 1 _).set0 2 _).set0 3 _).set0 4 _).swap.unbox⟩
       have:=Sg.Rule.least (k:=k) i hi' (z:Int) HIE.out (by omega) (by omega)
       rw [HNM.out,HF.out,HFH.out] at this
       exact this
     case rest =>
      obtain ⟨rfl,r,hr,M9,H9⟩:=hcut
      have q:=H9.box (.head _);obtain ⟨q0,q1,q2,q3,q4⟩:=aN5 q.cell;(simp [rulCells] at q0 q1 q2 q3 q4);clear q
      have H8:=aI H9.unbox.unbox.tail
      have HR:=aI hr
      clear H9 hr
      rename_i hK
      apply hK
      refine wp_ret ?_
      (try simp only [Exit.inBlock,Exit.then])
      refine bodyPost_ret (v:=.tuple #[.agg (rulCells r),.bool true]) ?_ rfl ?_
      ·simp [results,Tryz.results28,go_sem,q0,q1,q2,q3,q4,rulCells]
       try rfl
      ·exact ⟨r,true,M9,rfl,HR.out,H8.out⟩
  ·have HB:=aI (show 0<=Sc.ix (Sc.named Sg.blow) (Sc.flds k) by rw [HIL.out];exact hb rfl)
   clear hb
   go_upto_region 4 with fail
   go_cut [5] from 6 (fun v5 w'=>v5=.bool true/\∃ r,Sg.Rule k r true/\∃ M,MkH K M ((rb,58,rulCells r)::(kb,49,#[.string nm,.int .i64 lo,.int .i64 hi,.slice A n c])::bx) rs ((fun M W=>SlAt M W A (Sc.flds k))::L) w')
   case first =>
    obtain ⟨wo,rfl⟩:=aY wc
    letI:Grow:=K.grow
    apply RG.wp_region_typed (C:=fun w'=>K.R wo w') (n:=67) (m:=10) (l1:=[_,_,_,_,_,_,_,_,_,_]) (l2:=[_,_])
    ·rfl
    ·rfl
    ·kernel_rfl
    ·rfl
    ·kernel_rfl
    ·exact K.drew wo
    ·exact fun u u' h hb=>h.trans hb
    (apply RG.wpT_exact;· (intro w' hC hf;unfold RG.Gives;clear hf hC;go_wp2_with (fail);apply RG.postT_val rfl (Grow.refl _);simp only [RG.valAt,aV];exact rfl));(try simp only [Act.put,aZ])
    (apply RG.wpT_exact;· (intro w' hC hf;unfold RG.Gives;have q:=(H.out.turn hC).box (.tail _ (.head _));have q0:=q.cell 0;(simp at q0);clear q;clear hf hC;go_wp2_with (fail);apply RG.postT_val rfl (Grow.refl _);simp only [RG.valAt,aV];exact rfl));(try simp only [Act.put,aZ])
    iterate 3 ((apply RG.wpT_exact;· (intro w' hC hf;unfold RG.Gives;clear hf hC;go_wp2_with (fail);apply RG.postT_val rfl (Grow.refl _);simp only [RG.valAt,aV];exact rfl));(try simp only [Act.put,aZ]))
    (apply RG.wpT_exact;· (intro w' hC hf;unfold RG.Gives;have q:=(H.out.turn hC).box (.tail _ (.head _));have q0:=q.cell 0;(simp at q0);clear q;clear hf hC;go_wp2_with (fail);apply RG.postT_val rfl (Grow.refl _);simp only [RG.valAt,aV];exact rfl));(try simp only [Act.put,aZ])
    (apply RG.wpT_exact;· (intro w' hC hf;unfold RG.Gives;clear hf hC;go_wp2_with (fail);apply RG.postT_val rfl (Grow.refl _);simp only [RG.valAt,aV];exact rfl));(try simp only [Act.put,aZ])
    apply RG.wpT_typed (T:=fun v _=>∃ z:Nat,v=.int .i64 (z:Int)/\z < 8) (fun v w w' h _=>h)
    ·intro w' hC hf;unfold RG.Gives;clear hf
     go_wp2_with fail
     go_at_call 26
     refine ((H.out.turn hC).take 8 (by omega) (by omega)).mono ?_
     rintro e w3 ⟨v,rfl,v1,v2,hr⟩
     obtain ⟨z,rfl⟩:∃ z':Nat,v=z':=⟨v.toNat,by omega⟩
     go_wp2_with fail
     refine RG.postT_mk rfl hr ?_;simp only [RG.valAt,aV];exact ⟨z,rfl,by omega⟩
    intro v29;(try simp only [Act.put,aZ])
    apply RG.wpT_typed (T:=fun v _=>∃ z:Nat,v=.int .i64 ((z:Int) - 2)/\z < 8) (fun v w w' h _=>h)
    ·intro w' hC hf;unfold RG.Gives;obtain ⟨z,rfl,z1⟩:=hf.1 rfl;clear hf hC
     go_wp2_with fail
     refine RG.postT_mk rfl (Grow.refl _) ?_;simp only [RG.valAt,aV];exact ⟨z,rfl,z1⟩
    intro v30;(try simp only [Act.put,aZ])
    apply RG.wpT_typed (T:=fun v _=>∃ z:Nat,v=.agg #[.string (Sg.border++nm.extract 0 1),.string nm,.string Sg.blow,.string Sg.bhigh,.int .i64 ((z:Int) - 2)]/\z < 8) (fun v w w' h _=>h)
    ·intro w' hC hf;unfold RG.Gives;obtain ⟨z,rfl,z1⟩:=hf.1 rfl;clear hf hC
     go_wp2_with fail
     refine RG.postT_mk rfl (Grow.refl _) ?_;simp only [RG.valAt,aV];exact ⟨z,rfl,z1⟩
    intro v31;(try simp only [Act.put,aZ])
    apply RG.wpT_done
    intro w4 hC hall
    obtain ⟨z,rfl,z1⟩:=hall.1
    have T:=aI (H.out.turn hC)
    have q:=T.out.box (.head _);obtain ⟨f0,f1,f2,f3,f4⟩:=aN5 q.frozen;obtain ⟨q0,q1,q2,q3,q4⟩:=aN5 q.cell;(simp at q0 q1 q2 q3 q4);clear q
    clear hall hC H this
    go_wp2_with fail
    go_meet
    case rel =>
     refine ⟨rfl,(Sg.border++nm.extract 0 1,nm,Sg.blow,Sg.bhigh,(z:Int) - 2),?_,_,((((T.out.set0 0 _).set0 1 _).set0 2 _).set0 3 _).set0 4 _⟩
     have:=Sg.Rule.low (k:=k) (z:Int) HB.out (by omega) (by omega)
     rw [HNM.out] at this
     exact this
   case rest =>
    obtain ⟨rfl,r,hr,M9,H9⟩:=hcut
    have q:=H9.box (.head _);obtain ⟨q0,q1,q2,q3,q4⟩:=aN5 q.cell;(simp [rulCells] at q0 q1 q2 q3 q4);clear q
    have H8:=aI H9.unbox.unbox.tail
    have HR:=aI hr
    clear H9 hr
    rename_i hK
    apply hK
    refine wp_ret ?_
    (try simp only [Exit.then])
    refine bodyPost_ret (v:=.tuple #[.agg (rulCells r),.bool true]) ?_ rfl ?_
    ·simp [results,Tryz.results28,go_sem,q0,q1,q2,q3,q4,rulCells]
     try rfl
    ·exact ⟨r,true,M9,rfl,HR.out,H8.out⟩
end
section
namespace Sg
inductive Kinds:List Knd->Prop
 | nil:Kinds []
 | snoc (ks:List Knd) (k:Knd) (ks':List Knd):Kinds ks->Kind ks k ks'->Kinds (ks'++[k])
def bnew:ByteArray:=⟨#[110,101,119]⟩
def bopen:ByteArray:=⟨#[111,112,101,110]⟩
def bdone:ByteArray:=⟨#[100,111,110,101]⟩
def bshut:ByteArray:=⟨#[115,104,117,116]⟩
def states:List ByteArray:=[bnew,bopen,bdone,bshut]
def steps (m:Nat):List (Int × Int):=(List.range m).map fun (i:Nat)=>((i:Int),(i:Int)+1)
inductive Life:Lif->Prop
 | mk (m:Nat) (a b:List (Int × Int)):2<=m->m<=4->(a=[]∨a=[(1,0)])->(b=[]∨b=[(0,(m:Int) - 1)])->Life (blife,states.take m,steps (m - 1)++a++b)
inductive Rules (ks:List Knd):Nat->List Rul->Prop
 | nil:Rules ks 0 []
 | step (i:Nat) (h:i < ks.length) (rs:List Rul) (r:Rul) (b:Bool):Rules ks i rs->rs.length < 2->Rule ks[i] r b->Rules ks (i+1) (if b then rs++[r] else rs)
inductive Schema:Sch->Prop
 | mk (ver:Int) (ks:List Knd) (lf:Lif) (i:Nat) (rs:List Rul):0<=ver->ver<=3->1<=ks.length->ks.length<=3->Kinds ks->Life lf->Rules ks i rs->(i=ks.length∨rs.length=2)->Schema (ver,ks,[lf],rs)
def FBd (f:Fld):Prop:=-1000<=Sc.lo f/\Sc.lo f<=1000/\-1000<=Sc.hi f/\Sc.hi f<=1000
theorem Plain.bd {fs:List Fld} (h:Plain fs):∀ f∈fs,FBd f:=by
 cases h with
 | none=>intro f hf;cases hf
 | size lo d _ _ _ _=>intro f hf;simp only [List.mem_singleton] at hf;subst hf;unfold FBd Sc.lo Sc.hi;simp only;omega
 | tag k ws _ _ _ _ _=>intro f hf;simp only [List.mem_singleton] at hf;subst hf;unfold FBd Sc.lo Sc.hi;simp only;omega
 | born lo d lo2 d2 _ _ _ _ _ _ _ _ =>
  intro f hf
  simp only [List.mem_cons,List.not_mem_nil,or_false] at hf
  rcases hf with rfl | rfl <;> (unfold FBd Sc.lo Sc.hi;simp only;omega)
 | state lo d _ _ _ _=>intro f hf;simp only [List.mem_singleton] at hf;subst hf;unfold FBd Sc.lo Sc.hi;simp only;omega
 | low a b c d _ _ _ _ _ _ _ _ =>
  intro f hf
  simp only [List.mem_cons,List.not_mem_nil,or_false] at hf
  rcases hf with rfl | rfl <;> (unfold FBd Sc.lo Sc.hi;simp only;omega)
theorem Same.bd {k:Knd} {fs:List Fld} (h:Same k fs):∀ f∈fs,FBd f:=by
 cases h with
 | none=>intro f hf;cases hf
 | some c h _=>intro f hf;simp only [List.mem_singleton] at hf;subst hf;unfold FBd sameF Sc.lo Sc.hi;simp only;omega
structure KOk (k:Knd):Prop where
 n1:1<=k.1.size
 n2:k.1.size<=20
 lo:0<=k.2.1
 hi:k.2.2.1<=8
 len1:1<=(Sc.flds k).length
 len:(Sc.flds k).length<=9∨((Sc.flds k).length<=10/\0<=Sc.ix (Sc.named btotal) (Sc.flds k))
 bd:∀ f∈Sc.flds k,FBd f
theorem kname_size (n:Nat) (h:n<=2):1<=(kname n).size/\(kname n).size<=20:=by
 rcases (show n=0∨n=1∨n=2 by omega) with rfl | rfl | rfl <;> decide
theorem ix_snoc {α:Type} {p:α->Bool} {l:List α} {x:α} (h:p x=true):0<=Sc.ix p (l++[x]):=by
 rcases Int.lt_or_le (Sc.ix p (l++[x])) 0 with hn | hn
 ·have:=Sc.ix_neg hn x (by simp)
  rw [h] at this;cases this
 ·exact hn
theorem KOk.total {k:Knd} {nm:ByteArray} (h:KOk k) (hx:Sc.ix (Sc.named btotal) (Sc.flds k) < 0):KOk (setF k (Sc.flds k++[totalF nm])):=by
 have hl:(Sc.flds k).length<=9:=by rcases h.len with h | ⟨_,h⟩ <;> omega
 refine ⟨h.n1,h.n2,h.lo,h.hi,?_,.inr ⟨?_,ix_snoc (by unfold Sc.named totalF Sc.nm;exact ac rfl)⟩,fun f hf=>?_⟩
 ·show 1<=(Sc.flds k++[totalF nm]).length;rw [aK];have:=h.len1;omega
 ·show (Sc.flds k++[totalF nm]).length<=10;rw [aK,List.length_singleton];omega
 ·rcases List.mem_append.1 (show f∈Sc.flds k++[totalF nm] from hf) with hf | hf
  ·exact h.bd f hf
  ·simp only [List.mem_singleton] at hf;subst hf;unfold FBd totalF Sc.lo Sc.hi;simp only;omega
theorem okLo_bd' {lo:Int} (h:okLo lo):-3<=lo/\lo<=100:=okLo_bd h
theorem Part.ok {nm:ByteArray} {ks:List Knd} {tq:Nat} {h:tq < ks.length} {fs:List Fld} {ks':List Knd} (hp:Part nm ks tq h fs ks') (hk:∀ k∈ks,KOk k):(∀ k∈ks',KOk k)/\∀ f∈fs,FBd f:=by
 cases hp with
 | none=>exact ⟨hk,fun f hf=>by cases hf⟩
 | some lo d _ _ _ _ hx =>
  refine ⟨fun k hkm=>?_,fun f hf=>?_⟩
  ·rcases List.mem_or_eq_of_mem_set hkm with hkm | rfl
   ·exact hk k hkm
   ·exact (hk _ (List.getElem_mem h)).total hx
  ·simp only [List.mem_singleton] at hf;subst hf;unfold FBd partF Sc.lo Sc.hi;simp only;omega
theorem Body.ok {nm:ByteArray} {ks:List Knd} {fs:List Fld} {ks':List Knd} (h:Body nm ks fs ks') (hk:∀ k∈ks,KOk k):(∀ k∈ks',KOk k)/\∀ f∈fs,FBd f:=by
 cases h with
 | nil lo hlo =>
  have:=okLo_bd hlo
  refine ⟨hk,fun f hf=>?_⟩
  simp only [List.mem_singleton] at hf;subst hf;unfold FBd idF Sc.lo Sc.hi;simp only;omega
 | cons _ tq h lo flo hi same part _ hlo _ _ _ _ hs hp =>
  have:=okLo_bd hlo
  obtain ⟨p1,p2⟩:=hp.ok hk
  refine ⟨p1,fun f hf=>?_⟩
  simp only [List.mem_append,List.mem_cons,List.not_mem_nil,or_false] at hf
  rcases hf with ((rfl | rfl) | hf) | hf
  ·unfold FBd idF Sc.lo Sc.hi;simp only;omega
  ·unfold FBd ofF Sc.lo Sc.hi;simp only;omega
  ·exact hs.bd f hf
  ·exact p2 f hf
theorem Kind.ok {ks:List Knd} {k:Knd} {ks':List Knd} (h:Kind ks k ks') (hk:∀ k∈ks,KOk k) (hn:ks.length<=2):(∀ x∈ks'++[k],KOk x)/\ks'.length=ks.length:=by
 obtain ⟨h1,h2,h3,h4,h5,hf⟩:=h
 generalize hfs:Sc.flds k=fl at hf
 cases hf with
 | mk fs ks' by_ first second hb hby hp hs =>
  obtain ⟨b1,b2⟩:=hb.ok hk
  obtain ⟨l1,l2,l3⟩:=hb.len
  have hp2:=hp.len
  have hbyl:by_.length<=1:=by rcases hby with rfl | ⟨_,_,_,rfl⟩ <;> simp
  have hsl:second.length<=2:=by rcases hs with rfl | ⟨hs,_⟩;simp;exact hs.len
  refine ⟨fun x hx=>?_,l3⟩
  rcases List.mem_append.1 hx with hx | hx
  ·exact b1 x hx
  ·simp only [List.mem_singleton] at hx
   subst hx
   obtain ⟨n1,n2⟩:=kname_size ks.length hn
   refine ⟨by rw [h1];exact n1,by rw [h1];exact n2,h2,by omega,?_,.inl ?_,fun f hf=>?_⟩
   ·rw [hfs];simp only [aK];omega
   ·rw [hfs];simp only [aK];omega
   ·rw [hfs] at hf
    simp only [List.mem_append] at hf
    rcases hf with ((hf | hf) | hf) | hf
    ·exact b2 f hf
    ·rcases hby with rfl | ⟨_,k0,_,rfl⟩
     ·cases hf
     ·simp only [List.mem_singleton] at hf;subst hf;unfold FBd byF Sc.lo Sc.hi;simp only;omega
    ·exact hp.bd f hf
    ·rcases hs with rfl | ⟨hs,_⟩
     ·cases hf
     ·exact hs.bd f hf
theorem Kind.klen {ks:List Knd} {k:Knd} {ks':List Knd} (h:Kind ks k ks'):ks'.length=ks.length:=by
 obtain ⟨_,_,_,_,_,hf⟩:=h
 generalize Sc.flds k=fl at hf
 cases hf with
 | mk fs ks' by_ first second hb _ _ _=>exact hb.len.2.2
theorem Kinds.ok {ks:List Knd} (h:Kinds ks):ks.length<=3->∀ k∈ks,KOk k:=by
 induction h with
 | nil=>intro _ k hk;cases hk
 | snoc ks k ks' h hk ih =>
  intro hl
  have h3:=hk.klen
  rw [aK,List.length_singleton] at hl
  exact (hk.ok (ih (by omega)) (by omega)).1
end Sg
section
variable {w W W':World} {G M:List Nat} {bx:List Box} {rs:List Rw} {r:Rw} {L:List (List Nat->World->Prop)} {P:Program}
theorem step_append_rows {ops:Array Oper} {o:Oper} {a:Act} {K':Act->World->Prop} {Q:Exit->Act->World->Prop} {E:Prop} (hgd:o.guard=none) (s x:Operand) (t:TypeId)
  (ho:o.op=.call { callee:=.builtin .append,args:=#[s,x],argTypes:=#[t,t] })
  (e:TypeId) (i:TypeInfo) (z:Value) (size bytes:Nat) (ht:P.underlying t=some (.slice e)) (hi:P.info? e=some i) (hz:i.zero=some z)
  (hsize:i.size=size) (hby:i.bytes=bytes) (hzs:z.cells.size=size) (hsz:0 < size)
  {v:Value} {n:Nat} {xs:List Value} (H:HR w G M bx (⟨e,size,v,n,xs⟩::rs) L W) (hs:a.eval s=v)
  (B:Nat) (A:Option Addr) (m c:Nat) (news:List Value) (hx:a.eval x=.slice A m c) (hr:Reads W B size A m news) (h1:∀ u∈news,u.oneCell'=true)
  (h63:n+m<=maxLen) (hbytes:(n+m)*bytes<=140737488355328)
  (h:∀ v' W' M',HR w G M' bx (⟨e,size,v',n+m,xs++news⟩::rs) L W'->(∀ g∈M,g∈M')->K' (a.put o.dst v') W'):if Region.wanted o (yielded ops a.tmps)=true then Oper.wp P o a W K' Q else E :=
 step_append_any W hgd s x t ho w.heap.size e i z size bytes ht hi hz hsize hby hzs hsz v n xs hs (H.own _ (.head _)) B A m c news hx hr h1 h63 hbytes H.h.bl.size fun v' W' h2 h3 h4=>by
  have hok:=H.ok _ (.head _)
  have hap:=List.pairwise_cons.1 H.apart
  obtain ⟨M',k1,k2,k3⟩:=H.h.grown hok h3 h4 h2
  refine h v' W' M' ⟨k1,fun r hr=>?_,fun r hr=>?_,List.pairwise_cons.2 ⟨fun s hs g hg1 hg2=>?_,hap.2⟩⟩ k3
  ·rcases aL hr with rfl | hr
   ·exact k2
   ·exact (H.ok r (.tail _ hr)).mono k3
  ·rcases aL hr with rfl | hr
   ·exact h2
   ·refine World.ownsRow.kept (H.own r (.tail _ hr)) h3 ?_
    cases he:r.v.ownBlock with
    | none=>exact .inl rfl
    | some g=>exact .inr fun e=>hap.1 r hr g e.symm he
  ·rcases h4 with he | he
   ·exact hap.1 s hs g (he ▸ hg1) hg2
   ·have k1:=(World.ownsRow.lt (H.own s (.tail _ hs)) g hg2).2
    rw [he] at hg1
    injection hg1 with hg1
    omega
end
section
variable {K:MkK} {M:List Nat} {bx:List Box} {rs:List Rw} {r:Rw} {L:List (List Nat->World->Prop)} {W W':World} {P:Program}
theorem step_append_mk {ops:Array Oper} {o:Oper} {a:Act} {K':Act->World->Prop} {Q:Exit->Act->World->Prop} {E:Prop} (hgd:o.guard=none) (s x:Operand) (t:TypeId)
  (ho:o.op=.call { callee:=.builtin .append,args:=#[s,x],argTypes:=#[t,t] })
  (e:TypeId) (i:TypeInfo) (z:Value) (size bytes:Nat) (ht:P.underlying t=some (.slice e)) (hi:P.info? e=some i) (hz:i.zero=some z)
  (hsize:i.size=size) (hby:i.bytes=bytes) (hzs:z.cells.size=size) (hsz:0 < size)
  {v:Value} {n:Nat} {xs:List Value} (H:MkH K M bx (⟨e,size,v,n,xs⟩::rs) L W) (hs:a.eval s=v)
  (B:Nat) (A:Option Addr) (m c:Nat) (news:List Value) (hx:a.eval x=.slice A m c) (hr:Reads W B size A m news) (h1:∀ u∈news,u.oneCell'=true)
  (h63:n+m<=maxLen) (hbytes:(n+m)*bytes<=140737488355328)
  (h:∀ v' W' M',MkH K M' bx (⟨e,size,v',n+m,xs++news⟩::rs) L W'->(∀ g∈M,g∈M')->K' (a.put o.dst v') W'):if Region.wanted o (yielded ops a.tmps)=true then Oper.wp P o a W K' Q else E:=by
 obtain ⟨j,hj,H'⟩:=H.it
 exact step_append_rows hgd s x t ho e i z size bytes ht hi hz hsize hby hzs hsz H' hs B A m c news hx hr h1 h63 hbytes fun v' W' M' h2 h3=>h v' W' M' ⟨H.len,H.base,j,hj,h2⟩ h3
end
theorem infoKnd:(Tryz.prog.info? 49).map (fun i=>(i.zero,i.size,i.bytes))=some (some (.agg #[.string ⟨#[]⟩,.int .i64 0,.int .i64 0,.slice none 0 0]),4,56):=by kernel_rfl
def SSt (K:MkK) (xb rb:Nat) (ver:Int) (ks:List Knd) (w:World):Prop :=
 ∃ M kv kxs,MkH K M [(xb,28,#[.int .i64 ver,kv,.slice none 0 0,.slice none 0 0]),(rb,28,#[.int .i64 0,.slice none 0 0,.slice none 0 0,.slice none 0 0])] [⟨49,4,kv,ks.length,kxs⟩] [fun M W=>Flat M W ks kxs] w
def kndCells (k:Knd) (A:Option Addr) (c:Nat):List Value:=[.string k.1,.int .i64 k.2.1,.int .i64 k.2.2.1,.slice A (Sc.flds k).length c]
theorem KOk.knd {k:Knd} (h:Sg.KOk k) {G:List Nat} {w:World} {A:Option Addr} {c:Nat} (hs:SlAt G w A (Sc.flds k)) (h1:(Sc.flds k).length<=c) (h2:c<=9223372036854775807) (h3:k.2.1<=8) (h4:0<=k.2.2.1):Mem.rep G w k (kndCells k A c):=by
 have:=h.n2
 have:=h.lo
 have:=h.hi
 exact ⟨[_],_,rfl,⟨rfl,by omega⟩,[_],_,rfl,⟨rfl,by unfold inI;omega⟩,[_],_,rfl,⟨rfl,by unfold inI;omega⟩,A,c,rfl,h1,h2,hs⟩
theorem infoMv:(Tryz.prog.info? 56).map (fun i=>(i.zero,i.size,i.bytes))=some (some (.agg #[.int .i64 0,.int .i64 0]),2,16):=by kernel_rfl
theorem infoLif:(Tryz.prog.info? 55).map (fun i=>(i.zero,i.size,i.bytes))=some (some (.agg #[.string ⟨#[]⟩,.slice none 0 0,.slice none 0 0]),3,64):=by kernel_rfl
theorem infoRul:(Tryz.prog.info? 58).map (fun i=>(i.zero,i.size,i.bytes))=some (some (.agg #[.string ⟨#[]⟩,.string ⟨#[]⟩,.string ⟨#[]⟩,.string ⟨#[]⟩,.int .i64 0]),5,72):=by kernel_rfl
theorem MkH.vform {K:MkK} {M:List Nat} {bx:List Box} {rs:List Rw} {L:List (List Nat->World->Prop)} {W:World} {e:TypeId} {size n:Nat} {v:Value} {xs:List Value} (h:MkH K M bx rs L W) (hr:(⟨e,size,v,n,xs⟩:Rw)∈rs):∃ A c,v=.slice A n c:=own_form (h.own _ hr)
theorem MkH.recell {K:MkK} {M:List Nat} {bx:List Box} {rs:List Rw} {L:List (List Nat->World->Prop)} {W:World} {N:Nat} {t:TypeId} {cs cs':Array Value} (h:MkH K M ((N,t,cs)::bx) rs L W) (e:cs=cs'):MkH K M ((N,t,cs')::bx) rs L W:=e ▸ h
def LSt (K:MkK) (xb rb lb N m:Nat) (ver:Int) (ks:List Knd) (mvs:List (Int × Int)) (w:World):Prop :=
 ∃ M kv kxs mv mxs,MkH K M [(lb,55,#[.string Sg.blife,.slice (some ⟨N,0,none⟩) m 4,mv]),(xb,28,#[.int .i64 ver,kv,.slice none 0 0,.slice none 0 0]),(rb,28,#[.int .i64 0,.slice none 0 0,.slice none 0 0,.slice none 0 0])] [⟨56,2,mv,mvs.length,mxs⟩,⟨49,4,kv,ks.length,kxs⟩] [fun M W=>Flat M W mvs mxs,fun M W=>SlAt M W (some ⟨N,0,none⟩) Sg.states,fun M W=>Flat M W ks kxs] w
theorem LSt.mk1 {K:MkK} {M:List Nat} {W:World} {xb rb lb N m l c7:Nat} {A7:Option Addr} {ver:Int} {ks:List Knd} {mvs:List (Int × Int)} {p:Int × Int} {kv mv0:Value} {kxs mxs us:List Value}
  (h:MkH K M [(lb,55,#[.string Sg.blife,.slice (some ⟨N,0,none⟩) m 4,mv0]),(xb,28,#[.int .i64 ver,kv,.slice none 0 0,.slice none 0 0]),(rb,28,#[.int .i64 0,.slice none 0 0,.slice none 0 0,.slice none 0 0])] [⟨56,2,.slice A7 l c7,mvs.length+1,mxs++us⟩,⟨49,4,kv,ks.length,kxs⟩] [fun M W=>Flat M W mvs mxs,fun M W=>SlAt M W (some ⟨N,0,none⟩) Sg.states,fun M W=>Flat M W ks kxs] W) (hu:Flat M W [p] us) :
  LSt K xb rb lb N m ver ks (mvs++[p]) (W.setCell ⟨lb,2,none⟩ (.slice A7 l c7)):=by
 have h1:=((h.add (keeps_flat (mvs++[p]) (mxs++us)) ((h.fact (.head _)).append hu)).fswap.tail).set0 2 (.slice A7 l c7)
 refine ⟨M,kv,kxs,.slice A7 l c7,mxs++us,?_⟩
 rw [aK,List.length_singleton]
 exact h1
theorem flat_states {G:List Nat} {w:World}:Flat G w Sg.states #[Value.string ⟨#[110,101,119]⟩,.string ⟨#[111,112,101,110]⟩,.string ⟨#[100,111,110,101]⟩,.string ⟨#[115,104,117,116]⟩].toList :=
 ⟨[_],_,rfl,⟨rfl,by decide⟩,[_],_,rfl,⟨rfl,by decide⟩,[_],_,rfl,⟨rfl,by decide⟩,[_],_,rfl,⟨rfl,by decide⟩,rfl⟩
theorem steps_snoc (m:Nat):Sg.steps m++[((m:Int),(m:Int)+1)]=Sg.steps (m+1):=by unfold Sg.steps;rw [List.range_succ,List.map_append];rfl
theorem steps_len (m:Nat):(Sg.steps m).length=m:=by unfold Sg.steps;simp
def RSt (K:MkK) (xb rb:Nat) (ver:Int) (ks:List Knd) (lf:Lif) (rls:List Rul) (w:World):Prop :=
 ∃ M kv kxs lv lxs rv rxs,MkH K M [(xb,28,#[.int .i64 ver,kv,lv,rv]),(rb,28,#[.int .i64 0,.slice none 0 0,.slice none 0 0,.slice none 0 0])] [⟨58,5,rv,rls.length,rxs⟩,⟨55,3,lv,1,lxs⟩,⟨49,4,kv,ks.length,kxs⟩] [fun M W=>Flat M W rls rxs,fun M W=>Flat M W [lf] lxs,fun M W=>Flat M W ks kxs] w
theorem take_states (m:Nat) (h:m<=4):(Sg.states.take m).length=m:=by rw [List.length_take];show min m 4=m;omega
theorem lif_rep {G:List Nat} {w:World} {N m n c:Nat} {A:Option Addr} {mvs:List (Int × Int)} (hs:SlAt G w (some ⟨N,0,none⟩) Sg.states) (hm:m<=4) (hv:SlAt G w A mvs) (hn:n=mvs.length) (h1:n<=c) (h2:c<=9223372036854775807) :
  Mem.rep G w ((Sg.blife,Sg.states.take m,mvs):Lif) [.string Sg.blife,.slice (some ⟨N,0,none⟩) m 4,.slice A n c]:=by
 subst hn
 exact ⟨[_],_,rfl,⟨rfl,(by decide:Sg.blife.size<=9223372036854775807)⟩,[_],_,rfl,⟨_,4,by rw [take_states m hm],by rw [take_states m hm];exact hm,by omega,hs.take m⟩,A,c,rfl,h1,h2,hv⟩
theorem rule_bd {k:Knd} {r:Rul} {b:Bool} (h:Sg.Rule k r b) (hk:Sg.KOk k):r.1.size<=100/\r.2.1.size<=100/\r.2.2.1.size<=100/\r.2.2.2.1.size<=100/\-10000<=r.2.2.2.2/\r.2.2.2.2<=10000:=by
 have h1:=hk.n2
 have hx:(k.1.extract 0 1).size<=20:=by rw [ByteArray.size_extract];omega
 cases h with
 | none _=>exact ⟨by decide,by decide,by decide,by decide,by decide,by decide⟩
 | low z _ _ _=>exact ⟨by rw [ByteArray.size_append];have:Sg.border.size=5:=rfl;omega,by show k.1.size<=100;omega,(by decide:Sg.blow.size<=100),(by decide:Sg.bhigh.size<=100),by show _<=z - 2;omega,by show z - 2<=_;omega⟩
 | most i hi z _ _ _ =>
  have hb:=hk.bd _ (List.getElem_mem hi)
  unfold Sg.FBd at hb
  exact ⟨by rw [ByteArray.size_append];have:Sg.bmost.size=4:=rfl;omega,by show k.1.size<=100;omega,(by decide:Sg.bsz.size<=100),(by decide:Sg.be.size<=100),by show _<=Sc.lo (Sc.flds k)[i]+z;omega,by show Sc.lo (Sc.flds k)[i]+z<=_;omega⟩
 | least i hi z _ _ _ =>
  have hb:=hk.bd _ (List.getElem_mem hi)
  unfold Sg.FBd at hb
  exact ⟨by rw [ByteArray.size_append];have:Sg.bleast.size=5:=rfl;omega,by show k.1.size<=100;omega,(by decide:Sg.be.size<=100),(by decide:Sg.bsz.size<=100),by show _<=z - Sc.hi (Sc.flds k)[i];omega,by show z - Sc.hi (Sc.flds k)[i]<=_;omega⟩
theorem rule_rep {G:List Nat} {w:World} {k:Knd} {r:Rul} {b:Bool} (h:Sg.Rule k r b) (hk:Sg.KOk k):Mem.rep G w r (rulCells r).toList:=by
 obtain ⟨h1,h2,h3,h4,h5,h6⟩:=rule_bd h hk
 exact ⟨[_],_,rfl,⟨rfl,by omega⟩,[_],_,rfl,⟨rfl,by omega⟩,[_],_,rfl,⟨rfl,by omega⟩,[_],_,rfl,⟨rfl,by omega⟩,⟨rfl,by unfold inI;omega⟩⟩
namespace Sx
theorem valid_ok {x:Sch} (h:valid x=0):okB x=true/\(source x).length<=8192:=by
 unfold valid at h
 by_cases ho:okB x=true
 ·rw [if_pos ho] at h
  by_cases hl:8192 < (source x).length
  ·rw [if_pos hl] at h;cases h
  ·exact ⟨ho,by omega⟩
 ·rw [if_neg ho] at h;cases h
end Sx
namespace Sx
structure Loc {α:Type} (p:List Tok->Res α):Prop where
 ok:∀ l a m,p l=.ok a m->∃ c,l=c++m/\∀ d,d <+: m->p (c++d)=.ok a d
 bad:∀ l m,p l=.bad m->∃ c,l=c++m/\(p c=.bad []∨∃ a,p c=.ok a [])
theorem loc_nil {α:Type} {p:List Tok->Res α} (h:Loc p):p []=.bad []∨∃ a,p []=.ok a []:=by
 cases hp:p [] with
 | ok a m =>
  obtain ⟨c,e,_⟩:=h.ok [] a m hp
  have:m=[]:=(List.append_eq_nil_iff.1 e.symm).2
  subst this
  exact .inr ⟨a,rfl⟩
 | bad m =>
  obtain ⟨c,e,_⟩:=h.bad [] m hp
  have:m=[]:=(List.append_eq_nil_iff.1 e.symm).2
  subst this
  exact .inl rfl
theorem loc_next (right:Txt->Bool):Loc (next right):=by
 refine ⟨fun l a m h=>?_,fun l m h=>?_⟩
 ·cases l with
  | nil=>cases h
  | cons t l =>
   have h:(if right t.1=true then Res.ok t.1 l else Res.bad (t::l))=.ok a m:=h
   by_cases hr:right t.1=true
   ·rw [if_pos hr] at h
    injection h with h1 h2
    subst h1 h2
    refine ⟨[t],rfl,fun d _=>?_⟩
    show (if right t.1=true then Res.ok t.1 d else Res.bad (t::d))=_
    rw [if_pos hr]
   ·rw [if_neg hr] at h;cases h
 ·cases l with
  | nil =>
   have h:Res.bad []=Res.bad m:=h
   injection h with h
   subst h
   exact ⟨[],rfl,.inl rfl⟩
  | cons t l =>
   have h:(if right t.1=true then Res.ok t.1 l else Res.bad (t::l))=.bad m:=h
   by_cases hr:right t.1=true
   ·rw [if_pos hr] at h;cases h
   ·rw [if_neg hr] at h
    injection h with h
    subst h
    exact ⟨[],rfl,.inl rfl⟩
theorem loc_ret {α:Type} (a:α):Loc (fun l=>Res.ok a l) :=
 ⟨fun l b m h=>by injection h with h1 h2;subst h1 h2;exact ⟨[],rfl,fun d _=>rfl⟩,fun l m h=>by cases h⟩
theorem loc_bind {α β:Type} {p:List Tok->Res α} {f:α->List Tok->Res β} (h:Loc p) (k:∀ a,Loc (f a)):Loc (fun l=>(p l).bind f):=by
 refine ⟨fun l b m hb=>?_,fun l m hb=>?_⟩
 ·have hb:(p l).bind f=.ok b m:=hb
  cases hp:p l with
  | bad l1=>rw [hp] at hb;cases hb
  | ok a l1 =>
   rw [hp] at hb
   have hb:f a l1=.ok b m:=hb
   obtain ⟨c1,e1,g1⟩:=h.ok l a l1 hp
   obtain ⟨c2,e2,g2⟩:=(k a).ok l1 b m hb
   refine ⟨c1++c2,by rw [e1,e2,List.append_assoc],fun d hd=>?_⟩
   show (p (c1++c2++d)).bind f=_
   rw [List.append_assoc,g1 (c2++d) (by rw [e2];exact (List.prefix_append_right_inj _).2 hd)]
   exact g2 d hd
 ·have hb:(p l).bind f=.bad m:=hb
  cases hp:p l with
  | bad l1 =>
   rw [hp] at hb
   have hb:Res.bad l1=(Res.bad m:Res β):=hb
   injection hb with hb
   subst hb
   obtain ⟨c,e,g⟩:=h.bad l l1 hp
   refine ⟨c,e,?_⟩
   rcases g with g | ⟨a,g⟩
   ·exact .inl (by show (p c).bind f=_;rw [g];rfl)
   ·rcases loc_nil (k a) with g2 | ⟨b,g2⟩
    ·exact .inl (by show (p c).bind f=_;rw [g];exact g2)
    ·exact .inr ⟨b,by show (p c).bind f=_;rw [g];exact g2⟩
  | ok a l1 =>
   rw [hp] at hb
   have hb:f a l1=.bad m:=hb
   obtain ⟨c1,e1,g1⟩:=h.ok l a l1 hp
   obtain ⟨c2,e2,g2⟩:=(k a).bad l1 m hb
   refine ⟨c1++c2,by rw [e1,e2,List.append_assoc],?_⟩
   have hc:=g1 c2 (by rw [e2];exact List.prefix_append _ _)
   rcases g2 with g2 | ⟨b,g2⟩
   ·exact .inl (by show (p (c1++c2)).bind f=_;rw [hc];exact g2)
   ·exact .inr ⟨b,by show (p (c1++c2)).bind f=_;rw [hc];exact g2⟩
def Eats {α:Type} (p:List Tok->Res α):Prop:=∀ l a m,p l=.ok a m->m.length < l.length
theorem loc_len {α:Type} {p:List Tok->Res α} (h:Loc p) {l m:List Tok} {a:α} (hp:p l=.ok a m):m.length<=l.length:=by
 obtain ⟨c,e,_⟩:=h.ok l a m hp
 rw [e,aK];omega
theorem eats_next (right:Txt->Bool):Eats (next right):=by
 intro l a m h
 cases l with
 | nil=>cases h
 | cons t l =>
  have h:(if right t.1=true then Res.ok t.1 l else Res.bad (t::l))=.ok a m:=h
  by_cases hr:right t.1=true
  ·rw [if_pos hr] at h
   injection h with _ h2
   subst h2
   simp
  ·rw [if_neg hr] at h;cases h
theorem eats_bind {α β:Type} {p:List Tok->Res α} {f:α->List Tok->Res β} (h:Eats p) (k:∀ a,Loc (f a)):Eats (fun l=>(p l).bind f):=by
 intro l b m hb
 have hb:(p l).bind f=.ok b m:=hb
 cases hp:p l with
 | bad l1=>rw [hp] at hb;cases hb
 | ok a l1 =>
  rw [hp] at hb
  have h1:=h l a l1 hp
  have h2:=loc_len (k a) (show f a l1=.ok b m from hb)
  omega
theorem many_loc {α:Type} {begins:Txt->Bool} {read:List Tok->Res α} (h:Loc read) (he:Eats read):∀ (n:Nat) (l:List Tok) (fuel:Nat) (acc:List α),l.length=n->l.length<=fuel ->
  (∀ xs m,many begins read fuel acc l=.ok xs m->∃ c,l=c++m/\∀ d,d <+: m->∀ F,(c++d).length<=F->many begins read F acc (c++d)=.ok xs d) /\
  (∀ m,many begins read fuel acc l=.bad m->∃ c,l=c++m/\∀ F,c.length<=F->(many begins read F acc c=.bad []∨∃ xs,many begins read F acc c=.ok xs [])):=by
 intro n
 induction n using Nat.strongRecOn with
 | _ n ih =>
  intro l fuel acc hn hf
  have mnil:∀ F,many begins read F acc []=.ok acc []:=fun F=>by cases F <;> rfl
  cases l with
  | nil =>
   rw [mnil]
   refine ⟨fun xs m hm=>?_,fun m hm=>by cases hm⟩
   injection hm with h1 h2
   subst h1 h2
   refine ⟨[],rfl,fun d hd F _=>?_⟩
   rw [List.prefix_nil.1 hd]
   exact mnil F
  | cons t l =>
   obtain ⟨fuel,rfl⟩:∃ f,fuel=f+1:=⟨fuel - 1,by simp at hf;omega⟩
   have step:∀ F u r,many begins read (F+1) acc (u::r)=if begins u.1=true then (read (u::r)).bind fun a l=>many begins read F (acc++[a]) l else .ok acc (u::r):=fun _ _ _=>rfl
   rw [step]
   by_cases hb:begins t.1=true
   ·rw [if_pos hb]
    cases hr:read (t::l) with
    | bad l1 =>
     refine ⟨fun xs m hm=>(by cases hm),fun m hm=>?_⟩
     have hm:Res.bad l1=(Res.bad m:Res (List α)):=hm
     injection hm with hm
     subst hm
     obtain ⟨c,e,g⟩:=h.bad _ _ hr
     refine ⟨c,e,fun F hF=>?_⟩
     cases c with
     | nil=>exact .inr ⟨acc,mnil F⟩
     | cons u c =>
      obtain ⟨F,rfl⟩:∃ f,F=f+1:=⟨F - 1,by simp at hF;omega⟩
      have hu:u=t:=by rw [List.cons_append] at e;injection e with e _;exact e.symm
      rw [step,hu,if_pos hb]
      rw [hu] at g
      rcases g with g | ⟨a,g⟩
      ·exact .inl (by rw [g];rfl)
      ·refine .inr ⟨acc++[a],?_⟩
       rw [g]
       show many begins read F (acc++[a]) []=_
       cases F <;> rfl
    | ok a l1 =>
     have hlt:=he _ _ _ hr
     obtain ⟨c1,e1,g1⟩:=h.ok _ _ _ hr
     obtain ⟨i1,i2⟩:=ih l1.length (by omega) l1 fuel (acc++[a]) rfl (by simp at hf hlt;omega)
     have c1ne:∃ u c',c1=u::c':=by
      cases c1 with
      | nil=>rw [List.nil_append] at e1;rw [<-e1] at hlt;omega
      | cons u c'=>exact ⟨u,c',rfl⟩
     obtain ⟨u,c',rfl⟩:=c1ne
     have hu:u=t:=by rw [List.cons_append] at e1;injection e1 with e1 _;exact e1.symm
     subst hu
     refine ⟨fun xs m hm=>?_,fun m hm=>?_⟩
     ·obtain ⟨c2,e2,g2⟩:=i1 xs m hm
      refine ⟨u::c'++c2,by rw [e1,e2,List.append_assoc],fun d hd F hF=>?_⟩
      obtain ⟨F,rfl⟩:∃ f,F=f+1:=⟨F - 1,by simp at hF;omega⟩
      have hc:=g1 (c2++d) (by rw [e2];exact (List.prefix_append_right_inj _).2 hd)
      rw [List.append_assoc] at hF ⊢
      rw [List.cons_append] at hc hF ⊢
      rw [step,if_pos hb,hc]
      exact g2 d hd F (by simp at hF ⊢;omega)
     ·obtain ⟨c2,e2,g2⟩:=i2 m hm
      refine ⟨u::c'++c2,by rw [e1,e2,List.append_assoc],fun F hF=>?_⟩
      obtain ⟨F,rfl⟩:∃ f,F=f+1:=⟨F - 1,by simp at hF;omega⟩
      have hc:=g1 c2 (by rw [e2];exact List.prefix_append _ _)
      rw [List.cons_append] at hc hF ⊢
      rw [step,if_pos hb,hc]
      exact g2 F (by simp at hF;omega)
   ·rw [if_neg hb]
    refine ⟨fun xs m hm=>?_,fun m hm=>by cases hm⟩
    injection hm with h1 h2
    subst h1 h2
    refine ⟨[],rfl,fun d hd F hF=>?_⟩
    rw [List.nil_append] at hF ⊢
    cases d with
    | nil=>exact mnil F
    | cons u d =>
     obtain ⟨F,rfl⟩:∃ f,F=f+1:=⟨F - 1,by simp at hF;omega⟩
     have hu:u=t:=(List.cons_prefix_cons.1 hd).1
     subst hu
     rw [step,if_neg hb]
theorem loc_many {α:Type} {begins:Txt->Bool} {read:List Tok->Res α} (h:Loc read) (he:Eats read):Loc (fun l=>many begins read l.length [] l):=by
 refine ⟨fun l a m hm=>?_,fun l m hm=>?_⟩
 ·obtain ⟨c,e,g⟩:=(many_loc (begins:=begins) h he l.length l l.length [] rfl (ag _)).1 a m hm
  exact ⟨c,e,fun d hd=>g d hd _ (ag _)⟩
 ·obtain ⟨c,e,g⟩:=(many_loc (begins:=begins) h he l.length l l.length [] rfl (ag _)).2 m hm
  exact ⟨c,e,g _ (ag _)⟩
theorem loc_need (w:Txt):Loc (need w):=loc_bind (loc_next _) (fun _=>loc_ret _)
theorem loc_number:Loc number:=loc_bind (loc_next _) (fun _=>loc_ret _)
theorem loc_count:Loc count:=loc_bind (loc_next _) (fun _=>loc_ret _)
theorem loc_name:Loc name:=loc_next _
theorem loc_names:Loc names:=loc_bind (loc_next _) (fun _=>loc_ret _)
theorem loc_picks:∀ (n:Nat) (ws:List ByteArray) (ns:List Int),Loc (picks n ws ns)
 | 0,_,_=>loc_ret _
 | n+1,_,_=>loc_bind loc_name (fun _=>loc_bind loc_number (fun _=>loc_picks n _ _))
theorem loc_states:∀ (n:Nat) (ws:List ByteArray),Loc (states n ws)
 | 0,_=>loc_ret _
 | n+1,_=>loc_bind loc_name (fun _=>loc_states n _)
theorem loc_field1 (k:Nat) (nm:ByteArray):Loc (field1 k nm):=by
 unfold field1
 by_cases k0:k=0
 ·simp only [if_pos k0];exact loc_bind loc_number (fun _=>loc_ret _)
 simp only [if_neg k0]
 by_cases k3:k=3
 ·simp only [if_pos k3];exact loc_bind loc_count (fun _=>loc_bind (loc_picks _ _ _) (fun _=>loc_ret _))
 simp only [if_neg k3]
 by_cases k6:k=6
 ·simp only [if_pos k6];exact loc_bind loc_name (fun _=>loc_ret _)
 simp only [if_neg k6]
 by_cases k8:k=8
 ·simp only [if_pos k8];exact loc_bind loc_name (fun _=>loc_bind loc_name (fun _=>loc_ret _))
 simp only [if_neg k8]
 by_cases k7:k=7
 ·simp only [if_pos k7];exact loc_bind loc_name (fun _=>loc_bind loc_name (fun _=>loc_bind loc_number (fun _=>loc_bind loc_number (fun _=>loc_ret _))))
 simp only [if_neg k7]
 by_cases k2:k=2
 ·simp only [if_pos k2];exact loc_bind loc_number (fun _=>loc_bind loc_number (fun _=>loc_ret _))
 simp only [if_neg k2]
 by_cases k4:k=4
 ·simp only [if_pos k4];exact loc_bind loc_names (fun _=>loc_bind loc_number (fun _=>loc_bind loc_number (fun _=>loc_ret _)))
 ·simp only [if_neg k4];exact loc_bind loc_name (fun _=>loc_bind loc_number (fun _=>loc_bind loc_number (fun _=>loc_ret _)))
theorem field_eq:field=fun l=>(next isWord l).bind fun t l=>(name l).bind fun nm l=>field1 ((wordOf t).getD 0) (ofT nm) l:=by
 funext l
 cases l with
 | nil=>rfl
 | cons t l =>
  show (match wordOf t.1 with
   | none=>Res.bad (t::l)
   | some k=>(name l).bind fun nm l=>field1 k (ofT nm) l)=((if isWord t.1=true then Res.ok t.1 l else Res.bad (t::l))).bind _
  unfold isWord
  cases hw:wordOf t.1 with
  | none=>rfl
  | some k =>
   rw [if_pos (show (some k).isSome=true from rfl)]
   show _=(name l).bind fun nm l=>field1 ((wordOf t.1).getD 0) (ofT nm) l
   rw [hw];rfl
theorem loc_field:Loc field:=by rw [field_eq];exact loc_bind (loc_next _) (fun _=>loc_bind loc_name (fun _=>loc_field1 _ _))
theorem eats_field:Eats field:=by rw [field_eq];exact eats_bind (eats_next _) (fun _=>loc_bind loc_name (fun _=>loc_field1 _ _))
theorem eats_need (w:Txt):Eats (need w):=eats_bind (eats_next _) (fun _=>loc_ret _)
theorem loc_kind1:∀ _:Unit,Loc (fun l=>(name l).bind fun nm l=>(number l).bind fun lo l=>(number l).bind fun hi l=>(many isWord field l.length [] l).bind fun fs l=>Res.ok ((ofT nm,lo,hi,fs):Knd) l):=fun _ =>
 loc_bind loc_name (fun _=>loc_bind loc_number (fun _=>loc_bind loc_number (fun _=>loc_bind (loc_many loc_field eats_field) (fun _=>loc_ret _))))
theorem loc_kind:Loc kind:=loc_bind (loc_need _) loc_kind1
theorem eats_kind:Eats kind:=eats_bind (eats_need _) loc_kind1
theorem loc_move1:∀ _:Unit,Loc (fun l=>(number l).bind fun a l=>(number l).bind fun b l=>Res.ok ((a,b):Int × Int) l):=fun _=>loc_bind loc_number (fun _=>loc_bind loc_number (fun _=>loc_ret _))
theorem loc_move:Loc move:=loc_bind (loc_need _) loc_move1
theorem eats_move:Eats move:=eats_bind (eats_need _) loc_move1
theorem loc_life1:∀ _:Unit,Loc (fun l=>(name l).bind fun nm l=>(count l).bind fun n l=>(states n [] l).bind fun ss l=>(many (fun t=>t == sMove) move l.length [] l).bind fun ms l=>Res.ok ((ofT nm,ss,ms):Lif) l):=fun _ =>
 loc_bind loc_name (fun _=>loc_bind loc_count (fun _=>loc_bind (loc_states _ _) (fun _=>loc_bind (loc_many loc_move eats_move) (fun _=>loc_ret _))))
theorem loc_life:Loc life:=loc_bind (loc_need _) loc_life1
theorem eats_life:Eats life:=eats_bind (eats_need _) loc_life1
theorem loc_rule1:∀ _:Unit,Loc (fun l=>(name l).bind fun nm l=>(name l).bind fun k l=>(names l).bind fun a l=>(names l).bind fun b l=>(number l).bind fun n l=>Res.ok ((ofT nm,ofT k,ofT a,ofT b,n):Rul) l):=fun _ =>
 loc_bind loc_name (fun _=>loc_bind loc_name (fun _=>loc_bind loc_names (fun _=>loc_bind loc_names (fun _=>loc_bind loc_number (fun _=>loc_ret _)))))
theorem loc_rule:Loc rule:=loc_bind (loc_need _) loc_rule1
theorem eats_rule:Eats rule:=eats_bind (eats_need _) loc_rule1
end Sx
namespace Sx
theorem scan_words (s:Txt):∀ (f i:Nat),i<=s.length->∀ t∈(Vm.scan s f i).1.map (fun t=>Vm.piece s t.1 t.2),t.all Vm.isTok=true/\t≠[]
 | 0,_,_,t,h=>by cases h
 | f+1,i,hi,t,h=>by
  have hs2:=(Vm.skipN_le s i).2 hi
  have hw:=Vm.wordAt_le s (Vm.skipN s i) hs2
  rw [Vm.scan_eq] at h
  by_cases he:Vm.wordAt s (Vm.skipN s i)=[]
  ·rw [if_pos he] at h;cases h
  ·rw [if_neg he,List.map_cons] at h
   rcases aL h with rfl | h
   ·rw [Vm.piece_word]
    refine ⟨?_,he⟩
    unfold Vm.wordAt
    exact List.all_eq_true.2 fun c hc=>by
     have:∀ (l:Txt),∀ c∈l.takeWhile Vm.isTok,Vm.isTok c=true:=by
      intro l
      induction l with
      | nil=>intro c hc;cases hc
      | cons d l ih =>
       intro c hc
       rw [List.takeWhile_cons] at hc
       split at hc
       ·rename_i hd
        rcases aL hc with rfl | hc
        ·exact hd
        ·exact ih c hc
       ·cases hc
     exact this _ c hc
   ·exact scan_words s f _ hw t h
end Sx
namespace Sg
def FG (f:Fld):Prop:=Sx.fldB f=true/\(Sc.words f).length<=3
theorem fldB0 {n:ByteArray} {lo:Int} (h:Sx.nm n=true) (hl:-1048576<=lo/\lo<=1048576):FG (n,be,be,0,lo,0,[],[]):=by
 refine ⟨?_,Nat.zero_le _⟩
 show (Sx.nm n && (true && (true && (true && (true && (decide (-1048576<=lo) && decide (lo<=1048576)))))))=true
 rw [h,ac hl.1,ac hl.2];rfl
theorem fldB1 {n o:ByteArray} {lo hi:Int} (h:Sx.nm n=true) (ho:Sx.nm o=true) (h1:0<=lo) (h2:lo<=hi) (h3:hi<=65536):FG (n,o,be,1,lo,hi,[],[]):=by
 refine ⟨?_,Nat.zero_le _⟩
 show (Sx.nm n && (true && (true && (Sx.nm o && (decide (0<=lo) && (decide (lo<=hi) && decide (hi<=65536)))))))=true
 rw [h,ho,ac h1,ac h2,ac h3];rfl
theorem fldB2 {n:ByteArray} {lo hi:Int} (h:Sx.nm n=true) (h1:-1048576<=lo) (h2:lo<=hi) (h3:hi<=1048576):FG (n,be,be,2,lo,hi,[],[]):=by
 refine ⟨?_,Nat.zero_le _⟩
 show (Sx.nm n && (true && (true && (true && (decide (-1048576<=lo) && (decide (lo<=hi) && decide (hi<=1048576)))))))=true
 rw [h,ac h1,ac h2,ac h3];rfl
theorem fldB4 {n o:ByteArray} {lo hi:Int} (h:Sx.nm n=true) (ho:(Sx.em o || Sx.nm o)=true) (h1:-1048576<=lo) (h2:lo<=hi) (h3:hi<=1048576):FG (n,o,be,4,lo,hi,[],[]):=by
 refine ⟨?_,Nat.zero_le _⟩
 show (Sx.nm n && (true && (true && ((Sx.em o || Sx.nm o) && (decide (-1048576<=lo) && (decide (lo<=hi) && decide (hi<=1048576)))))))=true
 rw [h,ho,ac h1,ac h2,ac h3];rfl
theorem fldB5 {n o:ByteArray} {lo hi:Int} (h:Sx.nm n=true) (ho:Sx.nm o=true) (h1:0<=lo) (h2:lo<=hi) (h3:hi<=32):FG (n,o,be,5,lo,hi,[],[]):=by
 refine ⟨?_,Nat.zero_le _⟩
 show (Sx.nm n && (true && (true && (Sx.nm o && (decide (0<=lo) && (decide (lo<=hi) && decide (hi<=32)))))))=true
 rw [h,ho,ac h1,ac h2,ac h3];rfl
theorem fldB6 {n o:ByteArray} (h:Sx.nm n=true) (ho:Sx.nm o=true):FG (n,o,be,6,0,0,[],[]):=by
 refine ⟨?_,Nat.zero_le _⟩
 show (Sx.nm n && (true && (true && (true && (true && Sx.nm o)))))=true
 rw [h,ho];rfl
theorem fldB7 {n o u:ByteArray} {lo hi:Int} (h:Sx.nm n=true) (ho:Sx.nm o=true) (hu:Sx.nm u=true) (h1:0<=lo) (h2:lo<=hi) (h3:hi<=1048576):FG (n,o,u,7,lo,hi,[],[]):=by
 refine ⟨?_,Nat.zero_le _⟩
 show (Sx.nm n && (true && (Sx.nm o && (Sx.nm u && (decide (0<=lo) && (decide (lo<=hi) && decide (hi<=1048576)))))))=true
 rw [h,ho,hu,ac h1,ac h2,ac h3];rfl
theorem fldB8 {n o u:ByteArray} (h:Sx.nm n=true) (ho:Sx.nm o=true) (hu:Sx.nm u=true):FG (n,o,u,8,0,0,[],[]):=by
 refine ⟨?_,Nat.zero_le _⟩
 show (Sx.nm n && (true && (true && (true && (Sx.nm o && Sx.nm u)))))=true
 rw [h,ho,hu];rfl
theorem fldB3 {n:ByteArray} {ws:List ByteArray} {ns:List Int} (h:Sx.nm n=true) (h1:1<=ws.length) (h2:ws.length<=3) (h3:ws.length=ns.length) (h4:∀ x∈ns,0<=x/\x<=4) (h5:0 < ns.sum) (h6:ws.all Sx.nm=true):FG (n,be,be,3,0,0,ws,ns):=by
 refine ⟨?_,h2⟩
 show (Sx.nm n && (true && (true && (true && (true && Sx.pickB ws ns)))))=true
 have h7:Sx.pickB ws ns=true:=by
  unfold Sx.pickB Sx.within Sx.most
  simp only [Bool.and_eq_true,decide_eq_true_eq,List.all_eq_true]
  refine ⟨fun x hx=>?_,by omega,h3,h5,List.all_eq_true.1 h6⟩
  have:=h4 x hx
  omega
 rw [h,h7];rfl
theorem Plain.fg {fs:List Fld} (h:Plain fs):∀ f∈fs,FG f:=by
 cases h with
 | none=>intro f hf;cases hf
 | size lo d _ _ _ _=>intro f hf;simp only [List.mem_singleton] at hf;subst hf;exact fldB2 (by decide) (by omega) (by omega) (by omega)
 | tag k ws h1 h2 h3 h4 h5 =>
  intro f hf;simp only [List.mem_singleton] at hf;subst hf
  have hl:(colors.take k).length=k:=by rw [List.length_take];exact Nat.min_eq_left h2
  exact fldB3 (by decide) (by omega) (by omega) (by omega) h4 (by omega) (by rcases (show k=1∨k=2∨k=3 by omega) with rfl | rfl | rfl <;> decide)
 | born lo d lo2 d2 _ _ _ _ _ _ _ _ =>
  intro f hf
  simp only [List.mem_cons,List.not_mem_nil,or_false] at hf
  rcases hf with rfl | rfl
  ·exact fldB4 (by decide) (by decide) (by omega) (by omega) (by omega)
  ·exact fldB4 (by decide) (by decide) (by omega) (by omega) (by omega)
 | state lo d _ _ _ _=>intro f hf;simp only [List.mem_singleton] at hf;subst hf;exact fldB5 (by decide) (by decide) (by omega) (by omega) (by omega)
 | low a b c d _ _ _ _ _ _ _ _ =>
  intro f hf
  simp only [List.mem_cons,List.not_mem_nil,or_false] at hf
  rcases hf with rfl | rfl
  ·exact fldB2 (by decide) (by omega) (by omega) (by omega)
  ·exact fldB2 (by decide) (by omega) (by omega) (by omega)
structure KG (k:Knd):Prop where
 nm:Sx.nm k.1=true
 lo:0<=k.2.1
 le:k.2.1<=k.2.2.1
 fs:∀ f∈Sc.flds k,FG f
theorem FG.nm {f:Fld} (h:FG f):Sx.nm (Sc.nm f)=true:=by
 have:=h.1
 unfold Sx.fldB at this
 exact (Bool.and_eq_true_iff.1 this).1
theorem Same.fg {k:Knd} {fs:List Fld} (h:Same k fs) (hk:KG k):∀ f∈fs,FG f:=by
 cases h with
 | none=>intro f hf;cases hf
 | some c h _=>intro f hf;simp only [List.mem_singleton] at hf;subst hf;exact fldB8 (by decide) (hk.fs _ (List.getElem_mem h)).nm (by decide)
theorem KG.total {k:Knd} {nm:ByteArray} (h:KG k) (hn:Sx.nm nm=true):KG (setF k (Sc.flds k++[totalF nm])):=by
 refine ⟨h.nm,h.lo,h.le,fun f hf=>?_⟩
 rcases List.mem_append.1 (show f∈Sc.flds k++[totalF nm] from hf) with hf | hf
 ·exact h.fs f hf
 ·simp only [List.mem_singleton] at hf;subst hf;exact fldB6 (by decide) hn
theorem Part.fg {nm:ByteArray} {ks:List Knd} {tq:Nat} {h:tq < ks.length} {fs:List Fld} {ks':List Knd} (hp:Part nm ks tq h fs ks') (hn:Sx.nm nm=true) (hk:∀ k∈ks,KG k):(∀ k∈ks',KG k)/\∀ f∈fs,FG f:=by
 cases hp with
 | none=>exact ⟨hk,fun f hf=>by cases hf⟩
 | some lo d _ _ _ _ hx =>
  refine ⟨fun k hkm=>?_,fun f hf=>?_⟩
  ·rcases List.mem_or_eq_of_mem_set hkm with hkm | rfl
   ·exact hk k hkm
   ·exact (hk _ (List.getElem_mem h)).total hn
  ·simp only [List.mem_singleton] at hf;subst hf;exact fldB7 (by decide) (by decide) (by decide) (by omega) (by omega) (by omega)
theorem Body.fg {nm:ByteArray} {ks:List Knd} {fs:List Fld} {ks':List Knd} (h:Body nm ks fs ks') (hn:Sx.nm nm=true) (hk:∀ k∈ks,KG k):(∀ k∈ks',KG k)/\∀ f∈fs,FG f:=by
 cases h with
 | nil lo hlo =>
  have:=okLo_bd' hlo
  refine ⟨hk,fun f hf=>?_⟩
  simp only [List.mem_singleton] at hf;subst hf;exact fldB0 (by decide) (by omega)
 | cons _ tq h lo flo hi same part _ hlo _ _ _ _ hs hp =>
  have:=okLo_bd' hlo
  obtain ⟨p1,p2⟩:=hp.fg hn hk
  have hkt:=hk _ (List.getElem_mem h)
  refine ⟨p1,fun f hf=>?_⟩
  simp only [List.mem_append,List.mem_cons,List.not_mem_nil,or_false] at hf
  rcases hf with ((rfl | rfl) | hf) | hf
  ·exact fldB0 (by decide) (by omega)
  ·exact fldB1 (by decide) hkt.nm (by omega) (by omega) (by omega)
  ·exact hs.fg hkt f hf
  ·exact p2 f hf
theorem Kind.kg {ks:List Knd} {k:Knd} {ks':List Knd} (h:Kind ks k ks') (hk:∀ k∈ks,KG k) (hn:ks.length<=2):∀ x∈ks'++[k],KG x:=by
 obtain ⟨h1,h2,h3,h4,h5,hf⟩:=h
 have hnm:Sx.nm k.1=true:=by
  rw [h1]
  rcases (show ks.length=0∨ks.length=1∨ks.length=2 by omega) with h | h | h <;> rw [h] <;> decide
 generalize hfs:Sc.flds k=fl at hf
 cases hf with
 | mk fs ks' by_ first second hb hby hp hs =>
  obtain ⟨b1,b2⟩:=hb.fg hnm hk
  intro x hx
  rcases List.mem_append.1 hx with hx | hx
  ·exact b1 x hx
  ·simp only [List.mem_singleton] at hx
   subst hx
   refine ⟨hnm,h2,h4,fun f hf=>?_⟩
   rw [hfs] at hf
   simp only [List.mem_append] at hf
   rcases hf with ((hf | hf) | hf) | hf
   ·exact b2 f hf
   ·rcases hby with rfl | ⟨_,k0,hk0,rfl⟩
    ·cases hf
    ·simp only [List.mem_singleton] at hf
     subst hf
     exact fldB1 (by decide) (b1 k0 (List.mem_of_getElem? hk0)).nm (by decide) (by decide) (by decide)
   ·exact hp.fg f hf
   ·rcases hs with rfl | ⟨hs,_⟩
    ·cases hf
    ·exact hs.fg f hf
theorem Kinds.kg {ks:List Knd} (h:Kinds ks):ks.length<=3->∀ k∈ks,KG k:=by
 induction h with
 | nil=>intro _ k hk;cases hk
 | snoc ks k ks' h hk ih =>
  intro hl
  have h3:=hk.klen
  rw [aK,List.length_singleton] at hl
  exact hk.kg (ih (by omega)) (by omega)
theorem KG.kndB {k:Knd} (h:KG k) (hk:KOk k):Sx.kndB k=true:=by
 unfold Sx.kndB Sx.span
 have hl:(Sc.flds k).length<=10:=by rcases hk.len with h | ⟨h,_⟩ <;> omega
 have hh:=hk.hi
 have h1:=h.lo
 have h2:=h.le
 simp only [Bool.and_eq_true,decide_eq_true_eq,List.all_eq_true]
 exact ⟨h.nm,⟨by omega,by omega,by omega⟩,hl,fun f hf=>(h.fs f hf).1⟩
theorem Life.lifB {x:Lif} (h:Life x):Sx.lifB x=true/\x.2.1.length<=4/\x.2.2.length<=5:=by
 cases h with
 | mk m a b h1 h2 ha hb =>
  rcases (show m=2∨m=3∨m=4 by omega) with rfl | rfl | rfl <;> rcases ha with rfl | rfl <;> rcases hb with rfl | rfl <;> decide
theorem nm_snoc {p:ByteArray} {s:ByteArray} (hs:1<=s.size) (hp:p.size<=5) (hpn:Sx.nm p=true) (hsn:Sx.nm s=true):Sx.nm (p++s.extract 0 1)=true:=by
 obtain ⟨c,hc⟩:∃ c,(s.extract 0 1).data.toList=[c]/\Sx.alnumB c=true:=by
  have hne:0 < s.data.toList.length:=by rw [strLen];exact hs
  refine ⟨s.data.toList[0],?_,?_⟩
  ·rw [ByteArray.data_extract,Array.toList_extract,List.extract_eq_take_drop]
   generalize s.data.toList=l at hne
   cases l with
   | nil=>cases hne
   | cons a l=>rfl
  ·unfold Sx.nm Sx.nameB at hsn
   simp only [Bool.and_eq_true,List.all_eq_true] at hsn
   exact hsn.2 _ (List.getElem_mem hne)
 unfold Sx.nm Sx.nameB at hpn ⊢
 simp only [Bool.and_eq_true,decide_eq_true_eq,List.all_eq_true] at hpn ⊢
 obtain ⟨⟨⟨a1,a2⟩,a3⟩,a4⟩:=hpn
 have hl:(p++s.extract 0 1).data.toList=p.data.toList++[c]:=by rw [<-hc.1];simp
 rw [hl]
 have hps:p.data.toList.length=p.size:=strLen p
 refine ⟨⟨⟨by rw [aK];omega,by rw [aK,hps];simp;omega⟩,?_⟩,fun x hx=>?_⟩
 ·cases hd:p.data.toList with
  | nil=>rw [hd] at a1;simp at a1
  | cons u l=>rw [hd] at a3;exact a3
 ·rcases List.mem_append.1 hx with hx | hx
  ·exact a4 x hx
  ·rw [List.mem_singleton] at hx;subst hx;exact hc.2
theorem Rule.rulB {k:Knd} {r:Rul} (h:Rule k r true) (hk:KG k) (ho:KOk k):Sx.rulB r=true:=by
 have mk:∀ (p a b:ByteArray) (n:Int),p.size<=5->Sx.nm p=true->(Sx.em a || Sx.nm a)=true->(Sx.em b || Sx.nm b)=true->(!(Sx.em a && Sx.em b))=true->-1048576<=n->n<=1048576->Sx.rulB (p++k.1.extract 0 1,k.1,a,b,n)=true:=by
  intro p a b n hp hpn ha hb hab h1 h2
  show (Sx.nm (p++k.1.extract 0 1) && (Sx.nm k.1 && ((Sx.em a || Sx.nm a) && ((Sx.em b || Sx.nm b) && (!(Sx.em a && Sx.em b) && (decide (-1048576<=n) && decide (n<=1048576)))))))=true
  rw [nm_snoc ho.n1 hp hpn hk.nm,hk.nm,ha,hb,hab,ac h1,ac h2];rfl
 generalize hb:true=tt at h
 cases h with
 | none=>cases hb
 | low z _ _ _=>exact mk _ _ _ _ (by decide) (by decide) (by decide) (by decide) (by decide) (by omega) (by omega)
 | most i hi z _ _ _ =>
  have:=ho.bd _ (List.getElem_mem hi)
  unfold FBd at this
  exact mk _ _ _ _ (by decide) (by decide) (by decide) (by decide) (by decide) (by omega) (by omega)
 | least i hi z _ _ _ =>
  have:=ho.bd _ (List.getElem_mem hi)
  unfold FBd at this
  exact mk _ _ _ _ (by decide) (by decide) (by decide) (by decide) (by decide) (by omega) (by omega)
theorem Rules.rulB {ks:List Knd} {i:Nat} {rs:List Rul} (h:Rules ks i rs) (hk:∀ k∈ks,KG k/\KOk k):rs.length<=2/\∀ r∈rs,Sx.rulB r=true:=by
 induction h with
 | nil=>exact ⟨Nat.zero_le _,fun r hr=>by cases hr⟩
 | step i hi rs r b _ hl hr ih =>
  obtain ⟨i1,i2⟩:=ih
  cases b with
  | false=>exact ⟨i1,i2⟩
  | true =>
   refine ⟨by rw [if_pos rfl,aK,List.length_singleton];omega,fun x hx=>?_⟩
   rw [if_pos rfl] at hx
   rcases List.mem_append.1 hx with hx | hx
   ·exact i2 x hx
   ·rw [List.mem_singleton] at hx;subst hx
    exact hr.rulB (hk _ (List.getElem_mem hi)).1 (hk _ (List.getElem_mem hi)).2
theorem fld_few {f:Fld} (h:FG f):(Sx.fldT f).length<=9:=by
 have hb:=Sx.fldB_bd h.1
 have hp:=(Sx.picks_short _ _ hb.w hb.n).1
 have hw:=h.2
 unfold Sx.fldT
 split
 ·exact Nat.le_of_ble_eq_true rfl
 split
 ·exact Nat.le_of_ble_eq_true rfl
 split
 ·simp only [List.length_cons];omega
 split
 ·exact Nat.le_of_ble_eq_true rfl
 split
 ·exact Nat.le_of_ble_eq_true rfl
 split
 ·exact Nat.le_of_ble_eq_true rfl
 ·exact Nat.le_of_ble_eq_true rfl
theorem Schema.valid {x:Sch} (h:Schema x):Sx.valid x=0:=by
 cases h with
 | mk ver ks lf i rs v0 v3 k1 k3 hks hlf hrs _ =>
  have hkg:=hks.kg k3
  have hko:=hks.ok k3
  obtain ⟨l1,l2,l3⟩:=hlf.lifB
  obtain ⟨r1,r2⟩:=hrs.rulB fun k hk=>⟨hkg k hk,hko k hk⟩
  have hok:Sx.okB (ver,ks,[lf],rs)=true:=by
   show (Sx.within ver 0 1048576 && (decide (ks.length<=6) && (true && (decide (rs.length<=16) && (ks.all Sx.kndB && ((Sx.lifB lf && true) && rs.all Sx.rulB))))))=true
   have e1:Sx.within ver 0 1048576=true:=by unfold Sx.within;rw [ac v0,ac (by omega)];rfl
   rw [e1,ac (show ks.length<=6 by omega),ac (show rs.length<=16 by omega),List.all_eq_true.2 fun k hk=>(hkg k hk).kndB (hko k hk),l1,List.all_eq_true.2 r2]
   rfl
  have hob:=Sx.okB_bd hok
  have hsh:=(Sx.linesL_short hob).2
  have hlen:∀ l∈Sx.linesL (ver,ks,[lf],rs),(Sx.lineT l).length<=118:=by
   intro l hl
   have h1:=Sx.lineT_le (hsh l hl).2
   have h2:l.length<=9:=by
    rcases aL hl with rfl | hl
    ·exact Nat.le_of_ble_eq_true rfl
    rcases List.mem_append.1 hl with hl | hl
    ·obtain ⟨k,hk,hl⟩:=List.mem_flatMap.1 hl
     rcases aL hl with rfl | hl
     ·exact Nat.le_of_ble_eq_true rfl
     ·obtain ⟨f,hf,rfl⟩:=List.mem_map.1 hl
      exact fld_few ((hkg k hk).fs f hf)
    rcases List.mem_append.1 hl with hl | hl
    ·obtain ⟨k,hk,hl8⟩:=List.mem_flatMap.1 hl
     clear hl
     obtain rfl:k=lf:=List.mem_singleton.1 hk
     rcases aL hl8 with rfl | hl
     ·simp only [List.length_cons,List.length_map];omega
     ·obtain ⟨m,hm,rfl⟩:=List.mem_map.1 hl
      exact Nat.le_of_ble_eq_true rfl
    ·obtain ⟨r,hr,rfl⟩:=List.mem_map.1 hl
     exact Nat.le_of_ble_eq_true rfl
   omega
  have hn:(Sx.linesL (ver,ks,[lf],rs)).length<=60:=by
   have h1:=Sx.flat_le Sx.kndL 11 fun k hk=>(Sx.kndL_short (hob.k k hk)).1
   show (_++(([lf].flatMap Sx.lifL)++rs.map Sx.rulL):List (List Sx.Txt)).length+1<=60
   rw [aK,aK,List.length_map]
   have h2:([lf].flatMap Sx.lifL).length<=6:=by
    rw [List.flatMap_cons,List.flatMap_nil,List.append_nil]
    show (lf.2.2.map _).length+1<=6
    rw [List.length_map];omega
   have h1:((Sc.kinds (ver,ks,[lf],rs)).flatMap Sx.kndL).length<=ks.length*11:=h1
   omega
  have hs:=Sx.flat_le Sx.lineT 118 hlen
  have:(Sx.linesL (ver,ks,[lf],rs)).length*118<=60*118:=Nat.mul_le_mul_right _ hn
  unfold Sx.valid
  rw [if_pos hok,if_neg (by show ¬ 8192 < ((Sx.linesL (ver,ks,[lf],rs)).flatMap Sx.lineT).length;omega)]
end Sg
namespace Sx
abbrev St:=List Tok × Bool
def Nx {α:Type} (p:List Tok->Res α) (st:St) (a:α) (st':St):Prop :=
 if st.2=true then st'=st else match p st.1 with
  | .ok x l=>a=x/\st'=(l,false)
  | .bad l=>st'=(l,true)
section
variable {α β:Type} {p q:List Tok->Res α} {st st1 st':St} {a:α} {b:β}
theorem nx_failed {l:List Tok}:Nx p (l,true) a (l,true):=by unfold Nx;rw [if_pos rfl]
theorem nx_of_failed {l:List Tok} (h:Nx p (l,true) a st'):st'=(l,true):=by unfold Nx at h;rwa [if_pos rfl] at h
theorem nx_iff {l:List Tok}:Nx p (l,false) a st'↔match p l with
  | .ok x l=>a=x/\st'=(l,false)
  | .bad l=>st'=(l,true):=by
 unfold Nx
 rw [if_neg (by simp)]
theorem nx_ok {l l':List Tok} (h:p l=.ok a l'):Nx p (l,false) a (l',false):=by rw [nx_iff,h];exact ⟨rfl,rfl⟩
theorem nx_bad {l l':List Tok} (h:p l=.bad l'):Nx p (l,false) a (l',true):=by rw [nx_iff,h]
theorem nx_ret (a:α) (st:St):Nx (fun l=>.ok a l) st a st:=by
 obtain ⟨l,f⟩:=st
 cases f
 ·exact nx_ok rfl
 ·exact nx_failed
theorem nx_bind {f:α->List Tok->Res β} (h:Nx p st a st1) (k:Nx (f a) st1 b st'):Nx (fun l=>(p l).bind f) st b st':=by
 obtain ⟨l,e⟩:=st
 cases e
 ·rw [nx_iff] at h
  cases hp:p l with
  | ok x m =>
   rw [hp] at h
   obtain ⟨rfl,rfl⟩:=h
   rw [nx_iff] at k ⊢
   show match (p l).bind f with | .ok x l=>b=x/\st'=(l,false) | .bad l=>st'=(l,true)
   rw [hp];exact k
  | bad m =>
   rw [hp] at h
   subst h
   obtain rfl:=nx_of_failed k
   exact nx_bad (show (p l).bind f=_ by rw [hp];rfl)
 ·obtain rfl:=nx_of_failed h
  obtain rfl:=nx_of_failed k
  exact nx_failed
theorem nx_map {f:α->β} (h:Nx p st a st'):Nx (fun l=>(p l).bind fun a l=>.ok (f a) l) st (f a) st':=nx_bind (f:=fun a l=>.ok (f a) l) h (nx_ret _ _)
theorem nx_any {a2:α} (h:Nx p st a st') (hf:st'.2=true):Nx p st a2 st':=by
 obtain ⟨l,e⟩:=st
 cases e
 ·rw [nx_iff] at h ⊢
  cases hp:p l with
  | ok x m=>rw [hp] at h;obtain ⟨rfl,rfl⟩:=h;cases hf
  | bad m=>rw [hp] at h;exact h
 ·obtain rfl:=nx_of_failed h;exact nx_failed
end
def pk (st:St):Txt:=if st.2=true then [] else match st.1 with
 | []=>[]
 | t::_=>t.1
def step (st:St) (r:Bool):Txt × St:=if st.2=true then ([],st) else match st.1 with
 | []=>([],([],true))
 | t::l=>if r=true then (t.1,(l,false)) else ([],(t::l,true))
theorem nx_step {right:Txt->Bool} {st:St} {r:Bool} (h:st.2=false->∀ t l,st.1=t::l->r=right t.1):Nx (next right) st (step st r).1 (step st r).2:=by
 obtain ⟨l,e⟩:=st
 cases e
 ·cases l with
  | nil=>exact nx_bad rfl
  | cons t l =>
   obtain rfl:=h rfl t l rfl
   by_cases hr:right t.1=true
   ·have e1:step (t::l,false) (right t.1)=(t.1,(l,false)):=by simp [step,hr]
    rw [e1]
    exact nx_ok (show (if right t.1=true then Res.ok t.1 l else .bad (t::l))=_ by rw [if_pos hr])
   ·have e1:step (t::l,false) (right t.1)=([],(t::l,true)):=by simp [step,hr]
    rw [e1]
    exact nx_bad (show (if right t.1=true then Res.ok t.1 l else .bad (t::l))=_ by rw [if_neg hr])
 ·exact nx_failed
theorem nx_step_pk {right:Txt->Bool} {st:St}:Nx (next right) st (step st (right (pk st))).1 (step st (right (pk st))).2:=by
 refine nx_step fun hf t l hl=>?_
 obtain ⟨l',e⟩:=st
 subst hf hl
 rfl
section
variable {α:Type} {begins:Txt->Bool} {read:List Tok->Res α}
theorem many_fuel (he:Eats read):∀ (n:Nat) (l:List Tok) (f g:Nat) (acc:List α),l.length=n->l.length<=f->l.length<=g->many begins read f acc l=many begins read g acc l:=by
 intro n
 induction n using Nat.strongRecOn with
 | _ n ih =>
  intro l f g acc hl hf hg
  cases l with
  | nil=>cases f <;> cases g <;> rfl
  | cons t r =>
   rw [List.length_cons] at hf hg hl
   obtain ⟨f,rfl⟩:∃ f',f=f'+1:=⟨f - 1,by omega⟩
   obtain ⟨g,rfl⟩:∃ g',g=g'+1:=⟨g - 1,by omega⟩
   show (if begins t.1=true then (read (t::r)).bind fun a l=>many begins read f (acc++[a]) l else .ok acc (t::r))=(if begins t.1=true then (read (t::r)).bind fun a l=>many begins read g (acc++[a]) l else .ok acc (t::r))
   by_cases hb:begins t.1=true
   ·rw [if_pos hb,if_pos hb]
    cases hr:read (t::r) with
    | bad m=>rfl
    | ok a m =>
     have h1:=he _ _ _ hr
     rw [List.length_cons] at h1
     show many begins read f (acc++[a]) m=many begins read g (acc++[a]) m
     exact ih m.length (by omega) m f g _ rfl (by omega) (by omega)
   ·rw [if_neg hb,if_neg hb]
theorem nx_many_stop {st:St} {f:Nat} {acc:List α} (h:st.2=false->∀ t r,st.1=t::r->begins t.1=false):Nx (many begins read f acc) st acc st:=by
 obtain ⟨l,e⟩:=st
 cases e
 ·refine nx_ok ?_
  cases f with
  | zero=>rfl
  | succ f =>
   cases l with
   | nil=>rfl
   | cons t r =>
    show (if begins t.1=true then (read (t::r)).bind fun a l=>many begins read f (acc++[a]) l else .ok acc (t::r))=_
    rw [if_neg (by rw [h rfl t r rfl];simp)]
 ·exact nx_failed
theorem nx_many_step {t:Tok} {r:List Tok} {st1 st':St} {acc xs:List α} {a:α} (he:Eats read) (hb:begins t.1=true) (h:Nx read (t::r,false) a st1) (k:Nx (many begins read st1.1.length (acc++[a])) st1 xs st') :
  Nx (many begins read (t::r).length acc) (t::r,false) xs st':=by
 rw [nx_iff] at h ⊢
 rw [show many begins read (t::r).length acc (t::r)=if begins t.1=true then (read (t::r)).bind fun a l=>many begins read r.length (acc++[a]) l else .ok acc (t::r) from rfl,if_pos hb]
 cases hr:read (t::r) with
 | bad m =>
  rw [hr] at h
  subst h
  exact nx_of_failed k
 | ok x m =>
  rw [hr] at h
  obtain ⟨rfl,rfl⟩:=h
  have h1:=he _ _ _ hr
  rw [List.length_cons] at h1
  rw [nx_iff] at k
  rw [show (Res.ok a m).bind (fun a l=>many begins read r.length (acc++[a]) l)=many begins read r.length (acc++[a]) m from rfl,many_fuel he m.length m r.length m.length _ rfl (by omega) (ag _)]
  exact k
def left (st:St):Nat:=if st.2=true then 0 else st.1.length+1
theorem left_eats {t:Tok} {r:List Tok} {a:α} {st1:St} (he:Eats read) (h:Nx read (t::r,false) a st1):left st1 < left (t::r,false):=by
 rw [nx_iff] at h
 cases hr:read (t::r) with
 | bad m=>rw [hr] at h;subst h;show 0 < _+1;omega
 | ok x m =>
  rw [hr] at h
  obtain ⟨_,rfl⟩:=h
  have:=he _ _ _ hr
  show m.length+1 < (t::r).length+1
  omega
end
end Sx
structure PK where
 w:World
 g:Nat
 t:TypeId
 C:Sx.St->Array Value->List Nat->World->Prop
 kc:∀ st cs,Keeps (C st cs)
structure PH (K:PK) (st:Sx.St) (M:List Nat) (bx:List Box) (rs:List Rw) (L:List (List Nat->World->Prop)) (W:World):Prop where
 it:∃ cs,HR K.w [] M ((K.g,K.t,cs)::bx) rs (K.C st cs::L) W
theorem list_swap3 {P Q R:List Nat->World->Prop} {L:List (List Nat->World->Prop)} (h:R∈P::Q::L):R∈Q::P::L:=by
 rcases aL h with rfl | h
 ·exact .tail _ (.head _)
 ·rcases aL h with rfl | h
  ·exact .head _
  ·exact .tail _ (.tail _ h)
section
variable {K:PK} {st:Sx.St} {M:List Nat} {bx:List Box} {rs:List Rw} {r:Rw} {L:List (List Nat->World->Prop)} {W W':World}
theorem PH.bl (h:PH K st M bx rs L W):Below K.w.heap.size K.w W:=by obtain ⟨cs,H⟩:=h.it;exact H.h.bl
theorem PH.below (h:PH K st M bx rs L W) (hb:Below W.heap.size W W'):PH K st M bx rs L W':=by obtain ⟨cs,H⟩:=h.it;exact ⟨cs,H.below hb⟩
theorem PH.drew (h:PH K st M bx rs L W):PH K st M bx rs L W.drew:=h.below ⟨rfl,rfl,rfl,ag _,fun _ _=>rfl⟩
theorem PH.new (h:PH K st M bx rs L W) (cs:Array Value) (t:TypeId) {N:Nat} (hN:W.heap.size=N):PH K st (N::M) ((N,t,cs)::bx) rs L (W.alloc (.cells cs t)):=by
 obtain ⟨cs',H⟩:=h.it
 exact ⟨cs',(H.new cs t hN).bperm (List.Perm.swap _ _ _)⟩
theorem PH.made (h:PH K st M bx rs L W) (cs:Array Value) (t:TypeId) {N:Nat} (hN:W.heap.size=N):PH K st M bx rs ((fun M W=>N∉M/\Blk W N t cs)::L) (W.alloc (.cells cs t)):=by
 obtain ⟨cs',H⟩:=h.it
 exact ⟨cs',(H.made cs t hN).less fun P hP=>list_swap3 hP⟩
theorem PH.set_ {N:Nat} {t:TypeId} {cs:Array Value} {bx1 bx2:List Box} (h:PH K st M (bx1++(N,t,cs)::bx2) rs L W) (i:Nat) (u:Value):PH K st M (bx1++(N,t,cs.setIfInBounds i u)::bx2) rs L (W.setCell ⟨N,i,none⟩ u):=by
 obtain ⟨cs',H⟩:=h.it
 exact ⟨cs',HR.set_ (bx1:=(K.g,K.t,cs')::bx1) H i u⟩
theorem PH.set0 {N:Nat} {t:TypeId} {cs:Array Value} {bx2:List Box} (h:PH K st M ((N,t,cs)::bx2) rs L W) (i:Nat) (u:Value):PH K st M ((N,t,cs.setIfInBounds i u)::bx2) rs L (W.setCell ⟨N,i,none⟩ u):=PH.set_ (bx1:=[]) h i u
theorem PH.push (h:PH K st M bx rs L W) (e:TypeId) (size:Nat):PH K st M bx (⟨e,size,.slice none 0 0,0,[]⟩::rs) L W:=by
 obtain ⟨cs,H⟩:=h.it
 exact ⟨cs,H.push e size⟩
theorem PH.perm {rs':List Rw} (h:PH K st M bx rs L W) (hp:rs.Perm rs'):PH K st M bx rs' L W:=by
 obtain ⟨cs,H⟩:=h.it
 exact ⟨cs,H.perm hp⟩
theorem PH.boxes {bx':List Box} (h:PH K st M bx rs L W) (hb:bx'.Sublist bx):PH K st M bx' rs L W:=by
 obtain ⟨cs,H⟩:=h.it
 exact ⟨cs,H.boxes (hb.cons_cons _)⟩
theorem PH.bperm {bx':List Box} (h:PH K st M bx rs L W) (hb:bx.Perm bx'):PH K st M bx' rs L W:=by
 obtain ⟨cs,H⟩:=h.it
 exact ⟨cs,H.bperm (hb.cons _)⟩
theorem PH.unbox {x:Box} (h:PH K st M (x::bx) rs L W):PH K st M bx rs L W:=h.boxes (.cons _ (List.Sublist.refl _))
theorem PH.bswap {x y:Box} (h:PH K st M (x::y::bx) rs L W):PH K st M (y::x::bx) rs L W:=h.bperm (List.Perm.swap _ _ _)
theorem PH.add (h:PH K st M bx rs L W) {P:List Nat->World->Prop} (hk:Keeps P) (hp:P M W):PH K st M bx rs (P::L) W:=by
 obtain ⟨cs,H⟩:=h.it
 exact ⟨cs,(H.add hk hp).less fun P hP=>list_swap3 hP⟩
theorem PH.less {L':List (List Nat->World->Prop)} (h:PH K st M bx rs L W) (hL:∀ P∈L',P∈L):PH K st M bx rs L' W:=by
 obtain ⟨cs,H⟩:=h.it
 exact ⟨cs,H.less fun P hP=>by
  rcases aL hP with rfl | hP
  ·exact .head _
  ·exact .tail _ (hL P hP)⟩
theorem PH.tail {P:List Nat->World->Prop} (h:PH K st M bx rs (P::L) W):PH K st M bx rs L W:=h.less fun _P hP=>.tail _ hP
theorem PH.fswap {P Q:List Nat->World->Prop} (h:PH K st M bx rs (P::Q::L) W):PH K st M bx rs (Q::P::L) W:=h.less fun _R hR=>list_swap3 hR
theorem PH.flat {α:Type} [Mem α] {l news:List α} {xs us:List Value} (h:PH K st M bx rs ((fun M W=>Flat M W l xs)::L) W) (hu:Flat M W news us):PH K st M bx rs ((fun M W=>Flat M W (l++news) (xs++us))::L) W:=by
 obtain ⟨cs,H⟩:=h.it
 exact (h.add (keeps_flat _ _) ((H.fact (.tail _ (.head _))).append hu)).fswap.tail
theorem PH.box {x:Box} (h:PH K st M bx rs L W) (hx:x∈bx):Blk W x.1 x.2.1 x.2.2:=by
 obtain ⟨cs,H⟩:=h.it
 exact H.h.box (.tail _ hx)
theorem PH.pbox (h:PH K st M bx rs L W):∃ cs,Blk W K.g K.t cs/\K.C st cs M W:=by
 obtain ⟨cs,H⟩:=h.it
 exact ⟨cs,H.h.box (.head _),H.fact (.head _)⟩
theorem PH.fact {P:List Nat->World->Prop} (h:PH K st M bx rs L W) (hP:P∈L):P M W:=by
 obtain ⟨cs,H⟩:=h.it
 exact H.h.fact (.tail _ hP)
theorem PH.mb (h:PH K st M bx rs L W):∀ g∈M,g < W.heap.size:=by
 obtain ⟨cs,H⟩:=h.it
 exact H.h.mb
theorem PH.own (h:PH K st M bx rs L W):∀ r∈rs,W.ownsRow K.w.heap.size r.e r.size r.v r.n r.xs:=by
 obtain ⟨cs,H⟩:=h.it
 exact H.own
theorem PH.form {e:TypeId} {size n:Nat} {v:Value} {xs:List Value} (h:PH K st M bx (⟨e,size,v,n,xs⟩::rs) L W):∃ A c,v=.slice A n c:=own_form (h.own _ (.head _))
theorem PH.freeze {α:Type} [Mem α] {l:List α} {e:TypeId} {size n:Nat} {v:Value} {xs:List Value} (h:PH K st M bx (⟨e,size,v,n,xs⟩::rs) L W) (hs:size=Mem.sz α) (hn:n=l.length) (hf:Flat M W l xs) :
  ∃ A c M',v=.slice A l.length c/\l.length<=c/\c<=9223372036854775807/\PH K st M' bx rs ((fun M W=>SlAt M W A l)::L) W/\∀ g∈M',g∈M:=by
 obtain ⟨cs,H⟩:=h.it
 obtain ⟨A,c,M',h1,h2,h3,h4,h5,_⟩:=H.freeze hs hn hf (fun _ h=>by cases h)
 exact ⟨A,c,M',h1,h2,h3,⟨cs,h4.less fun P hP=>list_swap3 hP⟩,h5⟩
variable {P:Program}
theorem wpList_append_ph {ops:Array Oper} {rest:List Oper} {o:Oper} {a:Act} {Q:Exit->Act->World->Prop} (hgd:o.guard=none) (s x:Operand) (t:TypeId)
  (ho:o.op=.call { callee:=.builtin .append,args:=#[s,x],argTypes:=#[t,t] })
  (e:TypeId) (i:TypeInfo) (z:Value) (size bytes:Nat) (ht:P.underlying t=some (.slice e)) (hi:P.info? e=some i) (hz:i.zero=some z)
  (hsize:i.size=size) (hby:i.bytes=bytes) (hzs:z.cells.size=size) (hsz:0 < size)
  {v:Value} {n:Nat} {xs:List Value} (H:PH K st M bx (⟨e,size,v,n,xs⟩::rs) L W) (hs:a.eval s=v)
  (B:Nat) (A:Option Addr) (m c:Nat) (news:List Value) (hx:a.eval x=.slice A m c) (hr:Reads W B size A m news) (h1:∀ u∈news,u.oneCell'=true)
  (h63:n+m<=maxLen) (hbytes:(n+m)*bytes<=140737488355328)
  (h:∀ v' W' M',PH K st M' bx (⟨e,size,v',n+m,xs++news⟩::rs) L W'->(∀ g∈M,g∈M')->wpList P ops Q rest (a.put o.dst v') W'):wpList P ops Q (o::rest) a W:=by
 obtain ⟨cs,H'⟩:=H.it
 exact wpList_append_rows hgd s x t ho e i z size bytes ht hi hz hsize hby hzs hsz H' hs B A m c news hx hr h1 h63 hbytes fun v' W' M' h2 h3=>h v' W' M' ⟨cs,h2⟩ h3
theorem PH.turn {st':Sx.St} {cs:Array Value} (H:HR K.w [] M ((K.g,K.t,cs)::bx) rs (K.C st cs::L) W) (i:Nat) (u:Value) (hc:K.C st' (cs.setIfInBounds i u) M (W.setCell ⟨K.g,i,none⟩ u)):PH K st' M bx rs L (W.setCell ⟨K.g,i,none⟩ u):=by
 have H1:=(HR.set0 H i u).tail
 exact ⟨_,H1.add (K.kc _ _) hc⟩
end
def RdA {α:Type} [Mem α] (K:PK) (p:List Sx.Tok->Sx.Res α) (st:Sx.St) (bx:List Box) (rs:List Rw) (L:List (List Nat->World->Prop)) (e:Ending) (W':World):Prop :=
 ∃ a us st' M',e=.returned (.agg us.toArray)/\Sx.Nx p st a st'/\PH K st' M' bx rs ((fun M W=>Mem.rep M W a us)::L) W'
def RdL {α:Type} [Mem α] (K:PK) (p:List Sx.Tok->Sx.Res (List α)) (st:Sx.St) (bx:List Box) (rs:List Rw) (L:List (List Nat->World->Prop)) (e:Ending) (W':World):Prop :=
 ∃ l A c st' M',e=.returned (.slice A l.length c)/\l.length<=c/\c<=9223372036854775807/\l.length<=8193/\Sx.Nx p st l st'/\PH K st' M' bx rs ((fun M W=>SlAt M W A l)::L) W'
def tokP (t:Sx.Tok):ByteArray × Int:=(Sx.ofT t.1,(t.2:Int))
def TokOk (l:List Sx.Tok):Prop:=l.length<=8192/\∀ t∈l,t.1≠[]/\t.1.length<=8192/\t.2<=8192
theorem TokOk.tail {t:Sx.Tok} {l:List Sx.Tok} (h:TokOk (t::l)):TokOk l:=⟨by have:=h.1;rw [List.length_cons] at this;omega,fun u hu=>h.2 u (.tail _ hu)⟩
def PC (st:Sx.St) (cs:Array Value) (M:List Nat) (W:World):Prop:=∃ A c,cs=#[.slice A st.1.length c,.bool st.2]/\st.1.length<=c/\c<=9223372036854775807/\SlAt M W A (st.1.map tokP)/\TokOk st.1
theorem pc_keeps (st:Sx.St) (cs:Array Value):Keeps (PC st cs) :=
 ⟨fun _ _ _ ⟨A,c,h1,h2,h3,h4,h5⟩ hc=>⟨A,c,h1,h2,h3,h4.keep hc,h5⟩,fun _ _ _ ⟨A,c,h1,h2,h3,h4,h5⟩ hs=>⟨A,c,h1,h2,h3,h4.sub hs,h5⟩⟩
@[reducible] def pkP (w:World) (g:Nat):PK:=⟨w,g,79,PC,pc_keeps⟩
theorem tokP_at {G:List Nat} {w:World} {A:Option Addr} {t:Sx.Tok} {l:List Sx.Tok} (h:SlAt G w A ((t::l).map tokP)):∃ b o,A=some ⟨b,o,none⟩/\b∉G/\w.cell? ⟨b,o,none⟩=some (.string (Sx.ofT t.1))/\w.cell? ⟨b,o+1,none⟩=some (.int .i64 (t.2:Int)):=by
 obtain ⟨b,o,us,hA,hg,⟨u1,t1,rfl,⟨rfl,_⟩,⟨rfl,_⟩⟩,hc⟩:=h.get 0 (by simp)
 refine ⟨b,o,hA,hg,?_,?_⟩
 ·have:=hc 0 _ rfl;rw [show 0*Mem.sz (ByteArray × Int)+0=0 from rfl,Nat.add_zero] at this;exact this
 ·have:=hc 1 _ rfl;rw [show 0*Mem.sz (ByteArray × Int)+1=1 from Nat.zero_add 1 ▸ by rw [Nat.zero_mul]] at this;exact this
theorem ofT_size (t:Sx.Txt):(Sx.ofT t).size=t.length:=by unfold Sx.ofT;simp [ByteArray.size]
theorem ofT_list (t:Sx.Txt):(Sx.ofT t).data.toList=t:=by simp [Sx.ofT]
theorem ofT_inj {a b:Sx.Txt} (h:Sx.ofT a=Sx.ofT b):a=b:=by rw [<-ofT_list a,<-ofT_list b,h]
theorem ofT_eqB (a b:Sx.Txt):((Sx.ofT a).toList == (Sx.ofT b).toList)=(a == b):=by
 rw [ByteArray.toList_eq,ByteArray.toList_eq,ofT_list,ofT_list]
theorem ofT_empty {t:Sx.Txt}:(Sx.ofT t).toList.isEmpty=t.isEmpty/\(Sx.ofT t).data.toList.isEmpty=t.isEmpty:=by rw [ByteArray.toList_eq,ofT_list];exact ⟨rfl,rfl⟩
theorem peek_any {w:World} {g:Nat} {st:Sx.St} {M:List Nat} {bx:List Box} {rs:List Rw} {L:List (List Nat->World->Prop)} {W:World} (h:PH (pkP w g) st M bx rs L W) :
  Calls Tryz.prog 75 #[.pointer (some ⟨g,0,none⟩)] W fun e W'=>e=.returned (.string (Sx.ofT (Sx.pk st)))/\W=W':=by
 obtain ⟨cs,hb,A,c,rfl,hc1,hc2,hsl,hok⟩:=h.pbox
 obtain ⟨c0,c1⟩:=aN2 hb.cell
 obtain ⟨l,f⟩:=st
 simp at c0 c1
 clear h hb
 cases f
 ·cases l with
  | nil =>
   clear hsl hok
   go_enter Tryz.func75,Tryz.ntmps75
   go_wp2_with fail
   go_ret
   exact ⟨rfl,rfl⟩
  | cons t r =>
   obtain ⟨b,o,rfl,_,d0,_⟩:=tokP_at hsl
   obtain ⟨n,hn⟩:=aX ((t::r).length)
   have hn0:0 < n:=by rw [<-hn,List.length_cons];omega
   rw [hn] at c0
   have z0:((n:Int) == 0)=false:=beq_eq_false_iff_ne.2 (by omega)
   have z1:(0:Int) < (n:Int):=by omega
   clear hsl hok hn hc1
   go_enter Tryz.func75,Tryz.ntmps75
   go_wp2_with fail
   go_ret
   exact ⟨rfl,rfl⟩
 ·clear hsl hok
  go_enter Tryz.func75,Tryz.ntmps75
  go_wp2_with fail
  go_ret
  exact ⟨rfl,rfl⟩
section
variable {w:World} {g:Nat} {st:Sx.St} {M:List Nat} {bx:List Box} {rs:List Rw} {L:List (List Nat->World->Prop)} {W:World}
theorem step_failed (l:List Sx.Tok) (r:Bool):Sx.step (l,true) r=([],(l,true)):=rfl
theorem step_nil (r:Bool):Sx.step ([],false) r=([],([],true)):=rfl
theorem step_no (t:Sx.Tok) (l:List Sx.Tok):Sx.step (t::l,false) false=([],(t::l,true)):=rfl
theorem step_yes (t:Sx.Tok) (l:List Sx.Tok):Sx.step (t::l,false) true=(t.1,(l,false)):=rfl
theorem next_any (r:Bool) (h:PH (pkP w g) st M bx rs L W) :
  Calls Tryz.prog 74 #[.pointer (some ⟨g,0,none⟩),.bool r] W fun e W'=>e=.returned (.string (Sx.ofT (Sx.step st r).1))/\PH (pkP w g) (Sx.step st r).2 M bx rs L W':=by
 have CP:=aI (peek_any h)
 obtain ⟨cs,H⟩:=h.it
 obtain ⟨A,c,rfl,hc1,hc2,hsl,hok⟩:=H.fact (.head _)
 have hb:=H.box (.head _)
 obtain ⟨c0,c1⟩:=aN2 hb.cell
 obtain ⟨f0,f1⟩:=aN2 hb.frozen
 have T:=aI H
 obtain ⟨l,f⟩:=st
 simp at c0 c1
 clear h hb H
 have HT:=aI (show PH (pkP w g) (l,true) M bx rs L (W.setCell ⟨g,1,none⟩ (.bool true)) from PH.turn T.out 1 (.bool true) ⟨A,c,rfl,hc1,hc2,hsl.keep (Chg.set_ W (p:=⟨g,1,none⟩) (T.out.h.bs _ (.head _)).1 _),hok⟩)
 cases f
 ·cases l with
  | nil =>
   rw [step_nil]
   have z:(Sx.ofT []).toList.isEmpty=true:=ofT_empty.1
   have z2:(Sx.ofT []).data.toList.isEmpty=true:=ofT_empty.2
   unfold Sx.pk at CP
   simp only [Bool.false_eq_true,if_false] at CP
   clear hsl hok hc1 hc2 T
   go_enter Tryz.func74,Tryz.ntmps74
   go_wp2_with (go_at_call 75;(with_reducible refine aS (CP.out) ?_))
   go_ret
   exact ⟨rfl,HT.out⟩
  | cons t l =>
   have htn:=(hok.2 t (.head _)).1
   have z:(Sx.ofT t.1).toList.isEmpty=false:=by rw [ofT_empty.1];cases h:t.1 with | nil=>exact absurd h htn | cons _ _=>rfl
   have z2:(Sx.ofT t.1).data.toList.isEmpty=false:=by rw [ofT_empty.2];cases h:t.1 with | nil=>exact absurd h htn | cons _ _=>rfl
   unfold Sx.pk at CP
   simp only [Bool.false_eq_true,if_false] at CP
   cases r
   ·rw [step_no]
    clear hsl hok hc1 hc2 T htn
    go_enter Tryz.func74,Tryz.ntmps74
    go_wp2_with (go_at_call 75;(with_reducible refine aS (CP.out) ?_))
    go_ret
    exact ⟨rfl,HT.out⟩
   ·rw [step_yes]
    obtain ⟨b,o,rfl,_⟩:=tokP_at hsl
    have hd:=hsl.drop (k:=1) (cap:=c) (by simp) (by simpa using hc1)
    rw [show 1*Mem.sz (ByteArray × Int)=2 from rfl] at hd
    obtain ⟨n,hn⟩:=aX ((t::l).length)
    have hln:l.length=n - 1:=by rw [<-hn,List.length_cons];omega
    have hn0:1<=n:=by rw [<-hn,List.length_cons];omega
    have hc1':n<=c:=by rw [<-hn];exact hc1
    have z1:(1:Int)<=(n:Int):=by omega
    have z3:(n:Int)<=(c:Int):=by omega
    by_cases hcc:c=1
    ·subst hcc
     rw [if_pos rfl] at hd
     have HN:=aI (show PH (pkP w g) (l,false) M bx rs L (W.setCell ⟨g,0,none⟩ (.slice (some ⟨b,o,none⟩) l.length 0)) from PH.turn T.out 0 _ ⟨some ⟨b,o,none⟩,0,rfl,by simp at hc1 ⊢;omega,by omega,hd.keep (Chg.set_ W (p:=⟨g,0,none⟩) (T.out.h.bs _ (.head _)).1 _),hok.tail⟩)
     rw [hn] at c0
     rw [hln,show n - 1=0 by omega] at HN
     clear hsl hok hc1 T htn hd hn hln HT
     go_enter Tryz.func74,Tryz.ntmps74
     go_wp2_with (go_at_call 75;(with_reducible refine aS (CP.out) ?_))
     go_ret
     exact ⟨rfl,HN.out⟩
    ·rw [if_neg hcc,show (some (⟨b,o,none⟩:Addr)).map (·.add 2)=some ⟨b,o+2,none⟩ from rfl] at hd
     have HN:=aI (show PH (pkP w g) (l,false) M bx rs L (W.setCell ⟨g,0,none⟩ (.slice (some ⟨b,o+2,none⟩) l.length (c - 1))) from PH.turn T.out 0 _ ⟨some ⟨b,o+2,none⟩,c - 1,rfl,by simp at hc1 ⊢;omega,by omega,hd.keep (Chg.set_ W (p:=⟨g,0,none⟩) (T.out.h.bs _ (.head _)).1 _),hok.tail⟩)
     rw [hn] at c0
     rw [hln] at HN
     clear hsl hok hc1 T htn hd hn hln HT
     go_enter Tryz.func74,Tryz.ntmps74
     go_wp2_with (go_at_call 75;(with_reducible refine aS (CP.out) ?_))
     go_ret
     exact ⟨rfl,HN.out⟩
 ·rw [step_failed]
  have z:(Sx.ofT []).toList.isEmpty=true:=ofT_empty.1
  have z2:(Sx.ofT []).data.toList.isEmpty=true:=ofT_empty.2
  unfold Sx.pk at CP
  simp only [if_true] at CP
  clear hsl hok hc1 hc2 T
  go_enter Tryz.func74,Tryz.ntmps74
  go_wp2_with (go_at_call 75;(with_reducible refine aS (CP.out) ?_))
  go_ret
  exact ⟨rfl,HT.out⟩
end
namespace Sx
theorem step_len (st:St) (r:Bool) (h:∀ t∈st.1,t.1.length<=8192):(step st r).1.length<=8192:=by
 obtain ⟨l,f⟩:=st
 cases f
 ·cases l with
  | nil=>simp [step]
  | cons t l=>cases r <;> simp [step];exact h t (.head _)
 ·simp [step]
theorem pk_len (st:St) (h:∀ t∈st.1,t.1.length<=8192):(pk st).length<=8192:=by
 obtain ⟨l,f⟩:=st
 cases f
 ·cases l with
  | nil=>simp [pk]
  | cons t l=>exact h t (.head _)
 ·simp [pk]
theorem step_one (st:St) (r:Bool):((step st r).1=pk st/\r=true/\st.2=false/\(step st r).2.2=false)∨((step st r).1=[]/\(step st r).2.2=true):=by
 obtain ⟨l,f⟩:=st
 cases f
 ·cases l with
  | nil=>exact .inr ⟨rfl,rfl⟩
  | cons t l =>
    cases r
    ·exact .inr ⟨rfl,rfl⟩
    ·exact .inl ⟨rfl,rfl,rfl,rfl⟩
 ·exact .inr ⟨rfl,rfl⟩
theorem nx_need (st:St) (w:Txt):Nx (need w) st () (step st (pk st == w)).2:=nx_map (f:=fun _=>()) (nx_step_pk (right:=fun t=>t == w))
theorem nx_name (st:St):Nx name st (step st (nameB (pk st))).1 (step st (nameB (pk st))).2:=nx_step_pk (right:=nameB)
theorem nx_number (st:St) {n:Int} (h:∀ m,Lib.atoiAll (step st (numB (pk st))).1=.ok m->n=m):Nx number st n (step st (numB (pk st))).2:=by
 have h1:=nx_map (f:=numV) (nx_step_pk (right:=numB) (st:=st))
 rcases step_one st (numB (pk st)) with ⟨e1,e2,_⟩ | ⟨_,e2⟩
 ·rw [e1] at h1 h;rw [h _ (atoi_numB e2)];exact h1
 ·exact nx_any h1 e2
theorem nx_count (st:St) {n:Int} (h:numB (pk st)=true->n=numV (pk st)):Nx (fun l=>(count l).bind fun n l=>.ok (n:Int) l) st n (step st (numB (pk st) && within n 1 12)).2:=by
 obtain ⟨r,hr⟩:=aX ((numB (pk st) && within (numV (pk st)) 1 12))
 have hr2:(numB (pk st) && within n 1 12)=r:=by
  rw [<-hr]
  cases hb:numB (pk st)
  ·rfl
  ·rw [h hb]
 rw [hr2]
 have h0:=nx_step_pk (right:=fun t=>numB t && within (numV t) 1 12) (st:=st)
 rw [hr] at h0
 have h1:=nx_map (f:=fun t=>(numV t).toNat) h0
 have h2:=nx_map (f:=fun n:Nat=>(n:Int)) h1
 rcases step_one st r with ⟨e1,e2,_⟩ | ⟨_,e2⟩
 ·rw [e1] at h2
  have hb:numB (pk st)=true/\within (numV (pk st)) 1 12=true:=by rw [e2] at hr;exact Bool.and_eq_true_iff.1 hr
  have hw:=within_bd hb.2
  have e:n=((numV (pk st)).toNat:Int):=by rw [h hb.1];omega
  rw [e];exact h2
 ·exact nx_any h2 e2
theorem minus_name:nameB [45]=false:=by decide
def namesR (st:St):Txt × St:=if (pk st == [45])=true then ([],(step st true).2) else step st (nameB (pk st))
theorem nx_names (st:St):Nx names st (namesR st).1 (namesR st).2:=by
 have h2:=nx_map (f:=fun t=>if t == [45] then [] else t) (nx_step_pk (right:=fun t=>nameB t || t == [45]) (st:=st))
 unfold namesR
 by_cases hb:(pk st == [45])=true
 ·rw [if_pos hb]
  rw [show (nameB (pk st) || pk st == [45])=true by rw [hb,Bool.or_true]] at h2
  rcases step_one st true with ⟨e1,_⟩ | ⟨_,e2⟩
  ·rw [e1,hb] at h2;exact h2
  ·exact nx_any h2 e2
 ·rw [if_neg hb]
  have hf:(pk st == [45])=false:=by simpa using hb
  rw [show (nameB (pk st) || pk st == [45])=nameB (pk st) by rw [hf,Bool.or_false]] at h2
  rcases step_one st (nameB (pk st)) with ⟨e1,_⟩ | ⟨_,e2⟩
  ·rw [e1,hf] at h2;rw [e1];exact h2
  ·exact nx_any h2 e2
end Sx
theorem nm_ofT (t:Sx.Txt):Sx.nm (Sx.ofT t)=Sx.nameB t:=by unfold Sx.nm;rw [ofT_list]
section
variable {w:World} {g:Nat} {st:Sx.St} {M:List Nat} {bx:List Box} {rs:List Rw} {L:List (List Nat->World->Prop)} {W:World}
theorem ph_tok (h:PH (pkP w g) st M bx rs L W):TokOk st.1:=by
 obtain ⟨cs,hb,A,c,rfl,hc1,hc2,hsl,hok⟩:=h.pbox
 exact hok
theorem ph_pk (h:PH (pkP w g) st M bx rs L W):(Sx.ofT (Sx.pk st)).size<=8192:=by rw [ofT_size];exact Sx.pk_len st fun t ht=>((ph_tok h).2 t ht).2.1
theorem ph_step (h:PH (pkP w g) st M bx rs L W) (r:Bool):(Sx.ofT (Sx.step st r).1).size<=8192:=by rw [ofT_size];exact Sx.step_len st r fun t ht=>((ph_tok h).2 t ht).2.1
theorem ph_env (he:SEnv w) (h:PH (pkP w g) st M bx rs L W):SEnv W:=he.below h.bl he.sz
theorem need_any (wd:Sx.Txt) (h:PH (pkP w g) st M bx rs L W) :
  Calls Tryz.prog 32 #[.pointer (some ⟨g,0,none⟩),.string (Sx.ofT wd)] W fun e W'=>e=.returned (.tuple #[])/\PH (pkP w g) (Sx.step st (Sx.pk st == wd)).2 M bx rs L W':=by
 have T:=aI h
 have q:=ofT_eqB (Sx.pk st) wd
 clear h
 obtain ⟨r,hr⟩:=aX ((Sx.pk st == wd))
 rw [hr] at q ⊢
 clear hr
 go_enter Tryz.func32,Tryz.ntmps32
 go_wp2_with (first | (go_at_call 75;(with_reducible refine aS (peek_any T.out) ?_)) | (go_at_call 74;(with_reducible refine (next_any _ T.out).mono ?_);rintro e w1 ⟨rfl,h1⟩;replace T:=aI h1;clear h1))
 go_end0
 exact ⟨rfl,T.out⟩
theorem name_any (h:PH (pkP w g) st M bx rs L W) :
  Calls Tryz.prog 79 #[.pointer (some ⟨g,0,none⟩)] W fun e W'=>e=.returned (.string (Sx.ofT (Sx.step st (Sx.nameB (Sx.pk st))).1))/\PH (pkP w g) (Sx.step st (Sx.nameB (Sx.pk st))).2 M bx rs L W':=by
 have T:=aI h
 have CN:=aI (fun w'=>isName_any (Sx.ofT (Sx.pk st)) w' (by have:=ph_pk h;omega))
 simp only [nm_ofT] at CN
 clear h
 obtain ⟨r,hr⟩:=aX (Sx.nameB (Sx.pk st))
 rw [hr] at CN ⊢
 clear hr
 go_enter Tryz.func79,Tryz.ntmps79
 go_wp2_with (first | (go_at_call 75;(with_reducible refine aS (peek_any T.out) ?_)) | (go_at_call 110;(with_reducible refine (CN.out _).mono ?_);rintro e w1 ⟨rfl,h1⟩;replace T:=aI (T.out.below h1);clear h1) | (go_at_call 74;(with_reducible refine (next_any _ T.out).mono ?_);rintro e w1 ⟨rfl,h1⟩;replace T:=aI h1;clear h1))
 go_ret
 exact ⟨rfl,T.out⟩
theorem names_any (h:PH (pkP w g) st M bx rs L W) :
  Calls Tryz.prog 87 #[.pointer (some ⟨g,0,none⟩)] W fun e W'=>e=.returned (.string (Sx.ofT (Sx.namesR st).1))/\PH (pkP w g) (Sx.namesR st).2 M bx rs L W':=by
 have T:=aI h
 have q:((Sx.ofT (Sx.pk st)).toList == [45])=(Sx.pk st == [45]):=by rw [ByteArray.toList_eq,ofT_list]
 have CN:=aI (need_any [45] h)
 rw [show Sx.ofT [45]=⟨#[45]⟩ from rfl] at CN
 have CM:=aI (name_any h)
 clear h
 unfold Sx.namesR
 obtain ⟨r,hr⟩:=aX ((Sx.pk st == [45]))
 rw [hr] at q CN ⊢
 cases r
 ·rw [if_neg (by simp)]
  clear hr
  go_enter Tryz.func87,Tryz.ntmps87
  go_wp2_with (first | (go_at_call 75;(with_reducible refine aS (peek_any T.out) ?_)) | (go_at_call 79;(with_reducible refine (CM.out).mono ?_);rintro e w1 ⟨rfl,h1⟩;replace T:=aI h1;clear h1))
  go_ret
  exact ⟨rfl,T.out⟩
 ·rw [if_pos rfl]
  clear hr
  go_enter Tryz.func87,Tryz.ntmps87
  go_wp2_with (first | (go_at_call 75;(with_reducible refine aS (peek_any T.out) ?_)) | (go_at_call 32;(with_reducible refine (CN.out).mono ?_);rintro e w1 ⟨rfl,h1⟩;replace T:=aI h1;clear h1))
  go_ret
  exact ⟨rfl,T.out⟩
theorem num_any (he:SEnv w) (h:PH (pkP w g) st M bx rs L W) :
  Calls Tryz.prog 33 #[.pointer (some ⟨g,0,none⟩)] W fun e W'=>∃ n:Int,e=.returned (.int .i64 n)/\inI n/\Sx.Nx Sx.number st n (Sx.step st (Sx.numB (Sx.pk st))).2/\PH (pkP w g) (Sx.step st (Sx.numB (Sx.pk st))).2 M bx rs L W':=by
 have T:=aI h
 have CN:=aI (fun w'=>isNumber_any (Sx.ofT (Sx.pk st)) w' (by have:=ph_pk h;omega))
 simp only [ofT_list] at CN
 have hsz:=ph_step h (Sx.numB (Sx.pk st))
 have HE:=aI (fun (st:Sx.St) (W:World) (h:PH (pkP w g) st M bx rs L W)=>ph_env he h)
 have HX:=aI (fun (n:Int)=>Sx.nx_number st (n:=n))
 obtain ⟨r,hr⟩:=aX (Sx.numB (Sx.pk st))
 rw [hr] at CN hsz HX ⊢
 have CA:=aI (fun w'=>atoi_any (Sx.ofT (Sx.step st r).1) w' (by omega))
 simp only [ofT_list] at CA
 clear h hr hsz he
 go_enter Tryz.func33,Tryz.ntmps33
 go_wp2_with (first | (go_at_call 75;(with_reducible refine aS (peek_any T.out) ?_)) | (go_at_call 77;(with_reducible refine (CN.out _).mono ?_);rintro e w1 ⟨rfl,h1⟩;replace T:=aI (T.out.below h1);clear h1) | (go_at_call 74;(with_reducible refine (next_any _ T.out).mono ?_);rintro e w1 ⟨rfl,h1⟩;replace T:=aI h1;clear h1) | (go_at_call 76;(with_reducible refine (CA.out _ (HE.out _ _ T.out)).mono ?_);rintro e w1 ⟨n,ev,rfl,hn,hv,_,h1⟩;replace T:=aI (T.out.below h1);have HV:=aI hv;have HN:=aI hn;clear h1 hv hn))
 go_ret
 exact ⟨_,rfl,HN.out,HX.out _ HV.out,T.out⟩
theorem cnt_any (he:SEnv w) (h:PH (pkP w g) st M bx rs L W) :
  Calls Tryz.prog 84 #[.pointer (some ⟨g,0,none⟩)] W fun e W'=>∃ (n:Int) (st':Sx.St),e=.returned (.int .i64 n)/\inI n/\Sx.Nx (fun l=>(Sx.count l).bind fun n l=>.ok (n:Int) l) st n st'/\(st'.2=false->1<=n/\n<=12)/\PH (pkP w g) st' M bx rs L W':=by
 have T:=aI h
 have CN:=aI (fun w'=>isNumber_any (Sx.ofT (Sx.pk st)) w' (by have:=ph_pk h;omega))
 have CA:=aI (fun w'=>atoi_any (Sx.ofT (Sx.pk st)) w' (by have:=ph_pk h;omega))
 simp only [ofT_list] at CN CA
 have HE:=aI (fun (st:Sx.St) (W:World) (h:PH (pkP w g) st M bx rs L W)=>ph_env he h)
 have HX:=aI (fun (n:Int)=>Sx.nx_count st (n:=n))
 have CW:=aI within_any
 obtain ⟨r,hr⟩:=aX (Sx.numB (Sx.pk st))
 rw [hr] at CN HX
 have HR:=aI hr
 clear h hr he
 have HS:=aI (fun r=>Sx.step_one st r)
 go_enter Tryz.func84,Tryz.ntmps84
 cases r
 ·go_wp2_with (first | (go_at_call 75;(with_reducible refine aS (peek_any T.out) ?_)) | (go_at_call 77;(with_reducible refine (CN.out _).mono ?_);rintro e w1 ⟨rfl,h1⟩;replace T:=aI (T.out.below h1);clear h1) | (go_at_call 52;(with_reducible refine aS (CW.out _ _ _ _) ?_)) | (go_at_call 74;(with_reducible refine (next_any _ T.out).mono ?_);rintro e w1 ⟨rfl,h1⟩;replace T:=aI h1;clear h1) | (go_at_call 76;(with_reducible refine (CA.out _ (HE.out _ _ T.out)).mono ?_);rintro e w1 ⟨n,ev,rfl,hn,hv,_,h1⟩;replace T:=aI (T.out.below h1);have HV:=aI hv;have HN:=aI hn;clear h1 hv hn))
  go_ret
  refine ⟨_,_,rfl,HN.out,HX.out _ (fun hb=>by cases hb),fun hf=>?_,T.out⟩
  rcases HS.out false with ⟨_,h,_⟩ | ⟨_,h⟩
  ·cases h
  ·rw [Bool.false_and] at hf;rw [hf] at h;cases h
 ·go_wp2_with (first | (go_at_call 75;(with_reducible refine aS (peek_any T.out) ?_)) | (go_at_call 77;(with_reducible refine (CN.out _).mono ?_);rintro e w1 ⟨rfl,h1⟩;replace T:=aI (T.out.below h1);clear h1) | (go_at_call 52;(with_reducible refine aS (CW.out _ _ _ _) ?_)) | (go_at_call 74;(with_reducible refine (next_any _ T.out).mono ?_);rintro e w1 ⟨rfl,h1⟩;replace T:=aI h1;clear h1) | (go_at_call 76;(with_reducible refine (CA.out _ (HE.out _ _ T.out)).mono ?_);rintro e w1 ⟨n,ev,rfl,hn,hv,_,h1⟩;replace T:=aI (T.out.below h1);have HV:=aI hv;have HN:=aI hn;clear h1 hv hn))
  go_ret
  refine ⟨_,_,rfl,HN.out,HX.out _ (fun _=>HV.out _ (Sx.atoi_numB HR.out)),fun hf=>?_,T.out⟩
  rw [Bool.true_and] at hf
  rcases HS.out (Sx.within _ 1 12) with ⟨_,h,_⟩ | ⟨_,h⟩
  ·exact within_bd h
  ·rw [hf] at h;cases h
end
section
variable {G:List Nat} {w:World}
theorem rep_lif {x:Lif} {us:List Value} (h:Mem.rep G w x us):∃ A c B d,us=[.string x.1,.slice A x.2.1.length c,.slice B x.2.2.length d]/\SlAt G w A x.2.1/\SlAt G w B x.2.2/\x.1.size<=9223372036854775807/\x.2.1.length<=c/\c<=9223372036854775807/\x.2.2.length<=d/\d<=9223372036854775807:=by
 obtain ⟨u1,t1,rfl,⟨rfl,a1⟩,u2,t2,rfl,⟨A,c,rfl,b1,b2,b3⟩,⟨B,d,rfl,c1,c2,c3⟩⟩:=h
 exact ⟨A,c,B,d,rfl,b3,c3,a1,b1,b2,c1,c2⟩
theorem rep_rul {x:Rul} {us:List Value} (h:Mem.rep G w x us):us=[.string x.1,.string x.2.1,.string x.2.2.1,.string x.2.2.2.1,.int .i64 x.2.2.2.2]/\x.1.size<=9223372036854775807/\x.2.1.size<=9223372036854775807/\x.2.2.1.size<=9223372036854775807/\x.2.2.2.1.size<=9223372036854775807/\inI x.2.2.2.2:=by
 obtain ⟨u1,t1,rfl,⟨rfl,a1⟩,u2,t2,rfl,⟨rfl,a2⟩,u3,t3,rfl,⟨rfl,a3⟩,u4,t4,rfl,⟨rfl,a4⟩,⟨rfl,a5⟩⟩:=h
 exact ⟨rfl,a1,a2,a3,a4,a5⟩
theorem rep_mv {x:Int × Int} {us:List Value} (h:Mem.rep G w x us):us=[.int .i64 x.1,.int .i64 x.2]/\inI x.1/\inI x.2:=by
 obtain ⟨u1,t1,rfl,⟨rfl,a1⟩,⟨rfl,a2⟩⟩:=h
 exact ⟨rfl,a1,a2⟩
end
section
variable {w:World} {g:Nat} {st:Sx.St} {M:List Nat} {bx:List Box} {rs:List Rw} {L:List (List Nat->World->Prop)} {W:World}
theorem needMove_any (h:PH (pkP w g) st M bx rs L W) :
  Calls Tryz.prog 32 #[.pointer (some ⟨g,0,none⟩),.string ⟨#[109,111,118,101]⟩] W fun e W'=>∃ st',e=.returned (.tuple #[])/\Sx.Nx (Sx.need Sx.sMove) st () st'/\PH (pkP w g) st' M bx rs L W' :=
 (need_any Sx.sMove h).mono fun _ _ ⟨h1,h2⟩=>⟨_,h1,Sx.nx_need _ _,h2⟩
theorem num_any' (he:SEnv w) (h:PH (pkP w g) st M bx rs L W) :
  Calls Tryz.prog 33 #[.pointer (some ⟨g,0,none⟩)] W fun e W'=>∃ (n:Int) (st':Sx.St),e=.returned (.int .i64 n)/\inI n/\Sx.Nx Sx.number st n st'/\PH (pkP w g) st' M bx rs L W' :=
 (num_any he h).mono fun _ _ ⟨n,h1,h2,h3,h4⟩=>⟨n,_,h1,h2,h3,h4⟩
theorem move_any (he:SEnv w) (h:PH (pkP w g) st M bx rs L W):Calls Tryz.prog 86 #[.pointer (some ⟨g,0,none⟩)] W (RdA (pkP w g) Sx.move st bx rs L):=by
 obtain ⟨N,hN⟩:=aX W.heap.size
 have T:=aI (h.new #[.int .i64 0,.int .i64 0] 56 hN)
 have HE:=aI he
 clear h he
 go_enter Tryz.func86,Tryz.ntmps86
 go_upto_region 3 with (first | (go_at_call 32;(with_reducible refine (needMove_any T.out).mono ?_);rintro e w1 ⟨st1,rfl,x1,h1⟩;replace T:=aI h1;have X1:=aI x1;clear h1 x1) | (go_at_call 33;(with_reducible refine (num_any' HE.out T.out).mono ?_);rintro e w1 ⟨n,st2,rfl,i2,x2,h2⟩;replace T:=aI h2;have X2:=aI x2;have I2:=aI i2;clear h2 x2 i2))
 go_wp2_with (go_at_call 33;(with_reducible refine (num_any' HE.out T.out).mono ?_);rintro e w1 ⟨n3,st3,rfl,i3,x3,h3⟩;replace T:=aI h3;have X3:=aI x3;have I3:=aI i3;clear h3 x3 i3;have z0:=(T.out.box (.head _)).cell 0;have z1:=(T.out.box (.head _)).cell 1;have f0:=(T.out.box (.head _)).frozen 0;have f1:=(T.out.box (.head _)).frozen 1;simp at z0 z1 f0 f1)
 have T2:=aI ((T.out.set0 0 (.int .i64 n)).set0 1 (.int .i64 n3))
 have y0:=(T2.out.box (.head _)).cell 0
 have y1:=(T2.out.box (.head _)).cell 1
 simp at y0 y1
 refine bodyPost_ret (v:=.agg #[.int .i64 n,.int .i64 n3]) ?_ rfl ?_
 ·simp [results,Tryz.results86,go_sem,y0,y1]
 ·exact ⟨(n,n3),[.int .i64 n,.int .i64 n3],st3,_,rfl,Sx.nx_bind X1.out (Sx.nx_bind X2.out (Sx.nx_bind X3.out (Sx.nx_ret _ _))),T2.out.unbox.add (keeps_rep _ _) ⟨[_],_,rfl,⟨rfl,I2.out⟩,⟨rfl,I3.out⟩⟩⟩
end
def IsB (N:Nat) (wd:Sx.Txt):List Nat->World->Prop:=fun M W=>N∉M/\Blk W N 9 #[.string (Sx.ofT wd)]
theorem isb_cell {N:Nat} {wd:Sx.Txt} {M:List Nat} {W:World} (h:IsB N wd M W):W.cell? ⟨N,0,none⟩=some (.string (Sx.ofT wd)):=h.2.cell 0
theorem is1_any (t wd:Sx.Txt) (N:Nat) (W:World) (h:W.cell? ⟨N,0,none⟩=some (.string (Sx.ofT wd))):Calls Tryz.prog 78 #[.string (Sx.ofT t),.pointer (some ⟨N,0,none⟩)] W fun e W'=>e=.returned (.bool (t == wd))/\W=W':=by
 have q:=ofT_eqB t wd
 obtain ⟨r,hr⟩:=aX ((t == wd))
 rw [hr] at q ⊢
 clear hr
 go_enter Tryz.func78,Tryz.ntmps78
 go_wp2_with fail
 go_ret
 exact ⟨rfl,rfl⟩
section
variable {w:World} {g:Nat} {st:Sx.St} {M:List Nat} {bx:List Box} {rs:List Rw} {L:List (List Nat->World->Prop)} {W:World}
theorem is_any (wd:Sx.Txt) (h:PH (pkP w g) st M bx rs L W):Calls Tryz.prog 35 #[.string (Sx.ofT wd)] W fun e W'=>∃ N,e=.returned (.func (.func 78) #[] #[.pointer (some ⟨N,0,none⟩)])/\PH (pkP w g) st M bx rs (IsB N wd::L) W':=by
 have T:=aI (h.made #[.string (Sx.ofT wd)] 9 rfl)
 clear h
 go_enter Tryz.func35,Tryz.ntmps35
 go_wp2_with fail
 go_ret
 exact ⟨_,rfl,T.out⟩
theorem someM_any (he:SEnv w) {N:Nat} {wd:Sx.Txt} (hwd:wd≠[]) (hN:IsB N wd∈L) (h:PH (pkP w g) st M bx rs L W) :
  Calls Tryz.prog 85 #[.pointer (some ⟨g,0,none⟩),.func (.func 78) #[] #[.pointer (some ⟨N,0,none⟩)],.func (.func 86) #[.pointer (some ⟨g,0,none⟩)] #[]] W (RdL (pkP w g) (fun l=>Sx.many (fun t=>t == wd) Sx.move l.length [] l) st bx rs L):=by
 have T:=aI ((h.push 56 2).add (keeps_flat ([]:List (Int × Int)) []) rfl)
 have HE:=aI he
 have HTK:=aI (ph_tok h).1
 have HN:=aI hN
 clear hN
 clear h he
 obtain ⟨sx,hsx⟩:=aX (Sx.left st)
 have HSX:=aI hsx
 go_enter Tryz.func85,Tryz.ntmps85
 go_wp2_with fail
 go_loopg [7] sx (fun r v7 wr=>∃ (st1:Sx.St) (acc:List (Int × Int)) (xs:List Value) (M1:List Nat),PH (pkP w g) st1 M1 bx (⟨56,2,v7,acc.length,xs⟩::rs) ((fun M W=>Flat M W acc xs)::L) wr/\Sx.left st1=r/\acc.length+r<=sx/\(∀ x st',Sx.Nx (Sx.many (fun t=>t == wd) Sx.move st1.1.length acc) st1 x st'->Sx.Nx (fun l=>Sx.many (fun t=>t == wd) Sx.move l.length [] l) st x st'))
 case atStart=>exact ⟨st,[],[],_,T.out,HSX.out,by simp,fun x st' hx=>hx⟩
 case round =>
  obtain ⟨st1,acc,xs,M1,hH,hlf,hal,hnx⟩:=hrel
  obtain ⟨wo,rfl⟩:=aY wr
  replace T:=aI hH
  have HX:=aI hnx
  have HL:=aI hlf
  clear hH hnx hlf
  obtain ⟨l,f⟩:=st1
  obtain ⟨A7,c7,rfl⟩:=T.out.form
  obtain ⟨cs9,hb9,A9,c9,rfl,_⟩:=T.out.pbox
  have z1:=hb9.cell 1
  simp at z1
  clear hb9
  have cN:=isb_cell (T.out.fact (.tail _ HN.out))
  have HA8:=aI (show acc.length<=8193 by have h1:=HTK.out;have h2:=HSX.out;unfold Sx.left at h2;split at h2 <;> omega)
  cases f
  ·obtain ⟨bb,hbb⟩:∃ b,(fun t=>t == wd) (Sx.pk (l,false))=b:=⟨_,rfl⟩
   cases bb
   ·have HST:=aI (Sx.nx_many_stop (begins:=(fun t=>t == wd)) (read:=Sx.move) (st:=(l,false)) (f:=l.length) (acc:=acc) (fun _ t r hl=>by obtain rfl:l=t::r:=hl;exact hbb))
    have hb8:(Sx.pk (l,false) == wd)=false:=hbb
    clear hbb
    go_wp2_with (first | (go_at_call 75;(with_reducible refine aS (peek_any T.out) ?_)) | (go_at_call 78;(with_reducible refine aS (is1_any _ wd N _ cN) ?_)))
    go_ret
    obtain ⟨A,c,M',hv,hc1,hc2,h4,_⟩:=T.out.freeze (α:=_) rfl rfl (T.out.fact (.head _))
    injection hv with hv1 hv2 hv3
    subst hv1 hv3
    exact ⟨acc,_,_,_,M',rfl,hc1,hc2,HA8.out,HX.out _ _ HST.out,h4.less fun P hP=>by
     rcases aL hP with rfl | hP
     ·exact .head _
     ·exact .tail _ (.tail _ hP)⟩
   ·obtain ⟨t,r,rfl⟩:∃ t r,l=t::r:=by
     cases l with
     | nil=>exact absurd (hbb.symm.trans (show (([]:Sx.Txt) == wd)=false by cases wd with | nil=>exact absurd rfl hwd | cons _ _=>rfl)) (by simp)
     | cons t r=>exact ⟨t,r,rfl⟩
    have HBB:=aI (show (fun t=>t == wd) t.1=true from hbb)
    have hb8:(Sx.pk (t::r,false) == wd)=true:=hbb
    clear hbb
    go_wp2_with (first | (go_at_call 75;(with_reducible refine aS (peek_any T.out) ?_)) | (go_at_call 78;(with_reducible refine aS (is1_any _ wd N _ cN) ?_)) | (go_at_call 86;(with_reducible refine (move_any HE.out T.out).mono ?_);rintro e w3 ⟨a,us,st3,M3,rfl,x3,h3⟩;obtain ⟨rfl,hi1,hi2⟩:=rep_mv (h3.fact (.head _));replace T:=aI h3;have X3:=aI x3;clear h3 x3) | (at_builtin;obtain ⟨i0,hI,hz0,hz1,hz2⟩:=info_parts infoMv;refine wpList_append_ph (by rfl) _ _ 53 (by rfl) 56 i0 _ 2 16 Tryz.underlying53 hI hz0 hz1 hz2 rfl (by decide) (T.out.below (aP _ _)) (by rfl) _ _ 1 1 [.int .i64 a.1,.int .i64 a.2] (by rfl) (reads_blk (Blk.new _ _ _) rfl) (by simp [Value.oneCell']) (by have:=HA8.out;unfold maxLen;omega) (by have:=HA8.out;omega) ?_;intro v7 w7 M7 h7 _;replace T:=aI h7;clear h7 hI hz0 hz1 hz2))
    have hlt:=Sx.left_eats Sx.eats_move X3.out
    have HFL:=aI ((T.out.fswap.flat (Flat.single (T.out.fact (.head _)))).less (L':=_::_) fun P hP=>by
     rcases aL hP with rfl | hP
     ·exact .head _
     ·exact .tail _ (.tail _ hP))
    rw [HL.out] at hlt
    go_roundg (Sx.left st3)
    case measure=>exact hlt
    case rel=>exact ⟨st3,acc++[a],_,_,by rw [aK];exact HFL.out,rfl,by rw [aK,List.length_singleton];omega,fun x st' hx=>HX.out _ _ (Sx.nx_many_step Sx.eats_move HBB.out X3.out hx)⟩
  ·have HST:=aI (Sx.nx_many_stop (begins:=(fun t=>t == wd)) (read:=Sx.move) (st:=(l,true)) (f:=l.length) (acc:=acc) (fun h=>by cases h))
   go_wp2_with fail
   go_ret
   obtain ⟨A,c,M',hv,hc1,hc2,h4,_⟩:=T.out.freeze (α:=_) rfl rfl (T.out.fact (.head _))
   injection hv with hv1 hv2 hv3
   subst hv1 hv3
   exact ⟨acc,_,_,_,M',rfl,hc1,hc2,HA8.out,HX.out _ _ HST.out,h4.less fun P hP=>by
    rcases aL hP with rfl | hP
    ·exact .head _
    ·exact .tail _ (.tail _ hP)⟩
end
section
variable {w:World} {g:Nat} {st:Sx.St} {M:List Nat} {bx:List Box} {rs:List Rw} {L:List (List Nat->World->Prop)} {W:World}
theorem needW_any (wd:Sx.Txt) (b:Array UInt8) (hb:Sx.ofT wd=⟨b⟩) (h:PH (pkP w g) st M bx rs L W) :
  Calls Tryz.prog 32 #[.pointer (some ⟨g,0,none⟩),.string ⟨b⟩] W fun e W'=>∃ st',e=.returned (.tuple #[])/\Sx.Nx (Sx.need wd) st () st'/\PH (pkP w g) st' M bx rs L W' :=
 hb ▸ (need_any wd h).mono fun _ _ ⟨h1,h2⟩=>⟨_,h1,Sx.nx_need _ _,h2⟩
theorem nameR_any (h:PH (pkP w g) st M bx rs L W) :
  Calls Tryz.prog 79 #[.pointer (some ⟨g,0,none⟩)] W fun e W'=>∃ (s:Sx.Txt) (st':Sx.St),e=.returned (.string (Sx.ofT s))/\(Sx.ofT s).size<=8192/\Sx.Nx Sx.name st s st'/\PH (pkP w g) st' M bx rs L W':=by
 have hs:=ph_step h (Sx.nameB (Sx.pk st))
 exact (name_any h).mono fun _ _ ⟨h1,h2⟩=>⟨_,_,h1,hs,Sx.nx_name st,h2⟩
theorem namesR_any (h:PH (pkP w g) st M bx rs L W) :
  Calls Tryz.prog 87 #[.pointer (some ⟨g,0,none⟩)] W fun e W'=>∃ (s:Sx.Txt) (st':Sx.St),e=.returned (.string (Sx.ofT s))/\(Sx.ofT s).size<=8192/\Sx.Nx Sx.names st s st'/\PH (pkP w g) st' M bx rs L W':=by
 have hs:(Sx.ofT (Sx.namesR st).1).size<=8192:=by
  unfold Sx.namesR
  split
  ·exact Nat.zero_le _
  ·exact ph_step h _
 exact (names_any h).mono fun _ _ ⟨h1,h2⟩=>⟨_,_,h1,hs,Sx.nx_names st,h2⟩
theorem needRule_any (h:PH (pkP w g) st M bx rs L W) :
  Calls Tryz.prog 32 #[.pointer (some ⟨g,0,none⟩),.string ⟨#[114,117,108,101]⟩] W fun e W'=>∃ st',e=.returned (.tuple #[])/\Sx.Nx (Sx.need Sx.sRule) st () st'/\PH (pkP w g) st' M bx rs L W':=needW_any Sx.sRule _ rfl h
theorem needLife_any (h:PH (pkP w g) st M bx rs L W) :
  Calls Tryz.prog 32 #[.pointer (some ⟨g,0,none⟩),.string ⟨#[108,105,102,101]⟩] W fun e W'=>∃ st',e=.returned (.tuple #[])/\Sx.Nx (Sx.need Sx.sLife) st () st'/\PH (pkP w g) st' M bx rs L W':=needW_any Sx.sLife _ rfl h
theorem needKind_any (h:PH (pkP w g) st M bx rs L W) :
  Calls Tryz.prog 32 #[.pointer (some ⟨g,0,none⟩),.string ⟨#[107,105,110,100]⟩] W fun e W'=>∃ st',e=.returned (.tuple #[])/\Sx.Nx (Sx.need Sx.sKind) st () st'/\PH (pkP w g) st' M bx rs L W':=needW_any Sx.sKind _ rfl h
theorem needSchema_any (h:PH (pkP w g) st M bx rs L W) :
  Calls Tryz.prog 32 #[.pointer (some ⟨g,0,none⟩),.string ⟨#[115,99,104,101,109,97]⟩] W fun e W'=>∃ st',e=.returned (.tuple #[])/\Sx.Nx (Sx.need Sx.sSchema) st () st'/\PH (pkP w g) st' M bx rs L W':=needW_any Sx.sSchema _ rfl h
theorem rule_any (he:SEnv w) (h:PH (pkP w g) st M bx rs L W):Calls Tryz.prog 40 #[.pointer (some ⟨g,0,none⟩)] W (RdA (pkP w g) Sx.rule st bx rs L):=by
 obtain ⟨N,hN⟩:=aX W.heap.size
 have T:=aI (h.new #[.string ⟨#[]⟩,.string ⟨#[]⟩,.string ⟨#[]⟩,.string ⟨#[]⟩,.int .i64 0] 58 hN)
 have HE:=aI he
 clear h he
 go_enter Tryz.func40,Tryz.ntmps40
 go_upto_region 3 with (first | (go_at_call 32;(with_reducible refine (needRule_any T.out).mono ?_);rintro e w1 ⟨st1,rfl,x1,h1⟩;replace T:=aI h1;have X1:=aI x1;clear h1 x1) | (go_at_call 79;(with_reducible refine (nameR_any T.out).mono ?_);rintro e w1 ⟨n,st2,rfl,i2,x2,h2⟩;replace T:=aI h2;have X2:=aI x2;have I2:=aI i2;clear h2 x2 i2))
 obtain ⟨N1,hN1⟩:=aX w1.heap.size
 replace T:=aI (T.out.new #[.string (Sx.ofT n),.string ⟨#[]⟩,.string ⟨#[]⟩,.string ⟨#[]⟩,.int .i64 0] 58 hN1)
 rw [hN1]
 go_upto_region 7 with (first | (go_at_call 79;(first | (with_reducible refine (nameR_any T.out).mono ?_) | (with_reducible refine (nameR_any (T.out.set0 _ _)).mono ?_));rintro e w1 ⟨n3,st3,rfl,i3,x3,h3⟩;replace T:=aI h3;have X3:=aI x3;have I3:=aI i3;clear h3 x3 i3;have B:=T.out.box (.head _);obtain ⟨z0,z1,z2,z3,z4⟩:=aN5 B.cell;obtain ⟨f0,f1,f2,f3,f4⟩:=aN5 B.frozen;simp at z0 z1 z2 z3 z4;clear B) | (go_at_call 87;(with_reducible refine (namesR_any (T.out.set0 1 _)).mono ?_);rintro e w1 ⟨n4,st4,rfl,i4,x4,h4⟩;replace T:=aI h4;have X4:=aI x4;have I4:=aI i4;clear h4 x4 i4;clear z0 z1 z2 z3 z4 f0 f1 f2 f3 f4;have B:=T.out.box (.head _);obtain ⟨z0,z1,z2,z3,z4⟩:=aN5 B.cell;obtain ⟨f0,f1,f2,f3,f4⟩:=aN5 B.frozen;simp at z0 z1 z2 z3 z4;clear B) | (go_at_call 87;(with_reducible refine (namesR_any (T.out.set0 2 _)).mono ?_);rintro e w1 ⟨n5,st5,rfl,i5,x5,h5⟩;replace T:=aI h5;have X5:=aI x5;have I5:=aI i5;clear h5 x5 i5;clear z0 z1 z2 z3 z4 f0 f1 f2 f3 f4;have B:=T.out.box (.head _);obtain ⟨z0,z1,z2,z3,z4⟩:=aN5 B.cell;obtain ⟨f0,f1,f2,f3,f4⟩:=aN5 B.frozen;simp at z0 z1 z2 z3 z4;clear B) | (go_at_call 33;(with_reducible refine (num_any' HE.out (T.out.set0 3 _)).mono ?_);rintro e w1 ⟨n6,st6,rfl,i6,x6,h6⟩;replace T:=aI h6;have X6:=aI x6;have I6:=aI i6;clear h6 x6 i6;clear z0 z1 z2 z3 z4 f0 f1 f2 f3 f4;have B:=T.out.box (.head _);obtain ⟨z0,z1,z2,z3,z4⟩:=aN5 B.cell;obtain ⟨f0,f1,f2,f3,f4⟩:=aN5 B.frozen;simp at z0 z1 z2 z3 z4;clear B))
 have T7:=aI (show PH (pkP w g) st6 (N1::N::M) ((N1,58,#[.string (Sx.ofT n),.string (Sx.ofT n3),.string (Sx.ofT n4),.string (Sx.ofT n5),.int .i64 n6])::(N,58,#[.string ⟨#[]⟩,.string ⟨#[]⟩,.string ⟨#[]⟩,.string ⟨#[]⟩,.int .i64 0])::bx) rs L _ from T.out.set0 4 (.int .i64 n6))
 clear T z0 z1 z2 z3 z4 f0 f1 f2 f3 f4
 generalize w1.setCell ⟨N1,4,none⟩ (.int .i64 n6)=W8 at *
 have B:=T7.out.box (.head _);obtain ⟨z0,z1,z2,z3,z4⟩:=aN5 B.cell
 have C:=T7.out.box (.tail _ (.head _));obtain ⟨y0,y1,y2,y3,y4⟩:=aN5 C.cell;obtain ⟨f0,f1,f2,f3,f4⟩:=aN5 C.frozen
 simp at z0 z1 z2 z3 z4 y0 y1 y2 y3 y4
 clear B C
 have T8:=aI (show PH (pkP w g) st6 (N1::N::M) ((N,58,#[.string (Sx.ofT n),.string (Sx.ofT n3),.string (Sx.ofT n4),.string (Sx.ofT n5),.int .i64 n6])::(N1,58,#[.string (Sx.ofT n),.string (Sx.ofT n3),.string (Sx.ofT n4),.string (Sx.ofT n5),.int .i64 n6])::bx) rs L _ from ((((T7.out.bswap.set0 0 (.string (Sx.ofT n))).set0 1 (.string (Sx.ofT n3))).set0 2 (.string (Sx.ofT n4))).set0 3 (.string (Sx.ofT n5))).set0 4 (.int .i64 n6))
 go_wp2_with fail
 clear y0 y1 y2 y3 y4
 have C:=T8.out.box (.head _);obtain ⟨y0,y1,y2,y3,y4⟩:=aN5 C.cell
 simp at y0 y1 y2 y3 y4
 refine bodyPost_ret (v:=.agg #[.string (Sx.ofT n),.string (Sx.ofT n3),.string (Sx.ofT n4),.string (Sx.ofT n5),.int .i64 n6]) ?_ rfl ?_
 ·simp [results,Tryz.results40,go_sem,y0,y1,y2,y3,y4]
 ·exact ⟨(Sx.ofT n,Sx.ofT n3,Sx.ofT n4,Sx.ofT n5,n6),_,st6,_,rfl,Sx.nx_bind X1.out (Sx.nx_bind X2.out (Sx.nx_bind X3.out (Sx.nx_bind X4.out (Sx.nx_bind X5.out (Sx.nx_bind X6.out (Sx.nx_ret _ _)))))),T8.out.unbox.unbox.add (keeps_rep _ _) ⟨[_],_,rfl,⟨rfl,ah I2.out (by decide)⟩,[_],_,rfl,⟨rfl,ah I3.out (by decide)⟩,[_],_,rfl,⟨rfl,ah I4.out (by decide)⟩,[_],_,rfl,⟨rfl,ah I5.out (by decide)⟩,⟨rfl,I6.out⟩⟩⟩
end
namespace Sx
theorem nx_count' {st st':St} {n:Int} (h:Nx (fun l=>(count l).bind fun n l=>.ok (n:Int) l) st n st'):Nx count st n.toNat st':=by
 obtain ⟨l,f⟩:=st
 cases f
 ·rw [nx_iff] at h ⊢
  cases hc:count l with
  | bad m=>rw [hc] at h;exact h
  | ok a m=>rw [hc] at h;obtain ⟨rfl,rfl⟩:=h;exact ⟨by simp,rfl⟩
 ·obtain rfl:=nx_of_failed h;exact nx_failed
end Sx
theorem infoStr:(Tryz.prog.info? 9).map (fun i=>(i.zero,i.size,i.bytes))=some (some (.string ⟨#[]⟩),1,16):=by kernel_rfl
section
variable {K:PK} {w:World} {g:Nat} {st:Sx.St} {M:List Nat} {bx:List Box} {rs:List Rw} {L:List (List Nat->World->Prop)} {W:World} {P:Program}
theorem step_append_ph {K:PK} {ops:Array Oper} {o:Oper} {a:Act} {K':Act->World->Prop} {Q:Exit->Act->World->Prop} {E:Prop} (hgd:o.guard=none) (s x:Operand) (t:TypeId)
  (ho:o.op=.call { callee:=.builtin .append,args:=#[s,x],argTypes:=#[t,t] })
  (e:TypeId) (i:TypeInfo) (z:Value) (size bytes:Nat) (ht:P.underlying t=some (.slice e)) (hi:P.info? e=some i) (hz:i.zero=some z)
  (hsize:i.size=size) (hby:i.bytes=bytes) (hzs:z.cells.size=size) (hsz:0 < size)
  {v:Value} {n:Nat} {xs:List Value} (H:PH K st M bx (⟨e,size,v,n,xs⟩::rs) L W) (hs:a.eval s=v)
  (B:Nat) (A:Option Addr) (m c:Nat) (news:List Value) (hx:a.eval x=.slice A m c) (hr:Reads W B size A m news) (h1:∀ u∈news,u.oneCell'=true)
  (h63:n+m<=maxLen) (hbytes:(n+m)*bytes<=140737488355328)
  (h:∀ v' W' M',PH K st M' bx (⟨e,size,v',n+m,xs++news⟩::rs) L W'->(∀ g∈M,g∈M')->K' (a.put o.dst v') W') :
  if Region.wanted o (yielded ops a.tmps)=true then Oper.wp P o a W K' Q else E:=by
 obtain ⟨cs,H'⟩:=H.it
 exact step_append_rows hgd s x t ho e i z size bytes ht hi hz hsize hby hzs hsz H' hs B A m c news hx hr h1 h63 hbytes fun v' W' M' h2 h3=>h v' W' M' ⟨cs,h2⟩ h3
theorem cntR_any (he:SEnv w) (h:PH (pkP w g) st M bx rs L W) :
  Calls Tryz.prog 84 #[.pointer (some ⟨g,0,none⟩)] W fun e W'=>∃ (n:Int) (st':Sx.St),e=.returned (.int .i64 n)/\inI n/\Sx.Nx Sx.count st n.toNat st'/\(st'.2=false->1<=n/\n<=12)/\PH (pkP w g) st' M bx rs L W' :=
 (cnt_any he h).mono fun _ _ ⟨n,st',h1,h2,h3,h4,h5⟩=>⟨n,st',h1,h2,Sx.nx_count' h3,h4,h5⟩
theorem isMove_any (h:PH (pkP w g) st M bx rs L W):Calls Tryz.prog 35 #[.string ⟨#[109,111,118,101]⟩] W fun e W'=>∃ N,e=.returned (.func (.func 78) #[] #[.pointer (some ⟨N,0,none⟩)])/\PH (pkP w g) st M bx rs (IsB N Sx.sMove::L) W':=is_any Sx.sMove h
theorem move_ne:Sx.sMove≠[]:=by decide
theorem isb_head (N:Nat) (wd:Sx.Txt) (L:List (List Nat->World->Prop)):IsB N wd∈IsB N wd::L:=.head _
theorem life_any (he:SEnv w) (h:PH (pkP w g) st M bx rs L W):Calls Tryz.prog 38 #[.pointer (some ⟨g,0,none⟩)] W (RdA (pkP w g) Sx.life st bx rs L):=by
 obtain ⟨N,hN⟩:=aX W.heap.size
 have T:=aI (h.new #[.string ⟨#[]⟩,.slice none 0 0,.slice none 0 0] 55 hN)
 have HE:=aI he
 clear h he
 go_enter Tryz.func38,Tryz.ntmps38
 go_upto_region 3 with (first | (go_at_call 32;(with_reducible refine (needLife_any T.out).mono ?_);rintro e w1 ⟨st1,rfl,x1,h1⟩;replace T:=aI h1;have X1:=aI x1;clear h1 x1) | (go_at_call 79;(with_reducible refine (nameR_any T.out).mono ?_);rintro e w1 ⟨n,st2,rfl,i2,x2,h2⟩;replace T:=aI h2;have X2:=aI x2;have I2:=aI i2;clear h2 x2 i2))
 obtain ⟨N1,hN1⟩:=aX w1.heap.size
 replace T:=aI (T.out.new #[.string (Sx.ofT n),.slice none 0 0,.slice none 0 0] 55 hN1)
 rw [hN1]
 go_wp2_with (go_at_call 84;(with_reducible refine (cntR_any HE.out T.out).mono ?_);rintro e w2 ⟨n0,stc,rfl,i3,x3,hc3,h3⟩;replace T:=aI ((h3.push 9 1).add (keeps_flat ([]:List ByteArray) []) rfl);have X3:=aI x3;have I3:=aI i3;have HC3:=aI hc3;clear h3 x3 i3 hc3)
 have HX0:=aI (show ∀ x st',Sx.Nx (Sx.states n0.toNat []) stc x st'->Sx.Nx (Sx.states n0.toNat []) stc x st' from fun _ _ h=>h)
 go_loopg [4] (if stc.2=true then 0 else n0.toNat) (fun r v4 wr=>∃ (i:Int) (st1:Sx.St) (acc:List ByteArray) (xs:List Value) (M1:List Nat) (u:Value),v4=.int .i64 i/\PH (pkP w g) st1 M1 ((N1,55,#[.string (Sx.ofT n),u,.slice none 0 0])::(N,55,#[.string ⟨#[]⟩,.slice none 0 0,.slice none 0 0])::bx) (⟨9,1,u,acc.length,xs⟩::rs) ((fun M W=>Flat M W acc xs)::L) wr/\inI i/\(if st1.2=true then 0 else i.toNat)=r/\(st1.2=false->i<=12)/\acc.length+r<=100/\(∀ x st',Sx.Nx (Sx.states i.toNat acc) st1 x st'->Sx.Nx (Sx.states n0.toNat []) stc x st'))
 case atStart=>exact ⟨n0,stc,[],[],_,_,rfl,T.out,I3.out,rfl,fun h=>(HC3.out h).2,by
  show 0+(if stc.2=true then 0 else n0.toNat)<=100
  split
  ·omega
  ·rename_i hf;have:=HC3.out (by simpa using hf);omega,HX0.out⟩
 case round =>
  obtain ⟨i,st1,acc,xs,M1,u,rfl,hH,hi,hlf,h12,hal,hnx⟩:=hrel
  obtain ⟨wo,rfl⟩:=aY wr
  replace T:=aI hH
  have HX:=aI hnx
  have HI:=aI hi
  have H12:=aI h12
  have HLF:=aI hlf
  clear hH hnx hlf hi h12 HX0
  obtain ⟨l,f⟩:=st1
  obtain ⟨A7,c7,rfl⟩:=T.out.form
  obtain ⟨cs9,hb9,A9,c9,rfl,_⟩:=T.out.pbox
  have z9:=hb9.cell 1
  simp at z9
  clear hb9
  have HA8:=aI (show acc.length<=100 by omega)
  by_cases hgo:0 < i/\f=false
  ·obtain ⟨hi0,rfl⟩:=hgo
   have t1:decide (0 < i)=true:=ac hi0
   have q:=T.out.box (.head _);have q1:=q.cell 1;(simp at q1);clear q
   have HL:=aI (show Sx.left (l,false)=l.length+1 from rfl)
   go_wp2_with fail
   go_region_law (first | (obtain ⟨i0,hI,hz0,hz1,hz2⟩:=info_parts infoStr;refine step_append_ph (by rfl) _ _ 33 (by rfl) 9 i0 _ 1 16 Tryz.underlying33 hI hz0 hz1 hz2 rfl (by decide) (T2.out.below (aP _ _)) (by rfl) _ _ 1 1 [.string (Sx.ofT t3)] (by rfl) (reads_blk (Blk.new _ _ _) rfl) (by simp [Value.oneCell']) (by have:=HA8.out;unfold maxLen;omega) (by have:=HA8.out;omega) ?_;intro v7 w7 M7 h7 _;obtain ⟨A8,c8,rfl⟩:=h7.form;have q:=h7.box (.head _);have q1:=q.cell 1;(simp at q1);have f1:=q.frozen 1;clear q;have T3:=aI h7;clear h7 hI hz0 hz1 hz2) | (go_simp;go_at_call 79;refine (nameR_any T.out.drew).mono ?_;rintro e w3 ⟨t3,st3,rfl,i3,x3,h3⟩;have q:=h3.box (.head _);have q1:=q.cell 1;(simp at q1);clear q;have T2:=aI h3;have X4:=aI x3;have I4:=aI i3;have q1b:∀ o,(w3.alloc o).cell? ⟨N1,1,none⟩=some (.slice A7 acc.length c7):=(fun o=>by have q:=(T2.out.below ((Below.refl _ _).alloc (ag _) o)).box (.head _);have q:=q.cell 1;simpa using q);clear h3 x3 i3))
   all_goals
    have T4:=aI (((T3.out.set0 1 (.slice A8 (acc.length+1) c8)).flat (Flat.single (us:=[.string (Sx.ofT t3)]) ⟨rfl,ah I4.out (by decide)⟩)))
    have hw:IntKind.i64.wrap (i - 1)=i - 1:=wrapI (by have:=HI.out;unfold inI at this ⊢;omega)
    have HW:=aI hw
    clear T T2 T3 q1b
    go_wp2_with fail
    go_roundg (if st3.2=true then 0 else (i - 1).toNat)
    case measure =>
     have h1:=HLF.out
     rw [if_neg (by simp)] at h1
     split <;> omega
    case rel =>
     have h1:=HLF.out
     rw [if_neg (by simp)] at h1
     refine ⟨i - 1,st3,acc++[Sx.ofT t3],_,M7,_,by first | rfl | (rw [HW.out]),by rw [aK];exact T4.out,by have:=HI.out;unfold inI at this ⊢;omega,rfl,fun _=>by have:=H12.out (by simp);omega,by rw [aK,List.length_singleton];split <;> omega,fun x st' hx=>HX.out _ _ ?_⟩
     rw [show i.toNat=(i - 1).toNat+1 by omega]
     exact Sx.nx_bind X4.out hx
  ·have HST:=aI (show Sx.Nx (Sx.states i.toNat acc) (l,f) acc (l,f) by
    cases f
    ·rw [show i.toNat=0 by
       have:¬ 0 < i:=fun h=>hgo ⟨h,rfl⟩
       omega]
     exact Sx.nx_ret _ _
    ·exact Sx.nx_failed)
   obtain ⟨A,c,M',hv,hc1,hc2,h4,_⟩:=T.out.freeze (α:=_) rfl rfl (T.out.fact (.head _))
   injection hv with hv1 hv2 hv3
   subst hv1 hv3
   replace T:=aI (show PH (pkP w g) (l,f) M' ((N1,55,#[.string (Sx.ofT n),.slice A7 acc.length c7,.slice none 0 0])::(N,55,#[.string ⟨#[]⟩,.slice none 0 0,.slice none 0 0])::bx) rs ((fun M W=>SlAt M W A7 acc)::L) wo from h4.less fun P hP=>by
    rcases aL hP with rfl | hP
    ·exact .head _
    ·exact .tail _ (.tail _ hP))
   clear h4
   have HCC:=aI (show acc.length<=c7/\c7<=9223372036854775807 from ⟨hc1,hc2⟩)
   clear hc1 hc2
   have hcase:decide (0 < i)=false∨(decide (0 < i)=true/\f=true):=by
    by_cases h:0 < i
    ·exact .inr ⟨ac h,by cases f;exact absurd ⟨h,rfl⟩ hgo;rfl⟩
    ·exact .inl (ad h)
   clear hgo
   rcases hcase with t1 | ⟨t1,rfl⟩
   all_goals
    go_upto_region 8 with (first | (go_at_call 35;(with_reducible refine (isMove_any T.out).mono ?_);rintro e w3 ⟨N3,rfl,h3⟩;replace T:=aI h3;clear h3) | (go_at_call 85;(with_reducible refine (someM_any HE.out move_ne (isb_head _ _ _) T.out).mono ?_);rintro e w4 ⟨ms,A4,c4,st4,M4,rfl,d1,d2,d3,x4,h4⟩;replace T:=aI h4;have X4:=aI x4;have D:=aI (show ms.length<=c4/\c4<=9223372036854775807 from ⟨d1,d2⟩);clear h4 x4 d1 d2 d3;have B:=T.out.box (.head _);obtain ⟨z0,z1,z2⟩:=aN3 B.cell;have f2:=B.frozen 2;(simp at z0 z1 z2);clear B))
    have T7:=aI (show PH (pkP w g) st4 M4 ((N1,55,#[.string (Sx.ofT n),.slice A7 acc.length c7,.slice A4 ms.length c4])::(N,55,#[.string ⟨#[]⟩,.slice none 0 0,.slice none 0 0])::bx) rs _ _ from T.out.set0 2 (.slice A4 ms.length c4))
    clear T z0 z1 z2 f2
    generalize w4.setCell ⟨N1,2,none⟩ (.slice A4 ms.length c4)=W8 at *
    have B:=T7.out.box (.head _);obtain ⟨z0,z1,z2⟩:=aN3 B.cell
    have C:=T7.out.box (.tail _ (.head _));obtain ⟨y0,y1,y2⟩:=aN3 C.cell;obtain ⟨f0,f1,f2⟩:=aN3 C.frozen
    simp at z0 z1 z2 y0 y1 y2
    clear B C
    have T8:=aI (show PH (pkP w g) st4 M4 ((N,55,#[.string (Sx.ofT n),.slice A7 acc.length c7,.slice A4 ms.length c4])::(N1,55,#[.string (Sx.ofT n),.slice A7 acc.length c7,.slice A4 ms.length c4])::bx) rs _ _ from ((T7.out.bswap.set0 0 (.string (Sx.ofT n))).set0 1 (.slice A7 acc.length c7)).set0 2 (.slice A4 ms.length c4))
    go_wp2_with fail
    clear y0 y1 y2
    have C:=T8.out.box (.head _);obtain ⟨y0,y1,y2⟩:=aN3 C.cell
    simp at y0 y1 y2
    have hms:=T8.out.fact (.head _)
    have hac:=T8.out.fact (.tail _ (.tail _ (.head _)))
    refine bodyPost_ret (v:=.agg #[.string (Sx.ofT n),.slice A7 acc.length c7,.slice A4 ms.length c4]) ?_ rfl ?_
    ·simp [results,Tryz.results38,go_sem,y0,y1,y2]
    ·exact ⟨(Sx.ofT n,acc,ms),_,st4,_,rfl,Sx.nx_bind X1.out (Sx.nx_bind X2.out (Sx.nx_bind X3.out (Sx.nx_bind (HX.out _ _ HST.out) (Sx.nx_bind X4.out (Sx.nx_ret _ _))))),(T8.out.unbox.unbox.add (keeps_rep (Sx.ofT n,acc,ms) [.string (Sx.ofT n),.slice A7 acc.length c7,.slice A4 ms.length c4]) ⟨[_],_,rfl,⟨rfl,ah I2.out (by decide)⟩,[_],_,rfl,⟨_,_,rfl,HCC.out.1,HCC.out.2,hac⟩,⟨_,_,rfl,D.out.1,D.out.2,hms⟩⟩).less fun P hP=>by
      rcases aL hP with rfl | hP
      ·exact .head _
      ·exact .tail _ (.tail _ (.tail _ (.tail _ hP)))⟩
end
namespace Sx
def wordsB:List ByteArray:=wordsL.map ofT
def wordI (t:Txt):Int:=match wordOf t with
 | some k=>(k:Int)
 | none=>-1
theorem idxFrom_words:∀ (l:List Txt) (t:Txt) (i:Nat),Lib.idxFromS (l.map ofT) (ofT t) i=match l.findIdx? (· == t) with
  | some k=>((i+k:Nat):Int)
  | none=>-1
 | [],t,i=>rfl
 | u::l,t,i=>by
  rw [List.map_cons,List.findIdx?_cons]
  unfold Lib.idxFromS
  by_cases h:u=t
  ·rw [h];simp
  ·rw [if_neg (fun e=>h (ofT_inj e)),if_neg (by simpa using h),idxFrom_words l t (i+1)]
   cases l.findIdx? (· == t) with
   | none=>rfl
   | some k=>show ((i+1+k:Nat):Int)=((i+(k+1):Nat):Int);congr 1;omega
theorem idx_words (t:Txt):Lib.idxOfS wordsB (ofT t)=wordI t:=by
 unfold Lib.idxOfS wordsB wordI wordOf
 rw [idxFrom_words]
 cases wordsL.findIdx? (· == t) <;> simp
theorem con_words (t:Txt):Lib.containsS wordsB (ofT t)=isWord t:=by
 unfold Lib.containsS
 rw [idx_words]
 unfold wordI isWord
 cases wordOf t with
 | none=>rfl
 | some k=>simp
theorem wordI_some {t:Txt} {k:Nat} (h:wordOf t=some k):wordI t=k:=by unfold wordI;rw [h]
theorem wordOf_lt {t:Txt} {k:Nat} (h:wordOf t=some k):k < 9:=by
 unfold wordOf at h
 rw [List.findIdx?_eq_some_iff_getElem] at h
 exact h.1
end Sx
theorem wordsB_at (k:Nat) (h:k < Sx.wordsB.length):Sx.wordsB.getD k ByteArray.empty=wdS k:=by
 have h9:k < 9:=h
 match k,h9 with
 | 0,_ | 1,_ | 2,_ | 3,_ | 4,_ | 5,_ | 6,_ | 7,_ | 8,_=>rfl
theorem words_cells {W:World} (he:SEnv W):∀ j,j < Sx.wordsB.length->W.cell? ⟨0,0+j,none⟩=some (.string (Sx.wordsB.getD j ByteArray.empty)):=fun j hj=>by rw [Nat.zero_add,wordsB_at j hj];exact he.words j hj
theorem idxW_any (t:Sx.Txt) (W:World) (he:SEnv W):Calls Tryz.prog 126 #[.slice (some ⟨0,0,none⟩) 9 9,.string (Sx.ofT t)] W fun e W'=>e=.returned (.int .i64 (Sx.wordI t))/\W'=W :=
 (Tryz.slices_Index_string 0 0 9 9 Sx.wordsB (Sx.ofT t) W (ag _) (by decide) (words_cells he)).mono fun e W' ⟨h1,h2⟩=>⟨by rw [h1,show Sx.wordsB.take 9=Sx.wordsB from rfl,Sx.idx_words],h2⟩
theorem conW_any (t:Sx.Txt) (W:World) (he:SEnv W):Calls Tryz.prog 82 #[.slice (some ⟨0,0,none⟩) 9 9,.string (Sx.ofT t)] W fun e W'=>e=.returned (.bool (Sx.isWord t))/\W'=W :=
 (Tryz.slices_Contains_string 0 0 9 9 Sx.wordsB (Sx.ofT t) W (ag _) (by decide) (words_cells he)).mono fun e W' ⟨h1,h2⟩=>⟨by rw [h1,show Sx.wordsB.take 9=Sx.wordsB from rfl,Sx.con_words],h2⟩
theorem kind1_any (t:Sx.Txt) (W:World) (he:SEnv W):Calls Tryz.prog 81 #[.string (Sx.ofT t)] W fun e W'=>e=.returned (.bool (Sx.isWord t))/\W=W':=by
 have CC:=aI (conW_any t W he)
 clear he
 go_enter Tryz.func81,Tryz.ntmps81
 go_wp2_with (go_at_call 82;(with_reducible refine (CC.out).mono ?_);rintro e w2 ⟨rfl,rfl⟩)
 go_ret
 exact ⟨rfl,rfl⟩
end
end Go.Proofs.YtmplaikgbeeikaaGreatDoor
