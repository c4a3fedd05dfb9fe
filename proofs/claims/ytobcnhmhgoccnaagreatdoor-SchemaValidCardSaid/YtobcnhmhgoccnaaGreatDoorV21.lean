/- Parts of the proof, joined: W37, M11, SySo0, SySo1. -/
import Derived.Test.YtobcnhmhgoccnaaGreatDoorV7
import Derived.Test.YtobcnhmhgoccnaaGreatDoorV20
import Derived.Deep.RegionHeld3
set_option maxHeartbeats 100000000
set_option linter.unusedVariables false
set_option linter.unusedSimpArgs false
set_option linter.unusedSectionVars false
namespace Go.Proofs.YtobcnhmhgoccnaaGreatDoor
open Go Go.RowKit
section
namespace Sg
def bmost:ByteArray:=⟨#[109,111,115,116]⟩
def bleast:ByteArray:=⟨#[108,101,97,115,116]⟩
inductive Rule (k:Knd):Rul->Bool->Prop
 | none:Sc.ix (Sc.named bsz) (Sc.flds k) < 0->Rule k (be,be,be,be,0) false
 | low (z:Int):0<=Sc.ix (Sc.named blow) (Sc.flds k)->0<=z->z<=7->Rule k (border++k.1.extract 0 1,k.1,blow,bhigh,z - 2) true
 | most (i:Nat) (h:i < (Sc.flds k).length) (z:Int):Sc.ix (Sc.named bsz) (Sc.flds k)=i->0<=z->z<=11->Rule k (bmost++k.1.extract 0 1,k.1,bsz,be,Sc.lo (Sc.flds k)[i]+z) true
 | least (i:Nat) (h:i < (Sc.flds k).length) (z:Int):Sc.ix (Sc.named bsz) (Sc.flds k)=i->0<=z->z<=11->Rule k (bleast++k.1.extract 0 1,k.1,be,bsz,z - Sc.hi (Sc.flds k)[i]) true
end Sg
def rulCells (r:Rul):Array Value:=#[.string r.1,.string r.2.1,.string r.2.2.1,.string r.2.2.2.1,.int .i64 r.2.2.2.2]
def RuleP (K:MkK) (bx:List Box) (rs:List Rw) (L:List (List Nat->World->Prop)) (k:Knd) (e:Ending) (w':World):Prop :=
 ∃r b M',e=.returned (.tuple #[.agg (rulCells r),.bool b])/\Sg.Rule k r b/\MkH K M' bx rs L w'
set_option maxRecDepth 100000 in
theorem grule_any {K:MkK} {M:List Nat} {bx:List Box} {rs:List Rw} {L:List (List Nat->World->Prop)} {W:World} {k:Knd} {A:Option Addr} {c:Nat} (h:MkH K M bx rs L W) (hs:SlAt M W A (Sc.flds k)) (hm:(Sc.flds k).length<=20) (hn1:1<=k.1.size) (hn2:k.1.size<=20) (hbd:∀f∈Sc.flds k,-1000<=Sc.lo f/\Sc.lo f<=1000/\-1000<=Sc.hi f/\Sc.hi f<=1000) :
  Calls Tryz.prog 22 #[K.p,.agg #[.string k.1,.int .i64 k.2.1,.int .i64 k.2.2.1,.slice A (Sc.flds k).length c]] W (RuleP K bx rs L k):=by
 obtain ⟨nm,hnm⟩:=aX k.1
 obtain ⟨n,hn⟩:=aX ((Sc.flds k).length)
 obtain ⟨lo,hlo⟩:=aX k.2.1
 obtain ⟨hi,hhi⟩:=aX k.2.2.1
 rw [hnm,hn,hlo,hhi]
 have h0:=(h.add (keeps_sl A (Sc.flds k)) hs)
 have h1:=((h0.new #[.string nm,.int .i64 lo,.int .i64 hi,.slice A n c] 52 rfl).new (N:=W.heap.size+1) #[.string ⟨#[]⟩,.string ⟨#[]⟩,.string ⟨#[]⟩,.string ⟨#[]⟩,.int .i64 0] 60 (by simp))
 obtain ⟨W0,hW0⟩:=aX ((W.alloc (.cells #[.string nm,.int .i64 lo,.int .i64 hi,.slice A n c] 52)).alloc (.cells #[.string ⟨#[]⟩,.string ⟨#[]⟩,.string ⟨#[]⟩,.string ⟨#[]⟩,.int .i64 0] 60))
 rw [hW0] at h1
 have hs0:=h1.fact (.head _)
 have H:=aI h1
 have q:=h1.box (.tail _ (.head _));have q3:=q.cell 3;(simp at q3);clear q h1
 have CL0:=λw' (hb:Below W0.heap.size W0 w')=>has_any (Sc.flds k) A c Sg.blow w' (hs0.keep (za hb)) (by omega)
 have CS0:=λw' (hb:Below W0.heap.size W0 w')=>has_any (Sc.flds k) A c Sg.bsz w' (hs0.keep (za hb)) (by omega)
 rw [hn] at CL0 CS0
 obtain ⟨il,hil⟩:=aX (Sc.ix (Sc.named Sg.blow) (Sc.flds k))
 obtain ⟨is,his⟩:=aX (Sc.ix (Sc.named Sg.bsz) (Sc.flds k))
 rw [hil] at CL0
 rw [his] at CS0
 have CL:=aI CL0;have CS:=aI CS0;have HIL:=aI hil;have HIS:=aI his;have HBD:=aI hbd;have HN:=aI hn;have HNM:=aI hnm
 rw [hnm] at hn1 hn2
 rw [hn] at hm
 clear hs0 CL0 CS0 hil his hbd hn hnm h0 h hs hlo hhi
 go_enter Tryz.func22,Tryz.ntmps22
 go_wp2_with fail
 generalize W.heap.size+1=rb at H ⊢
 generalize W.heap.size=kb at H ⊢
 clear hW0
 go_at_call 70
 refine (CL.out _ (zf _ _)).mono ?_
 rintro e w3 ⟨rfl,hb⟩
 replace H:=aI (H.out.below hb)
 have HB3:=aI hb
 clear hb q3
 have q:=H.out.box (.tail _ (.head _));have q3:=q.cell 3;(simp at q3);clear q
 go_wp2_with fail
 go_at_call 70
 refine (CS.out _ HB3.out).mono ?_
 rintro e w4 ⟨rfl,hb⟩
 replace H:=aI (H.out.below hb)
 clear hb
 go_upto_region 3 with fail
 go_cut [21] from 9 (λv21 w'=>∃b:Bool,v21=.bool b/\(b=true->0<=il)/\∃M,MkH K M ((rb,60,#[.string ⟨#[]⟩,.string ⟨#[]⟩,.string ⟨#[]⟩,.string ⟨#[]⟩,.int .i64 0])::(kb,52,#[.string nm,.int .i64 lo,.int .i64 hi,.slice A n c])::bx) rs ((λM W=>SlAt M W A (Sc.flds k))::L) w')
 case first =>
  clear CL CS HB3
  by_cases hl0:0<=il
  .go_wp2_with (go_at_call 20;refine (H.out.take 3 (by omega) (by omega)).mono ?_;rintro e w5 ⟨v,rfl,v1,v2,hr⟩;replace H:=aI (H.out.turn hr);clear hr)
   go_meet
   case rel=>exact ⟨_,rfl,λ_=>hl0,_,H.out⟩
  .have t1:decide (0<=il)=false:=ad hl0
   go_wp2_with fail
   go_meet
   case rel=>exact ⟨_,rfl,λh=>(by cases h),_,H.out⟩
 case rest =>
  obtain ⟨b,rfl,hb,M2,HS⟩:=hcut
  clear H CL CS HB3
  have H:=aI HS
  clear HS
  have hlen:(1:Int)<=((nm.size:Nat):Int):=by omega
  cases b
  .clear hb
   by_cases hs0:is < 0
   .have HB:=aI (show Sc.ix (Sc.named Sg.bsz) (Sc.flds k) < 0 by rw [HIS.out];exact hs0)
    have t1:decide (is < 0)=true:=ac hs0
    go_upto_region 6 with fail
    go_cut [5] from 6 (λv5 w'=>v5=.bool false/\∃r,Sg.Rule k r false/\∃M,MkH K M ((rb,60,rulCells r)::(kb,52,#[.string nm,.int .i64 lo,.int .i64 hi,.slice A n c])::bx) rs ((λM W=>SlAt M W A (Sc.flds k))::L) w')
    case first =>
     have q:=H.out.box (.head _);obtain ⟨f0,f1,f2,f3,f4⟩:=aN5 q.frozen;obtain ⟨q0,q1,q2,q3,q4⟩:=aN5 q.cell;(simp at q0 q1 q2 q3 q4);clear q
     go_wp2_with fail
     go_meet
     case rel=>exact ⟨rfl,(Sg.be,Sg.be,Sg.be,Sg.be,0),.none HB.out,_,((((H.out.set0 0 _).set0 1 _).set0 2 _).set0 3 _).set0 4 _⟩
    case rest =>
     obtain ⟨rfl,r,hr,M9,H9⟩:=hcut
     have q:=H9.box (.head _);obtain ⟨q0,q1,q2,q3,q4⟩:=aN5 q.cell;(simp [rulCells] at q0 q1 q2 q3 q4);clear q
     have H8:=aI H9.unbox.unbox.tail
     have HR:=aI hr
     clear H9 hr
     rename_i hK
     apply hK
     refine wp_ret ?_
     (try simp only [Exit.then])
     refine zi (v:=.tuple #[.agg (rulCells r),.bool false]) ?_ rfl ?_
     .simp [results,Tryz.results22,go_sem,q0,q1,q2,q3,q4,rulCells]
      try rfl
     .exact ⟨r,false,M9,rfl,HR.out,H8.out⟩
   .have t1:decide (is < 0)=false:=ad hs0
    obtain ⟨i,hi',hie,_⟩:=Sc.ix_get (p:=Sc.named Sg.bsz) (l:=Sc.flds k) (by rw [HIS.out];omega)
    have HIE:=aI hie
    rw [HIS.out] at hie
    subst hie
    have hin:i < n:=by rw [<-HN.out];exact hi'
    have k2:(i:Int) < (n:Int):=by omega
    have hbd:=HBD.out _ (ze hi')
    obtain ⟨b1,o1,B,cB,C,cC,rfl,_,g0,g1,g2,g3,g4,g5,g6,g7,_⟩:=fld_at (H.out.fact (.head _)) i hi'
    obtain ⟨f,hf⟩:=aX ((Sc.flds k)[i])
    rw [hf] at g0 g1 g2 g3 g4 g5 g6 g7 hbd
    have HF:=aI hf
    obtain ⟨flo,hflo⟩:=aX (Sc.lo f)
    obtain ⟨fhi,hfhi⟩:=aX (Sc.hi f)
    rw [hflo] at g4 hbd
    rw [hfhi] at g5 hbd
    obtain ⟨d1,d2,d3,d4⟩:=hbd
    have H2:=aI (H.out.new #[.string (Sc.nm f),.string (Sc.of_ f),.string (Sc.up f),.int .i64 (Sc.kd f),.int .i64 flo,.int .i64 fhi,.slice B (Sc.words f).length cB,.slice C (Sc.wts f).length cC] 65 rfl)
    have q:=H.out.box (.tail _ (.head _));have y3:=q.cell 3;(simp at y3);clear q
    have HFL:=aI hflo
    have HFH:=aI hfhi
    clear H hf hflo hfhi hs0
    generalize Sc.nm f=z0 at *
    generalize Sc.of_ f=z1 at *
    generalize Sc.up f=z2 at *
    generalize Sc.kd f=z3 at *
    generalize (Sc.words f).length=z6 at *
    generalize (Sc.wts f).length=z7 at *
    go_upto_region 8 with fail
    generalize hW9:wc.alloc _=W9 at H2 ⊢
    generalize wc.heap.size=fb at H2 ⊢
    clear g0 g1 g2 g3 g4 g5 g6 g7 y3 hW9
    have H:=H2
    clear H2
    go_wp2_with fail
    go_at_call 20
    refine (H.out.take 2 (by omega) (by omega)).mono ?_
    rintro e w5 ⟨v,rfl,v1,v2,hr⟩
    replace H:=aI (H.out.turn hr);clear hr
    by_cases hv:v=0
    .subst hv
     go_upto_region 9 with fail
     go_cut [5] from 6 (λv5 w'=>v5=.bool true/\∃r,Sg.Rule k r true/\∃M,MkH K M ((rb,60,rulCells r)::(kb,52,#[.string nm,.int .i64 lo,.int .i64 hi,.slice (some ⟨b1,o1,none⟩) n c])::bx) rs ((λM W=>SlAt M W (some ⟨b1,o1,none⟩) (Sc.flds k))::L) w')
     case first =>
      obtain ⟨wo,rfl⟩:=aY w5
      letI:Grow:=K.grow
      apply zx (C:=λw'=>K.R wo w') (n:=67) (m:=12) (l1:=[_,_,_,_,_,_,_,_,_,_,_,_]) (l2:=[_,_]);rfl;rfl;kernel_rfl;rfl;kernel_rfl;exact K.drew wo;exact λu u' h hb=>h.trans hb
      (apply aHx;·(intro w' hC hf;clear hf hC;go_wp2_with (fail);apply aBx;simp only [zC];exact rfl));(try simp only [zn])
      (apply aHx;·(intro w' hC hf;have q:=(H.out.turn hC).box (.tail _ (.tail _ (.head _)));have q0:=q.cell 0;(simp at q0);clear q;clear hf hC;go_wp2_with (fail);apply aBx;simp only [zC];exact rfl));(try simp only [zn])
      iterate 3 ((apply aHx;·(intro w' hC hf;clear hf hC;go_wp2_with (fail);apply aBx;simp only [zC];exact rfl));(try simp only [zn]))
      (apply aHx;·(intro w' hC hf;have q:=(H.out.turn hC).box (.tail _ (.tail _ (.head _)));have q0:=q.cell 0;(simp at q0);clear q;clear hf hC;go_wp2_with (fail);apply aBx;simp only [zC];exact rfl));(try simp only [zn])
      (apply aHx;·(intro w' hC hf;clear hf hC;go_wp2_with (fail);apply aBx;simp only [zC];exact rfl));(try simp only [zn])
      (apply aHx;·(intro w' hC hf;have q:=(H.out.turn hC).box (.head _);have q4:=q.cell 4;(simp at q4);clear q;clear hf hC;go_wp2_with (fail);apply aBx;simp only [zC];exact rfl));(try simp only [zn])
      (apply aHx;·(intro w' hC hf;clear hf hC;go_wp2_with (fail);apply aBx;simp only [zC];exact rfl));(try simp only [zn])
      apply zb (T:=λv _=>∃z:Nat,v=.int .i64 (z:Int)/\z < 12) (λv w w' h _=>h)
      .intro w' hC hf;unfold RG.Gives;clear hf
       go_wp2_with fail
       go_at_call 20
       refine ((H.out.turn hC).take 12 (by omega) (by omega)).mono ?_
       rintro e w3 ⟨v,rfl,v1,v2,hr⟩
       obtain ⟨z,rfl⟩:∃z':Nat,v=z':=⟨v.toNat,by omega⟩
       go_wp2_with fail
       refine zd rfl hr ?_;simp only [zC];exact ⟨z,rfl,by omega⟩
      intro v52;(try simp only [zn])
      apply zb (T:=λv _=>∃z:Nat,v=.int .i64 (flo+(z:Int))/\z < 12) (λv w w' h _=>h)
      .intro w' hC hf;unfold RG.Gives;obtain ⟨z,rfl,z1⟩:=hf.1 rfl;clear hf hC
       go_wp2_with fail
       refine zd rfl (Grow.refl _) ?_;simp only [zC];exact ⟨z,rfl,z1⟩
      intro v53;(try simp only [zn])
      apply zb (T:=λv _=>∃z:Nat,v=.agg #[.string (Sg.bmost++nm.extract 0 1),.string nm,.string Sg.bsz,.string Sg.be,.int .i64 (flo+(z:Int))]/\z < 12) (λv w w' h _=>h)
      .intro w' hC hf;unfold RG.Gives;obtain ⟨z,rfl,z1⟩:=hf.1 rfl;clear hf hC
       go_wp2_with fail
       refine zd rfl (Grow.refl _) ?_;simp only [zC];exact ⟨z,rfl,z1⟩
      intro v54;(try simp only [zn])
      apply RG.wpT_done
      intro w4 hC hall
      obtain ⟨z,rfl,z1⟩:=hall.1
      have T:=aI (H.out.turn hC)
      have q:=T.out.box (.tail _ (.head _));obtain ⟨f0,f1,f2,f3,f4⟩:=aN5 q.frozen;obtain ⟨q0,q1,q2,q3,q4⟩:=aN5 q.cell;(simp at q0 q1 q2 q3 q4);clear q
      clear hall hC H this
      go_wp2_with fail
      go_meet
      case rel =>
       refine ⟨rfl,(Sg.bmost++nm.extract 0 1,nm,Sg.bsz,Sg.be,flo+(z:Int)),?_,_,(((((T.out.swap.set0 0 _).set0 1 _).set0 2 _).set0 3 _).set0 4 _).swap.unbox⟩
       have:=Sg.Rule.most (k:=k) i hi' (z:Int) HIE.out (by omega) (by omega)
       rw [HNM.out,HF.out,HFL.out] at this
       exact this
     case rest =>
      obtain ⟨rfl,r,hr,M9,H9⟩:=hcut
      have q:=H9.box (.head _);obtain ⟨q0,q1,q2,q3,q4⟩:=aN5 q.cell;(simp [rulCells] at q0 q1 q2 q3 q4);clear q
      have H8:=aI H9.unbox.unbox.tail
      have HR:=aI hr
      clear H9 hr
      rename_i hK
      apply hK
      refine wp_ret ?_
      (try simp only [Exit.then])
      refine zi (v:=.tuple #[.agg (rulCells r),.bool true]) ?_ rfl ?_
      .simp [results,Tryz.results22,go_sem,q0,q1,q2,q3,q4,rulCells]
       try rfl
      .exact ⟨r,true,M9,rfl,HR.out,H8.out⟩
    .have t2:(v == 0)=false:=by rw [beq_eq_false_iff_ne];exact hv
     go_upto_region 10 with fail
     go_cut [5] from 6 (λv5 w'=>v5=.bool true/\∃r,Sg.Rule k r true/\∃M,MkH K M ((rb,60,rulCells r)::(kb,52,#[.string nm,.int .i64 lo,.int .i64 hi,.slice (some ⟨b1,o1,none⟩) n c])::bx) rs ((λM W=>SlAt M W (some ⟨b1,o1,none⟩) (Sc.flds k))::L) w')
     case first =>
      obtain ⟨wo,rfl⟩:=aY w5
      letI:Grow:=K.grow
      apply zx (C:=λw'=>K.R wo w') (n:=67) (m:=12) (l1:=[_,_,_,_,_,_,_,_,_,_,_,_]) (l2:=[_,_]);rfl;rfl;kernel_rfl;rfl;kernel_rfl;exact K.drew wo;exact λu u' h hb=>h.trans hb
      (apply aHx;·(intro w' hC hf;clear hf hC;go_wp2_with (fail);apply aBx;simp only [zC];exact rfl));(try simp only [zn])
      (apply aHx;·(intro w' hC hf;have q:=(H.out.turn hC).box (.tail _ (.tail _ (.head _)));have q0:=q.cell 0;(simp at q0);clear q;clear hf hC;go_wp2_with (fail);apply aBx;simp only [zC];exact rfl));(try simp only [zn])
      iterate 3 ((apply aHx;·(intro w' hC hf;clear hf hC;go_wp2_with (fail);apply aBx;simp only [zC];exact rfl));(try simp only [zn]))
      (apply aHx;·(intro w' hC hf;have q:=(H.out.turn hC).box (.tail _ (.tail _ (.head _)));have q0:=q.cell 0;(simp at q0);clear q;clear hf hC;go_wp2_with (fail);apply aBx;simp only [zC];exact rfl));(try simp only [zn])
      (apply aHx;·(intro w' hC hf;clear hf hC;go_wp2_with (fail);apply aBx;simp only [zC];exact rfl));(try simp only [zn])
      apply zb (T:=λv _=>∃z:Nat,v=.int .i64 (z:Int)/\z < 12) (λv w w' h _=>h)
      .intro w' hC hf;unfold RG.Gives;clear hf
       go_wp2_with fail
       go_at_call 20
       refine ((H.out.turn hC).take 12 (by omega) (by omega)).mono ?_
       rintro e w3 ⟨v,rfl,v1,v2,hr⟩
       obtain ⟨z,rfl⟩:∃z':Nat,v=z':=⟨v.toNat,by omega⟩
       go_wp2_with fail
       refine zd rfl hr ?_;simp only [zC];exact ⟨z,rfl,by omega⟩
      intro v62;(try simp only [zn])
      (apply aHx;·(intro w' hC hf;clear hf hC;go_wp2_with (fail);apply aBx;simp only [zC];exact rfl));(try simp only [zn])
      (apply aHx;·(intro w' hC hf;have q:=(H.out.turn hC).box (.head _);have q5:=q.cell 5;(simp at q5);clear q;clear hf hC;go_wp2_with (fail);apply aBx;simp only [zC];exact rfl));(try simp only [zn])
      apply zb (T:=λv _=>∃z:Nat,v=.int .i64 ((z:Int) - fhi)/\z < 12) (λv w w' h _=>h)
      .intro w' hC hf;unfold RG.Gives;obtain ⟨z,rfl,z1⟩:=hf.1 rfl;clear hf hC
       go_wp2_with fail
       refine zd rfl (Grow.refl _) ?_;simp only [zC];exact ⟨z,rfl,z1⟩
      intro v65;(try simp only [zn])
      apply zb (T:=λv _=>∃z:Nat,v=.agg #[.string (Sg.bleast++nm.extract 0 1),.string nm,.string Sg.be,.string Sg.bsz,.int .i64 ((z:Int) - fhi)]/\z < 12) (λv w w' h _=>h)
      .intro w' hC hf;unfold RG.Gives;obtain ⟨z,rfl,z1⟩:=hf.1 rfl;clear hf hC
       go_wp2_with fail
       refine zd rfl (Grow.refl _) ?_;simp only [zC];exact ⟨z,rfl,z1⟩
      intro v66;(try simp only [zn])
      apply RG.wpT_done
      intro w4 hC hall
      obtain ⟨z,rfl,z1⟩:=hall.1
      have T:=aI (H.out.turn hC)
      have q:=T.out.box (.tail _ (.head _));obtain ⟨f0,f1,f2,f3,f4⟩:=aN5 q.frozen;obtain ⟨q0,q1,q2,q3,q4⟩:=aN5 q.cell;(simp at q0 q1 q2 q3 q4);clear q
      clear hall hC H this
      go_wp2_with fail
      go_meet
      case rel =>
       refine ⟨rfl,(Sg.bleast++nm.extract 0 1,nm,Sg.be,Sg.bsz,(z:Int) - fhi),?_,_,(((((T.out.swap.set0 0 _).set0 1 _).set0 2 _).set0 3 _).set0 4 _).swap.unbox⟩
       have:=Sg.Rule.least (k:=k) i hi' (z:Int) HIE.out (by omega) (by omega)
       rw [HNM.out,HF.out,HFH.out] at this
       exact this
     case rest =>
      obtain ⟨rfl,r,hr,M9,H9⟩:=hcut
      have q:=H9.box (.head _);obtain ⟨q0,q1,q2,q3,q4⟩:=aN5 q.cell;(simp [rulCells] at q0 q1 q2 q3 q4);clear q
      have H8:=aI H9.unbox.unbox.tail
      have HR:=aI hr
      clear H9 hr
      rename_i hK
      apply hK
      refine wp_ret ?_
      (try simp only [Exit.inBlock,Exit.then])
      refine zi (v:=.tuple #[.agg (rulCells r),.bool true]) ?_ rfl ?_
      .simp [results,Tryz.results22,go_sem,q0,q1,q2,q3,q4,rulCells]
       try rfl
      .exact ⟨r,true,M9,rfl,HR.out,H8.out⟩
  .have HB:=aI (show 0<=Sc.ix (Sc.named Sg.blow) (Sc.flds k) by rw [HIL.out];exact hb rfl)
   clear hb
   go_upto_region 4 with fail
   go_cut [5] from 6 (λv5 w'=>v5=.bool true/\∃r,Sg.Rule k r true/\∃M,MkH K M ((rb,60,rulCells r)::(kb,52,#[.string nm,.int .i64 lo,.int .i64 hi,.slice A n c])::bx) rs ((λM W=>SlAt M W A (Sc.flds k))::L) w')
   case first =>
    obtain ⟨wo,rfl⟩:=aY wc
    letI:Grow:=K.grow
    apply zx (C:=λw'=>K.R wo w') (n:=67) (m:=10) (l1:=[_,_,_,_,_,_,_,_,_,_]) (l2:=[_,_]);rfl;rfl;kernel_rfl;rfl;kernel_rfl;exact K.drew wo;exact λu u' h hb=>h.trans hb
    (apply aHx;·(intro w' hC hf;clear hf hC;go_wp2_with (fail);apply aBx;simp only [zC];exact rfl));(try simp only [zn])
    (apply aHx;·(intro w' hC hf;have q:=(H.out.turn hC).box (.tail _ (.head _));have q0:=q.cell 0;(simp at q0);clear q;clear hf hC;go_wp2_with (fail);apply aBx;simp only [zC];exact rfl));(try simp only [zn])
    iterate 3 ((apply aHx;·(intro w' hC hf;clear hf hC;go_wp2_with (fail);apply aBx;simp only [zC];exact rfl));(try simp only [zn]))
    (apply aHx;·(intro w' hC hf;have q:=(H.out.turn hC).box (.tail _ (.head _));have q0:=q.cell 0;(simp at q0);clear q;clear hf hC;go_wp2_with (fail);apply aBx;simp only [zC];exact rfl));(try simp only [zn])
    (apply aHx;·(intro w' hC hf;clear hf hC;go_wp2_with (fail);apply aBx;simp only [zC];exact rfl));(try simp only [zn])
    apply zb (T:=λv _=>∃z:Nat,v=.int .i64 (z:Int)/\z < 8) (λv w w' h _=>h)
    .intro w' hC hf;unfold RG.Gives;clear hf
     go_wp2_with fail
     go_at_call 20
     refine ((H.out.turn hC).take 8 (by omega) (by omega)).mono ?_
     rintro e w3 ⟨v,rfl,v1,v2,hr⟩
     obtain ⟨z,rfl⟩:∃z':Nat,v=z':=⟨v.toNat,by omega⟩
     go_wp2_with fail
     refine zd rfl hr ?_;simp only [zC];exact ⟨z,rfl,by omega⟩
    intro v29;(try simp only [zn])
    apply zb (T:=λv _=>∃z:Nat,v=.int .i64 ((z:Int) - 2)/\z < 8) (λv w w' h _=>h)
    .intro w' hC hf;unfold RG.Gives;obtain ⟨z,rfl,z1⟩:=hf.1 rfl;clear hf hC
     go_wp2_with fail
     refine zd rfl (Grow.refl _) ?_;simp only [zC];exact ⟨z,rfl,z1⟩
    intro v30;(try simp only [zn])
    apply zb (T:=λv _=>∃z:Nat,v=.agg #[.string (Sg.border++nm.extract 0 1),.string nm,.string Sg.blow,.string Sg.bhigh,.int .i64 ((z:Int) - 2)]/\z < 8) (λv w w' h _=>h)
    .intro w' hC hf;unfold RG.Gives;obtain ⟨z,rfl,z1⟩:=hf.1 rfl;clear hf hC
     go_wp2_with fail
     refine zd rfl (Grow.refl _) ?_;simp only [zC];exact ⟨z,rfl,z1⟩
    intro v31;(try simp only [zn])
    apply RG.wpT_done
    intro w4 hC hall
    obtain ⟨z,rfl,z1⟩:=hall.1
    have T:=aI (H.out.turn hC)
    have q:=T.out.box (.head _);obtain ⟨f0,f1,f2,f3,f4⟩:=aN5 q.frozen;obtain ⟨q0,q1,q2,q3,q4⟩:=aN5 q.cell;(simp at q0 q1 q2 q3 q4);clear q
    clear hall hC H this
    go_wp2_with fail
    go_meet
    case rel =>
     refine ⟨rfl,(Sg.border++nm.extract 0 1,nm,Sg.blow,Sg.bhigh,(z:Int) - 2),?_,_,((((T.out.set0 0 _).set0 1 _).set0 2 _).set0 3 _).set0 4 _⟩
     have:=Sg.Rule.low (k:=k) (z:Int) HB.out (by omega) (by omega)
     rw [HNM.out] at this
     exact this
   case rest =>
    obtain ⟨rfl,r,hr,M9,H9⟩:=hcut
    have q:=H9.box (.head _);obtain ⟨q0,q1,q2,q3,q4⟩:=aN5 q.cell;(simp [rulCells] at q0 q1 q2 q3 q4);clear q
    have H8:=aI H9.unbox.unbox.tail
    have HR:=aI hr
    clear H9 hr
    rename_i hK
    apply hK
    refine wp_ret ?_
    (try simp only [Exit.then])
    refine zi (v:=.tuple #[.agg (rulCells r),.bool true]) ?_ rfl ?_
    .simp [results,Tryz.results22,go_sem,q0,q1,q2,q3,q4,rulCells]
     try rfl
    .exact ⟨r,true,M9,rfl,HR.out,H8.out⟩
end
section
namespace Sg
inductive Kinds:List Knd->Prop
 | nil:Kinds []
 | snoc (ks:List Knd) (k:Knd) (ks':List Knd):Kinds ks->Kind ks k ks'->Kinds (ks'++[k])
def bnew:ByteArray:=⟨#[110,101,119]⟩
def bopen:ByteArray:=⟨#[111,112,101,110]⟩
def bdone:ByteArray:=⟨#[100,111,110,101]⟩
def bshut:ByteArray:=⟨#[115,104,117,116]⟩
def states:List ByteArray:=[bnew,bopen,bdone,bshut]
def steps (m:Nat):List (Int × Int):=(List.range m).map λ(i:Nat)=>((i:Int),(i:Int)+1)
inductive Life:Lif->Prop
 | mk (m:Nat) (a b:List (Int × Int)):2<=m->m<=4->(a=[]∨a=[(1,0)])->(b=[]∨b=[(0,(m:Int) - 1)])->Life (blife,states.take m,steps (m - 1)++a++b)
inductive Rules (ks:List Knd):Nat->List Rul->Prop
 | nil:Rules ks 0 []
 | step (i:Nat) (h:i < ks.length) (rs:List Rul) (r:Rul) (b:Bool):Rules ks i rs->rs.length < 2->Rule ks[i] r b->Rules ks (i+1) (if b then rs++[r] else rs)
inductive Schema:Sch->Prop
 | mk (ver:Int) (ks:List Knd) (lf:Lif) (i:Nat) (rs:List Rul):0<=ver->ver<=3->1<=ks.length->ks.length<=3->Kinds ks->Life lf->Rules ks i rs->(i=ks.length∨rs.length=2)->Schema (ver,ks,[lf],rs)
def FBd (f:Fld):Prop:=-1000<=Sc.lo f/\Sc.lo f<=1000/\-1000<=Sc.hi f/\Sc.hi f<=1000
theorem Plain.bd {fs:List Fld} (h:Plain fs):∀f∈fs,FBd f:=by
 cases h with
 | none=>intro f hf;cases hf
 | size lo d _ _ _ _=>intro f hf;simp only [zg] at hf;subst hf;unfold FBd Sc.lo Sc.hi;simp only;omega
 | tag k ws _ _ _ _ _=>intro f hf;simp only [zg] at hf;subst hf;unfold FBd Sc.lo Sc.hi;simp only;omega
 | born lo d lo2 d2 _ _ _ _ _ _ _ _ =>
  intro f hf
  simp only [zB,zr,zQ] at hf
  rcases hf with rfl | rfl <;> (unfold FBd Sc.lo Sc.hi;simp only;omega)
 | state lo d _ _ _ _=>intro f hf;simp only [zg] at hf;subst hf;unfold FBd Sc.lo Sc.hi;simp only;omega
 | low a b c d _ _ _ _ _ _ _ _ =>
  intro f hf
  simp only [zB,zr,zQ] at hf
  rcases hf with rfl | rfl <;> (unfold FBd Sc.lo Sc.hi;simp only;omega)
theorem Same.bd {k:Knd} {fs:List Fld} (h:Same k fs):∀f∈fs,FBd f:=by
 cases h with
 | none=>intro f hf;cases hf
 | some c h _=>intro f hf;simp only [zg] at hf;subst hf;unfold FBd sameF Sc.lo Sc.hi;simp only;omega
structure KOk (k:Knd):Prop where
 n1:1<=k.1.size
 n2:k.1.size<=20
 lo:0<=k.2.1
 hi:k.2.2.1<=8
 len1:1<=(Sc.flds k).length
 len:(Sc.flds k).length<=9∨((Sc.flds k).length<=10/\0<=Sc.ix (Sc.named btotal) (Sc.flds k))
 bd:∀f∈Sc.flds k,FBd f
theorem kname_size (n:Nat) (h:n<=2):1<=(kname n).size/\(kname n).size<=20:=by
 rcases (show n=0∨n=1∨n=2 by omega) with rfl | rfl | rfl <;> decide
theorem ix_snoc {α:Type} {p:α->Bool} {l:List α} {x:α} (h:p x=true):0<=Sc.ix p (l++[x]):=by
 rcases Int.lt_or_le (Sc.ix p (l++[x])) 0 with hn | hn
 .have:=Sc.ix_neg hn x (by simp)
  rw [h] at this;cases this
 .exact hn
theorem KOk.total {k:Knd} {nm:ByteArray} (h:KOk k) (hx:Sc.ix (Sc.named btotal) (Sc.flds k) < 0):KOk (setF k (Sc.flds k++[totalF nm])):=by
 have hl:(Sc.flds k).length<=9:=by rcases h.len with h | ⟨_,h⟩ <;> omega
 refine ⟨h.n1,h.n2,h.lo,h.hi,?_,.inr ⟨?_,ix_snoc (by unfold Sc.named totalF Sc.nm;exact ac rfl)⟩,λf hf=>?_⟩
 .show 1<=(Sc.flds k++[totalF nm]).length;rw [aK];have:=h.len1;omega
 .show (Sc.flds k++[totalF nm]).length<=10;rw [aK,List.length_singleton];omega
 .rcases zE.1 (show f∈Sc.flds k++[totalF nm] from hf) with hf | hf
  .exact h.bd f hf
  .simp only [zg] at hf;subst hf;unfold FBd totalF Sc.lo Sc.hi;simp only;omega
theorem okLo_bd' {lo:Int} (h:okLo lo):-3<=lo/\lo<=100:=okLo_bd h
theorem Part.ok {nm:ByteArray} {ks:List Knd} {tq:Nat} {h:tq < ks.length} {fs:List Fld} {ks':List Knd} (hp:Part nm ks tq h fs ks') (hk:∀k∈ks,KOk k):(∀k∈ks',KOk k)/\∀f∈fs,FBd f:=by
 cases hp with
 | none=>exact ⟨hk,λf hf=>by cases hf⟩
 | some lo d _ _ _ _ hx =>
  refine ⟨λk hkm=>?_,λf hf=>?_⟩
  .rcases List.mem_or_eq_of_mem_set hkm with hkm | rfl
   .exact hk k hkm
   .exact (hk _ (ze h)).total hx
  .simp only [zg] at hf;subst hf;unfold FBd partF Sc.lo Sc.hi;simp only;omega
theorem Body.ok {nm:ByteArray} {ks:List Knd} {fs:List Fld} {ks':List Knd} (h:Body nm ks fs ks') (hk:∀k∈ks,KOk k):(∀k∈ks',KOk k)/\∀f∈fs,FBd f:=by
 cases h with
 | nil lo hlo =>
  have:=okLo_bd hlo
  refine ⟨hk,λf hf=>?_⟩
  simp only [zg] at hf;subst hf;unfold FBd idF Sc.lo Sc.hi;simp only;omega
 | cons _ tq h lo flo hi same part _ hlo _ _ _ _ hs hp =>
  have:=okLo_bd hlo
  obtain ⟨p1,p2⟩:=hp.ok hk
  refine ⟨p1,λf hf=>?_⟩
  simp only [zE,zB,zr,zQ] at hf
  rcases hf with ((rfl | rfl) | hf) | hf
  .unfold FBd idF Sc.lo Sc.hi;simp only;omega
  .unfold FBd ofF Sc.lo Sc.hi;simp only;omega
  .exact hs.bd f hf
  .exact p2 f hf
theorem Kind.ok {ks:List Knd} {k:Knd} {ks':List Knd} (h:Kind ks k ks') (hk:∀k∈ks,KOk k) (hn:ks.length<=2):(∀x∈ks'++[k],KOk x)/\ks'.length=ks.length:=by
 obtain ⟨h1,h2,h3,h4,h5,hf⟩:=h
 generalize hfs:Sc.flds k=fl at hf
 cases hf with
 | mk fs ks' by_ first second hb hby hp hs =>
  obtain ⟨b1,b2⟩:=hb.ok hk
  obtain ⟨l1,l2,l3⟩:=hb.len
  have hp2:=hp.len
  have hbyl:by_.length<=1:=by rcases hby with rfl | ⟨_,_,_,rfl⟩ <;> simp
  have hsl:second.length<=2:=by rcases hs with rfl | ⟨hs,_⟩;simp;exact hs.len
  refine ⟨λx hx=>?_,l3⟩
  rcases zE.1 hx with hx | hx
  .exact b1 x hx
  .simp only [zg] at hx
   subst hx
   obtain ⟨n1,n2⟩:=kname_size ks.length hn
   refine ⟨by rw [h1];exact n1,by rw [h1];exact n2,h2,by omega,?_,.inl ?_,λf hf=>?_⟩
   .rw [hfs];simp only [aK];omega
   .rw [hfs];simp only [aK];omega
   .rw [hfs] at hf
    simp only [zE] at hf
    rcases hf with ((hf | hf) | hf) | hf
    .exact b2 f hf
    .rcases hby with rfl | ⟨_,k0,_,rfl⟩
     .cases hf
     .simp only [zg] at hf;subst hf;unfold FBd byF Sc.lo Sc.hi;simp only;omega
    .exact hp.bd f hf
    .rcases hs with rfl | ⟨hs,_⟩
     .cases hf
     .exact hs.bd f hf
theorem Kind.klen {ks:List Knd} {k:Knd} {ks':List Knd} (h:Kind ks k ks'):ks'.length=ks.length:=by
 obtain ⟨_,_,_,_,_,hf⟩:=h
 generalize Sc.flds k=fl at hf
 cases hf with
 | mk fs ks' by_ first second hb _ _ _=>exact hb.len.2.2
theorem Kinds.ok {ks:List Knd} (h:Kinds ks):ks.length<=3->∀k∈ks,KOk k:=by
 induction h with
 | nil=>intro _ k hk;cases hk
 | snoc ks k ks' h hk ih =>
  intro hl
  have h3:=hk.klen
  rw [aK,List.length_singleton] at hl
  exact (hk.ok (ih (by omega)) (by omega)).1
end Sg
section
variable {w W W':World} {G M:List Nat} {bx:List Box} {rs:List Rw} {r:Rw} {L:List (List Nat->World->Prop)} {P:Program}
theorem step_append_rows {ops:Array Oper} {o:Oper} {a:Act} {K':Act->World->Prop} {Q:Exit->Act->World->Prop} {E:Prop} (hgd:o.guard=none) (s x:Operand) (t:TypeId)
  (ho:o.op=.call { callee:=.builtin .append,args:=#[s,x],argTypes:=#[t,t] })
  (e:TypeId) (i:TypeInfo) (z:Value) (size bytes:Nat) (ht:P.underlying t=some (.slice e)) (hi:P.info? e=some i) (hz:i.zero=some z)
  (hsize:i.size=size) (hby:i.bytes=bytes) (hzs:z.cells.size=size) (hsz:0 < size)
  {v:Value} {n:Nat} {xs:List Value} (H:HR w G M bx (⟨e,size,v,n,xs⟩::rs) L W) (hs:a.eval s=v)
  (B:Nat) (A:Option Addr) (m c:Nat) (news:List Value) (hx:a.eval x=.slice A m c) (hr:Reads W B size A m news) (h1:∀u∈news,u.oneCell'=true)
  (h63:n+m<=maxLen) (hbytes:(n+m)*bytes<=140737488355328)
  (h:∀v' W' M',HR w G M' bx (⟨e,size,v',n+m,xs++news⟩::rs) L W'->(∀g∈M,g∈M')->K' (a.put o.dst v') W'):if Region.wanted o (yielded ops a.tmps)=true then Oper.wp P o a W K' Q else E :=
 step_append_any W hgd s x t ho w.heap.size e i z size bytes ht hi hz hsize hby hzs hsz v n xs hs (H.own _ (.head _)) B A m c news hx hr h1 h63 hbytes H.h.bl.size λv' W' h2 h3 h4=>by
  have hok:=H.ok _ (.head _)
  have hap:=List.pairwise_cons.1 H.apart
  obtain ⟨M',k1,k2,k3⟩:=H.h.grown hok h3 h4 h2
  refine h v' W' M' ⟨k1,λr hr=>?_,λr hr=>?_,List.pairwise_cons.2 ⟨λs hs g hg1 hg2=>?_,hap.2⟩⟩ k3
  .rcases aL hr with rfl | hr
   .exact k2
   .exact (H.ok r (.tail _ hr)).mono k3
  .rcases aL hr with rfl | hr
   .exact h2
   .refine World.ownsRow.kept (H.own r (.tail _ hr)) h3 ?_
    cases he:r.v.ownBlock with
    | none=>exact .inl rfl
    | some g=>exact .inr λe=>hap.1 r hr g e.symm he
  .rcases h4 with he | he
   .exact hap.1 s hs g (he ▸ hg1) hg2
   .have k1:=(World.ownsRow.lt (H.own s (.tail _ hs)) g hg2).2
    rw [he] at hg1
    injection hg1 with hg1
    omega
end
section
variable {K:MkK} {M:List Nat} {bx:List Box} {rs:List Rw} {r:Rw} {L:List (List Nat->World->Prop)} {W W':World} {P:Program}
theorem step_append_mk {ops:Array Oper} {o:Oper} {a:Act} {K':Act->World->Prop} {Q:Exit->Act->World->Prop} {E:Prop} (hgd:o.guard=none) (s x:Operand) (t:TypeId)
  (ho:o.op=.call { callee:=.builtin .append,args:=#[s,x],argTypes:=#[t,t] })
  (e:TypeId) (i:TypeInfo) (z:Value) (size bytes:Nat) (ht:P.underlying t=some (.slice e)) (hi:P.info? e=some i) (hz:i.zero=some z)
  (hsize:i.size=size) (hby:i.bytes=bytes) (hzs:z.cells.size=size) (hsz:0 < size)
  {v:Value} {n:Nat} {xs:List Value} (H:MkH K M bx (⟨e,size,v,n,xs⟩::rs) L W) (hs:a.eval s=v)
  (B:Nat) (A:Option Addr) (m c:Nat) (news:List Value) (hx:a.eval x=.slice A m c) (hr:Reads W B size A m news) (h1:∀u∈news,u.oneCell'=true)
  (h63:n+m<=maxLen) (hbytes:(n+m)*bytes<=140737488355328)
  (h:∀v' W' M',MkH K M' bx (⟨e,size,v',n+m,xs++news⟩::rs) L W'->(∀g∈M,g∈M')->K' (a.put o.dst v') W'):if Region.wanted o (yielded ops a.tmps)=true then Oper.wp P o a W K' Q else E:=by
 obtain ⟨j,hj,H'⟩:=H.it
 exact step_append_rows hgd s x t ho e i z size bytes ht hi hz hsize hby hzs hsz H' hs B A m c news hx hr h1 h63 hbytes λv' W' M' h2 h3=>h v' W' M' ⟨H.len,H.base,j,hj,h2⟩ h3
end
theorem infoKnd:(Tryz.prog.info? 52).map (λi=>(i.zero,i.size,i.bytes))=some (some (.agg #[.string ⟨#[]⟩,.int .i64 0,.int .i64 0,.slice none 0 0]),4,56):=by kernel_rfl
def SSt (K:MkK) (xb rb:Nat) (ver:Int) (ks:List Knd) (w:World):Prop :=
 ∃M kv kxs,MkH K M [(xb,27,#[.int .i64 ver,kv,.slice none 0 0,.slice none 0 0]),(rb,27,#[.int .i64 0,.slice none 0 0,.slice none 0 0,.slice none 0 0])] [⟨52,4,kv,ks.length,kxs⟩] [λM W=>Flat M W ks kxs] w
def kndCells (k:Knd) (A:Option Addr) (c:Nat):List Value:=[.string k.1,.int .i64 k.2.1,.int .i64 k.2.2.1,.slice A (Sc.flds k).length c]
theorem KOk.knd {k:Knd} (h:Sg.KOk k) {G:List Nat} {w:World} {A:Option Addr} {c:Nat} (hs:SlAt G w A (Sc.flds k)) (h1:(Sc.flds k).length<=c) (h2:c<=9223372036854775807) (h3:k.2.1<=8) (h4:0<=k.2.2.1):Mem.rep G w k (kndCells k A c):=by
 have:=h.n2
 have:=h.lo
 have:=h.hi
 exact ⟨[_],_,rfl,⟨rfl,by omega⟩,[_],_,rfl,⟨rfl,by unfold inI;omega⟩,[_],_,rfl,⟨rfl,by unfold inI;omega⟩,A,c,rfl,h1,h2,hs⟩
theorem infoMv:(Tryz.prog.info? 58).map (λi=>(i.zero,i.size,i.bytes))=some (some (.agg #[.int .i64 0,.int .i64 0]),2,16):=by kernel_rfl
theorem infoLif:(Tryz.prog.info? 57).map (λi=>(i.zero,i.size,i.bytes))=some (some (.agg #[.string ⟨#[]⟩,.slice none 0 0,.slice none 0 0]),3,64):=by kernel_rfl
theorem infoRul:(Tryz.prog.info? 60).map (λi=>(i.zero,i.size,i.bytes))=some (some (.agg #[.string ⟨#[]⟩,.string ⟨#[]⟩,.string ⟨#[]⟩,.string ⟨#[]⟩,.int .i64 0]),5,72):=by kernel_rfl
theorem MkH.vform {K:MkK} {M:List Nat} {bx:List Box} {rs:List Rw} {L:List (List Nat->World->Prop)} {W:World} {e:TypeId} {size n:Nat} {v:Value} {xs:List Value} (h:MkH K M bx rs L W) (hr:(⟨e,size,v,n,xs⟩:Rw)∈rs):∃A c,v=.slice A n c:=zP (h.own _ hr)
theorem MkH.recell {K:MkK} {M:List Nat} {bx:List Box} {rs:List Rw} {L:List (List Nat->World->Prop)} {W:World} {N:Nat} {t:TypeId} {cs cs':Array Value} (h:MkH K M ((N,t,cs)::bx) rs L W) (e:cs=cs'):MkH K M ((N,t,cs')::bx) rs L W:=e ▸ h
def LSt (K:MkK) (xb rb lb N m:Nat) (ver:Int) (ks:List Knd) (mvs:List (Int × Int)) (w:World):Prop :=
 ∃M kv kxs mv mxs,MkH K M [(lb,57,#[.string Sg.blife,.slice (some ⟨N,0,none⟩) m 4,mv]),(xb,27,#[.int .i64 ver,kv,.slice none 0 0,.slice none 0 0]),(rb,27,#[.int .i64 0,.slice none 0 0,.slice none 0 0,.slice none 0 0])] [⟨58,2,mv,mvs.length,mxs⟩,⟨52,4,kv,ks.length,kxs⟩] [λM W=>Flat M W mvs mxs,λM W=>SlAt M W (some ⟨N,0,none⟩) Sg.states,λM W=>Flat M W ks kxs] w
theorem LSt.mk1 {K:MkK} {M:List Nat} {W:World} {xb rb lb N m l c7:Nat} {A7:Option Addr} {ver:Int} {ks:List Knd} {mvs:List (Int × Int)} {p:Int × Int} {kv mv0:Value} {kxs mxs us:List Value}
  (h:MkH K M [(lb,57,#[.string Sg.blife,.slice (some ⟨N,0,none⟩) m 4,mv0]),(xb,27,#[.int .i64 ver,kv,.slice none 0 0,.slice none 0 0]),(rb,27,#[.int .i64 0,.slice none 0 0,.slice none 0 0,.slice none 0 0])] [⟨58,2,.slice A7 l c7,mvs.length+1,mxs++us⟩,⟨52,4,kv,ks.length,kxs⟩] [λM W=>Flat M W mvs mxs,λM W=>SlAt M W (some ⟨N,0,none⟩) Sg.states,λM W=>Flat M W ks kxs] W) (hu:Flat M W [p] us) :
  LSt K xb rb lb N m ver ks (mvs++[p]) (W.setCell ⟨lb,2,none⟩ (.slice A7 l c7)):=by
 have h1:=((h.add (keeps_flat (mvs++[p]) (mxs++us)) ((h.fact (.head _)).append hu)).fswap.tail).set0 2 (.slice A7 l c7)
 refine ⟨M,kv,kxs,.slice A7 l c7,mxs++us,?_⟩
 rw [aK,List.length_singleton]
 exact h1
theorem flat_states {G:List Nat} {w:World}:Flat G w Sg.states #[Value.string ⟨#[110,101,119]⟩,.string ⟨#[111,112,101,110]⟩,.string ⟨#[100,111,110,101]⟩,.string ⟨#[115,104,117,116]⟩].toList :=
 ⟨[_],_,rfl,⟨rfl,by decide⟩,[_],_,rfl,⟨rfl,by decide⟩,[_],_,rfl,⟨rfl,by decide⟩,[_],_,rfl,⟨rfl,by decide⟩,rfl⟩
theorem steps_snoc (m:Nat):Sg.steps m++[((m:Int),(m:Int)+1)]=Sg.steps (m+1):=by unfold Sg.steps;rw [List.range_succ,zY];rfl
theorem steps_len (m:Nat):(Sg.steps m).length=m:=by unfold Sg.steps;simp
def RSt (K:MkK) (xb rb:Nat) (ver:Int) (ks:List Knd) (lf:Lif) (rls:List Rul) (w:World):Prop :=
 ∃M kv kxs lv lxs rv rxs,MkH K M [(xb,27,#[.int .i64 ver,kv,lv,rv]),(rb,27,#[.int .i64 0,.slice none 0 0,.slice none 0 0,.slice none 0 0])] [⟨60,5,rv,rls.length,rxs⟩,⟨57,3,lv,1,lxs⟩,⟨52,4,kv,ks.length,kxs⟩] [λM W=>Flat M W rls rxs,λM W=>Flat M W [lf] lxs,λM W=>Flat M W ks kxs] w
theorem take_states (m:Nat) (h:m<=4):(Sg.states.take m).length=m:=by rw [zI];show min m 4=m;omega
theorem lif_rep {G:List Nat} {w:World} {N m n c:Nat} {A:Option Addr} {mvs:List (Int × Int)} (hs:SlAt G w (some ⟨N,0,none⟩) Sg.states) (hm:m<=4) (hv:SlAt G w A mvs) (hn:n=mvs.length) (h1:n<=c) (h2:c<=9223372036854775807) :
  Mem.rep G w ((Sg.blife,Sg.states.take m,mvs):Lif) [.string Sg.blife,.slice (some ⟨N,0,none⟩) m 4,.slice A n c]:=by
 subst hn
 exact ⟨[_],_,rfl,⟨rfl,(by decide:Sg.blife.size<=9223372036854775807)⟩,[_],_,rfl,⟨_,4,by rw [take_states m hm],by rw [take_states m hm];exact hm,by omega,hs.take m⟩,A,c,rfl,h1,h2,hv⟩
theorem rule_bd {k:Knd} {r:Rul} {b:Bool} (h:Sg.Rule k r b) (hk:Sg.KOk k):r.1.size<=100/\r.2.1.size<=100/\r.2.2.1.size<=100/\r.2.2.2.1.size<=100/\-10000<=r.2.2.2.2/\r.2.2.2.2<=10000:=by
 have h1:=hk.n2
 have hx:(k.1.extract 0 1).size<=20:=by rw [ByteArray.size_extract];omega
 cases h with
 | none _=>exact ⟨by decide,by decide,by decide,by decide,by decide,by decide⟩
 | low z _ _ _=>exact ⟨by rw [ByteArray.size_append];have:Sg.border.size=5:=rfl;omega,by show k.1.size<=100;omega,(by decide:Sg.blow.size<=100),(by decide:Sg.bhigh.size<=100),by show _<=z - 2;omega,by show z - 2<=_;omega⟩
 | most i hi z _ _ _ =>
  have hb:=hk.bd _ (ze hi)
  unfold Sg.FBd at hb
  exact ⟨by rw [ByteArray.size_append];have:Sg.bmost.size=4:=rfl;omega,by show k.1.size<=100;omega,(by decide:Sg.bsz.size<=100),(by decide:Sg.be.size<=100),by show _<=Sc.lo (Sc.flds k)[i]+z;omega,by show Sc.lo (Sc.flds k)[i]+z<=_;omega⟩
 | least i hi z _ _ _ =>
  have hb:=hk.bd _ (ze hi)
  unfold Sg.FBd at hb
  exact ⟨by rw [ByteArray.size_append];have:Sg.bleast.size=5:=rfl;omega,by show k.1.size<=100;omega,(by decide:Sg.be.size<=100),(by decide:Sg.bsz.size<=100),by show _<=z - Sc.hi (Sc.flds k)[i];omega,by show z - Sc.hi (Sc.flds k)[i]<=_;omega⟩
theorem rule_rep {G:List Nat} {w:World} {k:Knd} {r:Rul} {b:Bool} (h:Sg.Rule k r b) (hk:Sg.KOk k):Mem.rep G w r (rulCells r).toList:=by
 obtain ⟨h1,h2,h3,h4,h5,h6⟩:=rule_bd h hk
 exact ⟨[_],_,rfl,⟨rfl,by omega⟩,[_],_,rfl,⟨rfl,by omega⟩,[_],_,rfl,⟨rfl,by omega⟩,[_],_,rfl,⟨rfl,by omega⟩,⟨rfl,by unfold inI;omega⟩⟩
theorem around_nn (n m:Int):0<=around n m:=by
 by_cases h:1<=m
 .exact (around_bd n m h).1
 .rw [around_lo (by omega)];exact Int.le_refl _
def SpP (cb:Nat) (w:World) (e:Ending) (w':World):Prop:=∃(y:Sch) (us:List Value),e=.returned (.agg us.toArray)/\Mem.rep [] w' y us/\Sx.WB (cb+1) y/\Below w.heap.size w w'
def soV (a:Int):Array Value:=#[.int .i64 (a+1),.int .i64 (-1),.int .i64 1048576,.int .i64 1048577]
theorem soV_at (a c:Int) (hc:0<=c) (ha:-1100000 - c<=a/\a<=1100000+c) (z:Nat) (h:z < 4):∃n:Int,(soV a)[z]?=some (.int .i64 n)/\-1100000 - (c+1)<=n/\n<=1100000+(c+1):=by
 match z,h with
 | 0,_ | 1,_ | 2,_ | 3,_=>exact ⟨_,rfl,by omega,by omega⟩
 | n+4,h=>exact zU h (by omega)
def soN:Array Value:=#[.string ⟨#[112,101,114,115,111,110]⟩,.string ⟨#[]⟩,.string ⟨#[111,116,104,101,114]⟩,.string ⟨#[97,32,98]⟩]
theorem soN_at (z:Nat) (h:z < 4):∃u:ByteArray,soN[z]?=some (.string u)/\u.size<=16:=by
 match z,h with
 | 0,_ | 1,_ | 2,_ | 3,_=>exact ⟨_,rfl,by decide⟩
 | n+4,h=>exact zU h (by omega)
def soLo:Array Value:=#[.int .i64 0,.int .i64 5,.int .i64 (-1),.int .i64 65537]
theorem soLo_at (z:Nat) (h:z < 4):∃n:Int,soLo[z]?=some (.int .i64 n)/\-1100000<=n/\n<=1100000:=by
 match z,h with
 | 0,_ | 1,_ | 2,_ | 3,_=>exact ⟨_,rfl,by omega,by omega⟩
 | n+4,h=>exact zU h (by omega)
def soHi:Array Value:=#[.int .i64 0,.int .i64 5,.int .i64 65536,.int .i64 65537]
theorem soHi_at (z:Nat) (h:z < 4):∃n:Int,soHi[z]?=some (.int .i64 n)/\-1100000<=n/\n<=1100000:=by
 match z,h with
 | 0,_ | 1,_ | 2,_ | 3,_=>exact ⟨_,rfl,by omega,by omega⟩
 | n+4,h=>exact zU h (by omega)
def soKd:Array Value:=#[.string ⟨#[112,101,114,115,111,110]⟩,.string ⟨#[111,114,100,101,114]⟩,.string ⟨#[110,111,110,101]⟩,.string ⟨#[]⟩]
theorem soKd_at (z:Nat) (h:z < 4):∃u:ByteArray,soKd[z]?=some (.string u)/\u.size<=16:=by
 match z,h with
 | 0,_ | 1,_ | 2,_ | 3,_=>exact ⟨_,rfl,by decide⟩
 | n+4,h=>exact zU h (by omega)
def soA:Array Value:=#[.string ⟨#[115,105,122,101]⟩,.string ⟨#[108,111,119]⟩,.string ⟨#[]⟩,.string ⟨#[105,100]⟩,.string ⟨#[98,111,114,110]⟩]
theorem soA_at (z:Nat) (h:z < 5):∃u:ByteArray,soA[z]?=some (.string u)/\u.size<=16:=by
 match z,h with
 | 0,_ | 1,_ | 2,_ | 3,_ | 4,_=>exact ⟨_,rfl,by decide⟩
 | n+5,h=>exact zU h (by omega)
def soB:Array Value:=#[.string ⟨#[104,105,103,104]⟩,.string ⟨#[]⟩,.string ⟨#[115,105,122,101]⟩,.string ⟨#[108,101,102,116]⟩,.string ⟨#[116,97,103]⟩]
theorem soB_at (z:Nat) (h:z < 5):∃u:ByteArray,soB[z]?=some (.string u)/\u.size<=16:=by
 match z,h with
 | 0,_ | 1,_ | 2,_ | 3,_ | 4,_=>exact ⟨_,rfl,by decide⟩
 | n+5,h=>exact zU h (by omega)
def soS:Array Value:=#[.string ⟨#[109,111,114,101]⟩,.string ⟨#[110,101,119]⟩,.string ⟨#[63]⟩]
theorem soS_at (z:Nat) (h:z < 3):∃u:ByteArray,soS[z]?=some (.string u)/\u.size<=16:=by
 match z,h with
 | 0,_ | 1,_ | 2,_=>exact ⟨_,rfl,by decide⟩
 | n+3,h=>exact zU h (by omega)
section
variable {α:Type} [Mem α] {G:List Nat} {w:World}
theorem Flat.setAt:∀{l:List α} {xs:List Value},Flat G w l xs->∀i (hi:i < l.length) (j:Nat) (_:j < Mem.sz α) {a':α} {u:Value} (_:∀us,Mem.rep G w l[i] us->Mem.rep G w a' (us.set j u)),Flat G w (l.set i a') (xs.set (i*Mem.sz α+j) u)
 | [],_,_,i,hi,_,_,_,_,_=>by simp at hi
 | a::l,xs,h,i,hi,j,hj,a',u,ha=>by
  obtain ⟨us,ts,rfl,h1,h2⟩:=h
  have hl:=Mem.len h1
  cases i with
  | zero =>
   rw [Nat.zero_mul,zG,List.set_append_left _ _ (by omega)]
   exact ⟨us.set j u,ts,rfl,ha us h1,h2⟩
  | succ i =>
   have e:(i+1)*Mem.sz α+j - Mem.sz α=i*Mem.sz α+j:=by rw [Nat.add_mul];omega
   rw [List.set_append_right _ _ (by rw [hl,Nat.add_mul];omega),hl,e]
   exact ⟨us,ts.set (i*Mem.sz α+j) u,rfl,h1,Flat.setAt h2 i (by simpa using hi) j hj ha⟩
end
def SPC (cb:Nat) (w:World) (N1:Nat) (w':World):Prop:=∃(y:Sch) (v:Int) (A:Option Addr) (nk c:Nat) (B:Option Addr) (nl d:Nat) (C:Option Addr) (nr e:Nat),Blk w' N1 27 #[.int .i64 v,.slice A nk c,.slice B nl d,.slice C nr e]/\Mem.rep [] w' y [.int .i64 v,.slice A nk c,.slice B nl d,.slice C nr e]/\Sx.WB (cb+1) y/\Below w.heap.size w w'
section
variable {cb:Nat} {w W:World} {M:List Nat} {N0 N1:Nat} {L:List (List Nat->World->Prop)} {rs:List Rw} {v:Int} {A B C:Option Addr} {nk c nl d nr e:Nat}
theorem spc_mk {y:Sch} (T:HR w [] M [(N0,27,#[.int .i64 v,.slice A nk c,.slice B nl d,.slice C nr e]),(N1,27,#[.int .i64 0,.slice none 0 0,.slice none 0 0,.slice none 0 0])] rs L W) (hr:Mem.rep M W y [.int .i64 v,.slice A nk c,.slice B nl d,.slice C nr e]) (hz:Sx.WB (cb+1) y):SPC cb w N1 ((((W.setCell ⟨N1,0,none⟩ (.int .i64 v)).setCell ⟨N1,1,none⟩ (.slice A nk c)).setCell ⟨N1,2,none⟩ (.slice B nl d)).setCell ⟨N1,3,none⟩ (.slice C nr e)):=by
 have H9:=(((((T.add (keeps_rep y [.int .i64 v,.slice A nk c,.slice B nl d,.slice C nr e]) hr).bswap.set0 0 (.int .i64 v)).set0 1 (.slice A nk c)).set0 2 (.slice B nl d)).set0 3 (.slice C nr e))
 have hB:=H9.box (.head _)
 simp only [aB,aF,aG] at hB
 exact ⟨y,v,A,nk,c,B,nl,d,C,nr,e,hB,Mem.sub (H9.fact (.head _)) (λ_ h=>by cases h),hz,H9.h.bl⟩
theorem spo_end {ks:List Knd} {ls:List Lif} {rs:List Rul} {xsK xsL xsR:List Value} (T:HR w [] M [(N0,27,#[.int .i64 v,.slice A nk c,.slice B nl d,.slice C nr e]),(N1,27,#[.int .i64 0,.slice none 0 0,.slice none 0 0,.slice none 0 0])] [⟨60,5,.slice C nr e,nr,xsR⟩,⟨57,3,.slice B nl d,nl,xsL⟩,⟨52,4,.slice A nk c,nk,xsK⟩] L W)
  (fR:Flat M W rs xsR) (fL:Flat M W ls xsL) (fK:Flat M W ks xsK) (eR:rs.length=nr) (eL:ls.length=nl) (eK:ks.length=nk) (hv:inI v) (hz:Sx.WB (cb+1) ((v,ks,ls,rs):Sch)):SPC cb w N1 ((((W.setCell ⟨N1,0,none⟩ (.int .i64 v)).setCell ⟨N1,1,none⟩ (.slice A nk c)).setCell ⟨N1,2,none⟩ (.slice B nl d)).setCell ⟨N1,3,none⟩ (.slice C nr e)):=by
 subst eR eL eK
 obtain ⟨C',e',M1,h1,h2,h3,T1,s1,_⟩:=T.freeze (l:=rs) rfl rfl fR (λ_ h=>by cases h)
 obtain ⟨B',d',M2,k1,k2,k3,T2,s2,_⟩:=T1.freeze (l:=ls) rfl rfl (fL.sub λg hg=>.inl (s1 g hg)) (λ_ h=>by cases h)
 obtain ⟨A',c',M3,j1,j2,j3,T3,s3,_⟩:=T2.freeze (l:=ks) rfl rfl (fK.sub λg hg=>.inl (s1 g (s2 g hg))) (λ_ h=>by cases h)
 injection h1 with h1 _ h1'
 injection k1 with k1 _ k1'
 injection j1 with j1 _ j1'
 subst h1 h1' k1 k1' j1 j1'
 exact spc_mk (y:=(v,ks,ls,rs)) T3 ⟨[_],_,rfl,⟨rfl,hv⟩,[_],_,rfl,⟨_,_,rfl,j2,j3,T3.fact (.head _)⟩,[_],_,rfl,⟨_,_,rfl,k2,k3,T3.fact (.tail _ (.head _))⟩,⟨_,_,rfl,h2,h3,T3.fact (.tail _ (.tail _ (.head _)))⟩⟩ hz
end
section
variable {G:List Nat} {w:World} {k:Knd} {us:List Value}
theorem knd_set0 {u:ByteArray} (hu:u.size<=16) (h:Mem.rep G w k us):Mem.rep G w ((u,k.2.1,k.2.2.1,k.2.2.2):Knd) (us.set 0 (.string u)):=by
 obtain ⟨u1,t1,rfl,⟨rfl,a1⟩,u2,t2,rfl,⟨rfl,a2⟩,u3,t3,rfl,⟨rfl,a3⟩,r4⟩:=h
 exact ⟨[_],_,rfl,⟨rfl,by show u.size<=9223372036854775807;omega⟩,[_],_,rfl,⟨rfl,a2⟩,[_],_,rfl,⟨rfl,a3⟩,r4⟩
theorem knd_set1 {u:Int} (hu:inI u) (h:Mem.rep G w k us):Mem.rep G w ((k.1,u,k.2.2.1,k.2.2.2):Knd) (us.set 1 (.int .i64 u)):=by
 obtain ⟨u1,t1,rfl,⟨rfl,a1⟩,u2,t2,rfl,⟨rfl,a2⟩,u3,t3,rfl,⟨rfl,a3⟩,r4⟩:=h
 exact ⟨[_],_,rfl,⟨rfl,a1⟩,[_],_,rfl,⟨rfl,hu⟩,[_],_,rfl,⟨rfl,a3⟩,r4⟩
theorem knd_set2 {u:Int} (hu:inI u) (h:Mem.rep G w k us):Mem.rep G w ((k.1,k.2.1,u,k.2.2.2):Knd) (us.set 2 (.int .i64 u)):=by
 obtain ⟨u1,t1,rfl,⟨rfl,a1⟩,u2,t2,rfl,⟨rfl,a2⟩,u3,t3,rfl,⟨rfl,a3⟩,r4⟩:=h
 exact ⟨[_],_,rfl,⟨rfl,a1⟩,[_],_,rfl,⟨rfl,a2⟩,[_],_,rfl,⟨rfl,hu⟩,r4⟩
theorem knd_set3 {fs:List Fld} {A:Option Addr} {n c:Nat} (hn:fs.length=n) (h1:n<=c) (h2:c<=9223372036854775807) (hs:SlAt G w A fs) (h:Mem.rep G w k us):Mem.rep G w ((k.1,k.2.1,k.2.2.1,fs):Knd) (us.set 3 (.slice A n c)):=by
 subst hn
 obtain ⟨u1,t1,rfl,⟨rfl,a1⟩,u2,t2,rfl,⟨rfl,a2⟩,u3,t3,rfl,⟨rfl,a3⟩,B,d,rfl,_⟩:=h
 exact ⟨[_],_,rfl,⟨rfl,a1⟩,[_],_,rfl,⟨rfl,a2⟩,[_],_,rfl,⟨rfl,a3⟩,A,c,rfl,h1,h2,hs⟩
variable {l:Lif}
theorem lif_set1 {ss:List ByteArray} {A:Option Addr} {n c:Nat} (hn:ss.length=n) (h1:n<=c) (h2:c<=9223372036854775807) (hs:SlAt G w A ss) (h:Mem.rep G w l us):Mem.rep G w ((l.1,ss,l.2.2):Lif) (us.set 1 (.slice A n c)):=by
 subst hn
 obtain ⟨u1,t1,rfl,⟨rfl,a1⟩,u2,t2,rfl,⟨B,d,rfl,_⟩,r3⟩:=h
 exact ⟨[_],_,rfl,⟨rfl,a1⟩,[_],_,rfl,⟨A,c,rfl,h1,h2,hs⟩,r3⟩
theorem lif_set2 {ms:List (Int × Int)} {A:Option Addr} {n c:Nat} (hn:ms.length=n) (h1:n<=c) (h2:c<=9223372036854775807) (hs:SlAt G w A ms) (h:Mem.rep G w l us):Mem.rep G w ((l.1,l.2.1,ms):Lif) (us.set 2 (.slice A n c)):=by
 subst hn
 obtain ⟨u1,t1,rfl,⟨rfl,a1⟩,u2,t2,rfl,⟨B,d,rfl,b⟩,B2,d2,rfl,_⟩:=h
 exact ⟨[_],_,rfl,⟨rfl,a1⟩,[_],_,rfl,⟨B,d,rfl,b⟩,A,c,rfl,h1,h2,hs⟩
end
def setL:List Value->Nat->List Value->List Value
 | xs,_,[]=>xs
 | xs,o,u::us=>setL (xs.set o u) (o+1) us
theorem setL_mid:∀(us' us p ts:List Value),us.length=us'.length->setL (p++(us++ts)) p.length us'=p++(us'++ts)
 | [],us,p,ts,h=>by rw [List.length_eq_zero_iff.1 h];rfl
 | u::us',us,p,ts,h=>by
  cases us with
  | nil=>simp at h
  | cons v us =>
   have e:(p++(v::us++ts)).set p.length u=(p++[u])++(us++ts):=by simp
   have h1:=setL_mid us' us (p++[u]) ts (by simpa using h)
   rw [aK] at h1
   show setL ((p++(v::us++ts)).set p.length u) (p.length+1) us'=_
   rw [e,show p.length+1=p.length + [u].length from rfl,h1]
   simp
theorem setL_behind:∀(us' us ts:List Value) (o:Nat),setL (us++ts) (us.length+o) us'=us++setL ts o us'
 | [],_,_,_=>rfl
 | u::us',us,ts,o=>by
  show setL ((us++ts).set (us.length+o) u) (us.length+o+1) us'=us++setL (ts.set o u) (o+1) us'
  rw [List.set_append_right _ _ (by omega),show us.length+o - us.length=o by omega,Nat.add_assoc,setL_behind us' us (ts.set o u) (o+1)]
theorem Flat.put {α:Type} [Mem α] {G:List Nat} {w:World}:∀{l:List α} {xs:List Value},Flat G w l xs->∀i (_:i < l.length) {a':α} {us':List Value},Mem.rep G w a' us'->Flat G w (l.set i a') (setL xs (i*Mem.sz α) us')
 | [],_,_,i,hi,_,_,_=>by simp at hi
 | a::l,xs,h,i,hi,a',us',hr=>by
  obtain ⟨us,ts,rfl,h1,h2⟩:=h
  have hl:=Mem.len h1
  cases i with
  | zero =>
   rw [Nat.zero_mul]
   have:=setL_mid us' us [] ts (by rw [hl,Mem.len hr])
   simp only [zA,qt] at this
   rw [this]
   exact ⟨us',ts,rfl,hr,h2⟩
  | succ i =>
   rw [show (i+1)*Mem.sz α=us.length+i*Mem.sz α by rw [hl,Nat.add_mul];omega,setL_behind]
   exact ⟨us,_,rfl,h1,Flat.put h2 i (by simpa using hi) hr⟩
theorem sfield_open {cb:Nat} (hcb:cb<=1) (f:Fld) (us:List Value) (G:List Nat) (w:World) (hG:∀g∈G,g < w.heap.size) (h:Mem.rep G w f us) (hb:Sx.FW cb f) (how by_:Int) (h1:inI how) (h2:inI by_):Calls Tryz.prog 24 #[.agg us.toArray,.int .i64 how,.int .i64 by_] w λe w'=>∃(f':Fld) (nm of_ up:ByteArray) (kd lo hi:Int) (A:Option Addr) (nw c:Nat) (B:Option Addr) (nv d:Nat),e=.returned (.agg #[.string nm,.string of_,.string up,.int .i64 kd,.int .i64 lo,.int .i64 hi,.slice A nw c,.slice B nv d])/\Mem.rep G w' f' [.string nm,.string of_,.string up,.int .i64 kd,.int .i64 lo,.int .i64 hi,.slice A nw c,.slice B nv d]/\Sx.FW (cb+1) f'/\Below w.heap.size w w':=by
 refine (sfield_any hcb f us G w hG h hb how by_ h1 h2).mono ?_
 rintro e w' ⟨f',us',rfl,hr,hl,hb'⟩
 obtain ⟨A,c,B,d,rfl,_⟩:=rep_fld hr
 exact ⟨f',_,_,_,_,_,_,_,_,_,_,_,_,rfl,hr,hl,hb'⟩
theorem some_of {w:World} {base n c:Nat} {e:TypeId} {size:Nat} {A:Option Addr} {xs:List Value} {g0 g1:Nat} (h:w.ownsRow base e size (.slice A n c) n xs) (hob:(Value.slice A n c).ownBlock=some g0∨(Value.slice A n c).ownBlock=some g1):∃g,A=some ⟨g,0,none⟩:=by
 rcases h.2 with ⟨h1,_⟩ | ⟨g,cap,cur,h1,_⟩
 .injection h1 with h1
  subst h1
  simp [Value.ownBlock] at hob
 .injection h1 with h1
  exact ⟨g,h1⟩
section
variable {g:Nat} {te:TypeId} {n8:Nat} {us:List Value} {w W W':World} {G M:List Nat} {bx:List Box} {L:List (List Nat->World->Prop)}
theorem HRow.rowE5 {size n c:Nat} {xs:List Value} (T:HRow w G M bx L te size (.slice (some ⟨g,0,none⟩) n c) n xs W) (hc:EG g te (n*size) us W W'):∃cur,Blk W' g te cur/\n<=c/\c<=maxLen/\cur.size=c*size/\cur.toList.take (n*size)=xs:=by
 have hl:xs.length=n*size:=T.own.1
 rcases T.own.2 with ⟨h0,_⟩ | ⟨g',cap,cur,e1,e2,e3,e4,e5,e6,e7⟩
 .cases h0
 .injection e1 with k1 k2 k3
  injection k1 with k1
  injection k1 with k1
  subst k1 k3
  have hk:=@rowE_kept g te (n*size) us W.heap.size size n xs (λj u h1 h2=>by have:=(List.getElem?_eq_some_iff.1 h2).1;omega) _ W W' ⟨g,c,cur,rfl,.inl rfl,e3,e4,e5,e6,e7⟩ hc
  obtain ⟨g2,cap2,cur2,f1,f2,f3,f4,f5,f6,f7⟩:=hk
  injection f1 with k1 k2 k3
  injection k1 with k1
  injection k1 with k1
  subst k1 k3
  exact ⟨cur2,f3,f4,f5,f6,f7⟩
theorem HR.row {e:TypeId} {size n:Nat} {v:Value} {xs:List Value} (h:HR w G M bx [⟨e,size,v,n,xs⟩] L W):HRow w G M bx L e size v n xs W:=⟨h.h,h.ok _ (.head _),h.own _ (.head _)⟩
theorem HRow.hr {e:TypeId} {size n:Nat} {v:Value} {xs:List Value} (h:HRow w G M bx L e size v n xs W):HR w G M bx [⟨e,size,v,n,xs⟩] L W :=
 ⟨h.h,λr hr=>by rw [zg.1 hr];exact h.ok,λr hr=>by rw [zg.1 hr];exact h.own,List.pairwise_singleton _ _⟩
theorem ptrN_keptE {B0:Nat} {j:Nat} {u:Value} (hg:g < B0):@RG.Kept (earlyGrow g te n8 us) (λv w=>∃N,v=.pointer (some ⟨N,j,none⟩)/\B0<=N/\w.cell? ⟨N,j,none⟩=some u):=by
 rintro v w w' ⟨N,h1,h2,h3⟩ hr
 have hr:EG g te n8 us w w':=hr
 exact ⟨N,h1,h2,hr.chg.cell (by simp;omega) h3⟩
end
structure NR (B0:Nat) (te:TypeId) (n8:Nat) (us:List Value) (W W':World):Prop where
 os:W'.os=W.os
 tape:W'.tape=W.tape
 output:W'.output=W.output
 size:W.heap.size<=W'.heap.size
 old:∀k,k < W.heap.size->W'.heap[k]?=W.heap[k]?∨(B0<=k/\∃cur cur',Blk W k te cur/\Blk W' k te cur'/\Late n8 us cur cur')
section
variable {B0:Nat} {te:TypeId} {n8:Nat} {us:List Value} {W W' W'':World}
theorem NR.refl (B0:Nat) (te:TypeId) (n8:Nat) (us:List Value) (W:World):NR B0 te n8 us W W:=⟨rfl,rfl,rfl,ag _,λ_ _=>.inl rfl⟩
theorem NR.trans (h:NR B0 te n8 us W W') (k:NR B0 te n8 us W' W''):NR B0 te n8 us W W'':=by
 refine ⟨k.os.trans h.os,k.tape.trans h.tape,k.output.trans h.output,ah h.size k.size,λi hi=>?_⟩
 rcases k.old i (qr hi h.size) with e | ⟨e1,c1,c2,e2,e3,e4⟩
 .rcases h.old i hi with f | ⟨f1,d1,d2,f2,f3,f4⟩
  .exact .inl (e.trans f)
  .exact .inr ⟨f1,d1,d2,f2,e.trans f3,f4⟩
 .rcases h.old i hi with f | ⟨f1,d1,d2,f2,f3,f4⟩
  .exact .inr ⟨e1,c1,c2,f.symm.trans e2,e3,e4⟩
  .have e:d2=c1:=by
    have:=f3.symm.trans e2
    injection this with this
    injection this
   subst e
   exact .inr ⟨f1,d1,c2,f2,e3,f4.trans e4⟩
theorem NR.below (h:Below W.heap.size W W'):NR B0 te n8 us W W':=⟨h.os,h.tape,h.output,h.size,λk hk=>.inl (h.block k hk)⟩
@[reducible] def nrGrow (B0:Nat) (te:TypeId) (n8:Nat) (us:List Value):Grow:=⟨NR B0 te n8 us,NR.refl B0 te n8 us,NR.trans,NR.below⟩
theorem NR.bel (h:NR B0 te n8 us W W') (hB:W.heap.size<=B0):Below W.heap.size W W':=⟨h.os,h.tape,h.output,h.size,λk hk=>by
 rcases h.old k hk with e | ⟨e,_⟩
 .exact e
 .omega⟩
theorem rowN_keptN {size n:Nat} {xs:List Value} (hx:∀j u,n8<=j->xs[j]?=some u->us[j - n8]?=some u):@RG.Kept (nrGrow B0 te n8 us) (RowN B0 te size n xs):=by
 rintro v w w' ⟨g,cap,cur,h1,h2,h3,h4,h5,h6,h7⟩ hr
 have hr:NR B0 te n8 us w w':=hr
 rcases hr.old g h3.lt with e | ⟨_,c1,c2,e2,e3,e4⟩
 .exact ⟨g,cap,cur,h1,h2,e.trans h3,h4,h5,h6,h7⟩
 .have:=h3.symm.trans e2
  injection this with this
  injection this with h8
  subst h8
  refine ⟨g,cap,c2,h1,h2,e3,h4,h5,e4.1.trans h6,?_⟩
  rw [<-h7]
  refine List.ext_getElem? λj=>?_
  rw [List.getElem?_take,List.getElem?_take]
  split
  .rename_i hj
   rw [Array.getElem?_toList,Array.getElem?_toList]
   rcases e4.2 j with e | ⟨e,u,f1,f2⟩
   .exact e
   .have hlt:j < cur.size:=by have:=(Array.getElem?_eq_some_iff.1 f2).1;have:=e4.1;omega
    have hxj:xs[j]?=some cur[j]:=by
     rw [<-h7,List.getElem?_take,if_pos hj,Array.getElem?_toList];simp [hlt]
    have:=hx j _ e hxj
    rw [f1] at this
    injection this with this
    rw [f2,this];simp [hlt]
  .rfl
theorem NR.cell (h:NR B0 te n8 us W W') {N j:Nat} {u:Value} (hc:W.cell? ⟨N,j,none⟩=some u) (hx:∀u',n8<=j->us[j - n8]?=some u'->u'=u):W'.cell? ⟨N,j,none⟩=some u:=by
 have hlt:=zc _ _ hc
 rcases h.old N hlt with e | ⟨_,c1,c2,e2,e3,e4⟩
 .exact (World.cell?_of_block e).trans hc
 .have hc:W.cell? ⟨N,j,none⟩=some u:=hc
  rw [e2.cell] at hc
  rw [e3.cell]
  rcases e4.2 j with e | ⟨e,u',f1,f2⟩
  .exact e.trans hc
  .rw [f2,hx u' e f1]
theorem sliN_kept {k:Nat} {f:Nat->Option Value} (hx:∀j u u',f j=some u->n8<=j->us[j - n8]?=some u'->u'=u):@RG.Kept (nrGrow B0 te n8 us) (λv w=>∃N,v=.slice (some ⟨N,0,none⟩) k k/\B0<=N/\∀j u,f j=some u->w.cell? ⟨N,j,none⟩=some u):=by
 rintro v w w' ⟨N,h1,h2,h3⟩ hr
 have hr:NR B0 te n8 us w w':=hr
 exact ⟨N,h1,h2,λj u hu=>hr.cell (h3 j u hu) (λu'=>hx j u u' hu)⟩
theorem ptrN_keptN {j:Nat} {u:Value} (hx:∀u',n8<=j->us[j - n8]?=some u'->u'=u):@RG.Kept (nrGrow B0 te n8 us) (λv w=>∃N,v=.pointer (some ⟨N,j,none⟩)/\w.cell? ⟨N,j,none⟩=some u):=by
 rintro v w w' ⟨N,h1,h3⟩ hr
 have hr:NR B0 te n8 us w w':=hr
 exact ⟨N,h1,hr.cell h3 hx⟩
variable {P:Program}
theorem wpList_append_lateN {ops:Array Oper} {rest:List Oper} {o:Oper} {a:Act} {Q:Exit->Act->World->Prop} {w:World} (hgd:o.guard=none) (s x:Operand) (tt:TypeId)
  (ho:o.op=.call { callee:=.builtin .append,args:=#[s,x],argTypes:=#[tt,tt] })
  (i:TypeInfo) (z:Value) (size bytes:Nat) (ht:P.underlying tt=some (.slice te)) (hi:P.info? te=some i) (hz:i.zero=some z)
  (hsize:i.size=size) (hby:i.bytes=bytes) (hzs:z.cells.size=size) (hsz:0 < size)
  {v:Value} {n:Nat} {xs:List Value} (H:RowN B0 te size n xs v w) (hs:a.eval s=v) (hxs:xs.length=n*size)
  {B:Nat} {ad:Addr} {m c:Nat} (hx:a.eval x=.slice (some ad) m c) (hr:Reads w B size (some ad) m us) (hm0:0 < m) (h1:∀u∈us,u.oneCell'=true)
  (hn8:n8=n*size) (hB:B0<=w.heap.size)
  (h63:n+m<=maxLen) (hbytes:(n+m)*bytes<=140737488355328)
  (h:∀v' w',RowN B0 te size (n+m) (xs++us) v' w'->NR B0 te n8 us w w'->wpList P ops Q rest (a.put o.dst v') w'):wpList P ops Q (o::rest) a w:=by
 subst hn8
 obtain ⟨g,cap,cur,rfl,h2,h3,_h4,h5,h6,h7⟩:=H
 obtain ⟨hm,hcs⟩:=hr
 obtain ⟨ad',had,_,hlit⟩:=hcs hm0
 obtain rfl:=Option.some.inj had
 have hcell:∀j u,xs[j]?=some u->w.cell? ⟨g,0+j,none⟩=some u:=λj u hu=>by
  rw [zG,h3.cell]
  have hj:=(List.getElem?_eq_some_iff.1 hu).1
  rw [<-h7,List.getElem?_take,if_pos (by omega),Array.getElem?_toList] at hu
  exact hu
 refine wpList_append_arg w hgd s x tt ho te i z size bytes ht hi hz hsize hby hzs hsz g 0 n cap xs hs hxs hcell ad m c us hx hm hlit h1 (λhr j hj=>?_) h63 hbytes (λhr=>?_) (λhr v' w' k1 k2=>?_)
 .rw [h3.cell,h3.frozen]
  refine ⟨?_,rfl⟩
  have:(n+m)*size<=cap*size:=Nat.mul_le_mul_right _ hr
  rw [Nat.add_mul] at this
  have hlt:0+n*size+j < cur.size:=by omega
  simp
  omega
 .have hsp:(n+m)*size<=cap*size:=Nat.mul_le_mul_right _ hr
  rw [Nat.add_mul] at hsp
  obtain ⟨cs',b1,b2,b3,b4⟩:=blk_setCells us (0+n*size) w cur h3
  obtain ⟨z1,z2⟩:=setCells_sizes g us (0+n*size) w
  rw [zG] at b1 b3 b4 z1 z2 ⊢
  refine h _ _ ⟨g,cap,cs',rfl,h2,b1,hr,h5,b2.trans h6,?_⟩ ⟨World.os_setCells ..,z2,World.output_setCells ..,by rw [z1];exact ag _,λk hk=>?_⟩
  .refine List.ext_getElem? λj=>?_
   rw [List.getElem?_take]
   by_cases hj:j < (n+m)*size
   .rw [if_pos hj,Array.getElem?_toList]
    rw [Nat.add_mul] at hj
    by_cases hjn:j < n*size
    .rw [b3 j (.inl hjn),zX (by omega),<-h7,List.getElem?_take,if_pos hjn,Array.getElem?_toList]
    .rw [zL (by omega),hxs]
     have:=b4 (j - n*size) (by omega) (by omega)
     rw [show n*size+(j - n*size)=j by omega] at this
     exact this
   .rw [if_neg hj,List.getElem?_eq_none]
    rw [aK,hxs,hm,<-Nat.add_mul];omega
  .by_cases hkg:k=g
   .subst hkg
    refine .inr ⟨h2,cur,cs',h3,b1,b2,λj=>?_⟩
    by_cases hjn:j < n*size
    .exact .inl (b3 j (.inl hjn))
    .by_cases hjm:j < n*size+us.length
     .by_cases hjc:j < cur.size
      .right
       have:=b4 (j - n*size) (by omega) (by omega)
       rw [show n*size+(j - n*size)=j by omega] at this
       refine ⟨by omega,us[j - n*size]'(by omega),zp (by omega),?_⟩
       rw [this,zp (by omega)]
      .left
       rw [zV (by omega),zV (by omega)]
     .exact .inl (b3 j (.inr (by omega)))
   .exact .inl (World.heap_setCells_other w g _ us hk hkg)
 .have hbl:Below w.heap.size w w':=⟨k2.os,k2.tape,k2.output,k2.size,λk hk=>k2.block k hk (by simp)⟩
  rcases k1.2 with ⟨h0,_⟩ | ⟨g',cap',cur',e1,e2,e3,e4,e5,e6,e7⟩
  .omega
  .exact h v' w' ⟨g',cap',cur',e1,ah hB e2,e3,e4,e5,e6,e7⟩ (NR.below hbl)
theorem wpList_append_fresh {ops:Array Oper} {rest:List Oper} {o:Oper} {a:Act} {Q:Exit->Act->World->Prop} {w:World} (hgd:o.guard=none) (s x:Operand) (tt:TypeId)
  (ho:o.op=.call { callee:=.builtin .append,args:=#[s,x],argTypes:=#[tt,tt] })
  (i:TypeInfo) (z:Value) (size bytes:Nat) (ht:P.underlying tt=some (.slice te)) (hi:P.info? te=some i) (hz:i.zero=some z)
  (hsize:i.size=size) (hby:i.bytes=bytes) (hzs:z.cells.size=size) (hsz:0 < size)
  {v:Value} (H:RowN B0 te size 0 [] v w) (hv:∃g,v=.slice (some ⟨g,0,none⟩) 0 0) (hs:a.eval s=v)
  {B:Nat} {A:Option Addr} {m c:Nat} {xs:List Value} (hx:a.eval x=.slice A m c) (hr:Reads w B size A m xs) (h1:∀u∈xs,u.oneCell'=true)
  (hB:B0<=w.heap.size) (h63:m<=maxLen) (hbytes:m*bytes<=140737488355328)
  (h:∀v' w',RowN B0 te size m xs v' w'->Below w.heap.size w w'->wpList P ops Q rest (a.put o.dst v') w'):wpList P ops Q (o::rest) a w:=by
 obtain ⟨g,rfl⟩:=hv
 have H0:=H
 obtain ⟨g',cap,cur,e1,h2,h3,_,_,h6,_⟩:=H
 injection e1 with k1 _ k3
 injection k1 with k1
 injection k1 with k1
 subst k1 k3
 have hcs:cur.size=0:=by omega
 obtain ⟨hm,hcl⟩:=hr
 have e0:m=0->xs=[]:=λe=>zT (by rw [hm,e];omega)
 rcases A with _ | ad
 .have m0:m=0:=by
   rcases Nat.eq_zero_or_pos m with h0 | h0
   .exact h0
   .obtain ⟨ad,h,_⟩:=hcl h0
    cases h
  subst m0
  obtain rfl:=e0 rfl
  have hrun:=run_append_of_nil (P:=P) w 0 tt o.type te i size ht hi _ 0 [] (RowN.owns H0 (by simp) |> λq=>owns_mono q (zN _)) c
  refine wpList_plain hgd λ_ hK=>?_
  unfold Oper.wp execOp
  simp only [ho,resolve,invoke,builtin,Sem.run_bind,Sem.run_pure,Result.andThen_ok,List.map_toArray,List.map_cons,List.map_nil,hs,hx,hrun]
  exact hK _ _ (h _ _ H0 (zf _ _))
 .have hlit:∀j u,xs[j]?=some u->w.cell? (ad.add j)=some u:=λj u hu=>by
   rcases Nat.eq_zero_or_pos m with h0 | h0
   .rw [e0 h0] at hu;simp at hu
   .obtain ⟨ad',had,_,hc⟩:=hcl h0
    obtain rfl:=Option.some.inj had
    exact hc j u hu
  refine wpList_append_arg w hgd s x tt ho te i z size bytes ht hi hz hsize hby hzs hsz g 0 0 0 [] hs (by simp) (λj u hu=>by simp at hu) ad m c xs hx hm hlit h1 (λhr j hj=>?_) (by omega) (by rw [zG];exact hbytes) (λhr=>?_) (λhr v' w' k1 k2=>?_)
  .have m0:m=0:=by omega
   rw [e0 m0] at hj;simp at hj
  .have m0:m=0:=by omega
   subst m0
   obtain rfl:=e0 rfl
   exact h _ _ H0 (zf _ _)
  .have hbl:Below w.heap.size w w':=⟨k2.os,k2.tape,k2.output,k2.size,λk hk=>k2.block k hk (by simp)⟩
   simp only [zG,zA] at k1
   rcases k1.2 with ⟨h0,h00⟩ | ⟨g',cap',cur',e1,e2,e3,e4,e5,e6,e7⟩
   .omega
   .exact h v' w' ⟨g',cap',cur',e1,ah hB e2,e3,e4,e5,e6,e7⟩ hbl
end
section
variable {w w' W W':World} {G M:List Nat} {bx:List Box} {rs:List Rw} {r:Rw} {L:List (List Nat->World->Prop)}
variable {P:Program}
theorem wpList_append_rowsB {ops:Array Oper} {rest:List Oper} {o:Oper} {a:Act} {Q:Exit->Act->World->Prop} (hgd:o.guard=none) (s x:Operand) (t:TypeId)
  (ho:o.op=.call { callee:=.builtin .append,args:=#[s,x],argTypes:=#[t,t] })
  (e:TypeId) (i:TypeInfo) (z:Value) (size bytes:Nat) (ht:P.underlying t=some (.slice e)) (hi:P.info? e=some i) (hz:i.zero=some z)
  (hsize:i.size=size) (hby:i.bytes=bytes) (hzs:z.cells.size=size) (hsz:0 < size)
  {v:Value} {n:Nat} {xs:List Value} (H:HR w G M bx (⟨e,size,v,n,xs⟩::rs) L W) (hs:a.eval s=v)
  (B:Nat) (A:Option Addr) (m c:Nat) (news:List Value) (hx:a.eval x=.slice A m c) (hr:Reads W B size A m news) (h1:∀u∈news,u.oneCell'=true)
  (h63:n+m<=maxLen) (hbytes:(n+m)*bytes<=140737488355328)
  (h:∀v' W' M',HR w G M' bx (⟨e,size,v',n+m,xs++news⟩::rs) L W'->(v'.ownBlock=v.ownBlock∨v'.ownBlock=some W.heap.size)->wpList P ops Q rest (a.put o.dst v') W'):wpList P ops Q (o::rest) a W :=
 wpList_append_any W hgd s x t ho w.heap.size e i z size bytes ht hi hz hsize hby hzs hsz v n xs hs (H.own _ (.head _)) B A m c news hx hr h1 h63 hbytes H.h.bl.size λv' W' h2 h3 h4=>by
  have hok:=H.ok _ (.head _)
  have hap:=List.pairwise_cons.1 H.apart
  obtain ⟨M',k1,k2,k3⟩:=H.h.grown hok h3 h4 h2
  refine h v' W' M' ⟨k1,λr hr=>?_,λr hr=>?_,List.pairwise_cons.2 ⟨λs hs g hg1 hg2=>?_,hap.2⟩⟩ h4
  .rcases aL hr with rfl | hr
   .exact k2
   .exact (H.ok r (.tail _ hr)).mono k3
  .rcases aL hr with rfl | hr
   .exact h2
   .refine World.ownsRow.kept (H.own r (.tail _ hr)) h3 ?_
    cases he:r.v.ownBlock with
    | none=>exact .inl rfl
    | some g=>exact .inr λe=>hap.1 r hr g e.symm he
  .rcases h4 with he | he
   .exact hap.1 s hs g (he ▸ hg1) hg2
   .have k1:=(World.ownsRow.lt (H.own s (.tail _ hs)) g hg2).2
    rw [he] at hg1
    injection hg1 with hg1
    omega
end
theorem sch_rep {M:List Nat} {W:World} {v:Int} {ks:List Knd} {ls:List Lif} {rs:List Rul} {A B C:Option Addr} {nk c nl d nr e:Nat} (hv:inI v) (e1:ks.length=nk) (e2:ls.length=nl) (e3:rs.length=nr) (k1:nk<=c) (k2:c<=9223372036854775807) (k3:nl<=d) (k4:d<=9223372036854775807) (k5:nr<=e) (k6:e<=9223372036854775807) (s1:SlAt M W A ks) (s2:SlAt M W B ls) (s3:SlAt M W C rs):Mem.rep M W ((v,ks,ls,rs):Sch) [.int .i64 v,.slice A nk c,.slice B nl d,.slice C nr e]:=by
 subst e1 e2 e3
 exact ⟨[_],_,rfl,⟨rfl,hv⟩,[_],_,rfl,⟨A,c,rfl,k1,k2,s1⟩,[_],_,rfl,⟨B,d,rfl,k3,k4,s2⟩,⟨C,e,rfl,k5,k6,s3⟩⟩
theorem rul_rep {M:List Nat} {W:World} {a b c d:ByteArray} {n:Int} (h1:a.size<=1000) (h2:b.size<=1000) (h3:c.size<=1000) (h4:d.size<=1000) (h5:inI n):Mem.rep M W ((a,b,c,d,n):Rul) [.string a,.string b,.string c,.string d,.int .i64 n] :=
 ⟨[_],_,rfl,⟨rfl,by show a.size<=_;omega⟩,[_],_,rfl,⟨rfl,by show b.size<=_;omega⟩,[_],_,rfl,⟨rfl,by show c.size<=_;omega⟩,[_],_,rfl,⟨rfl,by show d.size<=_;omega⟩,⟨rfl,h5⟩⟩
def ruleV (a b c:ByteArray) (n:Int):List Value:=[.string ⟨#[102,117,114,116,104,101,114]⟩,.string a,.string b,.string c,.int .i64 n]
theorem ruleV_one (a b c:ByteArray) (n:Int):∀u∈ruleV a b c n,u.oneCell'=true:=by
 intro u hu
 simp only [ruleV,zB,zr,zQ] at hu
 rcases hu with rfl | rfl | rfl | rfl | rfl <;> rfl
theorem nilN_kept {B0:Nat} {te:TypeId} {n8:Nat} {us:List Value}:@RG.Kept (nrGrow B0 te n8 us) (λv w=>∃N,v=.slice (some ⟨N,0,none⟩) 0 0/\B0<=N/\Blk w N te #[]):=by
 rintro v w w' ⟨N,h1,h2,h3⟩ hr
 have hr:NR B0 te n8 us w w':=hr
 rcases hr.old N h3.lt with e | ⟨_,c1,c2,e2,e3,e4⟩
 .exact ⟨N,h1,h2,e.trans h3⟩
 .have:=h3.symm.trans e2
  injection this with this
  injection this with h8
  subst h8
  have h0:c2=#[]:=Array.eq_empty_of_size_eq_zero (by have:=e4.1;simpa using this)
  subst h0
  exact ⟨N,h1,h2,e3⟩
theorem nilN_row {B0:Nat} {te:TypeId} {size N:Nat} {w:World} (h2:B0<=N) (h3:Blk w N te #[]):RowN B0 te size 0 [] (.slice (some ⟨N,0,none⟩) 0 0) w:=⟨N,0,#[],rfl,h2,h3,ag _,zN _,by simp,by simp⟩
theorem reads_sli {w:World} {N size m:Nat} {us:List Value} (hl:us.length=m*size) (hm:0 < us.length) (h:∀j u,us[j]?=some u->w.cell? ⟨N,j,none⟩=some u):Reads w w.heap.size size (some ⟨N,0,none⟩) m us:=by
 refine ⟨hl,λ_=>⟨_,rfl,?_,λj u hu=>by rw [Addr.add_lit,zG];exact h j u hu⟩⟩
 exact zc _ _ (h 0 us[0] (zp hm))
def mvV (a b:Int):List Value:=[.int .i64 a,.int .i64 b]
theorem mvV_one (a b:Int):∀u∈mvV a b,u.oneCell'=true:=by
 intro u hu
 simp only [mvV,zB,zr,zQ] at hu
 rcases hu with rfl | rfl <;> rfl
theorem one_one (u:ByteArray):∀v∈[Value.string u],v.oneCell'=true:=by
 intro v hv
 rw [zg.1 hv];rfl
theorem one_at {u v:Value} {j:Nat} (h:[u][j]?=some v):v=u:=by
 rcases j with _ | j
 .exact (Option.some.inj h).symm
 .simp at h
def pickF (rn:Nat) (u:Value) (j:Nat):Option Value:=if j=rn then some u else none
theorem pickF_some {rn j:Nat} {u v:Value} (h:pickF rn u j=some v):j=rn/\v=u:=by
 unfold pickF at h
 split at h
 .exact ⟨by assumption,(Option.some.inj h).symm⟩
 .cases h
theorem self_late {us:List Value} {n size:Nat} (hl:us.length=size):∀j u u',us[j]?=some u->n*size<=j->us[j - n*size]?=some u'->u'=u:=by
 intro j u u' h1 h2 h3
 rcases Nat.eq_zero_or_pos n with h0 | h0
 .subst h0
  rw [Nat.zero_mul,Nat.sub_zero,h1] at h3
  exact (Option.some.inj h3).symm
 .have:=(List.getElem?_eq_some_iff.1 h1).1
  have:1*size<=n*size:=Nat.mul_le_mul_right _ h0
  omega
theorem pick_late {rn n8:Nat} {u:Value}:∀j v v',pickF rn u j=some v->n8<=j->[u][j - n8]?=some v'->v'=v:=by
 intro j v v' h1 _ h3
 rw [one_at h3,(pickF_some h1).2]
theorem one_late {n8 j:Nat} {u:Value}:∀u',n8<=j->[u][j - n8]?=some u'->u'=u:=λ_ _ h=>one_at h
end
end Go.Proofs.YtobcnhmhgoccnaaGreatDoor
