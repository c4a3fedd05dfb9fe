/- Parts of the proof, joined: W37, M11, SxLaw2, SxLaw3, SxLaw4, SxGen. -/
import Derived.Test.YtmplaikgbeeikaaGreatDoorR2
import Derived.Test.YtmplaikgbeeikaaGreatDoorR5
import Derived.Test.YtmplaikgbeeikaaGreatDoorR10
import Derived.WalkLawsBesides
import Derived.Deep.CutBlock
import Derived.Deep.RegionHeld3
set_option linter.unusedVariables false
set_option linter.unusedSimpArgs false
set_option linter.unusedSectionVars false
namespace Go.Proofs.YtmplaikgbeeikaaGreatDoor
open Go Go.RowKit
namespace Sg
def bmost:ByteArray:=⟨#[109,111,115,116]⟩
def bleast:ByteArray:=⟨#[108,101,97,115,116]⟩
inductive Rule (k:Knd):Rul→Bool→Prop
 | none:Sc.ix (Sc.named bsz) (Sc.flds k) < 0→Rule k (be,be,be,be,0) false
 | low (z:Int):0≤Sc.ix (Sc.named blow) (Sc.flds k)→0≤z→z≤7→Rule k (border++k.1.extract 0 1,k.1,blow,bhigh,z - 2) true
 | most (i:Nat) (h:i < (Sc.flds k).length) (z:Int):Sc.ix (Sc.named bsz) (Sc.flds k)=i→0≤z→z≤11→Rule k (bmost++k.1.extract 0 1,k.1,bsz,be,Sc.lo (Sc.flds k)[i]+z) true
 | least (i:Nat) (h:i < (Sc.flds k).length) (z:Int):Sc.ix (Sc.named bsz) (Sc.flds k)=i→0≤z→z≤11→Rule k (bleast++k.1.extract 0 1,k.1,be,bsz,z - Sc.hi (Sc.flds k)[i]) true
end Sg
def rulCells (r:Rul):Array Value:=#[.string r.1,.string r.2.1,.string r.2.2.1,.string r.2.2.2.1,.int .i64 r.2.2.2.2]
def RuleP (K:MkK) (bx:List Box) (rs:List Rw) (L:List (List Nat→World→Prop)) (k:Knd) (e:Ending) (w':World):Prop :=
 ∃ r b M',e=.returned (.tuple #[.agg (rulCells r),.bool b])∧Sg.Rule k r b∧MkH K M' bx rs L w'
set_option maxRecDepth 100000 in
set_option maxHeartbeats 100000000 in
theorem grule_any {K:MkK} {M:List Nat} {bx:List Box} {rs:List Rw} {L:List (List Nat→World→Prop)} {W:World} {k:Knd} {A:Option Addr} {c:Nat} (h:MkH K M bx rs L W) (hs:SlAt M W A (Sc.flds k)) (hm:(Sc.flds k).length≤20) (hn1:1≤k.1.size) (hn2:k.1.size≤20) (hbd:∀ f∈Sc.flds k,-1000≤Sc.lo f∧Sc.lo f≤1000∧-1000≤Sc.hi f∧Sc.hi f≤1000) :
  Calls Tryz.prog 28 #[K.p,.agg #[.string k.1,.int .i64 k.2.1,.int .i64 k.2.2.1,.slice A (Sc.flds k).length c]] W (RuleP K bx rs L k):=by
 obtain ⟨nm,hnm⟩:∃ s,k.1=s:=⟨_,rfl⟩
 obtain ⟨n,hn⟩:∃ m,(Sc.flds k).length=m:=⟨_,rfl⟩
 obtain ⟨lo,hlo⟩:∃ i,k.2.1=i:=⟨_,rfl⟩
 obtain ⟨hi,hhi⟩:∃ i,k.2.2.1=i:=⟨_,rfl⟩
 rw [hnm,hn,hlo,hhi]
 have h0:=(h.add (keeps_sl A (Sc.flds k)) hs)
 have h1:=((h0.new #[.string nm,.int .i64 lo,.int .i64 hi,.slice A n c] 49 rfl).new (N:=W.heap.size+1) #[.string ⟨#[]⟩,.string ⟨#[]⟩,.string ⟨#[]⟩,.string ⟨#[]⟩,.int .i64 0] 58 (by simp))
 obtain ⟨W0,hW0⟩:∃ X,(W.alloc (.cells #[.string nm,.int .i64 lo,.int .i64 hi,.slice A n c] 49)).alloc (.cells #[.string ⟨#[]⟩,.string ⟨#[]⟩,.string ⟨#[]⟩,.string ⟨#[]⟩,.int .i64 0] 58)=X:=⟨_,rfl⟩
 rw [hW0] at h1
 have hs0:=h1.fact (.head _)
 have H:=aI h1
 have q:=h1.box (.tail _ (.head _));have q3:=q.cell 3;(simp at q3);clear q h1
 have CL0:=fun w' (hb:Below W0.heap.size W0 w')=>has_any (Sc.flds k) A c Sg.blow w' (hs0.keep (Chg.of_below hb)) (by omega)
 have CS0:=fun w' (hb:Below W0.heap.size W0 w')=>has_any (Sc.flds k) A c Sg.bsz w' (hs0.keep (Chg.of_below hb)) (by omega)
 rw [hn] at CL0 CS0
 obtain ⟨il,hil⟩:∃ i,Sc.ix (Sc.named Sg.blow) (Sc.flds k)=i:=⟨_,rfl⟩
 obtain ⟨is,his⟩:∃ i,Sc.ix (Sc.named Sg.bsz) (Sc.flds k)=i:=⟨_,rfl⟩
 rw [hil] at CL0
 rw [his] at CS0
 have CL:=aI CL0;have CS:=aI CS0;have HIL:=aI hil;have HIS:=aI his;have HBD:=aI hbd;have HN:=aI hn;have HNM:=aI hnm
 rw [hnm] at hn1 hn2
 rw [hn] at hm
 clear hs0 CL0 CS0 hil his hbd hn hnm h0 h hs hlo hhi
 go_enter Tryz.func28,Tryz.ntmps28
 go_wp2_with fail
 generalize W.heap.size+1=rb at H ⊢
 generalize W.heap.size=kb at H ⊢
 clear hW0
 go_at_call 72
 refine (CL.out _ (Below.refl _ _)).mono ?_
 rintro e w3 ⟨rfl,hb⟩
 replace H:=aI (H.out.below hb)
 have HB3:=aI hb
 clear hb q3
 have q:=H.out.box (.tail _ (.head _));have q3:=q.cell 3;(simp at q3);clear q
 go_wp2_with fail
 go_at_call 72
 refine (CS.out _ HB3.out).mono ?_
 rintro e w4 ⟨rfl,hb⟩
 replace H:=aI (H.out.below hb)
 clear hb
 go_upto_region 3 with fail
 go_cut [21] from 9 (fun v21 w'=>∃ b:Bool,v21=.bool b∧(b=true→0≤il)∧∃ M,MkH K M ((rb,58,#[.string ⟨#[]⟩,.string ⟨#[]⟩,.string ⟨#[]⟩,.string ⟨#[]⟩,.int .i64 0])::(kb,49,#[.string nm,.int .i64 lo,.int .i64 hi,.slice A n c])::bx) rs ((fun M W=>SlAt M W A (Sc.flds k))::L) w')
 case first =>
  clear CL CS HB3
  by_cases hl0:0≤il
  ·go_wp2_with (go_at_call 26;refine (H.out.take 3 (by omega) (by omega)).mono ?_;rintro e w5 ⟨v,rfl,v1,v2,hr⟩;replace H:=aI (H.out.turn hr);clear hr)
   go_meet
   case rel=>exact ⟨_,rfl,fun _=>hl0,_,H.out⟩
  ·have t1:decide (0≤il)=false:=decide_eq_false hl0
   go_wp2_with fail
   go_meet
   case rel=>exact ⟨_,rfl,fun h=>(by cases h),_,H.out⟩
 case rest =>
  obtain ⟨b,rfl,hb,M2,HS⟩:=hcut
  clear H CL CS HB3
  have H:=aI HS
  clear HS
  have hlen:(1:Int)≤((nm.size:Nat):Int):=by omega
  cases b
  ·clear hb
   by_cases hs0:is < 0
   ·have HB:=aI (show Sc.ix (Sc.named Sg.bsz) (Sc.flds k) < 0 by rw [HIS.out];exact hs0)
    have t1:decide (is < 0)=true:=decide_eq_true hs0
    go_upto_region 6 with fail
    go_cut [5] from 6 (fun v5 w'=>v5=.bool false∧∃ r,Sg.Rule k r false∧∃ M,MkH K M ((rb,58,rulCells r)::(kb,49,#[.string nm,.int .i64 lo,.int .i64 hi,.slice A n c])::bx) rs ((fun M W=>SlAt M W A (Sc.flds k))::L) w')
    case first =>
     have q:=H.out.box (.head _);have f0:=q.frozen 0;have f1:=q.frozen 1;have f2:=q.frozen 2;have f3:=q.frozen 3;have f4:=q.frozen 4;have q0:=q.cell 0;have q1:=q.cell 1;have q2:=q.cell 2;have q3:=q.cell 3;have q4:=q.cell 4;(simp at q0 q1 q2 q3 q4);clear q
     go_wp2_with fail
     go_meet
     case rel=>exact ⟨rfl,(Sg.be,Sg.be,Sg.be,Sg.be,0),.none HB.out,_,((((H.out.set0 0 _).set0 1 _).set0 2 _).set0 3 _).set0 4 _⟩
    case rest =>
     obtain ⟨rfl,r,hr,M9,H9⟩:=hcut
     have q:=H9.box (.head _);have q0:=q.cell 0;have q1:=q.cell 1;have q2:=q.cell 2;have q3:=q.cell 3;have q4:=q.cell 4;(simp [rulCells] at q0 q1 q2 q3 q4);clear q
     have H8:=aI H9.unbox.unbox.tail
     have HR:=aI hr
     clear H9 hr
     rename_i hK
     apply hK
     refine wp_ret ?_
     (try simp only [Exit.then])
     refine bodyPost_ret (v:=.tuple #[.agg (rulCells r),.bool false]) ?_ rfl ?_
     ·simp [results,Tryz.results28,go_sem,q0,q1,q2,q3,q4,rulCells]
      try rfl
     ·exact ⟨r,false,M9,rfl,HR.out,H8.out⟩
   ·have t1:decide (is < 0)=false:=decide_eq_false hs0
    obtain ⟨i,hi',hie,_⟩:=Sc.ix_get (p:=Sc.named Sg.bsz) (l:=Sc.flds k) (by rw [HIS.out];omega)
    have HIE:=aI hie
    rw [HIS.out] at hie
    subst hie
    have hin:i < n:=by rw [← HN.out];exact hi'
    have k2:(i:Int) < (n:Int):=by omega
    have hbd:=HBD.out _ (List.getElem_mem hi')
    obtain ⟨b1,o1,B,cB,C,cC,rfl,_,g0,g1,g2,g3,g4,g5,g6,g7,_⟩:=fld_at (H.out.fact (.head _)) i hi'
    obtain ⟨f,hf⟩:∃ f,(Sc.flds k)[i]=f:=⟨_,rfl⟩
    rw [hf] at g0 g1 g2 g3 g4 g5 g6 g7 hbd
    have HF:=aI hf
    obtain ⟨flo,hflo⟩:∃ x,Sc.lo f=x:=⟨_,rfl⟩
    obtain ⟨fhi,hfhi⟩:∃ x,Sc.hi f=x:=⟨_,rfl⟩
    rw [hflo] at g4 hbd
    rw [hfhi] at g5 hbd
    obtain ⟨d1,d2,d3,d4⟩:=hbd
    have H2:=aI (H.out.new #[.string (Sc.nm f),.string (Sc.of_ f),.string (Sc.up f),.int .i64 (Sc.kd f),.int .i64 flo,.int .i64 fhi,.slice B (Sc.words f).length cB,.slice C (Sc.wts f).length cC] 52 rfl)
    have q:=H.out.box (.tail _ (.head _));have y3:=q.cell 3;(simp at y3);clear q
    have HFL:=aI hflo
    have HFH:=aI hfhi
    clear H hf hflo hfhi hs0
    generalize Sc.nm f=z0 at *
    generalize Sc.of_ f=z1 at *
    generalize Sc.up f=z2 at *
    generalize Sc.kd f=z3 at *
    generalize (Sc.words f).length=z6 at *
    generalize (Sc.wts f).length=z7 at *
    go_upto_region 8 with fail
    generalize hW9:wc.alloc _=W9 at H2 ⊢
    generalize wc.heap.size=fb at H2 ⊢
    clear g0 g1 g2 g3 g4 g5 g6 g7 y3 hW9
    have H:=H2
    clear H2
    go_wp2_with fail
    go_at_call 26
    refine (H.out.take 2 (by omega) (by omega)).mono ?_
    rintro e w5 ⟨v,rfl,v1,v2,hr⟩
    replace H:=aI (H.out.turn hr);clear hr
    by_cases hv:v=0
    ·subst hv
     go_upto_region 9 with fail
     go_cut [5] from 6 (fun v5 w'=>v5=.bool true∧∃ r,Sg.Rule k r true∧∃ M,MkH K M ((rb,58,rulCells r)::(kb,49,#[.string nm,.int .i64 lo,.int .i64 hi,.slice (some ⟨b1,o1,none⟩) n c])::bx) rs ((fun M W=>SlAt M W (some ⟨b1,o1,none⟩) (Sc.flds k))::L) w')
     case first =>
      obtain ⟨wo,rfl⟩:∃ wo:World,wo=w5:=⟨_,rfl⟩
      letI:Grow:=K.grow
      apply RG.wp_region_typed (C:=fun w'=>K.R wo w') (n:=67) (m:=12) (l1:=[_,_,_,_,_,_,_,_,_,_,_,_]) (l2:=[_,_])
      ·rfl
      ·rfl
      ·kernel_rfl
      ·rfl
      ·kernel_rfl
      ·exact K.drew wo
      ·exact fun u u' h hb=>h.trans hb
      (apply RG.wpT_exact;· (intro w' hC hf;unfold RG.Gives;clear hf hC;go_wp2_with (fail);apply RG.postT_val rfl (Grow.refl _);simp only [RG.valAt,aA,aE,aC,aD,aH];exact rfl));(try simp only [Act.put,aB,aF,aG])
      (apply RG.wpT_exact;· (intro w' hC hf;unfold RG.Gives;have q:=(H.out.turn hC).box (.tail _ (.tail _ (.head _)));have q0:=q.cell 0;(simp at q0);clear q;clear hf hC;go_wp2_with (fail);apply RG.postT_val rfl (Grow.refl _);simp only [RG.valAt,aA,aE,aC,aD,aH];exact rfl));(try simp only [Act.put,aB,aF,aG])
      iterate 3 ((apply RG.wpT_exact;· (intro w' hC hf;unfold RG.Gives;clear hf hC;go_wp2_with (fail);apply RG.postT_val rfl (Grow.refl _);simp only [RG.valAt,aA,aE,aC,aD,aH];exact rfl));(try simp only [Act.put,aB,aF,aG]))
      (apply RG.wpT_exact;· (intro w' hC hf;unfold RG.Gives;have q:=(H.out.turn hC).box (.tail _ (.tail _ (.head _)));have q0:=q.cell 0;(simp at q0);clear q;clear hf hC;go_wp2_with (fail);apply RG.postT_val rfl (Grow.refl _);simp only [RG.valAt,aA,aE,aC,aD,aH];exact rfl));(try simp only [Act.put,aB,aF,aG])
      (apply RG.wpT_exact;· (intro w' hC hf;unfold RG.Gives;clear hf hC;go_wp2_with (fail);apply RG.postT_val rfl (Grow.refl _);simp only [RG.valAt,aA,aE,aC,aD,aH];exact rfl));(try simp only [Act.put,aB,aF,aG])
      (apply RG.wpT_exact;· (intro w' hC hf;unfold RG.Gives;have q:=(H.out.turn hC).box (.head _);have q4:=q.cell 4;(simp at q4);clear q;clear hf hC;go_wp2_with (fail);apply RG.postT_val rfl (Grow.refl _);simp only [RG.valAt,aA,aE,aC,aD,aH];exact rfl));(try simp only [Act.put,aB,aF,aG])
      (apply RG.wpT_exact;· (intro w' hC hf;unfold RG.Gives;clear hf hC;go_wp2_with (fail);apply RG.postT_val rfl (Grow.refl _);simp only [RG.valAt,aA,aE,aC,aD,aH];exact rfl));(try simp only [Act.put,aB,aF,aG])
      apply RG.wpT_typed (T:=fun v _=>∃ z:Nat,v=.int .i64 (z:Int)∧z < 12) (fun v w w' h _=>h)
      ·intro w' hC hf;unfold RG.Gives;clear hf
       go_wp2_with fail
       go_at_call 26
       refine ((H.out.turn hC).take 12 (by omega) (by omega)).mono ?_
       rintro e w3 ⟨v,rfl,v1,v2,hr⟩
       obtain ⟨z,rfl⟩:∃ z':Nat,v=z':=⟨v.toNat,by omega⟩
       go_wp2_with fail
       refine RG.postT_mk rfl hr ?_;simp only [RG.valAt,aA,aE,aC,aD,aH];exact ⟨z,rfl,by omega⟩
      intro v52;(try simp only [Act.put,aB,aF,aG])
      apply RG.wpT_typed (T:=fun v _=>∃ z:Nat,v=.int .i64 (flo+(z:Int))∧z < 12) (fun v w w' h _=>h)
      ·intro w' hC hf;unfold RG.Gives;obtain ⟨z,rfl,z1⟩:=hf.1 rfl;clear hf hC
       go_wp2_with fail
       refine RG.postT_mk rfl (Grow.refl _) ?_;simp only [RG.valAt,aA,aE,aC,aD,aH];exact ⟨z,rfl,z1⟩
      intro v53;(try simp only [Act.put,aB,aF,aG])
      apply RG.wpT_typed (T:=fun v _=>∃ z:Nat,v=.agg #[.string (Sg.bmost++nm.extract 0 1),.string nm,.string Sg.bsz,.string Sg.be,.int .i64 (flo+(z:Int))]∧z < 12) (fun v w w' h _=>h)
      ·intro w' hC hf;unfold RG.Gives;obtain ⟨z,rfl,z1⟩:=hf.1 rfl;clear hf hC
       go_wp2_with fail
       refine RG.postT_mk rfl (Grow.refl _) ?_;simp only [RG.valAt,aA,aE,aC,aD,aH];exact ⟨z,rfl,z1⟩
      intro v54;(try simp only [Act.put,aB,aF,aG])
      apply RG.wpT_done
      intro w4 hC hall
      obtain ⟨z,rfl,z1⟩:=hall.1
      have T:=aI (H.out.turn hC)
      have q:=T.out.box (.tail _ (.head _));have f0:=q.frozen 0;have f1:=q.frozen 1;have f2:=q.frozen 2;have f3:=q.frozen 3;have f4:=q.frozen 4;have q0:=q.cell 0;have q1:=q.cell 1;have q2:=q.cell 2;have q3:=q.cell 3;have q4:=q.cell 4;(simp at q0 q1 q2 q3 q4);clear q
      clear hall hC H this
      go_wp2_with fail
      go_meet
      case rel =>
       refine ⟨rfl,(Sg.bmost++nm.extract 0 1,nm,Sg.bsz,Sg.be,flo+(z:Int)),?_,_,(((((T.out.swap.set0 0 _).set0 1 _).set0 2 _).set0 3 _).set0 4 _).swap.unbox⟩
       have:=Sg.Rule.most (k:=k) i hi' (z:Int) HIE.out (by omega) (by omega)
       rw [HNM.out,HF.out,HFL.out] at this
       exact this
     case rest =>
      obtain ⟨rfl,r,hr,M9,H9⟩:=hcut
      have q:=H9.box (.head _);have q0:=q.cell 0;have q1:=q.cell 1;have q2:=q.cell 2;have q3:=q.cell 3;have q4:=q.cell 4;(simp [rulCells] at q0 q1 q2 q3 q4);clear q
      have H8:=aI H9.unbox.unbox.tail
      have HR:=aI hr
      clear H9 hr
      rename_i hK
      apply hK
      refine wp_ret ?_
      (try simp only [Exit.then])
      refine bodyPost_ret (v:=.tuple #[.agg (rulCells r),.bool true]) ?_ rfl ?_
      ·simp [results,Tryz.results28,go_sem,q0,q1,q2,q3,q4,rulCells]
       try rfl
      ·exact ⟨r,true,M9,rfl,HR.out,H8.out⟩
    ·have t2:(v == 0)=false:=by rw [beq_eq_false_iff_ne];exact hv
     go_upto_region 10 with fail
     go_cut [5] from 6 (fun v5 w'=>v5=.bool true∧∃ r,Sg.Rule k r true∧∃ M,MkH K M ((rb,58,rulCells r)::(kb,49,#[.string nm,.int .i64 lo,.int .i64 hi,.slice (some ⟨b1,o1,none⟩) n c])::bx) rs ((fun M W=>SlAt M W (some ⟨b1,o1,none⟩) (Sc.flds k))::L) w')
     case first =>
      obtain ⟨wo,rfl⟩:∃ wo:World,wo=w5:=⟨_,rfl⟩
      letI:Grow:=K.grow
      apply RG.wp_region_typed (C:=fun w'=>K.R wo w') (n:=67) (m:=12) (l1:=[_,_,_,_,_,_,_,_,_,_,_,_]) (l2:=[_,_])
      ·rfl
      ·rfl
      ·kernel_rfl
      ·rfl
      ·kernel_rfl
      ·exact K.drew wo
      ·exact fun u u' h hb=>h.trans hb
      (apply RG.wpT_exact;· (intro w' hC hf;unfold RG.Gives;clear hf hC;go_wp2_with (fail);apply RG.postT_val rfl (Grow.refl _);simp only [RG.valAt,aA,aE,aC,aD,aH];exact rfl));(try simp only [Act.put,aB,aF,aG])
      (apply RG.wpT_exact;· (intro w' hC hf;unfold RG.Gives;have q:=(H.out.turn hC).box (.tail _ (.tail _ (.head _)));have q0:=q.cell 0;(simp at q0);clear q;clear hf hC;go_wp2_with (fail);apply RG.postT_val rfl (Grow.refl _);simp only [RG.valAt,aA,aE,aC,aD,aH];exact rfl));(try simp only [Act.put,aB,aF,aG])
      iterate 3 ((apply RG.wpT_exact;· (intro w' hC hf;unfold RG.Gives;clear hf hC;go_wp2_with (fail);apply RG.postT_val rfl (Grow.refl _);simp only [RG.valAt,aA,aE,aC,aD,aH];exact rfl));(try simp only [Act.put,aB,aF,aG]))
      (apply RG.wpT_exact;· (intro w' hC hf;unfold RG.Gives;have q:=(H.out.turn hC).box (.tail _ (.tail _ (.head _)));have q0:=q.cell 0;(simp at q0);clear q;clear hf hC;go_wp2_with (fail);apply RG.postT_val rfl (Grow.refl _);simp only [RG.valAt,aA,aE,aC,aD,aH];exact rfl));(try simp only [Act.put,aB,aF,aG])
      (apply RG.wpT_exact;· (intro w' hC hf;unfold RG.Gives;clear hf hC;go_wp2_with (fail);apply RG.postT_val rfl (Grow.refl _);simp only [RG.valAt,aA,aE,aC,aD,aH];exact rfl));(try simp only [Act.put,aB,aF,aG])
      apply RG.wpT_typed (T:=fun v _=>∃ z:Nat,v=.int .i64 (z:Int)∧z < 12) (fun v w w' h _=>h)
      ·intro w' hC hf;unfold RG.Gives;clear hf
       go_wp2_with fail
       go_at_call 26
       refine ((H.out.turn hC).take 12 (by omega) (by omega)).mono ?_
       rintro e w3 ⟨v,rfl,v1,v2,hr⟩
       obtain ⟨z,rfl⟩:∃ z':Nat,v=z':=⟨v.toNat,by omega⟩
       go_wp2_with fail
       refine RG.postT_mk rfl hr ?_;simp only [RG.valAt,aA,aE,aC,aD,aH];exact ⟨z,rfl,by omega⟩
      intro v62;(try simp only [Act.put,aB,aF,aG])
      (apply RG.wpT_exact;· (intro w' hC hf;unfold RG.Gives;clear hf hC;go_wp2_with (fail);apply RG.postT_val rfl (Grow.refl _);simp only [RG.valAt,aA,aE,aC,aD,aH];exact rfl));(try simp only [Act.put,aB,aF,aG])
      (apply RG.wpT_exact;· (intro w' hC hf;unfold RG.Gives;have q:=(H.out.turn hC).box (.head _);have q5:=q.cell 5;(simp at q5);clear q;clear hf hC;go_wp2_with (fail);apply RG.postT_val rfl (Grow.refl _);simp only [RG.valAt,aA,aE,aC,aD,aH];exact rfl));(try simp only [Act.put,aB,aF,aG])
      apply RG.wpT_typed (T:=fun v _=>∃ z:Nat,v=.int .i64 ((z:Int) - fhi)∧z < 12) (fun v w w' h _=>h)
      ·intro w' hC hf;unfold RG.Gives;obtain ⟨z,rfl,z1⟩:=hf.1 rfl;clear hf hC
       go_wp2_with fail
       refine RG.postT_mk rfl (Grow.refl _) ?_;simp only [RG.valAt,aA,aE,aC,aD,aH];exact ⟨z,rfl,z1⟩
      intro v65;(try simp only [Act.put,aB,aF,aG])
      apply RG.wpT_typed (T:=fun v _=>∃ z:Nat,v=.agg #[.string (Sg.bleast++nm.extract 0 1),.string nm,.string Sg.be,.string Sg.bsz,.int .i64 ((z:Int) - fhi)]∧z < 12) (fun v w w' h _=>h)
      ·intro w' hC hf;unfold RG.Gives;obtain ⟨z,rfl,z1⟩:=hf.1 rfl;clear hf hC
       go_wp2_with fail
       refine RG.postT_mk rfl (Grow.refl _) ?_;simp only [RG.valAt,aA,aE,aC,aD,aH];exact ⟨z,rfl,z1⟩
      intro v66;(try simp only [Act.put,aB,aF,aG])
      apply RG.wpT_done
      intro w4 hC hall
      obtain ⟨z,rfl,z1⟩:=hall.1
      have T:=aI (H.out.turn hC)
      have q:=T.out.box (.tail _ (.head _));have f0:=q.frozen 0;have f1:=q.frozen 1;have f2:=q.frozen 2;have f3:=q.frozen 3;have f4:=q.frozen 4;have q0:=q.cell 0;have q1:=q.cell 1;have q2:=q.cell 2;have q3:=q.cell 3;have q4:=q.cell 4;(simp at q0 q1 q2 q3 q4);clear q
      clear hall hC H this
      go_wp2_with fail
      go_meet
      case rel =>
       refine ⟨rfl,(Sg.bleast++nm.extract 0 1,nm,Sg.be,Sg.bsz,(z:Int) - fhi),?_,_,(((((T.out.swap.set0 0 _).set0 1 _).set0 2 _).set0 3 _).set0 4 _).swap.unbox⟩
       have:=Sg.Rule.least (k:=k) i hi' (z:Int) HIE.out (by omega) (by omega)
       rw [HNM.out,HF.out,HFH.out] at this
       exact this
     case rest =>
      obtain ⟨rfl,r,hr,M9,H9⟩:=hcut
      have q:=H9.box (.head _);have q0:=q.cell 0;have q1:=q.cell 1;have q2:=q.cell 2;have q3:=q.cell 3;have q4:=q.cell 4;(simp [rulCells] at q0 q1 q2 q3 q4);clear q
      have H8:=aI H9.unbox.unbox.tail
      have HR:=aI hr
      clear H9 hr
      rename_i hK
      apply hK
      refine wp_ret ?_
      (try simp only [Exit.inBlock,Exit.then])
      refine bodyPost_ret (v:=.tuple #[.agg (rulCells r),.bool true]) ?_ rfl ?_
      ·simp [results,Tryz.results28,go_sem,q0,q1,q2,q3,q4,rulCells]
       try rfl
      ·exact ⟨r,true,M9,rfl,HR.out,H8.out⟩
  ·have HB:=aI (show 0≤Sc.ix (Sc.named Sg.blow) (Sc.flds k) by rw [HIL.out];exact hb rfl)
   clear hb
   go_upto_region 4 with fail
   go_cut [5] from 6 (fun v5 w'=>v5=.bool true∧∃ r,Sg.Rule k r true∧∃ M,MkH K M ((rb,58,rulCells r)::(kb,49,#[.string nm,.int .i64 lo,.int .i64 hi,.slice A n c])::bx) rs ((fun M W=>SlAt M W A (Sc.flds k))::L) w')
   case first =>
    obtain ⟨wo,rfl⟩:∃ wo:World,wo=wc:=⟨_,rfl⟩
    letI:Grow:=K.grow
    apply RG.wp_region_typed (C:=fun w'=>K.R wo w') (n:=67) (m:=10) (l1:=[_,_,_,_,_,_,_,_,_,_]) (l2:=[_,_])
    ·rfl
    ·rfl
    ·kernel_rfl
    ·rfl
    ·kernel_rfl
    ·exact K.drew wo
    ·exact fun u u' h hb=>h.trans hb
    (apply RG.wpT_exact;· (intro w' hC hf;unfold RG.Gives;clear hf hC;go_wp2_with (fail);apply RG.postT_val rfl (Grow.refl _);simp only [RG.valAt,aA,aE,aC,aD,aH];exact rfl));(try simp only [Act.put,aB,aF,aG])
    (apply RG.wpT_exact;· (intro w' hC hf;unfold RG.Gives;have q:=(H.out.turn hC).box (.tail _ (.head _));have q0:=q.cell 0;(simp at q0);clear q;clear hf hC;go_wp2_with (fail);apply RG.postT_val rfl (Grow.refl _);simp only [RG.valAt,aA,aE,aC,aD,aH];exact rfl));(try simp only [Act.put,aB,aF,aG])
    iterate 3 ((apply RG.wpT_exact;· (intro w' hC hf;unfold RG.Gives;clear hf hC;go_wp2_with (fail);apply RG.postT_val rfl (Grow.refl _);simp only [RG.valAt,aA,aE,aC,aD,aH];exact rfl));(try simp only [Act.put,aB,aF,aG]))
    (apply RG.wpT_exact;· (intro w' hC hf;unfold RG.Gives;have q:=(H.out.turn hC).box (.tail _ (.head _));have q0:=q.cell 0;(simp at q0);clear q;clear hf hC;go_wp2_with (fail);apply RG.postT_val rfl (Grow.refl _);simp only [RG.valAt,aA,aE,aC,aD,aH];exact rfl));(try simp only [Act.put,aB,aF,aG])
    (apply RG.wpT_exact;· (intro w' hC hf;unfold RG.Gives;clear hf hC;go_wp2_with (fail);apply RG.postT_val rfl (Grow.refl _);simp only [RG.valAt,aA,aE,aC,aD,aH];exact rfl));(try simp only [Act.put,aB,aF,aG])
    apply RG.wpT_typed (T:=fun v _=>∃ z:Nat,v=.int .i64 (z:Int)∧z < 8) (fun v w w' h _=>h)
    ·intro w' hC hf;unfold RG.Gives;clear hf
     go_wp2_with fail
     go_at_call 26
     refine ((H.out.turn hC).take 8 (by omega) (by omega)).mono ?_
     rintro e w3 ⟨v,rfl,v1,v2,hr⟩
     obtain ⟨z,rfl⟩:∃ z':Nat,v=z':=⟨v.toNat,by omega⟩
     go_wp2_with fail
     refine RG.postT_mk rfl hr ?_;simp only [RG.valAt,aA,aE,aC,aD,aH];exact ⟨z,rfl,by omega⟩
    intro v29;(try simp only [Act.put,aB,aF,aG])
    apply RG.wpT_typed (T:=fun v _=>∃ z:Nat,v=.int .i64 ((z:Int) - 2)∧z < 8) (fun v w w' h _=>h)
    ·intro w' hC hf;unfold RG.Gives;obtain ⟨z,rfl,z1⟩:=hf.1 rfl;clear hf hC
     go_wp2_with fail
     refine RG.postT_mk rfl (Grow.refl _) ?_;simp only [RG.valAt,aA,aE,aC,aD,aH];exact ⟨z,rfl,z1⟩
    intro v30;(try simp only [Act.put,aB,aF,aG])
    apply RG.wpT_typed (T:=fun v _=>∃ z:Nat,v=.agg #[.string (Sg.border++nm.extract 0 1),.string nm,.string Sg.blow,.string Sg.bhigh,.int .i64 ((z:Int) - 2)]∧z < 8) (fun v w w' h _=>h)
    ·intro w' hC hf;unfold RG.Gives;obtain ⟨z,rfl,z1⟩:=hf.1 rfl;clear hf hC
     go_wp2_with fail
     refine RG.postT_mk rfl (Grow.refl _) ?_;simp only [RG.valAt,aA,aE,aC,aD,aH];exact ⟨z,rfl,z1⟩
    intro v31;(try simp only [Act.put,aB,aF,aG])
    apply RG.wpT_done
    intro w4 hC hall
    obtain ⟨z,rfl,z1⟩:=hall.1
    have T:=aI (H.out.turn hC)
    have q:=T.out.box (.head _);have f0:=q.frozen 0;have f1:=q.frozen 1;have f2:=q.frozen 2;have f3:=q.frozen 3;have f4:=q.frozen 4;have q0:=q.cell 0;have q1:=q.cell 1;have q2:=q.cell 2;have q3:=q.cell 3;have q4:=q.cell 4;(simp at q0 q1 q2 q3 q4);clear q
    clear hall hC H this
    go_wp2_with fail
    go_meet
    case rel =>
     refine ⟨rfl,(Sg.border++nm.extract 0 1,nm,Sg.blow,Sg.bhigh,(z:Int) - 2),?_,_,((((T.out.set0 0 _).set0 1 _).set0 2 _).set0 3 _).set0 4 _⟩
     have:=Sg.Rule.low (k:=k) (z:Int) HB.out (by omega) (by omega)
     rw [HNM.out] at this
     exact this
   case rest =>
    obtain ⟨rfl,r,hr,M9,H9⟩:=hcut
    have q:=H9.box (.head _);have q0:=q.cell 0;have q1:=q.cell 1;have q2:=q.cell 2;have q3:=q.cell 3;have q4:=q.cell 4;(simp [rulCells] at q0 q1 q2 q3 q4);clear q
    have H8:=aI H9.unbox.unbox.tail
    have HR:=aI hr
    clear H9 hr
    rename_i hK
    apply hK
    refine wp_ret ?_
    (try simp only [Exit.then])
    refine bodyPost_ret (v:=.tuple #[.agg (rulCells r),.bool true]) ?_ rfl ?_
    ·simp [results,Tryz.results28,go_sem,q0,q1,q2,q3,q4,rulCells]
     try rfl
    ·exact ⟨r,true,M9,rfl,HR.out,H8.out⟩
end Go.Proofs.YtmplaikgbeeikaaGreatDoor
namespace Go.Proofs.YtmplaikgbeeikaaGreatDoor
open Go Go.RowKit
namespace Sg
inductive Kinds:List Knd→Prop
 | nil:Kinds []
 | snoc (ks:List Knd) (k:Knd) (ks':List Knd):Kinds ks→Kind ks k ks'→Kinds (ks'++[k])
def bnew:ByteArray:=⟨#[110,101,119]⟩
def bopen:ByteArray:=⟨#[111,112,101,110]⟩
def bdone:ByteArray:=⟨#[100,111,110,101]⟩
def bshut:ByteArray:=⟨#[115,104,117,116]⟩
def states:List ByteArray:=[bnew,bopen,bdone,bshut]
def steps (m:Nat):List (Int × Int):=(List.range m).map fun (i:Nat)=>((i:Int),(i:Int)+1)
inductive Life:Lif→Prop
 | mk (m:Nat) (a b:List (Int × Int)):2≤m→m≤4→(a=[]∨a=[(1,0)])→(b=[]∨b=[(0,(m:Int) - 1)])→Life (blife,states.take m,steps (m - 1)++a++b)
inductive Rules (ks:List Knd):Nat→List Rul→Prop
 | nil:Rules ks 0 []
 | step (i:Nat) (h:i < ks.length) (rs:List Rul) (r:Rul) (b:Bool):Rules ks i rs→rs.length < 2→Rule ks[i] r b→Rules ks (i+1) (if b then rs++[r] else rs)
inductive Schema:Sch→Prop
 | mk (ver:Int) (ks:List Knd) (lf:Lif) (i:Nat) (rs:List Rul):0≤ver→ver≤3→1≤ks.length→ks.length≤3→Kinds ks→Life lf→Rules ks i rs→(i=ks.length∨rs.length=2)→Schema (ver,ks,[lf],rs)
def FBd (f:Fld):Prop:=-1000≤Sc.lo f∧Sc.lo f≤1000∧-1000≤Sc.hi f∧Sc.hi f≤1000
theorem Plain.bd {fs:List Fld} (h:Plain fs):∀ f∈fs,FBd f:=by
 cases h with
 | none=>intro f hf;cases hf
 | size lo d _ _ _ _=>intro f hf;simp only [List.mem_singleton] at hf;subst hf;unfold FBd Sc.lo Sc.hi;simp only;omega
 | tag k ws _ _ _ _ _=>intro f hf;simp only [List.mem_singleton] at hf;subst hf;unfold FBd Sc.lo Sc.hi;simp only;omega
 | born lo d lo2 d2 _ _ _ _ _ _ _ _ =>
  intro f hf
  simp only [List.mem_cons,List.not_mem_nil,or_false] at hf
  rcases hf with rfl | rfl <;> (unfold FBd Sc.lo Sc.hi;simp only;omega)
 | state lo d _ _ _ _=>intro f hf;simp only [List.mem_singleton] at hf;subst hf;unfold FBd Sc.lo Sc.hi;simp only;omega
 | low a b c d _ _ _ _ _ _ _ _ =>
  intro f hf
  simp only [List.mem_cons,List.not_mem_nil,or_false] at hf
  rcases hf with rfl | rfl <;> (unfold FBd Sc.lo Sc.hi;simp only;omega)
theorem Same.bd {k:Knd} {fs:List Fld} (h:Same k fs):∀ f∈fs,FBd f:=by
 cases h with
 | none=>intro f hf;cases hf
 | some c h _=>intro f hf;simp only [List.mem_singleton] at hf;subst hf;unfold FBd sameF Sc.lo Sc.hi;simp only;omega
structure KOk (k:Knd):Prop where
 n1:1≤k.1.size
 n2:k.1.size≤20
 lo:0≤k.2.1
 hi:k.2.2.1≤8
 len1:1≤(Sc.flds k).length
 len:(Sc.flds k).length≤9∨((Sc.flds k).length≤10∧0≤Sc.ix (Sc.named btotal) (Sc.flds k))
 bd:∀ f∈Sc.flds k,FBd f
theorem kname_size (n:Nat) (h:n≤2):1≤(kname n).size∧(kname n).size≤20:=by
 rcases (show n=0∨n=1∨n=2 by omega) with rfl | rfl | rfl <;> decide
theorem ix_snoc {α:Type} {p:α→Bool} {l:List α} {x:α} (h:p x=true):0≤Sc.ix p (l++[x]):=by
 rcases Int.lt_or_le (Sc.ix p (l++[x])) 0 with hn | hn
 ·have:=Sc.ix_neg hn x (by simp)
  rw [h] at this;cases this
 ·exact hn
theorem KOk.total {k:Knd} {nm:ByteArray} (h:KOk k) (hx:Sc.ix (Sc.named btotal) (Sc.flds k) < 0):KOk (setF k (Sc.flds k++[totalF nm])):=by
 have hl:(Sc.flds k).length≤9:=by rcases h.len with h | ⟨_,h⟩ <;> omega
 refine ⟨h.n1,h.n2,h.lo,h.hi,?_,.inr ⟨?_,ix_snoc (by unfold Sc.named totalF Sc.nm;exact decide_eq_true rfl)⟩,fun f hf=>?_⟩
 ·show 1≤(Sc.flds k++[totalF nm]).length;rw [aK];have:=h.len1;omega
 ·show (Sc.flds k++[totalF nm]).length≤10;rw [aK,List.length_singleton];omega
 ·rcases List.mem_append.1 (show f∈Sc.flds k++[totalF nm] from hf) with hf | hf
  ·exact h.bd f hf
  ·simp only [List.mem_singleton] at hf;subst hf;unfold FBd totalF Sc.lo Sc.hi;simp only;omega
theorem okLo_bd' {lo:Int} (h:okLo lo):-3≤lo∧lo≤100:=okLo_bd h
theorem Part.ok {nm:ByteArray} {ks:List Knd} {tq:Nat} {h:tq < ks.length} {fs:List Fld} {ks':List Knd} (hp:Part nm ks tq h fs ks') (hk:∀ k∈ks,KOk k):(∀ k∈ks',KOk k)∧∀ f∈fs,FBd f:=by
 cases hp with
 | none=>exact ⟨hk,fun f hf=>by cases hf⟩
 | some lo d _ _ _ _ hx =>
  refine ⟨fun k hkm=>?_,fun f hf=>?_⟩
  ·rcases List.mem_or_eq_of_mem_set hkm with hkm | rfl
   ·exact hk k hkm
   ·exact (hk _ (List.getElem_mem h)).total hx
  ·simp only [List.mem_singleton] at hf;subst hf;unfold FBd partF Sc.lo Sc.hi;simp only;omega
theorem Body.ok {nm:ByteArray} {ks:List Knd} {fs:List Fld} {ks':List Knd} (h:Body nm ks fs ks') (hk:∀ k∈ks,KOk k):(∀ k∈ks',KOk k)∧∀ f∈fs,FBd f:=by
 cases h with
 | nil lo hlo =>
  have:=okLo_bd hlo
  refine ⟨hk,fun f hf=>?_⟩
  simp only [List.mem_singleton] at hf;subst hf;unfold FBd idF Sc.lo Sc.hi;simp only;omega
 | cons _ tq h lo flo hi same part _ hlo _ _ _ _ hs hp =>
  have:=okLo_bd hlo
  obtain ⟨p1,p2⟩:=hp.ok hk
  refine ⟨p1,fun f hf=>?_⟩
  simp only [List.mem_append,List.mem_cons,List.not_mem_nil,or_false] at hf
  rcases hf with ((rfl | rfl) | hf) | hf
  ·unfold FBd idF Sc.lo Sc.hi;simp only;omega
  ·unfold FBd ofF Sc.lo Sc.hi;simp only;omega
  ·exact hs.bd f hf
  ·exact p2 f hf
theorem Kind.ok {ks:List Knd} {k:Knd} {ks':List Knd} (h:Kind ks k ks') (hk:∀ k∈ks,KOk k) (hn:ks.length≤2):(∀ x∈ks'++[k],KOk x)∧ks'.length=ks.length:=by
 obtain ⟨h1,h2,h3,h4,h5,hf⟩:=h
 generalize hfs:Sc.flds k=fl at hf
 cases hf with
 | mk fs ks' by_ first second hb hby hp hs =>
  obtain ⟨b1,b2⟩:=hb.ok hk
  obtain ⟨l1,l2,l3⟩:=hb.len
  have hp2:=hp.len
  have hbyl:by_.length≤1:=by rcases hby with rfl | ⟨_,_,_,rfl⟩ <;> simp
  have hsl:second.length≤2:=by rcases hs with rfl | ⟨hs,_⟩;simp;exact hs.len
  refine ⟨fun x hx=>?_,l3⟩
  rcases List.mem_append.1 hx with hx | hx
  ·exact b1 x hx
  ·simp only [List.mem_singleton] at hx
   subst hx
   obtain ⟨n1,n2⟩:=kname_size ks.length hn
   refine ⟨by rw [h1];exact n1,by rw [h1];exact n2,h2,by omega,?_,.inl ?_,fun f hf=>?_⟩
   ·rw [hfs];simp only [aK];omega
   ·rw [hfs];simp only [aK];omega
   ·rw [hfs] at hf
    simp only [List.mem_append] at hf
    rcases hf with ((hf | hf) | hf) | hf
    ·exact b2 f hf
    ·rcases hby with rfl | ⟨_,k0,_,rfl⟩
     ·cases hf
     ·simp only [List.mem_singleton] at hf;subst hf;unfold FBd byF Sc.lo Sc.hi;simp only;omega
    ·exact hp.bd f hf
    ·rcases hs with rfl | ⟨hs,_⟩
     ·cases hf
     ·exact hs.bd f hf
theorem Kind.klen {ks:List Knd} {k:Knd} {ks':List Knd} (h:Kind ks k ks'):ks'.length=ks.length:=by
 obtain ⟨_,_,_,_,_,hf⟩:=h
 generalize Sc.flds k=fl at hf
 cases hf with
 | mk fs ks' by_ first second hb _ _ _=>exact hb.len.2.2
theorem Kinds.ok {ks:List Knd} (h:Kinds ks):ks.length≤3→∀ k∈ks,KOk k:=by
 induction h with
 | nil=>intro _ k hk;cases hk
 | snoc ks k ks' h hk ih =>
  intro hl
  have h3:=hk.klen
  rw [aK,List.length_singleton] at hl
  exact (hk.ok (ih (by omega)) (by omega)).1
end Sg
section
variable {w W W':World} {G M:List Nat} {bx:List Box} {rs:List Rw} {r:Rw} {L:List (List Nat→World→Prop)} {P:Program}
theorem step_append_rows {ops:Array Oper} {o:Oper} {a:Act} {K':Act→World→Prop} {Q:Exit→Act→World→Prop} {E:Prop} (hgd:o.guard=none) (s x:Operand) (t:TypeId)
  (ho:o.op=.call { callee:=.builtin .append,args:=#[s,x],argTypes:=#[t,t] })
  (e:TypeId) (i:TypeInfo) (z:Value) (size bytes:Nat) (ht:P.underlying t=some (.slice e)) (hi:P.info? e=some i) (hz:i.zero=some z)
  (hsize:i.size=size) (hby:i.bytes=bytes) (hzs:z.cells.size=size) (hsz:0 < size)
  {v:Value} {n:Nat} {xs:List Value} (H:HR w G M bx (⟨e,size,v,n,xs⟩::rs) L W) (hs:a.eval s=v)
  (B:Nat) (A:Option Addr) (m c:Nat) (news:List Value) (hx:a.eval x=.slice A m c) (hr:Reads W B size A m news) (h1:∀ u∈news,u.oneCell'=true)
  (h63:n+m≤maxLen) (hbytes:(n+m)*bytes≤140737488355328)
  (h:∀ v' W' M',HR w G M' bx (⟨e,size,v',n+m,xs++news⟩::rs) L W'→(∀ g∈M,g∈M')→K' (a.put o.dst v') W'):if Region.wanted o (yielded ops a.tmps)=true then Oper.wp P o a W K' Q else E :=
 step_append_any W hgd s x t ho w.heap.size e i z size bytes ht hi hz hsize hby hzs hsz v n xs hs (H.own _ (.head _)) B A m c news hx hr h1 h63 hbytes H.h.bl.size fun v' W' h2 h3 h4=>by
  have hok:=H.ok _ (.head _)
  have hap:=List.pairwise_cons.1 H.apart
  obtain ⟨M',k1,k2,k3⟩:=H.h.grown hok h3 h4 h2
  refine h v' W' M' ⟨k1,fun r hr=>?_,fun r hr=>?_,List.pairwise_cons.2 ⟨fun s hs g hg1 hg2=>?_,hap.2⟩⟩ k3
  ·rcases aL hr with rfl | hr
   ·exact k2
   ·exact (H.ok r (.tail _ hr)).mono k3
  ·rcases aL hr with rfl | hr
   ·exact h2
   ·refine World.ownsRow.kept (H.own r (.tail _ hr)) h3 ?_
    cases he:r.v.ownBlock with
    | none=>exact .inl rfl
    | some g=>exact .inr fun e=>hap.1 r hr g e.symm he
  ·rcases h4 with he | he
   ·exact hap.1 s hs g (he ▸ hg1) hg2
   ·have k1:=(World.ownsRow.lt (H.own s (.tail _ hs)) g hg2).2
    rw [he] at hg1
    injection hg1 with hg1
    omega
end
section
variable {K:MkK} {M:List Nat} {bx:List Box} {rs:List Rw} {r:Rw} {L:List (List Nat→World→Prop)} {W W':World} {P:Program}
theorem step_append_mk {ops:Array Oper} {o:Oper} {a:Act} {K':Act→World→Prop} {Q:Exit→Act→World→Prop} {E:Prop} (hgd:o.guard=none) (s x:Operand) (t:TypeId)
  (ho:o.op=.call { callee:=.builtin .append,args:=#[s,x],argTypes:=#[t,t] })
  (e:TypeId) (i:TypeInfo) (z:Value) (size bytes:Nat) (ht:P.underlying t=some (.slice e)) (hi:P.info? e=some i) (hz:i.zero=some z)
  (hsize:i.size=size) (hby:i.bytes=bytes) (hzs:z.cells.size=size) (hsz:0 < size)
  {v:Value} {n:Nat} {xs:List Value} (H:MkH K M bx (⟨e,size,v,n,xs⟩::rs) L W) (hs:a.eval s=v)
  (B:Nat) (A:Option Addr) (m c:Nat) (news:List Value) (hx:a.eval x=.slice A m c) (hr:Reads W B size A m news) (h1:∀ u∈news,u.oneCell'=true)
  (h63:n+m≤maxLen) (hbytes:(n+m)*bytes≤140737488355328)
  (h:∀ v' W' M',MkH K M' bx (⟨e,size,v',n+m,xs++news⟩::rs) L W'→(∀ g∈M,g∈M')→K' (a.put o.dst v') W'):if Region.wanted o (yielded ops a.tmps)=true then Oper.wp P o a W K' Q else E:=by
 obtain ⟨j,hj,H'⟩:=H.it
 exact step_append_rows hgd s x t ho e i z size bytes ht hi hz hsize hby hzs hsz H' hs B A m c news hx hr h1 h63 hbytes fun v' W' M' h2 h3=>h v' W' M' ⟨H.len,H.base,j,hj,h2⟩ h3
end
theorem infoKnd:(Tryz.prog.info? 49).map (fun i=>(i.zero,i.size,i.bytes))=some (some (.agg #[.string ⟨#[]⟩,.int .i64 0,.int .i64 0,.slice none 0 0]),4,56):=by kernel_rfl
def SSt (K:MkK) (xb rb:Nat) (ver:Int) (ks:List Knd) (w:World):Prop :=
 ∃ M kv kxs,MkH K M [(xb,28,#[.int .i64 ver,kv,.slice none 0 0,.slice none 0 0]),(rb,28,#[.int .i64 0,.slice none 0 0,.slice none 0 0,.slice none 0 0])] [⟨49,4,kv,ks.length,kxs⟩] [fun M W=>Flat M W ks kxs] w
def kndCells (k:Knd) (A:Option Addr) (c:Nat):List Value:=[.string k.1,.int .i64 k.2.1,.int .i64 k.2.2.1,.slice A (Sc.flds k).length c]
theorem KOk.knd {k:Knd} (h:Sg.KOk k) {G:List Nat} {w:World} {A:Option Addr} {c:Nat} (hs:SlAt G w A (Sc.flds k)) (h1:(Sc.flds k).length≤c) (h2:c≤9223372036854775807) (h3:k.2.1≤8) (h4:0≤k.2.2.1):Mem.rep G w k (kndCells k A c):=by
 have:=h.n2
 have:=h.lo
 have:=h.hi
 exact ⟨[_],_,rfl,⟨rfl,by omega⟩,[_],_,rfl,⟨rfl,by unfold inI;omega⟩,[_],_,rfl,⟨rfl,by unfold inI;omega⟩,A,c,rfl,h1,h2,hs⟩
theorem infoMv:(Tryz.prog.info? 56).map (fun i=>(i.zero,i.size,i.bytes))=some (some (.agg #[.int .i64 0,.int .i64 0]),2,16):=by kernel_rfl
theorem infoLif:(Tryz.prog.info? 55).map (fun i=>(i.zero,i.size,i.bytes))=some (some (.agg #[.string ⟨#[]⟩,.slice none 0 0,.slice none 0 0]),3,64):=by kernel_rfl
theorem infoRul:(Tryz.prog.info? 58).map (fun i=>(i.zero,i.size,i.bytes))=some (some (.agg #[.string ⟨#[]⟩,.string ⟨#[]⟩,.string ⟨#[]⟩,.string ⟨#[]⟩,.int .i64 0]),5,72):=by kernel_rfl
theorem MkH.vform {K:MkK} {M:List Nat} {bx:List Box} {rs:List Rw} {L:List (List Nat→World→Prop)} {W:World} {e:TypeId} {size n:Nat} {v:Value} {xs:List Value} (h:MkH K M bx rs L W) (hr:(⟨e,size,v,n,xs⟩:Rw)∈rs):∃ A c,v=.slice A n c:=own_form (h.own _ hr)
theorem MkH.recell {K:MkK} {M:List Nat} {bx:List Box} {rs:List Rw} {L:List (List Nat→World→Prop)} {W:World} {N:Nat} {t:TypeId} {cs cs':Array Value} (h:MkH K M ((N,t,cs)::bx) rs L W) (e:cs=cs'):MkH K M ((N,t,cs')::bx) rs L W:=e ▸ h
def LSt (K:MkK) (xb rb lb N m:Nat) (ver:Int) (ks:List Knd) (mvs:List (Int × Int)) (w:World):Prop :=
 ∃ M kv kxs mv mxs,MkH K M [(lb,55,#[.string Sg.blife,.slice (some ⟨N,0,none⟩) m 4,mv]),(xb,28,#[.int .i64 ver,kv,.slice none 0 0,.slice none 0 0]),(rb,28,#[.int .i64 0,.slice none 0 0,.slice none 0 0,.slice none 0 0])] [⟨56,2,mv,mvs.length,mxs⟩,⟨49,4,kv,ks.length,kxs⟩] [fun M W=>Flat M W mvs mxs,fun M W=>SlAt M W (some ⟨N,0,none⟩) Sg.states,fun M W=>Flat M W ks kxs] w
theorem LSt.mk1 {K:MkK} {M:List Nat} {W:World} {xb rb lb N m l c7:Nat} {A7:Option Addr} {ver:Int} {ks:List Knd} {mvs:List (Int × Int)} {p:Int × Int} {kv mv0:Value} {kxs mxs us:List Value}
  (h:MkH K M [(lb,55,#[.string Sg.blife,.slice (some ⟨N,0,none⟩) m 4,mv0]),(xb,28,#[.int .i64 ver,kv,.slice none 0 0,.slice none 0 0]),(rb,28,#[.int .i64 0,.slice none 0 0,.slice none 0 0,.slice none 0 0])] [⟨56,2,.slice A7 l c7,mvs.length+1,mxs++us⟩,⟨49,4,kv,ks.length,kxs⟩] [fun M W=>Flat M W mvs mxs,fun M W=>SlAt M W (some ⟨N,0,none⟩) Sg.states,fun M W=>Flat M W ks kxs] W) (hu:Flat M W [p] us) :
  LSt K xb rb lb N m ver ks (mvs++[p]) (W.setCell ⟨lb,2,none⟩ (.slice A7 l c7)):=by
 have h1:=((h.add (keeps_flat (mvs++[p]) (mxs++us)) ((h.fact (.head _)).append hu)).fswap.tail).set0 2 (.slice A7 l c7)
 refine ⟨M,kv,kxs,.slice A7 l c7,mxs++us,?_⟩
 rw [aK,List.length_singleton]
 exact h1
theorem flat_states {G:List Nat} {w:World}:Flat G w Sg.states #[Value.string ⟨#[110,101,119]⟩,.string ⟨#[111,112,101,110]⟩,.string ⟨#[100,111,110,101]⟩,.string ⟨#[115,104,117,116]⟩].toList :=
 ⟨[_],_,rfl,⟨rfl,by decide⟩,[_],_,rfl,⟨rfl,by decide⟩,[_],_,rfl,⟨rfl,by decide⟩,[_],_,rfl,⟨rfl,by decide⟩,rfl⟩
theorem steps_snoc (m:Nat):Sg.steps m++[((m:Int),(m:Int)+1)]=Sg.steps (m+1):=by unfold Sg.steps;rw [List.range_succ,List.map_append];rfl
theorem steps_len (m:Nat):(Sg.steps m).length=m:=by unfold Sg.steps;simp
def RSt (K:MkK) (xb rb:Nat) (ver:Int) (ks:List Knd) (lf:Lif) (rls:List Rul) (w:World):Prop :=
 ∃ M kv kxs lv lxs rv rxs,MkH K M [(xb,28,#[.int .i64 ver,kv,lv,rv]),(rb,28,#[.int .i64 0,.slice none 0 0,.slice none 0 0,.slice none 0 0])] [⟨58,5,rv,rls.length,rxs⟩,⟨55,3,lv,1,lxs⟩,⟨49,4,kv,ks.length,kxs⟩] [fun M W=>Flat M W rls rxs,fun M W=>Flat M W [lf] lxs,fun M W=>Flat M W ks kxs] w
theorem take_states (m:Nat) (h:m≤4):(Sg.states.take m).length=m:=by rw [List.length_take];show min m 4=m;omega
theorem lif_rep {G:List Nat} {w:World} {N m n c:Nat} {A:Option Addr} {mvs:List (Int × Int)} (hs:SlAt G w (some ⟨N,0,none⟩) Sg.states) (hm:m≤4) (hv:SlAt G w A mvs) (hn:n=mvs.length) (h1:n≤c) (h2:c≤9223372036854775807) :
  Mem.rep G w ((Sg.blife,Sg.states.take m,mvs):Lif) [.string Sg.blife,.slice (some ⟨N,0,none⟩) m 4,.slice A n c]:=by
 subst hn
 exact ⟨[_],_,rfl,⟨rfl,(by decide:Sg.blife.size≤9223372036854775807)⟩,[_],_,rfl,⟨_,4,by rw [take_states m hm],by rw [take_states m hm];exact hm,by omega,hs.take m⟩,A,c,rfl,h1,h2,hv⟩
theorem rule_bd {k:Knd} {r:Rul} {b:Bool} (h:Sg.Rule k r b) (hk:Sg.KOk k):r.1.size≤100∧r.2.1.size≤100∧r.2.2.1.size≤100∧r.2.2.2.1.size≤100∧-10000≤r.2.2.2.2∧r.2.2.2.2≤10000:=by
 have h1:=hk.n2
 have hx:(k.1.extract 0 1).size≤20:=by rw [ByteArray.size_extract];omega
 cases h with
 | none _=>exact ⟨by decide,by decide,by decide,by decide,by decide,by decide⟩
 | low z _ _ _=>exact ⟨by rw [ByteArray.size_append];have:Sg.border.size=5:=rfl;omega,by show k.1.size≤100;omega,(by decide:Sg.blow.size≤100),(by decide:Sg.bhigh.size≤100),by show _≤z - 2;omega,by show z - 2≤_;omega⟩
 | most i hi z _ _ _ =>
  have hb:=hk.bd _ (List.getElem_mem hi)
  unfold Sg.FBd at hb
  exact ⟨by rw [ByteArray.size_append];have:Sg.bmost.size=4:=rfl;omega,by show k.1.size≤100;omega,(by decide:Sg.bsz.size≤100),(by decide:Sg.be.size≤100),by show _≤Sc.lo (Sc.flds k)[i]+z;omega,by show Sc.lo (Sc.flds k)[i]+z≤_;omega⟩
 | least i hi z _ _ _ =>
  have hb:=hk.bd _ (List.getElem_mem hi)
  unfold Sg.FBd at hb
  exact ⟨by rw [ByteArray.size_append];have:Sg.bleast.size=5:=rfl;omega,by show k.1.size≤100;omega,(by decide:Sg.be.size≤100),(by decide:Sg.bsz.size≤100),by show _≤z - Sc.hi (Sc.flds k)[i];omega,by show z - Sc.hi (Sc.flds k)[i]≤_;omega⟩
theorem rule_rep {G:List Nat} {w:World} {k:Knd} {r:Rul} {b:Bool} (h:Sg.Rule k r b) (hk:Sg.KOk k):Mem.rep G w r (rulCells r).toList:=by
 obtain ⟨h1,h2,h3,h4,h5,h6⟩:=rule_bd h hk
 exact ⟨[_],_,rfl,⟨rfl,by omega⟩,[_],_,rfl,⟨rfl,by omega⟩,[_],_,rfl,⟨rfl,by omega⟩,[_],_,rfl,⟨rfl,by omega⟩,⟨rfl,by unfold inI;omega⟩⟩
namespace Sx
def Reads' {α:Type} (r:List Tok→Res α) (ts:List Txt) (a:α) (C:List Txt→Prop):Prop:=∀ l rest,C rest→l.map Prod.fst=ts++rest→∃ l',r l=.ok a l'∧l'.map Prod.fst=rest
abbrev Any:List Txt→Prop:=fun _=>True
theorem reads_bind {α β:Type} {r:List Tok→Res α} {f:α→List Tok→Res β} {ts us:List Txt} {a:α} {b:β} {C C1:List Txt→Prop} (h:Reads' r ts a C1) (k:Reads' (f a) us b C) (hC:∀ rest,C rest→C1 (us++rest)):Reads' (fun l=>(r l).bind f) (ts++us) b C:=by
 intro l rest hr hl
 rw [List.append_assoc] at hl
 obtain ⟨l',e1,e2⟩:=h l (us++rest) (hC rest hr) hl
 obtain ⟨l2,e3,e4⟩:=k l' rest hr e2
 exact ⟨l2,by show (r l).bind f=_;rw [e1];exact e3,e4⟩
theorem reads_ret {β:Type} {b:β} {C:List Txt→Prop}:Reads' (fun l=>.ok b l) [] b C:=fun l rest _ hl=>⟨l,rfl,by simpa using hl⟩
theorem reads_next {right:Txt→Bool} {t:Txt} {C:List Txt→Prop} (h:right t=true):Reads' (next right) [t] t C:=by
 intro l rest _ hl
 cases l with
 | nil=>simp at hl
 | cons u l =>
  simp only [List.map_cons,List.cons_append,List.nil_append] at hl
  injection hl with h1 h2
  refine ⟨l,?_,h2⟩
  show (if right u.1=true then Res.ok u.1 l else Res.bad (u::l))=_
  rw [h1,if_pos h]
theorem reads_need {w:Txt} {C:List Txt→Prop}:Reads' (need w) [w] () C :=
 reads_bind (us:=[]) (C1:=Any) (reads_next (by simp)) reads_ret (fun _ _=>trivial)
theorem reads_number {n:Int} {C:List Txt→Prop} (h:n.natAbs < 1000000000):Reads' number [num n] n C:=by
 obtain ⟨h1,h2⟩:=numB_num n h
 have:=reads_bind (us:=[]) (C1:=Any) (C:=C) (f:=fun t l=>Res.ok (numV t) l) (reads_next h1) reads_ret (fun _ _=>trivial)
 rw [h2] at this
 exact this
theorem reads_count {n:Nat} {C:List Txt→Prop} (h1:1≤n) (h2:n≤12):Reads' count [num n] n C:=by
 obtain ⟨k1,k2⟩:=numB_num n (by omega)
 have hr:(numB (num n) && within (numV (num n)) 1 12)=true:=by
  rw [k1,k2];simp [within];omega
 have:=reads_bind (us:=[]) (C1:=Any) (C:=C) (f:=fun t l=>Res.ok (numV t).toNat l) (reads_next (right:=fun t=>numB t && within (numV t) 1 12) hr) reads_ret (fun _ _=>trivial)
 rw [k2,Int.toNat_natCast] at this
 exact this
theorem reads_name {s:ByteArray} {C:List Txt→Prop} (h:nm s=true):Reads' name [bs s] (bs s) C:=reads_next h
theorem of_bs (s:ByteArray):ofT (bs s)=s:=by cases s;simp [ofT,bs]
theorem em_eq {s:ByteArray} (h:em s=true):s=ofT []:=by
 unfold em at h
 have h:=of_decide_eq_true h
 cases s with
 | mk d =>
  have:d=#[]:=Array.eq_empty_of_size_eq_zero h
  rw [this];rfl
theorem name_not {t:Txt} (h:nameB t=true):(t == [45])=false:=by
 cases ht:t == [45] with
 | false=>rfl
 | true =>
  rw [beq_iff_eq.1 ht] at h
  exact absurd h (by decide)
theorem reads_names {s:ByteArray} {C:List Txt→Prop} (h:(em s || nm s)=true):∃ t,Reads' names [orNone s] t C∧ofT t=s:=by
 unfold orNone
 by_cases he:em s=true
 ·rw [if_pos he]
  refine ⟨[],?_,(em_eq he).symm⟩
  exact reads_bind (us:=[]) (C1:=Any) (f:=fun t l=>Res.ok (if t == [45] then [] else t) l) (reads_next (t:=[45]) (by decide)) reads_ret (fun _ _=>trivial)
 ·rw [if_neg he]
  have hn:nm s=true:=by
   rw [Bool.or_eq_true] at h;exact h.resolve_left he
  refine ⟨bs s,?_,of_bs s⟩
  have:=reads_bind (us:=[]) (C1:=Any) (C:=C) (f:=fun t l=>Res.ok (if t == [45] then [] else t) l) (reads_next (right:=fun t=>nameB t || t == [45]) (t:=bs s) (by rw [show nameB (bs s)=true from hn];rfl)) reads_ret (fun _ _=>trivial)
  have e:(bs s == ([45]:Txt))=false:=name_not hn
  simp only [e] at this
  exact this
theorem reads_cast {α:Type} {r:List Tok→Res α} {ts us:List Txt} {a b:α} {C:List Txt→Prop} (h:Reads' r ts a C) (ht:ts=us) (ha:a=b):Reads' r us b C:=by subst ht ha;exact h
theorem within_abs {n a b:Int} (h:within n a b=true) (ha:-100000000≤a) (hb:b≤100000000):n.natAbs < 1000000000:=by
 simp only [within,Bool.and_eq_true,decide_eq_true_eq] at h
 omega
theorem span_abs {x y a b:Int} (h:span x y a b=true) (ha:-100000000≤a) (hb:b≤100000000):x.natAbs < 1000000000∧y.natAbs < 1000000000:=by
 simp only [span,Bool.and_eq_true,decide_eq_true_eq] at h
 omega
theorem reads_picks {C:List Txt→Prop}:∀ (ws:List ByteArray) (ns:List Int) (w0:List ByteArray) (n0:List Int),ws.length=ns.length→ws.all nm=true→(ns.all fun n=>within n 0 most)=true →
  Reads' (picks ws.length w0 n0) (picksT ws ns) (w0++ws,n0++ns) C
 | [],[],w0,n0,_,_,_=>by
  rw [List.append_nil,List.append_nil]
  exact reads_ret
 | w::ws,n::ns,w0,n0,hl,hw,hn=>by
  rw [List.all_cons,Bool.and_eq_true] at hw hn
  have ih:=reads_picks (C:=C) ws ns (w0++[w]) (n0++[n]) (by simpa using hl) hw.2 hn.2
  have h2:=reads_bind (C1:=Any) (f:=fun v l=>picks ws.length (w0++[ofT (bs w)]) (n0++[v]) l) (reads_number (within_abs hn.1 (by decide) (by decide))) (by rw [of_bs];exact ih) (fun _ _=>trivial)
  have h1:=reads_bind (C1:=Any) (f:=fun w l=>(number l).bind fun v l=>picks ws.length (w0++[ofT w]) (n0++[v]) l) (reads_name hw.1) h2 (fun _ _=>trivial)
  exact reads_cast h1 (by simp [picksT]) (by simp)
 | [],_::_,_,_,h,_,_=>by simp at h
 | _::_,[],_,_,h,_,_=>by simp at h
theorem reads_states {C:List Txt→Prop}:∀ (ws:List ByteArray) (w0:List ByteArray),ws.all nm=true→Reads' (states ws.length w0) (ws.map bs) (w0++ws) C
 | [],w0,_=>by
  rw [List.append_nil]
  exact reads_ret
 | w::ws,w0,hw=>by
  rw [List.all_cons,Bool.and_eq_true] at hw
  have ih:=reads_states (C:=C) ws (w0++[w]) hw.2
  have h1:=reads_bind (C1:=Any) (f:=fun w l=>states ws.length (w0++[ofT w]) l) (reads_name hw.1) (by rw [of_bs];exact ih) (fun _ _=>trivial)
  exact reads_cast h1 (by simp) (by simp)
def Stop (q:Txt→Bool) (rest:List Txt):Prop:=∀ t,rest.head?=some t→q t=false
theorem reads_many {α:Type} {begins q:Txt→Bool} {read:List Tok→Res α} {tk:α→List Txt}:∀ (xs:List α) (acc:List α) (fuel:Nat) (l:List Tok) (rest:List Txt),
  (∀ a∈xs,Reads' read (tk a) a (Stop q)∧∃ h r,tk a=h::r∧begins h=true∧q h=false)→xs.length≤fuel→Stop begins rest→Stop q rest→l.map Prod.fst=xs.flatMap tk++rest →
  ∃ l',many begins read fuel acc l=.ok (acc++xs) l'∧l'.map Prod.fst=rest
 | [],acc,0,l,rest,_,_,_,_,hl=>⟨l,by rw [List.append_nil];rfl,by simpa using hl⟩
 | [],acc,fuel+1,l,rest,_,_,hb,_,hl=>by
  rw [List.append_nil]
  simp only [List.flatMap_nil,List.nil_append] at hl
  cases l with
  | nil=>exact ⟨[],rfl,hl⟩
  | cons t l =>
   refine ⟨t::l,?_,hl⟩
   have:=hb t.1 (by rw [← hl];rfl)
   simp only [many]
   rw [if_neg (by rw [this];simp)]
 | a::xs,acc,0,l,rest,_,hf,_,_,_=>by simp at hf
 | a::xs,acc,fuel+1,l,rest,ha,hf,hb,hq,hl=>by
  obtain ⟨h1,h,r,e1,e2,e3⟩:=ha a (.head _)
  rw [List.flatMap_cons,List.append_assoc] at hl
  have hst:Stop q (xs.flatMap tk++rest):=by
   cases xs with
   | nil=>simpa using hq
   | cons b xs =>
    obtain ⟨_,h',r',k1,_,k3⟩:=ha b (.tail _ (.head _))
    intro t ht
    rw [List.flatMap_cons,k1] at ht
    simp only [List.cons_append,List.head?_cons] at ht
    injection ht with ht
    subst ht
    exact k3
  obtain ⟨l',r1,r2⟩:=h1 l _ hst hl
  cases l with
  | nil=>rw [e1] at hl;simp at hl
  | cons t l =>
   have ht:t.1=h:=by
    rw [e1,List.map_cons,List.cons_append] at hl
    injection hl
   obtain ⟨l2,s1,s2⟩:=reads_many (begins:=begins) (q:=q) (read:=read) (tk:=tk) xs (acc++[a]) fuel l' rest (fun b hb=>ha b (.tail _ hb)) (by simpa using hf) hb hq r2
   refine ⟨l2,?_,s2⟩
   simp only [many]
   rw [if_pos (by rw [ht];exact e2),r1]
   show many begins read fuel (acc++[a]) l'=_
   rw [s1,List.append_assoc];rfl
theorem flatMap_len {α:Type} {tk:α→List Txt}:∀ (xs:List α),(∀ a∈xs,tk a≠[])→xs.length≤(xs.flatMap tk).length
 | [],_=>by simp
 | a::xs,h=>by
  have:=flatMap_len xs (fun b hb=>h b (.tail _ hb))
  have h1:0 < (tk a).length:=List.length_pos_iff.2 (h a (.head _))
  rw [List.flatMap_cons,aK,List.length_cons]
  omega
theorem reads_many' {α:Type} {begins q:Txt→Bool} {read:List Tok→Res α} {tk:α→List Txt} (xs:List α) (ha:∀ a∈xs,Reads' read (tk a) a (Stop q)∧∃ h r,tk a=h::r∧begins h=true∧q h=false) :
  Reads' (fun l=>many begins read l.length [] l) (xs.flatMap tk) xs (fun rest=>Stop begins rest∧Stop q rest):=by
 intro l rest hr hl
 have hlen:xs.length≤l.length:=by
  have h1:=flatMap_len (tk:=tk) xs (fun a h=>by obtain ⟨_,h',r,e,_⟩:=ha a h;rw [e];simp)
  have h2:=congrArg List.length hl
  rw [List.length_map,aK] at h2
  omega
 obtain ⟨l',e1,e2⟩:=reads_many xs [] l.length l rest ha hlen hr.1 hr.2 hl
 exact ⟨l',by show many begins read l.length [] l=_;rw [e1,List.nil_append],e2⟩
end Sx
namespace Sx
theorem noW_eq {f:Fld} (h:noW f=true):Sc.words f=[]∧Sc.wts f=[]:=by
 simp only [noW,Bool.and_eq_true,decide_eq_true_eq] at h
 exact ⟨List.eq_nil_of_length_eq_zero h.1,List.eq_nil_of_length_eq_zero h.2⟩
section
variable {C:List Txt→Prop}
theorem r_num {β:Type} {n:Int} {f:Int→List Tok→Res β} {us:List Txt} {b:β} (h:n.natAbs < 1000000000) (k:Reads' (f n) us b C):Reads' (fun l=>(number l).bind f) (num n::us) b C :=
 reads_bind (C1:=Any) (reads_number h) k (fun _ _=>trivial)
theorem r_cnt {β:Type} {n:Nat} {f:Nat→List Tok→Res β} {us:List Txt} {b:β} (h1:1≤n) (h2:n≤12) (k:Reads' (f n) us b C):Reads' (fun l=>(count l).bind f) (num n::us) b C :=
 reads_bind (C1:=Any) (reads_count h1 h2) k (fun _ _=>trivial)
theorem r_name {β:Type} {s:ByteArray} {f:Txt→List Tok→Res β} {us:List Txt} {b:β} (h:nm s=true) (k:Reads' (f (bs s)) us b C):Reads' (fun l=>(name l).bind f) (bs s::us) b C :=
 reads_bind (C1:=Any) (reads_name h) k (fun _ _=>trivial)
theorem r_need {β:Type} {w:Txt} {f:Unit→List Tok→Res β} {us:List Txt} {b:β} (k:Reads' (f ()) us b C):Reads' (fun l=>(need w l).bind f) (w::us) b C :=
 reads_bind (C1:=Any) reads_need k (fun _ _=>trivial)
theorem r_names {β:Type} {s:ByteArray} {f:Txt→List Tok→Res β} {us:List Txt} {b:β} (h:(em s || nm s)=true) (k:∀ t,ofT t=s→Reads' (f t) us b C):Reads' (fun l=>(names l).bind f) (orNone s::us) b C:=by
 obtain ⟨t,h1,h2⟩:=reads_names (C:=Any) h
 exact reads_bind (C1:=Any) h1 (k t h2) (fun _ _=>trivial)
theorem r_ret {β:Type} {b c:β} (h:b=c):Reads' (fun l=>.ok b l) [] c C:=by subst h;exact reads_ret
end
theorem nm_orNone {s:ByteArray} (h:nm s=true):orNone s=bs s:=by
 unfold orNone
 rw [if_neg]
 intro he
 rw [em_eq he] at h
 exact absurd h (by decide)
theorem all_mem {α:Type} {p:α→Bool} {l:List α} (h:l.all p=true):∀ a∈l,p a=true:=List.all_eq_true.1 h
theorem isTok_name {s:ByteArray} (h:nm s=true):(bs s).all Vm.isTok=true∧bs s≠[]:=by
 have h:nameB (bs s)=true:=h
 simp only [nameB,Bool.and_eq_true,decide_eq_true_eq] at h
 refine ⟨List.all_eq_true.2 fun c hc=>?_,fun he=>by rw [he] at h;simp at h⟩
 have:=List.all_eq_true.1 h.2 c hc
 simp only [alnumB,letterB,Dc.isDig,Bool.or_eq_true,Bool.and_eq_true,decide_eq_true_eq] at this
 simp only [Vm.isTok,Bool.and_eq_true,decide_eq_true_eq]
 omega
theorem isTok_num (n:Int):(num n).all Vm.isTok=true∧num n≠[]:=⟨Vm.itoa_tok n,Vm.itoa_ne n⟩
theorem isTok_orNone {s:ByteArray} (h:(em s || nm s)=true):(orNone s).all Vm.isTok=true∧orNone s≠[]:=by
 unfold orNone
 split
 ·exact ⟨by decide,by simp⟩
 ·rename_i he
  rw [Bool.or_eq_true] at h
  exact isTok_name (h.resolve_left he)
def Good (l:List Txt):Prop:=∀ t∈l,t.all Vm.isTok=true∧t≠[]
theorem good_nil:Good []:=fun _ h=>by cases h
theorem good_cons {t:Txt} {l:List Txt} (h:t.all Vm.isTok=true∧t≠[]) (k:Good l):Good (t::l):=fun u hu=>by
 rcases aL hu with rfl | hu
 ·exact h
 ·exact k u hu
theorem good_app {l m:List Txt} (h:Good l) (k:Good m):Good (l++m):=fun u hu=>(List.mem_append.1 hu).elim (h u) (k u)
theorem good_flat {α:Type} {tk:α→List Txt}:∀ (l:List α),(∀ a∈l,Good (tk a))→Good (l.flatMap tk)
 | [],_=>good_nil
 | a::l,h=>by rw [List.flatMap_cons];exact good_app (h a (.head _)) (good_flat l fun b hb=>h b (.tail _ hb))
theorem good_picks:∀ (ws:List ByteArray) (ns:List Int),ws.all nm=true→Good (picksT ws ns)
 | [],_,_=>good_nil
 | _::_,[],_=>good_nil
 | w::ws,n::ns,h=>by
  rw [List.all_cons,Bool.and_eq_true] at h
  exact good_cons (isTok_name h.1) (good_cons (isTok_num n) (good_picks ws ns h.2))
theorem good_map (ws:List ByteArray) (h:ws.all nm=true):Good (ws.map bs):=fun t ht=>by
 obtain ⟨w,hw,rfl⟩:=List.mem_map.1 ht
 exact isTok_name (all_mem h w hw)
theorem reads_field1 {f:Fld} {C:List Txt→Prop} (h:fldB f=true):∃ k:Nat,Sc.kd f=(k:Int)∧k < 9∧∃ us,fldT f=wordsL.getD k []::bs (Sc.nm f)::us∧nm (Sc.nm f)=true∧Good us∧Reads' (field1 k (Sc.nm f)) us f C:=by
 obtain ⟨n,o,u,kd,lo,hi,ws,ns⟩:=f
 unfold fldB at h
 rw [Bool.and_eq_true] at h
 obtain ⟨hn,h⟩:=h
 have hn:nm n=true:=hn
 by_cases k0:kd=0
 ·rw [if_pos (show Sc.kd (n,o,u,kd,lo,hi,ws,ns)=0 from k0)] at h
  subst k0
  simp only [Bool.and_eq_true,decide_eq_true_eq] at h
  obtain ⟨h1,h2,h3,h4,h5⟩:=h
  obtain ⟨rfl,rfl⟩:ws=[]∧ns=[]:=noW_eq h4
  have e1:o=ofT []:=em_eq h1;have e2:u=ofT []:=em_eq h2
  have h3:hi=0:=h3
  subst e1 e2 h3
  refine ⟨0,rfl,by decide,[num lo],rfl,hn,good_cons (isTok_num _) good_nil,?_⟩
  exact r_num (within_abs h5 (by decide) (by decide)) (r_ret rfl)
 rw [if_neg (show ¬ Sc.kd (n,o,u,kd,lo,hi,ws,ns)=0 from k0)] at h
 by_cases k1:kd=1
 ·rw [if_pos (show Sc.kd (n,o,u,kd,lo,hi,ws,ns)=1 from k1)] at h
  subst k1
  simp only [Bool.and_eq_true] at h
  obtain ⟨h2,h4,h6,h5⟩:=h
  obtain ⟨rfl,rfl⟩:ws=[]∧ns=[]:=noW_eq h4
  have e2:u=ofT []:=em_eq h2
  subst e2
  obtain ⟨b1,b2⟩:=span_abs h5 (by decide) (by decide)
  have h6:nm o=true:=h6
  refine ⟨1,rfl,by decide,[bs o,num lo,num hi],by rw [← nm_orNone h6];rfl,hn,good_cons (isTok_name h6) (good_cons (isTok_num _) (good_cons (isTok_num _) good_nil)),?_⟩
  exact r_name h6 (r_num b1 (r_num b2 (r_ret (by rw [of_bs];rfl))))
 rw [if_neg (show ¬ Sc.kd (n,o,u,kd,lo,hi,ws,ns)=1 from k1)] at h
 by_cases k2:kd=2
 ·rw [if_pos (show Sc.kd (n,o,u,kd,lo,hi,ws,ns)=2 from k2)] at h
  subst k2
  simp only [Bool.and_eq_true] at h
  obtain ⟨h1,h2,h4,h5⟩:=h
  obtain ⟨rfl,rfl⟩:ws=[]∧ns=[]:=noW_eq h4
  have e1:o=ofT []:=em_eq h1;have e2:u=ofT []:=em_eq h2
  subst e1 e2
  obtain ⟨b1,b2⟩:=span_abs h5 (by decide) (by decide)
  refine ⟨2,rfl,by decide,[num lo,num hi],rfl,hn,good_cons (isTok_num _) (good_cons (isTok_num _) good_nil),?_⟩
  exact r_num b1 (r_num b2 (r_ret rfl))
 rw [if_neg (show ¬ Sc.kd (n,o,u,kd,lo,hi,ws,ns)=2 from k2)] at h
 by_cases k3:kd=3
 ·rw [if_pos (show Sc.kd (n,o,u,kd,lo,hi,ws,ns)=3 from k3)] at h
  subst k3
  simp only [Bool.and_eq_true,decide_eq_true_eq,pickB] at h
  obtain ⟨h1,h2,h3,h4,h5,h6,h7,h8,h9⟩:=h
  have e1:o=ofT []:=em_eq h1;have e2:u=ofT []:=em_eq h2
  have h3:lo=0:=h3
  have h4:hi=0:=h4
  subst e1 e2 h3 h4
  have h6':(1:Int)≤ws.length∧(ws.length:Int)≤12:=by
   have:=h6
   simp only [within,Bool.and_eq_true,decide_eq_true_eq] at this
   exact this
  refine ⟨3,rfl,by decide,num ws.length::picksT ws ns,rfl,hn,good_cons (isTok_num _) (good_picks ws ns h9),?_⟩
  refine r_cnt (n:=ws.length) (by omega) (by omega) ?_
  have hp:=reads_bind (C1:=Any) (C:=C) (f:=fun (p:List ByteArray × List Int) l=>Res.ok ((n,ofT [],ofT [],3,0,0,p.1,p.2):Fld) l) (us:=[]) (reads_picks (C:=Any) ws ns [] [] h7 h9 h5) (r_ret rfl) (fun _ _=>trivial)
  rw [List.append_nil] at hp
  exact hp
 rw [if_neg (show ¬ Sc.kd (n,o,u,kd,lo,hi,ws,ns)=3 from k3)] at h
 by_cases k4:kd=4
 ·rw [if_pos (show Sc.kd (n,o,u,kd,lo,hi,ws,ns)=4 from k4)] at h
  subst k4
  simp only [Bool.and_eq_true] at h
  obtain ⟨h2,h4,h6,h5⟩:=h
  obtain ⟨rfl,rfl⟩:ws=[]∧ns=[]:=noW_eq h4
  have e2:u=ofT []:=em_eq h2
  subst e2
  obtain ⟨b1,b2⟩:=span_abs h5 (by decide) (by decide)
  refine ⟨4,rfl,by decide,[orNone o,num lo,num hi],rfl,hn,good_cons (isTok_orNone h6) (good_cons (isTok_num _) (good_cons (isTok_num _) good_nil)),?_⟩
  exact r_names h6 (fun t ht=>r_num b1 (r_num b2 (r_ret (by rw [ht];rfl))))
 rw [if_neg (show ¬ Sc.kd (n,o,u,kd,lo,hi,ws,ns)=4 from k4)] at h
 by_cases k5:kd=5
 ·rw [if_pos (show Sc.kd (n,o,u,kd,lo,hi,ws,ns)=5 from k5)] at h
  subst k5
  simp only [Bool.and_eq_true] at h
  obtain ⟨h2,h4,h6,h5⟩:=h
  obtain ⟨rfl,rfl⟩:ws=[]∧ns=[]:=noW_eq h4
  have e2:u=ofT []:=em_eq h2
  subst e2
  obtain ⟨b1,b2⟩:=span_abs h5 (by decide) (by decide)
  have h6:nm o=true:=h6
  refine ⟨5,rfl,by decide,[bs o,num lo,num hi],by rw [← nm_orNone h6];rfl,hn,good_cons (isTok_name h6) (good_cons (isTok_num _) (good_cons (isTok_num _) good_nil)),?_⟩
  exact r_name h6 (r_num b1 (r_num b2 (r_ret (by rw [of_bs];rfl))))
 rw [if_neg (show ¬ Sc.kd (n,o,u,kd,lo,hi,ws,ns)=5 from k5)] at h
 by_cases k6:kd=6
 ·rw [if_pos (show Sc.kd (n,o,u,kd,lo,hi,ws,ns)=6 from k6)] at h
  subst k6
  simp only [Bool.and_eq_true,decide_eq_true_eq] at h
  obtain ⟨h2,h4,h7,h8,h6⟩:=h
  obtain ⟨rfl,rfl⟩:ws=[]∧ns=[]:=noW_eq h4
  have e2:u=ofT []:=em_eq h2
  have h7:lo=0:=h7
  have h8:hi=0:=h8
  subst e2 h7 h8
  refine ⟨6,rfl,by decide,[bs o],rfl,hn,good_cons (isTok_name h6) good_nil,?_⟩
  exact r_name h6 (r_ret (by rw [of_bs];rfl))
 rw [if_neg (show ¬ Sc.kd (n,o,u,kd,lo,hi,ws,ns)=6 from k6)] at h
 by_cases k7:kd=7
 ·rw [if_pos (show Sc.kd (n,o,u,kd,lo,hi,ws,ns)=7 from k7)] at h
  subst k7
  simp only [Bool.and_eq_true] at h
  obtain ⟨h4,h6,h7,h5⟩:=h
  obtain ⟨rfl,rfl⟩:ws=[]∧ns=[]:=noW_eq h4
  obtain ⟨b1,b2⟩:=span_abs h5 (by decide) (by decide)
  refine ⟨7,rfl,by decide,[bs u,bs o,num lo,num hi],rfl,hn,good_cons (isTok_name h7) (good_cons (isTok_name h6) (good_cons (isTok_num _) (good_cons (isTok_num _) good_nil))),?_⟩
  exact r_name h7 (r_name h6 (r_num b1 (r_num b2 (r_ret (by rw [of_bs,of_bs];rfl)))))
 rw [if_neg (show ¬ Sc.kd (n,o,u,kd,lo,hi,ws,ns)=7 from k7)] at h
 by_cases k8:kd=8
 ·rw [if_pos (show Sc.kd (n,o,u,kd,lo,hi,ws,ns)=8 from k8)] at h
  subst k8
  simp only [Bool.and_eq_true,decide_eq_true_eq] at h
  obtain ⟨h4,h9,h8,h6,h7⟩:=h
  obtain ⟨rfl,rfl⟩:ws=[]∧ns=[]:=noW_eq h4
  have h9:lo=0:=h9
  have h8:hi=0:=h8
  subst h9 h8
  refine ⟨8,rfl,by decide,[bs u,bs o],rfl,hn,good_cons (isTok_name h7) (good_cons (isTok_name h6) good_nil),?_⟩
  exact r_name h7 (r_name h6 (r_ret (by rw [of_bs,of_bs];rfl)))
 rw [if_neg (show ¬ Sc.kd (n,o,u,kd,lo,hi,ws,ns)=8 from k8)] at h
 cases h
theorem wordOf_at (k:Nat) (h:k < 9):wordOf (wordsL.getD k [])=some k:=by
 match k,h with
 | 0,_ | 1,_ | 2,_ | 3,_ | 4,_ | 5,_ | 6,_ | 7,_ | 8,_=>rfl
theorem reads_field {f:Fld} {C:List Txt→Prop} (h:fldB f=true):Reads' field (fldT f) f C∧∃ w r,fldT f=w::r∧isWord w=true:=by
 obtain ⟨k,_,hk,us,hus,hn,_,hr⟩:=reads_field1 (C:=C) h
 refine ⟨?_,_,_,hus,by unfold isWord;rw [wordOf_at k hk];rfl⟩
 rw [hus]
 intro l rest hc hl
 cases l with
 | nil=>simp at hl
 | cons t l =>
  rw [List.map_cons,List.cons_append] at hl
  injection hl with h1 h2
  obtain ⟨l',e1,e2⟩:=r_name (f:=fun nm l=>field1 k (ofT nm) l) hn (by rw [of_bs];exact hr) l rest hc h2
  refine ⟨l',?_,e2⟩
  show (match wordOf t.1 with
   | none=>Res.bad (t::l)
   | some k=>(name l).bind fun nm l=>field1 k (ofT nm) l)=_
  rw [h1,wordOf_at k hk]
  exact e1
theorem flatten_map {α:Type} {tk:α→List Txt} (l:List α):(l.map tk).flatten=l.flatMap tk:=by rw [List.flatMap_def]
theorem kndT_eq (k:Knd):(kndL k).flatten=sKind::bs k.1::num k.2.1::num k.2.2.1::(Sc.flds k).flatMap fldT:=by
 unfold kndL
 rw [List.flatten_cons,flatten_map]
 rfl
theorem reads_kind {k:Knd} (h:kndB k=true):Reads' kind (kndL k).flatten k (Stop isWord):=by
 obtain ⟨n,lo,hi,fs⟩:=k
 simp only [kndB,Bool.and_eq_true,decide_eq_true_eq] at h
 obtain ⟨h1,h2,_,h4⟩:=h
 obtain ⟨b1,b2⟩:=span_abs h2 (by decide) (by decide)
 rw [kndT_eq]
 have hm:=reads_many' (begins:=isWord) (q:=fun _=>false) (read:=field) (tk:=fldT) fs (fun f hf=>by
  obtain ⟨r1,w,r,e,hw⟩:=reads_field (C:=Stop fun _=>false) (all_mem h4 f hf)
  exact ⟨r1,w,r,e,hw,rfl⟩)
 have hb:=reads_bind (C:=Stop isWord) (f:=fun fs l=>Res.ok ((ofT (bs n),lo,hi,fs):Knd) l) (us:=[]) hm (r_ret rfl) (fun rest hr=>⟨by simpa using hr,fun _ _=>rfl⟩)
 rw [List.append_nil] at hb
 refine reads_cast (r_need (w:=sKind) (r_name h1 (r_num b1 (r_num b2 hb)))) rfl ?_
 rw [of_bs]
theorem lifT_eq (x:Lif):(lifL x).flatten=sLife::bs x.1::num x.2.1.length::(x.2.1.map bs++x.2.2.flatMap fun m=>[sMove,num m.1,num m.2]):=by
 unfold lifL
 rw [List.flatten_cons,flatten_map]
 rfl
theorem reads_move {m:Int × Int} {C:List Txt→Prop} (h1:m.1.natAbs < 1000000000) (h2:m.2.natAbs < 1000000000):Reads' move [sMove,num m.1,num m.2] m C :=
 r_need (r_num h1 (r_num h2 (r_ret rfl)))
theorem reads_life {x:Lif} (h:lifB x=true):Reads' life (lifL x).flatten x (Stop fun t=>t == sMove):=by
 obtain ⟨n,ss,ms⟩:=x
 simp only [lifB,Bool.and_eq_true,decide_eq_true_eq] at h
 obtain ⟨h1,h2,h3,_,h5⟩:=h
 have h2':=h2
 simp only [within,Bool.and_eq_true,decide_eq_true_eq] at h2'
 rw [lifT_eq]
 have hm:=reads_many' (begins:=fun t=>t == sMove) (q:=fun _=>false) (read:=move) (tk:=fun m:Int × Int=>[sMove,num m.1,num m.2]) ms (fun m hm=>by
  have hw:=all_mem h5 m hm
  simp only [within,Bool.and_eq_true,decide_eq_true_eq] at hw
  exact ⟨reads_move (by omega) (by omega),sMove,_,rfl,by decide,rfl⟩)
 have hb:=reads_bind (C:=Stop fun t=>t == sMove) (f:=fun ms l=>Res.ok ((ofT (bs n),ss,ms):Lif) l) (us:=[]) hm (r_ret rfl) (fun rest hr=>⟨by simpa using hr,fun _ _=>rfl⟩)
 rw [List.append_nil] at hb
 have hs:=reads_bind (C1:=Any) (C:=Stop fun t=>t == sMove) (f:=fun ss l=>(many (fun t=>t == sMove) move l.length [] l).bind fun ms l=>Res.ok ((ofT (bs n),ss,ms):Lif) l) (reads_states (C:=Any) ss [] h3) (by rw [List.nil_append];exact hb) (fun _ _=>trivial)
 refine reads_cast (r_need (w:=sLife) (r_name h1 (r_cnt (n:=ss.length) (by omega) (by omega) hs))) rfl ?_
 rw [of_bs]
theorem reads_rule {r:Rul} {C:List Txt→Prop} (h:rulB r=true):Reads' rule (rulL r) r C:=by
 obtain ⟨n,k,a,b,v⟩:=r
 simp only [rulB,Bool.and_eq_true] at h
 obtain ⟨h1,h2,h3,h4,_,h6⟩:=h
 exact r_need (r_name h1 (r_name h2 (r_names h3 (fun t ht=>r_names h4 (fun u hu=>r_num (within_abs h6 (by decide) (by decide)) (r_ret (by rw [of_bs,of_bs,ht,hu])))))))
theorem reads_schema {x:Sch} (h:okB x=true):Reads' schema (linesL x).flatten x (fun rest=>rest=[]):=by
 obtain ⟨v,ks,ls,rs⟩:=x
 simp only [okB,Bool.and_eq_true,decide_eq_true_eq] at h
 obtain ⟨h1,_,_,_,h5,h6,h7⟩:=h
 have e:(linesL (v,ks,ls,rs)).flatten=sSchema::num v::(ks.flatMap (fun k=>(kndL k).flatten)++(ls.flatMap (fun x=>(lifL x).flatten)++rs.flatMap rulL)):=by
  unfold linesL
  rw [List.flatten_cons,List.flatten_append,List.flatten_append,flatten_map]
  have f1:∀ {α:Type} (g:α→List (List Txt)) (l:List α),(l.flatMap g).flatten=l.flatMap fun a=>(g a).flatten:=by
   intro α g l
   induction l with
   | nil=>rfl
   | cons a l ih=>rw [List.flatMap_cons,List.flatten_append,ih,List.flatMap_cons]
  rw [f1,f1]
  rfl
 rw [e]
 have stop_rules:∀ (q:Txt→Bool) (rest:List Txt),q sRule=false→rest=[]→Stop q (rs.flatMap rulL++rest):=by
  intro q rest hq hr
  subst hr
  cases rs with
  | nil=>intro t ht;simp at ht
  | cons r rs =>
   intro t ht
   have:t=sRule:=by
    rw [List.flatMap_cons] at ht
    simpa [rulL] using ht.symm
   rw [this];exact hq
 have stop_lives:∀ (q:Txt→Bool) (rest:List Txt),q sLife=false→q sRule=false→rest=[]→Stop q (ls.flatMap (fun x=>(lifL x).flatten)++(rs.flatMap rulL++rest)):=by
  intro q rest hl hq hr
  cases ls with
  | nil=>exact stop_rules q rest hq hr
  | cons y ls =>
   intro t ht
   have:t=sLife:=by
    rw [List.flatMap_cons,lifT_eq] at ht
    simpa using ht.symm
   rw [this];exact hl
 have hrs:=reads_many' (begins:=fun t=>t == sRule) (q:=fun _=>false) (read:=rule) (tk:=rulL) rs (fun r hr=>⟨reads_rule (all_mem h7 r hr),sRule,_,rfl,by decide,rfl⟩)
 have hr2:=reads_bind (C:=fun rest=>rest=[]) (f:=fun rs l=>Res.ok ((v,ks,ls,rs):Sch) l) (us:=[]) hrs (r_ret rfl) (fun rest hr=>by subst hr;exact ⟨fun t ht=>by simp at ht,fun t ht=>rfl⟩)
 rw [List.append_nil] at hr2
 have hls:=reads_many' (begins:=fun t=>t == sLife) (q:=fun t=>t == sMove) (read:=life) (tk:=fun x=>(lifL x).flatten) ls (fun y hy=>⟨reads_life (all_mem h6 y hy),sLife,_,lifT_eq y,by decide,by decide⟩)
 have hl2:=reads_bind (C:=fun rest=>rest=[]) (f:=fun ls l=>(many (fun t=>t == sRule) rule l.length [] l).bind fun rs l=>Res.ok ((v,ks,ls,rs):Sch) l) hls hr2 (fun rest hr=>⟨stop_rules _ rest (by decide) hr,stop_rules _ rest (by decide) hr⟩)
 have hks:=reads_many' (begins:=fun t=>t == sKind) (q:=isWord) (read:=kind) (tk:=fun k=>(kndL k).flatten) ks (fun k hk=>⟨reads_kind (all_mem h5 k hk),sKind,_,kndT_eq k,by decide,by decide⟩)
 have hk2:=reads_bind (C:=fun rest=>rest=[]) (f:=fun ks l=>(many (fun t=>t == sLife) life l.length [] l).bind fun ls l=>(many (fun t=>t == sRule) rule l.length [] l).bind fun rs l=>Res.ok ((v,ks,ls,rs):Sch) l) hks hl2 (fun rest hr=>by rw [List.append_assoc];exact ⟨stop_lives _ rest (by decide) (by decide) hr,stop_lives _ rest (by decide) (by decide) hr⟩)
 exact r_need (r_num (within_abs h1 (by decide) (by decide)) hk2)
theorem good_word (k:Nat) (h:k < 9):(wordsL.getD k []).all Vm.isTok=true∧wordsL.getD k []≠[]:=by
 match k,h with
 | 0,_ | 1,_ | 2,_ | 3,_ | 4,_ | 5,_ | 6,_ | 7,_ | 8,_=>exact ⟨by decide,by decide⟩
theorem good_fld {f:Fld} (h:fldB f=true):Good (fldT f):=by
 obtain ⟨k,_,hk,us,hus,hn,hg,_⟩:=reads_field1 (C:=Any) h
 rw [hus]
 exact good_cons (good_word k hk) (good_cons (isTok_name hn) hg)
theorem good_lines {x:Sch} (h:okB x=true):Good (linesL x).flatten:=by
 obtain ⟨v,ks,ls,rs⟩:=x
 simp only [okB,Bool.and_eq_true,decide_eq_true_eq] at h
 obtain ⟨_,_,_,_,h5,h6,h7⟩:=h
 unfold linesL
 rw [List.flatten_cons,List.flatten_append,List.flatten_append,flatten_map]
 have f1:∀ {α:Type} (g:α→List (List Txt)) (l:List α),(l.flatMap g).flatten=l.flatMap fun a=>(g a).flatten:=by
  intro α g l
  induction l with
  | nil=>rfl
  | cons a l ih=>rw [List.flatMap_cons,List.flatten_append,ih,List.flatMap_cons]
 rw [f1,f1]
 refine good_app (good_cons ⟨by decide,by decide⟩ (good_cons (isTok_num _) good_nil)) (good_app (good_flat _ fun k hk=>?_) (good_app (good_flat _ fun y hy=>?_) (good_flat _ fun r hr=>?_)))
 ·have hb:=all_mem h5 k hk
  simp only [kndB,Bool.and_eq_true,decide_eq_true_eq] at hb
  rw [kndT_eq]
  exact good_cons ⟨by decide,by decide⟩ (good_cons (isTok_name hb.1) (good_cons (isTok_num _) (good_cons (isTok_num _) (good_flat _ fun f hf=>good_fld (all_mem hb.2.2.2 f hf)))))
 ·have hb:=all_mem h6 y hy
  simp only [lifB,Bool.and_eq_true,decide_eq_true_eq] at hb
  rw [lifT_eq]
  exact good_cons ⟨by decide,by decide⟩ (good_cons (isTok_name hb.1) (good_cons (isTok_num _) (good_app (good_map _ hb.2.2.1) (good_flat _ fun m _=>good_cons ⟨by decide,by decide⟩ (good_cons (isTok_num _) (good_cons (isTok_num _) good_nil))))))
 ·have hb:=all_mem h7 r hr
  simp only [rulB,Bool.and_eq_true] at hb
  exact good_cons ⟨by decide,by decide⟩ (good_cons (isTok_name hb.1) (good_cons (isTok_name hb.2.1) (good_cons (isTok_orNone hb.2.2.1) (good_cons (isTok_orNone hb.2.2.2.1) (good_cons (isTok_num _) good_nil)))))
theorem lines_ne (x:Sch):∀ m∈(linesL x).tail,m≠[]:=by
 intro m hm
 simp only [linesL,List.tail_cons,List.mem_append,List.mem_flatMap,List.mem_map] at hm
 rcases hm with ⟨k,_,hk⟩ | ⟨y,_,hy⟩ | ⟨r,_,rfl⟩
 ·simp only [kndL,List.mem_cons,List.mem_map] at hk
  rcases hk with rfl | ⟨f,_,rfl⟩
  ·simp
  ·unfold fldT
   repeat' split
   all_goals simp
 ·simp only [lifL,List.mem_cons,List.mem_map] at hy
  rcases hy with rfl | ⟨q,_,rfl⟩ <;> simp
 ·simp [rulL]
theorem valid_ok {x:Sch} (h:valid x=0):okB x=true∧(source x).length≤8192:=by
 unfold valid at h
 by_cases ho:okB x=true
 ·rw [if_pos ho] at h
  by_cases hl:8192 < (source x).length
  ·rw [if_pos hl] at h;cases h
  ·exact ⟨ho,by omega⟩
 ·rw [if_neg ho] at h;cases h
theorem parse_toks {x:Sch} {s:Txt} (h:valid x=0) (hl:s.length≤8192) (ht:(toks s).map Prod.fst=(linesL x).flatten) (hs:stopAt s=s.length):parse s=(x,0,0):=by
 obtain ⟨ho,_⟩:=valid_ok h
 obtain ⟨l',e1,e2⟩:=reads_schema ho (toks s) [] rfl (by rw [ht,List.append_nil])
 have e3:l'=[]:=List.map_eq_nil_iff.1 e2
 subst e3
 unfold parse
 rw [if_neg (by omega),e1]
 show (if stopAt s < s.length then _ else if valid x=0 then (x,(0:Int),(0:Int)) else _)=_
 rw [if_neg (by omega),if_pos h]
theorem parse_print {x:Sch} (h:valid x=0):parse (print x)=(x,0,0):=by
 obtain ⟨ho,hl⟩:=valid_ok h
 have hp:print x=source x:=by unfold print;rw [if_pos h]
 rw [hp]
 obtain ⟨l,ls,e⟩:∃ l ls,linesL x=l::ls:=⟨_,_,rfl⟩
 have hne:l≠[]:=by
  have:l=[sSchema,num x.1]:=by
   unfold linesL at e
   injection e with e _
   exact e.symm
  rw [this];simp
 obtain ⟨t1,t2⟩:=toks_lines l ls hne (fun m hm=>lines_ne x m (by rw [e];exact hm)) (by rw [← e];exact good_lines ho)
 have hsrc:source x=(l::ls).flatMap lineT:=by unfold source;rw [e]
 rw [← hsrc] at t1 t2
 exact parse_toks h hl (by rw [t1,e]) t2
theorem parse_valid {s:Txt} {x:Sch} {k:Int} (h:parse s=(x,k,0)):valid x=0∧k=0:=by
 unfold parse at h
 split at h
 ·injection h with _ h;injection h with _ h;cases h
 ·split at h
  ·injection h with _ h;injection h with _ h;cases h
  ·injection h with _ h;injection h with _ h;cases h
  ·split at h
   ·injection h with _ h;injection h with _ h;cases h
   ·split at h
    ·rename_i hv
     injection h with h1 h2;injection h2 with h2 _
     subst h1 h2
     exact ⟨hv,rfl⟩
    ·injection h with _ h;injection h with _ h;cases h
  ·injection h with _ h;injection h with _ h;cases h
end Sx
namespace Sx
structure Loc {α:Type} (p:List Tok→Res α):Prop where
 ok:∀ l a m,p l=.ok a m→∃ c,l=c++m∧∀ d,d <+: m→p (c++d)=.ok a d
 bad:∀ l m,p l=.bad m→∃ c,l=c++m∧(p c=.bad []∨∃ a,p c=.ok a [])
theorem loc_nil {α:Type} {p:List Tok→Res α} (h:Loc p):p []=.bad []∨∃ a,p []=.ok a []:=by
 cases hp:p [] with
 | ok a m =>
  obtain ⟨c,e,_⟩:=h.ok [] a m hp
  have:m=[]:=(List.append_eq_nil_iff.1 e.symm).2
  subst this
  exact .inr ⟨a,rfl⟩
 | bad m =>
  obtain ⟨c,e,_⟩:=h.bad [] m hp
  have:m=[]:=(List.append_eq_nil_iff.1 e.symm).2
  subst this
  exact .inl rfl
theorem loc_next (right:Txt→Bool):Loc (next right):=by
 refine ⟨fun l a m h=>?_,fun l m h=>?_⟩
 ·cases l with
  | nil=>cases h
  | cons t l =>
   have h:(if right t.1=true then Res.ok t.1 l else Res.bad (t::l))=.ok a m:=h
   by_cases hr:right t.1=true
   ·rw [if_pos hr] at h
    injection h with h1 h2
    subst h1 h2
    refine ⟨[t],rfl,fun d _=>?_⟩
    show (if right t.1=true then Res.ok t.1 d else Res.bad (t::d))=_
    rw [if_pos hr]
   ·rw [if_neg hr] at h;cases h
 ·cases l with
  | nil =>
   have h:Res.bad []=Res.bad m:=h
   injection h with h
   subst h
   exact ⟨[],rfl,.inl rfl⟩
  | cons t l =>
   have h:(if right t.1=true then Res.ok t.1 l else Res.bad (t::l))=.bad m:=h
   by_cases hr:right t.1=true
   ·rw [if_pos hr] at h;cases h
   ·rw [if_neg hr] at h
    injection h with h
    subst h
    exact ⟨[],rfl,.inl rfl⟩
theorem loc_ret {α:Type} (a:α):Loc (fun l=>Res.ok a l) :=
 ⟨fun l b m h=>by injection h with h1 h2;subst h1 h2;exact ⟨[],rfl,fun d _=>rfl⟩,fun l m h=>by cases h⟩
theorem loc_bind {α β:Type} {p:List Tok→Res α} {f:α→List Tok→Res β} (h:Loc p) (k:∀ a,Loc (f a)):Loc (fun l=>(p l).bind f):=by
 refine ⟨fun l b m hb=>?_,fun l m hb=>?_⟩
 ·have hb:(p l).bind f=.ok b m:=hb
  cases hp:p l with
  | bad l1=>rw [hp] at hb;cases hb
  | ok a l1 =>
   rw [hp] at hb
   have hb:f a l1=.ok b m:=hb
   obtain ⟨c1,e1,g1⟩:=h.ok l a l1 hp
   obtain ⟨c2,e2,g2⟩:=(k a).ok l1 b m hb
   refine ⟨c1++c2,by rw [e1,e2,List.append_assoc],fun d hd=>?_⟩
   show (p (c1++c2++d)).bind f=_
   rw [List.append_assoc,g1 (c2++d) (by rw [e2];exact (List.prefix_append_right_inj _).2 hd)]
   exact g2 d hd
 ·have hb:(p l).bind f=.bad m:=hb
  cases hp:p l with
  | bad l1 =>
   rw [hp] at hb
   have hb:Res.bad l1=(Res.bad m:Res β):=hb
   injection hb with hb
   subst hb
   obtain ⟨c,e,g⟩:=h.bad l l1 hp
   refine ⟨c,e,?_⟩
   rcases g with g | ⟨a,g⟩
   ·exact .inl (by show (p c).bind f=_;rw [g];rfl)
   ·rcases loc_nil (k a) with g2 | ⟨b,g2⟩
    ·exact .inl (by show (p c).bind f=_;rw [g];exact g2)
    ·exact .inr ⟨b,by show (p c).bind f=_;rw [g];exact g2⟩
  | ok a l1 =>
   rw [hp] at hb
   have hb:f a l1=.bad m:=hb
   obtain ⟨c1,e1,g1⟩:=h.ok l a l1 hp
   obtain ⟨c2,e2,g2⟩:=(k a).bad l1 m hb
   refine ⟨c1++c2,by rw [e1,e2,List.append_assoc],?_⟩
   have hc:=g1 c2 (by rw [e2];exact List.prefix_append _ _)
   rcases g2 with g2 | ⟨b,g2⟩
   ·exact .inl (by show (p (c1++c2)).bind f=_;rw [hc];exact g2)
   ·exact .inr ⟨b,by show (p (c1++c2)).bind f=_;rw [hc];exact g2⟩
def Eats {α:Type} (p:List Tok→Res α):Prop:=∀ l a m,p l=.ok a m→m.length < l.length
theorem loc_len {α:Type} {p:List Tok→Res α} (h:Loc p) {l m:List Tok} {a:α} (hp:p l=.ok a m):m.length≤l.length:=by
 obtain ⟨c,e,_⟩:=h.ok l a m hp
 rw [e,aK];omega
theorem eats_next (right:Txt→Bool):Eats (next right):=by
 intro l a m h
 cases l with
 | nil=>cases h
 | cons t l =>
  have h:(if right t.1=true then Res.ok t.1 l else Res.bad (t::l))=.ok a m:=h
  by_cases hr:right t.1=true
  ·rw [if_pos hr] at h
   injection h with _ h2
   subst h2
   simp
  ·rw [if_neg hr] at h;cases h
theorem eats_bind {α β:Type} {p:List Tok→Res α} {f:α→List Tok→Res β} (h:Eats p) (k:∀ a,Loc (f a)):Eats (fun l=>(p l).bind f):=by
 intro l b m hb
 have hb:(p l).bind f=.ok b m:=hb
 cases hp:p l with
 | bad l1=>rw [hp] at hb;cases hb
 | ok a l1 =>
  rw [hp] at hb
  have h1:=h l a l1 hp
  have h2:=loc_len (k a) (show f a l1=.ok b m from hb)
  omega
theorem many_loc {α:Type} {begins:Txt→Bool} {read:List Tok→Res α} (h:Loc read) (he:Eats read):∀ (n:Nat) (l:List Tok) (fuel:Nat) (acc:List α),l.length=n→l.length≤fuel →
  (∀ xs m,many begins read fuel acc l=.ok xs m→∃ c,l=c++m∧∀ d,d <+: m→∀ F,(c++d).length≤F→many begins read F acc (c++d)=.ok xs d) ∧
  (∀ m,many begins read fuel acc l=.bad m→∃ c,l=c++m∧∀ F,c.length≤F→(many begins read F acc c=.bad []∨∃ xs,many begins read F acc c=.ok xs [])):=by
 intro n
 induction n using Nat.strongRecOn with
 | _ n ih =>
  intro l fuel acc hn hf
  have mnil:∀ F,many begins read F acc []=.ok acc []:=fun F=>by cases F <;> rfl
  cases l with
  | nil =>
   rw [mnil]
   refine ⟨fun xs m hm=>?_,fun m hm=>by cases hm⟩
   injection hm with h1 h2
   subst h1 h2
   refine ⟨[],rfl,fun d hd F _=>?_⟩
   rw [List.prefix_nil.1 hd]
   exact mnil F
  | cons t l =>
   obtain ⟨fuel,rfl⟩:∃ f,fuel=f+1:=⟨fuel - 1,by simp at hf;omega⟩
   have step:∀ F u r,many begins read (F+1) acc (u::r)=if begins u.1=true then (read (u::r)).bind fun a l=>many begins read F (acc++[a]) l else .ok acc (u::r):=fun _ _ _=>rfl
   rw [step]
   by_cases hb:begins t.1=true
   ·rw [if_pos hb]
    cases hr:read (t::l) with
    | bad l1 =>
     refine ⟨fun xs m hm=>(by cases hm),fun m hm=>?_⟩
     have hm:Res.bad l1=(Res.bad m:Res (List α)):=hm
     injection hm with hm
     subst hm
     obtain ⟨c,e,g⟩:=h.bad _ _ hr
     refine ⟨c,e,fun F hF=>?_⟩
     cases c with
     | nil=>exact .inr ⟨acc,mnil F⟩
     | cons u c =>
      obtain ⟨F,rfl⟩:∃ f,F=f+1:=⟨F - 1,by simp at hF;omega⟩
      have hu:u=t:=by rw [List.cons_append] at e;injection e with e _;exact e.symm
      rw [step,hu,if_pos hb]
      rw [hu] at g
      rcases g with g | ⟨a,g⟩
      ·exact .inl (by rw [g];rfl)
      ·refine .inr ⟨acc++[a],?_⟩
       rw [g]
       show many begins read F (acc++[a]) []=_
       cases F <;> rfl
    | ok a l1 =>
     have hlt:=he _ _ _ hr
     obtain ⟨c1,e1,g1⟩:=h.ok _ _ _ hr
     obtain ⟨i1,i2⟩:=ih l1.length (by omega) l1 fuel (acc++[a]) rfl (by simp at hf hlt;omega)
     have c1ne:∃ u c',c1=u::c':=by
      cases c1 with
      | nil=>rw [List.nil_append] at e1;rw [← e1] at hlt;omega
      | cons u c'=>exact ⟨u,c',rfl⟩
     obtain ⟨u,c',rfl⟩:=c1ne
     have hu:u=t:=by rw [List.cons_append] at e1;injection e1 with e1 _;exact e1.symm
     subst hu
     refine ⟨fun xs m hm=>?_,fun m hm=>?_⟩
     ·obtain ⟨c2,e2,g2⟩:=i1 xs m hm
      refine ⟨u::c'++c2,by rw [e1,e2,List.append_assoc],fun d hd F hF=>?_⟩
      obtain ⟨F,rfl⟩:∃ f,F=f+1:=⟨F - 1,by simp at hF;omega⟩
      have hc:=g1 (c2++d) (by rw [e2];exact (List.prefix_append_right_inj _).2 hd)
      rw [List.append_assoc] at hF ⊢
      rw [List.cons_append] at hc hF ⊢
      rw [step,if_pos hb,hc]
      exact g2 d hd F (by simp at hF ⊢;omega)
     ·obtain ⟨c2,e2,g2⟩:=i2 m hm
      refine ⟨u::c'++c2,by rw [e1,e2,List.append_assoc],fun F hF=>?_⟩
      obtain ⟨F,rfl⟩:∃ f,F=f+1:=⟨F - 1,by simp at hF;omega⟩
      have hc:=g1 c2 (by rw [e2];exact List.prefix_append _ _)
      rw [List.cons_append] at hc hF ⊢
      rw [step,if_pos hb,hc]
      exact g2 F (by simp at hF;omega)
   ·rw [if_neg hb]
    refine ⟨fun xs m hm=>?_,fun m hm=>by cases hm⟩
    injection hm with h1 h2
    subst h1 h2
    refine ⟨[],rfl,fun d hd F hF=>?_⟩
    rw [List.nil_append] at hF ⊢
    cases d with
    | nil=>exact mnil F
    | cons u d =>
     obtain ⟨F,rfl⟩:∃ f,F=f+1:=⟨F - 1,by simp at hF;omega⟩
     have hu:u=t:=(List.cons_prefix_cons.1 hd).1
     subst hu
     rw [step,if_neg hb]
theorem loc_many {α:Type} {begins:Txt→Bool} {read:List Tok→Res α} (h:Loc read) (he:Eats read):Loc (fun l=>many begins read l.length [] l):=by
 refine ⟨fun l a m hm=>?_,fun l m hm=>?_⟩
 ·obtain ⟨c,e,g⟩:=(many_loc (begins:=begins) h he l.length l l.length [] rfl (Nat.le_refl _)).1 a m hm
  exact ⟨c,e,fun d hd=>g d hd _ (Nat.le_refl _)⟩
 ·obtain ⟨c,e,g⟩:=(many_loc (begins:=begins) h he l.length l l.length [] rfl (Nat.le_refl _)).2 m hm
  exact ⟨c,e,g _ (Nat.le_refl _)⟩
theorem loc_need (w:Txt):Loc (need w):=loc_bind (loc_next _) (fun _=>loc_ret _)
theorem loc_number:Loc number:=loc_bind (loc_next _) (fun _=>loc_ret _)
theorem loc_count:Loc count:=loc_bind (loc_next _) (fun _=>loc_ret _)
theorem loc_name:Loc name:=loc_next _
theorem loc_names:Loc names:=loc_bind (loc_next _) (fun _=>loc_ret _)
theorem loc_picks:∀ (n:Nat) (ws:List ByteArray) (ns:List Int),Loc (picks n ws ns)
 | 0,_,_=>loc_ret _
 | n+1,_,_=>loc_bind loc_name (fun _=>loc_bind loc_number (fun _=>loc_picks n _ _))
theorem loc_states:∀ (n:Nat) (ws:List ByteArray),Loc (states n ws)
 | 0,_=>loc_ret _
 | n+1,_=>loc_bind loc_name (fun _=>loc_states n _)
theorem loc_field1 (k:Nat) (nm:ByteArray):Loc (field1 k nm):=by
 unfold field1
 by_cases k0:k=0
 ·simp only [if_pos k0];exact loc_bind loc_number (fun _=>loc_ret _)
 simp only [if_neg k0]
 by_cases k3:k=3
 ·simp only [if_pos k3];exact loc_bind loc_count (fun _=>loc_bind (loc_picks _ _ _) (fun _=>loc_ret _))
 simp only [if_neg k3]
 by_cases k6:k=6
 ·simp only [if_pos k6];exact loc_bind loc_name (fun _=>loc_ret _)
 simp only [if_neg k6]
 by_cases k8:k=8
 ·simp only [if_pos k8];exact loc_bind loc_name (fun _=>loc_bind loc_name (fun _=>loc_ret _))
 simp only [if_neg k8]
 by_cases k7:k=7
 ·simp only [if_pos k7];exact loc_bind loc_name (fun _=>loc_bind loc_name (fun _=>loc_bind loc_number (fun _=>loc_bind loc_number (fun _=>loc_ret _))))
 simp only [if_neg k7]
 by_cases k2:k=2
 ·simp only [if_pos k2];exact loc_bind loc_number (fun _=>loc_bind loc_number (fun _=>loc_ret _))
 simp only [if_neg k2]
 by_cases k4:k=4
 ·simp only [if_pos k4];exact loc_bind loc_names (fun _=>loc_bind loc_number (fun _=>loc_bind loc_number (fun _=>loc_ret _)))
 ·simp only [if_neg k4];exact loc_bind loc_name (fun _=>loc_bind loc_number (fun _=>loc_bind loc_number (fun _=>loc_ret _)))
theorem field_eq:field=fun l=>(next isWord l).bind fun t l=>(name l).bind fun nm l=>field1 ((wordOf t).getD 0) (ofT nm) l:=by
 funext l
 cases l with
 | nil=>rfl
 | cons t l =>
  show (match wordOf t.1 with
   | none=>Res.bad (t::l)
   | some k=>(name l).bind fun nm l=>field1 k (ofT nm) l)=((if isWord t.1=true then Res.ok t.1 l else Res.bad (t::l))).bind _
  unfold isWord
  cases hw:wordOf t.1 with
  | none=>rfl
  | some k =>
   rw [if_pos (show (some k).isSome=true from rfl)]
   show _=(name l).bind fun nm l=>field1 ((wordOf t.1).getD 0) (ofT nm) l
   rw [hw];rfl
theorem loc_field:Loc field:=by rw [field_eq];exact loc_bind (loc_next _) (fun _=>loc_bind loc_name (fun _=>loc_field1 _ _))
theorem eats_field:Eats field:=by rw [field_eq];exact eats_bind (eats_next _) (fun _=>loc_bind loc_name (fun _=>loc_field1 _ _))
theorem eats_need (w:Txt):Eats (need w):=eats_bind (eats_next _) (fun _=>loc_ret _)
theorem loc_kind1:∀ _:Unit,Loc (fun l=>(name l).bind fun nm l=>(number l).bind fun lo l=>(number l).bind fun hi l=>(many isWord field l.length [] l).bind fun fs l=>Res.ok ((ofT nm,lo,hi,fs):Knd) l):=fun _ =>
 loc_bind loc_name (fun _=>loc_bind loc_number (fun _=>loc_bind loc_number (fun _=>loc_bind (loc_many loc_field eats_field) (fun _=>loc_ret _))))
theorem loc_kind:Loc kind:=loc_bind (loc_need _) loc_kind1
theorem eats_kind:Eats kind:=eats_bind (eats_need _) loc_kind1
theorem loc_move1:∀ _:Unit,Loc (fun l=>(number l).bind fun a l=>(number l).bind fun b l=>Res.ok ((a,b):Int × Int) l):=fun _=>loc_bind loc_number (fun _=>loc_bind loc_number (fun _=>loc_ret _))
theorem loc_move:Loc move:=loc_bind (loc_need _) loc_move1
theorem eats_move:Eats move:=eats_bind (eats_need _) loc_move1
theorem loc_life1:∀ _:Unit,Loc (fun l=>(name l).bind fun nm l=>(count l).bind fun n l=>(states n [] l).bind fun ss l=>(many (fun t=>t == sMove) move l.length [] l).bind fun ms l=>Res.ok ((ofT nm,ss,ms):Lif) l):=fun _ =>
 loc_bind loc_name (fun _=>loc_bind loc_count (fun _=>loc_bind (loc_states _ _) (fun _=>loc_bind (loc_many loc_move eats_move) (fun _=>loc_ret _))))
theorem loc_life:Loc life:=loc_bind (loc_need _) loc_life1
theorem eats_life:Eats life:=eats_bind (eats_need _) loc_life1
theorem loc_rule1:∀ _:Unit,Loc (fun l=>(name l).bind fun nm l=>(name l).bind fun k l=>(names l).bind fun a l=>(names l).bind fun b l=>(number l).bind fun n l=>Res.ok ((ofT nm,ofT k,ofT a,ofT b,n):Rul) l):=fun _ =>
 loc_bind loc_name (fun _=>loc_bind loc_name (fun _=>loc_bind loc_names (fun _=>loc_bind loc_names (fun _=>loc_bind loc_number (fun _=>loc_ret _)))))
theorem loc_rule:Loc rule:=loc_bind (loc_need _) loc_rule1
theorem eats_rule:Eats rule:=eats_bind (eats_need _) loc_rule1
end Sx
namespace Sg
def FG (f:Fld):Prop:=Sx.fldB f=true∧(Sc.words f).length≤3
theorem fldB0 {n:ByteArray} {lo:Int} (h:Sx.nm n=true) (hl:-1048576≤lo∧lo≤1048576):FG (n,be,be,0,lo,0,[],[]):=by
 refine ⟨?_,Nat.zero_le _⟩
 show (Sx.nm n && (true && (true && (true && (true && (decide (-1048576≤lo) && decide (lo≤1048576)))))))=true
 rw [h,decide_eq_true hl.1,decide_eq_true hl.2];rfl
theorem fldB1 {n o:ByteArray} {lo hi:Int} (h:Sx.nm n=true) (ho:Sx.nm o=true) (h1:0≤lo) (h2:lo≤hi) (h3:hi≤65536):FG (n,o,be,1,lo,hi,[],[]):=by
 refine ⟨?_,Nat.zero_le _⟩
 show (Sx.nm n && (true && (true && (Sx.nm o && (decide (0≤lo) && (decide (lo≤hi) && decide (hi≤65536)))))))=true
 rw [h,ho,decide_eq_true h1,decide_eq_true h2,decide_eq_true h3];rfl
theorem fldB2 {n:ByteArray} {lo hi:Int} (h:Sx.nm n=true) (h1:-1048576≤lo) (h2:lo≤hi) (h3:hi≤1048576):FG (n,be,be,2,lo,hi,[],[]):=by
 refine ⟨?_,Nat.zero_le _⟩
 show (Sx.nm n && (true && (true && (true && (decide (-1048576≤lo) && (decide (lo≤hi) && decide (hi≤1048576)))))))=true
 rw [h,decide_eq_true h1,decide_eq_true h2,decide_eq_true h3];rfl
theorem fldB4 {n o:ByteArray} {lo hi:Int} (h:Sx.nm n=true) (ho:(Sx.em o || Sx.nm o)=true) (h1:-1048576≤lo) (h2:lo≤hi) (h3:hi≤1048576):FG (n,o,be,4,lo,hi,[],[]):=by
 refine ⟨?_,Nat.zero_le _⟩
 show (Sx.nm n && (true && (true && ((Sx.em o || Sx.nm o) && (decide (-1048576≤lo) && (decide (lo≤hi) && decide (hi≤1048576)))))))=true
 rw [h,ho,decide_eq_true h1,decide_eq_true h2,decide_eq_true h3];rfl
theorem fldB5 {n o:ByteArray} {lo hi:Int} (h:Sx.nm n=true) (ho:Sx.nm o=true) (h1:0≤lo) (h2:lo≤hi) (h3:hi≤32):FG (n,o,be,5,lo,hi,[],[]):=by
 refine ⟨?_,Nat.zero_le _⟩
 show (Sx.nm n && (true && (true && (Sx.nm o && (decide (0≤lo) && (decide (lo≤hi) && decide (hi≤32)))))))=true
 rw [h,ho,decide_eq_true h1,decide_eq_true h2,decide_eq_true h3];rfl
theorem fldB6 {n o:ByteArray} (h:Sx.nm n=true) (ho:Sx.nm o=true):FG (n,o,be,6,0,0,[],[]):=by
 refine ⟨?_,Nat.zero_le _⟩
 show (Sx.nm n && (true && (true && (true && (true && Sx.nm o)))))=true
 rw [h,ho];rfl
theorem fldB7 {n o u:ByteArray} {lo hi:Int} (h:Sx.nm n=true) (ho:Sx.nm o=true) (hu:Sx.nm u=true) (h1:0≤lo) (h2:lo≤hi) (h3:hi≤1048576):FG (n,o,u,7,lo,hi,[],[]):=by
 refine ⟨?_,Nat.zero_le _⟩
 show (Sx.nm n && (true && (Sx.nm o && (Sx.nm u && (decide (0≤lo) && (decide (lo≤hi) && decide (hi≤1048576)))))))=true
 rw [h,ho,hu,decide_eq_true h1,decide_eq_true h2,decide_eq_true h3];rfl
theorem fldB8 {n o u:ByteArray} (h:Sx.nm n=true) (ho:Sx.nm o=true) (hu:Sx.nm u=true):FG (n,o,u,8,0,0,[],[]):=by
 refine ⟨?_,Nat.zero_le _⟩
 show (Sx.nm n && (true && (true && (true && (Sx.nm o && Sx.nm u)))))=true
 rw [h,ho,hu];rfl
theorem fldB3 {n:ByteArray} {ws:List ByteArray} {ns:List Int} (h:Sx.nm n=true) (h1:1≤ws.length) (h2:ws.length≤3) (h3:ws.length=ns.length) (h4:∀ x∈ns,0≤x∧x≤4) (h5:0 < ns.sum) (h6:ws.all Sx.nm=true):FG (n,be,be,3,0,0,ws,ns):=by
 refine ⟨?_,h2⟩
 show (Sx.nm n && (true && (true && (true && (true && Sx.pickB ws ns)))))=true
 have h7:Sx.pickB ws ns=true:=by
  unfold Sx.pickB Sx.within Sx.most
  simp only [Bool.and_eq_true,decide_eq_true_eq,List.all_eq_true]
  refine ⟨fun x hx=>?_,by omega,h3,h5,List.all_eq_true.1 h6⟩
  have:=h4 x hx
  omega
 rw [h,h7];rfl
theorem Plain.fg {fs:List Fld} (h:Plain fs):∀ f∈fs,FG f:=by
 cases h with
 | none=>intro f hf;cases hf
 | size lo d _ _ _ _=>intro f hf;simp only [List.mem_singleton] at hf;subst hf;exact fldB2 (by decide) (by omega) (by omega) (by omega)
 | tag k ws h1 h2 h3 h4 h5 =>
  intro f hf;simp only [List.mem_singleton] at hf;subst hf
  have hl:(colors.take k).length=k:=by rw [List.length_take];exact Nat.min_eq_left h2
  exact fldB3 (by decide) (by omega) (by omega) (by omega) h4 (by omega) (by rcases (show k=1∨k=2∨k=3 by omega) with rfl | rfl | rfl <;> decide)
 | born lo d lo2 d2 _ _ _ _ _ _ _ _ =>
  intro f hf
  simp only [List.mem_cons,List.not_mem_nil,or_false] at hf
  rcases hf with rfl | rfl
  ·exact fldB4 (by decide) (by decide) (by omega) (by omega) (by omega)
  ·exact fldB4 (by decide) (by decide) (by omega) (by omega) (by omega)
 | state lo d _ _ _ _=>intro f hf;simp only [List.mem_singleton] at hf;subst hf;exact fldB5 (by decide) (by decide) (by omega) (by omega) (by omega)
 | low a b c d _ _ _ _ _ _ _ _ =>
  intro f hf
  simp only [List.mem_cons,List.not_mem_nil,or_false] at hf
  rcases hf with rfl | rfl
  ·exact fldB2 (by decide) (by omega) (by omega) (by omega)
  ·exact fldB2 (by decide) (by omega) (by omega) (by omega)
structure KG (k:Knd):Prop where
 nm:Sx.nm k.1=true
 lo:0≤k.2.1
 le:k.2.1≤k.2.2.1
 fs:∀ f∈Sc.flds k,FG f
theorem FG.nm {f:Fld} (h:FG f):Sx.nm (Sc.nm f)=true:=by
 have:=h.1
 unfold Sx.fldB at this
 exact (Bool.and_eq_true_iff.1 this).1
theorem Same.fg {k:Knd} {fs:List Fld} (h:Same k fs) (hk:KG k):∀ f∈fs,FG f:=by
 cases h with
 | none=>intro f hf;cases hf
 | some c h _=>intro f hf;simp only [List.mem_singleton] at hf;subst hf;exact fldB8 (by decide) (hk.fs _ (List.getElem_mem h)).nm (by decide)
theorem KG.total {k:Knd} {nm:ByteArray} (h:KG k) (hn:Sx.nm nm=true):KG (setF k (Sc.flds k++[totalF nm])):=by
 refine ⟨h.nm,h.lo,h.le,fun f hf=>?_⟩
 rcases List.mem_append.1 (show f∈Sc.flds k++[totalF nm] from hf) with hf | hf
 ·exact h.fs f hf
 ·simp only [List.mem_singleton] at hf;subst hf;exact fldB6 (by decide) hn
theorem Part.fg {nm:ByteArray} {ks:List Knd} {tq:Nat} {h:tq < ks.length} {fs:List Fld} {ks':List Knd} (hp:Part nm ks tq h fs ks') (hn:Sx.nm nm=true) (hk:∀ k∈ks,KG k):(∀ k∈ks',KG k)∧∀ f∈fs,FG f:=by
 cases hp with
 | none=>exact ⟨hk,fun f hf=>by cases hf⟩
 | some lo d _ _ _ _ hx =>
  refine ⟨fun k hkm=>?_,fun f hf=>?_⟩
  ·rcases List.mem_or_eq_of_mem_set hkm with hkm | rfl
   ·exact hk k hkm
   ·exact (hk _ (List.getElem_mem h)).total hn
  ·simp only [List.mem_singleton] at hf;subst hf;exact fldB7 (by decide) (by decide) (by decide) (by omega) (by omega) (by omega)
theorem Body.fg {nm:ByteArray} {ks:List Knd} {fs:List Fld} {ks':List Knd} (h:Body nm ks fs ks') (hn:Sx.nm nm=true) (hk:∀ k∈ks,KG k):(∀ k∈ks',KG k)∧∀ f∈fs,FG f:=by
 cases h with
 | nil lo hlo =>
  have:=okLo_bd' hlo
  refine ⟨hk,fun f hf=>?_⟩
  simp only [List.mem_singleton] at hf;subst hf;exact fldB0 (by decide) (by omega)
 | cons _ tq h lo flo hi same part _ hlo _ _ _ _ hs hp =>
  have:=okLo_bd' hlo
  obtain ⟨p1,p2⟩:=hp.fg hn hk
  have hkt:=hk _ (List.getElem_mem h)
  refine ⟨p1,fun f hf=>?_⟩
  simp only [List.mem_append,List.mem_cons,List.not_mem_nil,or_false] at hf
  rcases hf with ((rfl | rfl) | hf) | hf
  ·exact fldB0 (by decide) (by omega)
  ·exact fldB1 (by decide) hkt.nm (by omega) (by omega) (by omega)
  ·exact hs.fg hkt f hf
  ·exact p2 f hf
theorem Kind.kg {ks:List Knd} {k:Knd} {ks':List Knd} (h:Kind ks k ks') (hk:∀ k∈ks,KG k) (hn:ks.length≤2):∀ x∈ks'++[k],KG x:=by
 obtain ⟨h1,h2,h3,h4,h5,hf⟩:=h
 have hnm:Sx.nm k.1=true:=by
  rw [h1]
  rcases (show ks.length=0∨ks.length=1∨ks.length=2 by omega) with h | h | h <;> rw [h] <;> decide
 generalize hfs:Sc.flds k=fl at hf
 cases hf with
 | mk fs ks' by_ first second hb hby hp hs =>
  obtain ⟨b1,b2⟩:=hb.fg hnm hk
  intro x hx
  rcases List.mem_append.1 hx with hx | hx
  ·exact b1 x hx
  ·simp only [List.mem_singleton] at hx
   subst hx
   refine ⟨hnm,h2,h4,fun f hf=>?_⟩
   rw [hfs] at hf
   simp only [List.mem_append] at hf
   rcases hf with ((hf | hf) | hf) | hf
   ·exact b2 f hf
   ·rcases hby with rfl | ⟨_,k0,hk0,rfl⟩
    ·cases hf
    ·simp only [List.mem_singleton] at hf
     subst hf
     exact fldB1 (by decide) (b1 k0 (List.mem_of_getElem? hk0)).nm (by decide) (by decide) (by decide)
   ·exact hp.fg f hf
   ·rcases hs with rfl | ⟨hs,_⟩
    ·cases hf
    ·exact hs.fg f hf
theorem Kinds.kg {ks:List Knd} (h:Kinds ks):ks.length≤3→∀ k∈ks,KG k:=by
 induction h with
 | nil=>intro _ k hk;cases hk
 | snoc ks k ks' h hk ih =>
  intro hl
  have h3:=hk.klen
  rw [aK,List.length_singleton] at hl
  exact hk.kg (ih (by omega)) (by omega)
theorem KG.kndB {k:Knd} (h:KG k) (hk:KOk k):Sx.kndB k=true:=by
 unfold Sx.kndB Sx.span
 have hl:(Sc.flds k).length≤10:=by rcases hk.len with h | ⟨h,_⟩ <;> omega
 have hh:=hk.hi
 have h1:=h.lo
 have h2:=h.le
 simp only [Bool.and_eq_true,decide_eq_true_eq,List.all_eq_true]
 exact ⟨h.nm,⟨by omega,by omega,by omega⟩,hl,fun f hf=>(h.fs f hf).1⟩
theorem Life.lifB {x:Lif} (h:Life x):Sx.lifB x=true∧x.2.1.length≤4∧x.2.2.length≤5:=by
 cases h with
 | mk m a b h1 h2 ha hb =>
  rcases (show m=2∨m=3∨m=4 by omega) with rfl | rfl | rfl <;> rcases ha with rfl | rfl <;> rcases hb with rfl | rfl <;> decide
theorem nm_snoc {p:ByteArray} {s:ByteArray} (hs:1≤s.size) (hp:p.size≤5) (hpn:Sx.nm p=true) (hsn:Sx.nm s=true):Sx.nm (p++s.extract 0 1)=true:=by
 obtain ⟨c,hc⟩:∃ c,(s.extract 0 1).data.toList=[c]∧Sx.alnumB c=true:=by
  have hne:0 < s.data.toList.length:=by rw [strLen];exact hs
  refine ⟨s.data.toList[0],?_,?_⟩
  ·rw [ByteArray.data_extract,Array.toList_extract,List.extract_eq_take_drop]
   generalize s.data.toList=l at hne
   cases l with
   | nil=>cases hne
   | cons a l=>rfl
  ·unfold Sx.nm Sx.nameB at hsn
   simp only [Bool.and_eq_true,List.all_eq_true] at hsn
   exact hsn.2 _ (List.getElem_mem hne)
 unfold Sx.nm Sx.nameB at hpn ⊢
 simp only [Bool.and_eq_true,decide_eq_true_eq,List.all_eq_true] at hpn ⊢
 obtain ⟨⟨⟨a1,a2⟩,a3⟩,a4⟩:=hpn
 have hl:(p++s.extract 0 1).data.toList=p.data.toList++[c]:=by rw [← hc.1];simp
 rw [hl]
 have hps:p.data.toList.length=p.size:=strLen p
 refine ⟨⟨⟨by rw [aK];omega,by rw [aK,hps];simp;omega⟩,?_⟩,fun x hx=>?_⟩
 ·cases hd:p.data.toList with
  | nil=>rw [hd] at a1;simp at a1
  | cons u l=>rw [hd] at a3;exact a3
 ·rcases List.mem_append.1 hx with hx | hx
  ·exact a4 x hx
  ·rw [List.mem_singleton] at hx;subst hx;exact hc.2
theorem Rule.rulB {k:Knd} {r:Rul} (h:Rule k r true) (hk:KG k) (ho:KOk k):Sx.rulB r=true:=by
 have mk:∀ (p a b:ByteArray) (n:Int),p.size≤5→Sx.nm p=true→(Sx.em a || Sx.nm a)=true→(Sx.em b || Sx.nm b)=true→(!(Sx.em a && Sx.em b))=true→-1048576≤n→n≤1048576→Sx.rulB (p++k.1.extract 0 1,k.1,a,b,n)=true:=by
  intro p a b n hp hpn ha hb hab h1 h2
  show (Sx.nm (p++k.1.extract 0 1) && (Sx.nm k.1 && ((Sx.em a || Sx.nm a) && ((Sx.em b || Sx.nm b) && (!(Sx.em a && Sx.em b) && (decide (-1048576≤n) && decide (n≤1048576)))))))=true
  rw [nm_snoc ho.n1 hp hpn hk.nm,hk.nm,ha,hb,hab,decide_eq_true h1,decide_eq_true h2];rfl
 generalize hb:true=tt at h
 cases h with
 | none=>cases hb
 | low z _ _ _=>exact mk _ _ _ _ (by decide) (by decide) (by decide) (by decide) (by decide) (by omega) (by omega)
 | most i hi z _ _ _ =>
  have:=ho.bd _ (List.getElem_mem hi)
  unfold FBd at this
  exact mk _ _ _ _ (by decide) (by decide) (by decide) (by decide) (by decide) (by omega) (by omega)
 | least i hi z _ _ _ =>
  have:=ho.bd _ (List.getElem_mem hi)
  unfold FBd at this
  exact mk _ _ _ _ (by decide) (by decide) (by decide) (by decide) (by decide) (by omega) (by omega)
theorem Rules.rulB {ks:List Knd} {i:Nat} {rs:List Rul} (h:Rules ks i rs) (hk:∀ k∈ks,KG k∧KOk k):rs.length≤2∧∀ r∈rs,Sx.rulB r=true:=by
 induction h with
 | nil=>exact ⟨Nat.zero_le _,fun r hr=>by cases hr⟩
 | step i hi rs r b _ hl hr ih =>
  obtain ⟨i1,i2⟩:=ih
  cases b with
  | false=>exact ⟨i1,i2⟩
  | true =>
   refine ⟨by rw [if_pos rfl,aK,List.length_singleton];omega,fun x hx=>?_⟩
   rw [if_pos rfl] at hx
   rcases List.mem_append.1 hx with hx | hx
   ·exact i2 x hx
   ·rw [List.mem_singleton] at hx;subst hx
    exact hr.rulB (hk _ (List.getElem_mem hi)).1 (hk _ (List.getElem_mem hi)).2
theorem fld_few {f:Fld} (h:FG f):(Sx.fldT f).length≤9:=by
 have hb:=Sx.fldB_bd h.1
 have hp:=(Sx.picks_short _ _ hb.w hb.n).1
 have hw:=h.2
 unfold Sx.fldT
 split
 ·exact Nat.le_of_ble_eq_true rfl
 split
 ·exact Nat.le_of_ble_eq_true rfl
 split
 ·simp only [List.length_cons];omega
 split
 ·exact Nat.le_of_ble_eq_true rfl
 split
 ·exact Nat.le_of_ble_eq_true rfl
 split
 ·exact Nat.le_of_ble_eq_true rfl
 ·exact Nat.le_of_ble_eq_true rfl
theorem Schema.valid {x:Sch} (h:Schema x):Sx.valid x=0:=by
 cases h with
 | mk ver ks lf i rs v0 v3 k1 k3 hks hlf hrs _ =>
  have hkg:=hks.kg k3
  have hko:=hks.ok k3
  obtain ⟨l1,l2,l3⟩:=hlf.lifB
  obtain ⟨r1,r2⟩:=hrs.rulB fun k hk=>⟨hkg k hk,hko k hk⟩
  have hok:Sx.okB (ver,ks,[lf],rs)=true:=by
   show (Sx.within ver 0 1048576 && (decide (ks.length≤6) && (true && (decide (rs.length≤16) && (ks.all Sx.kndB && ((Sx.lifB lf && true) && rs.all Sx.rulB))))))=true
   have e1:Sx.within ver 0 1048576=true:=by unfold Sx.within;rw [decide_eq_true v0,decide_eq_true (by omega)];rfl
   rw [e1,decide_eq_true (show ks.length≤6 by omega),decide_eq_true (show rs.length≤16 by omega),List.all_eq_true.2 fun k hk=>(hkg k hk).kndB (hko k hk),l1,List.all_eq_true.2 r2]
   rfl
  have hob:=Sx.okB_bd hok
  have hsh:=(Sx.linesL_short hob).2
  have hlen:∀ l∈Sx.linesL (ver,ks,[lf],rs),(Sx.lineT l).length≤118:=by
   intro l hl
   have h1:=Sx.lineT_le (hsh l hl).2
   have h2:l.length≤9:=by
    rcases aL hl with rfl | hl
    ·exact Nat.le_of_ble_eq_true rfl
    rcases List.mem_append.1 hl with hl | hl
    ·obtain ⟨k,hk,hl⟩:=List.mem_flatMap.1 hl
     rcases aL hl with rfl | hl
     ·exact Nat.le_of_ble_eq_true rfl
     ·obtain ⟨f,hf,rfl⟩:=List.mem_map.1 hl
      exact fld_few ((hkg k hk).fs f hf)
    rcases List.mem_append.1 hl with hl | hl
    ·obtain ⟨k,hk,hl8⟩:=List.mem_flatMap.1 hl
     clear hl
     obtain rfl:k=lf:=List.mem_singleton.1 hk
     rcases aL hl8 with rfl | hl
     ·simp only [List.length_cons,List.length_map];omega
     ·obtain ⟨m,hm,rfl⟩:=List.mem_map.1 hl
      exact Nat.le_of_ble_eq_true rfl
    ·obtain ⟨r,hr,rfl⟩:=List.mem_map.1 hl
     exact Nat.le_of_ble_eq_true rfl
   omega
  have hn:(Sx.linesL (ver,ks,[lf],rs)).length≤60:=by
   have h1:=Sx.flat_le Sx.kndL 11 fun k hk=>(Sx.kndL_short (hob.k k hk)).1
   show (_++(([lf].flatMap Sx.lifL)++rs.map Sx.rulL):List (List Sx.Txt)).length+1≤60
   rw [aK,aK,List.length_map]
   have h2:([lf].flatMap Sx.lifL).length≤6:=by
    rw [List.flatMap_cons,List.flatMap_nil,List.append_nil]
    show (lf.2.2.map _).length+1≤6
    rw [List.length_map];omega
   have h1:((Sc.kinds (ver,ks,[lf],rs)).flatMap Sx.kndL).length≤ks.length*11:=h1
   omega
  have hs:=Sx.flat_le Sx.lineT 118 hlen
  have:(Sx.linesL (ver,ks,[lf],rs)).length*118≤60*118:=Nat.mul_le_mul_right _ hn
  unfold Sx.valid
  rw [if_pos hok,if_neg (by show ¬ 8192 < ((Sx.linesL (ver,ks,[lf],rs)).flatMap Sx.lineT).length;omega)]
end Sg
end Go.Proofs.YtmplaikgbeeikaaGreatDoor
