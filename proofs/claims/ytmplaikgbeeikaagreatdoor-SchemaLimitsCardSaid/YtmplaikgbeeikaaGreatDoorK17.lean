/- Parts of the proof, joined: SxS3, W47, SxB0, SxB1, SxR0, SxR1. -/
import Derived.Test.YtmplaikgbeeikaaGreatDoorK1
import Derived.Test.YtmplaikgbeeikaaGreatDoorK2
import Derived.Test.YtmplaikgbeeikaaGreatDoorK3
import Derived.Test.YtmplaikgbeeikaaGreatDoorK6
import Derived.Test.YtmplaikgbeeikaaGreatDoorK11
import Derived.Test.YtmplaikgbeeikaaGreatDoorK15
import Derived.Test.YtmplaikgbeeikaaGreatDoorK16
import Derived.WalkLawsBesides
import Derived.Deep.RegionLaw
import Derived.Deep.CutBlock
import Derived.Laws.IdiomStrings
set_option linter.unusedVariables false
set_option linter.unusedSimpArgs false
set_option linter.unusedSectionVars false
namespace Go.Proofs.YtmplaikgbeeikaaGreatDoor
open Go Go.RowKit
namespace Sx
theorem src2_step {t S:Txt} {L:List Txt} {R:List (List Txt)} (hL:L≠[]) (h:t++10::(L::R).flatMap lineT=S):(t++10::lnJ L)++10::R.flatMap lineT=S:=by
 rw [← h,List.flatMap_cons,lnJ_end hL]
 simp
theorem src2_le {t S:Txt} {R:List (List Txt)} (h:t++10::R.flatMap lineT=S):t.length+1≤S.length:=by rw [← h,aK,List.length_cons];omega
theorem fldT_ne (f:Fld):fldT f≠[]:=by
 unfold fldT
 split
 ·exact List.cons_ne_nil _ _
 split
 ·exact List.cons_ne_nil _ _
 split
 ·exact List.cons_ne_nil _ _
 split
 ·exact List.cons_ne_nil _ _
 split
 ·exact List.cons_ne_nil _ _
 split
 ·exact List.cons_ne_nil _ _
 ·exact List.cons_ne_nil _ _
end Sx
theorem bs_size (s:ByteArray):s.data.toList.length=s.size:=strLen s
set_option maxRecDepth 100000 in
set_option maxHeartbeats 16000000 in
theorem rsource_any (x:Sch) (us:List Value) (w:World) (h:Mem.rep [] w x us) (hok:Sx.okB x=true):Calls Tryz.prog 8 #[.agg us.toArray] w fun e w'=>e=.returned (.string ⟨(Sx.source x).toArray⟩)∧Below w.heap.size w w':=by
 obtain ⟨A,c,B,d,C,e,rfl,s1,s2,s3,a1,b1,b2,b3,b4,b5,b6⟩:=rep_sch h
 have OB:=Sx.okB_bd hok
 have HOB:=aI OB
 have hx0:=OB.v
 have hnk:=OB.nk;have hnl:=OB.nl;have hnr:=OB.nr
 obtain ⟨S,hS⟩:∃ s,Sx.source x=s:=⟨_,rfl⟩
 have hSl:S.length≤1000000:=by rw [← hS];exact Sx.source_le OB
 obtain ⟨RK,hRK⟩:∃ R,x.2.2.1.flatMap Sx.lifL++x.2.2.2.map Sx.rulL=R:=⟨_,rfl⟩
 have HR:=aI (show (andS ⟨#[115,99,104,101,109,97]⟩ x.1).data.toList++10::((Sc.kinds x).flatMap Sx.kndL++RK).flatMap Sx.lineT=S by
  rw [andS_list,← hS,← hRK]
  show _=([Sx.sSchema,Sx.num x.1]::((Sc.kinds x).flatMap Sx.kndL++(x.2.2.1.flatMap Sx.lifL++x.2.2.2.map Sx.rulL))).flatMap Sx.lineT
  rw [List.flatMap_cons,Sx.lnJ_end (List.cons_ne_nil _ _)]
  simp [Sx.lnJ,Sx.sSchema])
 have HRK:=aI hRK
 have HS:=aI hS
 obtain ⟨nk,hk⟩:∃ n,(Sc.kinds x).length=n:=⟨_,rfl⟩
 obtain ⟨nl,hl⟩:∃ n,x.2.2.1.length=n:=⟨_,rfl⟩
 obtain ⟨nr,hr⟩:∃ n,x.2.2.2.length=n:=⟨_,rfl⟩
 have HNK:=aI hk;have HNL:=aI hl;have HNR:=aI hr
 rw [hk] at hnk;rw [hl] at hnl;rw [hr] at hnr
 obtain ⟨N,hN⟩:∃ n,w.heap.size=n:=⟨_,rfl⟩
 obtain ⟨W0,hW0⟩:∃ X,w.alloc (.cells #[.int .i64 x.1,.slice A nk c,.slice B nl d,.slice C nr e] 28)=X:=⟨_,rfl⟩
 have hb0:Below w.heap.size w W0:=by rw [← hW0];exact (Below.refl w.heap.size w).alloc (Nat.le_refl _) _
 have hbk:Blk W0 N 28 #[.int .i64 x.1,.slice A nk c,.slice B nl d,.slice C nr e]:=by rw [← hW0,← hN];exact Blk.new w _ _
 have TB:=aI (((((held0 W0 [] (fun _ h=>by cases h)).add (keeps_sl C x.2.2.2) (s3.keep (Chg.of_below hb0))).add (keeps_sl B x.2.2.1) (s2.keep (Chg.of_below hb0))).add (keeps_sl A (Sc.kinds x)) (s1.keep (Chg.of_below hb0))).add (P:=fun M W=>N∉M∧Blk W N 28 #[.int .i64 x.1,.slice A nk c,.slice B nl d,.slice C nr e]) (keeps_blk _ _ _) ⟨by simp,hbk⟩)
 have HB:=aI hb0
 have HW0:=aI hW0
 have HN:=aI hN
 show Calls Tryz.prog 8 #[.agg #[.int .i64 x.1,.slice A (Sc.kinds x).length c,.slice B x.2.2.1.length d,.slice C x.2.2.2.length e]] w _
 rw [hk,hl,hr]
 clear h s1 s2 s3 a1 b1 b2 b3 b4 b5 b6 hk hl hr hbk hb0 hW0 hN OB hS hRK
 have CA:=aI (fun w=>and_any ⟨#[115,99,104,101,109,97]⟩ x.1 w (by decide) (by omega))
 obtain ⟨t0,ht0⟩:∃ t,andS ⟨#[115,99,104,101,109,97]⟩ x.1=t:=⟨_,rfl⟩
 rw [ht0] at CA HR
 clear ht0
 have T:=TB
 have hbk:=(T.out.fact (.head _)).2;have z0:=hbk.cell 0;have z1:=hbk.cell 1;have z2:=hbk.cell 2;have z3:=hbk.cell 3;simp at z0 z1 z2 z3;clear hbk
 go_enter Tryz.func8,Tryz.ntmps8
 go_upto_region 1 with fail
 rw [HW0.out,HN.out]
 go_wp2_with (go_at_call 23;((with_reducible refine (CA.out _).mono ?_));rintro e w2 ⟨rfl,hb2⟩;have T1:=aI (T.out.below hb2);clear hb2 z0 z1 z2 z3)
 go_loopg [3,4] nk (fun r o i wr=>∃ (k:Nat) (t:ByteArray),k+r=nk∧i=.int .i64 k∧o=.string t∧t.data.toList++10::(((Sc.kinds x).drop k).flatMap Sx.kndL++RK).flatMap Sx.lineT=S∧Below W0.heap.size W0 wr)
 case atStart=>exact ⟨0,t0,by omega,rfl,rfl,HR.out,T1.out.bl⟩
 case round =>
  clear HR T1
  obtain ⟨k,t,hk,rfl,rfl,hacc,hT⟩:=hrel
  obtain ⟨wo,rfl⟩:∃ wo:World,wo=wr:=⟨_,rfl⟩
  obtain ⟨gq,rfl⟩:∃ g:Nat,g=gk:=⟨_,rfl⟩
  have T:=aI (TB.out.below hT)
  clear hT
  have hts:t.size≤1000000:=by have h:=Sx.src2_le hacc;rw [bs_size] at h;omega
  have hbk:=(T.out.fact (.head _)).2;have z0:=hbk.cell 0;have z1:=hbk.cell 1;have z2:=hbk.cell 2;have z3:=hbk.cell 3;simp at z0 z1 z2 z3;clear hbk
  by_cases hlt:k < nk
  ·have hkp:k < (Sc.kinds x).length:=by rw [HNK.out];exact hlt
   have k0:(0:Int)≤(k:Int):=Int.natCast_nonneg _
   have k1:(k:Int) < (nk:Int):=by omega
   have HR:=aI hacc
   rw [List.drop_eq_getElem_cons hkp,List.flatMap_cons,List.append_assoc] at HR
   have kb:=HOB.out.k _ (List.getElem_mem hkp)
   obtain ⟨b,o,F,cf,rfl,_,c0,c1,c2,c3,hsl,_⟩:=knd_at (T.out.fact (.tail _ (.head _))) k hkp
   obtain ⟨kd,hkd⟩:∃ z,(Sc.kinds x)[k]=z:=⟨_,rfl⟩
   rw [hkd] at c0 c1 c2 c3 hsl HR kb
   have HKB:=aI kb
   have hq1:=kb.nm;have hq2:=kb.lo;have hq3:=kb.hi
   obtain ⟨nf,hnf⟩:∃ n,(Sc.flds kd).length=n:=⟨_,rfl⟩
   have HNF:=aI hnf
   have hq4:=kb.n
   rw [hnf] at c3 hq4
   obtain ⟨Nk,hNk⟩:∃ n,wo.heap.size=n:=⟨_,rfl⟩
   have hbw:Blk (wo.alloc (.cells #[.string kd.1,.int .i64 kd.2.1,.int .i64 kd.2.2.1,.slice F nf cf] 49)) Nk 49 #[.string kd.1,.int .i64 kd.2.1,.int .i64 kd.2.2.1,.slice F nf cf]:=by rw [← hNk];exact Blk.new wo _ _
   have hbl:Below wo.heap.size wo (wo.alloc (.cells #[.string kd.1,.int .i64 kd.2.1,.int .i64 kd.2.2.1,.slice F nf cf] 49)):=(Below.refl wo.heap.size wo).alloc (Nat.le_refl _) _
   have HSF:=aI (show SlAt [] _ F (Sc.flds kd) from hsl.keep (Chg.of_below hbl))
   replace T:=aI (T.out.below hbl)
   have HBW:=aI hbw
   clear hnf hacc hkd kb hsl hbw hbl
   obtain ⟨o1,ho1⟩:∃ o:ByteArray,(t++⟨#[10,107,105,110,100,32]⟩++kd.1:ByteArray)=o:=⟨_,rfl⟩
   have ho1s:o1.size≤t.size+18:=by rw [← ho1];simp only [ByteArray.size_append];rw [show (⟨#[10,107,105,110,100,32]⟩:ByteArray).size=6 from rfl];omega
   have has1:=andS_size o1 kd.2.1 (by omega)
   have CA1:=aI (fun w=>and_any o1 kd.2.1 w (by omega) (by omega))
   have CA2:=aI (fun w=>and_any (andS o1 kd.2.1) kd.2.2.1 w (by omega) (by omega))
   have HTL:=aI (show (andS (andS o1 kd.2.1) kd.2.2.1).data.toList=t.data.toList++10::Sx.lnJ [Sx.sKind,Sx.bs kd.1,Sx.num kd.2.1,Sx.num kd.2.2.1] by
    rw [andS_list,andS_list,← ho1];simp [Sx.lnJ,Sx.sKind,Sx.bs])
   have HO1:=aI ho1
   clear ho1
   go_upto_region 6 with fail
   generalize wo.alloc (.cells #[.string kd.1,.int .i64 kd.2.1,.int .i64 kd.2.2.1,.slice F nf cf] 49)=w5 at *
   clear hNk c0 c1 c2 c3 z0 z1 z2 z3
   go_wp2_with fail
   apply wp_region_typed (C:=fun w'=>Below w5.heap.size w5 w') (n:=149) (m:=12) (l1:=[_,_,_,_,_,_,_,_,_,_,_,_]) (l2:=[])
   ·rfl
   ·rfl
   ·kernel_rfl
   ·rfl
   ·kernel_rfl
   ·exact ⟨rfl,rfl,rfl,Nat.le_refl _,fun _ _=>rfl⟩
   ·exact fun u u' h hb=>(by first | exact h.below hb | exact h.trans (hb.mono h.size))
   iterate 4 ((apply wpT_exact;· (intro w' hC hf;unfold Gives;have hbk:=HBW.out.below hC HBW.out.lt;have c0:=hbk.cell 0;have c1:=hbk.cell 1;have c2:=hbk.cell 2;have c3:=hbk.cell 3;simp at c0 c1 c2 c3;clear hbk;clear hf hC;go_wp2_with (fail);apply postT_val rfl (Below.refl _ _);simp only [valAt,aA,aE,aC,aD,aH];exact rfl));(try simp only [Act.put,aB,aF,aG]))
   (apply wpT_exact (c:=.string o1);· (intro w' hC hf;unfold Gives;have hbk:=HBW.out.below hC HBW.out.lt;have c0:=hbk.cell 0;have c1:=hbk.cell 1;have c2:=hbk.cell 2;have c3:=hbk.cell 3;simp at c0 c1 c2 c3;clear hbk;clear hf hC;go_wp2_with fail;apply postT_val rfl (Below.refl _ _);simp only [valAt,aA,aE,aC,aD,aH];rw [← HO1.out]));(try simp only [Act.put,aB,aF,aG])
   iterate 2 ((apply wpT_exact;· (intro w' hC hf;unfold Gives;have hbk:=HBW.out.below hC HBW.out.lt;have c0:=hbk.cell 0;have c1:=hbk.cell 1;have c2:=hbk.cell 2;have c3:=hbk.cell 3;simp at c0 c1 c2 c3;clear hbk;clear hf hC;go_wp2_with (fail);apply postT_val rfl (Below.refl _ _);simp only [valAt,aA,aE,aC,aD,aH];exact rfl));(try simp only [Act.put,aB,aF,aG]))
   (apply wpT_exact;· (intro w' hC hf;unfold Gives;clear hf hC;go_wp2_with (go_at_call 23;((with_reducible refine (CA1.out _).mono ?_));rintro e w5 ⟨rfl,hb5⟩);apply postT_val rfl (by assumption);simp only [valAt,aA,aE,aC,aD,aH];exact rfl));(try simp only [Act.put,aB,aF,aG])
   iterate 2 ((apply wpT_exact;· (intro w' hC hf;unfold Gives;have hbk:=HBW.out.below hC HBW.out.lt;have c0:=hbk.cell 0;have c1:=hbk.cell 1;have c2:=hbk.cell 2;have c3:=hbk.cell 3;simp at c0 c1 c2 c3;clear hbk;clear hf hC;go_wp2_with (fail);apply postT_val rfl (Below.refl _ _);simp only [valAt,aA,aE,aC,aD,aH];exact rfl));(try simp only [Act.put,aB,aF,aG]))
   (apply wpT_exact;· (intro w' hC hf;unfold Gives;clear hf hC;go_wp2_with (go_at_call 23;((with_reducible refine (CA2.out _).mono ?_));rintro e w5 ⟨rfl,hb5⟩);apply postT_val rfl (by assumption);simp only [valAt,aA,aE,aC,aD,aH];exact rfl));(try simp only [Act.put,aB,aF,aG])
   (apply wpT_exact;· (intro w' hC hf;unfold Gives;clear hf hC;go_wp2_with (fail);apply postT_val rfl (Below.refl _ _);simp only [valAt,aA,aE,aC,aD,aH];exact rfl));(try simp only [Act.put,aB,aF,aG])
   apply wpT_done
   intro w6 hC _
   replace T:=aI (T.out.below hC)
   have HSF6:=aI (HSF.out.keep (Chg.of_below hC))
   have HBW6:=aI (HBW.out.below hC HBW.out.lt)
   clear hC HSF HBW
   have HR1:=aI (Sx.src2_step (List.cons_ne_nil _ _) (show t.data.toList++10::([Sx.sKind,Sx.bs kd.1,Sx.num kd.2.1,Sx.num kd.2.2.1]::((Sc.flds kd).map Sx.fldT++(((Sc.kinds x).drop (k+1)).flatMap Sx.kndL++RK))).flatMap Sx.lineT=S from HR.out))
   rw [← HTL.out] at HR1
   obtain ⟨t1,ht1⟩:∃ t,andS (andS o1 kd.2.1) kd.2.2.1=t:=⟨_,rfl⟩
   rw [ht1] at HR1 ⊢
   obtain ⟨R2,hR2⟩:∃ R,((Sc.kinds x).drop (k+1)).flatMap Sx.kndL++RK=R:=⟨_,rfl⟩
   rw [hR2] at HR1
   have HR2:=aI hR2
   clear HR HTL HO1 CA1 CA2 ht1 hR2 has1 ho1s
   go_wp2_with fail
   go_loopg [3,6] nf (fun r o i wr=>∃ (j:Nat) (t:ByteArray),j+r=nf∧i=.int .i64 j∧o=.string t∧t.data.toList++10::(((Sc.flds kd).drop j).map Sx.fldT++R2).flatMap Sx.lineT=S∧Below w6.heap.size w6 wr)
   case atStart=>exact ⟨0,t1,by omega,rfl,rfl,HR1.out,Below.refl _ _⟩
   case round =>
    clear HR1
    obtain ⟨j,t,hj,rfl,rfl,hacc,hT⟩:=hrel
    obtain ⟨wi,rfl⟩:∃ wo:World,wo=wr:=⟨_,rfl⟩
    have HWI:=aI hT
    have hbk:=HBW6.out.below HWI.out HBW6.out.lt
    have z3:=hbk.cell 3
    simp at z3
    clear hT hbk
    have hts:t.size≤1000000:=by have h:=Sx.src2_le hacc;rw [bs_size] at h;omega
    by_cases hlt2:j < nf
    ·have hjp:j < (Sc.flds kd).length:=by rw [HNF.out];exact hlt2
     have j0:(0:Int)≤(j:Int):=Int.natCast_nonneg _
     have j1:(j:Int) < (nf:Int):=by omega
     have HR:=aI hacc
     rw [List.drop_eq_getElem_cons hjp,List.map_cons,List.cons_append] at HR
     have fb:=HKB.out.f _ (List.getElem_mem hjp)
     obtain ⟨b2,o2,us,rfl,_,hr,hc⟩:=(HSF6.out.keep (Chg.of_below HWI.out)).get j hjp
     obtain ⟨fd,hfd⟩:∃ z,(Sc.flds kd)[j]=z:=⟨_,rfl⟩
     rw [hfd] at HR fb hr
     have hr0:=hr
     obtain ⟨Aw,cw,Bw,dw,rfl,_⟩:=rep_fld hr0
     clear hr0
     rw [show Mem.sz Fld=8 from rfl] at hc
     have y0:wi.cell? ⟨b2,o2+j*8,none⟩=some (.string (Sc.nm fd)):=hc 0 _ rfl
     have y1:wi.cell? ⟨b2,o2+j*8+1,none⟩=some (.string (Sc.of_ fd)):=hc 1 _ rfl
     have y2:wi.cell? ⟨b2,o2+j*8+2,none⟩=some (.string (Sc.up fd)):=hc 2 _ rfl
     have y3:wi.cell? ⟨b2,o2+j*8+3,none⟩=some (.int .i64 (Sc.kd fd)):=hc 3 _ rfl
     have y4:wi.cell? ⟨b2,o2+j*8+4,none⟩=some (.int .i64 (Sc.lo fd)):=hc 4 _ rfl
     have y5:wi.cell? ⟨b2,o2+j*8+5,none⟩=some (.int .i64 (Sc.hi fd)):=hc 5 _ rfl
     have y6:wi.cell? ⟨b2,o2+j*8+6,none⟩=some (.slice Aw (Sc.words fd).length cw):=hc 6 _ rfl
     have y7:wi.cell? ⟨b2,o2+j*8+7,none⟩=some (.slice Bw (Sc.wts fd).length dw):=hc 7 _ rfl
     have CF:=aI (show Calls Tryz.prog 24 #[.agg #[.string (Sc.nm fd),.string (Sc.of_ fd),.string (Sc.up fd),.int .i64 (Sc.kd fd),.int .i64 (Sc.lo fd),.int .i64 (Sc.hi fd),.slice Aw (Sc.words fd).length cw,.slice Bw (Sc.wts fd).length dw]] wi fun e w'=>∃ t9:ByteArray,e=.returned (.string t9)∧t9.data.toList=10::Sx.lnJ (Sx.fldT fd)∧t9.size≤1000000∧Below wi.heap.size wi w' from
      (rline_any fd _ wi hr fb).mono fun e w' ⟨t9,h1,h2,h3⟩=>⟨t9,h1,h2,by
       have h4:=Sx.src2_le (Sx.src2_step (Sx.fldT_ne fd) HR.out)
       rw [aK,← h2,bs_size,bs_size] at h4
       omega,h3⟩)
     have HR1:=aI (Sx.src2_step (Sx.fldT_ne fd) HR.out)
     clear hacc hfd hr hc fb HR
     go_wp2_with (go_at_call 24;((with_reducible refine (CF.out).mono ?_));rintro e w4 ⟨t9,rfl,ht9,ht9s,hb4⟩;replace HWI:=aI (HWI.out.trans (hb4.mono HWI.out.size));have HT9:=aI ht9;clear hb4 ht9)
     go_roundg (gk - 1)
     case measure=>omega
     case rel=>exact ⟨j+1,_,by omega,by go_num,rfl,by rw [← HR1.out,← HT9.out];simp,HWI.out⟩
    ·have j1:¬ (j:Int) < (nf:Int):=by omega
     rw [List.drop_eq_nil_of_le (by rw [HNF.out];omega),List.map_nil,List.nil_append,← HR2.out] at hacc
     have HR:=aI hacc
     clear hacc
     go_wp2_with fail
     go_roundg (gq - 1)
     case measure=>omega
     case rel=>exact ⟨k+1,_,by omega,by go_num,rfl,HR.out,T.out.bl.trans (HWI.out.mono T.out.bl.size)⟩
  ·have k1:¬ (k:Int) < (nk:Int):=by omega
   rw [List.drop_eq_nil_of_le (by rw [HNK.out];omega),List.flatMap_nil,List.nil_append,← HRK.out] at hacc
   have HR:=aI hacc
   clear hacc
   obtain ⟨RR,hRR⟩:∃ R,x.2.2.2.map Sx.rulL=R:=⟨_,rfl⟩
   rw [hRR] at HR
   have HRR:=aI hRR
   clear hRR
   go_wp2_with fail
   clear z0 z1 z2 z3 k1 hlt hk
   have hTW:=T.out.bl
   have HTW:=aI hTW
   clear hTW
   go_loopg [3,7] nl (fun r o i wr=>∃ (k:Nat) (t:ByteArray),k+r=nl∧i=.int .i64 k∧o=.string t∧t.data.toList++10::((x.2.2.1.drop k).flatMap Sx.lifL++RR).flatMap Sx.lineT=S∧Below W0.heap.size W0 wr)
   case atStart=>exact ⟨0,t,by omega,rfl,rfl,HR.out,HTW.out⟩
   case round =>
    clear HR T HTW hts
    obtain ⟨k,t,hk,rfl,rfl,hacc,hT⟩:=hrel
    obtain ⟨wo,rfl⟩:∃ wo:World,wo=wr:=⟨_,rfl⟩
    obtain ⟨gq,rfl⟩:∃ g:Nat,g=gk:=⟨_,rfl⟩
    have T:=aI (TB.out.below hT)
    clear hT
    have hts:t.size≤1000000:=by have h:=Sx.src2_le hacc;rw [bs_size] at h;omega
    have hbk:=(T.out.fact (.head _)).2;have z0:=hbk.cell 0;have z1:=hbk.cell 1;have z2:=hbk.cell 2;have z3:=hbk.cell 3;simp at z0 z1 z2 z3;clear hbk
    by_cases hlt:k < nl
    ·have hkp:k < x.2.2.1.length:=by rw [HNL.out];exact hlt
     have k0:(0:Int)≤(k:Int):=Int.natCast_nonneg _
     have k1:(k:Int) < (nl:Int):=by omega
     have HR:=aI hacc
     rw [List.drop_eq_getElem_cons hkp,List.flatMap_cons,List.append_assoc] at HR
     have lb:=HOB.out.l _ (List.getElem_mem hkp)
     obtain ⟨b,o,us,rfl,_,hr,hc⟩:=(T.out.fact (.tail _ (.tail _ (.head _)))).get k hkp
     obtain ⟨ld,hld⟩:∃ z,x.2.2.1[k]=z:=⟨_,rfl⟩
     rw [hld] at HR lb hr
     obtain ⟨As,cs,Am,cm,rfl,hs1,hs2,_⟩:=rep_lif hr
     rw [show Mem.sz Lif=3 from rfl] at hc
     have c0:wo.cell? ⟨b,o+k*3,none⟩=some (.string ld.1):=hc 0 _ rfl
     have c1:wo.cell? ⟨b,o+k*3+1,none⟩=some (.slice As ld.2.1.length cs):=hc 1 _ rfl
     have c2:wo.cell? ⟨b,o+k*3+2,none⟩=some (.slice Am ld.2.2.length cm):=hc 2 _ rfl
     have HLB:=aI lb
     have hq1:=lb.nm;have hq2:=lb.n;have hq3:=lb.m
     obtain ⟨ns,hns⟩:∃ n,ld.2.1.length=n:=⟨_,rfl⟩
     obtain ⟨nm,hnm⟩:∃ n,ld.2.2.length=n:=⟨_,rfl⟩
     have HNS:=aI hns;have HNM:=aI hnm
     rw [hns] at c1 hq2;rw [hnm] at c2 hq3
     obtain ⟨Nl,hNl⟩:∃ n,wo.heap.size=n:=⟨_,rfl⟩
     have hbw:Blk (wo.alloc (.cells #[.string ld.1,.slice As ns cs,.slice Am nm cm] 55)) Nl 55 #[.string ld.1,.slice As ns cs,.slice Am nm cm]:=by rw [← hNl];exact Blk.new wo _ _
     have hbl:Below wo.heap.size wo (wo.alloc (.cells #[.string ld.1,.slice As ns cs,.slice Am nm cm] 55)):=(Below.refl wo.heap.size wo).alloc (Nat.le_refl _) _
     have HSS:=aI (show SlAt [] _ As ld.2.1 from hs1.keep (Chg.of_below hbl))
     have HSM:=aI (show SlAt [] _ Am ld.2.2 from hs2.keep (Chg.of_below hbl))
     replace T:=aI (T.out.below hbl)
     have HBW:=aI hbw
     clear hns hnm hacc hld lb hr hc hs1 hs2 hbw hbl
     obtain ⟨o1,ho1⟩:∃ o:ByteArray,(t++⟨#[10,108,105,102,101,32]⟩++ld.1:ByteArray)=o:=⟨_,rfl⟩
     have ho1s:o1.size≤t.size+18:=by rw [← ho1];simp only [ByteArray.size_append];rw [show (⟨#[10,108,105,102,101,32]⟩:ByteArray).size=6 from rfl];omega
     have has1:=andS_size o1 (ns:Int) (by omega)
     have CA1:=aI (fun w=>and_any o1 (ns:Int) w (by omega) (by omega))
     have HTL:=aI (show (andS o1 (ns:Int)).data.toList=t.data.toList++10::(Sx.sLife++32::Sx.bs ld.1++32::Sx.num (ns:Int)) by
      rw [andS_list,← ho1];simp [Sx.sLife,Sx.bs])
     have HO1:=aI ho1
     have HR0:=aI (show t.data.toList++10::((Sx.sLife::Sx.bs ld.1::Sx.num (ns:Int)::ld.2.1.map Sx.bs)::((ld.2.2.map fun m=>[Sx.sMove,Sx.num m.1,Sx.num m.2])++((x.2.2.1.drop (k+1)).flatMap Sx.lifL++RR))).flatMap Sx.lineT=S by rw [← HR.out,← HNS.out];rfl)
     clear ho1 HR
     go_upto_region 15 with fail
     generalize wo.alloc (.cells #[.string ld.1,.slice As ns cs,.slice Am nm cm] 55)=w5 at *
     clear hNl c0 c1 c2 z0 z1 z2 z3
     have hbk:=HBW.out
     have z0:=hbk.cell 0;have z1:=hbk.cell 1
     simp at z0 z1
     clear hbk
     go_upto_region 16 with (first | (rw [HO1.out];fail) | (go_at_call 23;rw [HO1.out];((with_reducible refine (CA1.out _).mono ?_));rintro e w4 ⟨rfl,hb4⟩;have HW6:=aI hb4;clear hb4 z0 z1))
     replace T:=aI (T.out.below HW6.out)
     have HSS6:=aI (HSS.out.keep (Chg.of_below HW6.out))
     have HSM6:=aI (HSM.out.keep (Chg.of_below HW6.out))
     have HBW6:=aI (HBW.out.below HW6.out HBW.out.lt)
     obtain ⟨t1,ht1⟩:∃ t,andS o1 (ns:Int)=t:=⟨_,rfl⟩
     rw [ht1] at HTL has1 ⊢
     clear HSS HSM HBW ht1 HO1 CA1 HW6
     go_wp2_with fail
     go_loopg [3,9] ns (fun r o i wr=>∃ (j:Nat) (u:ByteArray),j+r=ns∧i=.int .i64 j∧o=.string u∧u.data.toList=t1.data.toList++((ld.2.1.take j).flatMap fun s=>32::Sx.bs s)∧u.size≤1000100+13*j∧Below w4.heap.size w4 wr)
     case atStart=>exact ⟨0,t1,by omega,rfl,rfl,by simp,by omega,Below.refl _ _⟩
     case round =>
      obtain ⟨j,u,hj,rfl,rfl,hu,hus,hT⟩:=hrel
      obtain ⟨wi,rfl⟩:∃ wo:World,wo=wr:=⟨_,rfl⟩
      have HWI:=aI hT
      have HU:=aI hu
      have hbk:=HBW6.out.below HWI.out HBW6.out.lt
      have z1:=hbk.cell 1;have z2:=hbk.cell 2
      simp at z1 z2
      clear hT hbk hu
      by_cases hlt2:j < ns
      ·have hjp:j < ld.2.1.length:=by rw [HNS.out];exact hlt2
       have j0:(0:Int)≤(j:Int):=Int.natCast_nonneg _
       have j1:(j:Int) < (ns:Int):=by omega
       obtain ⟨b2,o2,rfl,_,d0,_⟩:=str_at (HSS6.out.keep (Chg.of_below HWI.out)) j hjp
       have hx:=HLB.out.s _ (List.getElem_mem hjp)
       have HX:=aI (take_snoc' ld.2.1 j hjp)
       generalize ld.2.1[j]=s0 at d0 hx HX
       obtain ⟨o3,ho3⟩:∃ o:ByteArray,(u++⟨#[32]⟩++s0:ByteArray)=o:=⟨_,rfl⟩
       have ho3s:o3.size≤u.size+13:=by rw [← ho3];simp only [ByteArray.size_append];rw [show (⟨#[32]⟩:ByteArray).size=1 from rfl];omega
       have HO3:=aI ho3
       clear ho3
       go_wp2_with fail
       rw [HO3.out]
       go_roundg (gk - 1)
       case measure=>omega
       case rel=>exact ⟨j+1,o3,by omega,by go_num,rfl,by rw [← HO3.out,HX.out,List.flatMap_append];simp [HU.out,Sx.bs],by omega,HWI.out⟩
      ·have j1:¬ (j:Int) < (ns:Int):=by omega
       rw [List.take_of_length_le (by rw [HNS.out];omega)] at HU
       have HR1:=aI (Sx.src2_step (List.cons_ne_nil _ _) HR0.out)
       rw [show t.data.toList++10::Sx.lnJ (Sx.sLife::Sx.bs ld.1::Sx.num (ns:Int)::ld.2.1.map Sx.bs)=u.data.toList by rw [HU.out,HTL.out];simp [Sx.lnJ,List.flatMap_map]] at HR1
       obtain ⟨R2,hR2⟩:∃ R,(x.2.2.1.drop (k+1)).flatMap Sx.lifL++RR=R:=⟨_,rfl⟩
       rw [hR2] at HR1
       have HR2:=aI hR2
       replace T:=aI (T.out.below HWI.out)
       have HSM7:=aI (HSM6.out.keep (Chg.of_below HWI.out))
       have HBW7:=aI (HBW6.out.below HWI.out HBW6.out.lt)
       clear hR2 HTL has1 ho1s HU HSM6 HBW6 HWI HR0 hus
       go_wp2_with fail
       clear z1 z2
       go_loopg [3,10] nm (fun r o i wr=>∃ (j:Nat) (t:ByteArray),j+r=nm∧i=.int .i64 j∧o=.string t∧t.data.toList++10::(((ld.2.2.drop j).map fun m=>[Sx.sMove,Sx.num m.1,Sx.num m.2])++R2).flatMap Sx.lineT=S∧Below wi.heap.size wi wr)
       case atStart=>exact ⟨0,u,by omega,rfl,rfl,HR1.out,Below.refl _ _⟩
       case round =>
        clear HR1
        obtain ⟨j,t,hj,rfl,rfl,hacc,hT⟩:=hrel
        obtain ⟨wm,rfl⟩:∃ wo:World,wo=wr:=⟨_,rfl⟩
        have HWI:=aI hT
        have hbk:=HBW7.out.below HWI.out HBW7.out.lt
        have z2:=hbk.cell 2
        simp at z2
        clear hT hbk
        have hts:t.size≤1000000:=by have h:=Sx.src2_le hacc;rw [bs_size] at h;omega
        by_cases hlt2:j < nm
        ·have hjp:j < ld.2.2.length:=by rw [HNM.out];exact hlt2
         have j0:(0:Int)≤(j:Int):=Int.natCast_nonneg _
         have j1:(j:Int) < (nm:Int):=by omega
         have HR:=aI hacc
         rw [List.drop_eq_getElem_cons hjp,List.map_cons,List.cons_append] at HR
         have mb:=HLB.out.v _ (List.getElem_mem hjp)
         obtain ⟨b2,o2,us,rfl,_,hr,hc⟩:=(HSM7.out.keep (Chg.of_below HWI.out)).get j hjp
         obtain ⟨md,hmd⟩:∃ z,ld.2.2[j]=z:=⟨_,rfl⟩
         rw [hmd] at HR mb hr
         obtain ⟨rfl,_⟩:=rep_mv hr
         rw [show Mem.sz (Int × Int)=2 from rfl] at hc
         have d0:wm.cell? ⟨b2,o2+j*2,none⟩=some (.int .i64 md.1):=hc 0 _ rfl
         have d1:wm.cell? ⟨b2,o2+j*2+1,none⟩=some (.int .i64 md.2):=hc 1 _ rfl
         have HD0:=aI (fun (W:World) (hb:Below wm.heap.size wm W)=>(hb.cell (World.block_lt_of_cell? _ _ d0)).trans d0)
         have HD1:=aI (fun (W:World) (hb:Below wm.heap.size wm W)=>(hb.cell (World.block_lt_of_cell? _ _ d1)).trans d1)
         have HBX:=aI (HBW7.out.below HWI.out HBW7.out.lt)
         obtain ⟨o3,ho3⟩:∃ o:ByteArray,(t++⟨#[10,109,111,118,101]⟩:ByteArray)=o:=⟨_,rfl⟩
         have ho3s:o3.size≤t.size+5:=by rw [← ho3];simp only [ByteArray.size_append];rw [show (⟨#[10,109,111,118,101]⟩:ByteArray).size=5 from rfl];omega
         have has1:=andS_size o3 md.1 (by omega)
         have CA1:=aI (fun w=>and_any o3 md.1 w (by omega) (by omega))
         have CA2:=aI (fun w=>and_any (andS o3 md.1) md.2 w (by omega) (by omega))
         have HR1:=aI (Sx.src2_step (List.cons_ne_nil _ _) HR.out)
         have HTL:=aI (show (andS (andS o3 md.1) md.2).data.toList=t.data.toList++10::Sx.lnJ [Sx.sMove,Sx.num md.1,Sx.num md.2] by
          rw [andS_list,andS_list,← ho3];simp [Sx.lnJ,Sx.sMove])
         have HO3:=aI ho3
         clear hacc hmd hr hc HR ho3
         go_wp2_with fail
         clear z2 d0 d1
         apply wp_region_typed (C:=fun w'=>Below wm.heap.size wm w') (n:=149) (m:=17) (l1:=[_,_,_,_,_,_,_,_,_,_,_,_,_,_,_,_,_]) (l2:=[])
         ·rfl
         ·rfl
         ·kernel_rfl
         ·rfl
         ·kernel_rfl
         ·exact ⟨rfl,rfl,rfl,Nat.le_refl _,fun _ _=>rfl⟩
         ·exact fun u u' h hb=>(by first | exact h.below hb | exact h.trans (hb.mono h.size))
         iterate 1 ((apply wpT_exact;· (intro w' hC hf;unfold Gives;have hbk:=HBX.out.below hC HBX.out.lt;have z2:=hbk.cell 2;simp at z2;clear hbk;have d0:=HD0.out _ hC;have d1:=HD1.out _ hC;clear hf hC;go_wp2_with (fail);apply postT_val rfl (Below.refl _ _);simp only [valAt,aA,aE,aC,aD,aH];exact rfl));(try simp only [Act.put,aB,aF,aG]))
         (apply wpT_exact (c:=.string o3);· (intro w' hC hf;unfold Gives;have hbk:=HBX.out.below hC HBX.out.lt;have z2:=hbk.cell 2;simp at z2;clear hbk;have d0:=HD0.out _ hC;have d1:=HD1.out _ hC;clear hf hC;go_wp2_with fail;apply postT_val rfl (Below.refl _ _);simp only [valAt,aA,aE,aC,aD,aH];rw [← HO3.out]));(try simp only [Act.put,aB,aF,aG])
         iterate 6 ((apply wpT_exact;· (intro w' hC hf;unfold Gives;have hbk:=HBX.out.below hC HBX.out.lt;have z2:=hbk.cell 2;simp at z2;clear hbk;have d0:=HD0.out _ hC;have d1:=HD1.out _ hC;clear hf hC;go_wp2_with (fail);apply postT_val rfl (Below.refl _ _);simp only [valAt,aA,aE,aC,aD,aH];exact rfl));(try simp only [Act.put,aB,aF,aG]))
         (apply wpT_exact;· (intro w' hC hf;unfold Gives;clear hf hC;go_wp2_with (go_at_call 23;((with_reducible refine (CA1.out _).mono ?_));rintro e w5 ⟨rfl,hb5⟩);apply postT_val rfl (by assumption);simp only [valAt,aA,aE,aC,aD,aH];exact rfl));(try simp only [Act.put,aB,aF,aG])
         iterate 6 ((apply wpT_exact;· (intro w' hC hf;unfold Gives;have hbk:=HBX.out.below hC HBX.out.lt;have z2:=hbk.cell 2;simp at z2;clear hbk;have d0:=HD0.out _ hC;have d1:=HD1.out _ hC;clear hf hC;go_wp2_with (fail);apply postT_val rfl (Below.refl _ _);simp only [valAt,aA,aE,aC,aD,aH];exact rfl));(try simp only [Act.put,aB,aF,aG]))
         (apply wpT_exact;· (intro w' hC hf;unfold Gives;clear hf hC;go_wp2_with (go_at_call 23;((with_reducible refine (CA2.out _).mono ?_));rintro e w5 ⟨rfl,hb5⟩);apply postT_val rfl (by assumption);simp only [valAt,aA,aE,aC,aD,aH];exact rfl));(try simp only [Act.put,aB,aF,aG])
         (apply wpT_exact;· (intro w' hC hf;unfold Gives;clear hf hC;go_wp2_with (fail);apply postT_val rfl (Below.refl _ _);simp only [valAt,aA,aE,aC,aD,aH];exact rfl));(try simp only [Act.put,aB,aF,aG])
         apply wpT_done
         intro w8 hC _
         replace HWI:=aI (HWI.out.trans (hC.mono HWI.out.size))
         clear hC
         rw [← HTL.out] at HR1
         generalize andS (andS o3 md.1) md.2=t4 at *
         go_wp2_with fail
         go_roundg (gk - 1)
         case measure=>omega
         case rel=>exact ⟨j+1,t4,by omega,by go_num,rfl,HR1.out,HWI.out⟩
        ·have j1:¬ (j:Int) < (nm:Int):=by omega
         rw [List.drop_eq_nil_of_le (by rw [HNM.out];omega),List.map_nil,List.nil_append,← HR2.out] at hacc
         have HR:=aI hacc
         clear hacc
         go_wp2_with fail
         go_roundg (gq - 1)
         case measure=>omega
         case rel=>exact ⟨k+1,_,by omega,by go_num,rfl,HR.out,T.out.bl.trans (HWI.out.mono T.out.bl.size)⟩
    ·have k1:¬ (k:Int) < (nl:Int):=by omega
     rw [List.drop_eq_nil_of_le (by rw [HNL.out];omega),List.flatMap_nil,List.nil_append] at hacc
     rw [← HRR.out,← List.append_nil (x.2.2.2.map Sx.rulL)] at hacc
     have HR:=aI hacc
     clear hacc
     go_wp2_with fail
     clear z0 z1 z2 z3 k1 hlt hk
     have HTW:=aI T.out.bl
     go_loopg [3,11] nr (fun r o i wr=>∃ (k:Nat) (t:ByteArray),k+r=nr∧i=.int .i64 k∧o=.string t∧t.data.toList++10::((x.2.2.2.drop k).map Sx.rulL++[]).flatMap Sx.lineT=S∧Below W0.heap.size W0 wr)
     case atStart=>exact ⟨0,t,by omega,rfl,rfl,HR.out,HTW.out⟩
     case round =>
      clear HR T HTW hts
      obtain ⟨k,t,hk,rfl,rfl,hacc,hT⟩:=hrel
      obtain ⟨wo,rfl⟩:∃ wo:World,wo=wr:=⟨_,rfl⟩
      have T:=aI (TB.out.below hT)
      clear hT
      have hts:t.size≤1000000:=by have h:=Sx.src2_le hacc;rw [bs_size] at h;omega
      have hbk:=(T.out.fact (.head _)).2;have z0:=hbk.cell 0;have z1:=hbk.cell 1;have z2:=hbk.cell 2;have z3:=hbk.cell 3;simp at z0 z1 z2 z3;clear hbk
      by_cases hlt:k < nr
      ·have hkp:k < x.2.2.2.length:=by rw [HNR.out];exact hlt
       have k0:(0:Int)≤(k:Int):=Int.natCast_nonneg _
       have k1:(k:Int) < (nr:Int):=by omega
       have HR:=aI hacc
       rw [List.drop_eq_getElem_cons hkp,List.map_cons,List.cons_append] at HR
       have rb:=HOB.out.r _ (List.getElem_mem hkp)
       obtain ⟨b,o,us,rfl,_,hr,hc⟩:=(T.out.fact (.tail _ (.tail _ (.tail _ (.head _))))).get k hkp
       obtain ⟨rd,hrd⟩:∃ z,x.2.2.2[k]=z:=⟨_,rfl⟩
       rw [hrd] at HR rb hr
       obtain ⟨rfl,_⟩:=rep_rul hr
       rw [show Mem.sz Rul=5 from rfl] at hc
       have c0:wo.cell? ⟨b,o+k*5,none⟩=some (.string rd.1):=hc 0 _ rfl
       have c1:wo.cell? ⟨b,o+k*5+1,none⟩=some (.string rd.2.1):=hc 1 _ rfl
       have c2:wo.cell? ⟨b,o+k*5+2,none⟩=some (.string rd.2.2.1):=hc 2 _ rfl
       have c3:wo.cell? ⟨b,o+k*5+3,none⟩=some (.string rd.2.2.2.1):=hc 3 _ rfl
       have c4:wo.cell? ⟨b,o+k*5+4,none⟩=some (.int .i64 rd.2.2.2.2):=hc 4 _ rfl
       obtain ⟨Nr,hNr⟩:∃ n,wo.heap.size=n:=⟨_,rfl⟩
       have hq1:=rb.nm;have hq2:=rb.k;have hq3:=rb.a;have hq4:=rb.b;have hq5:=rb.n
       have hbw:Blk (wo.alloc (.cells #[.string rd.1,.string rd.2.1,.string rd.2.2.1,.string rd.2.2.2.1,.int .i64 rd.2.2.2.2] 58)) Nr 58 #[.string rd.1,.string rd.2.1,.string rd.2.2.1,.string rd.2.2.2.1,.int .i64 rd.2.2.2.2]:=by rw [← hNr];exact Blk.new wo _ _
       replace T:=aI (T.out.below ((Below.refl wo.heap.size wo).alloc (Nat.le_refl _) (.cells #[.string rd.1,.string rd.2.1,.string rd.2.2.1,.string rd.2.2.2.1,.int .i64 rd.2.2.2.2] 58)))
       have HBW:=aI hbw
       clear hacc hrd rb hr hc hbw
       go_upto_region 28 with fail
       generalize wo.alloc (.cells #[.string rd.1,.string rd.2.1,.string rd.2.2.1,.string rd.2.2.2.1,.int .i64 rd.2.2.2.2] 58)=w5 at *
       clear hNr c0 c1 c2 c3 c4 z0 z1 z2 z3
       have CN1:=aI (fun w=>rnamed_any rd.2.2.1 w)
       have CN2:=aI (fun w=>rnamed_any rd.2.2.2.1 w)
       have hn1:(Sx.orN rd.2.2.1).size≤12:=Sx.orN_sz hq3 (by decide)
       have hn2:(Sx.orN rd.2.2.2.1).size≤12:=Sx.orN_sz hq4 (by decide)
       have HN1:=aI (Sx.orN_list rd.2.2.1)
       have HN2:=aI (Sx.orN_list rd.2.2.2.1)
       obtain ⟨n1,hn1e⟩:∃ s,Sx.orN rd.2.2.1=s:=⟨_,rfl⟩
       obtain ⟨n2,hn2e⟩:∃ s,Sx.orN rd.2.2.2.1=s:=⟨_,rfl⟩
       rw [hn1e] at CN1 hn1 HN1
       rw [hn2e] at CN2 hn2 HN2
       obtain ⟨o3,ho3⟩:∃ o:ByteArray,(t++⟨#[10,114,117,108,101,32]⟩++rd.1++⟨#[32]⟩++rd.2.1++⟨#[32]⟩:ByteArray)=o:=⟨_,rfl⟩
       have ho3s:o3.size≤t.size+40:=by rw [← ho3];simp only [ByteArray.size_append];rw [show (⟨#[10,114,117,108,101,32]⟩:ByteArray).size=6 from rfl,show (⟨#[32]⟩:ByteArray).size=1 from rfl];omega
       obtain ⟨o4,ho4⟩:∃ o:ByteArray,(o3++n1++⟨#[32]⟩++n2:ByteArray)=o:=⟨_,rfl⟩
       have ho4s:o4.size≤t.size+80:=by rw [← ho4];simp only [ByteArray.size_append];rw [show (⟨#[32]⟩:ByteArray).size=1 from rfl];omega
       have CA1:=aI (fun w=>and_any o4 rd.2.2.2.2 w (by omega) (by omega))
       have HR1:=aI (Sx.src2_step (L:=Sx.rulL rd) (List.cons_ne_nil _ _) HR.out)
       have HTL:=aI (show (andS o4 rd.2.2.2.2).data.toList=t.data.toList++10::Sx.lnJ (Sx.rulL rd) by
        rw [andS_list,← ho4,← ho3]
        show _=_++10::Sx.lnJ [Sx.sRule,Sx.bs rd.1,Sx.bs rd.2.1,Sx.orNone rd.2.2.1,Sx.orNone rd.2.2.2.1,Sx.num rd.2.2.2.2]
        rw [← HN1.out,← HN2.out]
        simp [Sx.lnJ,Sx.sRule,Sx.bs])
       have HO3:=aI ho3
       have HO4:=aI ho4
       clear hn1e hn2e ho3 ho4 HR
       go_wp2_with fail
       apply wp_region_typed (C:=fun w'=>Below w5.heap.size w5 w') (n:=149) (m:=23) (l1:=[_,_,_,_,_,_,_,_,_,_,_,_,_,_,_,_,_,_,_,_,_,_,_]) (l2:=[])
       ·rfl
       ·rfl
       ·kernel_rfl
       ·rfl
       ·kernel_rfl
       ·exact ⟨rfl,rfl,rfl,Nat.le_refl _,fun _ _=>rfl⟩
       ·exact fun u u' h hb=>(by first | exact h.below hb | exact h.trans (hb.mono h.size))
       iterate 9 ((apply wpT_exact;· (intro w' hC hf;unfold Gives;have hbk:=HBW.out.below hC HBW.out.lt;have c0:=hbk.cell 0;have c1:=hbk.cell 1;have c2:=hbk.cell 2;have c3:=hbk.cell 3;have c4:=hbk.cell 4;simp at c0 c1 c2 c3 c4;clear hbk;clear hf hC;go_wp2_with (fail);apply postT_val rfl (Below.refl _ _);simp only [valAt,aA,aE,aC,aD,aH];exact rfl));(try simp only [Act.put,aB,aF,aG]))
       (apply wpT_exact (c:=.string o3);· (intro w' hC hf;unfold Gives;have hbk:=HBW.out.below hC HBW.out.lt;have c0:=hbk.cell 0;have c1:=hbk.cell 1;have c2:=hbk.cell 2;have c3:=hbk.cell 3;have c4:=hbk.cell 4;simp at c0 c1 c2 c3 c4;clear hbk;clear hf hC;go_wp2_with fail;apply postT_val rfl (Below.refl _ _);simp only [valAt,aA,aE,aC,aD,aH];rw [← HO3.out]));(try simp only [Act.put,aB,aF,aG])
       iterate 2 ((apply wpT_exact;· (intro w' hC hf;unfold Gives;have hbk:=HBW.out.below hC HBW.out.lt;have c0:=hbk.cell 0;have c1:=hbk.cell 1;have c2:=hbk.cell 2;have c3:=hbk.cell 3;have c4:=hbk.cell 4;simp at c0 c1 c2 c3 c4;clear hbk;clear hf hC;go_wp2_with (fail);apply postT_val rfl (Below.refl _ _);simp only [valAt,aA,aE,aC,aD,aH];exact rfl));(try simp only [Act.put,aB,aF,aG]))
       (apply wpT_exact;· (intro w' hC hf;unfold Gives;clear hf hC;go_wp2_with (go_at_call 25;((with_reducible refine (CN1.out _).mono ?_));rintro e w5 ⟨rfl,rfl⟩);apply postT_val rfl (Below.refl _ _);simp only [valAt,aA,aE,aC,aD,aH];exact rfl));(try simp only [Act.put,aB,aF,aG])
       iterate 4 ((apply wpT_exact;· (intro w' hC hf;unfold Gives;have hbk:=HBW.out.below hC HBW.out.lt;have c0:=hbk.cell 0;have c1:=hbk.cell 1;have c2:=hbk.cell 2;have c3:=hbk.cell 3;have c4:=hbk.cell 4;simp at c0 c1 c2 c3 c4;clear hbk;clear hf hC;go_wp2_with (fail);apply postT_val rfl (Below.refl _ _);simp only [valAt,aA,aE,aC,aD,aH];exact rfl));(try simp only [Act.put,aB,aF,aG]))
       (apply wpT_exact;· (intro w' hC hf;unfold Gives;clear hf hC;go_wp2_with (go_at_call 25;((with_reducible refine (CN2.out _).mono ?_));rintro e w5 ⟨rfl,rfl⟩);apply postT_val rfl (Below.refl _ _);simp only [valAt,aA,aE,aC,aD,aH];exact rfl));(try simp only [Act.put,aB,aF,aG])
       (apply wpT_exact (c:=.string o4);· (intro w' hC hf;unfold Gives;have hbk:=HBW.out.below hC HBW.out.lt;have c0:=hbk.cell 0;have c1:=hbk.cell 1;have c2:=hbk.cell 2;have c3:=hbk.cell 3;have c4:=hbk.cell 4;simp at c0 c1 c2 c3 c4;clear hbk;clear hf hC;go_wp2_with fail;apply postT_val rfl (Below.refl _ _);simp only [valAt,aA,aE,aC,aD,aH];rw [← HO4.out]));(try simp only [Act.put,aB,aF,aG])
       iterate 2 ((apply wpT_exact;· (intro w' hC hf;unfold Gives;have hbk:=HBW.out.below hC HBW.out.lt;have c0:=hbk.cell 0;have c1:=hbk.cell 1;have c2:=hbk.cell 2;have c3:=hbk.cell 3;have c4:=hbk.cell 4;simp at c0 c1 c2 c3 c4;clear hbk;clear hf hC;go_wp2_with (fail);apply postT_val rfl (Below.refl _ _);simp only [valAt,aA,aE,aC,aD,aH];exact rfl));(try simp only [Act.put,aB,aF,aG]))
       (apply wpT_exact;· (intro w' hC hf;unfold Gives;clear hf hC;go_wp2_with (go_at_call 23;((with_reducible refine (CA1.out _).mono ?_));rintro e w5 ⟨rfl,hb5⟩);apply postT_val rfl (by assumption);simp only [valAt,aA,aE,aC,aD,aH];exact rfl));(try simp only [Act.put,aB,aF,aG])
       (apply wpT_exact;· (intro w' hC hf;unfold Gives;clear hf hC;go_wp2_with (fail);apply postT_val rfl (Below.refl _ _);simp only [valAt,aA,aE,aC,aD,aH];exact rfl));(try simp only [Act.put,aB,aF,aG])
       apply wpT_done
       intro w8 hC _
       replace T:=aI (T.out.below hC)
       clear hC
       rw [← HTL.out] at HR1
       generalize andS o4 rd.2.2.2.2=t4 at *
       go_wp2_with fail
       go_roundg (gk - 1)
       case measure=>omega
       case rel=>exact ⟨k+1,t4,by omega,by go_num,rfl,HR1.out,T.out.bl⟩
      ·have k1:¬ (k:Int) < (nr:Int):=by omega
       rw [List.drop_eq_nil_of_le (by rw [HNR.out];omega),List.map_nil,List.nil_append,List.flatMap_nil] at hacc
       have HAC:=aI hacc
       clear hacc
       go_wp2_with fail
       go_ret
       exact ⟨by rw [HS.out,← HAC.out,str_eq (a:=t++⟨#[10]⟩) rfl];simp,HB.out.trans (T.out.bl.mono HB.out.size)⟩
end Go.Proofs.YtmplaikgbeeikaaGreatDoor
namespace Go.Proofs.YtmplaikgbeeikaaGreatDoor
open Go Go.RowKit
def StrP (b:Nat) (w:World) (e:Ending) (w':World):Prop:=∃ t,e=.returned (.string t)∧t.size≤b∧Below w.heap.size w w'
theorem short_le (m:Nat) (s:ByteArray):(shortB m s).size≤m:=by
 unfold shortB
 split
 ·rw [ByteArray.size_extract];omega
 ·omega
theorem pparse_open (s:ByteArray) (w:World) (hs:s.size≤9223372036854775807) (he:SEnv w) {x:Sch} {k e:Int} (hp:Sx.parse s.data.toList=(x,k,e)):Calls Tryz.prog 13 #[.string s] w fun e' w'=>∃ (A:Option Addr) (c:Nat) (B:Option Addr) (d:Nat) (C:Option Addr) (f nk nl nr:Nat),e'=.returned (.tuple #[.agg #[.int .i64 x.1,.slice A nk c,.slice B nl d,.slice C nr f],.int .i64 k,.int .i64 e])∧Mem.rep [] w' x [.int .i64 x.1,.slice A nk c,.slice B nl d,.slice C nr f]∧Below w.heap.size w w':=by
 refine (pparse_any s w hs he).mono ?_
 rintro e' w' ⟨us,h1,h2,h3⟩
 rw [hp] at h1 h2
 obtain ⟨A,c,B,d,C,f,rfl,_⟩:=rep_sch h2
 exact ⟨A,c,B,d,C,f,_,_,_,h1,h2,h3⟩
structure TksOk (s:ByteArray) (tk:List Tk):Prop where
 bd:∀ p∈tk,p.1 < p.2∧p.2≤s.size
 sz:s.size≤8192
 ln:tk.length≤8192
theorem TksOk.piece {s:ByteArray} {tk:List Tk} (h:TksOk s tk) {p:Tk} (hp:p∈tk):(Vm.piece s.data.toList p.1 p.2).length=p.2 - p.1:=by
 have:=h.bd p hp
 unfold Vm.piece;rw [List.length_drop,List.length_take,Vm.strLn];omega
theorem TksOk.tok {s:ByteArray} {tk:List Tk} (h:TksOk s tk) (i:Nat):TokOk ((tk.map (tokOf s)).drop i):=by
 refine ⟨by rw [List.length_drop,List.length_map];have:=h.ln;omega,fun t ht=>?_⟩
 obtain ⟨p,hp,rfl⟩:=List.mem_map.1 (List.mem_of_mem_drop ht)
 have h1:=h.bd p hp
 have h2:=h.sz
 have h3:=h.piece hp
 refine ⟨fun e=>?_,?_,?_⟩
 ·have e:Vm.piece s.data.toList p.1 p.2=[]:=e
  rw [e] at h3;simp at h3;omega
 ·show (Vm.piece s.data.toList p.1 p.2).length≤8192
  omega
 ·show p.1≤8192
  omega
def RC (s:ByteArray) (tk:List Tk) (st:Sx.St) (cs:Array Value) (M:List Nat) (W:World):Prop:=∃ A c I,cs=#[.string s,.slice A tk.length c,.int .i64 (I:Nat),.bool st.2]∧st.1=(tk.map (tokOf s)).drop I∧I≤tk.length∧SlAt M W A (tk.map tokI)∧TksOk s tk
theorem rc_keeps (s:ByteArray) (tk:List Tk) (st:Sx.St) (cs:Array Value):Keeps (RC s tk st cs) :=
 ⟨fun _ _ _ ⟨A,c,I,h1,h2,h3,h4,h5⟩ hc=>⟨A,c,I,h1,h2,h3,h4.keep hc,h5⟩,fun _ _ _ ⟨A,c,I,h1,h2,h3,h4,h5⟩ hs=>⟨A,c,I,h1,h2,h3,h4.sub hs,h5⟩⟩
@[reducible] def rk (w:World) (g:Nat) (s:ByteArray) (tk:List Tk):PK:=⟨w,g,94,RC s tk,rc_keeps s tk⟩
section
variable {s:ByteArray} {tk:List Tk} {w:World} {g:Nat} {st:Sx.St} {M:List Nat} {bx:List Box} {rs:List Rw} {L:List (List Nat→World→Prop)} {W:World}
theorem rk_tok (h:PH (rk w g s tk) st M bx rs L W):TokOk st.1:=by
 obtain ⟨cs,hb,A,c,I,rfl,h1,h2,h3,h4⟩:=h.pbox
 rw [h1];exact h4.tok I
theorem rk_pk (h:PH (rk w g s tk) st M bx rs L W):(Sx.ofT (Sx.pk st)).size≤8192:=by rw [ofT_size];exact Sx.pk_len st fun t ht=>((rk_tok h).2 t ht).2.1
theorem rk_step (h:PH (rk w g s tk) st M bx rs L W) (r:Bool):(Sx.ofT (Sx.step st r).1).size≤8192:=by rw [ofT_size];exact Sx.step_len st r fun t ht=>((rk_tok h).2 t ht).2.1
theorem drop_at {α:Type} {l:List α} {i:Nat} (h:i < l.length):l.drop i=l[i]::l.drop (i+1):=List.drop_eq_getElem_cons h
set_option maxHeartbeats 2000000 in
theorem look_any (h:PH (rk w g s tk) st M bx rs L W) :
  Calls Tryz.prog 43 #[.pointer (some ⟨g,0,none⟩)] W fun e W'=>e=.returned (.string (Sx.ofT (Sx.pk st)))∧Below W.heap.size W W':=by
 obtain ⟨cs,hb,A,c,I,rfl,hst,hI,hsl,hok⟩:=h.pbox
 have c0:=hb.cell 0
 have c1:=hb.cell 1
 have c2:=hb.cell 2
 have c3:=hb.cell 3
 obtain ⟨l,f⟩:=st
 simp at c0 c1 c2 c3
 obtain ⟨n,hn⟩:∃ n,tk.length=n:=⟨_,rfl⟩
 have hn2:=hok.ln
 clear h hb
 cases f
 ·by_cases hlt:I < n
  ·have hik:I < tk.length:=by omega
   obtain ⟨b,o,rfl,_,d0,d1⟩:=tk_at hsl I hik
   have hbd:=hok.bd _ (List.getElem_mem hik)
   have hsz:=hok.sz
   have e:Sx.pk (l,false)=Vm.piece s.data.toList tk[I].1 tk[I].2:=by
    obtain rfl:l=(tk.map (tokOf s)).drop I:=hst
    rw [drop_at (by simpa using hik)]
    show ((tk.map (tokOf s))[I]'_).1=_
    rw [List.getElem_map];rfl
   rw [e,← ext_ofT]
   obtain ⟨p,hp⟩:∃ p,tk[I]=p:=⟨_,rfl⟩
   rw [hp] at d0 d1 hbd ⊢
   obtain ⟨a,z⟩:=p
   obtain ⟨m,hm⟩:∃ m,s.size=m:=⟨_,rfl⟩
   have hms:s.size=m:=hm
   rw [hm] at hbd hsz
   dsimp only at d0 d1 hbd ⊢
   rw [hn] at c1 hn2
   have k0:(0:Int)≤(I:Int):=Int.natCast_nonneg _
   have k1:(I:Int) < (n:Int):=by omega
   have k2:¬ (n:Int)≤(I:Int):=by omega
   have k3:(a:Int)≤(z:Int):=by omega
   have k4:(z:Int)≤(m:Int):=by omega
   have k5:(0:Int)≤(a:Int):=Int.natCast_nonneg _
   clear hsl hok hn hst e hp hik hm
   go_enter Tryz.func43,Tryz.ntmps43
   go_wp2_with fail
   go_region
   go_wp2_with fail
   go_region
   go_wp2_with fail
   go_ret
   exact ⟨rfl,⟨rfl,rfl,rfl,Nat.le_refl _,fun _ _=>rfl⟩⟩
  ·have e:Sx.pk (l,false)=[]:=by
    obtain rfl:l=(tk.map (tokOf s)).drop I:=hst
    rw [List.drop_eq_nil_of_le (by rw [List.length_map];omega)];rfl
   rw [e]
   rw [hn] at c1 hn2
   have k1:(n:Int)≤(I:Int):=by omega
   clear hsl hok hn hst e
   go_enter Tryz.func43,Tryz.ntmps43
   go_wp2_with fail
   go_region
   go_wp2_with fail
   go_ret
   exact ⟨rfl,⟨rfl,rfl,rfl,Nat.le_refl _,fun _ _=>rfl⟩⟩
 ·clear hsl hok
  go_enter Tryz.func43,Tryz.ntmps43
  go_wp2_with fail
  go_region
  go_wp2_with fail
  go_ret
  exact ⟨rfl,⟨rfl,rfl,rfl,Nat.le_refl _,fun _ _=>rfl⟩⟩
theorem rk_open (h:PH (rk w g s tk) st M bx rs L W):∃ I:Nat,I≤8192∧W.cell? ⟨g,2,none⟩=some (.int .i64 (I:Int))∧W.cell? ⟨g,3,none⟩=some (.bool st.2)∧W.frozen? ⟨g,2,none⟩=false∧W.frozen? ⟨g,3,none⟩=false∧PH (rk w g s tk) (st.1,true) M bx rs L (W.setCell ⟨g,3,none⟩ (.bool true)) ∧
  ∀ t l,st.1=t::l→PH (rk w g s tk) (l,st.2) M bx rs L (W.setCell ⟨g,2,none⟩ (.int .i64 ((I+1:Nat):Int))):=by
 obtain ⟨cs,H⟩:=h.it
 obtain ⟨A,c,I,rfl,hst,hI,hsl,hok⟩:=H.fact (.head _)
 have hb:=H.box (.head _)
 have hln:=hok.ln
 refine ⟨I,by omega,hb.cell 2,hb.cell 3,hb.frozen 2,hb.frozen 3,PH.turn H 3 (.bool true) ⟨A,c,I,rfl,hst,hI,hsl.keep (Chg.set_ W (p:=⟨g,3,none⟩) (H.h.bs _ (.head _)).1 _),hok⟩,fun t l hl=>?_⟩
 have hlen:(t::l).length=tk.length - I:=by rw [← hl,hst];simp
 rw [List.length_cons] at hlen
 have hl2:l=(tk.map (tokOf s)).drop (I+1):=by
  have e:t::l=(tk.map (tokOf s)).drop I:=hl ▸ hst
  rw [drop_at (by rw [List.length_map];omega)] at e
  injection e with _ e
 exact PH.turn H 2 _ ⟨A,c,I+1,rfl,hl2,by omega,hsl.keep (Chg.set_ W (p:=⟨g,2,none⟩) (H.h.bs _ (.head _)).1 _),hok⟩
set_option maxHeartbeats 4000000 in
theorem take1_any (r:Bool) (h:PH (rk w g s tk) st M bx rs L W) :
  Calls Tryz.prog 88 #[.pointer (some ⟨g,0,none⟩),.bool r] W fun e W'=>e=.returned (.string (Sx.ofT (Sx.step st r).1))∧PH (rk w g s tk) (Sx.step st r).2 M bx rs L W':=by
 have CP:=aI (look_any h)
 have htok:=rk_tok h
 have T:=aI h
 obtain ⟨l,f⟩:=st
 clear h
 cases f
 ·cases l with
  | nil =>
   rw [step_nil]
   have z:(Sx.ofT []).toList.isEmpty=true:=ofT_empty.1
   have z2:(Sx.ofT []).data.toList.isEmpty=true:=ofT_empty.2
   unfold Sx.pk at CP
   simp only [Bool.false_eq_true,if_false] at CP
   clear htok
   cases r <;> (go_enter Tryz.func88,Tryz.ntmps88;go_wp2_with (go_at_call 43;((with_reducible refine (CP.out).mono ?_));rintro e w1 ⟨rfl,hb1⟩;obtain ⟨I,i1,c2,c3,f2,f3,hT,hN⟩:=rk_open (T.out.below hb1);have HT:=aI hT;have HN:=aI hN;have hw1:IntKind.i64.wrap ((I:Int)+1)=((I+1:Nat):Int):=(by rw [wrapI (by unfold inI;omega)];omega);clear hT hN hb1;dsimp only at c2 c3);go_ret;exact ⟨rfl,HT.out⟩)
  | cons t l =>
   have htn:=(htok.2 t (.head _)).1
   have z:(Sx.ofT t.1).toList.isEmpty=false:=by rw [ofT_empty.1];cases h:t.1 with | nil=>exact absurd h htn | cons _ _=>rfl
   have z2:(Sx.ofT t.1).data.toList.isEmpty=false:=by rw [ofT_empty.2];cases h:t.1 with | nil=>exact absurd h htn | cons _ _=>rfl
   unfold Sx.pk at CP
   simp only [Bool.false_eq_true,if_false] at CP
   clear htn htok
   cases r
   ·rw [step_no]
    go_enter Tryz.func88,Tryz.ntmps88
    go_wp2_with (go_at_call 43;((with_reducible refine (CP.out).mono ?_));rintro e w1 ⟨rfl,hb1⟩;obtain ⟨I,i1,c2,c3,f2,f3,hT,hN⟩:=rk_open (T.out.below hb1);have HT:=aI hT;have HN:=aI hN;have hw1:IntKind.i64.wrap ((I:Int)+1)=((I+1:Nat):Int):=(by rw [wrapI (by unfold inI;omega)];omega);clear hT hN hb1;dsimp only at c2 c3)
    go_ret
    exact ⟨rfl,HT.out⟩
   ·rw [step_yes]
    go_enter Tryz.func88,Tryz.ntmps88
    go_wp2_with (go_at_call 43;((with_reducible refine (CP.out).mono ?_));rintro e w1 ⟨rfl,hb1⟩;obtain ⟨I,i1,c2,c3,f2,f3,hT,hN⟩:=rk_open (T.out.below hb1);have HT:=aI hT;have HN:=aI hN;have hw1:IntKind.i64.wrap ((I:Int)+1)=((I+1:Nat):Int):=(by rw [wrapI (by unfold inI;omega)];omega);clear hT hN hb1;dsimp only at c2 c3)
    go_ret
    exact ⟨rfl,HN.out _ _ rfl⟩
 ·rw [step_failed]
  have z:(Sx.ofT []).toList.isEmpty=true:=ofT_empty.1
  have z2:(Sx.ofT []).data.toList.isEmpty=true:=ofT_empty.2
  unfold Sx.pk at CP
  simp only [if_true] at CP
  clear htok
  cases r <;> (go_enter Tryz.func88,Tryz.ntmps88;go_wp2_with (go_at_call 43;((with_reducible refine (CP.out).mono ?_));rintro e w1 ⟨rfl,hb1⟩;obtain ⟨I,i1,c2,c3,f2,f3,hT,hN⟩:=rk_open (T.out.below hb1);have HT:=aI hT;have HN:=aI hN;have hw1:IntKind.i64.wrap ((I:Int)+1)=((I+1:Nat):Int):=(by rw [wrapI (by unfold inI;omega)];omega);clear hT hN hb1;dsimp only at c2 c3);go_ret;exact ⟨rfl,HT.out⟩)
theorem want_any (wd:Sx.Txt) (h:PH (rk w g s tk) st M bx rs L W) :
  Calls Tryz.prog 41 #[.pointer (some ⟨g,0,none⟩),.string (Sx.ofT wd)] W fun e W'=>e=.returned (.tuple #[])∧PH (rk w g s tk) (Sx.step st (Sx.pk st == wd)).2 M bx rs L W':=by
 have T:=aI h
 have q:=ofT_eqB (Sx.pk st) wd
 clear h
 obtain ⟨r,hr⟩:∃ r,(Sx.pk st == wd)=r:=⟨_,rfl⟩
 rw [hr] at q ⊢
 clear hr
 go_enter Tryz.func41,Tryz.ntmps41
 go_wp2_with (first | (go_at_call 43;((with_reducible refine (look_any T.out).mono ?_));rintro e w1 ⟨rfl,hb1⟩;replace T:=aI (T.out.below hb1);clear hb1) | (go_at_call 88;((with_reducible refine (take1_any _ T.out).mono ?_));rintro e w1 ⟨rfl,h1⟩;replace T:=aI h1;clear h1))
 go_end0
 exact ⟨rfl,T.out⟩
end
set_option maxRecDepth 100000 in
set_option maxHeartbeats 4000000 in
theorem rIsName_any (s:ByteArray) (w:World) (hs:s.size≤9223372036854775807):Calls Tryz.prog 128 #[.string s] w fun e w'=>e=.returned (.bool (Sx.nm s))∧w=w':=by
 rw [nm_is]
 have HL:=aI rLetter_any
 have HD:=aI rDigit_any
 obtain ⟨n,hn⟩:∃ n,s.size=n:=⟨_,rfl⟩
 have hsn:s.size=n:=hn
 by_cases h1:1≤n
 ·by_cases h12:n≤12
  ·have h0s:0 < s.size:=by omega
   have hne:0 < s.data.toList.length:=by rw [Vm.strLn];exact h0s
   have h0:s.data.toList.headD 0=(s[0]'h0s):=by
    rw [← Vm.str_get s 0 h0s hne]
    rw [List.headD_eq_head?_getD,List.head?_eq_getElem?,List.getElem?_eq_getElem hne]
    rfl
   rw [h0,hn,decide_eq_true h1,decide_eq_true h12,Bool.true_and,Bool.true_and]
   have cl:=HL.out (s[0]'h0s)
   obtain ⟨bl,hbl⟩:∃ b,Sx.letterB (s[0]'h0s)=b:=⟨_,rfl⟩
   rw [hbl] at cl ⊢
   have CL:=aI cl
   have t1:decide ((n:Int) < 1)=false:=decide_eq_false (by omega)
   have t2:decide ((12:Int) < (n:Int))=false:=decide_eq_false (by omega)
   have t3:decide (n < 1)=false:=decide_eq_false (by omega)
   have t4:decide (12 < n)=false:=decide_eq_false (by omega)
   have k1:(0:Int) < (n:Int):=by omega
   clear cl hbl h0 hne hn hs
   cases bl
   ·go_enter Tryz.func128,Tryz.ntmps128
    go_wp2_with (go_at_call 164;((with_reducible refine (CL.out _).mono ?_));rintro e w2 ⟨rfl,rfl⟩)
    go_ret
    exact ⟨rfl,rfl⟩
   ·rw [Bool.true_and]
    obtain ⟨al,hal⟩:∃ b,s.data.toList.all Sx.alnumB=b:=⟨_,rfl⟩
    rw [hal]
    have HA0:=aI hal
    clear hal
    go_enter Tryz.func128,Tryz.ntmps128
    go_wp2_with (go_at_call 164;((with_reducible refine (CL.out _).mono ?_));rintro e w2 ⟨rfl,rfl⟩)
    clear CL
    go_loopg [3] n (fun r i wr=>∃ k:Nat,k+r=n∧i=.int .i64 k∧wr=w∧∀ j (hj:j < s.data.toList.length),j < k→Sx.alnumB s.data.toList[j]=true)
    case atStart=>exact ⟨0,by omega,rfl,rfl,fun _ _ h=>by omega⟩
    case round =>
     obtain ⟨k,hk,rfl,rfl,hall⟩:=hrel
     obtain ⟨w,rfl⟩:∃ w0:World,w0=wr:=⟨_,rfl⟩
     have HA:=aI hall
     clear hall
     by_cases hlt:k < n
     ·have hkd:k < s.size:=by omega
      have hget:k < s.data.toList.length:=by rw [Vm.strLn];exact hkd
      have k0:(0:Int)≤(k:Int):=Int.natCast_nonneg _
      have k1:(k:Int) < (n:Int):=by omega
      have hsn2:s.data.toList[k]=s[k]:=Vm.str_get s k hkd hget
      have cl:=HL.out (s[k]'hkd)
      have cd:=HD.out (s[k]'hkd)
      obtain ⟨b1,hb1⟩:∃ b,Sx.letterB (s[k]'hkd)=b:=⟨_,rfl⟩
      obtain ⟨b2,hb2⟩:∃ b,Dc.isDig (s[k]'hkd)=b:=⟨_,rfl⟩
      rw [hb1] at cl
      rw [hb2] at cd
      have CL:=aI cl
      have CD:=aI cd
      have HAL:=aI (show Sx.alnumB s.data.toList[k]=(b1 || b2) by unfold Sx.alnumB;rw [hsn2,hb1,hb2])
      clear cl cd hb1 hb2 hsn2
      cases b1
      ·cases b2
       ·have HR:=aI (HA0.out.symm.trans (all_bad (b:=Sx.alnumB) hget HAL.out))
        go_wp2_with (first | (go_at_call 164;((with_reducible refine (CL.out _).mono ?_));rintro e w2 ⟨rfl,rfl⟩) | (go_at_call 127;((with_reducible refine (CD.out _).mono ?_));rintro e w2 ⟨rfl,rfl⟩))
        go_ret
        exact ⟨by rw [HR.out];rfl,rfl⟩
       ·go_wp2_with (first | (go_at_call 164;((with_reducible refine (CL.out _).mono ?_));rintro e w2 ⟨rfl,rfl⟩) | (go_at_call 127;((with_reducible refine (CD.out _).mono ?_));rintro e w2 ⟨rfl,rfl⟩))
        go_roundg (gk - 1)
        case measure=>omega
        case rel =>
         refine ⟨k+1,by omega,by go_num,rfl,fun q hq hlt=>?_⟩
         rcases Nat.lt_or_ge q k with h' | h'
         ·exact HA.out q hq h'
         ·obtain rfl:q=k:=by omega
          exact HAL.out
      ·go_wp2_with (first | (go_at_call 164;((with_reducible refine (CL.out _).mono ?_));rintro e w2 ⟨rfl,rfl⟩) | (go_at_call 127;((with_reducible refine (CD.out _).mono ?_));rintro e w2 ⟨rfl,rfl⟩))
       go_roundg (gk - 1)
       case measure=>omega
       case rel =>
        refine ⟨k+1,by omega,by go_num,rfl,fun q hq hlt=>?_⟩
        rcases Nat.lt_or_ge q k with h' | h'
        ·exact HA.out q hq h'
        ·obtain rfl:q=k:=by omega
         rw [HAL.out];rfl
     ·have HR:=aI (HA0.out.symm.trans <| all_good (b:=Sx.alnumB) fun q hq=>HA.out q hq (by rw [Vm.strLn] at hq;omega))
      have k1:¬ (k:Int) < (n:Int):=by omega
      go_wp2_with fail
      go_ret
      exact ⟨by rw [HR.out];rfl,rfl⟩
  ·rw [hn,decide_eq_true h1,decide_eq_false h12,Bool.true_and,Bool.false_and]
   have t1:decide ((n:Int) < 1)=false:=decide_eq_false (by omega)
   have t2:decide ((12:Int) < (n:Int))=true:=decide_eq_true (by omega)
   have t3:decide (n < 1)=false:=decide_eq_false (by omega)
   have t4:decide (12 < n)=true:=decide_eq_true (by omega)
   go_enter Tryz.func128,Tryz.ntmps128
   go_wp2_with fail
   go_ret
   exact ⟨rfl,rfl⟩
 ·rw [hn,decide_eq_false h1,Bool.false_and,Bool.false_and]
  have t1:decide ((n:Int) < 1)=true:=decide_eq_true (by omega)
  have t3:decide (n < 1)=true:=decide_eq_true (by omega)
  go_enter Tryz.func128,Tryz.ntmps128
  go_wp2_with fail
  go_ret
  exact ⟨rfl,rfl⟩
set_option maxRecDepth 100000 in
set_option maxHeartbeats 4000000 in
theorem rNames_any (l:List ByteArray) (A:Option Addr) (c:Nat) (w:World) (hs:SlAt [] w A l) (hm:l.length≤9223372036854775807):Calls Tryz.prog 131 #[.slice A l.length c] w fun e w'=>e=.returned (.bool (l.all Sx.nm))∧w=w':=by
 have HNm:=aI rIsName_any
 obtain ⟨n,hn⟩:∃ n,l.length=n:=⟨_,rfl⟩
 have HS:=aI hs
 have HN:=aI hn
 rw [hn] at hm ⊢
 clear hs hn
 obtain ⟨al,hal⟩:∃ b,l.all Sx.nm=b:=⟨_,rfl⟩
 rw [hal]
 have HA0:=aI hal
 clear hal
 go_enter Tryz.func131,Tryz.ntmps131
 go_wp2_with fail
 go_loopg [3] n (fun r i wr=>∃ k:Nat,k+r=n∧i=.int .i64 k∧wr=w∧∀ j (hj:j < l.length),j < k→Sx.nm l[j]=true)
 case atStart=>exact ⟨0,by omega,rfl,rfl,fun _ _ h=>by omega⟩
 case round =>
  obtain ⟨k,hk,rfl,rfl,hall⟩:=hrel
  obtain ⟨w,rfl⟩:∃ w0:World,w0=wr:=⟨_,rfl⟩
  have HA:=aI hall
  clear hall
  by_cases hlt:k < n
  ·have hkp:k < l.length:=by rw [HN.out];exact hlt
   have k0:(0:Int)≤(k:Int):=Int.natCast_nonneg _
   have k1:(k:Int) < (n:Int):=by omega
   obtain ⟨b,o,rfl,_,c0,hin⟩:=str_at HS.out k hkp
   have cv:=fun w=>HNm.out l[k] w hin
   obtain ⟨bb,hbb⟩:∃ b,Sx.nm l[k]=b:=⟨_,rfl⟩
   rw [hbb] at cv
   have CV:=aI cv
   have HBB:=aI hbb
   obtain ⟨x0,hx0⟩:∃ x,l[k]=x:=⟨_,rfl⟩
   rw [hx0] at CV c0
   clear cv hbb hx0 hin
   cases bb
   ·have HR:=aI (HA0.out.symm.trans (all_bad (b:=Sx.nm) hkp HBB.out))
    go_wp2_with (go_at_call 128;((with_reducible refine (CV.out _).mono ?_));rintro e w2 ⟨rfl,rfl⟩)
    go_ret
    exact ⟨by rw [HR.out];rfl,rfl⟩
   ·go_wp2_with (go_at_call 128;((with_reducible refine (CV.out _).mono ?_));rintro e w2 ⟨rfl,rfl⟩)
    go_roundg (gk - 1)
    case measure=>omega
    case rel =>
     refine ⟨k+1,by omega,by go_num,rfl,fun q hq hlt=>?_⟩
     rcases Nat.lt_or_ge q k with h' | h'
     ·exact HA.out q hq h'
     ·obtain rfl:q=k:=by omega
      exact HBB.out
  ·have HR:=aI (HA0.out.symm.trans <| all_good (b:=Sx.nm) fun q hq=>HA.out q hq (by rw [HN.out] at hq;omega))
   have k1:¬ (k:Int) < (n:Int):=by omega
   go_wp2_with fail
   go_ret
   exact ⟨by rw [HR.out];rfl,rfl⟩
end Go.Proofs.YtmplaikgbeeikaaGreatDoor
