/- Parts of the proof, joined: SxS3, SxR1. -/
import Derived.Test.YtobcnhmhgoccnaaGreatDoorV12
set_option maxRecDepth 100000
set_option maxHeartbeats 16000000
set_option linter.unusedVariables false
set_option linter.unusedSimpArgs false
set_option linter.unusedSectionVars false
namespace Go.Proofs.YtobcnhmhgoccnaaGreatDoor
open Go Go.RowKit
section
namespace Sx
theorem src2_step {t S:Txt} {L:List Txt} {R:List (List Txt)} (hL:L≠[]) (h:t++10::(L::R).flatMap lineT=S):(t++10::lnJ L)++10::R.flatMap lineT=S:=by
 rw [<-h,zR,lnJ_end hL]
 simp
theorem src2_le {t S:Txt} {R:List (List Txt)} (h:t++10::R.flatMap lineT=S):t.length+1<=S.length:=by rw [<-h,aK,zm];omega
theorem fldT_ne (f:Fld):fldT f≠[]:=by
 unfold fldT
 split
 .exact List.cons_ne_nil _ _
 split
 .exact List.cons_ne_nil _ _
 split
 .exact List.cons_ne_nil _ _
 split
 .exact List.cons_ne_nil _ _
 split
 .exact List.cons_ne_nil _ _
 split
 .exact List.cons_ne_nil _ _
 .exact List.cons_ne_nil _ _
end Sx
theorem bs_size (s:ByteArray):s.data.toList.length=s.size:=strLen s
theorem rsource_any (x:Sch) (us:List Value) (w:World) (h:Mem.rep [] w x us) (hok:Sx.okB x=true):Calls Tryz.prog 37 #[.agg us.toArray] w λe w'=>e=.returned (.string ⟨(Sx.source x).toArray⟩)/\Below w.heap.size w w':=by
 obtain ⟨A,c,B,d,C,e,rfl,s1,s2,s3,a1,b1,b2,b3,b4,b5,b6⟩:=rep_sch h
 have OB:=Sx.okB_bd hok
 have HOB:=aI OB
 have hx0:=OB.v
 have hnk:=OB.nk;have hnl:=OB.nl;have hnr:=OB.nr
 obtain ⟨S,hS⟩:=aX (Sx.source x)
 have hSl:S.length<=1000000:=by rw [<-hS];exact Sx.source_le OB
 obtain ⟨RK,hRK⟩:=aX (x.2.2.1.flatMap Sx.lifL++x.2.2.2.map Sx.rulL)
 have HR:=aI (show (andS ⟨#[115,99,104,101,109,97]⟩ x.1).data.toList++10::((Sc.kinds x).flatMap Sx.kndL++RK).flatMap Sx.lineT=S by
  rw [andS_list,<-hS,<-hRK]
  show _=([Sx.sSchema,Sx.num x.1]::((Sc.kinds x).flatMap Sx.kndL++(x.2.2.1.flatMap Sx.lifL++x.2.2.2.map Sx.rulL))).flatMap Sx.lineT
  rw [zR,Sx.lnJ_end (List.cons_ne_nil _ _)]
  simp [Sx.lnJ,Sx.sSchema])
 have HRK:=aI hRK
 have HS:=aI hS
 obtain ⟨nk,hk⟩:=aX ((Sc.kinds x).length)
 obtain ⟨nl,hl⟩:=aX x.2.2.1.length
 obtain ⟨nr,hr⟩:=aX x.2.2.2.length
 have HNK:=aI hk;have HNL:=aI hl;have HNR:=aI hr
 rw [hk] at hnk;rw [hl] at hnl;rw [hr] at hnr
 obtain ⟨N,hN⟩:=aX w.heap.size
 obtain ⟨W0,hW0⟩:=aX (w.alloc (.cells #[.int .i64 x.1,.slice A nk c,.slice B nl d,.slice C nr e] 27))
 have hb0:Below w.heap.size w W0:=by rw [<-hW0];exact aP _ _
 have hbk:Blk W0 N 27 #[.int .i64 x.1,.slice A nk c,.slice B nl d,.slice C nr e]:=by rw [<-hW0,<-hN];exact zj w _ _
 have TB:=aI (((((held0 W0 [] (λ_ h=>by cases h)).add (keeps_sl C x.2.2.2) (s3.keep (za hb0))).add (keeps_sl B x.2.2.1) (s2.keep (za hb0))).add (keeps_sl A (Sc.kinds x)) (s1.keep (za hb0))).add (P:=λM W=>N∉M/\Blk W N 27 #[.int .i64 x.1,.slice A nk c,.slice B nl d,.slice C nr e]) (keeps_blk _ _ _) ⟨by simp,hbk⟩)
 have HB:=aI hb0
 have HW0:=aI hW0
 have HN:=aI hN
 show Calls Tryz.prog 37 #[.agg #[.int .i64 x.1,.slice A (Sc.kinds x).length c,.slice B x.2.2.1.length d,.slice C x.2.2.2.length e]] w _
 rw [hk,hl,hr]
 clear h s1 s2 s3 a1 b1 b2 b3 b4 b5 b6 hk hl hr hbk hb0 hW0 hN OB hS hRK
 have CA:=aI (λw=>and_any ⟨#[115,99,104,101,109,97]⟩ x.1 w (by decide) (by omega))
 obtain ⟨t0,ht0⟩:=aX (andS ⟨#[115,99,104,101,109,97]⟩ x.1)
 rw [ht0] at CA HR
 clear ht0
 have T:=TB
 obtain ⟨z0,z1,z2,z3⟩:=aM4 ((T.out.fact (.head _)).2)
 go_enter Tryz.func37,Tryz.ntmps37
 go_upto_region 1 with fail
 rw [HW0.out,HN.out]
 go_wp2_with (go_at_call 94;(with_reducible refine (CA.out _).mono ?_);rintro e w2 ⟨rfl,hb2⟩;have T1:=aI (T.out.below hb2);clear hb2 z0 z1 z2 z3)
 go_loopg [3,4] nk (λr o i wr=>∃(k:Nat) (t:ByteArray),k+r=nk/\i=.int .i64 k/\o=.string t/\t.data.toList++10::(((Sc.kinds x).drop k).flatMap Sx.kndL++RK).flatMap Sx.lineT=S/\Below W0.heap.size W0 wr)
 case atStart=>exact ⟨0,t0,by omega,rfl,rfl,HR.out,T1.out.bl⟩
 case round =>
  clear HR T1
  obtain ⟨k,t,hk,rfl,rfl,hacc,hT⟩:=hrel
  obtain ⟨wo,rfl⟩:=aY wr
  obtain ⟨gq,rfl⟩:=aY gk
  have T:=aI (TB.out.below hT)
  clear hT
  have hts:t.size<=1000000:=by have h:=Sx.src2_le hacc;rw [bs_size] at h;omega
  obtain ⟨z0,z1,z2,z3⟩:=aM4 ((T.out.fact (.head _)).2)
  by_cases hlt:k < nk
  .have hkp:k < (Sc.kinds x).length:=by rw [HNK.out];exact hlt
   have k0:(0:Int)<=(k:Int):=aa _
   have k1:(k:Int) < (nk:Int):=by omega
   have HR:=aI hacc
   rw [List.drop_eq_getElem_cons hkp,zR,zo] at HR
   have kb:=HOB.out.k _ (ze hkp)
   obtain ⟨b,o,F,cf,rfl,_,c0,c1,c2,c3,hsl,_⟩:=knd_at (T.out.fact (.tail _ (.head _))) k hkp
   obtain ⟨kd,hkd⟩:=aX ((Sc.kinds x)[k])
   rw [hkd] at c0 c1 c2 c3 hsl HR kb
   have HKB:=aI kb
   have hq1:=kb.nm;have hq2:=kb.lo;have hq3:=kb.hi
   obtain ⟨nf,hnf⟩:=aX ((Sc.flds kd).length)
   have HNF:=aI hnf
   have hq4:=kb.n
   rw [hnf] at c3 hq4
   obtain ⟨Nk,hNk⟩:=aX wo.heap.size
   have hbw:Blk (wo.alloc (.cells #[.string kd.1,.int .i64 kd.2.1,.int .i64 kd.2.2.1,.slice F nf cf] 52)) Nk 52 #[.string kd.1,.int .i64 kd.2.1,.int .i64 kd.2.2.1,.slice F nf cf]:=by rw [<-hNk];exact zj wo _ _
   have hbl:Below wo.heap.size wo (wo.alloc (.cells #[.string kd.1,.int .i64 kd.2.1,.int .i64 kd.2.2.1,.slice F nf cf] 52)):=(zf wo.heap.size wo).alloc (ag _) _
   have HSF:=aI (show SlAt [] _ F (Sc.flds kd) from hsl.keep (za hbl))
   replace T:=aI (T.out.below hbl)
   have HBW:=aI hbw
   clear hnf hacc hkd kb hsl hbw hbl
   obtain ⟨o1,ho1⟩:∃o:ByteArray,(t++⟨#[10,107,105,110,100,32]⟩++kd.1:ByteArray)=o:=⟨_,rfl⟩
   have ho1s:o1.size<=t.size+18:=by rw [<-ho1];simp only [ByteArray.size_append];rw [show (⟨#[10,107,105,110,100,32]⟩:ByteArray).size=6 from rfl];omega
   have has1:=andS_size o1 kd.2.1 (by omega)
   have CA1:=aI (λw=>and_any o1 kd.2.1 w (by omega) (by omega))
   have CA2:=aI (λw=>and_any (andS o1 kd.2.1) kd.2.2.1 w (by omega) (by omega))
   have HTL:=aI (show (andS (andS o1 kd.2.1) kd.2.2.1).data.toList=t.data.toList++10::Sx.lnJ [Sx.sKind,Sx.bs kd.1,Sx.num kd.2.1,Sx.num kd.2.2.1] by
    rw [andS_list,andS_list,<-ho1];simp [Sx.lnJ,Sx.sKind,Sx.bs])
   have HO1:=aI ho1
   clear ho1
   go_upto_region 6 with fail
   generalize wo.alloc (.cells #[.string kd.1,.int .i64 kd.2.1,.int .i64 kd.2.2.1,.slice F nf cf] 52)=w5 at *
   clear hNk c0 c1 c2 c3 z0 z1 z2 z3
   go_wp2_with fail
   apply zy (C:=λw'=>Below w5.heap.size w5 w') (n:=149) (m:=12) (l1:=[_,_,_,_,_,_,_,_,_,_,_,_]) (l2:=[]);rfl;rfl;kernel_rfl;rfl;kernel_rfl;exact ⟨rfl,rfl,rfl,ag _,λ_ _=>rfl⟩;exact aR
   iterate 4 ((apply aJ;·(intro w' hC hf;obtain ⟨c0,c1,c2,c3⟩:=aM4 (HBW.out.below hC HBW.out.lt);clear hf hC;go_wp2_with (fail);apply aO;simp only [zC];exact rfl));(try simp only [zn]))
   (apply wpT_exact (c:=.string o1);· (intro w' hC hf;unfold Gives;obtain ⟨c0,c1,c2,c3⟩:=aM4 (HBW.out.below hC HBW.out.lt);clear hf hC;go_wp2_with fail;apply aO;simp only [zC];rw [<-HO1.out]));(try simp only [zn])
   iterate 2 ((apply aJ;·(intro w' hC hf;obtain ⟨c0,c1,c2,c3⟩:=aM4 (HBW.out.below hC HBW.out.lt);clear hf hC;go_wp2_with (fail);apply aO;simp only [zC];exact rfl));(try simp only [zn]))
   (apply aJ;·(intro w' hC hf;clear hf hC;go_wp2_with (go_at_call 94;(with_reducible refine (CA1.out _).mono ?_);rintro e w5 ⟨rfl,hb5⟩);apply postT_val rfl (by assumption);simp only [zC];exact rfl));(try simp only [zn])
   iterate 2 ((apply aJ;·(intro w' hC hf;obtain ⟨c0,c1,c2,c3⟩:=aM4 (HBW.out.below hC HBW.out.lt);clear hf hC;go_wp2_with (fail);apply aO;simp only [zC];exact rfl));(try simp only [zn]))
   (apply aJ;·(intro w' hC hf;clear hf hC;go_wp2_with (go_at_call 94;(with_reducible refine (CA2.out _).mono ?_);rintro e w5 ⟨rfl,hb5⟩);apply postT_val rfl (by assumption);simp only [zC];exact rfl));(try simp only [zn])
   (apply aJ;·(intro w' hC hf;clear hf hC;go_wp2_with (fail);apply aO;simp only [zC];exact rfl));(try simp only [zn])
   apply wpT_done
   intro w6 hC _
   replace T:=aI (T.out.below hC)
   have HSF6:=aI (HSF.out.keep (za hC))
   have HBW6:=aI (HBW.out.below hC HBW.out.lt)
   clear hC HSF HBW
   have HR1:=aI (Sx.src2_step (List.cons_ne_nil _ _) (show t.data.toList++10::([Sx.sKind,Sx.bs kd.1,Sx.num kd.2.1,Sx.num kd.2.2.1]::((Sc.flds kd).map Sx.fldT++(((Sc.kinds x).drop (k+1)).flatMap Sx.kndL++RK))).flatMap Sx.lineT=S from HR.out))
   rw [<-HTL.out] at HR1
   obtain ⟨t1,ht1⟩:=aX (andS (andS o1 kd.2.1) kd.2.2.1)
   rw [ht1] at HR1 ⊢
   obtain ⟨R2,hR2⟩:=aX (((Sc.kinds x).drop (k+1)).flatMap Sx.kndL++RK)
   rw [hR2] at HR1
   have HR2:=aI hR2
   clear HR HTL HO1 CA1 CA2 ht1 hR2 has1 ho1s
   go_wp2_with fail
   go_loopg [3,6] nf (λr o i wr=>∃(j:Nat) (t:ByteArray),j+r=nf/\i=.int .i64 j/\o=.string t/\t.data.toList++10::(((Sc.flds kd).drop j).map Sx.fldT++R2).flatMap Sx.lineT=S/\Below w6.heap.size w6 wr)
   case atStart=>exact ⟨0,t1,by omega,rfl,rfl,HR1.out,zf _ _⟩
   case round =>
    clear HR1
    obtain ⟨j,t,hj,rfl,rfl,hacc,hT⟩:=hrel
    obtain ⟨wi,rfl⟩:=aY wr
    have HWI:=aI hT
    have hbk:=HBW6.out.below HWI.out HBW6.out.lt
    have z3:=hbk.cell 3
    simp at z3
    clear hT hbk
    have hts:t.size<=1000000:=by have h:=Sx.src2_le hacc;rw [bs_size] at h;omega
    by_cases hlt2:j < nf
    .have hjp:j < (Sc.flds kd).length:=by rw [HNF.out];exact hlt2
     have j0:(0:Int)<=(j:Int):=aa _
     have j1:(j:Int) < (nf:Int):=by omega
     have HR:=aI hacc
     rw [List.drop_eq_getElem_cons hjp,List.map_cons,zM] at HR
     have fb:=HKB.out.f _ (ze hjp)
     obtain ⟨b2,o2,us,rfl,_,hr,hc⟩:=(HSF6.out.keep (za HWI.out)).get j hjp
     obtain ⟨fd,hfd⟩:=aX ((Sc.flds kd)[j])
     rw [hfd] at HR fb hr
     have hr0:=hr
     obtain ⟨Aw,cw,Bw,dw,rfl,_⟩:=rep_fld hr0
     clear hr0
     rw [show Mem.sz Fld=8 from rfl] at hc
     obtain ⟨y0,y1,y2,y3,y4,y5,y6,y7⟩:=aG8 (m:=j*8) hc
     have CF:=aI (show Calls Tryz.prog 95 #[.agg #[.string (Sc.nm fd),.string (Sc.of_ fd),.string (Sc.up fd),.int .i64 (Sc.kd fd),.int .i64 (Sc.lo fd),.int .i64 (Sc.hi fd),.slice Aw (Sc.words fd).length cw,.slice Bw (Sc.wts fd).length dw]] wi λe w'=>∃t9:ByteArray,e=.returned (.string t9)/\t9.data.toList=10::Sx.lnJ (Sx.fldT fd)/\t9.size<=1000000/\Below wi.heap.size wi w' from
      (rline_any fd _ wi hr fb).mono λe w' ⟨t9,h1,h2,h3⟩=>⟨t9,h1,h2,by
       have h4:=Sx.src2_le (Sx.src2_step (Sx.fldT_ne fd) HR.out)
       rw [aK,<-h2,bs_size,bs_size] at h4
       omega,h3⟩)
     have HR1:=aI (Sx.src2_step (Sx.fldT_ne fd) HR.out)
     clear hacc hfd hr hc fb HR
     go_wp2_with (go_at_call 95;(with_reducible refine CF.out.mono ?_);rintro e w4 ⟨t9,rfl,ht9,ht9s,hb4⟩;replace HWI:=aT HWI hb4;have HT9:=aI ht9;clear hb4 ht9)
     go_roundg (gk - 1)
     case measure=>omega
     case rel=>exact ⟨j+1,_,by omega,by go_num,rfl,by rw [<-HR1.out,<-HT9.out];simp,HWI.out⟩
    .have j1:¬(j:Int) < (nf:Int):=by omega
     rw [List.drop_eq_nil_of_le (by rw [HNF.out];omega),List.map_nil,zA,<-HR2.out] at hacc
     have HR:=aI hacc
     clear hacc
     go_wp2_with fail
     go_roundg (gq - 1)
     case measure=>omega
     case rel=>exact ⟨k+1,_,by omega,by go_num,rfl,HR.out,T.out.bl.trans (HWI.out.mono T.out.bl.size)⟩
  .have k1:¬(k:Int) < (nk:Int):=by omega
   rw [List.drop_eq_nil_of_le (by rw [HNK.out];omega),zZ,zA,<-HRK.out] at hacc
   have HR:=aI hacc
   clear hacc
   obtain ⟨RR,hRR⟩:=aX (x.2.2.2.map Sx.rulL)
   rw [hRR] at HR
   have HRR:=aI hRR
   clear hRR
   go_wp2_with fail
   clear z0 z1 z2 z3 k1 hlt hk
   have hTW:=T.out.bl
   have HTW:=aI hTW
   clear hTW
   go_loopg [3,7] nl (λr o i wr=>∃(k:Nat) (t:ByteArray),k+r=nl/\i=.int .i64 k/\o=.string t/\t.data.toList++10::((x.2.2.1.drop k).flatMap Sx.lifL++RR).flatMap Sx.lineT=S/\Below W0.heap.size W0 wr)
   case atStart=>exact ⟨0,t,by omega,rfl,rfl,HR.out,HTW.out⟩
   case round =>
    clear HR T HTW hts
    obtain ⟨k,t,hk,rfl,rfl,hacc,hT⟩:=hrel
    obtain ⟨wo,rfl⟩:=aY wr
    obtain ⟨gq,rfl⟩:=aY gk
    have T:=aI (TB.out.below hT)
    clear hT
    have hts:t.size<=1000000:=by have h:=Sx.src2_le hacc;rw [bs_size] at h;omega
    obtain ⟨z0,z1,z2,z3⟩:=aM4 ((T.out.fact (.head _)).2)
    by_cases hlt:k < nl
    .have hkp:k < x.2.2.1.length:=by rw [HNL.out];exact hlt
     have k0:(0:Int)<=(k:Int):=aa _
     have k1:(k:Int) < (nl:Int):=by omega
     have HR:=aI hacc
     rw [List.drop_eq_getElem_cons hkp,zR,zo] at HR
     have lb:=HOB.out.l _ (ze hkp)
     obtain ⟨b,o,us,rfl,_,hr,hc⟩:=(T.out.fact (.tail _ (.tail _ (.head _)))).get k hkp
     obtain ⟨ld,hld⟩:=aX (x.2.2.1[k])
     rw [hld] at HR lb hr
     obtain ⟨As,cs,Am,cm,rfl,hs1,hs2,_⟩:=rep_lif hr
     rw [show Mem.sz Lif=3 from rfl] at hc
     obtain ⟨c0,c1,c2⟩:=aG3 (m:=k*3) hc
     have HLB:=aI lb
     have hq1:=lb.nm;have hq2:=lb.n;have hq3:=lb.m
     obtain ⟨ns,hns⟩:=aX ld.2.1.length
     obtain ⟨nm,hnm⟩:=aX ld.2.2.length
     have HNS:=aI hns;have HNM:=aI hnm
     rw [hns] at c1 hq2;rw [hnm] at c2 hq3
     obtain ⟨Nl,hNl⟩:=aX wo.heap.size
     have hbw:Blk (wo.alloc (.cells #[.string ld.1,.slice As ns cs,.slice Am nm cm] 57)) Nl 57 #[.string ld.1,.slice As ns cs,.slice Am nm cm]:=by rw [<-hNl];exact zj wo _ _
     have hbl:Below wo.heap.size wo (wo.alloc (.cells #[.string ld.1,.slice As ns cs,.slice Am nm cm] 57)):=(zf wo.heap.size wo).alloc (ag _) _
     have HSS:=aI (show SlAt [] _ As ld.2.1 from hs1.keep (za hbl))
     have HSM:=aI (show SlAt [] _ Am ld.2.2 from hs2.keep (za hbl))
     replace T:=aI (T.out.below hbl)
     have HBW:=aI hbw
     clear hns hnm hacc hld lb hr hc hs1 hs2 hbw hbl
     obtain ⟨o1,ho1⟩:∃o:ByteArray,(t++⟨#[10,108,105,102,101,32]⟩++ld.1:ByteArray)=o:=⟨_,rfl⟩
     have ho1s:o1.size<=t.size+18:=by rw [<-ho1];simp only [ByteArray.size_append];rw [show (⟨#[10,108,105,102,101,32]⟩:ByteArray).size=6 from rfl];omega
     have has1:=andS_size o1 (ns:Int) (by omega)
     have CA1:=aI (λw=>and_any o1 (ns:Int) w (by omega) (by omega))
     have HTL:=aI (show (andS o1 (ns:Int)).data.toList=t.data.toList++10::(Sx.sLife++32::Sx.bs ld.1++32::Sx.num (ns:Int)) by
      rw [andS_list,<-ho1];simp [Sx.sLife,Sx.bs])
     have HO1:=aI ho1
     have HR0:=aI (show t.data.toList++10::((Sx.sLife::Sx.bs ld.1::Sx.num (ns:Int)::ld.2.1.map Sx.bs)::((ld.2.2.map λm=>[Sx.sMove,Sx.num m.1,Sx.num m.2])++((x.2.2.1.drop (k+1)).flatMap Sx.lifL++RR))).flatMap Sx.lineT=S by rw [<-HR.out,<-HNS.out];rfl)
     clear ho1 HR
     go_upto_region 15 with fail
     generalize wo.alloc (.cells #[.string ld.1,.slice As ns cs,.slice Am nm cm] 57)=w5 at *
     clear hNl c0 c1 c2 z0 z1 z2 z3
     have hbk:=HBW.out
     obtain ⟨z0,z1⟩:=aN2 hbk.cell
     simp at z0 z1
     clear hbk
     go_upto_region 16 with (first | (rw [HO1.out];fail) | (go_at_call 94;rw [HO1.out];(with_reducible refine (CA1.out _).mono ?_);rintro e w4 ⟨rfl,hb4⟩;have HW6:=aI hb4;clear hb4 z0 z1))
     replace T:=aI (T.out.below HW6.out)
     have HSS6:=aI (HSS.out.keep (za HW6.out))
     have HSM6:=aI (HSM.out.keep (za HW6.out))
     have HBW6:=aI (HBW.out.below HW6.out HBW.out.lt)
     obtain ⟨t1,ht1⟩:=aX (andS o1 (ns:Int))
     rw [ht1] at HTL has1 ⊢
     clear HSS HSM HBW ht1 HO1 CA1 HW6
     go_wp2_with fail
     go_loopg [3,9] ns (λr o i wr=>∃(j:Nat) (u:ByteArray),j+r=ns/\i=.int .i64 j/\o=.string u/\u.data.toList=t1.data.toList++((ld.2.1.take j).flatMap λs=>32::Sx.bs s)/\u.size<=1000100+13*j/\Below w4.heap.size w4 wr)
     case atStart=>exact ⟨0,t1,by omega,rfl,rfl,by simp,by omega,zf _ _⟩
     case round =>
      obtain ⟨j,u,hj,rfl,rfl,hu,hus,hT⟩:=hrel
      obtain ⟨wi,rfl⟩:=aY wr
      have HWI:=aI hT
      have HU:=aI hu
      have hbk:=HBW6.out.below HWI.out HBW6.out.lt
      have z1:=hbk.cell 1;have z2:=hbk.cell 2
      simp at z1 z2
      clear hT hbk hu
      by_cases hlt2:j < ns
      .have hjp:j < ld.2.1.length:=by rw [HNS.out];exact hlt2
       have j0:(0:Int)<=(j:Int):=aa _
       have j1:(j:Int) < (ns:Int):=by omega
       obtain ⟨b2,o2,rfl,_,d0,_⟩:=str_at (HSS6.out.keep (za HWI.out)) j hjp
       have hx:=HLB.out.s _ (ze hjp)
       have HX:=aI (take_snoc' ld.2.1 j hjp)
       generalize ld.2.1[j]=s0 at d0 hx HX
       obtain ⟨o3,ho3⟩:∃o:ByteArray,(u++⟨#[32]⟩++s0:ByteArray)=o:=⟨_,rfl⟩
       have ho3s:o3.size<=u.size+13:=by rw [<-ho3];simp only [ByteArray.size_append];rw [show (⟨#[32]⟩:ByteArray).size=1 from rfl];omega
       have HO3:=aI ho3
       clear ho3
       go_wp2_with fail
       rw [HO3.out]
       go_roundg (gk - 1)
       case measure=>omega
       case rel=>exact ⟨j+1,o3,by omega,by go_num,rfl,by rw [<-HO3.out,HX.out,List.flatMap_append];simp [HU.out,Sx.bs],by omega,HWI.out⟩
      .have j1:¬(j:Int) < (ns:Int):=by omega
       rw [List.take_of_length_le (by rw [HNS.out];omega)] at HU
       have HR1:=aI (Sx.src2_step (List.cons_ne_nil _ _) HR0.out)
       rw [show t.data.toList++10::Sx.lnJ (Sx.sLife::Sx.bs ld.1::Sx.num (ns:Int)::ld.2.1.map Sx.bs)=u.data.toList by rw [HU.out,HTL.out];simp [Sx.lnJ,List.flatMap_map]] at HR1
       obtain ⟨R2,hR2⟩:=aX ((x.2.2.1.drop (k+1)).flatMap Sx.lifL++RR)
       rw [hR2] at HR1
       have HR2:=aI hR2
       replace T:=aI (T.out.below HWI.out)
       have HSM7:=aI (HSM6.out.keep (za HWI.out))
       have HBW7:=aI (HBW6.out.below HWI.out HBW6.out.lt)
       clear hR2 HTL has1 ho1s HU HSM6 HBW6 HWI HR0 hus
       go_wp2_with fail
       clear z1 z2
       go_loopg [3,10] nm (λr o i wr=>∃(j:Nat) (t:ByteArray),j+r=nm/\i=.int .i64 j/\o=.string t/\t.data.toList++10::(((ld.2.2.drop j).map λm=>[Sx.sMove,Sx.num m.1,Sx.num m.2])++R2).flatMap Sx.lineT=S/\Below wi.heap.size wi wr)
       case atStart=>exact ⟨0,u,by omega,rfl,rfl,HR1.out,zf _ _⟩
       case round =>
        clear HR1
        obtain ⟨j,t,hj,rfl,rfl,hacc,hT⟩:=hrel
        obtain ⟨wm,rfl⟩:=aY wr
        have HWI:=aI hT
        have hbk:=HBW7.out.below HWI.out HBW7.out.lt
        have z2:=hbk.cell 2
        simp at z2
        clear hT hbk
        have hts:t.size<=1000000:=by have h:=Sx.src2_le hacc;rw [bs_size] at h;omega
        by_cases hlt2:j < nm
        .have hjp:j < ld.2.2.length:=by rw [HNM.out];exact hlt2
         have j0:(0:Int)<=(j:Int):=aa _
         have j1:(j:Int) < (nm:Int):=by omega
         have HR:=aI hacc
         rw [List.drop_eq_getElem_cons hjp,List.map_cons,zM] at HR
         have mb:=HLB.out.v _ (ze hjp)
         obtain ⟨b2,o2,us,rfl,_,hr,hc⟩:=(HSM7.out.keep (za HWI.out)).get j hjp
         obtain ⟨md,hmd⟩:=aX (ld.2.2[j])
         rw [hmd] at HR mb hr
         obtain ⟨rfl,_⟩:=rep_mv hr
         rw [show Mem.sz (Int × Int)=2 from rfl] at hc
         have d0:wm.cell? ⟨b2,o2+j*2,none⟩=some (.int .i64 md.1):=hc 0 _ rfl
         have d1:wm.cell? ⟨b2,o2+j*2+1,none⟩=some (.int .i64 md.2):=hc 1 _ rfl
         have HD0:=aI (λ(W:World) (hb:Below wm.heap.size wm W)=>(hb.cell (zc _ _ d0)).trans d0)
         have HD1:=aI (λ(W:World) (hb:Below wm.heap.size wm W)=>(hb.cell (zc _ _ d1)).trans d1)
         have HBX:=aI (HBW7.out.below HWI.out HBW7.out.lt)
         obtain ⟨o3,ho3⟩:∃o:ByteArray,(t++⟨#[10,109,111,118,101]⟩:ByteArray)=o:=⟨_,rfl⟩
         have ho3s:o3.size<=t.size+5:=by rw [<-ho3];simp only [ByteArray.size_append];rw [show (⟨#[10,109,111,118,101]⟩:ByteArray).size=5 from rfl];omega
         have has1:=andS_size o3 md.1 (by omega)
         have CA1:=aI (λw=>and_any o3 md.1 w (by omega) (by omega))
         have CA2:=aI (λw=>and_any (andS o3 md.1) md.2 w (by omega) (by omega))
         have HR1:=aI (Sx.src2_step (List.cons_ne_nil _ _) HR.out)
         have HTL:=aI (show (andS (andS o3 md.1) md.2).data.toList=t.data.toList++10::Sx.lnJ [Sx.sMove,Sx.num md.1,Sx.num md.2] by
          rw [andS_list,andS_list,<-ho3];simp [Sx.lnJ,Sx.sMove])
         have HO3:=aI ho3
         clear hacc hmd hr hc HR ho3
         go_wp2_with fail
         clear z2 d0 d1
         apply zy (C:=λw'=>Below wm.heap.size wm w') (n:=149) (m:=17) (l1:=[_,_,_,_,_,_,_,_,_,_,_,_,_,_,_,_,_]) (l2:=[]);rfl;rfl;kernel_rfl;rfl;kernel_rfl;exact ⟨rfl,rfl,rfl,ag _,λ_ _=>rfl⟩;exact aR
         iterate 1 ((apply aJ;·(intro w' hC hf;have hbk:=HBX.out.below hC HBX.out.lt;have z2:=hbk.cell 2;simp at z2;clear hbk;have d0:=HD0.out _ hC;have d1:=HD1.out _ hC;clear hf hC;go_wp2_with (fail);apply aO;simp only [zC];exact rfl));(try simp only [zn]))
         (apply wpT_exact (c:=.string o3);· (intro w' hC hf;unfold Gives;have hbk:=HBX.out.below hC HBX.out.lt;have z2:=hbk.cell 2;simp at z2;clear hbk;have d0:=HD0.out _ hC;have d1:=HD1.out _ hC;clear hf hC;go_wp2_with fail;apply aO;simp only [zC];rw [<-HO3.out]));(try simp only [zn])
         iterate 6 ((apply aJ;·(intro w' hC hf;have hbk:=HBX.out.below hC HBX.out.lt;have z2:=hbk.cell 2;simp at z2;clear hbk;have d0:=HD0.out _ hC;have d1:=HD1.out _ hC;clear hf hC;go_wp2_with (fail);apply aO;simp only [zC];exact rfl));(try simp only [zn]))
         (apply aJ;·(intro w' hC hf;clear hf hC;go_wp2_with (go_at_call 94;(with_reducible refine (CA1.out _).mono ?_);rintro e w5 ⟨rfl,hb5⟩);apply postT_val rfl (by assumption);simp only [zC];exact rfl));(try simp only [zn])
         iterate 6 ((apply aJ;·(intro w' hC hf;have hbk:=HBX.out.below hC HBX.out.lt;have z2:=hbk.cell 2;simp at z2;clear hbk;have d0:=HD0.out _ hC;have d1:=HD1.out _ hC;clear hf hC;go_wp2_with (fail);apply aO;simp only [zC];exact rfl));(try simp only [zn]))
         (apply aJ;·(intro w' hC hf;clear hf hC;go_wp2_with (go_at_call 94;(with_reducible refine (CA2.out _).mono ?_);rintro e w5 ⟨rfl,hb5⟩);apply postT_val rfl (by assumption);simp only [zC];exact rfl));(try simp only [zn])
         (apply aJ;·(intro w' hC hf;clear hf hC;go_wp2_with (fail);apply aO;simp only [zC];exact rfl));(try simp only [zn])
         apply wpT_done
         intro w8 hC _
         replace HWI:=aT HWI hC
         clear hC
         rw [<-HTL.out] at HR1
         generalize andS (andS o3 md.1) md.2=t4 at *
         go_wp2_with fail
         go_roundg (gk - 1)
         case measure=>omega
         case rel=>exact ⟨j+1,t4,by omega,by go_num,rfl,HR1.out,HWI.out⟩
        .have j1:¬(j:Int) < (nm:Int):=by omega
         rw [List.drop_eq_nil_of_le (by rw [HNM.out];omega),List.map_nil,zA,<-HR2.out] at hacc
         have HR:=aI hacc
         clear hacc
         go_wp2_with fail
         go_roundg (gq - 1)
         case measure=>omega
         case rel=>exact ⟨k+1,_,by omega,by go_num,rfl,HR.out,T.out.bl.trans (HWI.out.mono T.out.bl.size)⟩
    .have k1:¬(k:Int) < (nl:Int):=by omega
     rw [List.drop_eq_nil_of_le (by rw [HNL.out];omega),zZ,zA] at hacc
     rw [<-HRR.out,<-zK (x.2.2.2.map Sx.rulL)] at hacc
     have HR:=aI hacc
     clear hacc
     go_wp2_with fail
     clear z0 z1 z2 z3 k1 hlt hk
     have HTW:=aI T.out.bl
     go_loopg [3,11] nr (λr o i wr=>∃(k:Nat) (t:ByteArray),k+r=nr/\i=.int .i64 k/\o=.string t/\t.data.toList++10::((x.2.2.2.drop k).map Sx.rulL++[]).flatMap Sx.lineT=S/\Below W0.heap.size W0 wr)
     case atStart=>exact ⟨0,t,by omega,rfl,rfl,HR.out,HTW.out⟩
     case round =>
      clear HR T HTW hts
      obtain ⟨k,t,hk,rfl,rfl,hacc,hT⟩:=hrel
      obtain ⟨wo,rfl⟩:=aY wr
      have T:=aI (TB.out.below hT)
      clear hT
      have hts:t.size<=1000000:=by have h:=Sx.src2_le hacc;rw [bs_size] at h;omega
      obtain ⟨z0,z1,z2,z3⟩:=aM4 ((T.out.fact (.head _)).2)
      by_cases hlt:k < nr
      .have hkp:k < x.2.2.2.length:=by rw [HNR.out];exact hlt
       have k0:(0:Int)<=(k:Int):=aa _
       have k1:(k:Int) < (nr:Int):=by omega
       have HR:=aI hacc
       rw [List.drop_eq_getElem_cons hkp,List.map_cons,zM] at HR
       have rb:=HOB.out.r _ (ze hkp)
       obtain ⟨b,o,us,rfl,_,hr,hc⟩:=(T.out.fact (.tail _ (.tail _ (.tail _ (.head _))))).get k hkp
       obtain ⟨rd,hrd⟩:=aX (x.2.2.2[k])
       rw [hrd] at HR rb hr
       obtain ⟨rfl,_⟩:=rep_rul hr
       rw [show Mem.sz Rul=5 from rfl] at hc
       obtain ⟨c0,c1,c2,c3,c4⟩:=aG5 (m:=k*5) hc
       obtain ⟨Nr,hNr⟩:=aX wo.heap.size
       have hq1:=rb.nm;have hq2:=rb.k;have hq3:=rb.a;have hq4:=rb.b;have hq5:=rb.n
       have hbw:Blk (wo.alloc (.cells #[.string rd.1,.string rd.2.1,.string rd.2.2.1,.string rd.2.2.2.1,.int .i64 rd.2.2.2.2] 60)) Nr 60 #[.string rd.1,.string rd.2.1,.string rd.2.2.1,.string rd.2.2.2.1,.int .i64 rd.2.2.2.2]:=by rw [<-hNr];exact zj wo _ _
       replace T:=aI (T.out.below ((zf wo.heap.size wo).alloc (ag _) (.cells #[.string rd.1,.string rd.2.1,.string rd.2.2.1,.string rd.2.2.2.1,.int .i64 rd.2.2.2.2] 60)))
       have HBW:=aI hbw
       clear hacc hrd rb hr hc hbw
       go_upto_region 28 with fail
       generalize wo.alloc (.cells #[.string rd.1,.string rd.2.1,.string rd.2.2.1,.string rd.2.2.2.1,.int .i64 rd.2.2.2.2] 60)=w5 at *
       clear hNr c0 c1 c2 c3 c4 z0 z1 z2 z3
       have CN1:=aI (λw=>rnamed_any rd.2.2.1 w)
       have CN2:=aI (λw=>rnamed_any rd.2.2.2.1 w)
       have hn1:(Sx.orN rd.2.2.1).size<=12:=Sx.orN_sz hq3 (by decide)
       have hn2:(Sx.orN rd.2.2.2.1).size<=12:=Sx.orN_sz hq4 (by decide)
       have HN1:=aI (Sx.orN_list rd.2.2.1)
       have HN2:=aI (Sx.orN_list rd.2.2.2.1)
       obtain ⟨n1,hn1e⟩:=aX (Sx.orN rd.2.2.1)
       obtain ⟨n2,hn2e⟩:=aX (Sx.orN rd.2.2.2.1)
       rw [hn1e] at CN1 hn1 HN1
       rw [hn2e] at CN2 hn2 HN2
       obtain ⟨o3,ho3⟩:∃o:ByteArray,(t++⟨#[10,114,117,108,101,32]⟩++rd.1++⟨#[32]⟩++rd.2.1++⟨#[32]⟩:ByteArray)=o:=⟨_,rfl⟩
       have ho3s:o3.size<=t.size+40:=by rw [<-ho3];simp only [ByteArray.size_append];rw [show (⟨#[10,114,117,108,101,32]⟩:ByteArray).size=6 from rfl,show (⟨#[32]⟩:ByteArray).size=1 from rfl];omega
       obtain ⟨o4,ho4⟩:∃o:ByteArray,(o3++n1++⟨#[32]⟩++n2:ByteArray)=o:=⟨_,rfl⟩
       have ho4s:o4.size<=t.size+80:=by rw [<-ho4];simp only [ByteArray.size_append];rw [show (⟨#[32]⟩:ByteArray).size=1 from rfl];omega
       have CA1:=aI (λw=>and_any o4 rd.2.2.2.2 w (by omega) (by omega))
       have HR1:=aI (Sx.src2_step (L:=Sx.rulL rd) (List.cons_ne_nil _ _) HR.out)
       have HTL:=aI (show (andS o4 rd.2.2.2.2).data.toList=t.data.toList++10::Sx.lnJ (Sx.rulL rd) by
        rw [andS_list,<-ho4,<-ho3]
        show _=_++10::Sx.lnJ [Sx.sRule,Sx.bs rd.1,Sx.bs rd.2.1,Sx.orNone rd.2.2.1,Sx.orNone rd.2.2.2.1,Sx.num rd.2.2.2.2]
        rw [<-HN1.out,<-HN2.out]
        simp [Sx.lnJ,Sx.sRule,Sx.bs])
       have HO3:=aI ho3
       have HO4:=aI ho4
       clear hn1e hn2e ho3 ho4 HR
       go_wp2_with fail
       apply zy (C:=λw'=>Below w5.heap.size w5 w') (n:=149) (m:=23) (l1:=[_,_,_,_,_,_,_,_,_,_,_,_,_,_,_,_,_,_,_,_,_,_,_]) (l2:=[]);rfl;rfl;kernel_rfl;rfl;kernel_rfl;exact ⟨rfl,rfl,rfl,ag _,λ_ _=>rfl⟩;exact aR
       iterate 9 ((apply aJ;·(intro w' hC hf;obtain ⟨c0,c1,c2,c3,c4⟩:=aM5 (HBW.out.below hC HBW.out.lt);clear hf hC;go_wp2_with (fail);apply aO;simp only [zC];exact rfl));(try simp only [zn]))
       (apply wpT_exact (c:=.string o3);· (intro w' hC hf;unfold Gives;obtain ⟨c0,c1,c2,c3,c4⟩:=aM5 (HBW.out.below hC HBW.out.lt);clear hf hC;go_wp2_with fail;apply aO;simp only [zC];rw [<-HO3.out]));(try simp only [zn])
       iterate 2 ((apply aJ;·(intro w' hC hf;obtain ⟨c0,c1,c2,c3,c4⟩:=aM5 (HBW.out.below hC HBW.out.lt);clear hf hC;go_wp2_with (fail);apply aO;simp only [zC];exact rfl));(try simp only [zn]))
       (apply aJ;·(intro w' hC hf;clear hf hC;go_wp2_with (go_at_call 96;(with_reducible refine aS (CN1.out _) ?_));apply aO;simp only [zC];exact rfl));(try simp only [zn])
       iterate 4 ((apply aJ;·(intro w' hC hf;obtain ⟨c0,c1,c2,c3,c4⟩:=aM5 (HBW.out.below hC HBW.out.lt);clear hf hC;go_wp2_with (fail);apply aO;simp only [zC];exact rfl));(try simp only [zn]))
       (apply aJ;·(intro w' hC hf;clear hf hC;go_wp2_with (go_at_call 96;(with_reducible refine aS (CN2.out _) ?_));apply aO;simp only [zC];exact rfl));(try simp only [zn])
       (apply wpT_exact (c:=.string o4);· (intro w' hC hf;unfold Gives;obtain ⟨c0,c1,c2,c3,c4⟩:=aM5 (HBW.out.below hC HBW.out.lt);clear hf hC;go_wp2_with fail;apply aO;simp only [zC];rw [<-HO4.out]));(try simp only [zn])
       iterate 2 ((apply aJ;·(intro w' hC hf;obtain ⟨c0,c1,c2,c3,c4⟩:=aM5 (HBW.out.below hC HBW.out.lt);clear hf hC;go_wp2_with (fail);apply aO;simp only [zC];exact rfl));(try simp only [zn]))
       (apply aJ;·(intro w' hC hf;clear hf hC;go_wp2_with (go_at_call 94;(with_reducible refine (CA1.out _).mono ?_);rintro e w5 ⟨rfl,hb5⟩);apply postT_val rfl (by assumption);simp only [zC];exact rfl));(try simp only [zn])
       (apply aJ;·(intro w' hC hf;clear hf hC;go_wp2_with (fail);apply aO;simp only [zC];exact rfl));(try simp only [zn])
       apply wpT_done
       intro w8 hC _
       replace T:=aI (T.out.below hC)
       clear hC
       rw [<-HTL.out] at HR1
       generalize andS o4 rd.2.2.2.2=t4 at *
       go_wp2_with fail
       go_roundg (gk - 1)
       case measure=>omega
       case rel=>exact ⟨k+1,t4,by omega,by go_num,rfl,HR1.out,T.out.bl⟩
      .have k1:¬(k:Int) < (nr:Int):=by omega
       rw [List.drop_eq_nil_of_le (by rw [HNR.out];omega),List.map_nil,zA,zZ] at hacc
       have HAC:=aI hacc
       clear hacc
       go_wp2_with fail
       go_ret
       exact ⟨by rw [HS.out,<-HAC.out,str_eq (a:=t++⟨#[10]⟩) rfl];simp,HB.out.trans (T.out.bl.mono HB.out.size)⟩
end
section
theorem rIsName_any (s:ByteArray) (w:World) (hs:s.size<=9223372036854775807):Calls Tryz.prog 90 #[.string s] w λe w'=>e=.returned (.bool (Sx.nm s))/\w=w':=by
 rw [nm_is]
 have HL:=aI rLetter_any
 have HD:=aI rDigit_any
 obtain ⟨n,hn⟩:=aX s.size
 have hsn:s.size=n:=hn
 by_cases h1:1<=n
 .by_cases h12:n<=12
  .have h0s:0 < s.size:=by omega
   have hne:0 < s.data.toList.length:=by rw [Vm.strLn];exact h0s
   have h0:s.data.toList.headD 0=(s[0]'h0s):=by
    rw [<-Vm.str_get s 0 h0s hne]
    rw [List.headD_eq_head?_getD,List.head?_eq_getElem?,zp hne]
    rfl
   rw [h0,hn,ac h1,ac h12,Bool.true_and,Bool.true_and]
   have cl:=HL.out (s[0]'h0s)
   obtain ⟨bl,hbl⟩:=aX (Sx.letterB (s[0]'h0s))
   rw [hbl] at cl ⊢
   have CL:=aI cl
   have t1:decide ((n:Int) < 1)=false:=ad (by omega)
   have t2:decide ((12:Int) < (n:Int))=false:=ad (by omega)
   have t3:decide (n < 1)=false:=ad (by omega)
   have t4:decide (12 < n)=false:=ad (by omega)
   have k1:(0:Int) < (n:Int):=by omega
   clear cl hbl h0 hne hn hs
   cases bl
   .go_enter Tryz.func90,Tryz.ntmps90
    go_wp2_with (go_at_call 131;(with_reducible refine aS (CL.out _) ?_))
    go_ret
    exact ⟨rfl,rfl⟩
   .rw [Bool.true_and]
    obtain ⟨al,hal⟩:=aX (s.data.toList.all Sx.alnumB)
    rw [hal]
    have HA0:=aI hal
    clear hal
    go_enter Tryz.func90,Tryz.ntmps90
    go_wp2_with (go_at_call 131;(with_reducible refine aS (CL.out _) ?_))
    clear CL
    go_loopg [3] n (λr i wr=>∃k:Nat,k+r=n/\i=.int .i64 k/\wr=w/\∀j (hj:j < s.data.toList.length),j < k->Sx.alnumB s.data.toList[j]=true)
    case atStart=>exact ⟨0,by omega,rfl,rfl,λ_ _ h=>by omega⟩
    case round =>
     obtain ⟨k,hk,rfl,rfl,hall⟩:=hrel
     obtain ⟨w,rfl⟩:=aY wr
     have HA:=aI hall
     clear hall
     by_cases hlt:k < n
     .have hkd:k < s.size:=by omega
      have hget:k < s.data.toList.length:=by rw [Vm.strLn];exact hkd
      have k0:(0:Int)<=(k:Int):=aa _
      have k1:(k:Int) < (n:Int):=by omega
      have hsn2:s.data.toList[k]=s[k]:=Vm.str_get s k hkd hget
      have cl:=HL.out (s[k]'hkd)
      have cd:=HD.out (s[k]'hkd)
      obtain ⟨b1,hb1⟩:=aX (Sx.letterB (s[k]'hkd))
      obtain ⟨b2,hb2⟩:=aX (Dc.isDig (s[k]'hkd))
      rw [hb1] at cl
      rw [hb2] at cd
      have CL:=aI cl
      have CD:=aI cd
      have HAL:=aI (show Sx.alnumB s.data.toList[k]=(b1 || b2) by unfold Sx.alnumB;rw [hsn2,hb1,hb2])
      clear cl cd hb1 hb2 hsn2
      cases b1
      .cases b2
       .have HR:=aI (HA0.out.symm.trans (all_bad (b:=Sx.alnumB) hget HAL.out))
        go_wp2_with (first | (go_at_call 131;(with_reducible refine aS (CL.out _) ?_)) | (go_at_call 132;(with_reducible refine aS (CD.out _) ?_)))
        go_ret
        exact ⟨by rw [HR.out];rfl,rfl⟩
       .go_wp2_with (first | (go_at_call 131;(with_reducible refine aS (CL.out _) ?_)) | (go_at_call 132;(with_reducible refine aS (CD.out _) ?_)))
        go_roundg (gk - 1)
        case measure=>omega
        case rel =>
         refine ⟨k+1,by omega,by go_num,rfl,λq hq hlt=>?_⟩
         rcases aj q k with h' | h'
         .exact HA.out q hq h'
         .obtain rfl:q=k:=by omega
          exact HAL.out
      .go_wp2_with (first | (go_at_call 131;(with_reducible refine aS (CL.out _) ?_)) | (go_at_call 132;(with_reducible refine aS (CD.out _) ?_)))
       go_roundg (gk - 1)
       case measure=>omega
       case rel =>
        refine ⟨k+1,by omega,by go_num,rfl,λq hq hlt=>?_⟩
        rcases aj q k with h' | h'
        .exact HA.out q hq h'
        .obtain rfl:q=k:=by omega
         rw [HAL.out];rfl
     .have HR:=aI (HA0.out.symm.trans <| all_good (b:=Sx.alnumB) λq hq=>HA.out q hq (by rw [Vm.strLn] at hq;omega))
      have k1:¬(k:Int) < (n:Int):=by omega
      go_wp2_with fail
      go_ret
      exact ⟨by rw [HR.out];rfl,rfl⟩
  .rw [hn,ac h1,ad h12,Bool.true_and,Bool.false_and]
   have t1:decide ((n:Int) < 1)=false:=ad (by omega)
   have t2:decide ((12:Int) < (n:Int))=true:=ac (by omega)
   have t3:decide (n < 1)=false:=ad (by omega)
   have t4:decide (12 < n)=true:=ac (by omega)
   go_enter Tryz.func90,Tryz.ntmps90
   go_wp2_with fail
   go_ret
   exact ⟨rfl,rfl⟩
 .rw [hn,ad h1,Bool.false_and,Bool.false_and]
  have t1:decide ((n:Int) < 1)=true:=ac (by omega)
  have t3:decide (n < 1)=true:=ac (by omega)
  go_enter Tryz.func90,Tryz.ntmps90
  go_wp2_with fail
  go_ret
  exact ⟨rfl,rfl⟩
theorem rNames_any (l:List ByteArray) (A:Option Addr) (c:Nat) (w:World) (hs:SlAt [] w A l) (hm:l.length<=9223372036854775807):Calls Tryz.prog 93 #[.slice A l.length c] w λe w'=>e=.returned (.bool (l.all Sx.nm))/\w=w':=by
 have HNm:=aI rIsName_any
 obtain ⟨n,hn⟩:=aX l.length
 have HS:=aI hs
 have HN:=aI hn
 rw [hn] at hm ⊢
 clear hs hn
 obtain ⟨al,hal⟩:=aX (l.all Sx.nm)
 rw [hal]
 have HA0:=aI hal
 clear hal
 go_enter Tryz.func93,Tryz.ntmps93
 go_wp2_with fail
 go_loopg [3] n (λr i wr=>∃k:Nat,k+r=n/\i=.int .i64 k/\wr=w/\∀j (hj:j < l.length),j < k->Sx.nm l[j]=true)
 case atStart=>exact ⟨0,by omega,rfl,rfl,λ_ _ h=>by omega⟩
 case round =>
  obtain ⟨k,hk,rfl,rfl,hall⟩:=hrel
  obtain ⟨w,rfl⟩:=aY wr
  have HA:=aI hall
  clear hall
  by_cases hlt:k < n
  .have hkp:k < l.length:=by rw [HN.out];exact hlt
   have k0:(0:Int)<=(k:Int):=aa _
   have k1:(k:Int) < (n:Int):=by omega
   obtain ⟨b,o,rfl,_,c0,hin⟩:=str_at HS.out k hkp
   have cv:=λw=>HNm.out l[k] w hin
   obtain ⟨bb,hbb⟩:=aX (Sx.nm l[k])
   rw [hbb] at cv
   have CV:=aI cv
   have HBB:=aI hbb
   obtain ⟨x0,hx0⟩:=aX (l[k])
   rw [hx0] at CV c0
   clear cv hbb hx0 hin
   cases bb
   .have HR:=aI (HA0.out.symm.trans (all_bad (b:=Sx.nm) hkp HBB.out))
    go_wp2_with (go_at_call 90;(with_reducible refine aS (CV.out _) ?_))
    go_ret
    exact ⟨by rw [HR.out];rfl,rfl⟩
   .go_wp2_with (go_at_call 90;(with_reducible refine aS (CV.out _) ?_))
    go_roundg (gk - 1)
    case measure=>omega
    case rel =>
     refine ⟨k+1,by omega,by go_num,rfl,λq hq hlt=>?_⟩
     rcases aj q k with h' | h'
     .exact HA.out q hq h'
     .obtain rfl:q=k:=by omega
      exact HBB.out
  .have HR:=aI (HA0.out.symm.trans <| all_good (b:=Sx.nm) λq hq=>HA.out q hq (by rw [HN.out] at hq;omega))
   have k1:¬(k:Int) < (n:Int):=by omega
   go_wp2_with fail
   go_ret
   exact ⟨by rw [HR.out];rfl,rfl⟩
end
end Go.Proofs.YtobcnhmhgoccnaaGreatDoor
