/- Parts of the proof, joined: SxL6, SxV3, SxV3a, SxV3b, SxV4, SxV4a, SxV4b, SxV5, SxV6, SxLaw7, SxP9, SxE1. -/
import Derived.Test.YtmplaikgbeeikaaGreatDoorS8
set_option maxRecDepth 100000
set_option maxHeartbeats 16000000
set_option linter.unusedVariables false
set_option linter.unusedSimpArgs false
set_option linter.unusedSectionVars false
namespace Go.Proofs.YtmplaikgbeeikaaGreatDoor
open Go Go.RowKit
section
theorem SEnv.to {w w':World} (h:SEnv w) (hb:Below w.heap.size w w'):SEnv w':=h.below hb h.sz
theorem Bld.hnew {w W:World} {G M:List Nat} {bx:List Box} {L:List (List Nat->World->Prop)} (h:Held w G M bx L W) {N:Nat} (hN:W.heap.size=N):Bld w G (N::M) bx L N [] (W.alloc (.cells #[.pointer none,.slice none 0 0] 141)):=by subst hN;exact Bld.new h
section
variable {w W:World} {G M:List Nat} {bx:List Box} {L:List (List Nat->World->Prop)} {b:Nat} {l:List UInt8}
theorem Bld.add (h:Bld w G M bx L b l W) {P:List Nat->World->Prop} (hk:Keeps P) (hp:P M W):Bld w G M bx (P::L) b l W:=by
 obtain ⟨p,v,hv,h⟩:=h.it
 exact ⟨⟨p,v,hv,h.add hk hp⟩⟩
theorem Bld.less {L':List (List Nat->World->Prop)} (h:Bld w G M bx L b l W) (hL:∀ P∈L',P∈L):Bld w G M bx L' b l W:=by
 obtain ⟨p,v,hv,h⟩:=h.it
 exact ⟨⟨p,v,hv,h.less hL⟩⟩
theorem Bld.ltail {P:List Nat->World->Prop} (h:Bld w G M bx (P::L) b l W):Bld w G M bx L b l W:=h.less fun _ hP=>.tail _ hP
end
theorem source_any (x:Sch) (us:List Value) (w:World) (h:Mem.rep [] w x us) (hok:Sx.okB x=true) (he:SEnv w):Calls Tryz.prog 51 #[.agg us.toArray] w fun e w'=>e=.returned (.string ⟨(Sx.source x).toArray⟩)/\Below w.heap.size w w':=by
 obtain ⟨A,c,B,d,C,e,rfl,s1,s2,s3,a1,b1,b2,b3,b4,b5,b6⟩:=rep_sch h
 have OB:=Sx.okB_bd hok
 have HOB:=aI OB
 have HOK:=aI hok
 have hx0:=OB.v
 have hnk:=OB.nk;have hnl:=OB.nl;have hnr:=OB.nr
 obtain ⟨S,hS⟩:=aX (Sx.source x)
 have hSl:S.length<=1000000:=by rw [<-hS];exact Sx.source_le OB
 have HS0:=aI (show ([]:Sx.Txt)++(Sx.linesL x).flatMap Sx.lineT=S from hS)
 have HS:=aI hS
 obtain ⟨nk,hk⟩:=aX ((Sc.kinds x).length)
 obtain ⟨nl,hl⟩:=aX x.2.2.1.length
 obtain ⟨nr,hr⟩:=aX x.2.2.2.length
 have HNK:=aI hk;have HNL:=aI hl;have HNR:=aI hr
 rw [hk] at hnk;rw [hl] at hnl;rw [hr] at hnr
 obtain ⟨N,hN⟩:=aX w.heap.size
 obtain ⟨W0,hW0⟩:=aX (w.alloc (.cells #[.int .i64 x.1,.slice A nk c,.slice B nl d,.slice C nr e] 28))
 have hb0:Below w.heap.size w W0:=by rw [<-hW0];exact aP _ _
 have hbk:Blk W0 N 28 #[.int .i64 x.1,.slice A nk c,.slice B nl d,.slice C nr e]:=by rw [<-hW0,<-hN];exact Blk.new w _ _
 have T0:=aI (((((held0 W0 [] (fun _ h=>by cases h)).add (keeps_sl C x.2.2.2) (s3.keep (Chg.of_below hb0))).add (keeps_sl B x.2.2.1) (s2.keep (Chg.of_below hb0))).add (keeps_sl A (Sc.kinds x)) (s1.keep (Chg.of_below hb0))).add (P:=fun M W=>N∉M/\Blk W N 28 #[.int .i64 x.1,.slice A nk c,.slice B nl d,.slice C nr e]) (keeps_blk _ _ _) ⟨by simp,hbk⟩)
 have HB:=aI hb0
 have HE:=aI (he.to hb0)
 have HW0:=aI hW0
 have HN:=aI hN
 show Calls Tryz.prog 51 #[.agg #[.int .i64 x.1,.slice A (Sc.kinds x).length c,.slice B x.2.2.1.length d,.slice C x.2.2.2.length e]] w _
 rw [hk,hl,hr]
 clear h s1 s2 s3 a1 b1 b2 b3 b4 b5 b6 hk hl hr hbk hb0 hW0 hN he OB hS
 go_enter Tryz.func51,Tryz.ntmps51
 go_upto_region 1 with fail
 rw [HW0.out,HN.out]
 replace HW0:=aI (HW0.out)
 obtain ⟨w1,rfl⟩:=aY W0
 obtain ⟨Nb,hNb⟩:=aX w1.heap.size
 have T:=aI (Bld.hnew T0.out hNb)
 have HNb:=aI hNb
 clear T0 hNb
 go_upto_region 2 with fail
 rw [HNb.out]
 generalize w1.alloc (.cells #[.pointer none,.slice none 0 0] 141)=w2 at *
 have hbk:=(T.out.fact (.head _)).2
 have z0:=hbk.cell 0
 simp at z0
 clear hbk
 obtain ⟨acc,hacc0⟩:∃ a:Sx.Txt,[]=a:=⟨_,rfl⟩
 rw [hacc0] at T HS0
 clear hacc0
 have HFT:=aI (show ∀ a∈([.n x.1]:List Sx.Av),a.fit by
  intro a ha
  simp only [List.mem_cons,List.not_mem_nil,or_false] at ha
  subst ha
  ·exact (show -1000000000<=x.1/\x.1<=1000000000 by omega))
 have CL:=aI (fun (W:World) (hb:Below w1.heap.size w1 W)=>show Calls Tryz.prog 104 #[.string ⟨#[115,99,104,101,109,97]⟩,.slice (some ⟨W.heap.size,0,none⟩) 1 1] (W.alloc (.cells #[.iface 3 (.int .i64 x.1)] 20)) fun e w'=>e=.returned (.string ⟨(Sx.lineT [Sx.sSchema,Sx.num x.1]).toArray⟩)/\Below W.heap.size W w' from line_new ⟨#[115,99,104,101,109,97]⟩ [.n x.1] W HFT.out (Nat.le_of_ble_eq_true rfl) (by decide) (HE.out.t.below hb HE.out.t.sz))
 obtain ⟨d9,hd9⟩:∃ d:ByteArray,(⟨(Sx.lineT [Sx.sSchema,Sx.num x.1]).toArray⟩:ByteArray)=d:=⟨_,rfl⟩
 rw [hd9] at CL
 have HD9:=aI (show d9.data.toList=Sx.lineT [Sx.sSchema,Sx.num x.1] by rw [<-hd9])
 have HR:=aI (Sx.src_step (l:=[Sx.sSchema,Sx.num x.1]) HS0.out)
 have hds:acc.length+d9.size<=1000000:=by
  have h:=Sx.src_le HR.out
  rw [aK,<-HD9.out,strLen] at h
  omega
 clear hd9 HFT HS0
 go_upto_region 3 with (first | (go_at_call 104;(with_reducible refine (CL.out _ T.out.bl).mono ?_);rintro e w2 ⟨rfl,hb2⟩;replace T:=aI (T.out.below hb2);clear hb2 z0) | (go_at_call 103;(with_reducible refine (writeString_any d9 T.out (by omega)).mono ?_);rintro e w3 ⟨rfl,M3,hT3,_⟩;replace T:=aI hT3;clear hT3))
 rw [HD9.out] at T
 obtain ⟨RK,hRK⟩:=aX (x.2.2.1.flatMap Sx.lifL++x.2.2.2.map Sx.rulL)
 rw [hRK] at HR
 have HRK:=aI hRK
 generalize acc++Sx.lineT [Sx.sSchema,Sx.num x.1]=acc at *
 have hbk:=(T.out.fact (.head _)).2
 have z1:=hbk.cell 1
 simp at z1
 clear hbk HD9 CL hRK hds
 go_wp2_with fail
 clear z1
 go_loopg [26] nk (fun r i wr=>∃ (k:Nat) (acc:Sx.Txt) (M:List Nat),k+r=nk/\i=.int .i64 k/\acc++(((Sc.kinds x).drop k).flatMap Sx.kndL++RK).flatMap Sx.lineT=S/\Bld w1 [] M [] [fun M W=>N∉M/\Blk W N 28 #[.int .i64 x.1,.slice A nk c,.slice B nl d,.slice C nr e],fun M W=>SlAt M W A (Sc.kinds x),fun M W=>SlAt M W B x.2.2.1,fun M W=>SlAt M W C x.2.2.2] Nb acc wr)
 case atStart=>exact ⟨0,acc,_,by omega,rfl,HR.out,T.out⟩
 case round =>
  clear HR T
  obtain ⟨k,acc,M,hk,rfl,hacc,hT⟩:=hrel
  obtain ⟨wo,rfl⟩:=aY wr
  obtain ⟨gq,rfl⟩:=aY gk
  have T:=aI hT
  clear hT
  by_cases hlt:k < nk
  ·have hkp:k < (Sc.kinds x).length:=by rw [HNK.out];exact hlt
   have k0:(0:Int)<=(k:Int):=aa _
   have k1:(k:Int) < (nk:Int):=by omega
   have HR:=aI hacc
   rw [List.drop_eq_getElem_cons hkp,List.flatMap_cons,List.append_assoc] at HR
   have kb:=HOB.out.k _ (List.getElem_mem hkp)
   obtain ⟨b,o,F,cf,rfl,_,c0,c1,c2,c3,hsl,_⟩:=knd_at (T.out.fact (.tail _ (.head _))) k hkp
   obtain ⟨kd,hkd⟩:=aX ((Sc.kinds x)[k])
   rw [hkd] at c0 c1 c2 c3 hsl HR kb
   have HKB:=aI kb
   have hq1:=kb.nm;have hq2:=kb.lo;have hq3:=kb.hi
   obtain ⟨nf,hnf⟩:=aX ((Sc.flds kd).length)
   have HNF:=aI hnf
   have hq4:=kb.n
   rw [hnf] at c3 hq4
   obtain ⟨Nk,hNk⟩:=aX wo.heap.size
   replace T:=aI ((T.out.add (keeps_sl F (Sc.flds kd)) hsl).newBox #[.string kd.1,.int .i64 kd.2.1,.int .i64 kd.2.2.1,.slice F nf cf] 49 hNk)
   clear hnf hacc hkd kb hsl
   go_upto_region 6 with fail
   generalize wo.alloc (.cells #[.string kd.1,.int .i64 kd.2.1,.int .i64 kd.2.2.1,.slice F nf cf] 49)=w5 at *
   clear hNk c0 c1 c2 c3
   have hbk:=T.out.box (.head _)
   obtain ⟨z0,z1,z2⟩:=aN3 hbk.cell
   simp at z0 z1 z2
   clear hbk
   have HR0:=aI (show acc++([Sx.sKind,Sx.bs kd.1,Sx.num kd.2.1,Sx.num kd.2.2.1]::((Sc.flds kd).map Sx.fldT++(((Sc.kinds x).drop (k+1)).flatMap Sx.kndL++RK))).flatMap Sx.lineT=S from HR.out)
   clear HR
   have HFT:=aI (show ∀ a∈([.s kd.1,.n kd.2.1,.n kd.2.2.1]:List Sx.Av),a.fit by
    intro a ha
    simp only [List.mem_cons,List.not_mem_nil,or_false] at ha
    rcases ha with rfl | rfl | rfl
    ·exact (show ByteArray.size kd.1<=100 by omega)
    ·exact (show -1000000000<=kd.2.1/\kd.2.1<=1000000000 by omega)
    ·exact (show -1000000000<=kd.2.2.1/\kd.2.2.1<=1000000000 by omega))
   have CL:=aI (fun (W:World) (hb:Below w1.heap.size w1 W)=>show Calls Tryz.prog 104 #[.string ⟨#[107,105,110,100]⟩,.slice (some ⟨W.heap.size,0,none⟩) 3 3] (W.alloc (.cells #[.iface 9 (.string kd.1),.iface 3 (.int .i64 kd.2.1),.iface 3 (.int .i64 kd.2.2.1)] 20)) fun e w'=>e=.returned (.string ⟨(Sx.lineT [Sx.sKind,Sx.bs kd.1,Sx.num kd.2.1,Sx.num kd.2.2.1]).toArray⟩)/\Below W.heap.size W w' from line_new ⟨#[107,105,110,100]⟩ [.s kd.1,.n kd.2.1,.n kd.2.2.1] W HFT.out (Nat.le_of_ble_eq_true rfl) (by decide) (HE.out.t.below hb HE.out.t.sz))
   obtain ⟨d9,hd9⟩:∃ d:ByteArray,(⟨(Sx.lineT [Sx.sKind,Sx.bs kd.1,Sx.num kd.2.1,Sx.num kd.2.2.1]).toArray⟩:ByteArray)=d:=⟨_,rfl⟩
   rw [hd9] at CL
   have HD9:=aI (show d9.data.toList=Sx.lineT [Sx.sKind,Sx.bs kd.1,Sx.num kd.2.1,Sx.num kd.2.2.1] by rw [<-hd9])
   have HR1:=aI (Sx.src_step (l:=[Sx.sKind,Sx.bs kd.1,Sx.num kd.2.1,Sx.num kd.2.2.1]) HR0.out)
   have hds:acc.length+d9.size<=1000000:=by
    have h:=Sx.src_le HR1.out
    rw [aK,<-HD9.out,strLen] at h
    omega
   clear hd9 HFT HR0
   go_upto_region 7 with (first | (go_at_call 104;(with_reducible refine (CL.out _ T.out.bl).mono ?_);rintro e w2 ⟨rfl,hb2⟩;replace T:=aI (T.out.below hb2);clear hb2 z0 z1 z2) | (go_at_call 103;(with_reducible refine (writeString_any d9 T.out (by omega)).mono ?_);rintro e w3 ⟨rfl,M3,hT3,_⟩;replace T:=aI hT3;clear hT3))
   rw [HD9.out] at T
   obtain ⟨R2,hR2⟩:=aX (((Sc.kinds x).drop (k+1)).flatMap Sx.kndL++RK)
   rw [hR2] at HR1
   have HR2:=aI hR2
   generalize acc++Sx.lineT [Sx.sKind,Sx.bs kd.1,Sx.num kd.2.1,Sx.num kd.2.2.1]=acc1 at *
   have z3:=(T.out.box (.head _)).cell 3
   simp at z3
   replace T:=aI T.out.rest
   clear HD9 CL hR2 hds
   go_wp2_with fail
   clear z3
   go_loopg [45] nf (fun r i wr=>∃ (j:Nat) (acc:Sx.Txt) (M:List Nat),j+r=nf/\i=.int .i64 j/\acc++(((Sc.flds kd).drop j).map Sx.fldT++R2).flatMap Sx.lineT=S/\Bld w1 [] M [] ((fun M W=>SlAt M W F (Sc.flds kd))::[fun M W=>N∉M/\Blk W N 28 #[.int .i64 x.1,.slice (some ⟨b,o,none⟩) nk c,.slice B nl d,.slice C nr e],fun M W=>SlAt M W (some ⟨b,o,none⟩) (Sc.kinds x),fun M W=>SlAt M W B x.2.2.1,fun M W=>SlAt M W C x.2.2.2]) Nb acc wr)
   case atStart=>exact ⟨0,acc1,_,by omega,rfl,HR1.out,T.out⟩
   case round =>
    clear HR1 T
    obtain ⟨j,acc,M,hj,rfl,hacc,hT⟩:=hrel
    obtain ⟨wi,rfl⟩:=aY wr
    have T:=aI hT
    clear hT
    by_cases hlt2:j < nf
    ·have hjp:j < (Sc.flds kd).length:=by rw [HNF.out];exact hlt2
     have j0:(0:Int)<=(j:Int):=aa _
     have j1:(j:Int) < (nf:Int):=by omega
     have HR:=aI hacc
     rw [List.drop_eq_getElem_cons hjp,List.map_cons,List.cons_append] at HR
     have fb:=HKB.out.f _ (List.getElem_mem hjp)
     obtain ⟨b2,o2,us,rfl,_,hr,hc⟩:=(T.out.fact (.head _)).get j hjp
     obtain ⟨fd,hfd⟩:=aX ((Sc.flds kd)[j])
     rw [hfd] at HR fb hr
     have hr0:=hr
     obtain ⟨Aw,cw,Bw,dw,rfl,_⟩:=rep_fld hr0
     clear hr0
     rw [show Mem.sz Fld=8 from rfl] at hc
     obtain ⟨y0,y1,y2,y3,y4,y5,y6,y7⟩:=aG8 (m:=j*8) hc
     obtain ⟨Nf,hNf⟩:=aX wi.heap.size
     replace T:=aI ((T.out.add (keeps_rep fd _) hr).newBox #[.string (Sc.nm fd),.string (Sc.of_ fd),.string (Sc.up fd),.int .i64 (Sc.kd fd),.int .i64 (Sc.lo fd),.int .i64 (Sc.hi fd),.slice Aw (Sc.words fd).length cw,.slice Bw (Sc.wts fd).length dw] 52 hNf)
     have HFB:=aI fb
     clear hacc hfd hr hc fb
     go_upto_region 10 with fail
     generalize wi.alloc (.cells #[.string (Sc.nm fd),.string (Sc.of_ fd),.string (Sc.up fd),.int .i64 (Sc.kd fd),.int .i64 (Sc.lo fd),.int .i64 (Sc.hi fd),.slice Aw (Sc.words fd).length cw,.slice Bw (Sc.wts fd).length dw] 52)=w6 at *
     clear hNf y0 y1 y2 y3 y4 y5 y6 y7
     have hbk:=T.out.box (.head _)
     obtain ⟨z0,z1,z2,z3,z4,z5,z6,z7⟩:=aN8 hbk.cell
     simp at z0 z1 z2 z3 z4 z5 z6 z7
     clear hbk
     have CF:=aI (show Calls Tryz.prog 105 #[.agg #[.string (Sc.nm fd),.string (Sc.of_ fd),.string (Sc.up fd),.int .i64 (Sc.kd fd),.int .i64 (Sc.lo fd),.int .i64 (Sc.hi fd),.slice Aw (Sc.words fd).length cw,.slice Bw (Sc.wts fd).length dw]] w6 fun e w'=>e=.returned (.string ⟨(Sx.lineT (Sx.fldT fd)).toArray⟩)/\Below w6.heap.size w6 w' from pfield_any fd _ w6 (Mem.sub (T.out.fact (.head _)) (fun g hg=>by cases hg)) HFB.out (HE.out.to T.out.bl))
     obtain ⟨d9,hd9⟩:∃ d:ByteArray,(⟨(Sx.lineT (Sx.fldT fd)).toArray⟩:ByteArray)=d:=⟨_,rfl⟩
     rw [hd9] at CF
     have HD9:=aI (show d9.data.toList=Sx.lineT (Sx.fldT fd) by rw [<-hd9])
     have HR1:=aI (Sx.src_step HR.out)
     have hds:acc.length+d9.size<=1000000:=by
      have h:=Sx.src_le HR1.out
      rw [aK,<-HD9.out,strLen] at h
      omega
     clear hd9 HR
     go_wp2_with (first | (go_at_call 105;(with_reducible refine (CF.out).mono ?_);rintro e w2 ⟨rfl,hb2⟩;replace T:=aI (T.out.below hb2);clear hb2 z0 z1 z2 z3 z4 z5 z6 z7) | (go_at_call 103;(with_reducible refine (writeString_any d9 T.out (by omega)).mono ?_);rintro e w3 ⟨rfl,M3,hT3,_⟩;replace T:=aI hT3;clear hT3))
     rw [HD9.out] at T
     go_roundg (gk - 1)
     case measure=>omega
     case rel=>exact ⟨j+1,_,_,by omega,by go_num,HR1.out,T.out.rest.ltail⟩
    ·have j1:¬ (j:Int) < (nf:Int):=by omega
     rw [List.drop_eq_nil_of_le (by rw [HNF.out];omega),List.map_nil,List.nil_append,<-HR2.out] at hacc
     have HR:=aI hacc
     clear hacc
     go_wp2_with fail
     go_roundg (gq - 1)
     case measure=>omega
     case rel=>exact ⟨k+1,_,_,by omega,by go_num,HR.out,T.out.ltail⟩
  ·have k1:¬ (k:Int) < (nk:Int):=by omega
   rw [List.drop_eq_nil_of_le (by rw [HNK.out];omega),List.flatMap_nil,List.nil_append] at hacc
   rw [<-HRK.out] at hacc
   have HR:=aI hacc
   clear hacc
   obtain ⟨RR,hRR⟩:=aX (x.2.2.2.map Sx.rulL)
   rw [hRR] at HR
   have HRR:=aI hRR
   have hbk:=(T.out.fact (.head _)).2
   have z2:=hbk.cell 2
   simp at z2
   clear hbk hRR
   go_wp2_with fail
   clear z2 k1 hlt hk
   go_loopg [57] nl (fun r i wr=>∃ (k:Nat) (acc:Sx.Txt) (M:List Nat),k+r=nl/\i=.int .i64 k/\acc++((x.2.2.1.drop k).flatMap Sx.lifL++RR).flatMap Sx.lineT=S/\Bld w1 [] M [] [fun M W=>N∉M/\Blk W N 28 #[.int .i64 x.1,.slice A nk c,.slice B nl d,.slice C nr e],fun M W=>SlAt M W A (Sc.kinds x),fun M W=>SlAt M W B x.2.2.1,fun M W=>SlAt M W C x.2.2.2] Nb acc wr)
   case atStart=>exact ⟨0,acc,_,by omega,rfl,HR.out,T.out⟩
   case round =>
    clear HR T
    obtain ⟨k,acc,M,hk,rfl,hacc,hT⟩:=hrel
    obtain ⟨wo,rfl⟩:=aY wr
    obtain ⟨gq,rfl⟩:=aY gk
    have T:=aI hT
    clear hT
    by_cases hlt:k < nl
    ·have hkp:k < x.2.2.1.length:=by rw [HNL.out];exact hlt
     have k0:(0:Int)<=(k:Int):=aa _
     have k1:(k:Int) < (nl:Int):=by omega
     have HR:=aI hacc
     rw [List.drop_eq_getElem_cons hkp,List.flatMap_cons,List.append_assoc] at HR
     have lb:=HOB.out.l _ (List.getElem_mem hkp)
     obtain ⟨b,o,us,rfl,_,hr,hc⟩:=(T.out.fact (.tail _ (.tail _ (.head _)))).get k hkp
     obtain ⟨ld,hld⟩:=aX (x.2.2.1[k])
     rw [hld] at HR lb hr
     obtain ⟨As,cs,Am,cm,rfl,hs1,hs2,_⟩:=rep_lif hr
     rw [show Mem.sz Lif=3 from rfl] at hc
     obtain ⟨c0,c1,c2⟩:=aG3 (m:=k*3) hc
     have HLB:=aI lb
     have hq1:=lb.nm;have hq2:=lb.n;have hq3:=lb.m
     obtain ⟨ns,hns⟩:=aX ld.2.1.length
     obtain ⟨nm,hnm⟩:=aX ld.2.2.length
     have HNS:=aI hns;have HNM:=aI hnm
     rw [hns] at c1 hq2;rw [hnm] at c2 hq3
     obtain ⟨Nl,hNl⟩:=aX wo.heap.size
     replace T:=aI (((T.out.add (keeps_sl Am ld.2.2) hs2).add (keeps_sl As ld.2.1) hs1).newBox #[.string ld.1,.slice As ns cs,.slice Am nm cm] 55 hNl)
     clear hns hnm hacc hld lb hr hc hs1 hs2
     go_upto_region 16 with fail
     generalize wo.alloc (.cells #[.string ld.1,.slice As ns cs,.slice Am nm cm] 55)=w5 at *
     clear hNl c0 c1 c2
     have hbk:=T.out.box (.head _)
     obtain ⟨z0,z1⟩:=aN2 hbk.cell
     simp at z0 z1
     clear hbk
     have HSS:=aI (show SlAt [] w5 As ld.2.1 from (T.out.fact (.head _)).sub (fun g hg=>by cases hg))
     obtain ⟨Mr,hTR,_⟩:=((held0 w5 [] (fun _ h=>by cases h)).add (keeps_sl As ld.2.1) HSS.out).take (aP _ _) (World.ownsRow_lit (base:=w5.heap.size) (size:=1) (e:=20) w5 #[.iface 9 (.string ld.1),.iface 3 (.int .i64 (ns:Int))] 2 (ag _) (by decide) rfl)
     have TR:=aI (show HRow w5 [] Mr [] [fun M W=>SlAt M W As ld.2.1] 20 1 (.slice (some ⟨w5.heap.size,0,none⟩) 2 2) 2 (avCells ([.s ld.1,.n (ns:Int)]++(ld.2.1.take 0).map Sx.Av.s)) _ from hTR)
     clear hTR
     go_upto_region 17 with fail
     generalize w5.alloc (.cells #[.iface 9 (.string ld.1),.iface 3 (.int .i64 (ns:Int))] 20)=w6 at *
     clear z0 z1
     have HB6:=aI TR.out.h.bl
     have z1:=((T.out.box (.head _)).below HB6.out (T.out.box (.head _)).lt).cell 1
     simp at z1
     go_wp2_with fail
     clear z1
     go_loopg [10,72] ns (fun r v i wr=>∃ (j:Nat) (M:List Nat),j+r=ns/\i=.int .i64 j/\HRow w5 [] M [] [fun M W=>SlAt M W As ld.2.1] 20 1 v (2+j) (avCells ([.s ld.1,.n (ns:Int)]++(ld.2.1.take j).map Sx.Av.s)) wr)
     case atStart=>exact ⟨0,_,by omega,rfl,TR.out⟩
     case round =>
      clear TR HB6
      obtain ⟨j,M6,hj,rfl,hT⟩:=hrel
      obtain ⟨wi,rfl⟩:=aY wr
      have TR:=aI hT
      clear hT
      obtain ⟨A4,c4,rfl⟩:=own_form TR.out.own
      by_cases hlt2:j < ns
      ·have hjp:j < ld.2.1.length:=by rw [HNS.out];exact hlt2
       have j0:(0:Int)<=(j:Int):=aa _
       have j1:(j:Int) < (ns:Int):=by omega
       obtain ⟨b2,o2,rfl,_,d0,_⟩:=str_at (TR.out.h.fact (.head _)) j hjp
       have HX:=aI (show avCells ([.s ld.1,.n (ns:Int)]++(ld.2.1.take j).map Sx.Av.s)++[.iface 9 (.string ld.2.1[j])]=avCells ([.s ld.1,.n (ns:Int)]++(ld.2.1.take (j+1)).map Sx.Av.s) by
        rw [take_snoc' ld.2.1 j hjp,List.map_append,<-List.append_assoc];exact (avCells_append _ [Sx.Av.s ld.2.1[j]]).symm)
       generalize ld.2.1[j]=s0 at d0 HX
       obtain ⟨i0,hI,hz0,hz1,hz2⟩:=info_parts infoAny
       have HII:=aI (show _/\_/\_/\_ from ⟨hI,hz0,hz1,hz2⟩)
       clear hI hz0 hz1 hz2
       go_wp2_with (at_builtin;obtain ⟨hI,hz0,hz1,hz2⟩:=HII.out;refine wpList_append_row (by rfl) _ _ 143 (by rfl) 20 i0 _ 1 16 Tryz.underlying143 hI hz0 hz1 hz2 rfl (by decide) (TR.out.below (aP _ _)) (by rfl) _ _ 1 1 [.iface 9 (.string s0)] (by rfl) (reads_blk (Blk.new _ _ _) rfl) (by simp [Value.oneCell']) (by unfold maxLen;omega) (by omega) ?_;intro v7 w7 M7 h7 _;rw [HX.out] at h7;replace TR:=aI h7;clear h7 hI hz0 hz1 hz2)
       go_roundg (gk - 1)
       case measure=>omega
       case rel=>exact ⟨j+1,_,by omega,by go_num,TR.out⟩
      ·have j1:¬ (j:Int) < (ns:Int):=by omega
       obtain rfl:j=ns:=by omega
       rw [List.take_of_length_le (Nat.le_of_eq HNS.out)] at TR
       have hfit:∀ a∈([.s ld.1,.n (j:Int)]++ld.2.1.map Sx.Av.s:List Sx.Av),a.fit:=fun a ha=>by
        rcases List.mem_append.1 ha with ha | ha
        ·simp only [List.mem_cons,List.not_mem_nil,or_false] at ha
         rcases ha with rfl | rfl
         ·exact (show ld.1.size<=100 by omega)
         ·exact (show -1000000000<=(j:Int)/\(j:Int)<=1000000000 by omega)
        ·obtain ⟨s,hs,rfl⟩:=List.mem_map.1 ha
         exact Nat.le_trans (HLB.out.s s hs) (by decide)
       have hfl:([.s ld.1,.n (j:Int)]++ld.2.1.map Sx.Av.s:List Sx.Av).length=2+j:=by rw [aK,List.length_map,HNS.out];rfl
       obtain ⟨A5,c5,hv,hc1,hc2,hF⟩:=TR.out.freeze (α:=Sx.Av) (l:=[.s ld.1,.n (j:Int)]++ld.2.1.map Sx.Av.s) rfl hfl.symm (flat_avs hfit) (fun g hg=>by cases hg)
       injection hv with hv1 hv2 hv3
       subst hv1 hv3
       have CL:=aI (line_any ⟨#[108,105,102,101]⟩ ([.s ld.1,.n (j:Int)]++ld.2.1.map Sx.Av.s) A4 c4 wi ((hF.fact (.head _)).sub (fun g hg=>by cases hg)) (fun a ha=>(hfit a ha).ok) (by rw [hfl];omega) (by decide) (HE.out.to (T.out.bl.trans (TR.out.h.bl.mono T.out.bl.size))).t)
       rw [hfl,show (Sx.bs ⟨#[108,105,102,101]⟩::([.s ld.1,.n (j:Int)]++ld.2.1.map Sx.Av.s:List Sx.Av).map Sx.Av.t)=(Sx.sLife::Sx.bs ld.1::Sx.num (j:Int)::ld.2.1.map Sx.bs) by rw [List.map_append,List.map_map];rfl] at CL
       have HR0:=aI (show acc++((Sx.sLife::Sx.bs ld.1::Sx.num (j:Int)::ld.2.1.map Sx.bs)::((ld.2.2.map fun m=>[Sx.sMove,Sx.num m.1,Sx.num m.2])++((x.2.2.1.drop (k+1)).flatMap Sx.lifL++RR))).flatMap Sx.lineT=S by rw [<-HR.out,<-HNS.out];rfl)
       obtain ⟨L9,hL9⟩:∃ l:List Sx.Txt,(Sx.sLife::Sx.bs ld.1::Sx.num (j:Int)::ld.2.1.map Sx.bs)=l:=⟨_,rfl⟩
       rw [hL9] at CL HR0
       obtain ⟨d9,hd9⟩:∃ d:ByteArray,(⟨(Sx.lineT L9).toArray⟩:ByteArray)=d:=⟨_,rfl⟩
       rw [hd9] at CL
       have HD9:=aI (show d9.data.toList=Sx.lineT L9 by rw [<-hd9])
       have HR1:=aI (Sx.src_step HR0.out)
       have hds:acc.length+d9.size<=1000000:=by
        have h:=Sx.src_le HR1.out
        rw [aK,<-HD9.out,strLen] at h
        omega
       replace T:=aI (T.out.below TR.out.h.bl)
       obtain ⟨n9,hn9⟩:=aX (2+j)
       rw [hn9] at CL ⊢
       clear hd9 HR0 hL9 hF hc1 hc2 hfit hfl hn9 TR
       go_upto_region 23 with (first | (go_at_call 104;(with_reducible refine (CL.out).mono ?_);rintro e w2 ⟨rfl,hb2⟩;replace T:=aI (T.out.below hb2);clear hb2) | (go_at_call 103;(with_reducible refine (writeString_any d9 T.out (by omega)).mono ?_);rintro e w3 ⟨rfl,M3,hT3,_⟩;replace T:=aI hT3;clear hT3))
       rw [HD9.out] at T
       obtain ⟨R2,hR2⟩:=aX ((x.2.2.1.drop (k+1)).flatMap Sx.lifL++RR)
       rw [hR2] at HR1
       have HR2:=aI hR2
       generalize acc++Sx.lineT L9=acc1 at *
       have z2:=(T.out.box (.head _)).cell 2
       simp at z2
       replace T:=aI T.out.rest
       clear HD9 CL hR2 hds
       go_wp2_with fail
       clear z2
       go_loopg [88] nm (fun r i wr=>∃ (j:Nat) (acc:Sx.Txt) (M:List Nat),j+r=nm/\i=.int .i64 j/\acc++(((ld.2.2.drop j).map fun m=>[Sx.sMove,Sx.num m.1,Sx.num m.2])++R2).flatMap Sx.lineT=S/\Bld w1 [] M [] ((fun M W=>SlAt M W As ld.2.1)::(fun M W=>SlAt M W Am ld.2.2)::[fun M W=>N∉M/\Blk W N 28 #[.int .i64 x.1,.slice A nk c,.slice (some ⟨b,o,none⟩) nl d,.slice C nr e],fun M W=>SlAt M W A (Sc.kinds x),fun M W=>SlAt M W (some ⟨b,o,none⟩) x.2.2.1,fun M W=>SlAt M W C x.2.2.2]) Nb acc wr)
       case atStart=>exact ⟨0,acc1,_,by omega,rfl,HR1.out,T.out⟩
       case round =>
        clear HR1 T
        obtain ⟨j,acc,M,hj,rfl,hacc,hT⟩:=hrel
        obtain ⟨wi,rfl⟩:=aY wr
        have T:=aI hT
        clear hT
        by_cases hlt2:j < nm
        ·have hjp:j < ld.2.2.length:=by rw [HNM.out];exact hlt2
         have j0:(0:Int)<=(j:Int):=aa _
         have j1:(j:Int) < (nm:Int):=by omega
         have HR:=aI hacc
         rw [List.drop_eq_getElem_cons hjp,List.map_cons,List.cons_append] at HR
         have mb:=HLB.out.v _ (List.getElem_mem hjp)
         obtain ⟨b2,o2,us,rfl,_,hr,hc⟩:=(T.out.fact (.tail _ (.head _))).get j hjp
         obtain ⟨md,hmd⟩:=aX (ld.2.2[j])
         rw [hmd] at HR mb hr
         obtain ⟨rfl,_⟩:=rep_mv hr
         rw [show Mem.sz (Int × Int)=2 from rfl] at hc
         have c0:wi.cell? ⟨b2,o2+j*2,none⟩=some (.int .i64 md.1):=hc 0 _ rfl
         have c1:wi.cell? ⟨b2,o2+j*2+1,none⟩=some (.int .i64 md.2):=hc 1 _ rfl
         obtain ⟨Nm,hNm⟩:=aX wi.heap.size
         replace T:=aI (T.out.newBox #[.int .i64 md.1,.int .i64 md.2] 56 hNm)
         clear hacc hmd hr hc
         go_upto_region 26 with fail
         generalize wi.alloc (.cells #[.int .i64 md.1,.int .i64 md.2] 56)=w6 at *
         clear hNm c0 c1
         have hbk:=T.out.box (.head _)
         obtain ⟨z0,z1⟩:=aN2 hbk.cell
         simp at z0 z1
         clear hbk
         have HFT:=aI (show ∀ a∈([.n md.1,.n md.2]:List Sx.Av),a.fit by
          intro a ha
          simp only [List.mem_cons,List.not_mem_nil,or_false] at ha
          rcases ha with rfl | rfl
          ·exact (show -1000000000<=md.1/\md.1<=1000000000 by omega)
          ·exact (show -1000000000<=md.2/\md.2<=1000000000 by omega))
         have CL:=aI (fun (W:World) (hb:Below w1.heap.size w1 W)=>show Calls Tryz.prog 104 #[.string ⟨#[109,111,118,101]⟩,.slice (some ⟨W.heap.size,0,none⟩) 2 2] (W.alloc (.cells #[.iface 3 (.int .i64 md.1),.iface 3 (.int .i64 md.2)] 20)) fun e w'=>e=.returned (.string ⟨(Sx.lineT [Sx.sMove,Sx.num md.1,Sx.num md.2]).toArray⟩)/\Below W.heap.size W w' from line_new ⟨#[109,111,118,101]⟩ [.n md.1,.n md.2] W HFT.out (Nat.le_of_ble_eq_true rfl) (by decide) (HE.out.t.below hb HE.out.t.sz))
         obtain ⟨d9,hd9⟩:∃ d:ByteArray,(⟨(Sx.lineT [Sx.sMove,Sx.num md.1,Sx.num md.2]).toArray⟩:ByteArray)=d:=⟨_,rfl⟩
         rw [hd9] at CL
         have HD9:=aI (show d9.data.toList=Sx.lineT [Sx.sMove,Sx.num md.1,Sx.num md.2] by rw [<-hd9])
         have HR1:=aI (Sx.src_step (l:=[Sx.sMove,Sx.num md.1,Sx.num md.2]) HR.out)
         have hds:acc.length+d9.size<=1000000:=by
          have h:=Sx.src_le HR1.out
          rw [aK,<-HD9.out,strLen] at h
          omega
         clear hd9 HFT HR
         go_wp2_with (first | (go_at_call 104;(with_reducible refine (CL.out _ T.out.bl).mono ?_);rintro e w2 ⟨rfl,hb2⟩;replace T:=aI (T.out.below hb2);clear hb2 z0 z1) | (go_at_call 103;(with_reducible refine (writeString_any d9 T.out (by omega)).mono ?_);rintro e w3 ⟨rfl,M3,hT3,_⟩;replace T:=aI hT3;clear hT3))
         rw [HD9.out] at T
         go_roundg (gk - 1)
         case measure=>omega
         case rel=>exact ⟨j+1,_,_,by omega,by go_num,HR1.out,T.out.rest⟩
        ·have j1:¬ (j:Int) < (nm:Int):=by omega
         rw [List.drop_eq_nil_of_le (by rw [HNM.out];omega),List.map_nil,List.nil_append,<-HR2.out] at hacc
         have HR:=aI hacc
         clear hacc
         go_wp2_with fail
         go_roundg (gq - 1)
         case measure=>omega
         case rel=>exact ⟨k+1,_,_,by omega,by go_num,HR.out,T.out.ltail.ltail⟩
    ·have k1:¬ (k:Int) < (nl:Int):=by omega
     rw [List.drop_eq_nil_of_le (by rw [HNL.out];omega),List.flatMap_nil,List.nil_append] at hacc
     rw [<-HRR.out,<-List.append_nil (x.2.2.2.map Sx.rulL)] at hacc
     have HR:=aI hacc
     clear hacc
     have hbk:=(T.out.fact (.head _)).2
     have z3:=hbk.cell 3
     simp at z3
     clear hbk
     go_wp2_with fail
     clear z3 k1 hlt hk
     go_loopg [106] nr (fun r i wr=>∃ (k:Nat) (acc:Sx.Txt) (M:List Nat),k+r=nr/\i=.int .i64 k/\acc++((x.2.2.2.drop k).map Sx.rulL++[]).flatMap Sx.lineT=S/\Bld w1 [] M [] [fun M W=>N∉M/\Blk W N 28 #[.int .i64 x.1,.slice A nk c,.slice B nl d,.slice C nr e],fun M W=>SlAt M W A (Sc.kinds x),fun M W=>SlAt M W B x.2.2.1,fun M W=>SlAt M W C x.2.2.2] Nb acc wr)
     case atStart=>exact ⟨0,acc,_,by omega,rfl,HR.out,T.out⟩
     case round =>
      clear HR T
      obtain ⟨k,acc,M,hk,rfl,hacc,hT⟩:=hrel
      obtain ⟨wo,rfl⟩:=aY wr
      have T:=aI hT
      clear hT
      by_cases hlt:k < nr
      ·have hkp:k < x.2.2.2.length:=by rw [HNR.out];exact hlt
       have k0:(0:Int)<=(k:Int):=aa _
       have k1:(k:Int) < (nr:Int):=by omega
       have HR:=aI hacc
       rw [List.drop_eq_getElem_cons hkp,List.map_cons,List.cons_append] at HR
       have rb:=HOB.out.r _ (List.getElem_mem hkp)
       obtain ⟨b,o,us,rfl,_,hr,hc⟩:=(T.out.fact (.tail _ (.tail _ (.tail _ (.head _))))).get k hkp
       obtain ⟨rd,hrd⟩:=aX (x.2.2.2[k])
       rw [hrd] at HR rb hr
       obtain ⟨rfl,_⟩:=rep_rul hr
       rw [show Mem.sz Rul=5 from rfl] at hc
       obtain ⟨c0,c1,c2,c3,c4⟩:=aG5 (m:=k*5) hc
       obtain ⟨Nr,hNr⟩:=aX wo.heap.size
       replace T:=aI (T.out.newBox #[.string rd.1,.string rd.2.1,.string rd.2.2.1,.string rd.2.2.2.1,.int .i64 rd.2.2.2.2] 58 hNr)
       have hq1:=rb.nm;have hq2:=rb.k;have hq3:=rb.a;have hq4:=rb.b;have hq5:=rb.n
       clear hacc hrd rb hr hc
       go_upto_region 32 with fail
       generalize wo.alloc (.cells #[.string rd.1,.string rd.2.1,.string rd.2.2.1,.string rd.2.2.2.1,.int .i64 rd.2.2.2.2] 58)=w5 at *
       clear hNr c0 c1 c2 c3 c4
       have HFT:=aI (show ∀ a∈([.s rd.1,.s rd.2.1,.s (Sx.orN rd.2.2.1),.s (Sx.orN rd.2.2.2.1),.n rd.2.2.2.2]:List Sx.Av),a.fit by
        intro a ha
        simp only [List.mem_cons,List.not_mem_nil,or_false] at ha
        rcases ha with rfl | rfl | rfl | rfl | rfl
        ·exact (show ByteArray.size rd.1<=100 by omega)
        ·exact (show ByteArray.size rd.2.1<=100 by omega)
        ·exact (show ByteArray.size (Sx.orN rd.2.2.1)<=100 from Sx.orN_sz (by omega) (by decide))
        ·exact (show ByteArray.size (Sx.orN rd.2.2.2.1)<=100 from Sx.orN_sz (by omega) (by decide))
        ·exact (show -1000000000<=rd.2.2.2.2/\rd.2.2.2.2<=1000000000 by omega))
       have HRL:=aI (show (Sx.bs ⟨#[114,117,108,101]⟩::([.s rd.1,.s rd.2.1,.s (Sx.orN rd.2.2.1),.s (Sx.orN rd.2.2.2.1),.n rd.2.2.2.2]:List Sx.Av).map Sx.Av.t)=Sx.rulL rd by
        show [_,_,_,Sx.bs (Sx.orN rd.2.2.1),Sx.bs (Sx.orN rd.2.2.2.1),_]=_
        rw [Sx.orN_list,Sx.orN_list];rfl)
       have CL:=aI (fun (g:Nat) (W:World) (hB:Blk W g 20 #[.iface 9 (.string rd.1),.iface 9 (.string rd.2.1),.iface 9 (.string (Sx.orN rd.2.2.1)),.iface 9 (.string (Sx.orN rd.2.2.2.1)),.iface 3 (.int .i64 rd.2.2.2.2)]) (hb:Below w1.heap.size w1 W)=>show Calls Tryz.prog 104 #[.string ⟨#[114,117,108,101]⟩,.slice (some ⟨g,0,none⟩) 5 5] W fun e w'=>e=.returned (.string ⟨(Sx.lineT (Sx.bs ⟨#[114,117,108,101]⟩::([.s rd.1,.s rd.2.1,.s (Sx.orN rd.2.2.1),.s (Sx.orN rd.2.2.2.1),.n rd.2.2.2.2]:List Sx.Av).map Sx.Av.t)).toArray⟩)/\Below W.heap.size W w' from line_any ⟨#[114,117,108,101]⟩ [.s rd.1,.s rd.2.1,.s (Sx.orN rd.2.2.1),.s (Sx.orN rd.2.2.2.1),.n rd.2.2.2.2] (some ⟨g,0,none⟩) 5 W (SlAt.of_blk (flat_avs HFT.out) hB (by simp)) (fun a ha=>(HFT.out a ha).ok) (Nat.le_of_ble_eq_true rfl) (by decide) (HE.out.to hb).t)
       rw [HRL.out] at CL
       have CN1:=aI (fun w=>named_any rd.2.2.1 w)
       have CN2:=aI (fun w=>named_any rd.2.2.2.1 w)
       obtain ⟨d9,hd9⟩:∃ d:ByteArray,(⟨(Sx.lineT (Sx.rulL rd)).toArray⟩:ByteArray)=d:=⟨_,rfl⟩
       rw [hd9] at CL
       have HD9:=aI (show d9.data.toList=Sx.lineT (Sx.rulL rd) by rw [<-hd9])
       have HR1:=aI (Sx.src_step HR.out)
       have hds:acc.length+d9.size<=1000000:=by
        have h:=Sx.src_le HR1.out
        rw [aK,<-HD9.out,strLen] at h
        omega
       have HBK:=aI (T.out.box (.head _))
       clear hd9 HR HFT HRL
       go_wp2_with fail
       apply wp_region_typed (C:=fun w'=>Below w5.heap.size w5 w') (n:=132) (m:=19) (l1:=[_,_,_,_,_,_,_,_,_,_,_,_,_,_,_,_,_,_,_]) (l2:=[_])
       ·rfl
       ·rfl
       ·kernel_rfl
       ·rfl
       ·kernel_rfl
       ·exact ⟨rfl,rfl,rfl,ag _,fun _ _=>rfl⟩
       ·exact fun u u' h hb=>(by first | exact h.below hb | exact h.trans (hb.mono h.size))
       iterate 8 ((apply wpT_exact;· (intro w' hC hf;unfold Gives;obtain ⟨c0,c1,c2,c3,c4⟩:=aM5 (HBK.out.below hC HBK.out.lt);clear hf hC;go_wp2_with (fail);apply postT_val rfl (Below.refl _ _);simp only [valAt,aV];exact rfl));(try simp only [Act.put,aZ]))
       (apply wpT_exact;· (intro w' hC hf;unfold Gives;clear hf hC;go_wp2_with (go_at_call 106;(with_reducible refine (CN1.out _).mono ?_);rintro e w2 ⟨rfl,hb2⟩);apply postT_val rfl (by assumption);simp only [valAt,aV];exact rfl));(try simp only [Act.put,aZ])
       iterate 3 ((apply wpT_exact;· (intro w' hC hf;unfold Gives;obtain ⟨c0,c1,c2,c3,c4⟩:=aM5 (HBK.out.below hC HBK.out.lt);clear hf hC;go_wp2_with (fail);apply postT_val rfl (Below.refl _ _);simp only [valAt,aV];exact rfl));(try simp only [Act.put,aZ]))
       (apply wpT_exact;· (intro w' hC hf;unfold Gives;clear hf hC;go_wp2_with (go_at_call 106;(with_reducible refine (CN2.out _).mono ?_);rintro e w2 ⟨rfl,hb2⟩);apply postT_val rfl (by assumption);simp only [valAt,aV];exact rfl));(try simp only [Act.put,aZ])
       iterate 4 ((apply wpT_exact;· (intro w' hC hf;unfold Gives;obtain ⟨c0,c1,c2,c3,c4⟩:=aM5 (HBK.out.below hC HBK.out.lt);clear hf hC;go_wp2_with (fail);apply postT_val rfl (Below.refl _ _);simp only [valAt,aV];exact rfl));(try simp only [Act.put,aZ]))
       apply wpT_typed (slBlk_kept 5 20 #[.iface 9 (.string rd.1),.iface 9 (.string rd.2.1),.iface 9 (.string (Sx.orN rd.2.2.1)),.iface 9 (.string (Sx.orN rd.2.2.2.1)),.iface 3 (.int .i64 rd.2.2.2.2)])
       ·intro w' hC hf;unfold Gives;clear hf hC;go_wp2_with fail;apply postT_mk rfl (by go_grown);simp only [valAt,aV];exact ⟨_,rfl,Blk.new _ _ _⟩
       intro vsl;(try simp only [Act.put,aZ])
       (apply wpT_exact;· (intro w' hC hf;unfold Gives;obtain ⟨g,rfl,hB⟩:=hf.1 rfl;have CQ:=aI (CL.out g w' hB (T.out.bl.trans (hC.mono T.out.bl.size)));clear hf hC hB;go_wp2_with (go_at_call 104;(with_reducible refine (CQ.out).mono ?_);rintro e w2 ⟨rfl,hb2⟩);apply postT_val rfl (by assumption);simp only [valAt,aV];exact rfl));(try simp only [Act.put,aZ])
       apply wpT_done
       intro w8 hC _
       replace T:=aI (T.out.below hC)
       clear hC
       go_wp2_with (go_at_call 103;(with_reducible refine (writeString_any d9 T.out (by omega)).mono ?_);rintro e w3 ⟨rfl,M3,hT3,_⟩;replace T:=aI hT3;clear hT3)
       rw [HD9.out] at T
       go_roundg (gk - 1)
       case measure=>omega
       case rel=>exact ⟨k+1,_,_,by omega,by go_num,HR1.out,T.out.rest⟩
      ·have k1:¬ (k:Int) < (nr:Int):=by omega
       rw [List.drop_eq_nil_of_le (by rw [HNR.out];omega),List.map_nil,List.nil_append,List.flatMap_nil,List.append_nil] at hacc
       subst hacc
       go_wp2_with (go_at_call 107;(with_reducible refine (bldString_any T.out).mono ?_);rintro e w8 ⟨rfl,hb8⟩;have HBO:=aI (HB.out.trans ((T.out.bl.trans hb8).mono HB.out.size));clear hb8)
       go_ret
       exact ⟨by rw [HS.out];rfl,HBO.out⟩
end
section
def rtF:Value:=.func (.func 113) #[] #[]
def oneF (g:Nat):Value:=.func (.func 142) #[] #[.pointer (some ⟨g,0,none⟩)]
theorem oneF_any (x:Fld) (us:List Value) (g:Nat) (w:World) (hr:Mem.rep [] w x us) (hp:(Sc.wts x).length<=1000000) (hg:w.cell? ⟨g,0,none⟩=some rtF) :
  Calls Tryz.prog 142 #[.agg us.toArray,.pointer (some ⟨g,0,none⟩)] w (BoolP (!Sx.fldB x) w):=by
 have hr0:=hr
 obtain ⟨A1,cA,B1,dB,rfl,q1,q2,q3,q4,q5,q6,q7,q8,q9,q10,q11,q12⟩:=rep_fld hr
 clear q1 q2 q3 q4 q5 q6 q7 q8 q9 q10 q11 q12
 show Calls Tryz.prog 142 #[.agg #[.string (Sc.nm x),.string (Sc.of_ x),.string (Sc.up x),.int .i64 (Sc.kd x),.int .i64 (Sc.lo x),.int .i64 (Sc.hi x),.slice A1 (Sc.words x).length cA,.slice B1 (Sc.wts x).length dB],.pointer (some ⟨g,0,none⟩)] w (BoolP (!Sx.fldB x) w)
 have hB1:Below w.heap.size w (w.alloc (.cells #[.string (Sc.nm x),.string (Sc.of_ x),.string (Sc.up x),.int .i64 (Sc.kd x),.int .i64 (Sc.lo x),.int .i64 (Sc.hi x),.slice A1 (Sc.words x).length cA,.slice B1 (Sc.wts x).length dB] 52)):=aP _ _
 have hg1:(w.alloc (.cells #[.string (Sc.nm x),.string (Sc.of_ x),.string (Sc.up x),.int .i64 (Sc.kd x),.int .i64 (Sc.lo x),.int .i64 (Sc.hi x),.slice A1 (Sc.words x).length cA,.slice B1 (Sc.wts x).length dB] 52)).cell? ⟨g,0,none⟩=some rtF:=(hB1.cell (World.block_lt_of_cell? _ _ hg)).trans hg
 have hr9:=Mem.keep hr0 (Chg.of_below (G:=[]) hB1)
 have HC:=aI (isField_any x _ (w.alloc (.cells #[.string (Sc.nm x),.string (Sc.of_ x),.string (Sc.up x),.int .i64 (Sc.kd x),.int .i64 (Sc.lo x),.int .i64 (Sc.hi x),.slice A1 (Sc.words x).length cA,.slice B1 (Sc.wts x).length dB] 52)) hr9 hp)
 obtain ⟨r,hrr⟩:=aX (Sx.fldB x)
 rw [hrr] at HC ⊢
 have HB1:=aI hB1
 unfold rtF at hg1
 clear hrr hr0 hr9 hp hg hB1
 go_enter Tryz.func142,Tryz.ntmps142
 go_wp2_with (go_at_call 113;(with_reducible refine (HC.out).mono ?_);rintro e w2 ⟨rfl,hb2⟩;have HB:=aI (HB1.out.trans (hb2.mono HB1.out.size));clear hb2)
 go_ret
 exact ⟨by cases r <;> rfl,HB.out⟩
theorem idxF_any (l:List (Fld)) (A:Option Addr) (c g:Nat) (W:World) (hs:SlAt [] W A l) (hm:l.length<=9223372036854775807) (hp:∀ x∈l,(Sc.wts x).length<=1000000) (hg:W.cell? ⟨g,0,none⟩=some rtF) :
  Calls Tryz.prog 169 #[.slice A l.length c,oneF g] W (PredP (!l.all Sx.fldB) W):=by
 obtain ⟨n,hn⟩:=aX l.length
 have HS:=aI hs
 have HN:=aI hn
 have HP:=aI hp
 have HG:=aI hg
 rw [hn]
 rw [hn] at hm
 have HV:=aI (oneF_any)
 unfold oneF
 clear hs hn hp hg
 go_enter Tryz.func169,Tryz.ntmps169
 go_wp2_with fail
 go_loopg [8] n (fun r i wr=>∃ k:Nat,k+r=n/\i=.int .i64 k/\Below W.heap.size W wr/\∀ j (hj:j < l.length),j < k->Sx.fldB l[j]=true)
 case atStart=>exact ⟨0,by omega,rfl,Below.refl _ _,fun _ _ h=>by omega⟩
 case round =>
  obtain ⟨k,hk,rfl,hb,hall⟩:=hrel
  obtain ⟨wo,rfl⟩:=aY wr
  have HB:=aI hb
  have HA:=aI hall
  clear hb hall
  by_cases hlt:k < n
  ·have hkp:k < l.length:=by rw [HN.out];exact hlt
   have k0:(0:Int)<=(k:Int):=aa _
   have k1:(k:Int) < (n:Int):=by omega
   obtain ⟨b,o,us,rfl,_,hr,hc⟩:=(HS.out.keep (Chg.of_below HB.out)).get k hkp
   have cv:=HV.out l[k] us g wo hr (HP.out _ (List.getElem_mem hkp)) ((HB.out.cell (World.block_lt_of_cell? _ _ HG.out)).trans HG.out)
   obtain ⟨x,hx⟩:=aX (l[k])
   rw [hx] at cv hr
   have hr0:=hr
   obtain ⟨A1,cA,B1,dB,rfl,q1,q2,q3,q4,q5,q6,q7,q8,q9,q10,q11,q12⟩:=rep_fld hr
   clear q1 q2 q3 q4 q5 q6 q7 q8 q9 q10 q11 q12
   change Calls Tryz.prog 142 #[.agg #[.string (Sc.nm x),.string (Sc.of_ x),.string (Sc.up x),.int .i64 (Sc.kd x),.int .i64 (Sc.lo x),.int .i64 (Sc.hi x),.slice A1 (Sc.words x).length cA,.slice B1 (Sc.wts x).length dB],.pointer (some ⟨g,0,none⟩)] wo _ at cv
   obtain ⟨c0,c1,c2,c3,c4,c5,c6,c7⟩:=aG8 (m:=k*8) hc
   obtain ⟨bb,hbb⟩:=aX (Sx.fldB x)
   rw [hbb] at cv
   have CV:=aI cv
   have HX:=aI hx
   have HBB:=aI hbb
   clear cv hbb hr0 hc hx
   cases bb
   ·have HR:=aI (all_bad (b:=Sx.fldB) hkp (by rw [HX.out];exact HBB.out))
    go_wp2_with (go_at_call 142;(with_reducible refine (CV.out).mono ?_);rintro e w2 ⟨rfl,hb2⟩;replace HB:=aT HB hb2;clear hb2)
    go_ret
    exact ⟨_,rfl,by rw [HR.out];simp,HB.out⟩
   ·go_wp2_with (go_at_call 142;(with_reducible refine (CV.out).mono ?_);rintro e w2 ⟨rfl,hb2⟩;replace HB:=aT HB hb2;clear hb2)
    go_roundg (gk - 1)
    case measure=>omega
    case rel =>
     refine ⟨k+1,by omega,by go_num,HB.out,fun q hq hlt=>?_⟩
     rcases aj q k with h' | h'
     ·exact HA.out q hq h'
     ·obtain rfl:q=k:=by omega
      rw [HX.out];exact HBB.out
  ·have HR:=aI (all_good (b:=Sx.fldB) fun q hq=>HA.out q hq (by rw [HN.out] at hq;omega))
   have k1:¬ (k:Int) < (n:Int):=by omega
   go_wp2_with fail
   go_ret
   exact ⟨_,rfl,by rw [HR.out];rfl,HB.out⟩
theorem conF_any (l:List (Fld)) (A:Option Addr) (c g:Nat) (W:World) (hs:SlAt [] W A l) (hm:l.length<=9223372036854775807) (hp:∀ x∈l,(Sc.wts x).length<=1000000) (hg:W.cell? ⟨g,0,none⟩=some rtF) :
  Calls Tryz.prog 141 #[.slice A l.length c,oneF g] W (BoolP (!l.all Sx.fldB) W):=by
 have CI:=aI (idxF_any l A c g W hs hm hp hg)
 obtain ⟨n,hn⟩:=aX l.length
 rw [hn] at CI ⊢
 clear hs hm hn hp hg
 generalize oneF g=F at *
 go_enter Tryz.func141,Tryz.ntmps141
 go_wp2_with (go_at_call 169;(with_reducible refine (CI.out).mono ?_);rintro e w2 ⟨r,rfl,hr,hb2⟩;have HB:=aI hb2;have HR:=aI hr;clear hb2 hr)
 go_ret
 exact ⟨by rw [<-HR.out];rfl,HB.out⟩
theorem allF_any (l:List (Fld)) (A:Option Addr) (c:Nat) (w:World) (hs:SlAt [] w A l) (hm:l.length<=9223372036854775807) (hp:∀ x∈l,(Sc.wts x).length<=1000000) :
  Calls Tryz.prog 112 #[.slice A l.length c,rtF] w (BoolP (l.all Sx.fldB) w):=by
 have hB1:Below w.heap.size w (w.alloc (.cells #[rtF] 146)):=aP _ _
 have CC:=aI (conF_any l A c w.heap.size (w.alloc (.cells #[rtF] 146)) (hs.keep (Chg.of_below hB1)) hm hp (cell_box1 w _ _))
 obtain ⟨n,hn⟩:=aX l.length
 rw [hn] at CC ⊢
 generalize l.all Sx.fldB=r at *
 unfold rtF at CC hB1 ⊢
 unfold oneF at CC
 have HB1:=aI hB1
 clear hs hm hn hp hB1
 go_enter Tryz.func112,Tryz.ntmps112
 go_wp2_with (go_at_call 141;(with_reducible refine (CC.out).mono ?_);rintro e w2 ⟨rfl,hb2⟩;have HB:=aI (HB1.out.trans (hb2.mono HB1.out.size));clear hb2)
 go_ret
 exact ⟨by cases r <;> rfl,HB.out⟩
theorem isKind_any (x:Knd) (us:List Value) (w:World) (h:Mem.rep [] w x us) (hp:(Sc.flds x).length<=1000000/\∀ f∈Sc.flds x,(Sc.wts f).length<=1000000):Calls Tryz.prog 54 #[.agg us.toArray] w (BoolP (Sx.kndB x) w):=by
 obtain ⟨A1,cA,rfl,s1,a2,a3,a1,b1,b2⟩:=rep_knd h
 have C1:=aI (fun w=>isName_any x.1 w a1)
 have C2:=aI (span_any x.2.1 x.2.2.1 0 65536)
 have C4:=aI (fun (W':World) (hb:Below w.heap.size w W')=>allF_any (Sc.flds x) A1 cA W' (s1.keep (Chg.of_below hb)) (by omega) hp.2)
 unfold rtF at C4
 obtain ⟨W1,hW1⟩:=aX (w.alloc (.cells #[.string x.1,.int .i64 x.2.1,.int .i64 x.2.2.1,.slice A1 (Sc.flds x).length cA] 49))
 have HB:=aI (show Below w.heap.size w W1 by rw [<-hW1];exact aP _ _)
 have HB1:=aI (Below.refl W1.heap.size W1)
 have hbk:Blk W1 w.heap.size 49 #[.string x.1,.int .i64 x.2.1,.int .i64 x.2.2.1,.slice A1 (Sc.flds x).length cA]:=by rw [<-hW1];exact Blk.new w _ _
 obtain ⟨N,hN⟩:=aX w.heap.size
 rw [hN] at hbk
 have HBQ:=aI hbk
 obtain ⟨c0,c1,c2,c3⟩:=aN4 hbk.cell
 simp at c0 c1 c2 c3
 have HW1:=aI hW1
 show Calls Tryz.prog 54 #[.agg #[.string x.1,.int .i64 x.2.1,.int .i64 x.2.2.1,.slice A1 (Sc.flds x).length cA]] w _
 obtain ⟨q1,hq1⟩:=aX (Sx.nm x.1)
 rw [hq1] at C1
 obtain ⟨q2,hq2⟩:=aX (Sx.span x.2.1 x.2.2.1 0 65536)
 rw [hq2] at C2
 obtain ⟨q3,hq3⟩:=aX (decide ((Sc.flds x).length<=10))
 have hq3':decide (((Sc.flds x).length:Int)<=10)=q3:=by rw [<-hq3];exact le_cast _ 10
 obtain ⟨q4,hq4⟩:=aX ((Sc.flds x).all Sx.fldB)
 rw [hq4] at C4
 have HF:=aI (show Sx.kndB x=(q1 && (q2 && (q3 && q4))) by unfold Sx.kndB;rw [hq1,hq2,hq3,hq4])
 clear h hbk hW1 s1 a1 a2 a3 b1 b2 hp hq1 hq2 hq3 hq4
 generalize Sx.kndB x=fb at *
 generalize (Sc.flds x).length=nl at *
 go_enter Tryz.func54,Tryz.ntmps54
 go_upto_region 1 with fail
 rw [HW1.out]
 cases q1 <;> cases q2 <;> cases q3 <;> (go_wp2_with (first | (go_at_call 110;(with_reducible refine (C1.out _).mono ?_);rintro e w2 ⟨rfl,hb2⟩;have HB1:=aI (HB1.out.trans (hb2.mono HB1.out.size));have hbk:=HBQ.out.below hb2 HBQ.out.lt;have HBQ:=aI hbk;obtain ⟨c0,c1,c2,c3⟩:=aN4 hbk.cell;simp at c0 c1 c2 c3;clear hbk hb2) | (go_at_call 111;(with_reducible refine aS (C2.out _) ?_)) | (go_at_call 112;(with_reducible refine (C4.out _ (HB.out.trans (HB1.out.mono HB.out.size))).mono ?_);rintro e w2 ⟨rfl,hb2⟩;have HB1:=aI (HB1.out.trans (hb2.mono HB1.out.size));have hbk:=HBQ.out.below hb2 HBQ.out.lt;have HBQ:=aI hbk;obtain ⟨c0,c1,c2,c3⟩:=aN4 hbk.cell;simp at c0 c1 c2 c3;clear hbk hb2));go_ret;exact ⟨by rw [HF.out];first | rfl | (cases q4 <;> rfl),HB.out.trans (HB1.out.mono HB.out.size)⟩)
def rtK:Value:=.func (.func 54) #[] #[]
def oneK (g:Nat):Value:=.func (.func 109) #[] #[.pointer (some ⟨g,0,none⟩)]
theorem oneK_any (x:Knd) (us:List Value) (g:Nat) (w:World) (hr:Mem.rep [] w x us) (hp:(Sc.flds x).length<=1000000/\∀ f∈Sc.flds x,(Sc.wts f).length<=1000000) (hg:w.cell? ⟨g,0,none⟩=some rtK) :
  Calls Tryz.prog 109 #[.agg us.toArray,.pointer (some ⟨g,0,none⟩)] w (BoolP (!Sx.kndB x) w):=by
 have hr0:=hr
 obtain ⟨A1,cA,rfl,q1,q2,q3,q4,q5,q6⟩:=rep_knd hr
 clear q1 q2 q3 q4 q5 q6
 show Calls Tryz.prog 109 #[.agg #[.string x.1,.int .i64 x.2.1,.int .i64 x.2.2.1,.slice A1 (Sc.flds x).length cA],.pointer (some ⟨g,0,none⟩)] w (BoolP (!Sx.kndB x) w)
 have hB1:Below w.heap.size w (w.alloc (.cells #[.string x.1,.int .i64 x.2.1,.int .i64 x.2.2.1,.slice A1 (Sc.flds x).length cA] 49)):=aP _ _
 have hg1:(w.alloc (.cells #[.string x.1,.int .i64 x.2.1,.int .i64 x.2.2.1,.slice A1 (Sc.flds x).length cA] 49)).cell? ⟨g,0,none⟩=some rtK:=(hB1.cell (World.block_lt_of_cell? _ _ hg)).trans hg
 have hr9:=Mem.keep hr0 (Chg.of_below (G:=[]) hB1)
 have HC:=aI (isKind_any x _ (w.alloc (.cells #[.string x.1,.int .i64 x.2.1,.int .i64 x.2.2.1,.slice A1 (Sc.flds x).length cA] 49)) hr9 hp)
 obtain ⟨r,hrr⟩:=aX (Sx.kndB x)
 rw [hrr] at HC ⊢
 have HB1:=aI hB1
 unfold rtK at hg1
 clear hrr hr0 hr9 hp hg hB1
 go_enter Tryz.func109,Tryz.ntmps109
 go_wp2_with (go_at_call 54;(with_reducible refine (HC.out).mono ?_);rintro e w2 ⟨rfl,hb2⟩;have HB:=aI (HB1.out.trans (hb2.mono HB1.out.size));clear hb2)
 go_ret
 exact ⟨by cases r <;> rfl,HB.out⟩
theorem idxK_any (l:List (Knd)) (A:Option Addr) (c g:Nat) (W:World) (hs:SlAt [] W A l) (hm:l.length<=9223372036854775807) (hp:∀ x∈l,(Sc.flds x).length<=1000000/\∀ f∈Sc.flds x,(Sc.wts f).length<=1000000) (hg:W.cell? ⟨g,0,none⟩=some rtK) :
  Calls Tryz.prog 136 #[.slice A l.length c,oneK g] W (PredP (!l.all Sx.kndB) W):=by
 obtain ⟨n,hn⟩:=aX l.length
 have HS:=aI hs
 have HN:=aI hn
 have HP:=aI hp
 have HG:=aI hg
 rw [hn]
 rw [hn] at hm
 have HV:=aI (oneK_any)
 unfold oneK
 clear hs hn hp hg
 go_enter Tryz.func136,Tryz.ntmps136
 go_wp2_with fail
 go_loopg [8] n (fun r i wr=>∃ k:Nat,k+r=n/\i=.int .i64 k/\Below W.heap.size W wr/\∀ j (hj:j < l.length),j < k->Sx.kndB l[j]=true)
 case atStart=>exact ⟨0,by omega,rfl,Below.refl _ _,fun _ _ h=>by omega⟩
 case round =>
  obtain ⟨k,hk,rfl,hb,hall⟩:=hrel
  obtain ⟨wo,rfl⟩:=aY wr
  have HB:=aI hb
  have HA:=aI hall
  clear hb hall
  by_cases hlt:k < n
  ·have hkp:k < l.length:=by rw [HN.out];exact hlt
   have k0:(0:Int)<=(k:Int):=aa _
   have k1:(k:Int) < (n:Int):=by omega
   obtain ⟨b,o,us,rfl,_,hr,hc⟩:=(HS.out.keep (Chg.of_below HB.out)).get k hkp
   have cv:=HV.out l[k] us g wo hr (HP.out _ (List.getElem_mem hkp)) ((HB.out.cell (World.block_lt_of_cell? _ _ HG.out)).trans HG.out)
   obtain ⟨x,hx⟩:=aX (l[k])
   rw [hx] at cv hr
   have hr0:=hr
   obtain ⟨A1,cA,rfl,q1,q2,q3,q4,q5,q6⟩:=rep_knd hr
   clear q1 q2 q3 q4 q5 q6
   change Calls Tryz.prog 109 #[.agg #[.string x.1,.int .i64 x.2.1,.int .i64 x.2.2.1,.slice A1 (Sc.flds x).length cA],.pointer (some ⟨g,0,none⟩)] wo _ at cv
   obtain ⟨c0,c1,c2,c3⟩:=aG4 (m:=k*4) hc
   obtain ⟨bb,hbb⟩:=aX (Sx.kndB x)
   rw [hbb] at cv
   have CV:=aI cv
   have HX:=aI hx
   have HBB:=aI hbb
   clear cv hbb hr0 hc hx
   cases bb
   ·have HR:=aI (all_bad (b:=Sx.kndB) hkp (by rw [HX.out];exact HBB.out))
    go_wp2_with (go_at_call 109;(with_reducible refine (CV.out).mono ?_);rintro e w2 ⟨rfl,hb2⟩;replace HB:=aT HB hb2;clear hb2)
    go_ret
    exact ⟨_,rfl,by rw [HR.out];simp,HB.out⟩
   ·go_wp2_with (go_at_call 109;(with_reducible refine (CV.out).mono ?_);rintro e w2 ⟨rfl,hb2⟩;replace HB:=aT HB hb2;clear hb2)
    go_roundg (gk - 1)
    case measure=>omega
    case rel =>
     refine ⟨k+1,by omega,by go_num,HB.out,fun q hq hlt=>?_⟩
     rcases aj q k with h' | h'
     ·exact HA.out q hq h'
     ·obtain rfl:q=k:=by omega
      rw [HX.out];exact HBB.out
  ·have HR:=aI (all_good (b:=Sx.kndB) fun q hq=>HA.out q hq (by rw [HN.out] at hq;omega))
   have k1:¬ (k:Int) < (n:Int):=by omega
   go_wp2_with fail
   go_ret
   exact ⟨_,rfl,by rw [HR.out];rfl,HB.out⟩
theorem conK_any (l:List (Knd)) (A:Option Addr) (c g:Nat) (W:World) (hs:SlAt [] W A l) (hm:l.length<=9223372036854775807) (hp:∀ x∈l,(Sc.flds x).length<=1000000/\∀ f∈Sc.flds x,(Sc.wts f).length<=1000000) (hg:W.cell? ⟨g,0,none⟩=some rtK) :
  Calls Tryz.prog 108 #[.slice A l.length c,oneK g] W (BoolP (!l.all Sx.kndB) W):=by
 have CI:=aI (idxK_any l A c g W hs hm hp hg)
 obtain ⟨n,hn⟩:=aX l.length
 rw [hn] at CI ⊢
 clear hs hm hn hp hg
 generalize oneK g=F at *
 go_enter Tryz.func108,Tryz.ntmps108
 go_wp2_with (go_at_call 136;(with_reducible refine (CI.out).mono ?_);rintro e w2 ⟨r,rfl,hr,hb2⟩;have HB:=aI hb2;have HR:=aI hr;clear hb2 hr)
 go_ret
 exact ⟨by rw [<-HR.out];rfl,HB.out⟩
theorem allK_any (l:List (Knd)) (A:Option Addr) (c:Nat) (w:World) (hs:SlAt [] w A l) (hm:l.length<=9223372036854775807) (hp:∀ x∈l,(Sc.flds x).length<=1000000/\∀ f∈Sc.flds x,(Sc.wts f).length<=1000000) :
  Calls Tryz.prog 53 #[.slice A l.length c,rtK] w (BoolP (l.all Sx.kndB) w):=by
 have hB1:Below w.heap.size w (w.alloc (.cells #[rtK] 101)):=aP _ _
 have CC:=aI (conK_any l A c w.heap.size (w.alloc (.cells #[rtK] 101)) (hs.keep (Chg.of_below hB1)) hm hp (cell_box1 w _ _))
 obtain ⟨n,hn⟩:=aX l.length
 rw [hn] at CC ⊢
 generalize l.all Sx.kndB=r at *
 unfold rtK at CC hB1 ⊢
 unfold oneK at CC
 have HB1:=aI hB1
 clear hs hm hn hp hB1
 go_enter Tryz.func53,Tryz.ntmps53
 go_wp2_with (go_at_call 108;(with_reducible refine (CC.out).mono ?_);rintro e w2 ⟨rfl,hb2⟩;have HB:=aI (HB1.out.trans (hb2.mono HB1.out.size));clear hb2)
 go_ret
 exact ⟨by cases r <;> rfl,HB.out⟩
def Sx.mvB (n:Int) (m:Int × Int):Bool:=Sx.within m.1 0 (n - 1) && Sx.within m.2 0 (n - 1)
theorem isLife1_any (x:Int × Int) (gn:Nat) (n9:Int) (w:World) (hp:0<=n9/\n9<=9223372036854775807) (hq:w.cell? ⟨gn,0,none⟩=some (.int .i64 n9)):Calls Tryz.prog 118 #[.agg #[.int .i64 x.1,.int .i64 x.2],.pointer (some ⟨gn,0,none⟩)] w (BoolP (Sx.mvB n9 x) w):=by
 obtain ⟨a,b⟩:=x
 obtain ⟨n8,hn8⟩:=aX (n9 - 1)
 have hw:IntKind.i64.wrap (n9 - 1)=n8:=by rw [<-hn8];exact wrapI (by unfold inI;omega)
 have C1:=aI (within_any a 0 n8)
 have C2:=aI (within_any b 0 n8)
 obtain ⟨q1,h1⟩:=aX (Sx.within a 0 n8)
 obtain ⟨q2,h2⟩:=aX (Sx.within b 0 n8)
 rw [h1] at C1
 rw [h2] at C2
 have HF:=aI (show Sx.mvB n9 (a,b)=(q1 && q2) by unfold Sx.mvB;rw [hn8,h1,h2])
 have hlt:=World.block_lt_of_cell? _ _ hq
 have hB:Below w.heap.size w (w.alloc (.cells #[.int .i64 a,.int .i64 b] 56)):=aP _ _
 have hq2:=(hB.cell hlt).trans hq
 obtain ⟨W1,hW1⟩:=aX (w.alloc (.cells #[.int .i64 a,.int .i64 b] 56))
 have hbk:Blk W1 w.heap.size 56 #[.int .i64 a,.int .i64 b]:=by rw [<-hW1];exact Blk.new w _ _
 rw [hW1] at hB hq2
 obtain ⟨c0,c1⟩:=aN2 hbk.cell
 simp at c0 c1
 have HB:=aI hB
 have HW1:=aI hW1
 clear hbk hW1 hB hq hp hn8 h1 h2 hlt
 generalize Sx.mvB n9 (a,b)=fb at *
 go_enter Tryz.func118,Tryz.ntmps118
 go_upto_region 1 with fail
 rw [HW1.out]
 cases q1 <;> (go_wp2_with (first | (go_at_call 52;(with_reducible refine aS (C1.out _) ?_)) | (go_at_call 52;(with_reducible refine aS (C2.out _) ?_)));go_ret;exact ⟨by rw [HF.out];first | rfl | (cases q2 <;> rfl),HB.out⟩)
def rtM (gn:Nat):Value:=.func (.func 118) #[] #[.pointer (some ⟨gn,0,none⟩)]
def oneM (g:Nat):Value:=.func (.func 149) #[] #[.pointer (some ⟨g,0,none⟩)]
theorem oneM_any (gn:Nat) (n9:Int) (x:Int × Int) (us:List Value) (g:Nat) (w:World) (hr:Mem.rep [] w x us) (hp:0<=n9/\n9<=9223372036854775807) (hg:w.cell? ⟨g,0,none⟩=some (rtM gn)) (hq:w.cell? ⟨gn,0,none⟩=some (.int .i64 n9)) :
  Calls Tryz.prog 149 #[.agg us.toArray,.pointer (some ⟨g,0,none⟩)] w (BoolP (!(Sx.mvB n9) x) w):=by
 have hr0:=hr
 obtain ⟨rfl,q1,q2⟩:=rep_mv hr
 clear q1 q2
 show Calls Tryz.prog 149 #[.agg #[.int .i64 x.1,.int .i64 x.2],.pointer (some ⟨g,0,none⟩)] w (BoolP (!(Sx.mvB n9) x) w)
 have hB1:Below w.heap.size w (w.alloc (.cells #[.int .i64 x.1,.int .i64 x.2] 56)):=aP _ _
 have hg1:(w.alloc (.cells #[.int .i64 x.1,.int .i64 x.2] 56)).cell? ⟨g,0,none⟩=some (rtM gn):=(hB1.cell (World.block_lt_of_cell? _ _ hg)).trans hg
 have hr9:=Mem.keep hr0 (Chg.of_below (G:=[]) hB1)
 have hq1:=(hB1.cell (World.block_lt_of_cell? _ _ hq)).trans hq
 have HC:=aI (isLife1_any x gn n9 (w.alloc (.cells #[.int .i64 x.1,.int .i64 x.2] 56)) hp hq1)
 obtain ⟨r,hrr⟩:=aX ((Sx.mvB n9) x)
 rw [hrr] at HC ⊢
 have HB1:=aI hB1
 unfold rtM at hg1
 clear hrr hr0 hr9 hp hg hB1 hq
 go_enter Tryz.func149,Tryz.ntmps149
 go_wp2_with (go_at_call 118;(with_reducible refine (HC.out).mono ?_);rintro e w2 ⟨rfl,hb2⟩;have HB:=aI (HB1.out.trans (hb2.mono HB1.out.size));clear hb2)
 go_ret
 exact ⟨by cases r <;> rfl,HB.out⟩
theorem idxM_any (gn:Nat) (n9:Int) (l:List (Int × Int)) (A:Option Addr) (c g:Nat) (W:World) (hs:SlAt [] W A l) (hm:l.length<=9223372036854775807) (hp:∀ x∈l,0<=n9/\n9<=9223372036854775807) (hg:W.cell? ⟨g,0,none⟩=some (rtM gn)) (hq:W.cell? ⟨gn,0,none⟩=some (.int .i64 n9)) :
  Calls Tryz.prog 171 #[.slice A l.length c,oneM g] W (PredP (!l.all (Sx.mvB n9)) W):=by
 obtain ⟨n,hn⟩:=aX l.length
 have HS:=aI hs
 have HN:=aI hn
 have HP:=aI hp
 have HG:=aI hg
 rw [hn]
 rw [hn] at hm
 have HV:=aI (oneM_any gn n9)
 have HQ9:=aI hq
 unfold oneM
 clear hs hn hp hg hq
 go_enter Tryz.func171,Tryz.ntmps171
 go_wp2_with fail
 go_loopg [8] n (fun r i wr=>∃ k:Nat,k+r=n/\i=.int .i64 k/\Below W.heap.size W wr/\∀ j (hj:j < l.length),j < k->(Sx.mvB n9) l[j]=true)
 case atStart=>exact ⟨0,by omega,rfl,Below.refl _ _,fun _ _ h=>by omega⟩
 case round =>
  obtain ⟨k,hk,rfl,hb,hall⟩:=hrel
  obtain ⟨wo,rfl⟩:=aY wr
  have HB:=aI hb
  have HA:=aI hall
  clear hb hall
  by_cases hlt:k < n
  ·have hkp:k < l.length:=by rw [HN.out];exact hlt
   have k0:(0:Int)<=(k:Int):=aa _
   have k1:(k:Int) < (n:Int):=by omega
   obtain ⟨b,o,us,rfl,_,hr,hc⟩:=(HS.out.keep (Chg.of_below HB.out)).get k hkp
   have cv:=HV.out l[k] us g wo hr (HP.out _ (List.getElem_mem hkp)) ((HB.out.cell (World.block_lt_of_cell? _ _ HG.out)).trans HG.out) ((HB.out.cell (World.block_lt_of_cell? _ _ HQ9.out)).trans HQ9.out)
   obtain ⟨x,hx⟩:=aX (l[k])
   rw [hx] at cv hr
   have hr0:=hr
   obtain ⟨rfl,q1,q2⟩:=rep_mv hr
   clear q1 q2
   change Calls Tryz.prog 149 #[.agg #[.int .i64 x.1,.int .i64 x.2],.pointer (some ⟨g,0,none⟩)] wo _ at cv
   have c0:wo.cell? ⟨b,o+k*2,none⟩=some (.int .i64 x.1):=hc 0 _ rfl
   have c1:wo.cell? ⟨b,o+k*2+1,none⟩=some (.int .i64 x.2):=hc 1 _ rfl
   obtain ⟨bb,hbb⟩:=aX ((Sx.mvB n9) x)
   rw [hbb] at cv
   have CV:=aI cv
   have HX:=aI hx
   have HBB:=aI hbb
   clear cv hbb hr0 hc hx
   cases bb
   ·have HR:=aI (all_bad (b:=(Sx.mvB n9)) hkp (by rw [HX.out];exact HBB.out))
    go_wp2_with (go_at_call 149;(with_reducible refine (CV.out).mono ?_);rintro e w2 ⟨rfl,hb2⟩;replace HB:=aT HB hb2;clear hb2)
    go_ret
    exact ⟨_,rfl,by rw [HR.out];simp,HB.out⟩
   ·go_wp2_with (go_at_call 149;(with_reducible refine (CV.out).mono ?_);rintro e w2 ⟨rfl,hb2⟩;replace HB:=aT HB hb2;clear hb2)
    go_roundg (gk - 1)
    case measure=>omega
    case rel =>
     refine ⟨k+1,by omega,by go_num,HB.out,fun q hq hlt=>?_⟩
     rcases aj q k with h' | h'
     ·exact HA.out q hq h'
     ·obtain rfl:q=k:=by omega
      rw [HX.out];exact HBB.out
  ·have HR:=aI (all_good (b:=(Sx.mvB n9)) fun q hq=>HA.out q hq (by rw [HN.out] at hq;omega))
   have k1:¬ (k:Int) < (n:Int):=by omega
   go_wp2_with fail
   go_ret
   exact ⟨_,rfl,by rw [HR.out];rfl,HB.out⟩
theorem conM_any (gn:Nat) (n9:Int) (l:List (Int × Int)) (A:Option Addr) (c g:Nat) (W:World) (hs:SlAt [] W A l) (hm:l.length<=9223372036854775807) (hp:∀ x∈l,0<=n9/\n9<=9223372036854775807) (hg:W.cell? ⟨g,0,none⟩=some (rtM gn)) (hq:W.cell? ⟨gn,0,none⟩=some (.int .i64 n9)) :
  Calls Tryz.prog 148 #[.slice A l.length c,oneM g] W (BoolP (!l.all (Sx.mvB n9)) W):=by
 have CI:=aI (idxM_any gn n9 l A c g W hs hm hp hg hq)
 obtain ⟨n,hn⟩:=aX l.length
 rw [hn] at CI ⊢
 clear hs hm hn hp hg hq
 generalize oneM g=F at *
 go_enter Tryz.func148,Tryz.ntmps148
 go_wp2_with (go_at_call 171;(with_reducible refine (CI.out).mono ?_);rintro e w2 ⟨r,rfl,hr,hb2⟩;have HB:=aI hb2;have HR:=aI hr;clear hb2 hr)
 go_ret
 exact ⟨by rw [<-HR.out];rfl,HB.out⟩
theorem allM_any (gn:Nat) (n9:Int) (l:List (Int × Int)) (A:Option Addr) (c:Nat) (w:World) (hs:SlAt [] w A l) (hm:l.length<=9223372036854775807) (hp:∀ x∈l,0<=n9/\n9<=9223372036854775807) (hq:w.cell? ⟨gn,0,none⟩=some (.int .i64 n9)) :
  Calls Tryz.prog 117 #[.slice A l.length c,(rtM gn)] w (BoolP (l.all (Sx.mvB n9)) w):=by
 have hB1:Below w.heap.size w (w.alloc (.cells #[(rtM gn)] 149)):=aP _ _
 have CC:=aI (conM_any gn n9 l A c w.heap.size (w.alloc (.cells #[(rtM gn)] 149)) (hs.keep (Chg.of_below hB1)) hm hp (cell_box1 w _ _) ((hB1.cell (World.block_lt_of_cell? _ _ hq)).trans hq))
 obtain ⟨n,hn⟩:=aX l.length
 rw [hn] at CC ⊢
 generalize l.all (Sx.mvB n9)=r at *
 unfold rtM at CC hB1 ⊢
 unfold oneM at CC
 have HB1:=aI hB1
 clear hs hm hn hp hB1 hq
 go_enter Tryz.func117,Tryz.ntmps117
 go_wp2_with (go_at_call 148;(with_reducible refine (CC.out).mono ?_);rintro e w2 ⟨rfl,hb2⟩;have HB:=aI (HB1.out.trans (hb2.mono HB1.out.size));clear hb2)
 go_ret
 exact ⟨by cases r <;> rfl,HB.out⟩
theorem lifB_is (x:Lif):Sx.lifB x=(Sx.nm x.1 && (Sx.within x.2.1.length 1 12 && (x.2.1.all Sx.nm && (decide (x.2.2.length<=32) && x.2.2.all (Sx.mvB x.2.1.length))))):=rfl
theorem isLife_any (x:Lif) (us:List Value) (w:World) (h:Mem.rep [] w x us) (hp:x.2.1.length<=1000000/\x.2.2.length<=1000000):Calls Tryz.prog 56 #[.agg us.toArray] w (BoolP (Sx.lifB x) w):=by
 obtain ⟨A1,cA,B1,dB,rfl,s1,s2,a1,b1,b2,e1,e2⟩:=rep_lif h
 have C1:=aI (fun w=>isName_any x.1 w a1)
 have C2:=aI (within_any x.2.1.length 1 12)
 obtain ⟨W0,hW0⟩:=aX (w.alloc (.cells #[.string x.1,.slice A1 x.2.1.length cA,.slice B1 x.2.2.length dB] 55))
 have hB0:Below w.heap.size w W0:=by rw [<-hW0];exact aP _ _
 have hbk0:Blk W0 w.heap.size 55 #[.string x.1,.slice A1 x.2.1.length cA,.slice B1 x.2.2.length dB]:=by rw [<-hW0];exact Blk.new w _ _
 obtain ⟨W1,hW1⟩:=aX (W0.alloc (.cells #[.int .i64 (x.2.1.length:Int)] 3))
 have hB1:Below w.heap.size w W1:=by rw [<-hW1];exact hB0.alloc hB0.size _
 have hbk:Blk W1 w.heap.size 55 #[.string x.1,.slice A1 x.2.1.length cA,.slice B1 x.2.2.length dB]:=by rw [<-hW1];exact hbk0.alloc _
 have hbn:Blk W1 (w.heap.size+1) 3 #[.int .i64 (x.2.1.length:Int)]:=by
  have hz:W0.heap.size=w.heap.size+1:=by rw [<-hW0];show (w.heap.push _).size=_;rw [Array.size_push]
  rw [<-hW1,<-hz];exact Blk.new W0 _ _
 obtain ⟨N,hN⟩:=aX w.heap.size
 rw [hN] at hbk hbn hbk0
 have k0:=hbk0.cell 1
 simp at k0
 have HB:=aI hB1
 have HB1:=aI (Below.refl W1.heap.size W1)
 have HBQ:=aI hbk
 have HBN:=aI hbn
 have C3:=aI (fun (W':World) (hb:Below w.heap.size w W')=>allS_any x.2.1 A1 cA W' (s1.keep (Chg.of_below hb)) (by omega) (fun _ _=>trivial))
 have C5:=aI (fun (W':World) (hb:Below w.heap.size w W') (hq:W'.cell? ⟨N+1,0,none⟩=some (.int .i64 (x.2.1.length:Int)))=>allM_any (N+1) (x.2.1.length:Int) x.2.2 B1 dB W' (s2.keep (Chg.of_below hb)) (by omega) (fun _ _=>by omega) hq)
 unfold rtS at C3
 unfold rtM at C5
 obtain ⟨c0,c1,c2⟩:=aN3 hbk.cell;have cn:=hbn.cell 0
 simp at c0 c1 c2 cn
 have HW0:=aI hW0
 have HW1:=aI hW1
 show Calls Tryz.prog 56 #[.agg #[.string x.1,.slice A1 x.2.1.length cA,.slice B1 x.2.2.length dB]] w _
 obtain ⟨q1,hq1⟩:=aX (Sx.nm x.1)
 obtain ⟨q2,hq2⟩:=aX (Sx.within x.2.1.length 1 12)
 obtain ⟨q3,hq3⟩:=aX (x.2.1.all Sx.nm)
 obtain ⟨q4,hq4⟩:=aX (decide (x.2.2.length<=32))
 obtain ⟨q5,hq5⟩:=aX (x.2.2.all (Sx.mvB x.2.1.length))
 rw [hq1] at C1
 rw [hq2] at C2
 rw [hq3] at C3
 rw [hq5] at C5
 have hq4':decide ((x.2.2.length:Int)<=32)=q4:=by rw [<-hq4];exact le_cast _ 32
 have HF:=aI (show Sx.lifB x=(q1 && (q2 && (q3 && (q4 && q5)))) by rw [lifB_is,hq1,hq2,hq3,hq4,hq5])
 clear h hbk hbn hbk0 hW1 hW0 hB0 hB1 s1 s2 a1 b1 b2 e1 e2 hp hq1 hq2 hq3 hq4 hq5
 generalize Sx.lifB x=fb at *
 generalize x.2.1.length=sl at *
 generalize x.2.2.length=ml at *
 go_enter Tryz.func56,Tryz.ntmps56
 go_upto_region 1 with fail
 rw [HW0.out]
 go_upto_region 2 with fail
 rw [HW1.out]
 (try clear k0)
 have hz0:W0.heap.size=N+1:=by rw [<-HW0.out];show (w.heap.push _).size=_;rw [Array.size_push,hN]
 (try rw [hz0])
 cases q1 <;> cases q2 <;> cases q3 <;> cases q4 <;> (go_wp2_with (first | (go_at_call 110;(with_reducible refine (C1.out _).mono ?_);rintro e w2 ⟨rfl,hb2⟩;have HB1:=aI (HB1.out.trans (hb2.mono HB1.out.size));have hbk:=HBQ.out.below hb2 HBQ.out.lt;have HBQ:=aI hbk;have hbn:=HBN.out.below hb2 HBN.out.lt;have HBN:=aI hbn;obtain ⟨c0,c1,c2⟩:=aN3 hbk.cell;have cn:=hbn.cell 0;simp at c0 c1 c2 cn;clear hbk hbn hb2) | (go_at_call 52;(with_reducible refine aS (C2.out _) ?_)) | (go_at_call 116;(with_reducible refine (C3.out _ (HB.out.trans (HB1.out.mono HB.out.size))).mono ?_);rintro e w2 ⟨rfl,hb2⟩;have HB1:=aI (HB1.out.trans (hb2.mono HB1.out.size));have hbk:=HBQ.out.below hb2 HBQ.out.lt;have HBQ:=aI hbk;have hbn:=HBN.out.below hb2 HBN.out.lt;have HBN:=aI hbn;obtain ⟨c0,c1,c2⟩:=aN3 hbk.cell;have cn:=hbn.cell 0;simp at c0 c1 c2 cn;clear hbk hbn hb2) | (go_at_call 117;(with_reducible refine (C5.out _ (HB.out.trans (HB1.out.mono HB.out.size)) cn).mono ?_);rintro e w2 ⟨rfl,hb2⟩;have HB1:=aI (HB1.out.trans (hb2.mono HB1.out.size));have hbk:=HBQ.out.below hb2 HBQ.out.lt;have HBQ:=aI hbk;have hbn:=HBN.out.below hb2 HBN.out.lt;have HBN:=aI hbn;obtain ⟨c0,c1,c2⟩:=aN3 hbk.cell;have cn:=hbn.cell 0;simp at c0 c1 c2 cn;clear hbk hbn hb2));go_ret;exact ⟨by rw [HF.out];first | rfl | (cases q5 <;> rfl),HB.out.trans (HB1.out.mono HB.out.size)⟩)
def rtL:Value:=.func (.func 56) #[] #[]
def oneL (g:Nat):Value:=.func (.func 115) #[] #[.pointer (some ⟨g,0,none⟩)]
theorem oneL_any (x:Lif) (us:List Value) (g:Nat) (w:World) (hr:Mem.rep [] w x us) (hp:x.2.1.length<=1000000/\x.2.2.length<=1000000) (hg:w.cell? ⟨g,0,none⟩=some rtL) :
  Calls Tryz.prog 115 #[.agg us.toArray,.pointer (some ⟨g,0,none⟩)] w (BoolP (!Sx.lifB x) w):=by
 have hr0:=hr
 obtain ⟨A1,cA,B1,dB,rfl,q1,q2,q3,q4,q5,q6,q7⟩:=rep_lif hr
 clear q1 q2 q3 q4 q5 q6 q7
 show Calls Tryz.prog 115 #[.agg #[.string x.1,.slice A1 x.2.1.length cA,.slice B1 x.2.2.length dB],.pointer (some ⟨g,0,none⟩)] w (BoolP (!Sx.lifB x) w)
 have hB1:Below w.heap.size w (w.alloc (.cells #[.string x.1,.slice A1 x.2.1.length cA,.slice B1 x.2.2.length dB] 55)):=aP _ _
 have hg1:(w.alloc (.cells #[.string x.1,.slice A1 x.2.1.length cA,.slice B1 x.2.2.length dB] 55)).cell? ⟨g,0,none⟩=some rtL:=(hB1.cell (World.block_lt_of_cell? _ _ hg)).trans hg
 have hr9:=Mem.keep hr0 (Chg.of_below (G:=[]) hB1)
 have HC:=aI (isLife_any x _ (w.alloc (.cells #[.string x.1,.slice A1 x.2.1.length cA,.slice B1 x.2.2.length dB] 55)) hr9 hp)
 obtain ⟨r,hrr⟩:=aX (Sx.lifB x)
 rw [hrr] at HC ⊢
 have HB1:=aI hB1
 unfold rtL at hg1
 clear hrr hr0 hr9 hp hg hB1
 go_enter Tryz.func115,Tryz.ntmps115
 go_wp2_with (go_at_call 56;(with_reducible refine (HC.out).mono ?_);rintro e w2 ⟨rfl,hb2⟩;have HB:=aI (HB1.out.trans (hb2.mono HB1.out.size));clear hb2)
 go_ret
 exact ⟨by cases r <;> rfl,HB.out⟩
theorem idxL_any (l:List (Lif)) (A:Option Addr) (c g:Nat) (W:World) (hs:SlAt [] W A l) (hm:l.length<=9223372036854775807) (hp:∀ x∈l,x.2.1.length<=1000000/\x.2.2.length<=1000000) (hg:W.cell? ⟨g,0,none⟩=some rtL) :
  Calls Tryz.prog 145 #[.slice A l.length c,oneL g] W (PredP (!l.all Sx.lifB) W):=by
 obtain ⟨n,hn⟩:=aX l.length
 have HS:=aI hs
 have HN:=aI hn
 have HP:=aI hp
 have HG:=aI hg
 rw [hn]
 rw [hn] at hm
 have HV:=aI (oneL_any)
 unfold oneL
 clear hs hn hp hg
 go_enter Tryz.func145,Tryz.ntmps145
 go_wp2_with fail
 go_loopg [8] n (fun r i wr=>∃ k:Nat,k+r=n/\i=.int .i64 k/\Below W.heap.size W wr/\∀ j (hj:j < l.length),j < k->Sx.lifB l[j]=true)
 case atStart=>exact ⟨0,by omega,rfl,Below.refl _ _,fun _ _ h=>by omega⟩
 case round =>
  obtain ⟨k,hk,rfl,hb,hall⟩:=hrel
  obtain ⟨wo,rfl⟩:=aY wr
  have HB:=aI hb
  have HA:=aI hall
  clear hb hall
  by_cases hlt:k < n
  ·have hkp:k < l.length:=by rw [HN.out];exact hlt
   have k0:(0:Int)<=(k:Int):=aa _
   have k1:(k:Int) < (n:Int):=by omega
   obtain ⟨b,o,us,rfl,_,hr,hc⟩:=(HS.out.keep (Chg.of_below HB.out)).get k hkp
   have cv:=HV.out l[k] us g wo hr (HP.out _ (List.getElem_mem hkp)) ((HB.out.cell (World.block_lt_of_cell? _ _ HG.out)).trans HG.out)
   obtain ⟨x,hx⟩:=aX (l[k])
   rw [hx] at cv hr
   have hr0:=hr
   obtain ⟨A1,cA,B1,dB,rfl,q1,q2,q3,q4,q5,q6,q7⟩:=rep_lif hr
   clear q1 q2 q3 q4 q5 q6 q7
   change Calls Tryz.prog 115 #[.agg #[.string x.1,.slice A1 x.2.1.length cA,.slice B1 x.2.2.length dB],.pointer (some ⟨g,0,none⟩)] wo _ at cv
   obtain ⟨c0,c1,c2⟩:=aG3 (m:=k*3) hc
   obtain ⟨bb,hbb⟩:=aX (Sx.lifB x)
   rw [hbb] at cv
   have CV:=aI cv
   have HX:=aI hx
   have HBB:=aI hbb
   clear cv hbb hr0 hc hx
   cases bb
   ·have HR:=aI (all_bad (b:=Sx.lifB) hkp (by rw [HX.out];exact HBB.out))
    go_wp2_with (go_at_call 115;(with_reducible refine (CV.out).mono ?_);rintro e w2 ⟨rfl,hb2⟩;replace HB:=aT HB hb2;clear hb2)
    go_ret
    exact ⟨_,rfl,by rw [HR.out];simp,HB.out⟩
   ·go_wp2_with (go_at_call 115;(with_reducible refine (CV.out).mono ?_);rintro e w2 ⟨rfl,hb2⟩;replace HB:=aT HB hb2;clear hb2)
    go_roundg (gk - 1)
    case measure=>omega
    case rel =>
     refine ⟨k+1,by omega,by go_num,HB.out,fun q hq hlt=>?_⟩
     rcases aj q k with h' | h'
     ·exact HA.out q hq h'
     ·obtain rfl:q=k:=by omega
      rw [HX.out];exact HBB.out
  ·have HR:=aI (all_good (b:=Sx.lifB) fun q hq=>HA.out q hq (by rw [HN.out] at hq;omega))
   have k1:¬ (k:Int) < (n:Int):=by omega
   go_wp2_with fail
   go_ret
   exact ⟨_,rfl,by rw [HR.out];rfl,HB.out⟩
theorem conL_any (l:List (Lif)) (A:Option Addr) (c g:Nat) (W:World) (hs:SlAt [] W A l) (hm:l.length<=9223372036854775807) (hp:∀ x∈l,x.2.1.length<=1000000/\x.2.2.length<=1000000) (hg:W.cell? ⟨g,0,none⟩=some rtL) :
  Calls Tryz.prog 114 #[.slice A l.length c,oneL g] W (BoolP (!l.all Sx.lifB) W):=by
 have CI:=aI (idxL_any l A c g W hs hm hp hg)
 obtain ⟨n,hn⟩:=aX l.length
 rw [hn] at CI ⊢
 clear hs hm hn hp hg
 generalize oneL g=F at *
 go_enter Tryz.func114,Tryz.ntmps114
 go_wp2_with (go_at_call 145;(with_reducible refine (CI.out).mono ?_);rintro e w2 ⟨r,rfl,hr,hb2⟩;have HB:=aI hb2;have HR:=aI hr;clear hb2 hr)
 go_ret
 exact ⟨by rw [<-HR.out];rfl,HB.out⟩
theorem allL_any (l:List (Lif)) (A:Option Addr) (c:Nat) (w:World) (hs:SlAt [] w A l) (hm:l.length<=9223372036854775807) (hp:∀ x∈l,x.2.1.length<=1000000/\x.2.2.length<=1000000) :
  Calls Tryz.prog 55 #[.slice A l.length c,rtL] w (BoolP (l.all Sx.lifB) w):=by
 have hB1:Below w.heap.size w (w.alloc (.cells #[rtL] 103)):=aP _ _
 have CC:=aI (conL_any l A c w.heap.size (w.alloc (.cells #[rtL] 103)) (hs.keep (Chg.of_below hB1)) hm hp (cell_box1 w _ _))
 obtain ⟨n,hn⟩:=aX l.length
 rw [hn] at CC ⊢
 generalize l.all Sx.lifB=r at *
 unfold rtL at CC hB1 ⊢
 unfold oneL at CC
 have HB1:=aI hB1
 clear hs hm hn hp hB1
 go_enter Tryz.func55,Tryz.ntmps55
 go_wp2_with (go_at_call 114;(with_reducible refine (CC.out).mono ?_);rintro e w2 ⟨rfl,hb2⟩;have HB:=aI (HB1.out.trans (hb2.mono HB1.out.size));clear hb2)
 go_ret
 exact ⟨by cases r <;> rfl,HB.out⟩
theorem em_add (a b:ByteArray):Sx.em (a++b)=(Sx.em a && Sx.em b):=by
 unfold Sx.em
 rw [ByteArray.size_append,Bool.eq_iff_iff]
 simp
theorem isRule_any (x:Rul) (us:List Value) (w:World) (h:Mem.rep [] w x us) (hp:x.2.2.1.size+x.2.2.2.1.size<=9223372036854775807):Calls Tryz.prog 58 #[.agg us.toArray] w (BoolP (Sx.rulB x) w):=by
 obtain ⟨rfl,a1,a2,a3,a4,a5⟩:=rep_rul h
 have C1:=aI (fun w=>isName_any x.1 w a1)
 have C2:=aI (fun w=>isName_any x.2.1 w a2)
 have C3:=aI (fun w=>isName_any x.2.2.1 w a3)
 have C4:=aI (fun w=>isName_any x.2.2.2.1 w a4)
 have C6:=aI (within_any x.2.2.2.2 (-1048576) 1048576)
 obtain ⟨y1,y2,y3⟩:=em_spell x.2.2.1
 obtain ⟨y4,y5,y6⟩:=em_spell x.2.2.2.1
 obtain ⟨y7,y8,y9⟩:=em_spell (x.2.2.1++x.2.2.2.1)
 have hadd:Sx.em (x.2.2.1++x.2.2.2.1)=(Sx.em x.2.2.1 && Sx.em x.2.2.2.1):=em_add _ _
 rw [hadd] at y7 y8 y9
 clear hadd
 obtain ⟨W1,hW1⟩:=aX (w.alloc (.cells #[.string x.1,.string x.2.1,.string x.2.2.1,.string x.2.2.2.1,.int .i64 x.2.2.2.2] 58))
 have HB:=aI (show Below w.heap.size w W1 by rw [<-hW1];exact aP _ _)
 have HB1:=aI (Below.refl W1.heap.size W1)
 have hbk:Blk W1 w.heap.size 58 #[.string x.1,.string x.2.1,.string x.2.2.1,.string x.2.2.2.1,.int .i64 x.2.2.2.2]:=by rw [<-hW1];exact Blk.new w _ _
 obtain ⟨N,hN⟩:=aX w.heap.size
 rw [hN] at hbk
 have HBQ:=aI hbk
 obtain ⟨c0,c1,c2,c3,c4⟩:=aN5 hbk.cell
 simp at c0 c1 c2 c3 c4
 have HW1:=aI hW1
 show Calls Tryz.prog 58 #[.agg #[.string x.1,.string x.2.1,.string x.2.2.1,.string x.2.2.2.1,.int .i64 x.2.2.2.2]] w _
 obtain ⟨q1,hq1⟩:=aX (Sx.nm x.1)
 rw [hq1] at C1
 obtain ⟨q2,hq2⟩:=aX (Sx.nm x.2.1)
 rw [hq2] at C2
 obtain ⟨q3,hq3⟩:=aX (Sx.em x.2.2.1)
 rw [hq3] at y1 y2 y3 y7 y8 y9
 obtain ⟨q4,hq4⟩:=aX (Sx.nm x.2.2.1)
 rw [hq4] at C3
 obtain ⟨q5,hq5⟩:=aX (Sx.em x.2.2.2.1)
 rw [hq5] at y4 y5 y6 y7 y8 y9
 obtain ⟨q6,hq6⟩:=aX (Sx.nm x.2.2.2.1)
 rw [hq6] at C4
 obtain ⟨q7,hq7⟩:=aX (Sx.within x.2.2.2.2 (-Sx.most) Sx.most)
 rw [show Sx.within x.2.2.2.2 (-1048576) 1048576=q7 from hq7] at C6
 have HF:=aI (show Sx.rulB x=(q1 && (q2 && ((q3 || q4) && ((q5 || q6) && (!(q3 && q5) && q7))))) by unfold Sx.rulB;rw [hq1,hq2,hq3,hq4,hq5,hq6,hq7])
 clear h hbk hW1 a1 a2 a3 a4 a5 hq1 hq2 hq3 hq4 hq5 hq6 hq7
 generalize Sx.rulB x=fb at *
 generalize x.1=s1 at *
 generalize x.2.1=s2 at *
 generalize x.2.2.1=s3 at *
 generalize x.2.2.2.1=s4 at *
 generalize x.2.2.2.2=nn at *
 go_enter Tryz.func58,Tryz.ntmps58
 go_upto_region 1 with fail
 rw [HW1.out]
 cases q1 <;> cases q2 <;> cases q3 <;> cases q4 <;> cases q5 <;> cases q6 <;> (go_wp2_with (first | (go_at_call 110;(with_reducible refine (C1.out _).mono ?_);rintro e w2 ⟨rfl,hb2⟩;have HB1:=aI (HB1.out.trans (hb2.mono HB1.out.size));have hbk:=HBQ.out.below hb2 HBQ.out.lt;have HBQ:=aI hbk;obtain ⟨c0,c1,c2,c3,c4⟩:=aN5 hbk.cell;simp at c0 c1 c2 c3 c4;clear hbk hb2) | (go_at_call 110;(with_reducible refine (C2.out _).mono ?_);rintro e w2 ⟨rfl,hb2⟩;have HB1:=aI (HB1.out.trans (hb2.mono HB1.out.size));have hbk:=HBQ.out.below hb2 HBQ.out.lt;have HBQ:=aI hbk;obtain ⟨c0,c1,c2,c3,c4⟩:=aN5 hbk.cell;simp at c0 c1 c2 c3 c4;clear hbk hb2) | (go_at_call 110;(with_reducible refine (C3.out _).mono ?_);rintro e w2 ⟨rfl,hb2⟩;have HB1:=aI (HB1.out.trans (hb2.mono HB1.out.size));have hbk:=HBQ.out.below hb2 HBQ.out.lt;have HBQ:=aI hbk;obtain ⟨c0,c1,c2,c3,c4⟩:=aN5 hbk.cell;simp at c0 c1 c2 c3 c4;clear hbk hb2) | (go_at_call 110;(with_reducible refine (C4.out _).mono ?_);rintro e w2 ⟨rfl,hb2⟩;have HB1:=aI (HB1.out.trans (hb2.mono HB1.out.size));have hbk:=HBQ.out.below hb2 HBQ.out.lt;have HBQ:=aI hbk;obtain ⟨c0,c1,c2,c3,c4⟩:=aN5 hbk.cell;simp at c0 c1 c2 c3 c4;clear hbk hb2) | (go_at_call 52;(with_reducible refine aS (C6.out _) ?_)));go_ret;exact ⟨by rw [HF.out];first | rfl | (cases q7 <;> rfl),HB.out.trans (HB1.out.mono HB.out.size)⟩)
def rtR:Value:=.func (.func 58) #[] #[]
def oneR (g:Nat):Value:=.func (.func 120) #[] #[.pointer (some ⟨g,0,none⟩)]
theorem oneR_any (x:Rul) (us:List Value) (g:Nat) (w:World) (hr:Mem.rep [] w x us) (hp:x.2.2.1.size+x.2.2.2.1.size<=9223372036854775807) (hg:w.cell? ⟨g,0,none⟩=some rtR) :
  Calls Tryz.prog 120 #[.agg us.toArray,.pointer (some ⟨g,0,none⟩)] w (BoolP (!Sx.rulB x) w):=by
 have hr0:=hr
 obtain ⟨rfl,q1,q2,q3,q4,q5⟩:=rep_rul hr
 clear q1 q2 q3 q4 q5
 show Calls Tryz.prog 120 #[.agg #[.string x.1,.string x.2.1,.string x.2.2.1,.string x.2.2.2.1,.int .i64 x.2.2.2.2],.pointer (some ⟨g,0,none⟩)] w (BoolP (!Sx.rulB x) w)
 have hB1:Below w.heap.size w (w.alloc (.cells #[.string x.1,.string x.2.1,.string x.2.2.1,.string x.2.2.2.1,.int .i64 x.2.2.2.2] 58)):=aP _ _
 have hg1:(w.alloc (.cells #[.string x.1,.string x.2.1,.string x.2.2.1,.string x.2.2.2.1,.int .i64 x.2.2.2.2] 58)).cell? ⟨g,0,none⟩=some rtR:=(hB1.cell (World.block_lt_of_cell? _ _ hg)).trans hg
 have hr9:=Mem.keep hr0 (Chg.of_below (G:=[]) hB1)
 have HC:=aI (isRule_any x _ (w.alloc (.cells #[.string x.1,.string x.2.1,.string x.2.2.1,.string x.2.2.2.1,.int .i64 x.2.2.2.2] 58)) hr9 hp)
 obtain ⟨r,hrr⟩:=aX (Sx.rulB x)
 rw [hrr] at HC ⊢
 have HB1:=aI hB1
 unfold rtR at hg1
 clear hrr hr0 hr9 hp hg hB1
 go_enter Tryz.func120,Tryz.ntmps120
 go_wp2_with (go_at_call 58;(with_reducible refine (HC.out).mono ?_);rintro e w2 ⟨rfl,hb2⟩;have HB:=aI (HB1.out.trans (hb2.mono HB1.out.size));clear hb2)
 go_ret
 exact ⟨by cases r <;> rfl,HB.out⟩
theorem idxR_any (l:List (Rul)) (A:Option Addr) (c g:Nat) (W:World) (hs:SlAt [] W A l) (hm:l.length<=9223372036854775807) (hp:∀ x∈l,x.2.2.1.size+x.2.2.2.1.size<=9223372036854775807) (hg:W.cell? ⟨g,0,none⟩=some rtR) :
  Calls Tryz.prog 150 #[.slice A l.length c,oneR g] W (PredP (!l.all Sx.rulB) W):=by
 obtain ⟨n,hn⟩:=aX l.length
 have HS:=aI hs
 have HN:=aI hn
 have HP:=aI hp
 have HG:=aI hg
 rw [hn]
 rw [hn] at hm
 have HV:=aI (oneR_any)
 unfold oneR
 clear hs hn hp hg
 go_enter Tryz.func150,Tryz.ntmps150
 go_wp2_with fail
 go_loopg [8] n (fun r i wr=>∃ k:Nat,k+r=n/\i=.int .i64 k/\Below W.heap.size W wr/\∀ j (hj:j < l.length),j < k->Sx.rulB l[j]=true)
 case atStart=>exact ⟨0,by omega,rfl,Below.refl _ _,fun _ _ h=>by omega⟩
 case round =>
  obtain ⟨k,hk,rfl,hb,hall⟩:=hrel
  obtain ⟨wo,rfl⟩:=aY wr
  have HB:=aI hb
  have HA:=aI hall
  clear hb hall
  by_cases hlt:k < n
  ·have hkp:k < l.length:=by rw [HN.out];exact hlt
   have k0:(0:Int)<=(k:Int):=aa _
   have k1:(k:Int) < (n:Int):=by omega
   obtain ⟨b,o,us,rfl,_,hr,hc⟩:=(HS.out.keep (Chg.of_below HB.out)).get k hkp
   have cv:=HV.out l[k] us g wo hr (HP.out _ (List.getElem_mem hkp)) ((HB.out.cell (World.block_lt_of_cell? _ _ HG.out)).trans HG.out)
   obtain ⟨x,hx⟩:=aX (l[k])
   rw [hx] at cv hr
   have hr0:=hr
   obtain ⟨rfl,q1,q2,q3,q4,q5⟩:=rep_rul hr
   clear q1 q2 q3 q4 q5
   change Calls Tryz.prog 120 #[.agg #[.string x.1,.string x.2.1,.string x.2.2.1,.string x.2.2.2.1,.int .i64 x.2.2.2.2],.pointer (some ⟨g,0,none⟩)] wo _ at cv
   obtain ⟨c0,c1,c2,c3,c4⟩:=aG5 (m:=k*5) hc
   obtain ⟨bb,hbb⟩:=aX (Sx.rulB x)
   rw [hbb] at cv
   have CV:=aI cv
   have HX:=aI hx
   have HBB:=aI hbb
   clear cv hbb hr0 hc hx
   cases bb
   ·have HR:=aI (all_bad (b:=Sx.rulB) hkp (by rw [HX.out];exact HBB.out))
    go_wp2_with (go_at_call 120;(with_reducible refine (CV.out).mono ?_);rintro e w2 ⟨rfl,hb2⟩;replace HB:=aT HB hb2;clear hb2)
    go_ret
    exact ⟨_,rfl,by rw [HR.out];simp,HB.out⟩
   ·go_wp2_with (go_at_call 120;(with_reducible refine (CV.out).mono ?_);rintro e w2 ⟨rfl,hb2⟩;replace HB:=aT HB hb2;clear hb2)
    go_roundg (gk - 1)
    case measure=>omega
    case rel =>
     refine ⟨k+1,by omega,by go_num,HB.out,fun q hq hlt=>?_⟩
     rcases aj q k with h' | h'
     ·exact HA.out q hq h'
     ·obtain rfl:q=k:=by omega
      rw [HX.out];exact HBB.out
  ·have HR:=aI (all_good (b:=Sx.rulB) fun q hq=>HA.out q hq (by rw [HN.out] at hq;omega))
   have k1:¬ (k:Int) < (n:Int):=by omega
   go_wp2_with fail
   go_ret
   exact ⟨_,rfl,by rw [HR.out];rfl,HB.out⟩
theorem conR_any (l:List (Rul)) (A:Option Addr) (c g:Nat) (W:World) (hs:SlAt [] W A l) (hm:l.length<=9223372036854775807) (hp:∀ x∈l,x.2.2.1.size+x.2.2.2.1.size<=9223372036854775807) (hg:W.cell? ⟨g,0,none⟩=some rtR) :
  Calls Tryz.prog 119 #[.slice A l.length c,oneR g] W (BoolP (!l.all Sx.rulB) W):=by
 have CI:=aI (idxR_any l A c g W hs hm hp hg)
 obtain ⟨n,hn⟩:=aX l.length
 rw [hn] at CI ⊢
 clear hs hm hn hp hg
 generalize oneR g=F at *
 go_enter Tryz.func119,Tryz.ntmps119
 go_wp2_with (go_at_call 150;(with_reducible refine (CI.out).mono ?_);rintro e w2 ⟨r,rfl,hr,hb2⟩;have HB:=aI hb2;have HR:=aI hr;clear hb2 hr)
 go_ret
 exact ⟨by rw [<-HR.out];rfl,HB.out⟩
theorem allR_any (l:List (Rul)) (A:Option Addr) (c:Nat) (w:World) (hs:SlAt [] w A l) (hm:l.length<=9223372036854775807) (hp:∀ x∈l,x.2.2.1.size+x.2.2.2.1.size<=9223372036854775807) :
  Calls Tryz.prog 57 #[.slice A l.length c,rtR] w (BoolP (l.all Sx.rulB) w):=by
 have hB1:Below w.heap.size w (w.alloc (.cells #[rtR] 105)):=aP _ _
 have CC:=aI (conR_any l A c w.heap.size (w.alloc (.cells #[rtR] 105)) (hs.keep (Chg.of_below hB1)) hm hp (cell_box1 w _ _))
 obtain ⟨n,hn⟩:=aX l.length
 rw [hn] at CC ⊢
 generalize l.all Sx.rulB=r at *
 unfold rtR at CC hB1 ⊢
 unfold oneR at CC
 have HB1:=aI hB1
 clear hs hm hn hp hB1
 go_enter Tryz.func57,Tryz.ntmps57
 go_wp2_with (go_at_call 119;(with_reducible refine (CC.out).mono ?_);rintro e w2 ⟨rfl,hb2⟩;have HB:=aI (HB1.out.trans (hb2.mono HB1.out.size));clear hb2)
 go_ret
 exact ⟨by cases r <;> rfl,HB.out⟩
structure Sx.Sz (x:Sch):Prop where
 k:∀ k∈Sc.kinds x,(Sc.flds k).length<=1000000/\∀ f∈Sc.flds k,(Sc.wts f).length<=1000000
 l:∀ l∈x.2.2.1,l.2.1.length<=1000000/\l.2.2.length<=1000000
 r:∀ r∈x.2.2.2,r.2.2.1.size+r.2.2.2.1.size<=9223372036854775807
theorem okB_eq (x:Sch):Sx.okB x=(Sx.within x.1 0 1048576 && (decide ((Sc.kinds x).length<=6) && (decide (x.2.2.1.length<=6) && (decide (x.2.2.2.length<=16) && ((Sc.kinds x).all Sx.kndB && (x.2.2.1.all Sx.lifB && x.2.2.2.all Sx.rulB)))))):=rfl
theorem valid_any (x:Sch) (us:List Value) (w:World) (h:Mem.rep [] w x us) (hz:Sx.Sz x) (he:SEnv w):Calls Tryz.prog 21 #[.agg us.toArray] w fun e w'=>e=.returned (.int .i64 (Sx.valid x))/\Below w.heap.size w w':=by
 obtain ⟨A,c,B,d,C,e,rfl,s1,s2,s3,a1,b1,b2,b3,b4,b5,b6⟩:=rep_sch h
 obtain ⟨nk,hk⟩:=aX ((Sc.kinds x).length)
 obtain ⟨nl,hl⟩:=aX x.2.2.1.length
 obtain ⟨nr,hr⟩:=aX x.2.2.2.length
 obtain ⟨q1,h1⟩:=aX (Sx.within x.1 0 1048576)
 obtain ⟨q5,h5⟩:=aX ((Sc.kinds x).all Sx.kndB)
 obtain ⟨q6,h6⟩:=aX (x.2.2.1.all Sx.lifB)
 obtain ⟨q7,h7⟩:=aX (x.2.2.2.all Sx.rulB)
 have C1:=within_any x.1 0 1048576
 rw [h1] at C1
 replace C1:=aI C1
 have C5:=fun (W:World) (hs:SlAt [] W A (Sc.kinds x))=>allK_any (Sc.kinds x) A c W hs (by omega) hz.k
 have C6:=fun (W:World) (hs:SlAt [] W B x.2.2.1)=>allL_any x.2.2.1 B d W hs (by omega) hz.l
 have C7:=fun (W:World) (hs:SlAt [] W C x.2.2.2)=>allR_any x.2.2.2 C e W hs (by omega) hz.r
 rw [h5,hk] at C5
 rw [h6,hl] at C6
 rw [h7,hr] at C7
 unfold rtK at C5
 unfold rtL at C6
 unfold rtR at C7
 replace C5:=aI C5
 replace C6:=aI C6
 replace C7:=aI C7
 have HOK:=okB_eq x
 rw [h1,hk,hl,hr,h5,h6,h7] at HOK
 obtain ⟨S,hS⟩:=aX (Sx.source x)
 have HV:Sx.valid x=if Sx.okB x=true then (if 8192 < S.length then 4 else 0) else 1:=by unfold Sx.valid;rw [hS]
 have hSl:Sx.okB x=true->S.length<=1000000:=fun h=>by rw [<-hS];exact Sx.source_le (Sx.okB_bd h)
 have CSR:=aI (fun (W:World) (hr:Mem.rep [] W x [.int .i64 x.1,.slice A nk c,.slice B nl d,.slice C nr e]) (hok:Sx.okB x=true) (hb:Below w.heap.size w W)=>source_any x _ W hr hok (he.to hb))
 rw [hS] at CSR
 obtain ⟨N,hN⟩:=aX w.heap.size
 obtain ⟨W0,hW0⟩:=aX (w.alloc (.cells #[.int .i64 x.1,.slice A nk c,.slice B nl d,.slice C nr e] 28))
 have hb0:Below w.heap.size w W0:=by rw [<-hW0];exact aP _ _
 have hbk:Blk W0 N 28 #[.int .i64 x.1,.slice A nk c,.slice B nl d,.slice C nr e]:=by rw [<-hW0,<-hN];exact Blk.new w _ _
 rw [hk,hl,hr] at h
 have T:=aI ((((((held0 W0 [] (fun _ h=>by cases h)).add (keeps_rep x _) (Mem.keep h (Chg.of_below hb0))).add (keeps_sl C x.2.2.2) (s3.keep (Chg.of_below hb0))).add (keeps_sl B x.2.2.1) (s2.keep (Chg.of_below hb0))).add (keeps_sl A (Sc.kinds x)) (s1.keep (Chg.of_below hb0))).add (P:=fun M W=>N∉M/\Blk W N 28 #[.int .i64 x.1,.slice A nk c,.slice B nl d,.slice C nr e]) (keeps_blk _ _ _) ⟨by simp,hbk⟩)
 replace C5:=aI (fun (W:World) (hb:Below W0.heap.size W0 W)=>C5.out W ((T.out.below hb).fact (.tail _ (.head _))))
 replace C6:=aI (fun (W:World) (hb:Below W0.heap.size W0 W)=>C6.out W ((T.out.below hb).fact (.tail _ (.tail _ (.head _)))))
 replace C7:=aI (fun (W:World) (hb:Below W0.heap.size W0 W)=>C7.out W ((T.out.below hb).fact (.tail _ (.tail _ (.tail _ (.head _))))))
 replace CSR:=aI (fun (W:World) (hok:Sx.okB x=true) (hb:Below W0.heap.size W0 W)=>CSR.out W ((T.out.below hb).fact (.tail _ (.tail _ (.tail _ (.tail _ (.head _)))))) hok (hb0.trans (hb.mono hb0.size)))
 have HB:=aI hb0
 have HW0:=aI hW0
 show Calls Tryz.prog 21 #[.agg #[.int .i64 x.1,.slice A (Sc.kinds x).length c,.slice B x.2.2.1.length d,.slice C x.2.2.2.length e]] w _
 obtain ⟨vv,hvv⟩:=aX (Sx.valid x)
 rw [hvv] at HV ⊢
 rw [hk,hl,hr]
 have HVV:=aI HV
 clear h s1 s2 s3 a1 b1 b2 b3 b4 b5 b6 hk hl hr hbk hb0 hW0 h1 h5 h6 h7 HV hS he hz hvv
 obtain ⟨z0,z1,z2,z3⟩:=aM4 ((T.out.fact (.head _)).2)
 have HN:=aI hN
 clear hN
 go_enter Tryz.func21,Tryz.ntmps21
 go_upto_region 1 with fail
 rw [HW0.out,HN.out]
 cases q1
 ·(try simp only [Bool.false_and,Bool.true_and] at HOK)
  have HOK:=aI HOK
  go_wp2_with (first | (go_at_call 52;(with_reducible refine aS (C1.out _) ?_)) | (go_at_call 53;(with_reducible refine (C5.out _ T.out.bl).mono ?_);rintro e w2 ⟨rfl,hb2⟩;replace T:=aI (T.out.below hb2);clear hb2 z0 z1 z2 z3;obtain ⟨z0,z1,z2,z3⟩:=aM4 ((T.out.fact (.head _)).2)) | (go_at_call 55;(with_reducible refine (C6.out _ T.out.bl).mono ?_);rintro e w2 ⟨rfl,hb2⟩;replace T:=aI (T.out.below hb2);clear hb2 z0 z1 z2 z3;obtain ⟨z0,z1,z2,z3⟩:=aM4 ((T.out.fact (.head _)).2)) | (go_at_call 57;(with_reducible refine (C7.out _ T.out.bl).mono ?_);rintro e w2 ⟨rfl,hb2⟩;replace T:=aI (T.out.below hb2);clear hb2 z0 z1 z2 z3;obtain ⟨z0,z1,z2,z3⟩:=aM4 ((T.out.fact (.head _)).2)))
  go_ret
  have ev:vv=1:=by rw [HVV.out,if_neg (by rw [HOK.out];simp)]
  exact ⟨by rw [ev];rfl,HB.out.trans (T.out.bl.mono HB.out.size)⟩
 ·(try simp only [Bool.true_and] at HOK)
  by_cases c2:nk<=6
  rotate_left
  ·rw [ad c2] at HOK
   (try simp only [Bool.false_and,Bool.true_and] at HOK)
   have HOK:=aI HOK
   have t1:((6:Int) < (nk:Int)):=by omega
   have t2:decide ((6:Int) < (nk:Int))=true:=ac (by omega)
   go_wp2_with (first | (go_at_call 52;(with_reducible refine aS (C1.out _) ?_)) | (go_at_call 53;(with_reducible refine (C5.out _ T.out.bl).mono ?_);rintro e w2 ⟨rfl,hb2⟩;replace T:=aI (T.out.below hb2);clear hb2 z0 z1 z2 z3;obtain ⟨z0,z1,z2,z3⟩:=aM4 ((T.out.fact (.head _)).2)) | (go_at_call 55;(with_reducible refine (C6.out _ T.out.bl).mono ?_);rintro e w2 ⟨rfl,hb2⟩;replace T:=aI (T.out.below hb2);clear hb2 z0 z1 z2 z3;obtain ⟨z0,z1,z2,z3⟩:=aM4 ((T.out.fact (.head _)).2)) | (go_at_call 57;(with_reducible refine (C7.out _ T.out.bl).mono ?_);rintro e w2 ⟨rfl,hb2⟩;replace T:=aI (T.out.below hb2);clear hb2 z0 z1 z2 z3;obtain ⟨z0,z1,z2,z3⟩:=aM4 ((T.out.fact (.head _)).2)))
   go_ret
   have ev:vv=1:=by rw [HVV.out,if_neg (by rw [HOK.out];simp)]
   exact ⟨by rw [ev];rfl,HB.out.trans (T.out.bl.mono HB.out.size)⟩
  ·rw [ac c2] at HOK
   (try simp only [Bool.true_and] at HOK)
   have t1c2:((nk:Int)<=(6:Int)):=by omega
   have t2c2:decide ((6:Int) < (nk:Int))=false:=ad (by omega)
   by_cases c3:nl<=6
   rotate_left
   ·rw [ad c3] at HOK
    (try simp only [Bool.false_and,Bool.true_and] at HOK)
    have HOK:=aI HOK
    have t1:((6:Int) < (nl:Int)):=by omega
    have t2:decide ((6:Int) < (nl:Int))=true:=ac (by omega)
    go_wp2_with (first | (go_at_call 52;(with_reducible refine aS (C1.out _) ?_)) | (go_at_call 53;(with_reducible refine (C5.out _ T.out.bl).mono ?_);rintro e w2 ⟨rfl,hb2⟩;replace T:=aI (T.out.below hb2);clear hb2 z0 z1 z2 z3;obtain ⟨z0,z1,z2,z3⟩:=aM4 ((T.out.fact (.head _)).2)) | (go_at_call 55;(with_reducible refine (C6.out _ T.out.bl).mono ?_);rintro e w2 ⟨rfl,hb2⟩;replace T:=aI (T.out.below hb2);clear hb2 z0 z1 z2 z3;obtain ⟨z0,z1,z2,z3⟩:=aM4 ((T.out.fact (.head _)).2)) | (go_at_call 57;(with_reducible refine (C7.out _ T.out.bl).mono ?_);rintro e w2 ⟨rfl,hb2⟩;replace T:=aI (T.out.below hb2);clear hb2 z0 z1 z2 z3;obtain ⟨z0,z1,z2,z3⟩:=aM4 ((T.out.fact (.head _)).2)))
    go_ret
    have ev:vv=1:=by rw [HVV.out,if_neg (by rw [HOK.out];simp)]
    exact ⟨by rw [ev];rfl,HB.out.trans (T.out.bl.mono HB.out.size)⟩
   ·rw [ac c3] at HOK
    (try simp only [Bool.true_and] at HOK)
    have t1c3:((nl:Int)<=(6:Int)):=by omega
    have t2c3:decide ((6:Int) < (nl:Int))=false:=ad (by omega)
    by_cases c4:nr<=16
    rotate_left
    ·rw [ad c4] at HOK
     (try simp only [Bool.false_and,Bool.true_and] at HOK)
     have HOK:=aI HOK
     have t1:((16:Int) < (nr:Int)):=by omega
     have t2:decide ((16:Int) < (nr:Int))=true:=ac (by omega)
     go_wp2_with (first | (go_at_call 52;(with_reducible refine aS (C1.out _) ?_)) | (go_at_call 53;(with_reducible refine (C5.out _ T.out.bl).mono ?_);rintro e w2 ⟨rfl,hb2⟩;replace T:=aI (T.out.below hb2);clear hb2 z0 z1 z2 z3;obtain ⟨z0,z1,z2,z3⟩:=aM4 ((T.out.fact (.head _)).2)) | (go_at_call 55;(with_reducible refine (C6.out _ T.out.bl).mono ?_);rintro e w2 ⟨rfl,hb2⟩;replace T:=aI (T.out.below hb2);clear hb2 z0 z1 z2 z3;obtain ⟨z0,z1,z2,z3⟩:=aM4 ((T.out.fact (.head _)).2)) | (go_at_call 57;(with_reducible refine (C7.out _ T.out.bl).mono ?_);rintro e w2 ⟨rfl,hb2⟩;replace T:=aI (T.out.below hb2);clear hb2 z0 z1 z2 z3;obtain ⟨z0,z1,z2,z3⟩:=aM4 ((T.out.fact (.head _)).2)))
     go_ret
     have ev:vv=1:=by rw [HVV.out,if_neg (by rw [HOK.out];simp)]
     exact ⟨by rw [ev];rfl,HB.out.trans (T.out.bl.mono HB.out.size)⟩
    ·rw [ac c4] at HOK
     (try simp only [Bool.true_and] at HOK)
     have t1c4:((nr:Int)<=(16:Int)):=by omega
     have t2c4:decide ((16:Int) < (nr:Int))=false:=ad (by omega)
     cases q5
     ·(try simp only [Bool.false_and,Bool.true_and] at HOK)
      have HOK:=aI HOK
      go_wp2_with (first | (go_at_call 52;(with_reducible refine aS (C1.out _) ?_)) | (go_at_call 53;(with_reducible refine (C5.out _ T.out.bl).mono ?_);rintro e w2 ⟨rfl,hb2⟩;replace T:=aI (T.out.below hb2);clear hb2 z0 z1 z2 z3;obtain ⟨z0,z1,z2,z3⟩:=aM4 ((T.out.fact (.head _)).2)) | (go_at_call 55;(with_reducible refine (C6.out _ T.out.bl).mono ?_);rintro e w2 ⟨rfl,hb2⟩;replace T:=aI (T.out.below hb2);clear hb2 z0 z1 z2 z3;obtain ⟨z0,z1,z2,z3⟩:=aM4 ((T.out.fact (.head _)).2)) | (go_at_call 57;(with_reducible refine (C7.out _ T.out.bl).mono ?_);rintro e w2 ⟨rfl,hb2⟩;replace T:=aI (T.out.below hb2);clear hb2 z0 z1 z2 z3;obtain ⟨z0,z1,z2,z3⟩:=aM4 ((T.out.fact (.head _)).2)))
      go_ret
      have ev:vv=1:=by rw [HVV.out,if_neg (by rw [HOK.out];simp)]
      exact ⟨by rw [ev];rfl,HB.out.trans (T.out.bl.mono HB.out.size)⟩
     ·(try simp only [Bool.true_and] at HOK)
      cases q6
      ·(try simp only [Bool.false_and,Bool.true_and] at HOK)
       have HOK:=aI HOK
       go_wp2_with (first | (go_at_call 52;(with_reducible refine aS (C1.out _) ?_)) | (go_at_call 53;(with_reducible refine (C5.out _ T.out.bl).mono ?_);rintro e w2 ⟨rfl,hb2⟩;replace T:=aI (T.out.below hb2);clear hb2 z0 z1 z2 z3;obtain ⟨z0,z1,z2,z3⟩:=aM4 ((T.out.fact (.head _)).2)) | (go_at_call 55;(with_reducible refine (C6.out _ T.out.bl).mono ?_);rintro e w2 ⟨rfl,hb2⟩;replace T:=aI (T.out.below hb2);clear hb2 z0 z1 z2 z3;obtain ⟨z0,z1,z2,z3⟩:=aM4 ((T.out.fact (.head _)).2)) | (go_at_call 57;(with_reducible refine (C7.out _ T.out.bl).mono ?_);rintro e w2 ⟨rfl,hb2⟩;replace T:=aI (T.out.below hb2);clear hb2 z0 z1 z2 z3;obtain ⟨z0,z1,z2,z3⟩:=aM4 ((T.out.fact (.head _)).2)))
       go_ret
       have ev:vv=1:=by rw [HVV.out,if_neg (by rw [HOK.out];simp)]
       exact ⟨by rw [ev];rfl,HB.out.trans (T.out.bl.mono HB.out.size)⟩
      ·(try simp only [Bool.true_and] at HOK)
       cases q7
       ·(try simp only [Bool.false_and,Bool.true_and] at HOK)
        have HOK:=aI HOK
        go_wp2_with (first | (go_at_call 52;(with_reducible refine aS (C1.out _) ?_)) | (go_at_call 53;(with_reducible refine (C5.out _ T.out.bl).mono ?_);rintro e w2 ⟨rfl,hb2⟩;replace T:=aI (T.out.below hb2);clear hb2 z0 z1 z2 z3;obtain ⟨z0,z1,z2,z3⟩:=aM4 ((T.out.fact (.head _)).2)) | (go_at_call 55;(with_reducible refine (C6.out _ T.out.bl).mono ?_);rintro e w2 ⟨rfl,hb2⟩;replace T:=aI (T.out.below hb2);clear hb2 z0 z1 z2 z3;obtain ⟨z0,z1,z2,z3⟩:=aM4 ((T.out.fact (.head _)).2)) | (go_at_call 57;(with_reducible refine (C7.out _ T.out.bl).mono ?_);rintro e w2 ⟨rfl,hb2⟩;replace T:=aI (T.out.below hb2);clear hb2 z0 z1 z2 z3;obtain ⟨z0,z1,z2,z3⟩:=aM4 ((T.out.fact (.head _)).2)))
        go_ret
        have ev:vv=1:=by rw [HVV.out,if_neg (by rw [HOK.out];simp)]
        exact ⟨by rw [ev];rfl,HB.out.trans (T.out.bl.mono HB.out.size)⟩
       ·(try simp only [Bool.true_and] at HOK)
        have hok:Sx.okB x=true:=HOK
        have HOK:=aI hok
        have hSl2:=hSl hok
        clear hok hSl
        obtain ⟨d9,hd9⟩:∃ d:ByteArray,(⟨S.toArray⟩:ByteArray)=d:=⟨_,rfl⟩
        rw [hd9] at CSR
        have hds:d9.size=S.length:=by rw [<-hd9];show S.toArray.size=_;rw [List.size_toArray]
        clear hd9
        by_cases hl:8192 < S.length
        ·have t3:(8192:Int) < (d9.size:Int):=by omega
         have t4:decide (8192 < d9.size)=true:=ac (by omega)
         go_wp2_with (first | (go_at_call 52;(with_reducible refine aS (C1.out _) ?_)) | (go_at_call 53;(with_reducible refine (C5.out _ T.out.bl).mono ?_);rintro e w2 ⟨rfl,hb2⟩;replace T:=aI (T.out.below hb2);clear hb2 z0 z1 z2 z3;obtain ⟨z0,z1,z2,z3⟩:=aM4 ((T.out.fact (.head _)).2)) | (go_at_call 55;(with_reducible refine (C6.out _ T.out.bl).mono ?_);rintro e w2 ⟨rfl,hb2⟩;replace T:=aI (T.out.below hb2);clear hb2 z0 z1 z2 z3;obtain ⟨z0,z1,z2,z3⟩:=aM4 ((T.out.fact (.head _)).2)) | (go_at_call 57;(with_reducible refine (C7.out _ T.out.bl).mono ?_);rintro e w2 ⟨rfl,hb2⟩;replace T:=aI (T.out.below hb2);clear hb2 z0 z1 z2 z3;obtain ⟨z0,z1,z2,z3⟩:=aM4 ((T.out.fact (.head _)).2)) | (go_at_call 51;(with_reducible refine (CSR.out _ HOK.out T.out.bl).mono ?_);rintro e w2 ⟨rfl,hb2⟩;replace T:=aI (T.out.below hb2);clear hb2 z0 z1 z2 z3;obtain ⟨z0,z1,z2,z3⟩:=aM4 ((T.out.fact (.head _)).2)))
         go_ret
         have ev:vv=4:=by rw [HVV.out,if_pos HOK.out,if_pos hl]
         exact ⟨by rw [ev];rfl,HB.out.trans (T.out.bl.mono HB.out.size)⟩
        ·have t3:(d9.size:Int)<=(8192:Int):=by omega
         have t4:decide (8192 < d9.size)=false:=ad (by omega)
         go_wp2_with (first | (go_at_call 52;(with_reducible refine aS (C1.out _) ?_)) | (go_at_call 53;(with_reducible refine (C5.out _ T.out.bl).mono ?_);rintro e w2 ⟨rfl,hb2⟩;replace T:=aI (T.out.below hb2);clear hb2 z0 z1 z2 z3;obtain ⟨z0,z1,z2,z3⟩:=aM4 ((T.out.fact (.head _)).2)) | (go_at_call 55;(with_reducible refine (C6.out _ T.out.bl).mono ?_);rintro e w2 ⟨rfl,hb2⟩;replace T:=aI (T.out.below hb2);clear hb2 z0 z1 z2 z3;obtain ⟨z0,z1,z2,z3⟩:=aM4 ((T.out.fact (.head _)).2)) | (go_at_call 57;(with_reducible refine (C7.out _ T.out.bl).mono ?_);rintro e w2 ⟨rfl,hb2⟩;replace T:=aI (T.out.below hb2);clear hb2 z0 z1 z2 z3;obtain ⟨z0,z1,z2,z3⟩:=aM4 ((T.out.fact (.head _)).2)) | (go_at_call 51;(with_reducible refine (CSR.out _ HOK.out T.out.bl).mono ?_);rintro e w2 ⟨rfl,hb2⟩;replace T:=aI (T.out.below hb2);clear hb2 z0 z1 z2 z3;obtain ⟨z0,z1,z2,z3⟩:=aM4 ((T.out.fact (.head _)).2)))
         go_ret
         have ev:vv=0:=by rw [HVV.out,if_pos HOK.out,if_neg hl]
         exact ⟨by rw [ev];rfl,HB.out.trans (T.out.bl.mono HB.out.size)⟩
namespace Sx
theorem bind_ok {α β:Type} {r:Res α} {f:α->List Tok->Res β} {b:β} {m:List Tok} (h:r.bind f=.ok b m):∃ a l,r=.ok a l/\f a l=.ok b m:=by
 cases r with
 | ok a l=>exact ⟨a,l,rfl,h⟩
 | bad l=>cases h
theorem next_ok {right:Txt->Bool} {l m:List Tok} {t:Txt} (h:next right l=.ok t m):right t=true/\m.length<=l.length:=by
 cases l with
 | nil=>cases h
 | cons u l =>
  have h:(if right u.1=true then Res.ok u.1 l else .bad (u::l))=.ok t m:=h
  split at h
  ·rename_i hr
   injection h with h1 h2
   subst h1 h2
   exact ⟨hr,by simp⟩
  ·cases h
theorem many_sz {α:Type} {begins:Txt->Bool} {read:List Tok->Res α} {P:α->Prop} {B:Nat} (hr:∀ l a m,l.length<=B->read l=.ok a m->P a/\m.length<=l.length) :
  ∀ (f:Nat) (acc:List α) (l:List Tok) (xs:List α) (m:List Tok),l.length<=B->many begins read f acc l=.ok xs m->xs.length<=acc.length+f/\m.length<=l.length/\((∀ x∈acc,P x)->∀ x∈xs,P x)
 | 0,acc,l,xs,m,_,h=>by
  injection h with h1 h2
  subst h1 h2
  exact ⟨ag _,ag _,fun h=>h⟩
 | f+1,acc,[],xs,m,_,h=>by
  injection h with h1 h2
  subst h1 h2
  exact ⟨by omega,ag _,fun h=>h⟩
 | f+1,acc,t::r,xs,m,hl,h=>by
  have h:(if begins t.1=true then (read (t::r)).bind fun a l=>many begins read f (acc++[a]) l else .ok acc (t::r))=.ok xs m:=h
  split at h
  ·obtain ⟨a,l1,h1,h2⟩:=bind_ok h
   obtain ⟨p1,p2⟩:=hr _ _ _ hl h1
   obtain ⟨q1,q2,q3⟩:=many_sz hr f _ _ _ _ (by omega) h2
   rw [aK,List.length_singleton] at q1
   refine ⟨by omega,by omega,fun hP=>q3 fun x hx=>?_⟩
   rcases List.mem_append.1 hx with hx | hx
   ·exact hP x hx
   ·rw [List.mem_singleton] at hx;subst hx;exact p1
  ·injection h with h1 h2
   subst h1 h2
   exact ⟨by omega,ag _,fun h=>h⟩
theorem number_ok {l m:List Tok} {n:Int} (h:number l=.ok n m):m.length<=l.length:=loc_len loc_number h
theorem name_ok {l m:List Tok} {t:Txt} (h:name l=.ok t m):t.length<=12/\m.length<=l.length:=by
 obtain ⟨h1,h2⟩:=next_ok h
 unfold nameB at h1
 simp only [Bool.and_eq_true,decide_eq_true_eq] at h1
 exact ⟨h1.1.1.2,h2⟩
theorem names_ok {l m:List Tok} {t:Txt} (h:names l=.ok t m):t.length<=12/\m.length<=l.length:=by
 obtain ⟨a,l1,h1,h2⟩:=bind_ok h
 obtain ⟨h3,h4⟩:=next_ok h1
 injection h2 with h5 h6
 subst h5 h6
 refine ⟨?_,h4⟩
 split
 ·decide
 ·rename_i hn
  rw [Bool.or_eq_true] at h3
  rcases h3 with h3 | h3
  ·unfold nameB at h3
   simp only [Bool.and_eq_true,decide_eq_true_eq] at h3
   exact h3.1.1.2
  ·exact absurd h3 hn
theorem count_ok {l m:List Tok} {n:Nat} (h:count l=.ok n m):n<=12/\m.length<=l.length:=by
 obtain ⟨a,l1,h1,h2⟩:=bind_ok h
 obtain ⟨h3,h4⟩:=next_ok h1
 injection h2 with h5 h6
 subst h5 h6
 rw [Bool.and_eq_true] at h3
 have:=within_of h3.2
 exact ⟨by omega,h4⟩
theorem picks_len:∀ (n:Nat) (ws:List ByteArray) (ns:List Int) (l:List Tok) (p:List ByteArray × List Int) (m:List Tok),picks n ws ns l=.ok p m->p.2.length=ns.length+n
 | 0,_,_,_,_,_,h=>by injection h with h1 h2;subst h1;rfl
 | n+1,ws,ns,l,p,m,h=>by
  obtain ⟨w,l1,_,h2⟩:=bind_ok h
  obtain ⟨v,l2,_,h4⟩:=bind_ok h2
  have:=picks_len n _ _ _ _ _ h4
  rw [aK,List.length_singleton] at this
  omega
theorem states_len:∀ (n:Nat) (ws:List ByteArray) (l:List Tok) (p:List ByteArray) (m:List Tok),states n ws l=.ok p m->p.length=ws.length+n
 | 0,_,_,_,_,h=>by injection h with h1 h2;subst h1;rfl
 | n+1,ws,l,p,m,h=>by
  obtain ⟨w,l1,_,h2⟩:=bind_ok h
  have:=states_len n _ _ _ _ h2
  rw [aK,List.length_singleton] at this
  omega
theorem field1_ok {k:Nat} {nm:ByteArray} {l m:List Tok} {f:Fld} (h:field1 k nm l=.ok f m):(Sc.wts f).length<=12:=by
 unfold field1 at h
 split at h
 ·obtain ⟨_,_,_,h⟩:=bind_ok h
  injection h with h1 h2;subst h1;exact Nat.zero_le _
 split at h
 ·obtain ⟨n,l1,h1,h⟩:=bind_ok h
  obtain ⟨p,l2,h2,h⟩:=bind_ok h
  have:=picks_len _ _ _ _ _ _ h2
  have hn:=(count_ok h1).1
  injection h with h3 h4;subst h3
  show p.2.length<=12
  rw [this];simpa using hn
 split at h
 ·obtain ⟨_,_,_,h⟩:=bind_ok h
  injection h with h1 h2;subst h1;exact Nat.zero_le _
 split at h
 ·obtain ⟨_,_,_,h⟩:=bind_ok h
  obtain ⟨_,_,_,h⟩:=bind_ok h
  injection h with h1 h2;subst h1;exact Nat.zero_le _
 split at h
 ·obtain ⟨_,_,_,h⟩:=bind_ok h
  obtain ⟨_,_,_,h⟩:=bind_ok h
  obtain ⟨_,_,_,h⟩:=bind_ok h
  obtain ⟨_,_,_,h⟩:=bind_ok h
  injection h with h1 h2;subst h1;exact Nat.zero_le _
 split at h
 ·obtain ⟨_,_,_,h⟩:=bind_ok h
  obtain ⟨_,_,_,h⟩:=bind_ok h
  injection h with h1 h2;subst h1;exact Nat.zero_le _
 ·obtain ⟨_,_,_,h⟩:=bind_ok h
  obtain ⟨_,_,_,h⟩:=bind_ok h
  obtain ⟨_,_,_,h⟩:=bind_ok h
  injection h with h1 h2;subst h1;exact Nat.zero_le _
theorem field_ok {l m:List Tok} {f:Fld} (h:field l=.ok f m):(Sc.wts f).length<=12/\m.length<=l.length:=by
 refine ⟨?_,loc_len loc_field h⟩
 rw [field_eq] at h
 obtain ⟨_,_,_,h⟩:=bind_ok h
 obtain ⟨_,_,_,h⟩:=bind_ok h
 exact field1_ok h
theorem kind_ok {B:Nat} {l m:List Tok} {k:Knd} (hl:l.length<=B) (h:kind l=.ok k m):((Sc.flds k).length<=B/\∀ f∈Sc.flds k,(Sc.wts f).length<=12)/\m.length<=l.length:=by
 refine ⟨?_,loc_len loc_kind h⟩
 obtain ⟨_,l1,h1,h⟩:=bind_ok h
 obtain ⟨_,l2,h2,h⟩:=bind_ok h
 obtain ⟨_,l3,h3,h⟩:=bind_ok h
 obtain ⟨_,l4,h4,h⟩:=bind_ok h
 obtain ⟨fs,l5,h5,h⟩:=bind_ok h
 have a1:=loc_len (loc_need _) h1
 have a2:=(name_ok h2).2
 have a3:=number_ok h3
 have a4:=number_ok h4
 obtain ⟨q1,_,q3⟩:=many_sz (P:=fun f:Fld=>(Sc.wts f).length<=12) (B:=l4.length) (fun l a m _ h=>field_ok h) _ _ _ _ _ (ag _) h5
 injection h with h6 h7
 subst h6
 exact ⟨by show fs.length<=B;simp at q1;omega,q3 (fun _ h=>by cases h)⟩
theorem life_ok {B:Nat} {l m:List Tok} {x:Lif} (hl:l.length<=B) (h:life l=.ok x m):(x.2.1.length<=12/\x.2.2.length<=B)/\m.length<=l.length:=by
 refine ⟨?_,loc_len loc_life h⟩
 obtain ⟨_,l1,h1,h⟩:=bind_ok h
 obtain ⟨_,l2,h2,h⟩:=bind_ok h
 obtain ⟨n,l3,h3,h⟩:=bind_ok h
 obtain ⟨ss,l4,h4,h⟩:=bind_ok h
 obtain ⟨ms,l5,h5,h⟩:=bind_ok h
 have a1:=loc_len (loc_need _) h1
 have a2:=(name_ok h2).2
 have a3:=count_ok h3
 have a4:=loc_len (loc_states _ _) h4
 have a5:=states_len _ _ _ _ _ h4
 obtain ⟨q1,_,_⟩:=many_sz (P:=fun _:Int × Int=>True) (B:=l4.length) (fun l a m _ h=>⟨trivial,loc_len loc_move h⟩) _ _ _ _ _ (ag _) h5
 injection h with h6 h7
 subst h6
 exact ⟨by show ss.length<=12;simp at a5;omega,by show ms.length<=B;simp at q1;omega⟩
theorem rule_ok {l m:List Tok} {r:Rul} (h:rule l=.ok r m):(r.2.2.1.size<=12/\r.2.2.2.1.size<=12)/\m.length<=l.length:=by
 refine ⟨?_,loc_len loc_rule h⟩
 obtain ⟨_,l1,_,h⟩:=bind_ok h
 obtain ⟨_,l2,_,h⟩:=bind_ok h
 obtain ⟨_,l3,_,h⟩:=bind_ok h
 obtain ⟨a,l4,h4,h⟩:=bind_ok h
 obtain ⟨b,l5,h5,h⟩:=bind_ok h
 obtain ⟨_,l6,_,h⟩:=bind_ok h
 have a4:=(names_ok h4).1
 have a5:=(names_ok h5).1
 injection h with h6 h7
 subst h6
 constructor
 ·show (ofT a).size<=12;unfold ofT;simpa [ByteArray.size] using a4
 ·show (ofT b).size<=12;unfold ofT;simpa [ByteArray.size] using a5
theorem schema_sz {l m:List Tok} {x:Sch} (hl:l.length<=8192) (h:schema l=.ok x m):Sz x:=by
 obtain ⟨_,l1,h1,h⟩:=bind_ok h
 obtain ⟨_,l2,h2,h⟩:=bind_ok h
 obtain ⟨ks,l3,h3,h⟩:=bind_ok h
 obtain ⟨ls,l4,h4,h⟩:=bind_ok h
 obtain ⟨rs,l5,h5,h⟩:=bind_ok h
 have a1:=loc_len (loc_need _) h1
 have a2:=number_ok h2
 obtain ⟨_,b3,q3⟩:=many_sz (P:=fun k:Knd=>(Sc.flds k).length<=8192/\∀ f∈Sc.flds k,(Sc.wts f).length<=12) (B:=8192) (fun l a m hl h=>kind_ok hl h) _ _ _ _ _ (by omega) h3
 obtain ⟨_,b4,q4⟩:=many_sz (P:=fun x:Lif=>x.2.1.length<=12/\x.2.2.length<=8192) (B:=8192) (fun l a m hl h=>life_ok hl h) _ _ _ _ _ (by omega) h4
 obtain ⟨_,b5,q5⟩:=many_sz (P:=fun r:Rul=>r.2.2.1.size<=12/\r.2.2.2.1.size<=12) (B:=8192) (fun l a m hl h=>rule_ok h) _ _ _ _ _ (by omega) h5
 injection h with h6 h7
 subst h6
 refine ⟨fun k hk=>?_,fun x hx=>?_,fun r hr=>?_⟩
 ·have:=q3 (fun _ h=>by cases h) k hk
  exact ⟨by omega,fun f hf=>by have:=this.2 f hf;omega⟩
 ·have:=q4 (fun _ h=>by cases h) x hx
  omega
 ·have:=q5 (fun _ h=>by cases h) r hr
  omega
end Sx
section
variable {w:World} {g:Nat} {st:Sx.St} {M:List Nat} {bx:List Box} {rs:List Rw} {L:List (List Nat->World->Prop)} {W:World}
theorem isK_any (h:PH (pkP w g) st M bx rs L W):Calls Tryz.prog 35 #[.string ⟨#[107,105,110,100]⟩] W fun e W'=>∃ N,e=.returned (.func (.func 78) #[] #[.pointer (some ⟨N,0,none⟩)])/\PH (pkP w g) st M bx rs (IsB N Sx.sKind::L) W':=is_any Sx.sKind h
theorem isL_any (h:PH (pkP w g) st M bx rs L W):Calls Tryz.prog 35 #[.string ⟨#[108,105,102,101]⟩] W fun e W'=>∃ N,e=.returned (.func (.func 78) #[] #[.pointer (some ⟨N,0,none⟩)])/\PH (pkP w g) st M bx rs (IsB N Sx.sLife::L) W':=is_any Sx.sLife h
theorem isR_any (h:PH (pkP w g) st M bx rs L W):Calls Tryz.prog 35 #[.string ⟨#[114,117,108,101]⟩] W fun e W'=>∃ N,e=.returned (.func (.func 78) #[] #[.pointer (some ⟨N,0,none⟩)])/\PH (pkP w g) st M bx rs (IsB N Sx.sRule::L) W':=is_any Sx.sRule h
theorem sK_any (he:SEnv w) {N:Nat} (h:PH (pkP w g) st M bx rs (IsB N Sx.sKind::L) W):Calls Tryz.prog 34 #[.pointer (some ⟨g,0,none⟩),.func (.func 78) #[] #[.pointer (some ⟨N,0,none⟩)],.func (.func 36) #[.pointer (some ⟨g,0,none⟩)] #[]] W (RdL (pkP w g) (fun l=>Sx.many (fun t=>t == Sx.sKind) Sx.kind l.length [] l) st bx rs L) :=
 (someK_any he (by decide) (.head _) h).mono fun _ _ ⟨l,A,c,st',M',h1,h2,h3,h4,h5,h6⟩=>⟨l,A,c,st',M',h1,h2,h3,h4,h5,h6.less fun P hP=>by
  rcases aL hP with rfl | hP
  ·exact .head _
  ·exact .tail _ (.tail _ hP)⟩
theorem sL_any (he:SEnv w) {N:Nat} (h:PH (pkP w g) st M bx rs (IsB N Sx.sLife::L) W):Calls Tryz.prog 37 #[.pointer (some ⟨g,0,none⟩),.func (.func 78) #[] #[.pointer (some ⟨N,0,none⟩)],.func (.func 38) #[.pointer (some ⟨g,0,none⟩)] #[]] W (RdL (pkP w g) (fun l=>Sx.many (fun t=>t == Sx.sLife) Sx.life l.length [] l) st bx rs L) :=
 (someL_any he (by decide) (.head _) h).mono fun _ _ ⟨l,A,c,st',M',h1,h2,h3,h4,h5,h6⟩=>⟨l,A,c,st',M',h1,h2,h3,h4,h5,h6.less fun P hP=>by
  rcases aL hP with rfl | hP
  ·exact .head _
  ·exact .tail _ (.tail _ hP)⟩
theorem sR_any (he:SEnv w) {N:Nat} (h:PH (pkP w g) st M bx rs (IsB N Sx.sRule::L) W):Calls Tryz.prog 39 #[.pointer (some ⟨g,0,none⟩),.func (.func 78) #[] #[.pointer (some ⟨N,0,none⟩)],.func (.func 40) #[.pointer (some ⟨g,0,none⟩)] #[]] W (RdL (pkP w g) (fun l=>Sx.many (fun t=>t == Sx.sRule) Sx.rule l.length [] l) st bx rs L) :=
 (someR_any he (by decide) (.head _) h).mono fun _ _ ⟨l,A,c,st',M',h1,h2,h3,h4,h5,h6⟩=>⟨l,A,c,st',M',h1,h2,h3,h4,h5,h6.less fun P hP=>by
  rcases aL hP with rfl | hP
  ·exact .head _
  ·exact .tail _ (.tail _ hP)⟩
end
theorem Held.put0 {w W:World} {G M:List Nat} {L:List (List Nat->World->Prop)} {N:Nat} {t:TypeId} {cs:Array Value} {bx2:List Box} (h:Held w G M ((N,t,cs)::bx2) L W) (i:Nat) (u:Value):Held w G M ((N,t,cs.setIfInBounds i u)::bx2) L (W.setCell ⟨N,i,none⟩ u):=Held.set_ (bx1:=[]) h i u
theorem Sx.nx_fin {α:Type} {p:List Sx.Tok->Sx.Res α} {l0 l:List Sx.Tok} {f:Bool} {x:α} (h:Sx.Nx p (l0,false) x (l,f)):(f=false->p l0=.ok x l)/\(f=true->p l0=.bad l):=by
 rw [Sx.nx_iff] at h
 cases hp:p l0 with
 | ok a m =>
  rw [hp] at h
  obtain ⟨h0,h⟩:=h
  injection h with h1 h2
  subst h0 h1 h2
  exact ⟨fun _=>rfl,fun h=>by cases h⟩
 | bad m =>
  rw [hp] at h
  injection h with h1 h2
  subst h1 h2
  exact ⟨fun h=>(by cases h),fun _=>rfl⟩
def PParseP (r:Sch × Int × Int) (w:World) (e:Ending) (w':World):Prop:=∃ us,e=.returned (.tuple #[.agg us.toArray,.int .i64 r.2.1,.int .i64 r.2.2])/\Mem.rep [] w' r.1 us/\Below w.heap.size w w'
theorem noSch_rep (w:World):Mem.rep [] w Sx.noSch [.int .i64 0,.slice none 0 0,.slice none 0 0,.slice none 0 0] :=
 ⟨[_],_,rfl,⟨rfl,by constructor <;> decide⟩,[_],_,rfl,⟨none,0,rfl,ag _,by decide,.nil⟩,[_],_,rfl,⟨none,0,rfl,ag _,by decide,.nil⟩,⟨none,0,rfl,ag _,by decide,.nil⟩⟩
theorem pparse_any (s:ByteArray) (w:World) (hs:s.size<=9223372036854775807) (he:SEnv w):Calls Tryz.prog 13 #[.string s] w (PParseP (Sx.parse s.data.toList) w):=by
 obtain ⟨n,hn⟩:=aX s.size
 have hln:s.data.toList.length=n:=by rw [Vm.strLn,hn]
 have hsn:s.size=n:=hn
 by_cases hl:8192 < n
 ·have k1:(8192:Int) < (n:Int):=by omega
  have hp:Sx.parse s.data.toList=(Sx.noSch,8192,4):=by unfold Sx.parse;rw [hln,if_pos hl]
  rw [hp]
  obtain ⟨Nr,hNr⟩:=aX w.heap.size
  have T:=aI ((held0 w [] (fun _ h=>by cases h)).new #[.int .i64 0,.slice none 0 0,.slice none 0 0,.slice none 0 0] 28 hNr)
  have HNr:=aI hNr
  clear hp hln hs he hn hNr
  go_enter Tryz.func13,Tryz.ntmps13
  go_upto_region 2 with fail
  rw [HNr.out]
  generalize w.alloc (.cells #[.int .i64 0,.slice none 0 0,.slice none 0 0,.slice none 0 0] 28)=W1 at *
  have B:=T.out.box (.head _);obtain ⟨z0,z1,z2,z3⟩:=aN4 B.cell;obtain ⟨f0,f1,f2,f3⟩:=aN4 B.frozen;simp at z0 z1 z2 z3;dsimp only at f0 f1 f2 f3;clear B
  have T2:=aI (show Held w [] [Nr] [(Nr,28,#[.int .i64 0,.slice none 0 0,.slice none 0 0,.slice none 0 0])] [] _ from (((T.out.put0 0 (.int .i64 0)).put0 1 (.slice none 0 0)).put0 2 (.slice none 0 0)).put0 3 (.slice none 0 0))
  go_wp2_with fail
  clear z0 z1 z2 z3 f0 f1 f2 f3
  generalize (((W1.setCell ⟨Nr,0,none⟩ (.int .i64 0)).setCell ⟨Nr,1,none⟩ (.slice none 0 0)).setCell ⟨Nr,2,none⟩ (.slice none 0 0)).setCell ⟨Nr,3,none⟩ (.slice none 0 0)=W2 at *
  have B:=T2.out.box (.head _);obtain ⟨y0,y1,y2,y3⟩:=aN4 B.cell
  simp at y0 y1 y2 y3
  refine bodyPost_ret (v:=.tuple #[.agg #[.int .i64 0,.slice none 0 0,.slice none 0 0,.slice none 0 0],.int .i64 8192,.int .i64 4]) ?_ rfl ?_
  ·simp [results,Tryz.results13,go_sem,y0,y1,y2,y3]
  ·exact ⟨[.int .i64 0,.slice none 0 0,.slice none 0 0,.slice none 0 0],rfl,noSch_rep _,T2.out.bl⟩
 ·have k1:¬ (8192:Int) < (n:Int):=by omega
  obtain ⟨Nr,hNr⟩:=aX w.heap.size
  have CS:=aI (fun W (hW:Nr < W.heap.size)=>pscanG_any [Nr] s W (fun g hg=>by rw [List.mem_singleton] at hg;subst hg;exact hW) (by omega))
  have T:=aI ((HR.start (held0 w [] (fun _ h=>by cases h))).new #[.int .i64 0,.slice none 0 0,.slice none 0 0,.slice none 0 0] 28 hNr)
  have HE:=aI he
  have HNr:=aI hNr
  have HP1:=fun h:Sx.schema (Sx.toks s.data.toList)=.bad []=>show Sx.parse s.data.toList=(Sx.noSch,(Sx.stopAt s.data.toList:Int),2) by unfold Sx.parse;rw [hln,if_neg hl,h]
  have HP2:=fun t l (h:Sx.schema (Sx.toks s.data.toList)=.bad (t::l))=>show Sx.parse s.data.toList=(Sx.noSch,(t.2:Int),2) by unfold Sx.parse;rw [hln,if_neg hl,h]
  have HP3:=fun x t l (h:Sx.schema (Sx.toks s.data.toList)=.ok x (t::l))=>show Sx.parse s.data.toList=(Sx.noSch,(t.2:Int),2) by unfold Sx.parse;rw [hln,if_neg hl,h]
  have HP4:=fun x (h:Sx.schema (Sx.toks s.data.toList)=.ok x []) (h2:Sx.stopAt s.data.toList < n)=>show Sx.parse s.data.toList=(Sx.noSch,(Sx.stopAt s.data.toList:Int),2) by unfold Sx.parse;rw [hln,if_neg hl,h];exact if_pos h2
  have HP5:=fun x (h:Sx.schema (Sx.toks s.data.toList)=.ok x []) (h2:¬ Sx.stopAt s.data.toList < n) (h3:Sx.valid x=0)=>show Sx.parse s.data.toList=(x,0,0) by unfold Sx.parse;rw [hln,if_neg hl,h];exact (if_neg h2).trans (if_pos h3)
  have HP6:=fun x (h:Sx.schema (Sx.toks s.data.toList)=.ok x []) (h2:¬ Sx.stopAt s.data.toList < n) (h3:¬ Sx.valid x=0)=>show Sx.parse s.data.toList=(Sx.noSch,0,4) by unfold Sx.parse;rw [hln,if_neg hl,h];exact (if_neg h2).trans (if_neg h3)
  clear hs he hNr hln
  generalize Sx.parse s.data.toList=pr at *
  obtain ⟨tks,htk⟩:=aX (Sx.toks s.data.toList)
  obtain ⟨sat,hsat⟩:=aX (Sx.stopAt s.data.toList)
  have CS2:=aI (fun W (hW:Nr < W.heap.size)=>show Calls Tryz.prog 31 #[.string s] W fun e w'=>∃ A c,e=.returned (.tuple #[.slice A tks.length c,.int .i64 (sat:Nat)])/\tks.length<=c/\c<=9223372036854775807/\SlAt [Nr] w' A (tks.map tokP)/\TokOk tks/\Below W.heap.size W w' from by rw [<-htk,<-hsat];exact CS.out W hW)
  rw [htk] at HP1 HP2 HP3 HP4 HP5 HP6
  rw [hsat] at HP1 HP4 HP5 HP6
  replace HP1:=aI HP1;replace HP2:=aI HP2;replace HP3:=aI HP3;replace HP4:=aI HP4;replace HP5:=aI HP5;replace HP6:=aI HP6
  clear CS htk hsat
  go_enter Tryz.func13,Tryz.ntmps13
  go_upto_region 1 with fail
  rw [HNr.out]
  generalize w.alloc (.cells #[.int .i64 0,.slice none 0 0,.slice none 0 0,.slice none 0 0] 28)=W1 at *
  have hlt:=T.out.h.mb Nr (.head _)
  go_upto_region 4 with (go_at_call 31;(with_reducible refine (CS2.out _ hlt).mono ?_);rintro e w2 ⟨A,c,rfl,d1,d2,d3,d4,hb2⟩;replace T:=aI (T.out.below hb2);have D:=aI (show tks.length<=c/\c<=9223372036854775807/\SlAt [Nr] w2 A (tks.map tokP)/\TokOk tks from ⟨d1,d2,d3,d4⟩);clear hb2 d1 d2 d3 d4)
  obtain ⟨Np,hNp⟩:=aX w2.heap.size
  have P:=aI (show PH (pkP w Np) (tks,false) (Np::[Nr]) [(Nr,28,#[.int .i64 0,.slice none 0 0,.slice none 0 0,.slice none 0 0])] [] [] _ from ⟨_,(T.out.new #[.slice A tks.length c,.bool false] 79 hNp).add (pc_keeps (tks,false) _) ⟨A,c,rfl,D.out.1,D.out.2.1,(D.out.2.2.1.sub (fun g hg=>by
   rcases aL hg with rfl | hg
   ·exact .inr (Nat.le_of_eq hNp)
   ·exact .inl hg)).keep (Chg.of_below (aP _ _)),D.out.2.2.2⟩⟩)
  have HTL:=aI D.out.2.2.2.1
  clear D T hlt
  go_upto_region 5 with fail
  generalize w2.alloc (.cells #[.slice A tks.length c,.bool false] 79)=w3 at *
  clear hNp
  go_upto_region 6 with (go_at_call 32;(with_reducible refine (needSchema_any P.out).mono ?_);rintro e w4 ⟨st1,rfl,x1,h1⟩;replace P:=aI h1;have X1:=aI x1;clear h1 x1)
  go_upto_region 7 with (go_at_call 33;(with_reducible refine (num_any' HE.out P.out).mono ?_);rintro e w5 ⟨v,st2,rfl,i2,x2,h2⟩;replace P:=aI h2;have X2:=aI x2;have I2:=aI i2;clear h2 x2 i2)
  obtain ⟨Nx,hNx⟩:=aX w5.heap.size
  replace P:=aI (P.out.new #[.int .i64 v,.slice none 0 0,.slice none 0 0,.slice none 0 0] 28 hNx)
  rw [hNx]
  clear hNx
  generalize w5.alloc (.cells #[.int .i64 v,.slice none 0 0,.slice none 0 0,.slice none 0 0] 28)=w6 at *
  have B:=P.out.box (.head _);obtain ⟨z0,z1,z2,z3⟩:=aN4 B.cell;obtain ⟨f0,f1,f2,f3⟩:=aN4 B.frozen;simp at z0 z1 z2 z3;dsimp only at f0 f1 f2 f3;clear B
  go_upto_region 8 with (first | (go_at_call 35;(with_reducible refine (isK_any P.out).mono ?_);rintro e w6 ⟨Ni,rfl,h6⟩;replace P:=aI h6;clear h6) | (go_at_call 34;(with_reducible refine (sK_any HE.out P.out).mono ?_);rintro e w7 ⟨ks,A3,c3,st3,M3,rfl,d1,d2,d3,x3,h7⟩;replace P:=aI h7;have X3:=aI x3;have D3:=aI (show ks.length<=c3/\c3<=9223372036854775807 from ⟨d1,d2⟩);clear h7 x3 d1 d2 d3 z0 z1 z2 z3 f0 f1 f2 f3;have B:=P.out.box (.head _);obtain ⟨z0,z1,z2,z3⟩:=aN4 B.cell;obtain ⟨f0,f1,f2,f3⟩:=aN4 B.frozen;simp at z0 z1 z2 z3;dsimp only at f0 f1 f2 f3;clear B))
  replace P:=aI (P.out.set0 1 (.slice A3 ks.length c3))
  replace P:=aI (show PH (pkP w Np) st3 M3 [(Nx,28,#[.int .i64 v,.slice A3 ks.length c3,.slice none 0 0,.slice none 0 0]),(Nr,28,#[.int .i64 0,.slice none 0 0,.slice none 0 0,.slice none 0 0])] [] _ _ from P.out)
  clear z0 z1 z2 z3 f0 f1 f2 f3
  generalize w7.setCell ⟨Nx,1,none⟩ (.slice A3 ks.length c3)=w8 at *
  have B:=P.out.box (.head _);obtain ⟨z0,z1,z2,z3⟩:=aN4 B.cell;obtain ⟨f0,f1,f2,f3⟩:=aN4 B.frozen;simp at z0 z1 z2 z3;dsimp only at f0 f1 f2 f3;clear B
  go_upto_region 9 with (first | (go_at_call 35;(with_reducible refine (isL_any P.out).mono ?_);rintro e w6 ⟨Ni,rfl,h6⟩;replace P:=aI h6;clear h6) | (go_at_call 37;(with_reducible refine (sL_any HE.out P.out).mono ?_);rintro e w7 ⟨ls,A4,c4,st4,M4,rfl,d1,d2,d3,x4,h7⟩;replace P:=aI h7;have X4:=aI x4;have D4:=aI (show ls.length<=c4/\c4<=9223372036854775807 from ⟨d1,d2⟩);clear h7 x4 d1 d2 d3 z0 z1 z2 z3 f0 f1 f2 f3;have B:=P.out.box (.head _);obtain ⟨z0,z1,z2,z3⟩:=aN4 B.cell;obtain ⟨f0,f1,f2,f3⟩:=aN4 B.frozen;simp at z0 z1 z2 z3;dsimp only at f0 f1 f2 f3;clear B))
  replace P:=aI (P.out.set0 2 (.slice A4 ls.length c4))
  replace P:=aI (show PH (pkP w Np) st4 M4 [(Nx,28,#[.int .i64 v,.slice A3 ks.length c3,.slice A4 ls.length c4,.slice none 0 0]),(Nr,28,#[.int .i64 0,.slice none 0 0,.slice none 0 0,.slice none 0 0])] [] _ _ from P.out)
  clear z0 z1 z2 z3 f0 f1 f2 f3
  generalize w7.setCell ⟨Nx,2,none⟩ (.slice A4 ls.length c4)=w8 at *
  have B:=P.out.box (.head _);obtain ⟨z0,z1,z2,z3⟩:=aN4 B.cell;obtain ⟨f0,f1,f2,f3⟩:=aN4 B.frozen;simp at z0 z1 z2 z3;dsimp only at f0 f1 f2 f3;clear B
  go_upto_region 10 with (first | (go_at_call 35;(with_reducible refine (isR_any P.out).mono ?_);rintro e w6 ⟨Ni,rfl,h6⟩;replace P:=aI h6;clear h6) | (go_at_call 39;(with_reducible refine (sR_any HE.out P.out).mono ?_);rintro e w7 ⟨rs,A5,c5,st5,M5,rfl,d1,d2,d3,x5,h7⟩;replace P:=aI h7;have X5:=aI x5;have D5:=aI (show rs.length<=c5/\c5<=9223372036854775807 from ⟨d1,d2⟩);clear h7 x5 d1 d2 d3 z0 z1 z2 z3 f0 f1 f2 f3;have B:=P.out.box (.head _);obtain ⟨z0,z1,z2,z3⟩:=aN4 B.cell;obtain ⟨f0,f1,f2,f3⟩:=aN4 B.frozen;simp at z0 z1 z2 z3;dsimp only at f0 f1 f2 f3;clear B))
  replace P:=aI (P.out.set0 3 (.slice A5 rs.length c5))
  replace P:=aI (show PH (pkP w Np) st5 M5 [(Nx,28,#[.int .i64 v,.slice A3 ks.length c3,.slice A4 ls.length c4,.slice A5 rs.length c5]),(Nr,28,#[.int .i64 0,.slice none 0 0,.slice none 0 0,.slice none 0 0])] [] _ _ from P.out)
  clear z0 z1 z2 z3 f0 f1 f2 f3
  generalize w7.setCell ⟨Nx,3,none⟩ (.slice A5 rs.length c5)=w8 at *
  have B:=P.out.box (.head _);obtain ⟨z0,z1,z2,z3⟩:=aN4 B.cell;obtain ⟨f0,f1,f2,f3⟩:=aN4 B.frozen;simp at z0 z1 z2 z3;dsimp only at f0 f1 f2 f3;clear B
  have XS:=aI (show Sx.Nx Sx.schema (tks,false) (v,ks,ls,rs) st5 from Sx.nx_bind X1.out (Sx.nx_bind X2.out (Sx.nx_bind X3.out (Sx.nx_bind X4.out (Sx.nx_bind X5.out (Sx.nx_ret _ _))))))
  clear X1 X2 X3 X4 X5
  have C:=P.out.box (.tail _ (.head _));obtain ⟨y0,y1,y2,y3⟩:=aN4 C.cell;obtain ⟨g0,g1,g2,g3⟩:=aN4 C.frozen
  simp at y0 y1 y2 y3
  dsimp only at g0 g1 g2 g3
  clear C
  have PZ:=aI (show PH (pkP w Np) st5 M5 [(Nr,28,#[.int .i64 0,.slice none 0 0,.slice none 0 0,.slice none 0 0]),(Nx,28,#[.int .i64 v,.slice A3 ks.length c3,.slice A4 ls.length c4,.slice A5 rs.length c5])] [] _ _ from (((P.out.bswap.set0 0 (.int .i64 0)).set0 1 (.slice none 0 0)).set0 2 (.slice none 0 0)).set0 3 (.slice none 0 0))
  obtain ⟨cs,hb,A8,c8,rfl,hc1,hc2,hsl,hok⟩:=P.out.pbox
  obtain ⟨l,f⟩:=st5
  obtain ⟨p0,p1⟩:=aN2 hb.cell
  simp at p0 p1
  obtain ⟨xs1,xs2⟩:=Sx.nx_fin XS.out
  clear hb
  cases l with
  | cons t r =>
   have HQ:=aI (show pr=(Sx.noSch,(t.2:Int),2) by
    cases f
    ·exact HP3.out _ _ _ (xs1 rfl)
    ·exact HP2.out _ _ (xs2 rfl))
   obtain ⟨b,o,rfl,hbM,_,d1⟩:=tokP_at hsl
   obtain ⟨cs9,H9⟩:=P.out.it
   have hNrM:=(H9.h.bs _ (.tail _ (.tail _ (.head _)))).1
   have hnd:=H9.h.nd
   simp only [List.map_cons,List.map_nil,List.nodup_cons,List.mem_cons,List.not_mem_nil,or_false,not_or] at hnd
   have hne1:Np≠Nr:=hnd.1.2
   have hne2:b≠Nr:=fun e=>hbM (e ▸ hNrM)
   have hne3:Nr≠Np:=fun e=>hne1 e.symm
   have hne4:Nr≠b:=fun e=>hne2 e.symm
   clear hbM H9 hNrM hnd
   obtain ⟨m,hm⟩:=aX ((t::r).length)
   have hm0:0 < m:=by rw [<-hm,List.length_cons];omega
   have z9:(0:Int) < (m:Int):=by omega
   have p0:w8.cell? ⟨Np,0,none⟩=some (.slice (some ⟨b,o,none⟩) m c8):=by rw [<-hm];simpa using p0
   clear hsl hok hm hc1 xs1 xs2 HP1 HP2 HP3 HP4 HP5 HP6 CS2
   go_wp2_with fail
   go_region
   go_wp2_with fail
   clear z0 z1 z2 z3 f0 f1 f2 f3 y0 y1 y2 y3 g0 g1 g2 g3 p0 p1
   have PZ2:=aI (PZ.out.drew)
   generalize (((w8.setCell ⟨Nr,0,none⟩ (.int .i64 0)).setCell ⟨Nr,1,none⟩ (.slice none 0 0)).setCell ⟨Nr,2,none⟩ (.slice none 0 0)).setCell ⟨Nr,3,none⟩ (.slice none 0 0)=w9 at *
   have B:=PZ2.out.box (.head _);obtain ⟨y0,y1,y2,y3⟩:=aN4 B.cell
   simp at y0 y1 y2 y3
   refine bodyPost_ret (v:=.tuple #[.agg #[.int .i64 0,.slice none 0 0,.slice none 0 0,.slice none 0 0],.int .i64 (t.2:Int),.int .i64 2]) ?_ rfl ?_
   ·simp [results,Tryz.results13,go_sem,y0,y1,y2,y3]
   ·exact ⟨[.int .i64 0,.slice none 0 0,.slice none 0 0,.slice none 0 0],by rw [HQ.out],by rw [HQ.out];exact noSch_rep _,PZ2.out.bl⟩
  | nil =>
   have p0:w8.cell? ⟨Np,0,none⟩=some (.slice A8 0 c8):=by simpa using p0
   clear hsl hok hc1
   cases f
   ·have hsc:=xs1 rfl
    by_cases hsat:sat < n
    ·have HQ:=aI (HP4.out _ hsc hsat)
     have z9:(sat:Int) < (n:Int):=by omega
     clear hsc xs1 xs2 HP1 HP2 HP3 HP4 HP5 HP6 CS2
     go_wp2_with fail
     clear z0 z1 z2 z3 f0 f1 f2 f3 y0 y1 y2 y3 g0 g1 g2 g3 p0 p1
     have PZ2:=aI (PZ.out)
     generalize (((w8.setCell ⟨Nr,0,none⟩ (.int .i64 0)).setCell ⟨Nr,1,none⟩ (.slice none 0 0)).setCell ⟨Nr,2,none⟩ (.slice none 0 0)).setCell ⟨Nr,3,none⟩ (.slice none 0 0)=w9 at *
     have B:=PZ2.out.box (.head _);obtain ⟨y0,y1,y2,y3⟩:=aN4 B.cell
     simp at y0 y1 y2 y3
     refine bodyPost_ret (v:=.tuple #[.agg #[.int .i64 0,.slice none 0 0,.slice none 0 0,.slice none 0 0],.int .i64 (sat:Int),.int .i64 2]) ?_ rfl ?_
     ·simp [results,Tryz.results13,go_sem,y0,y1,y2,y3]
     ·exact ⟨[.int .i64 0,.slice none 0 0,.slice none 0 0,.slice none 0 0],by rw [HQ.out],by rw [HQ.out];exact noSch_rep _,PZ2.out.bl⟩
    ·have z9:(n:Int)<=(sat:Int):=by omega
     have HXR:=aI (show Mem.rep M5 w8 ((v,ks,ls,rs):Sch) [.int .i64 v,.slice A3 ks.length c3,.slice A4 ls.length c4,.slice A5 rs.length c5] from ⟨[_],_,rfl,⟨rfl,I2.out⟩,[_],_,rfl,⟨A3,c3,rfl,D3.out.1,D3.out.2,P.out.fact (.tail _ (.tail _ (.head _)))⟩,[_],_,rfl,⟨A4,c4,rfl,D4.out.1,D4.out.2,P.out.fact (.tail _ (.head _))⟩,⟨A5,c5,rfl,D5.out.1,D5.out.2,P.out.fact (.head _)⟩⟩)
     have CV:=aI (show Calls Tryz.prog 21 #[.agg #[.int .i64 v,.slice A3 ks.length c3,.slice A4 ls.length c4,.slice A5 rs.length c5]] w8 fun e w'=>e=.returned (.int .i64 (Sx.valid (v,ks,ls,rs)))/\Below w8.heap.size w8 w' from valid_any (v,ks,ls,rs) _ w8 (Mem.sub HXR.out (fun g hg=>by cases hg)) (Sx.schema_sz HTL.out hsc) (HE.out.to P.out.bl))
     replace P:=aI (P.out.add (keeps_rep ((v,ks,ls,rs):Sch) _) HXR.out)
     have HQ5:=aI (HP5.out _ hsc hsat)
     have HQ6:=aI (HP6.out _ hsc hsat)
     obtain ⟨vv,hvv⟩:=aX (Sx.valid (v,ks,ls,rs))
     rw [hvv] at CV HQ5 HQ6
     clear hsc hvv xs1 xs2 HP1 HP2 HP3 HP4 HP5 HP6 CS2 PZ HXR
     by_cases hv0:vv=0
     ·subst hv0
      have HQ:=aI (HQ5.out rfl)
      clear HQ5 HQ6
      go_upto_region 16 with (go_at_call 21;(with_reducible refine (CV.out).mono ?_);rintro e wv ⟨rfl,hb2⟩;replace P:=aI (P.out.below hb2);clear hb2;clear z0 z1 z2 z3 f0 f1 f2 f3 y0 y1 y2 y3 g0 g1 g2 g3;have B:=P.out.box (.head _);obtain ⟨z0,z1,z2,z3⟩:=aN4 B.cell;obtain ⟨f0,f1,f2,f3⟩:=aN4 B.frozen;simp at z0 z1 z2 z3;dsimp only at f0 f1 f2 f3;clear B)
      have C:=P.out.box (.tail _ (.head _));obtain ⟨y0,y1,y2,y3⟩:=aN4 C.cell;obtain ⟨g0,g1,g2,g3⟩:=aN4 C.frozen
      simp at y0 y1 y2 y3
      dsimp only at g0 g1 g2 g3
      clear C
      have PZ:=aI (show PH (pkP w Np) ([],false) M5 [(Nr,28,#[.int .i64 v,.slice A3 ks.length c3,.slice A4 ls.length c4,.slice A5 rs.length c5]),(Nx,28,#[.int .i64 v,.slice A3 ks.length c3,.slice A4 ls.length c4,.slice A5 rs.length c5])] [] _ _ from (((P.out.bswap.set0 0 (.int .i64 v)).set0 1 (.slice A3 ks.length c3)).set0 2 (.slice A4 ls.length c4)).set0 3 (.slice A5 rs.length c5))
      go_wp2_with fail
      clear z0 z1 z2 z3 f0 f1 f2 f3 y0 y1 y2 y3 g0 g1 g2 g3
      generalize (((wv.setCell ⟨Nr,0,none⟩ (.int .i64 v)).setCell ⟨Nr,1,none⟩ (.slice A3 ks.length c3)).setCell ⟨Nr,2,none⟩ (.slice A4 ls.length c4)).setCell ⟨Nr,3,none⟩ (.slice A5 rs.length c5)=w9 at *
      have B:=PZ.out.box (.head _);obtain ⟨y0,y1,y2,y3⟩:=aN4 B.cell
      simp at y0 y1 y2 y3
      refine bodyPost_ret (v:=.tuple #[.agg #[.int .i64 v,.slice A3 ks.length c3,.slice A4 ls.length c4,.slice A5 rs.length c5],.int .i64 0,.int .i64 0]) ?_ rfl ?_
      ·simp [results,Tryz.results13,go_sem,y0,y1,y2,y3]
      ·exact ⟨[.int .i64 v,.slice A3 ks.length c3,.slice A4 ls.length c4,.slice A5 rs.length c5],by rw [HQ.out],by rw [HQ.out];exact Mem.sub (PZ.out.fact (.head _)) (fun g hg=>by cases hg),PZ.out.bl⟩
     ·have HQ:=aI (HQ6.out hv0)
      have q1:(vv == 0)=false:=by simpa using hv0
      have q2:(vv != 0)=true:=by simpa using hv0
      clear HQ5 HQ6 hv0
      go_upto_region 15 with (go_at_call 21;(with_reducible refine (CV.out).mono ?_);rintro e wv ⟨rfl,hb2⟩;replace P:=aI (P.out.below hb2);clear hb2;clear z0 z1 z2 z3 f0 f1 f2 f3 y0 y1 y2 y3 g0 g1 g2 g3;have B:=P.out.box (.head _);obtain ⟨z0,z1,z2,z3⟩:=aN4 B.cell;obtain ⟨f0,f1,f2,f3⟩:=aN4 B.frozen;simp at z0 z1 z2 z3;dsimp only at f0 f1 f2 f3;clear B)
      have C:=P.out.box (.tail _ (.head _));obtain ⟨y0,y1,y2,y3⟩:=aN4 C.cell;obtain ⟨g0,g1,g2,g3⟩:=aN4 C.frozen
      simp at y0 y1 y2 y3
      dsimp only at g0 g1 g2 g3
      clear C
      have PZ2:=aI (show PH (pkP w Np) ([],false) M5 [(Nr,28,#[.int .i64 0,.slice none 0 0,.slice none 0 0,.slice none 0 0]),(Nx,28,#[.int .i64 v,.slice A3 ks.length c3,.slice A4 ls.length c4,.slice A5 rs.length c5])] [] _ _ from (((P.out.bswap.set0 0 (.int .i64 0)).set0 1 (.slice none 0 0)).set0 2 (.slice none 0 0)).set0 3 (.slice none 0 0))
      go_wp2_with fail
      clear z0 z1 z2 z3 f0 f1 f2 f3 y0 y1 y2 y3 g0 g1 g2 g3
      generalize (((wv.setCell ⟨Nr,0,none⟩ (.int .i64 0)).setCell ⟨Nr,1,none⟩ (.slice none 0 0)).setCell ⟨Nr,2,none⟩ (.slice none 0 0)).setCell ⟨Nr,3,none⟩ (.slice none 0 0)=w9 at *
      have B:=PZ2.out.box (.head _);obtain ⟨y0,y1,y2,y3⟩:=aN4 B.cell
      simp at y0 y1 y2 y3
      refine bodyPost_ret (v:=.tuple #[.agg #[.int .i64 0,.slice none 0 0,.slice none 0 0,.slice none 0 0],.int .i64 0,.int .i64 4]) ?_ rfl ?_
      ·simp [results,Tryz.results13,go_sem,y0,y1,y2,y3]
      ·exact ⟨[.int .i64 0,.slice none 0 0,.slice none 0 0,.slice none 0 0],by rw [HQ.out],by rw [HQ.out];exact noSch_rep _,PZ2.out.bl⟩
   ·have HQ:=aI (HP1.out (xs2 rfl))
    clear xs1 xs2 HP1 HP2 HP3 HP4 HP5 HP6 CS2
    go_wp2_with fail
    clear z0 z1 z2 z3 f0 f1 f2 f3 y0 y1 y2 y3 g0 g1 g2 g3 p0 p1
    have PZ2:=aI (PZ.out)
    generalize (((w8.setCell ⟨Nr,0,none⟩ (.int .i64 0)).setCell ⟨Nr,1,none⟩ (.slice none 0 0)).setCell ⟨Nr,2,none⟩ (.slice none 0 0)).setCell ⟨Nr,3,none⟩ (.slice none 0 0)=w9 at *
    have B:=PZ2.out.box (.head _);obtain ⟨y0,y1,y2,y3⟩:=aN4 B.cell
    simp at y0 y1 y2 y3
    refine bodyPost_ret (v:=.tuple #[.agg #[.int .i64 0,.slice none 0 0,.slice none 0 0,.slice none 0 0],.int .i64 (sat:Int),.int .i64 2]) ?_ rfl ?_
    ·simp [results,Tryz.results13,go_sem,y0,y1,y2,y3]
    ·exact ⟨[.int .i64 0,.slice none 0 0,.slice none 0 0,.slice none 0 0],by rw [HQ.out],by rw [HQ.out];exact noSch_rep _,PZ2.out.bl⟩
namespace Sx
def e1:ByteArray:=⟨#[115,99,104,101,109,97,32,49,32,107,105,110,100,32,97,32,48,32,57,32,107,101,121,32,105,100,32,53]⟩
def e2:ByteArray:=⟨#[115,99,104,101,109,97,32,49,32,107,105,110,100,32,50]⟩
def e3:ByteArray:=⟨#[115,99,104,101,109,97,32,49,32,107,105,110,100,32,97,32,48]⟩
def x1:Sch:=(1,[(⟨#[97]⟩,0,9,[(⟨#[105,100]⟩,⟨#[]⟩,⟨#[]⟩,0,5,0,[],[])])],[],[])
def p1:Txt:=[115,99,104,101,109,97,32,49,10,107,105,110,100,32,97,32,48,32,57,10,107,101,121,32,105,100,32,53,10]
theorem x1_src:source x1=p1:=by kernel_rfl
theorem x1_valid:valid x1=0:=by
 unfold valid
 rw [x1_src]
 decide
theorem x1_print:print x1=p1:=by
 unfold print
 rw [if_pos x1_valid,x1_src]
theorem e1_parse:parse e1.data.toList=(x1,0,0):=by
 have h1:schema (toks e1.data.toList)=.ok x1 []:=by kernel_rfl
 have h2:stopAt e1.data.toList=28:=by kernel_rfl
 unfold parse
 rw [if_neg (by decide),h1]
 exact (if_neg (by rw [h2];decide)).trans (if_pos x1_valid)
theorem e2_parse:parse e2.data.toList=(noSch,14,2):=by kernel_rfl
theorem e3_parse:parse e3.data.toList=(noSch,17,2):=by kernel_rfl
end Sx
end
end Go.Proofs.YtmplaikgbeeikaaGreatDoor
