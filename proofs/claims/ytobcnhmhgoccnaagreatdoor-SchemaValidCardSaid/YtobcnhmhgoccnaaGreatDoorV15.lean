/- Parts of the proof, joined: SyN5. -/
import Derived.Test.YtobcnhmhgoccnaaGreatDoorV14
set_option maxHeartbeats 16000000
set_option linter.unusedVariables false
set_option linter.unusedSimpArgs false
set_option linter.unusedSectionVars false
namespace Go.Proofs.YtobcnhmhgoccnaaGreatDoor
open Go Go.RowKit
theorem infoIN:(Tryz.prog.info? 3).map (λi=>(i.zero,i.size,i.bytes))=some (some (.int .i64 0),1,8):=by kernel_rfl
theorem rowN_bk {B0:Nat} {te:TypeId} {size n:Nat} {xs:List Value}:Kept (RowN B0 te size n xs):=by
 rintro v w w' ⟨g',cap,cur,h1,h2,h3,h4⟩ hr
 exact ⟨g',cap,cur,h1,h2,(hr.block g' h3.lt).trans h3,h4⟩
theorem encI_pos (n:Int):0 < (En.int n).length:=by rw [En.int_length];omega
theorem encIs_pos (l:List Int):0 < (En.ints l).length:=by unfold En.ints;rw [aK];have:=encI_pos (l.length:Int);omega
theorem encB_pos (s:ByteArray):0 < (Sx.encB s).length:=by unfold Sx.encB;rw [aK];have:=encI_pos (s.size:Int);omega
theorem rowE_bytes {g B0 n:Nat} {te:TypeId} {acc m:List UInt8}:@RG.Kept (earlyGrow g te acc.length (byteVals m)) (RowE B0 g te 1 n (byteVals acc++byteVals m)):=rowE_kept (λj u h1 h2=>by rw [zL (by unfold byteVals;rw [zu];exact h1)] at h2;unfold byteVals at h2 ⊢;rw [zu] at h2;exact h2)
theorem append_e8 {g cap B0 B c:Nat} {acc m:List UInt8} {cur:Array Value} {ad:Addr} {ops:Array Oper} {rest:List Oper} {o:Oper} {a:Act} {Q:Exit->Act->World->Prop} {w:World} (hgd:o.guard=none) (s x:Operand) (ho:o.op=.call { callee:=.builtin .append,args:=#[s,x],argTypes:=#[35,35] })
  (hs:a.eval s=.slice (some ⟨g,0,none⟩) acc.length cap) (q1:Blk w g 5 cur) (q2:acc.length<=cap) (q3:cap<=maxLen) (q4:cur.size=cap*1) (q5:cur.toList.take (acc.length*1)=byteVals acc) (hx:a.eval x=.slice (some ad) m.length c) (hr:Reads w B 1 (some ad) m.length (byteVals m)) (hm0:0 < m.length) (hB:B0<=w.heap.size) (h63:acc.length+m.length<=1000000)
  (h:∀v' w',RowE B0 g 5 1 (acc.length+m.length) (byteVals acc++byteVals m) v' w'->EG g 5 acc.length (byteVals m) w w'->wpList Tryz.prog ops Q rest (a.put o.dst v') w'):wpList Tryz.prog ops Q (o::rest) a w:=by
 obtain ⟨i0,hi,hz0,hz1,hz2⟩:=zq infoU8
 exact wpList_append_early (g:=g) (te:=5) (n8:=acc.length) (us:=byteVals m) (B0:=B0) (cap:=cap) (n:=acc.length) (cur:=cur) (xs:=byteVals acc) hgd _ _ 35 ho i0 _ 1 1 Tryz.underlying35 hi hz0 hz1 hz2 rfl (by decide) hs q1 q2 q3 q4 q5 (by unfold byteVals;rw [zu,zO]) hx hr hm0 (byteVals_one _) (by rw [zO]) hB (by unfold maxLen;omega) (by omega) h
theorem encS_pos (l:List ByteArray):0 < (Sx.encS l).length:=by unfold Sx.encS;rw [aK];have:=encI_pos (l.length:Int);omega
set_option maxRecDepth 100000 in
theorem encode_any (x:Sch) (us:List Value) (w:World) (h:Mem.rep [] w x us) (OB:Sx.WB 2 x):Calls Tryz.prog 13 #[.agg us.toArray] w (BytesP (Sx.enc x) w):=by
 obtain ⟨A,c,B,d,C,e,rfl,s1,s2,s3,a1,b1,b2,b3,b4,b5,b6⟩:=rep_sch h
 have HOB:=aI OB
 have hx0:=OB.v
 have hnk:=OB.nk;have hnl:=OB.nl;have hnr:=OB.nr
 obtain ⟨E,hE⟩:=aX (Sx.enc x)
 have hEl:E.length<=60000:=by rw [<-hE];exact Sx.enc_leW (ag 2) OB
 obtain ⟨R1,hR1⟩:=aX (En.int x.2.2.1.length++((x.2.2.1.map Sx.encL).flatten++(En.int x.2.2.2.length++(x.2.2.2.map Sx.encR).flatten)))
 have HEQ:=aI (show (En.int x.1++En.int (Sc.kinds x).length)++(((Sc.kinds x).map Sx.encK).flatten++R1)=E by
  rw [<-hE,<-hR1];unfold Sx.enc;simp only [zo])
 have HR1:=aI hR1
 obtain ⟨i0,hi,hz0,hz1,hz2⟩:=zq infoU8
 have HII:=aI (show _/\_/\_/\_ from ⟨hi,hz0,hz1,hz2⟩)
 clear hi hz0 hz1 hz2
 obtain ⟨iI,hi,hz0,hz1,hz2⟩:=zq infoIN
 have HIN:=aI (show _/\_/\_/\_ from ⟨hi,hz0,hz1,hz2⟩)
 obtain ⟨nk,hk⟩:=aX ((Sc.kinds x).length)
 obtain ⟨nl,hl⟩:=aX x.2.2.1.length
 obtain ⟨nr,hr⟩:=aX x.2.2.2.length
 have HNK:=aI hk;have HNL:=aI hl;have HNR:=aI hr
 rw [hk] at hnk HEQ;rw [hl] at hnl;rw [hr] at hnr
 obtain ⟨N,hN⟩:=aX w.heap.size
 obtain ⟨W0,hW0⟩:=aX (w.alloc (.cells #[.int .i64 x.1,.slice A nk c,.slice B nl d,.slice C nr e] 27))
 have hb0:Below w.heap.size w W0:=by rw [<-hW0];exact aP _ _
 have hbk:Blk W0 N 27 #[.int .i64 x.1,.slice A nk c,.slice B nl d,.slice C nr e]:=by rw [<-hW0,<-hN];exact zj w _ _
 have T:=aI (show Held W0 [] [] [] [λM W=>N∉M/\Blk W N 27 #[.int .i64 x.1,.slice A nk c,.slice B nl d,.slice C nr e],λM W=>SlAt M W A (Sc.kinds x),λM W=>SlAt M W B x.2.2.1,λM W=>SlAt M W C x.2.2.2] W0 from ((((held0 W0 [] (λ_ h=>by cases h)).add (keeps_sl C x.2.2.2) (s3.keep (za hb0))).add (keeps_sl B x.2.2.1) (s2.keep (za hb0))).add (keeps_sl A (Sc.kinds x)) (s1.keep (za hb0))).add (P:=λM W=>N∉M/\Blk W N 27 #[.int .i64 x.1,.slice A nk c,.slice B nl d,.slice C nr e]) (keeps_blk _ _ _) ⟨by simp,hbk⟩)
 have HB:=aI hb0
 have HW0:=aI hW0
 have HN:=aI hN
 show Calls Tryz.prog 13 #[.agg #[.int .i64 x.1,.slice A (Sc.kinds x).length c,.slice B x.2.2.1.length d,.slice C x.2.2.2.length e]] w _
 rw [hk,hl,hr,hE]
 clear h s1 s2 s3 a1 b1 b2 b3 b4 b5 b6 hk hl hr hbk hb0 hW0 hN OB hE hR1 hi hz0 hz1 hz2
 have CI1:=aI (λw=>rInt_any x.1 w (by unfold inI;omega))
 have CI2:=aI (λw=>rInt_any (nk:Int) w (by unfold inI;omega))
 have CI3:=aI (λw=>rInt_any (nl:Int) w (by unfold inI;omega))
 have CI4:=aI (λw=>rInt_any (nr:Int) w (by unfold inI;omega))
 go_enter Tryz.func13,Tryz.ntmps13
 go_upto_region 1 with fail
 rw [HW0.out,HN.out]
 apply zy (C:=λw'=>Below W0.heap.size W0 w') (n:=194) (m:=7) (l1:=[_,_,_,_,_,_,_]) (l2:=[_,_]);rfl;rfl;kernel_rfl;rfl;kernel_rfl;exact ⟨rfl,rfl,rfl,ag _,λ_ _=>rfl⟩;exact aR
 iterate 2 ((apply aJ;·(intro w' hC hf;obtain ⟨z0,z1,z2,z3⟩:=aM4 (((T.out.below hC).fact (.head _)).2);clear hf hC;go_wp2_with (fail);apply aO;simp only [zC];exact rfl));(try simp only [zn]))
 apply zF (T:=RowN W0.heap.size 5 1 (En.int x.1).length (byteVals (En.int x.1))) rowN_bk
 .intro w' hC hf;unfold Gives;have HSZ:=aI hC.size;clear hf hC
  go_wp2_with (go_at_call 50;refine (CI1.out w').mono ?_;rintro e w2 ⟨v,rfl,hown,hb⟩;have HO:=aI hown;have HBL:=aI hb;clear hown hb)
  refine zJ rfl HBL.out ?_;simp only [valAt,aA];exact RowN.of_owns HO.out (encI_pos _) HSZ.out
 intro v15;(try simp only [zn])
 iterate 3 ((apply aJ;·(intro w' hC hf;obtain ⟨z0,z1,z2,z3⟩:=aM4 (((T.out.below hC).fact (.head _)).2);clear hf hC;go_wp2_with (fail);apply aO;simp only [zC];exact rfl));(try simp only [zn]))
 apply zF (T:=RowN W0.heap.size 5 1 (En.int nk).length (byteVals (En.int nk))) rowN_bk
 .intro w' hC hf;unfold Gives;have HSZ:=aI hC.size;clear hf hC
  go_wp2_with (go_at_call 50;refine (CI2.out w').mono ?_;rintro e w2 ⟨v,rfl,hown,hb⟩;have HO:=aI hown;have HBL:=aI hb;clear hown hb)
  refine zJ rfl HBL.out ?_;simp only [valAt,aA];exact RowN.of_owns HO.out (encI_pos _) HSZ.out
 intro v19;(try simp only [zn])
 apply wpT_done
 intro w4 hC hall
 have hown:=RowN.owns hall.2.1 (by unfold byteVals;rw [zu,zO])
 have hown2:=RowN.owns hall.1 (by unfold byteVals;rw [zu,zO])
 obtain ⟨M1,hT,_⟩:=T.out.take hC hown
 obtain ⟨Ab,cb,rfl⟩:=zP hown2
 have HR:=aI (reads_own hown2)
 have TB:=T
 replace T:=aI hT
 clear hT hown hown2 hall hC
 have hA1:=En.int_le x.1
 have hA2:=En.int_le (nk:Int)
 obtain ⟨hi,hz0,hz1,hz2⟩:=HII.out
 refine wpList_append_row (by rfl) _ _ 35 (by rfl) 5 i0 _ 1 1 Tryz.underlying35 hi hz0 hz1 hz2 rfl (by decide) T.out (by rfl) _ _ (En.int (nk:Int)).length _ (byteVals (En.int (nk:Int))) (by rfl) HR.out (byteVals_one _) (by unfold maxLen;omega) (by omega) ?_
 intro v5 w5 M5 h5 _
 rw [<-byteVals_append,<-aK] at h5
 replace T:=aI h5
 clear h5 HR hA1 hA2 hi hz0 hz1 hz2
 go_wp2_with fail
 go_loopg [3,4] nk (λr v i wr=>∃(k:Nat) (M:List Nat) (acc:List UInt8),k+r=nk/\i=.int .i64 k/\HRow W0 [] M [] [λM W=>N∉M/\Blk W N 27 #[.int .i64 x.1,.slice A nk c,.slice B nl d,.slice C nr e],λM W=>SlAt M W A (Sc.kinds x),λM W=>SlAt M W B x.2.2.1,λM W=>SlAt M W C x.2.2.2] 5 1 v acc.length (byteVals acc) wr/\0 < acc.length/\acc++((((Sc.kinds x).drop k).map Sx.encK).flatten++R1)=E)
 case atStart=>exact ⟨0,_,_,by omega,rfl,T.out,by rw [aK];have:=encI_pos x.1;omega,HEQ.out⟩
 case round =>
  clear T HEQ
  obtain ⟨k,M,acc,hk,rfl,hT,hpos,hacc⟩:=hrel
  obtain ⟨wo,rfl⟩:=aY wr
  obtain ⟨gq,rfl⟩:=aY gk
  have T:=aI hT
  clear hT
  obtain ⟨g,cr,rfl⟩:∃g cr,u3=.slice (some ⟨g,0,none⟩) acc.length cr:=by
   rcases T.out.own.2 with ⟨h0,_⟩ | ⟨g,cap,cur,h1,_⟩
   .omega
   .exact ⟨g,cap,h1⟩
  obtain ⟨z0,z1,z2,z3⟩:=aM4 ((T.out.h.fact (.head _)).2)
  have HAP:=aI hpos
  by_cases hlt:k < nk
  .have hkp:k < (Sc.kinds x).length:=by rw [HNK.out];exact hlt
   have k0:(0:Int)<=(k:Int):=aa _
   have k1:(k:Int) < (nk:Int):=by omega
   have HR:=aI hacc
   rw [List.drop_eq_getElem_cons hkp,List.map_cons,List.flatten_cons,zo] at HR
   have kb:=HOB.out.k _ (ze hkp)
   obtain ⟨b,o,F,cf,rfl,_,c0,c1,c2,c3,hsl,_⟩:=knd_at (T.out.h.fact (.tail _ (.head _))) k hkp
   obtain ⟨kd,hkd⟩:=aX ((Sc.kinds x)[k])
   rw [hkd] at c0 c1 c2 c3 hsl HR kb
   have HKB:=aI kb
   have hq1:=kb.nm;have hq2:=kb.lo;have hq3:=kb.hi
   obtain ⟨nf,hnf⟩:=aX ((Sc.flds kd).length)
   have HNF:=aI hnf
   have hq4:=kb.n
   rw [hnf] at c3 hq4
   have hla:acc.length+(Sx.encK kd).length<=60000:=by
    have:=zt List.length HR.out
    rw [aK,aK] at this
    omega
   obtain ⟨Nk,hNk⟩:=aX wo.heap.size
   have hbw:Blk (wo.alloc (.cells #[.string kd.1,.int .i64 kd.2.1,.int .i64 kd.2.2.1,.slice F nf cf] 52)) Nk 52 #[.string kd.1,.int .i64 kd.2.1,.int .i64 kd.2.2.1,.slice F nf cf]:=by rw [<-hNk];exact zj wo _ _
   have hbl:Below wo.heap.size wo (wo.alloc (.cells #[.string kd.1,.int .i64 kd.2.1,.int .i64 kd.2.2.1,.slice F nf cf] 52)):=(zf wo.heap.size wo).alloc (ag _) _
   have hnm:Nk∉M:=λhm=>by have:=T.out.h.mb _ hm;omega
   replace T:=aI (((T.out.below hbl).add (keeps_sl F (Sc.flds kd)) (hsl.keep (za hbl))).add (P:=λM W=>Nk∉M/\Blk W Nk 52 #[.string kd.1,.int .i64 kd.2.1,.int .i64 kd.2.2.1,.slice F nf cf]) (keeps_blk _ _ _) ⟨hnm,hbw⟩)
   clear hnf hacc hkd kb hsl hbw hbl hnm
   have hlb:acc.length+(Sx.encB kd.1).length+(En.ints [kd.2.1,kd.2.2.1]).length<=60000:=by
    unfold Sx.encK at hla;simp only [aK] at hla;omega
   have CB:=aI (λw=>rBytes_any kd.1 w (by omega))
   have CX:=aI (λW g (hB:Blk W g 3 #[.int .i64 kd.2.1,.int .i64 kd.2.2.1])=>show Calls Tryz.prog 52 #[.slice (some ⟨g,0,none⟩) 2 2] W _ from rInts_any [kd.2.1,kd.2.2.1] (some ⟨g,0,none⟩) 2 W (SlAt.of_blk (xs:=[.int .i64 kd.2.1,.int .i64 kd.2.2.1]) ⟨[_],_,rfl,⟨rfl,by unfold inI;omega⟩,[_],[],rfl,⟨rfl,by unfold inI;omega⟩,rfl⟩ hB (by simp)) (by simp))
   go_upto_region 6 with fail
   generalize wo.alloc (.cells #[.string kd.1,.int .i64 kd.2.1,.int .i64 kd.2.2.1,.slice F nf cf] 52)=w5 at *
   clear hNk c0 c1 c2 c3 z0 z1 z2 z3
   have HGL:=aI T.out.gLt
   go_wp2_with fail
   letI:Grow:=earlyGrow g 5 acc.length (byteVals (Sx.encB kd.1))
   apply zx (C:=λw'=>EG g 5 acc.length (byteVals (Sx.encB kd.1)) w5 w') (n:=194) (m:=11) (l1:=[_,_,_,_,_,_,_,_,_,_,_]) (l2:=[_,_]);rfl;rfl;kernel_rfl;rfl;kernel_rfl;exact EG.below ⟨rfl,rfl,rfl,ag _,λ_ _=>rfl⟩;exact λu u' h hb=>h.trans hb
   iterate 3 ((apply aHx;·(intro w' hC hf;obtain ⟨c0,c1,c2,c3⟩:=aM4 (((T.out.h.early T.out.ok rfl hC).fact (.head _)).2);clear hf hC;go_wp2_with (fail);apply aBx;simp only [zC];exact rfl));(try simp only [zn]))
   apply zb (T:=RowN w5.heap.size 5 1 (Sx.encB kd.1).length (byteVals (Sx.encB kd.1))) (rowN_keptE HGL.out)
   .intro w' hC hf;unfold RG.Gives;have HSZ:=aI (EG.size hC);clear hf hC
    go_wp2_with (go_at_call 51;refine (CB.out w').mono ?_;rintro e w2 ⟨v,rfl,hown,hb⟩;have HO:=aI hown;have HBL:=aI hb;clear hown hb)
    refine zd rfl (EG.below HBL.out) ?_;simp only [RG.valAt,aA];exact RowN.of_owns HO.out (encB_pos _) HSZ.out
   intro v36;(try simp only [zn])
   apply zb (T:=RowE w5.heap.size g 5 1 (acc.length+(Sx.encB kd.1).length) (byteVals acc++byteVals (Sx.encB kd.1))) rowE_bytes
   .intro w' hC hf;unfold RG.Gives;have hro:=hf.1 rfl;clear hf
    have hbo:=RowN.owns hro (by unfold byteVals;rw [zu,zO])
    obtain ⟨g2,cap2,cur2,rfl,_,_,_⟩:=hro
    obtain ⟨cur3,q1,q2,q3,q4,q5⟩:=T.out.rowE HAP.out hC
    refine append_e8 (m:=Sx.encB kd.1) (B0:=w5.heap.size) (by rfl) _ _ (by rfl) (by rfl) q1 q2 q3 q4 q5 (by rfl) (reads_own hbo) (encB_pos _) (EG.size hC) (by omega) ?_
    intro v' w2 k1 k2
    refine zd rfl k2 ?_;simp only [RG.valAt,aA];exact k1
   intro v37;(try simp only [zn])
   iterate 4 ((apply aHx;·(intro w' hC hf;obtain ⟨c0,c1,c2,c3⟩:=aM4 (((T.out.h.early T.out.ok rfl hC).fact (.head _)).2);clear hf hC;go_wp2_with (fail);apply aBx;simp only [zC];exact rfl));(try simp only [zn]))
   apply zb (T:=λv w=>∃N,v=.slice (some ⟨N,0,none⟩) 2 2/\w5.heap.size<=N/\Blk w N 3 #[.int .i64 kd.2.1,.int .i64 kd.2.2.1]) (blkN_kept HGL.out)
   .intro w' hC hf;unfold RG.Gives;have hs:=aI (EG.size hC);clear hf hC
    go_wp2_with fail
    refine zd rfl (EG.below (by go_grown)) ?_;simp only [zC];exact ⟨_,rfl,hs.out,zj _ _ _⟩
   intro v42;(try simp only [zn])
   apply zb (T:=RowN w5.heap.size 5 1 (En.ints [kd.2.1,kd.2.2.1]).length (byteVals (En.ints [kd.2.1,kd.2.2.1]))) (rowN_keptE HGL.out)
   .intro w' hC hf;unfold RG.Gives;have HSZ:=aI (EG.size hC);obtain ⟨N2,rfl,_,hB⟩:=hf.1 rfl;have HBk:=aI hB;clear hB;clear hf hC
    go_wp2_with (go_at_call 52;refine (CX.out _ _ HBk.out).mono ?_;rintro e w2 ⟨v,rfl,hown,hb⟩;have HO:=aI hown;have HBL:=aI hb;clear hown hb)
    refine zd rfl (EG.below HBL.out) ?_;simp only [RG.valAt,aA];exact RowN.of_owns HO.out (encIs_pos _) HSZ.out
   intro v43;(try simp only [zn])
   apply RG.wpT_done
   intro w6 hC hall
   obtain ⟨M6,hT6⟩:=HRow.early T.out rfl hC hall.2.2.1 (by rw [aK];unfold byteVals;rw [zu,zu,zO])
   have hown2:=RowN.owns hall.1 (by unfold byteVals;rw [zu,zO])
   obtain ⟨Ab,cb,rfl⟩:=zP hown2
   have HR6:=aI (reads_own hown2)
   rw [<-byteVals_append,<-aK] at hT6
   replace T:=aI hT6
   clear hT6 hown2 hall hC HGL
   obtain ⟨hi,hz0,hz1,hz2⟩:=HII.out
   refine wpList_append_row (by rfl) _ _ 35 (by rfl) 5 i0 _ 1 1 Tryz.underlying35 hi hz0 hz1 hz2 rfl (by decide) T.out (by rfl) _ _ (En.ints [kd.2.1,kd.2.2.1]).length _ (byteVals (En.ints [kd.2.1,kd.2.2.1])) (by rfl) HR6.out (byteVals_one _) (by rw [aK];unfold maxLen;omega) (by rw [aK];omega) ?_
   intro v9 w9 M9 h9 _
   rw [<-byteVals_append,<-aK] at h9
   replace T:=aI h9
   clear h9 HR6 hi hz0 hz1 hz2
   clear CB CX hlb
   obtain ⟨acc1,hac⟩:=aX ((acc++Sx.encB kd.1)++En.ints [kd.2.1,kd.2.2.1])
   rw [hac] at T
   obtain ⟨R2,hR2⟩:=aX ((((Sc.kinds x).drop (k+1)).map Sx.encK).flatten++R1)
   have HR2:=aI hR2
   have HA1:=aI (show (acc1++En.int (nf:Int))++((((Sc.flds kd).map Sx.encF).flatten)++R2)=E by
    rw [<-HR.out,<-hac,<-hR2];unfold Sx.encK;rw [HNF.out];simp only [zo])
   have hla1:acc1.length+(En.int (nf:Int)).length<=60000:=by
    have:=zt List.length HA1.out
    rw [aK,aK] at this
    omega
   have hap1:0 < acc1.length:=by rw [<-hac,aK,aK];omega
   clear hac hR2 HR hla HAP hpos
   have CI5:=aI (λw=>rInt_any (nf:Int) w (by unfold inI;omega))
   obtain ⟨c0,c1,c2,c3⟩:=aM4 ((T.out.h.fact (.head _)).2)
   have hi:=HII.out.1;have hz0:=HII.out.2.1;have hz1:=HII.out.2.2.1;have hz2:=HII.out.2.2.2
   go_wp2_with (first | (go_at_call 50;refine (CI5.out _).mono ?_;rintro e w2 ⟨v,rfl,hown,hb⟩;obtain ⟨Ab,cb,rfl⟩:=zP hown;replace T:=aI (T.out.below hb);have HRD:=aI (reads_own hown);clear hown hb) | (at_builtin;refine wpList_append_row (by rfl) _ _ 35 (by rfl) 5 i0 _ 1 1 Tryz.underlying35 hi hz0 hz1 hz2 rfl (by decide) T.out (by rfl) _ _ (En.int (nf:Int)).length _ (byteVals (En.int (nf:Int))) (by rfl) HRD.out (byteVals_one _) (by unfold maxLen;omega) (by omega) ?_;intro v8 w8 M8 h8 _;rw [<-byteVals_append,<-aK] at h8;replace T:=aI h8;clear h8))
   clear c0 c1 c2 c3 hi hz0 hz1 hz2 HRD
   go_loopg [3,6] nf (λr v i wr=>∃(j:Nat) (M:List Nat) (acc:List UInt8),j+r=nf/\i=.int .i64 j/\HRow W0 [] M [] ((λM W=>Nk∉M/\Blk W Nk 52 #[.string kd.1,.int .i64 kd.2.1,.int .i64 kd.2.2.1,.slice F nf cf])::(λM W=>SlAt M W F (Sc.flds kd))::[λM W=>N∉M/\Blk W N 27 #[.int .i64 x.1,.slice (some ⟨b,o,none⟩) nk c,.slice B nl d,.slice C nr e],λM W=>SlAt M W (some ⟨b,o,none⟩) (Sc.kinds x),λM W=>SlAt M W B x.2.2.1,λM W=>SlAt M W C x.2.2.2]) 5 1 v acc.length (byteVals acc) wr/\0 < acc.length/\acc++((((Sc.flds kd).drop j).map Sx.encF).flatten++R2)=E)
   case atStart=>exact ⟨0,_,_,by omega,rfl,T.out,by rw [aK];omega,HA1.out⟩
   case round =>
    clear T HA1 hla1 hap1 CI5
    obtain ⟨j,M,acc,hj,rfl,hT,hpos,hacc⟩:=hrel
    obtain ⟨wi,rfl⟩:=aY wr
    have T:=aI hT
    clear hT
    obtain ⟨g,cr,rfl⟩:∃g cr,u3=.slice (some ⟨g,0,none⟩) acc.length cr:=by
     rcases T.out.own.2 with ⟨h0,_⟩ | ⟨g,cap,cur,h1,_⟩
     .omega
     .exact ⟨g,cap,h1⟩
    have HAP:=aI hpos
    obtain ⟨c0,c1,c2,c3⟩:=aM4 ((T.out.h.fact (.head _)).2)
    by_cases hlt2:j < nf
    .have hjp:j < (Sc.flds kd).length:=by rw [HNF.out];exact hlt2
     have j0:(0:Int)<=(j:Int):=aa _
     have j1:(j:Int) < (nf:Int):=by omega
     have HR:=aI hacc
     rw [List.drop_eq_getElem_cons hjp,List.map_cons,List.flatten_cons,zo] at HR
     have fb:=HKB.out.f _ (ze hjp)
     obtain ⟨b2,o2,us,rfl,_,hr,hc⟩:=SlAt.get (T.out.h.fact (.tail _ (.head _))) j hjp
     obtain ⟨fd,hfd⟩:=aX ((Sc.flds kd)[j])
     rw [hfd] at HR fb hr
     obtain ⟨Aw,cw,Bw,dw,rfl,sw1,sw2,_⟩:=rep_fld hr
     rw [show Mem.sz Fld=8 from rfl] at hc
     have HFB:=aI fb
     have fq1:=fb.nm;have fq2:=fb.of_;have fq3:=fb.up;have fq4:=fb.lo;have fq5:=fb.hi;have fq6:=fb.ws;have fq7:=fb.ns
     have hk1:=fb.kd
     obtain ⟨nw,hnw⟩:=aX ((Sc.words fd).length)
     have HNW:=aI hnw
     obtain ⟨nv,hnv⟩:=aX ((Sc.wts fd).length)
     have HNV:=aI hnv
     rw [hnw] at fq6;rw [hnv] at fq7
     rw [hnw,hnv] at hc
     obtain ⟨y0,y1,y2,y3,y4,y5,y6,y7⟩:=aG8 (m:=j*8) hc
     have hla:acc.length+(Sx.encF fd).length<=60000:=by
      have:=zt List.length HR.out
      rw [aK,aK] at this
      omega
     obtain ⟨Nf,hNf⟩:=aX wi.heap.size
     have hbw:Blk (wi.alloc (.cells #[.string (Sc.nm fd),.string (Sc.of_ fd),.string (Sc.up fd),.int .i64 (Sc.kd fd),.int .i64 (Sc.lo fd),.int .i64 (Sc.hi fd),.slice Aw nw cw,.slice Bw nv dw] 65)) Nf 65 #[.string (Sc.nm fd),.string (Sc.of_ fd),.string (Sc.up fd),.int .i64 (Sc.kd fd),.int .i64 (Sc.lo fd),.int .i64 (Sc.hi fd),.slice Aw nw cw,.slice Bw nv dw]:=by rw [<-hNf];exact zj wi _ _
     have hbl:Below wi.heap.size wi (wi.alloc (.cells #[.string (Sc.nm fd),.string (Sc.of_ fd),.string (Sc.up fd),.int .i64 (Sc.kd fd),.int .i64 (Sc.lo fd),.int .i64 (Sc.hi fd),.slice Aw nw cw,.slice Bw nv dw] 65)):=(zf wi.heap.size wi).alloc (ag _) _
     have hnm:Nf∉M:=λhm=>by have:=T.out.h.mb _ hm;omega
     have HTB:=T
     replace T:=aI ((((T.out.below hbl).add (keeps_sl Bw (Sc.wts fd)) (sw2.keep (za hbl))).add (keeps_sl Aw (Sc.words fd)) (sw1.keep (za hbl))).add (P:=λM W=>Nf∉M/\Blk W Nf 65 #[.string (Sc.nm fd),.string (Sc.of_ fd),.string (Sc.up fd),.int .i64 (Sc.kd fd),.int .i64 (Sc.lo fd),.int .i64 (Sc.hi fd),.slice Aw nw cw,.slice Bw nv dw]) (keeps_blk _ _ _) ⟨hnm,hbw⟩)
     clear HTB hacc hfd hr hc fb sw1 sw2 hbw hbl hnm hnw hnv
     have hl1:acc.length+(Sx.encS [Sc.nm fd,Sc.of_ fd,Sc.up fd]).length+(En.ints [Sc.kd fd,Sc.lo fd,Sc.hi fd]).length<=60000:=by
      unfold Sx.encF at hla;simp only [aK] at hla;omega
     have CB:=aI (λW g (hB:Blk W g 9 #[.string (Sc.nm fd),.string (Sc.of_ fd),.string (Sc.up fd)])=>show Calls Tryz.prog 53 #[.slice (some ⟨g,0,none⟩) 3 3] W _ from rStrings_any [Sc.nm fd,Sc.of_ fd,Sc.up fd] (some ⟨g,0,none⟩) 3 W (SlAt.of_blk (xs:=[.string (Sc.nm fd),.string (Sc.of_ fd),.string (Sc.up fd)]) ⟨[_],_,rfl,⟨rfl,by omega⟩,[_],_,rfl,⟨rfl,by omega⟩,[_],[],rfl,⟨rfl,by omega⟩,rfl⟩ hB (by simp)) (by simp) (by intro s hs;simp only [zB,zr,zQ] at hs;rcases hs with rfl | rfl | rfl <;> omega))
     have CX:=aI (λW g (hB:Blk W g 3 #[.int .i64 (Sc.kd fd),.int .i64 (Sc.lo fd),.int .i64 (Sc.hi fd)])=>show Calls Tryz.prog 52 #[.slice (some ⟨g,0,none⟩) 3 3] W _ from rInts_any [Sc.kd fd,Sc.lo fd,Sc.hi fd] (some ⟨g,0,none⟩) 3 W (SlAt.of_blk (xs:=[.int .i64 (Sc.kd fd),.int .i64 (Sc.lo fd),.int .i64 (Sc.hi fd)]) ⟨[_],_,rfl,⟨rfl,by unfold inI;omega⟩,[_],_,rfl,⟨rfl,by unfold inI;omega⟩,[_],[],rfl,⟨rfl,by unfold inI;omega⟩,rfl⟩ hB (by simp)) (by simp))
     go_upto_region 12 with fail
     generalize wi.alloc (.cells #[.string (Sc.nm fd),.string (Sc.of_ fd),.string (Sc.up fd),.int .i64 (Sc.kd fd),.int .i64 (Sc.lo fd),.int .i64 (Sc.hi fd),.slice Aw nw cw,.slice Bw nv dw] 65)=w5 at *
     clear hNf y0 y1 y2 y3 y4 y5 y6 y7 c0 c1 c2 c3
     have HGL:=aI T.out.gLt
     go_wp2_with fail
     letI:Grow:=earlyGrow g 5 acc.length (byteVals (Sx.encS [Sc.nm fd,Sc.of_ fd,Sc.up fd]))
     apply zx (C:=λw'=>EG g 5 acc.length (byteVals (Sx.encS [Sc.nm fd,Sc.of_ fd,Sc.up fd])) w5 w') (n:=194) (m:=18) (l1:=[_,_,_,_,_,_,_,_,_,_,_,_,_,_,_,_,_,_]) (l2:=[_,_]);rfl;rfl;kernel_rfl;rfl;kernel_rfl;exact EG.below ⟨rfl,rfl,rfl,ag _,λ_ _=>rfl⟩;exact λu u' h hb=>h.trans hb
     iterate 7 ((apply aHx;·(intro w' hC hf;obtain ⟨c0,c1,c2,c3,c4,c5,c6,c7⟩:=aM8 (((T.out.h.early T.out.ok rfl hC).fact (.head _)).2);clear hf hC;go_wp2_with (fail);apply aBx;simp only [zC];exact rfl));(try simp only [zn]))
     apply zb (T:=λv w=>∃N,v=.slice (some ⟨N,0,none⟩) 3 3/\w5.heap.size<=N/\Blk w N 9 #[.string (Sc.nm fd),.string (Sc.of_ fd),.string (Sc.up fd)]) (blkN_kept HGL.out)
     .intro w' hC hf;unfold RG.Gives;have hs:=aI (EG.size hC);clear hf hC
      go_wp2_with fail
      refine zd rfl (EG.below (by go_grown)) ?_;simp only [zC];exact ⟨_,rfl,hs.out,zj _ _ _⟩
     intro v70;(try simp only [zn])
     apply zb (T:=RowN w5.heap.size 5 1 (Sx.encS [Sc.nm fd,Sc.of_ fd,Sc.up fd]).length (byteVals (Sx.encS [Sc.nm fd,Sc.of_ fd,Sc.up fd]))) (rowN_keptE HGL.out)
     .intro w' hC hf;unfold RG.Gives;have HSZ:=aI (EG.size hC);obtain ⟨N2,rfl,_,hB⟩:=hf.1 rfl;have HBk:=aI hB;clear hB;clear hf hC
      go_wp2_with (go_at_call 53;refine (CB.out _ _ HBk.out).mono ?_;rintro e w2 ⟨v,rfl,hown,hb⟩;have HO:=aI hown;have HBL:=aI hb;clear hown hb)
      refine zd rfl (EG.below HBL.out) ?_;simp only [RG.valAt,aA];exact RowN.of_owns HO.out (encS_pos _) HSZ.out
     intro v71;(try simp only [zn])
     apply zb (T:=RowE w5.heap.size g 5 1 (acc.length+(Sx.encS [Sc.nm fd,Sc.of_ fd,Sc.up fd]).length) (byteVals acc++byteVals (Sx.encS [Sc.nm fd,Sc.of_ fd,Sc.up fd]))) rowE_bytes
     .intro w' hC hf;unfold RG.Gives;have hro:=hf.1 rfl;clear hf
      have hbo:=RowN.owns hro (by unfold byteVals;rw [zu,zO])
      obtain ⟨g2,cap2,cur2,rfl,_,_,_⟩:=hro
      obtain ⟨cur3,q1,q2,q3,q4,q5⟩:=T.out.rowE HAP.out hC
      refine append_e8 (m:=Sx.encS [Sc.nm fd,Sc.of_ fd,Sc.up fd]) (B0:=w5.heap.size) (by rfl) _ _ (by rfl) (by rfl) q1 q2 q3 q4 q5 (by rfl) (reads_own hbo) (encS_pos _) (EG.size hC) (by omega) ?_
      intro v' w2 k1 k2
      refine zd rfl k2 ?_;simp only [RG.valAt,aA];exact k1
     intro v72;(try simp only [zn])
     iterate 6 ((apply aHx;·(intro w' hC hf;obtain ⟨c0,c1,c2,c3,c4,c5,c6,c7⟩:=aM8 (((T.out.h.early T.out.ok rfl hC).fact (.head _)).2);clear hf hC;go_wp2_with (fail);apply aBx;simp only [zC];exact rfl));(try simp only [zn]))
     apply zb (T:=λv w=>∃N,v=.slice (some ⟨N,0,none⟩) 3 3/\w5.heap.size<=N/\Blk w N 3 #[.int .i64 (Sc.kd fd),.int .i64 (Sc.lo fd),.int .i64 (Sc.hi fd)]) (blkN_kept HGL.out)
     .intro w' hC hf;unfold RG.Gives;have hs:=aI (EG.size hC);clear hf hC
      go_wp2_with fail
      refine zd rfl (EG.below (by go_grown)) ?_;simp only [zC];exact ⟨_,rfl,hs.out,zj _ _ _⟩
     intro v79;(try simp only [zn])
     apply zb (T:=RowN w5.heap.size 5 1 (En.ints [Sc.kd fd,Sc.lo fd,Sc.hi fd]).length (byteVals (En.ints [Sc.kd fd,Sc.lo fd,Sc.hi fd]))) (rowN_keptE HGL.out)
     .intro w' hC hf;unfold RG.Gives;have HSZ:=aI (EG.size hC);obtain ⟨N2,rfl,_,hB⟩:=hf.1 rfl;have HBk:=aI hB;clear hB;clear hf hC
      go_wp2_with (go_at_call 52;refine (CX.out _ _ HBk.out).mono ?_;rintro e w2 ⟨v,rfl,hown,hb⟩;have HO:=aI hown;have HBL:=aI hb;clear hown hb)
      refine zd rfl (EG.below HBL.out) ?_;simp only [RG.valAt,aA];exact RowN.of_owns HO.out (encIs_pos _) HSZ.out
     intro v80;(try simp only [zn])
     apply RG.wpT_done
     intro w6 hC hall
     obtain ⟨M6,hT6⟩:=HRow.early T.out rfl hC hall.2.2.1 (by rw [aK];unfold byteVals;rw [zu,zu,zO])
     have hown2:=RowN.owns hall.1 (by unfold byteVals;rw [zu,zO])
     obtain ⟨Ab,cb,rfl⟩:=zP hown2
     have HR6:=aI (reads_own hown2)
     rw [<-byteVals_append,<-aK] at hT6
     replace T:=aI hT6
     clear hT6 hown2 hall hC HGL
     obtain ⟨hi,hz0,hz1,hz2⟩:=HII.out
     refine wpList_append_row (by rfl) _ _ 35 (by rfl) 5 i0 _ 1 1 Tryz.underlying35 hi hz0 hz1 hz2 rfl (by decide) T.out (by rfl) _ _ (En.ints [Sc.kd fd,Sc.lo fd,Sc.hi fd]).length _ (byteVals (En.ints [Sc.kd fd,Sc.lo fd,Sc.hi fd])) (by rfl) HR6.out (byteVals_one _) (by rw [aK];unfold maxLen;omega) (by rw [aK];omega) ?_
     intro v9 w9 M9 h9 _
     rw [<-byteVals_append,<-aK] at h9
     replace T:=aI h9
     clear h9 HR6 hi hz0 hz1 hz2
     obtain ⟨acc2,hac⟩:=aX ((acc++Sx.encS [Sc.nm fd,Sc.of_ fd,Sc.up fd])++En.ints [Sc.kd fd,Sc.lo fd,Sc.hi fd])
     rw [hac] at T
     obtain ⟨R3,hR3⟩:=aX ((((Sc.flds kd).drop (j+1)).map Sx.encF).flatten++R2)
     have HR3:=aI hR3
     have HA2:=aI (show ((acc2++Sx.encS (Sc.words fd))++En.ints (Sc.wts fd))++R3=E by
      rw [<-HR.out,<-hac,<-hR3];unfold Sx.encF;simp only [zo])
     have hl2:acc2.length+(Sx.encS (Sc.words fd)).length+(En.ints (Sc.wts fd)).length<=60000:=by
      have:=zt List.length HA2.out
      rw [aK,aK,aK] at this
      omega
     have hap2:0 < acc2.length:=by rw [<-hac,aK,aK];omega
     clear CB CX hl1 hac hR3 HR hla HAP hpos
     obtain ⟨acc,hac⟩:∃a,a=acc2:=⟨_,rfl⟩
     subst hac
     have HAP:=aI hap2
     obtain ⟨g,cr,rfl⟩:∃g cr,v9=.slice (some ⟨g,0,none⟩) acc.length cr:=by
      rcases T.out.own.2 with ⟨h0,_⟩ | ⟨g,cap,cur,h1,_⟩
      .omega
      .exact ⟨g,cap,h1⟩
     have CWS:=aI (λW (h:SlAt [] W Aw (Sc.words fd))=>rStrings_any (Sc.words fd) Aw cw W h (by rw [HNW.out];omega) (λs hs=>by have:=HFB.out.w s hs;omega))
     have CWI:=aI (λW (h:SlAt [] W Bw (Sc.wts fd))=>rInts_any (Sc.wts fd) Bw dw W h (by rw [HNV.out];omega))
     simp only [HNW.out] at CWS
     simp only [HNV.out] at CWI
     go_upto_region 13 with fail
     have HGL:=aI T.out.gLt
     go_wp2_with fail
     letI:Grow:=earlyGrow g 5 acc.length (byteVals (Sx.encS (Sc.words fd)))
     apply zx (C:=λw'=>EG g 5 acc.length (byteVals (Sx.encS (Sc.words fd))) w9 w') (n:=194) (m:=8) (l1:=[_,_,_,_,_,_,_,_]) (l2:=[_,_]);rfl;rfl;kernel_rfl;rfl;kernel_rfl;exact EG.below ⟨rfl,rfl,rfl,ag _,λ_ _=>rfl⟩;exact λu u' h hb=>h.trans hb
     iterate 3 ((apply aHx;·(intro w' hC hf;obtain ⟨c0,c1,c2,c3,c4,c5,c6,c7⟩:=aM8 (((T.out.h.early T.out.ok rfl hC).fact (.head _)).2);clear hf hC;go_wp2_with (fail);apply aBx;simp only [zC];exact rfl));(try simp only [zn]))
     apply zb (T:=RowN w9.heap.size 5 1 (Sx.encS (Sc.words fd)).length (byteVals (Sx.encS (Sc.words fd)))) (rowN_keptE HGL.out)
     .intro w' hC hf;unfold RG.Gives;have HSZ:=aI (EG.size hC);have hsl:SlAt [] w' Aw (Sc.words fd):=((T.out.h.early T.out.ok rfl hC).fact (.tail _ (.head _))).sub (λg hg=>by cases hg);have HSL:=aI hsl;clear hsl;clear hf hC
      go_wp2_with (go_at_call 53;refine (CWS.out w' HSL.out).mono ?_;rintro e w2 ⟨v,rfl,hown,hb⟩;have HO:=aI hown;have HBL:=aI hb;clear hown hb)
      refine zd rfl (EG.below HBL.out) ?_;simp only [RG.valAt,aA];exact RowN.of_owns HO.out (encS_pos _) HSZ.out
     intro v85;(try simp only [zn])
     apply zb (T:=RowE w9.heap.size g 5 1 (acc.length+(Sx.encS (Sc.words fd)).length) (byteVals acc++byteVals (Sx.encS (Sc.words fd)))) rowE_bytes
     .intro w' hC hf;unfold RG.Gives;have hro:=hf.1 rfl;clear hf
      have hbo:=RowN.owns hro (by unfold byteVals;rw [zu,zO])
      obtain ⟨g2,cap2,cur2,rfl,_,_,_⟩:=hro
      obtain ⟨cur3,q1,q2,q3,q4,q5⟩:=T.out.rowE HAP.out hC
      refine append_e8 (m:=Sx.encS (Sc.words fd)) (B0:=w9.heap.size) (by rfl) _ _ (by rfl) (by rfl) q1 q2 q3 q4 q5 (by rfl) (reads_own hbo) (encS_pos _) (EG.size hC) (by omega) ?_
      intro v' w2 k1 k2
      refine zd rfl k2 ?_;simp only [RG.valAt,aA];exact k1
     intro v86;(try simp only [zn])
     iterate 2 ((apply aHx;·(intro w' hC hf;obtain ⟨c0,c1,c2,c3,c4,c5,c6,c7⟩:=aM8 (((T.out.h.early T.out.ok rfl hC).fact (.head _)).2);clear hf hC;go_wp2_with (fail);apply aBx;simp only [zC];exact rfl));(try simp only [zn]))
     apply zb (T:=RowN w9.heap.size 5 1 (En.ints (Sc.wts fd)).length (byteVals (En.ints (Sc.wts fd)))) (rowN_keptE HGL.out)
     .intro w' hC hf;unfold RG.Gives;have HSZ:=aI (EG.size hC);have hsl:SlAt [] w' Bw (Sc.wts fd):=((T.out.h.early T.out.ok rfl hC).fact (.tail _ (.tail _ (.head _)))).sub (λg hg=>by cases hg);have HSL:=aI hsl;clear hsl;clear hf hC
      go_wp2_with (go_at_call 52;refine (CWI.out w' HSL.out).mono ?_;rintro e w2 ⟨v,rfl,hown,hb⟩;have HO:=aI hown;have HBL:=aI hb;clear hown hb)
      refine zd rfl (EG.below HBL.out) ?_;simp only [RG.valAt,aA];exact RowN.of_owns HO.out (encIs_pos _) HSZ.out
     intro v89;(try simp only [zn])
     apply RG.wpT_done
     intro w6 hC hall
     obtain ⟨M6,hT6⟩:=HRow.early T.out rfl hC hall.2.1 (by rw [aK];unfold byteVals;rw [zu,zu,zO])
     have hown2:=RowN.owns hall.1 (by unfold byteVals;rw [zu,zO])
     obtain ⟨Ab,cb,rfl⟩:=zP hown2
     have HR6:=aI (reads_own hown2)
     rw [<-byteVals_append,<-aK] at hT6
     replace T:=aI hT6
     clear hT6 hown2 hall hC HGL
     obtain ⟨hi,hz0,hz1,hz2⟩:=HII.out
     refine wpList_append_row (by rfl) _ _ 35 (by rfl) 5 i0 _ 1 1 Tryz.underlying35 hi hz0 hz1 hz2 rfl (by decide) T.out (by rfl) _ _ (En.ints (Sc.wts fd)).length _ (byteVals (En.ints (Sc.wts fd))) (by rfl) HR6.out (byteVals_one _) (by rw [aK];unfold maxLen;omega) (by rw [aK];omega) ?_
     intro v10 w10 M10 h9 _
     rw [<-byteVals_append,<-aK] at h9
     replace T:=aI h9
     clear h9 HR6 hi hz0 hz1 hz2
     go_wp2_with fail
     go_roundg (gk - 1)
     case measure=>omega
     case rel=>exact ⟨j+1,_,_,by omega,by go_num,T.out.less (λP hP=>.tail _ (.tail _ (.tail _ hP))),by rw [aK,aK];have:=HAP.out;omega,by rw [HR3.out];exact HA2.out⟩
    .have j1:¬(j:Int) < (nf:Int):=by omega
     rw [List.drop_eq_nil_of_le (by rw [HNF.out];omega),List.map_nil,List.flatten_nil,zA,<-HR2.out] at hacc
     have HR:=aI hacc
     clear hacc
     go_wp2_with fail
     go_roundg (gq - 1)
     case measure=>omega
     case rel=>exact ⟨k+1,_,_,by omega,by go_num,T.out.less (λP hP=>.tail _ (.tail _ hP)),HAP.out,HR.out⟩
  .have k1:¬(k:Int) < (nk:Int):=by omega
   rw [List.drop_eq_nil_of_le (by rw [HNK.out];omega),List.map_nil,List.flatten_nil,zA,<-HR1.out] at hacc
   have hla:acc.length+(En.int (x.2.2.1.length:Int)).length<=60000:=by
    have:=zt List.length hacc
    rw [aK,aK] at this
    omega
   rw [HNL.out] at hla hacc
   rw [<-zo] at hacc
   have HR:=aI hacc
   clear hacc
   have hi:=HII.out.1;have hz0:=HII.out.2.1;have hz1:=HII.out.2.2.1;have hz2:=HII.out.2.2.2
   go_wp2_with (first | (go_at_call 50;refine (CI3.out _).mono ?_;rintro e w2 ⟨v,rfl,hown,hb⟩;obtain ⟨Ab,cb,rfl⟩:=zP hown;replace T:=aI (T.out.below hb);have HRD:=aI (reads_own hown);clear hown hb) | (at_builtin;refine wpList_append_row (by rfl) _ _ 35 (by rfl) 5 i0 _ 1 1 Tryz.underlying35 hi hz0 hz1 hz2 rfl (by decide) T.out (by rfl) _ _ (En.int (nl:Int)).length _ (byteVals (En.int (nl:Int))) (by rfl) HRD.out (byteVals_one _) (by unfold maxLen;omega) (by omega) ?_;intro v8 w8 M8 h8 _;rw [<-byteVals_append,<-aK] at h8;replace T:=aI h8;clear h8))
   clear z0 z1 z2 z3 hi hz0 hz1 hz2 HRD k1
   obtain ⟨R5,hR5⟩:=aX (En.int x.2.2.2.length++(x.2.2.2.map Sx.encR).flatten)
   rw [hR5] at HR
   have HR5:=aI hR5
   have hap3:0 < (acc++En.int (nl:Int)).length:=by rw [aK];omega
   clear hR5 hla hpos HAP
   go_loopg [3,8] nl (λr v i wr=>∃(k:Nat) (M:List Nat) (acc:List UInt8),k+r=nl/\i=.int .i64 k/\HRow W0 [] M [] [λM W=>N∉M/\Blk W N 27 #[.int .i64 x.1,.slice A nk c,.slice B nl d,.slice C nr e],λM W=>SlAt M W A (Sc.kinds x),λM W=>SlAt M W B x.2.2.1,λM W=>SlAt M W C x.2.2.2] 5 1 v acc.length (byteVals acc) wr/\0 < acc.length/\acc++(((x.2.2.1.drop k).map Sx.encL).flatten++R5)=E)
   case atStart=>exact ⟨0,_,_,by omega,rfl,T.out,hap3,HR.out⟩
   case round =>
    clear T HR hap3
    obtain ⟨k,M,acc,hk,rfl,hT,hpos,hacc⟩:=hrel
    obtain ⟨wo,rfl⟩:=aY wr
    obtain ⟨gq,rfl⟩:=aY gk
    have T:=aI hT
    clear hT
    obtain ⟨g,cr,rfl⟩:∃g cr,u3=.slice (some ⟨g,0,none⟩) acc.length cr:=by
     rcases T.out.own.2 with ⟨h0,_⟩ | ⟨g,cap,cur,h1,_⟩
     .omega
     .exact ⟨g,cap,h1⟩
    obtain ⟨z0,z1,z2,z3⟩:=aM4 ((T.out.h.fact (.head _)).2)
    have HAP:=aI hpos
    by_cases hlt:k < nl
    .have hkp:k < x.2.2.1.length:=by rw [HNL.out];exact hlt
     have k0:(0:Int)<=(k:Int):=aa _
     have k1:(k:Int) < (nl:Int):=by omega
     have HR:=aI hacc
     rw [List.drop_eq_getElem_cons hkp,List.map_cons,List.flatten_cons,zo] at HR
     have kb:=HOB.out.l _ (ze hkp)
     obtain ⟨b,o,us,rfl,hbM,hr,hc⟩:=SlAt.get (T.out.h.fact (.tail _ (.tail _ (.head _)))) k hkp
     obtain ⟨lf,hlf⟩:=aX (x.2.2.1[k])
     rw [hlf] at HR kb hr
     obtain ⟨As,cs,Bm,cm,rfl,ss,sm,_⟩:=rep_lif hr
     rw [show Mem.sz Lif=3 from rfl] at hc
     have HLB:=aI kb
     have lq1:=kb.nm;have lq2:=kb.n;have lq3:=kb.m
     obtain ⟨ns,hns⟩:=aX lf.2.1.length
     obtain ⟨nm,hnm⟩:=aX lf.2.2.length
     have HNS:=aI hns;have HNM:=aI hnm
     rw [hns] at lq2;rw [hnm] at lq3
     rw [hns,hnm] at hc
     obtain ⟨y0,y1,y2⟩:=aG3 (m:=k*3) hc
     have hla:acc.length+(Sx.encL lf).length<=60000:=by
      have:=zt List.length HR.out
      rw [aK,aK] at this
      omega
     replace T:=aI (((((T.out.add (keeps_sl Bm lf.2.2) sm).add (keeps_sl As lf.2.1) ss).add (P:=λM W=>b∉M/\W.cell? ⟨b,o+k*3+2,none⟩=some (.slice Bm nm cm)) (keeps_cell _ _ _) ⟨hbM,y2⟩).add (P:=λM W=>b∉M/\W.cell? ⟨b,o+k*3+1,none⟩=some (.slice As ns cs)) (keeps_cell _ _ _) ⟨hbM,y1⟩).add (P:=λM W=>b∉M/\W.cell? ⟨b,o+k*3,none⟩=some (.string lf.1)) (keeps_cell _ _ _) ⟨hbM,y0⟩)
     clear hacc hlf hr hc kb ss sm hns hnm
     have T2:=aI (HRow2.reset (e2:=3) (s2:=1) T.out)
     clear T
     go_wp2_with fail
     clear y0 y1 y2 z0 z1 z2 z3
     go_loopg [9,10] nm (λr v9 v10 wr=>∃(j:Nat) (M:List Nat) (l:List Int),j+r=nm/\v10=.int .i64 j/\l=Sx.mvs (lf.2.2.take j)/\HRow2 W0 [] M [] ((λM W=>b∉M/\W.cell? ⟨b,o+k*3,none⟩=some (.string lf.1))::(λM W=>b∉M/\W.cell? ⟨b,o+k*3+1,none⟩=some (.slice As ns cs))::(λM W=>b∉M/\W.cell? ⟨b,o+k*3+2,none⟩=some (.slice Bm nm cm))::(λM W=>SlAt M W As lf.2.1)::(λM W=>SlAt M W Bm lf.2.2)::[λM W=>N∉M/\Blk W N 27 #[.int .i64 x.1,.slice A nk c,.slice (some ⟨b,o,none⟩) nl d,.slice C nr e],λM W=>SlAt M W A (Sc.kinds x),λM W=>SlAt M W (some ⟨b,o,none⟩) x.2.2.1,λM W=>SlAt M W C x.2.2.2]) 5 1 (.slice (some ⟨g,0,none⟩) acc.length cr) acc.length (byteVals acc) 3 1 v9 l.length (intVals l) wr)
     case atStart=>exact ⟨0,_,[],by omega,rfl,rfl,T2.out⟩
     case round =>
      clear T2
      obtain ⟨j,M2,l,hj,rfl,hl,hT⟩:=hrel
      obtain ⟨wi,rfl⟩:=aY wr
      have T2:=aI hT
      clear hT
      have HLL:=aI hl
      have hjl:j<=nm:=by omega
      have hln:l.length=2*j:=by rw [hl,Sx.mvs_len,zI,HNM.out];omega
      have HLN:=aI hln
      clear hl
      obtain ⟨z0,z1,z2,z3⟩:=aM4 ((T2.out.r1.h.fact (.tail _ (.tail _ (.tail _ (.tail _ (.tail _ (.head _))))))).2)
      have y0:=(T2.out.r1.h.fact (.head _)).2;have y1:=(T2.out.r1.h.fact (.tail _ (.head _))).2;have y2:=(T2.out.r1.h.fact (.tail _ (.tail _ (.head _)))).2
      by_cases hlt2:j < nm
      .have hjp:j < lf.2.2.length:=by rw [HNM.out];exact hlt2
       have j0:(0:Int)<=(j:Int):=aa _
       have j1:(j:Int) < (nm:Int):=by omega
       obtain ⟨b3,o3,us,rfl,hb3,hr,hc⟩:=SlAt.get (T2.out.r1.h.fact (.tail _ (.tail _ (.tail _ (.tail _ (.head _)))))) j hjp
       have hms:=HLL.out
       have HMT:=aI (mvs_take lf.2.2 j hjp)
       obtain ⟨mv,hmv⟩:=aX (lf.2.2[j])
       rw [hmv] at hr HMT
       obtain ⟨rfl,i1,i2⟩:=rep_mv hr
       rw [show Mem.sz (Int × Int)=2 from rfl] at hc
       have m0:wi.cell? ⟨b3,o3+j*2,none⟩=some (.int .i64 mv.1):=hc 0 _ rfl
       have m1:wi.cell? ⟨b3,o3+j*2+1,none⟩=some (.int .i64 mv.2):=hc 1 _ rfl
       have hT3:=(T2.out.r1.add (P:=λM W=>b3∉M/\W.cell? ⟨b3,o3+j*2+1,none⟩=some (.int .i64 mv.2)) (keeps_cell _ _ _) ⟨hb3,m1⟩).add (P:=λM W=>b3∉M/\W.cell? ⟨b3,o3+j*2,none⟩=some (.int .i64 mv.1)) (keeps_cell _ _ _) ⟨hb3,m0⟩
       have T3:=aI (HRow2.mk hT3 T2.out.k2 T2.out.o2)
       clear hT3 T2 hmv hr hc hms m0 m1 hln
       obtain ⟨A9,c9,rfl⟩:=zP T3.out.o2
       go_wp2_with fail
       clear y0 y1 y2 z0 z1 z2 z3
       apply zy (C:=λw'=>HRow2 W0 [] M2 [] ((λM W=>b3∉M/\W.cell? ⟨b3,o3+j*2,none⟩=some (.int .i64 mv.1))::(λM W=>b3∉M/\W.cell? ⟨b3,o3+j*2+1,none⟩=some (.int .i64 mv.2))::(λM W=>b∉M/\W.cell? ⟨b,o+k*3,none⟩=some (.string lf.1))::(λM W=>b∉M/\W.cell? ⟨b,o+k*3+1,none⟩=some (.slice As ns cs))::(λM W=>b∉M/\W.cell? ⟨b,o+k*3+2,none⟩=some (.slice (some ⟨b3,o3,none⟩) nm cm))::(λM W=>SlAt M W As lf.2.1)::(λM W=>SlAt M W (some ⟨b3,o3,none⟩) lf.2.2)::[λM W=>N∉M/\Blk W N 27 #[.int .i64 x.1,.slice A nk c,.slice (some ⟨b,o,none⟩) nl d,.slice C nr e],λM W=>SlAt M W A (Sc.kinds x),λM W=>SlAt M W (some ⟨b,o,none⟩) x.2.2.1,λM W=>SlAt M W C x.2.2.2]) 5 1 (.slice (some ⟨g,0,none⟩) acc.length cr) acc.length (byteVals acc) 3 1 (.slice A9 l.length c9) l.length (intVals l) w') (n:=194) (m:=22) (l1:=[_,_,_,_,_,_,_,_,_,_,_,_,_,_,_,_,_,_,_,_,_,_]) (l2:=[_,_]);rfl;rfl;kernel_rfl;rfl;kernel_rfl;exact T3.out.drew;exact λu u' h hb=>(by first | exact h.below hb | exact h.trans (hb.mono h.size))
       iterate 21 ((apply aJ;·(intro w' hC hf;have hbk:=(hC.r1.h.fact (.tail _ (.tail _ (.tail _ (.tail _ (.tail _ (.tail _ (.tail _ (.head _))))))))).2;have z2:=hbk.cell 2;simp at z2;have y2:=(hC.r1.h.fact (.tail _ (.tail _ (.tail _ (.tail _ (.head _)))))).2;have m0:=(hC.r1.h.fact (.head _)).2;have m1:=(hC.r1.h.fact (.tail _ (.head _))).2;clear hbk;clear hf hC;go_wp2_with (fail);apply aO;simp only [zC];exact rfl));(try simp only [zn]))
       apply zF (slBlk_kept 2 3 #[.int .i64 mv.1,.int .i64 mv.2])
       .intro w' hC hf;unfold Gives;clear hf hC;go_wp2_with fail;apply zJ rfl (by go_grown);simp only [zC];exact ⟨_,rfl,zj _ _ _⟩
       intro vsl;(try simp only [zn])
       apply wpT_done
       intro w6 hC hall
       obtain ⟨gb,rfl,hB⟩:=hall.1
       obtain ⟨hi,hz0,hz1,hz2⟩:=HIN.out
       refine wpList_append_row2 (by rfl) _ _ 22 (by rfl) iI _ 8 Tryz.underlying22 hi hz0 hz1 hz2 rfl (by decide) hC.swap (by decide) (by rfl) _ _ 2 2 (intVals [mv.1,mv.2]) (by rfl) (reads_blk hB rfl) (intVals_one [mv.1,mv.2]) (by have:=HLN.out;unfold maxLen;omega) (by have:=HLN.out;omega) ?_
       intro v7 w7 M7 h7 _
       rw [<-intVals_append,show l.length+2=(l++[mv.1,mv.2]).length from by rw [aK];rfl] at h7
       replace T3:=aI h7.swap
       clear h7 hB hC hall hi hz0 hz1 hz2
       go_wp2_with fail
       go_roundg (gk - 1)
       case measure=>omega
       case rel=>exact ⟨j+1,_,l++[mv.1,mv.2],by omega,by go_num,by rw [HMT.out,HLL.out],T3.out.r1.less (λP hP=>.tail _ (.tail _ hP)),T3.out.k2,T3.out.o2⟩
      .have j1:¬(j:Int) < (nm:Int):=by omega
       have hall:l=Sx.mvs lf.2.2:=by rw [HLL.out,List.take_of_length_le (by rw [HNM.out];omega)]
       have hil:∀z∈l,inI z:=by
        intro z hz
        rw [hall] at hz
        obtain ⟨m,hm,hz⟩:=List.mem_flatMap.1 hz
        have:=HLB.out.v m hm
        simp only [zB,zr,zQ] at hz
        unfold inI
        rcases hz with rfl | rfl <;> omega
       obtain ⟨A9,c9,M9,rfl,hT9⟩:=T2.out.freeze2 (l:=l) (by decide) rfl rfl (flat_intsB hil) (λ_ h=>by cases h)
       have T:=aI hT9
       have HLA:=aI hall
       clear T2 hT9 hil hall HLL hln
       have hl1:acc.length+(Sx.encB lf.1).length+(Sx.encS lf.2.1).length<=60000:=by
        unfold Sx.encL at hla;simp only [aK] at hla;omega
       have CB:=aI (λw=>rBytes_any lf.1 w (by omega))
       have CX:=aI (λW (h:SlAt [] W As lf.2.1)=>rStrings_any lf.2.1 As cs W h (by rw [HNS.out];omega) (λs hs=>by have:=HLB.out.s s hs;omega))
       simp only [HNS.out] at CX
       go_upto_region 23 with fail
       have HGL:=aI T.out.gLt
       clear y0 y1 y2 z0 z1 z2 z3
       go_wp2_with fail
       letI:Grow:=earlyGrow g 5 acc.length (byteVals (Sx.encB lf.1))
       apply zx (C:=λw'=>EG g 5 acc.length (byteVals (Sx.encB lf.1)) wi w') (n:=194) (m:=16) (l1:=[_,_,_,_,_,_,_,_,_,_,_,_,_,_,_,_]) (l2:=[_,_]);rfl;rfl;kernel_rfl;rfl;kernel_rfl;exact EG.below ⟨rfl,rfl,rfl,ag _,λ_ _=>rfl⟩;exact λu u' h hb=>h.trans hb
       iterate 7 ((apply aHx;·(intro w' hC hf;have hq:=T.out.h.early T.out.ok rfl hC;have z2:=(hq.fact (.tail _ (.tail _ (.tail _ (.tail _ (.tail _ (.tail _ (.head _)))))))).2.cell 2;have y0:=(hq.fact (.tail _ (.head _))).2;have y1:=(hq.fact (.tail _ (.tail _ (.head _)))).2;simp at z2;clear hq;clear hf hC;go_wp2_with (fail);apply aBx;simp only [zC];exact rfl));(try simp only [zn]))
       apply zb (T:=RowN wi.heap.size 5 1 (Sx.encB lf.1).length (byteVals (Sx.encB lf.1))) (rowN_keptE HGL.out)
       .intro w' hC hf;unfold RG.Gives;have HSZ:=aI (EG.size hC);clear hf hC
        go_wp2_with (go_at_call 51;refine (CB.out w').mono ?_;rintro e w2 ⟨v,rfl,hown,hb⟩;have HO:=aI hown;have HBL:=aI hb;clear hown hb)
        refine zd rfl (EG.below HBL.out) ?_;simp only [RG.valAt,aA];exact RowN.of_owns HO.out (encB_pos _) HSZ.out
       intro v145;(try simp only [zn])
       apply zb (T:=RowE wi.heap.size g 5 1 (acc.length+(Sx.encB lf.1).length) (byteVals acc++byteVals (Sx.encB lf.1))) rowE_bytes
       .intro w' hC hf;unfold RG.Gives;have hro:=hf.1 rfl;clear hf
        have hbo:=RowN.owns hro (by unfold byteVals;rw [zu,zO])
        obtain ⟨g2,cap2,cur2,rfl,_,_,_⟩:=hro
        obtain ⟨cur3,q1,q2,q3,q4,q5⟩:=T.out.rowE HAP.out hC
        refine append_e8 (m:=Sx.encB lf.1) (B0:=wi.heap.size) (by rfl) _ _ (by rfl) (by rfl) q1 q2 q3 q4 q5 (by rfl) (reads_own hbo) (encB_pos _) (EG.size hC) (by omega) ?_
        intro v' w2 k1 k2
        refine zd rfl k2 ?_;simp only [RG.valAt,aA];exact k1
       intro v146;(try simp only [zn])
       iterate 6 ((apply aHx;·(intro w' hC hf;have hq:=T.out.h.early T.out.ok rfl hC;have z2:=(hq.fact (.tail _ (.tail _ (.tail _ (.tail _ (.tail _ (.tail _ (.head _)))))))).2.cell 2;have y0:=(hq.fact (.tail _ (.head _))).2;have y1:=(hq.fact (.tail _ (.tail _ (.head _)))).2;simp at z2;clear hq;clear hf hC;go_wp2_with (fail);apply aBx;simp only [zC];exact rfl));(try simp only [zn]))
       apply zb (T:=RowN wi.heap.size 5 1 (Sx.encS lf.2.1).length (byteVals (Sx.encS lf.2.1))) (rowN_keptE HGL.out)
       .intro w' hC hf;unfold RG.Gives;have HSZ:=aI (EG.size hC);have hsl:SlAt [] w' As lf.2.1:=((T.out.h.early T.out.ok rfl hC).fact (.tail _ (.tail _ (.tail _ (.tail _ (.head _)))))).sub (λg hg=>by cases hg);have HSL:=aI hsl;clear hsl;clear hf hC
        go_wp2_with (go_at_call 53;refine (CX.out w' HSL.out).mono ?_;rintro e w2 ⟨v,rfl,hown,hb⟩;have HO:=aI hown;have HBL:=aI hb;clear hown hb)
        refine zd rfl (EG.below HBL.out) ?_;simp only [RG.valAt,aA];exact RowN.of_owns HO.out (encS_pos _) HSZ.out
       intro v153;(try simp only [zn])
       apply RG.wpT_done
       intro w6 hC hall
       obtain ⟨M6,hT6⟩:=HRow.early T.out rfl hC hall.2.1 (by rw [aK];unfold byteVals;rw [zu,zu,zO])
       have hown2:=RowN.owns hall.1 (by unfold byteVals;rw [zu,zO])
       obtain ⟨Ab,cb,rfl⟩:=zP hown2
       have HR6:=aI (reads_own hown2)
       rw [<-byteVals_append,<-aK] at hT6
       replace T:=aI hT6
       clear hT6 hown2 hall hC HGL
       obtain ⟨hi,hz0,hz1,hz2⟩:=HII.out
       refine wpList_append_row (by rfl) _ _ 35 (by rfl) 5 i0 _ 1 1 Tryz.underlying35 hi hz0 hz1 hz2 rfl (by decide) T.out (by rfl) _ _ (Sx.encS lf.2.1).length _ (byteVals (Sx.encS lf.2.1)) (by rfl) HR6.out (byteVals_one _) (by rw [aK];unfold maxLen;omega) (by rw [aK];omega) ?_
       intro v9 w9 M9 h9 _
       rw [<-byteVals_append,<-aK] at h9
       replace T:=aI h9
       clear h9 HR6 hi hz0 hz1 hz2
       obtain ⟨acc1,hac⟩:=aX ((acc++Sx.encB lf.1)++Sx.encS lf.2.1)
       rw [hac] at T
       obtain ⟨R2,hR2⟩:=aX ((((x.2.2.1.drop (k+1)).map Sx.encL).flatten)++R5)
       have HR2:=aI hR2
       have HA1:=aI (show (acc1++En.ints l)++R2=E by
        rw [<-HR.out,<-hac,<-hR2,HLA.out];unfold Sx.encL;simp only [zo])
       have hla1:acc1.length+(En.ints l).length<=60000:=by
        have:=zt List.length HA1.out
        rw [aK,aK] at this
        omega
       have hap1:0 < acc1.length:=by rw [<-hac,aK,aK];have:=HAP.out;omega
       clear hac hR2 HR hla HAP hpos CB CX hl1
       have hsl:SlAt [] w9 A9 l:=(T.out.h.fact (.head _)).sub (λg hg=>by cases hg)
       have CW:=aI (rInts_any l A9 c9 w9 hsl (by have:=HLN.out;omega))
       clear hsl
       have hi:=HII.out.1;have hz0:=HII.out.2.1;have hz1:=HII.out.2.2.1;have hz2:=HII.out.2.2.2
       go_wp2_with (first | (go_at_call 52;refine CW.out.mono ?_;rintro e w2 ⟨v,rfl,hown,hb⟩;obtain ⟨Ab,cb,rfl⟩:=zP hown;replace T:=aI (T.out.below hb);have HRD:=aI (reads_own hown);clear hown hb) | (at_builtin;refine wpList_append_row (by rfl) _ _ 35 (by rfl) 5 i0 _ 1 1 Tryz.underlying35 hi hz0 hz1 hz2 rfl (by decide) T.out (by rfl) _ _ (En.ints l).length _ (byteVals (En.ints l)) (by rfl) HRD.out (byteVals_one _) (by unfold maxLen;omega) (by omega) ?_;intro v8 w8 M8 h8 _;rw [<-byteVals_append,<-aK] at h8;replace T:=aI h8;clear h8))
       clear hi hz0 hz1 hz2 HRD
       go_wp2_with fail
       go_roundg (gq - 1)
       case measure=>omega
       case rel=>exact ⟨k+1,_,_,by omega,by go_num,T.out.less (λP hP=>.tail _ (.tail _ (.tail _ (.tail _ (.tail _ (.tail _ hP)))))),by rw [aK];omega,by rw [HR2.out];exact HA1.out⟩
    .have k1:¬(k:Int) < (nl:Int):=by omega
     rw [List.drop_eq_nil_of_le (by rw [HNL.out];omega),List.map_nil,List.flatten_nil,zA,<-HR5.out] at hacc
     have hla:acc.length+(En.int (x.2.2.2.length:Int)).length<=60000:=by
      have:=zt List.length hacc
      rw [aK,aK] at this
      omega
     rw [HNR.out] at hla hacc
     rw [<-zo] at hacc
     have HR:=aI hacc
     clear hacc
     have hi:=HII.out.1;have hz0:=HII.out.2.1;have hz1:=HII.out.2.2.1;have hz2:=HII.out.2.2.2
     go_wp2_with (first | (go_at_call 50;refine (CI4.out _).mono ?_;rintro e w2 ⟨v,rfl,hown,hb⟩;obtain ⟨Ab,cb,rfl⟩:=zP hown;replace T:=aI (T.out.below hb);have HRD:=aI (reads_own hown);clear hown hb) | (at_builtin;refine wpList_append_row (by rfl) _ _ 35 (by rfl) 5 i0 _ 1 1 Tryz.underlying35 hi hz0 hz1 hz2 rfl (by decide) T.out (by rfl) _ _ (En.int (nr:Int)).length _ (byteVals (En.int (nr:Int))) (by rfl) HRD.out (byteVals_one _) (by unfold maxLen;omega) (by omega) ?_;intro v8 w8 M8 h8 _;rw [<-byteVals_append,<-aK] at h8;replace T:=aI h8;clear h8))
     clear z0 z1 z2 z3 hi hz0 hz1 hz2 HRD k1
     have hap4:0 < (acc++En.int (nr:Int)).length:=by rw [aK];omega
     clear hla hpos HAP
     go_loopg [3,11] nr (λr v i wr=>∃(k:Nat) (M:List Nat) (acc:List UInt8),k+r=nr/\i=.int .i64 k/\HRow W0 [] M [] [λM W=>N∉M/\Blk W N 27 #[.int .i64 x.1,.slice A nk c,.slice B nl d,.slice C nr e],λM W=>SlAt M W A (Sc.kinds x),λM W=>SlAt M W B x.2.2.1,λM W=>SlAt M W C x.2.2.2] 5 1 v acc.length (byteVals acc) wr/\0 < acc.length/\acc++((x.2.2.2.drop k).map Sx.encR).flatten=E)
     case atStart=>exact ⟨0,_,_,by omega,rfl,T.out,hap4,HR.out⟩
     case round =>
      clear T HR hap4
      obtain ⟨k,M,acc,hk,rfl,hT,hpos,hacc⟩:=hrel
      obtain ⟨wo,rfl⟩:=aY wr
      obtain ⟨gq,rfl⟩:=aY gk
      have T:=aI hT
      clear hT
      obtain ⟨g,cr,rfl⟩:∃g cr,u3=.slice (some ⟨g,0,none⟩) acc.length cr:=by
       rcases T.out.own.2 with ⟨h0,_⟩ | ⟨g,cap,cur,h1,_⟩
       .omega
       .exact ⟨g,cap,h1⟩
      obtain ⟨z0,z1,z2,z3⟩:=aM4 ((T.out.h.fact (.head _)).2)
      have HAP:=aI hpos
      by_cases hlt:k < nr
      .have hkp:k < x.2.2.2.length:=by rw [HNR.out];exact hlt
       have k0:(0:Int)<=(k:Int):=aa _
       have k1:(k:Int) < (nr:Int):=by omega
       have HR:=aI hacc
       rw [List.drop_eq_getElem_cons hkp,List.map_cons,List.flatten_cons] at HR
       have kb:=HOB.out.r _ (ze hkp)
       obtain ⟨b,o,us,rfl,_,hr,hc⟩:=SlAt.get (T.out.h.fact (.tail _ (.tail _ (.tail _ (.head _))))) k hkp
       obtain ⟨ru,hru⟩:=aX (x.2.2.2[k])
       rw [hru] at HR kb hr
       obtain ⟨rfl,_⟩:=rep_rul hr
       rw [show Mem.sz Rul=5 from rfl] at hc
       have lq1:=kb.nm;have lq2:=kb.k;have lq3:=kb.a;have lq4:=kb.b;have lq5:=kb.n
       obtain ⟨y0,y1,y2,y3,y4⟩:=aG5 (m:=k*5) hc
       have hla:acc.length+(Sx.encR ru).length<=60000:=by
        have:=zt List.length HR.out
        rw [aK,aK] at this
        omega
       obtain ⟨Nr,hNr⟩:=aX wo.heap.size
       have hbw:Blk (wo.alloc (.cells #[.string ru.1,.string ru.2.1,.string ru.2.2.1,.string ru.2.2.2.1,.int .i64 ru.2.2.2.2] 60)) Nr 60 #[.string ru.1,.string ru.2.1,.string ru.2.2.1,.string ru.2.2.2.1,.int .i64 ru.2.2.2.2]:=by rw [<-hNr];exact zj wo _ _
       have hbl:Below wo.heap.size wo (wo.alloc (.cells #[.string ru.1,.string ru.2.1,.string ru.2.2.1,.string ru.2.2.2.1,.int .i64 ru.2.2.2.2] 60)):=(zf wo.heap.size wo).alloc (ag _) _
       have hnm:Nr∉M:=λhm=>by have:=T.out.h.mb _ hm;omega
       replace T:=aI ((T.out.below hbl).add (P:=λM W=>Nr∉M/\Blk W Nr 60 #[.string ru.1,.string ru.2.1,.string ru.2.2.1,.string ru.2.2.2.1,.int .i64 ru.2.2.2.2]) (keeps_blk _ _ _) ⟨hnm,hbw⟩)
       clear hacc hru hr hc kb hbw hbl hnm
       have hl1:acc.length+(Sx.encS [ru.1,ru.2.1,ru.2.2.1,ru.2.2.2.1]).length+(En.int ru.2.2.2.2).length<=60000:=by
        unfold Sx.encR at hla;simp only [aK] at hla;omega
       have CB:=aI (λW g (hB:Blk W g 9 #[.string ru.1,.string ru.2.1,.string ru.2.2.1,.string ru.2.2.2.1])=>show Calls Tryz.prog 53 #[.slice (some ⟨g,0,none⟩) 4 4] W _ from rStrings_any [ru.1,ru.2.1,ru.2.2.1,ru.2.2.2.1] (some ⟨g,0,none⟩) 4 W (SlAt.of_blk (xs:=[.string ru.1,.string ru.2.1,.string ru.2.2.1,.string ru.2.2.2.1]) ⟨[_],_,rfl,⟨rfl,by omega⟩,[_],_,rfl,⟨rfl,by omega⟩,[_],_,rfl,⟨rfl,by omega⟩,[_],[],rfl,⟨rfl,by omega⟩,rfl⟩ hB (by simp)) (by simp) (by intro s hs;simp only [zB,zr,zQ] at hs;rcases hs with rfl | rfl | rfl | rfl <;> omega))
       have CX:=aI (λw=>rInt_any ru.2.2.2.2 w (by unfold inI;omega))
       go_upto_region 30 with fail
       generalize wo.alloc (.cells #[.string ru.1,.string ru.2.1,.string ru.2.2.1,.string ru.2.2.2.1,.int .i64 ru.2.2.2.2] 60)=w5 at *
       clear hNr y0 y1 y2 y3 y4 z0 z1 z2 z3
       have HGL:=aI T.out.gLt
       go_wp2_with fail
       letI:Grow:=earlyGrow g 5 acc.length (byteVals (Sx.encS [ru.1,ru.2.1,ru.2.2.1,ru.2.2.2.1]))
       apply zx (C:=λw'=>EG g 5 acc.length (byteVals (Sx.encS [ru.1,ru.2.1,ru.2.2.1,ru.2.2.2.1])) w5 w') (n:=194) (m:=15) (l1:=[_,_,_,_,_,_,_,_,_,_,_,_,_,_,_]) (l2:=[_,_]);rfl;rfl;kernel_rfl;rfl;kernel_rfl;exact EG.below ⟨rfl,rfl,rfl,ag _,λ_ _=>rfl⟩;exact λu u' h hb=>h.trans hb
       iterate 9 ((apply aHx;·(intro w' hC hf;obtain ⟨c0,c1,c2,c3,c4⟩:=aM5 (((T.out.h.early T.out.ok rfl hC).fact (.head _)).2);clear hf hC;go_wp2_with (fail);apply aBx;simp only [zC];exact rfl));(try simp only [zn]))
       apply zb (T:=λv w=>∃N,v=.slice (some ⟨N,0,none⟩) 4 4/\w5.heap.size<=N/\Blk w N 9 #[.string ru.1,.string ru.2.1,.string ru.2.2.1,.string ru.2.2.2.1]) (blkN_kept HGL.out)
       .intro w' hC hf;unfold RG.Gives;have hs:=aI (EG.size hC);clear hf hC
        go_wp2_with fail
        refine zd rfl (EG.below (by go_grown)) ?_;simp only [zC];exact ⟨_,rfl,hs.out,zj _ _ _⟩
       intro v186;(try simp only [zn])
       apply zb (T:=RowN w5.heap.size 5 1 (Sx.encS [ru.1,ru.2.1,ru.2.2.1,ru.2.2.2.1]).length (byteVals (Sx.encS [ru.1,ru.2.1,ru.2.2.1,ru.2.2.2.1]))) (rowN_keptE HGL.out)
       .intro w' hC hf;unfold RG.Gives;have HSZ:=aI (EG.size hC);obtain ⟨N2,rfl,_,hB⟩:=hf.1 rfl;have HBk:=aI hB;clear hB;clear hf hC
        go_wp2_with (go_at_call 53;refine (CB.out _ _ HBk.out).mono ?_;rintro e w2 ⟨v,rfl,hown,hb⟩;have HO:=aI hown;have HBL:=aI hb;clear hown hb)
        refine zd rfl (EG.below HBL.out) ?_;simp only [RG.valAt,aA];exact RowN.of_owns HO.out (encS_pos _) HSZ.out
       intro v187;(try simp only [zn])
       apply zb (T:=RowE w5.heap.size g 5 1 (acc.length+(Sx.encS [ru.1,ru.2.1,ru.2.2.1,ru.2.2.2.1]).length) (byteVals acc++byteVals (Sx.encS [ru.1,ru.2.1,ru.2.2.1,ru.2.2.2.1]))) rowE_bytes
       .intro w' hC hf;unfold RG.Gives;have hro:=hf.1 rfl;clear hf
        have hbo:=RowN.owns hro (by unfold byteVals;rw [zu,zO])
        obtain ⟨g2,cap2,cur2,rfl,_,_,_⟩:=hro
        obtain ⟨cur3,q1,q2,q3,q4,q5⟩:=T.out.rowE HAP.out hC
        refine append_e8 (m:=Sx.encS [ru.1,ru.2.1,ru.2.2.1,ru.2.2.2.1]) (B0:=w5.heap.size) (by rfl) _ _ (by rfl) (by rfl) q1 q2 q3 q4 q5 (by rfl) (reads_own hbo) (encS_pos _) (EG.size hC) (by omega) ?_
        intro v' w2 k1 k2
        refine zd rfl k2 ?_;simp only [RG.valAt,aA];exact k1
       intro v188;(try simp only [zn])
       iterate 2 ((apply aHx;·(intro w' hC hf;obtain ⟨c0,c1,c2,c3,c4⟩:=aM5 (((T.out.h.early T.out.ok rfl hC).fact (.head _)).2);clear hf hC;go_wp2_with (fail);apply aBx;simp only [zC];exact rfl));(try simp only [zn]))
       apply zb (T:=RowN w5.heap.size 5 1 (En.int ru.2.2.2.2).length (byteVals (En.int ru.2.2.2.2))) (rowN_keptE HGL.out)
       .intro w' hC hf;unfold RG.Gives;have HSZ:=aI (EG.size hC);clear hf hC
        go_wp2_with (go_at_call 50;refine (CX.out w').mono ?_;rintro e w2 ⟨v,rfl,hown,hb⟩;have HO:=aI hown;have HBL:=aI hb;clear hown hb)
        refine zd rfl (EG.below HBL.out) ?_;simp only [RG.valAt,aA];exact RowN.of_owns HO.out (encI_pos _) HSZ.out
       intro v191;(try simp only [zn])
       apply RG.wpT_done
       intro w6 hC hall
       obtain ⟨M6,hT6⟩:=HRow.early T.out rfl hC hall.2.1 (by rw [aK];unfold byteVals;rw [zu,zu,zO])
       have hown2:=RowN.owns hall.1 (by unfold byteVals;rw [zu,zO])
       obtain ⟨Ab,cb,rfl⟩:=zP hown2
       have HR6:=aI (reads_own hown2)
       rw [<-byteVals_append,<-aK] at hT6
       replace T:=aI hT6
       clear hT6 hown2 hall hC HGL
       obtain ⟨hi,hz0,hz1,hz2⟩:=HII.out
       refine wpList_append_row (by rfl) _ _ 35 (by rfl) 5 i0 _ 1 1 Tryz.underlying35 hi hz0 hz1 hz2 rfl (by decide) T.out (by rfl) _ _ (En.int ru.2.2.2.2).length _ (byteVals (En.int ru.2.2.2.2)) (by rfl) HR6.out (byteVals_one _) (by rw [aK];unfold maxLen;omega) (by rw [aK];omega) ?_
       intro v9 w9 M9 h9 _
       rw [<-byteVals_append,<-aK] at h9
       replace T:=aI h9
       clear h9 HR6 hi hz0 hz1 hz2
       have HA1:=aI (show ((acc++Sx.encS [ru.1,ru.2.1,ru.2.2.1,ru.2.2.2.1])++En.int ru.2.2.2.2)++((x.2.2.2.drop (k+1)).map Sx.encR).flatten=E by
        rw [<-HR.out];unfold Sx.encR;simp only [zo])
       go_wp2_with fail
       go_roundg (gq - 1)
       case measure=>omega
       case rel=>exact ⟨k+1,_,_,by omega,by go_num,T.out.less (λP hP=>.tail _ hP),by rw [aK,aK];omega,HA1.out⟩
      .have k1:¬(k:Int) < (nr:Int):=by omega
       rw [List.drop_eq_nil_of_le (by rw [HNR.out];omega),List.map_nil,List.flatten_nil,zK] at hacc
       have HAE:=aI hacc
       clear hacc
       go_wp2_with fail
       go_ret
       rw [<-HAE.out]
       exact ⟨_,rfl,owns_mono T.out.own HB.out.size,HB.out.trans (T.out.h.bl.mono HB.out.size)⟩
end Go.Proofs.YtobcnhmhgoccnaaGreatDoor
