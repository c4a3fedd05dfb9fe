/- Parts of the proof, joined: SxN5, SxN6, SxLaw9, SxB4, SxMet. -/
import Derived.Test.YtmplaikgbeeikaaGreatDoorS17
import Derived.Test.YtmplaikgbeeikaaGreatDoorCards
import Derived.Test.YtmplaikgbeeikaaGreatDoorTie
import Derived.Lib.SmallJoins
import Derived.LaidMore
import Derived.Lay
import Derived.Stop.LaidErr
import Derived.Deep.DeepWitnessRowRef
set_option maxRecDepth 100000
set_option maxHeartbeats 16000000
set_option linter.unusedVariables false
set_option linter.unusedSimpArgs false
set_option linter.unusedSectionVars false
namespace Go.Proofs.YtmplaikgbeeikaaGreatDoor
open Go Go.RowKit
section
theorem infoIN:(Tryz.prog.info? 3).map (fun i=>(i.zero,i.size,i.bytes))=some (some (.int .i64 0),1,8):=by kernel_rfl
theorem rowN_bk {B0:Nat} {te:TypeId} {size n:Nat} {xs:List Value}:Kept (RowN B0 te size n xs):=by
 rintro v w w' ⟨g',cap,cur,h1,h2,h3,h4⟩ hr
 exact ⟨g',cap,cur,h1,h2,(hr.block g' h3.lt).trans h3,h4⟩
theorem encI_pos (n:Int):0 < (En.int n).length:=by rw [En.int_length];omega
theorem encIs_pos (l:List Int):0 < (En.ints l).length:=by unfold En.ints;rw [aK];have:=encI_pos (l.length:Int);omega
theorem encB_pos (s:ByteArray):0 < (Sx.encB s).length:=by unfold Sx.encB;rw [aK];have:=encI_pos (s.size:Int);omega
theorem encS_pos (l:List ByteArray):0 < (Sx.encS l).length:=by unfold Sx.encS;rw [aK];have:=encI_pos (l.length:Int);omega
theorem encode_any (x:Sch) (us:List Value) (w:World) (h:Mem.rep [] w x us) (OB:Sx.OB x):Calls Tryz.prog 49 #[.agg us.toArray] w (BytesP (Sx.enc x) w):=by
 obtain ⟨A,c,B,d,C,e,rfl,s1,s2,s3,a1,b1,b2,b3,b4,b5,b6⟩:=rep_sch h
 have HOB:=aI OB
 have hx0:=OB.v
 have hnk:=OB.nk;have hnl:=OB.nl;have hnr:=OB.nr
 obtain ⟨E,hE⟩:=aX (Sx.enc x)
 have hEl:E.length<=40000:=by rw [<-hE];exact Sx.enc_le OB
 obtain ⟨R1,hR1⟩:=aX (En.int x.2.2.1.length++((x.2.2.1.map Sx.encL).flatten++(En.int x.2.2.2.length++(x.2.2.2.map Sx.encR).flatten)))
 have HEQ:=aI (show (En.int x.1++En.int (Sc.kinds x).length)++(((Sc.kinds x).map Sx.encK).flatten++R1)=E by
  rw [<-hE,<-hR1];unfold Sx.enc;simp only [List.append_assoc])
 have HR1:=aI hR1
 obtain ⟨i0,hi,hz0,hz1,hz2⟩:=info_parts infoU8
 have HII:=aI (show _/\_/\_/\_ from ⟨hi,hz0,hz1,hz2⟩)
 clear hi hz0 hz1 hz2
 obtain ⟨iI,hi,hz0,hz1,hz2⟩:=info_parts infoIN
 have HIN:=aI (show _/\_/\_/\_ from ⟨hi,hz0,hz1,hz2⟩)
 obtain ⟨nk,hk⟩:=aX ((Sc.kinds x).length)
 obtain ⟨nl,hl⟩:=aX x.2.2.1.length
 obtain ⟨nr,hr⟩:=aX x.2.2.2.length
 have HNK:=aI hk;have HNL:=aI hl;have HNR:=aI hr
 rw [hk] at hnk HEQ;rw [hl] at hnl;rw [hr] at hnr
 obtain ⟨N,hN⟩:=aX w.heap.size
 obtain ⟨W0,hW0⟩:=aX (w.alloc (.cells #[.int .i64 x.1,.slice A nk c,.slice B nl d,.slice C nr e] 28))
 have hb0:Below w.heap.size w W0:=by rw [<-hW0];exact aP _ _
 have hbk:Blk W0 N 28 #[.int .i64 x.1,.slice A nk c,.slice B nl d,.slice C nr e]:=by rw [<-hW0,<-hN];exact Blk.new w _ _
 have T:=aI (show Held W0 [] [] [] [fun M W=>N∉M/\Blk W N 28 #[.int .i64 x.1,.slice A nk c,.slice B nl d,.slice C nr e],fun M W=>SlAt M W A (Sc.kinds x),fun M W=>SlAt M W B x.2.2.1,fun M W=>SlAt M W C x.2.2.2] W0 from ((((held0 W0 [] (fun _ h=>by cases h)).add (keeps_sl C x.2.2.2) (s3.keep (Chg.of_below hb0))).add (keeps_sl B x.2.2.1) (s2.keep (Chg.of_below hb0))).add (keeps_sl A (Sc.kinds x)) (s1.keep (Chg.of_below hb0))).add (P:=fun M W=>N∉M/\Blk W N 28 #[.int .i64 x.1,.slice A nk c,.slice B nl d,.slice C nr e]) (keeps_blk _ _ _) ⟨by simp,hbk⟩)
 have HB:=aI hb0
 have HW0:=aI hW0
 have HN:=aI hN
 show Calls Tryz.prog 49 #[.agg #[.int .i64 x.1,.slice A (Sc.kinds x).length c,.slice B x.2.2.1.length d,.slice C x.2.2.2.length e]] w _
 rw [hk,hl,hr,hE]
 clear h s1 s2 s3 a1 b1 b2 b3 b4 b5 b6 hk hl hr hbk hb0 hW0 hN OB hE hR1 hi hz0 hz1 hz2
 have CI1:=aI (fun w=>rInt_any x.1 w (by unfold inI;omega))
 have CI2:=aI (fun w=>rInt_any (nk:Int) w (by unfold inI;omega))
 have CI3:=aI (fun w=>rInt_any (nl:Int) w (by unfold inI;omega))
 have CI4:=aI (fun w=>rInt_any (nr:Int) w (by unfold inI;omega))
 go_enter Tryz.func49,Tryz.ntmps49
 go_upto_region 1 with fail
 rw [HW0.out,HN.out]
 apply wp_region_typed (C:=fun w'=>Below W0.heap.size W0 w') (n:=194) (m:=7) (l1:=[_,_,_,_,_,_,_]) (l2:=[_,_])
 ·rfl
 ·rfl
 ·kernel_rfl
 ·rfl
 ·kernel_rfl
 ·exact ⟨rfl,rfl,rfl,ag _,fun _ _=>rfl⟩
 ·exact fun u u' h hb=>(by first | exact h.below hb | exact h.trans (hb.mono h.size))
 iterate 2 ((apply wpT_exact;· (intro w' hC hf;unfold Gives;obtain ⟨z0,z1,z2,z3⟩:=aM4 (((T.out.below hC).fact (.head _)).2);clear hf hC;go_wp2_with (fail);apply postT_val rfl (Below.refl _ _);simp only [valAt,aV];exact rfl));(try simp only [Act.put,aZ]))
 apply wpT_typed (T:=RowN W0.heap.size 5 1 (En.int x.1).length (byteVals (En.int x.1))) rowN_bk
 ·intro w' hC hf;unfold Gives;have HSZ:=aI hC.size;clear hf hC
  go_wp2_with (go_at_call 99;refine (CI1.out w').mono ?_;rintro e w2 ⟨v,rfl,hown,hb⟩;have HO:=aI hown;have HBL:=aI hb;clear hown hb)
  refine postT_mk rfl HBL.out ?_;simp only [valAt,aA];exact RowN.of_owns HO.out (encI_pos _) HSZ.out
 intro v15;(try simp only [Act.put,aZ])
 iterate 3 ((apply wpT_exact;· (intro w' hC hf;unfold Gives;obtain ⟨z0,z1,z2,z3⟩:=aM4 (((T.out.below hC).fact (.head _)).2);clear hf hC;go_wp2_with (fail);apply postT_val rfl (Below.refl _ _);simp only [valAt,aV];exact rfl));(try simp only [Act.put,aZ]))
 apply wpT_typed (T:=RowN W0.heap.size 5 1 (En.int nk).length (byteVals (En.int nk))) rowN_bk
 ·intro w' hC hf;unfold Gives;have HSZ:=aI hC.size;clear hf hC
  go_wp2_with (go_at_call 99;refine (CI2.out w').mono ?_;rintro e w2 ⟨v,rfl,hown,hb⟩;have HO:=aI hown;have HBL:=aI hb;clear hown hb)
  refine postT_mk rfl HBL.out ?_;simp only [valAt,aA];exact RowN.of_owns HO.out (encI_pos _) HSZ.out
 intro v19;(try simp only [Act.put,aZ])
 apply wpT_done
 intro w4 hC hall
 have hown:=RowN.owns hall.2.1 (by unfold byteVals;rw [List.length_map,Nat.mul_one])
 have hown2:=RowN.owns hall.1 (by unfold byteVals;rw [List.length_map,Nat.mul_one])
 obtain ⟨M1,hT,_⟩:=T.out.take hC hown
 obtain ⟨Ab,cb,rfl⟩:=own_form hown2
 have HR:=aI (reads_own hown2)
 have TB:=T
 replace T:=aI hT
 clear hT hown hown2 hall hC
 have hA1:=En.int_le x.1
 have hA2:=En.int_le (nk:Int)
 obtain ⟨hi,hz0,hz1,hz2⟩:=HII.out
 refine wpList_append_row (by rfl) _ _ 73 (by rfl) 5 i0 _ 1 1 Tryz.underlying73 hi hz0 hz1 hz2 rfl (by decide) T.out (by rfl) _ _ (En.int (nk:Int)).length _ (byteVals (En.int (nk:Int))) (by rfl) HR.out (byteVals_one _) (by unfold maxLen;omega) (by omega) ?_
 intro v5 w5 M5 h5 _
 rw [<-byteVals_append,<-aK] at h5
 replace T:=aI h5
 clear h5 HR hA1 hA2 hi hz0 hz1 hz2
 go_wp2_with fail
 go_loopg [3,4] nk (fun r v i wr=>∃ (k:Nat) (M:List Nat) (acc:List UInt8),k+r=nk/\i=.int .i64 k/\HRow W0 [] M [] [fun M W=>N∉M/\Blk W N 28 #[.int .i64 x.1,.slice A nk c,.slice B nl d,.slice C nr e],fun M W=>SlAt M W A (Sc.kinds x),fun M W=>SlAt M W B x.2.2.1,fun M W=>SlAt M W C x.2.2.2] 5 1 v acc.length (byteVals acc) wr/\0 < acc.length/\acc++((((Sc.kinds x).drop k).map Sx.encK).flatten++R1)=E)
 case atStart=>exact ⟨0,_,_,by omega,rfl,T.out,by rw [aK];have:=encI_pos x.1;omega,HEQ.out⟩
 case round =>
  clear T HEQ
  obtain ⟨k,M,acc,hk,rfl,hT,hpos,hacc⟩:=hrel
  obtain ⟨wo,rfl⟩:=aY wr
  obtain ⟨gq,rfl⟩:=aY gk
  have T:=aI hT
  clear hT
  obtain ⟨g,cr,rfl⟩:∃ g cr,u3=.slice (some ⟨g,0,none⟩) acc.length cr:=by
   rcases T.out.own.2 with ⟨h0,_⟩ | ⟨g,cap,cur,h1,_⟩
   ·omega
   ·exact ⟨g,cap,h1⟩
  obtain ⟨z0,z1,z2,z3⟩:=aM4 ((T.out.h.fact (.head _)).2)
  have HAP:=aI hpos
  by_cases hlt:k < nk
  ·have hkp:k < (Sc.kinds x).length:=by rw [HNK.out];exact hlt
   have k0:(0:Int)<=(k:Int):=aa _
   have k1:(k:Int) < (nk:Int):=by omega
   have HR:=aI hacc
   rw [List.drop_eq_getElem_cons hkp,List.map_cons,List.flatten_cons,List.append_assoc] at HR
   have kb:=HOB.out.k _ (List.getElem_mem hkp)
   obtain ⟨b,o,F,cf,rfl,_,c0,c1,c2,c3,hsl,_⟩:=knd_at (T.out.h.fact (.tail _ (.head _))) k hkp
   obtain ⟨kd,hkd⟩:=aX ((Sc.kinds x)[k])
   rw [hkd] at c0 c1 c2 c3 hsl HR kb
   have HKB:=aI kb
   have hq1:=kb.nm;have hq2:=kb.lo;have hq3:=kb.hi
   obtain ⟨nf,hnf⟩:=aX ((Sc.flds kd).length)
   have HNF:=aI hnf
   have hq4:=kb.n
   rw [hnf] at c3 hq4
   have hla:acc.length+(Sx.encK kd).length<=40000:=by
    have:=congrArg List.length HR.out
    rw [aK,aK] at this
    omega
   obtain ⟨Nk,hNk⟩:=aX wo.heap.size
   have hbw:Blk (wo.alloc (.cells #[.string kd.1,.int .i64 kd.2.1,.int .i64 kd.2.2.1,.slice F nf cf] 49)) Nk 49 #[.string kd.1,.int .i64 kd.2.1,.int .i64 kd.2.2.1,.slice F nf cf]:=by rw [<-hNk];exact Blk.new wo _ _
   have hbl:Below wo.heap.size wo (wo.alloc (.cells #[.string kd.1,.int .i64 kd.2.1,.int .i64 kd.2.2.1,.slice F nf cf] 49)):=(Below.refl wo.heap.size wo).alloc (ag _) _
   have hnm:Nk∉M:=fun hm=>by have:=T.out.h.mb _ hm;omega
   replace T:=aI (((T.out.below hbl).add (keeps_sl F (Sc.flds kd)) (hsl.keep (Chg.of_below hbl))).add (P:=fun M W=>Nk∉M/\Blk W Nk 49 #[.string kd.1,.int .i64 kd.2.1,.int .i64 kd.2.2.1,.slice F nf cf]) (keeps_blk _ _ _) ⟨hnm,hbw⟩)
   clear hnf hacc hkd kb hsl hbw hbl hnm
   have hlb:acc.length+(Sx.encB kd.1).length+(En.ints [kd.2.1,kd.2.2.1]).length<=40000:=by
    unfold Sx.encK at hla;simp only [aK] at hla;omega
   have CB:=aI (fun w=>rBytes_any kd.1 w (by omega))
   have CX:=aI (fun W g (hB:Blk W g 3 #[.int .i64 kd.2.1,.int .i64 kd.2.2.1])=>show Calls Tryz.prog 101 #[.slice (some ⟨g,0,none⟩) 2 2] W _ from rInts_any [kd.2.1,kd.2.2.1] (some ⟨g,0,none⟩) 2 W (SlAt.of_blk (xs:=[.int .i64 kd.2.1,.int .i64 kd.2.2.1]) ⟨[_],_,rfl,⟨rfl,by unfold inI;omega⟩,[_],[],rfl,⟨rfl,by unfold inI;omega⟩,rfl⟩ hB (by simp)) (by simp))
   go_upto_region 6 with fail
   generalize wo.alloc (.cells #[.string kd.1,.int .i64 kd.2.1,.int .i64 kd.2.2.1,.slice F nf cf] 49)=w5 at *
   clear hNk c0 c1 c2 c3 z0 z1 z2 z3
   have HGL:=aI T.out.gLt
   go_wp2_with fail
   letI:Grow:=earlyGrow g 5 acc.length (byteVals (Sx.encB kd.1))
   apply RG.wp_region_typed (C:=fun w'=>EG g 5 acc.length (byteVals (Sx.encB kd.1)) w5 w') (n:=194) (m:=11) (l1:=[_,_,_,_,_,_,_,_,_,_,_]) (l2:=[_,_])
   ·rfl
   ·rfl
   ·kernel_rfl
   ·rfl
   ·kernel_rfl
   ·exact EG.below ⟨rfl,rfl,rfl,ag _,fun _ _=>rfl⟩
   ·exact fun u u' h hb=>h.trans hb
   iterate 3 ((apply RG.wpT_exact;· (intro w' hC hf;unfold RG.Gives;obtain ⟨c0,c1,c2,c3⟩:=aM4 (((T.out.h.early T.out.ok rfl hC).fact (.head _)).2);clear hf hC;go_wp2_with (fail);apply RG.postT_val rfl (Grow.refl _);simp only [RG.valAt,aV];exact rfl));(try simp only [Act.put,aZ]))
   apply RG.wpT_typed (T:=RowN w5.heap.size 5 1 (Sx.encB kd.1).length (byteVals (Sx.encB kd.1))) (rowN_keptE HGL.out)
   ·intro w' hC hf;unfold RG.Gives;have HSZ:=aI (EG.size hC);clear hf hC
    go_wp2_with (go_at_call 100;refine (CB.out w').mono ?_;rintro e w2 ⟨v,rfl,hown,hb⟩;have HO:=aI hown;have HBL:=aI hb;clear hown hb)
    refine RG.postT_mk rfl (EG.below HBL.out) ?_;simp only [RG.valAt,aA];exact RowN.of_owns HO.out (encB_pos _) HSZ.out
   intro v36;(try simp only [Act.put,aZ])
   apply RG.wpT_typed (T:=RowE w5.heap.size g 5 1 (acc.length+(Sx.encB kd.1).length) (byteVals acc++byteVals (Sx.encB kd.1))) (rowE_kept (fun j u h1 h2=>by rw [List.getElem?_append_right (by unfold byteVals;rw [List.length_map];exact h1)] at h2;unfold byteVals at h2 ⊢;rw [List.length_map] at h2;exact h2))
   ·intro w' hC hf;unfold RG.Gives;have hro:=hf.1 rfl;clear hf
    have hbo:=RowN.owns hro (by unfold byteVals;rw [List.length_map,Nat.mul_one])
    obtain ⟨g2,cap2,cur2,rfl,_,_,_⟩:=hro
    obtain ⟨cur3,q1,q2,q3,q4,q5⟩:=T.out.rowE HAP.out hC
    obtain ⟨hi,hz0,hz1,hz2⟩:=HII.out
    refine wpList_append_early (g:=g) (te:=5) (n8:=acc.length) (us:=byteVals (Sx.encB kd.1)) (B0:=w5.heap.size) (cap:=cr) (n:=acc.length) (cur:=cur3) (xs:=byteVals acc) (by rfl) _ _ 73 (by rfl) i0 _ 1 1 Tryz.underlying73 hi hz0 hz1 hz2 rfl (by decide) (by rfl) q1 q2 q3 q4 q5 (by unfold byteVals;rw [List.length_map,Nat.mul_one]) (by rfl) (reads_own hbo) (encB_pos _) (byteVals_one _) (by rw [Nat.mul_one]) (EG.size hC) (by unfold maxLen;omega) (by omega) ?_
    intro v' w2 k1 k2
    refine RG.postT_mk rfl k2 ?_;simp only [RG.valAt,aA];exact k1
   intro v37;(try simp only [Act.put,aZ])
   iterate 4 ((apply RG.wpT_exact;· (intro w' hC hf;unfold RG.Gives;obtain ⟨c0,c1,c2,c3⟩:=aM4 (((T.out.h.early T.out.ok rfl hC).fact (.head _)).2);clear hf hC;go_wp2_with (fail);apply RG.postT_val rfl (Grow.refl _);simp only [RG.valAt,aV];exact rfl));(try simp only [Act.put,aZ]))
   apply RG.wpT_typed (T:=fun v w=>∃ N,v=.slice (some ⟨N,0,none⟩) 2 2/\w5.heap.size<=N/\Blk w N 3 #[.int .i64 kd.2.1,.int .i64 kd.2.2.1]) (blkN_kept HGL.out)
   ·intro w' hC hf;unfold RG.Gives;have hs:=aI (EG.size hC);clear hf hC
    go_wp2_with fail
    refine RG.postT_mk rfl (EG.below (by go_grown)) ?_;simp only [RG.valAt,aV];exact ⟨_,rfl,hs.out,Blk.new _ _ _⟩
   intro v42;(try simp only [Act.put,aZ])
   apply RG.wpT_typed (T:=RowN w5.heap.size 5 1 (En.ints [kd.2.1,kd.2.2.1]).length (byteVals (En.ints [kd.2.1,kd.2.2.1]))) (rowN_keptE HGL.out)
   ·intro w' hC hf;unfold RG.Gives;have HSZ:=aI (EG.size hC);obtain ⟨N2,rfl,_,hB⟩:=hf.1 rfl;have HBk:=aI hB;clear hB;clear hf hC
    go_wp2_with (go_at_call 101;refine (CX.out _ _ HBk.out).mono ?_;rintro e w2 ⟨v,rfl,hown,hb⟩;have HO:=aI hown;have HBL:=aI hb;clear hown hb)
    refine RG.postT_mk rfl (EG.below HBL.out) ?_;simp only [RG.valAt,aA];exact RowN.of_owns HO.out (encIs_pos _) HSZ.out
   intro v43;(try simp only [Act.put,aZ])
   apply RG.wpT_done
   intro w6 hC hall
   obtain ⟨M6,hT6⟩:=HRow.early T.out rfl hC hall.2.2.1 (by rw [aK];unfold byteVals;rw [List.length_map,List.length_map,Nat.mul_one])
   have hown2:=RowN.owns hall.1 (by unfold byteVals;rw [List.length_map,Nat.mul_one])
   obtain ⟨Ab,cb,rfl⟩:=own_form hown2
   have HR6:=aI (reads_own hown2)
   rw [<-byteVals_append,<-aK] at hT6
   replace T:=aI hT6
   clear hT6 hown2 hall hC HGL
   obtain ⟨hi,hz0,hz1,hz2⟩:=HII.out
   refine wpList_append_row (by rfl) _ _ 73 (by rfl) 5 i0 _ 1 1 Tryz.underlying73 hi hz0 hz1 hz2 rfl (by decide) T.out (by rfl) _ _ (En.ints [kd.2.1,kd.2.2.1]).length _ (byteVals (En.ints [kd.2.1,kd.2.2.1])) (by rfl) HR6.out (byteVals_one _) (by rw [aK];unfold maxLen;omega) (by rw [aK];omega) ?_
   intro v9 w9 M9 h9 _
   rw [<-byteVals_append,<-aK] at h9
   replace T:=aI h9
   clear h9 HR6 hi hz0 hz1 hz2
   clear CB CX hlb
   obtain ⟨acc1,hac⟩:=aX ((acc++Sx.encB kd.1)++En.ints [kd.2.1,kd.2.2.1])
   rw [hac] at T
   obtain ⟨R2,hR2⟩:=aX ((((Sc.kinds x).drop (k+1)).map Sx.encK).flatten++R1)
   have HR2:=aI hR2
   have HA1:=aI (show (acc1++En.int (nf:Int))++((((Sc.flds kd).map Sx.encF).flatten)++R2)=E by
    rw [<-HR.out,<-hac,<-hR2];unfold Sx.encK;rw [HNF.out];simp only [List.append_assoc])
   have hla1:acc1.length+(En.int (nf:Int)).length<=40000:=by
    have:=congrArg List.length HA1.out
    rw [aK,aK] at this
    omega
   have hap1:0 < acc1.length:=by rw [<-hac,aK,aK];omega
   clear hac hR2 HR hla HAP hpos
   have CI5:=aI (fun w=>rInt_any (nf:Int) w (by unfold inI;omega))
   obtain ⟨c0,c1,c2,c3⟩:=aM4 ((T.out.h.fact (.head _)).2)
   have hi:=HII.out.1;have hz0:=HII.out.2.1;have hz1:=HII.out.2.2.1;have hz2:=HII.out.2.2.2
   go_wp2_with (first | (go_at_call 99;refine (CI5.out _).mono ?_;rintro e w2 ⟨v,rfl,hown,hb⟩;obtain ⟨Ab,cb,rfl⟩:=own_form hown;replace T:=aI (T.out.below hb);have HRD:=aI (reads_own hown);clear hown hb) | (at_builtin;refine wpList_append_row (by rfl) _ _ 73 (by rfl) 5 i0 _ 1 1 Tryz.underlying73 hi hz0 hz1 hz2 rfl (by decide) T.out (by rfl) _ _ (En.int (nf:Int)).length _ (byteVals (En.int (nf:Int))) (by rfl) HRD.out (byteVals_one _) (by unfold maxLen;omega) (by omega) ?_;intro v8 w8 M8 h8 _;rw [<-byteVals_append,<-aK] at h8;replace T:=aI h8;clear h8))
   clear c0 c1 c2 c3 hi hz0 hz1 hz2 HRD
   go_loopg [3,6] nf (fun r v i wr=>∃ (j:Nat) (M:List Nat) (acc:List UInt8),j+r=nf/\i=.int .i64 j/\HRow W0 [] M [] ((fun M W=>Nk∉M/\Blk W Nk 49 #[.string kd.1,.int .i64 kd.2.1,.int .i64 kd.2.2.1,.slice F nf cf])::(fun M W=>SlAt M W F (Sc.flds kd))::[fun M W=>N∉M/\Blk W N 28 #[.int .i64 x.1,.slice (some ⟨b,o,none⟩) nk c,.slice B nl d,.slice C nr e],fun M W=>SlAt M W (some ⟨b,o,none⟩) (Sc.kinds x),fun M W=>SlAt M W B x.2.2.1,fun M W=>SlAt M W C x.2.2.2]) 5 1 v acc.length (byteVals acc) wr/\0 < acc.length/\acc++((((Sc.flds kd).drop j).map Sx.encF).flatten++R2)=E)
   case atStart=>exact ⟨0,_,_,by omega,rfl,T.out,by rw [aK];omega,HA1.out⟩
   case round =>
    clear T HA1 hla1 hap1 CI5
    obtain ⟨j,M,acc,hj,rfl,hT,hpos,hacc⟩:=hrel
    obtain ⟨wi,rfl⟩:=aY wr
    have T:=aI hT
    clear hT
    obtain ⟨g,cr,rfl⟩:∃ g cr,u3=.slice (some ⟨g,0,none⟩) acc.length cr:=by
     rcases T.out.own.2 with ⟨h0,_⟩ | ⟨g,cap,cur,h1,_⟩
     ·omega
     ·exact ⟨g,cap,h1⟩
    have HAP:=aI hpos
    obtain ⟨c0,c1,c2,c3⟩:=aM4 ((T.out.h.fact (.head _)).2)
    by_cases hlt2:j < nf
    ·have hjp:j < (Sc.flds kd).length:=by rw [HNF.out];exact hlt2
     have j0:(0:Int)<=(j:Int):=aa _
     have j1:(j:Int) < (nf:Int):=by omega
     have HR:=aI hacc
     rw [List.drop_eq_getElem_cons hjp,List.map_cons,List.flatten_cons,List.append_assoc] at HR
     have fb:=Sx.fldB_bd (HKB.out.f _ (List.getElem_mem hjp))
     obtain ⟨b2,o2,us,rfl,_,hr,hc⟩:=SlAt.get (T.out.h.fact (.tail _ (.head _))) j hjp
     obtain ⟨fd,hfd⟩:=aX ((Sc.flds kd)[j])
     rw [hfd] at HR fb hr
     obtain ⟨Aw,cw,Bw,dw,rfl,sw1,sw2,_⟩:=rep_fld hr
     rw [show Mem.sz Fld=8 from rfl] at hc
     have HFB:=aI fb
     have fq1:=fb.nm;have fq2:=fb.of_;have fq3:=fb.up;have fq4:=fb.lo;have fq5:=fb.hi;have fq6:=fb.ws;have fq7:=fb.ns
     obtain ⟨kk,hk1,hk2⟩:=fb.kd
     have HK2:=aI hk2
     clear hk2
     obtain ⟨nw,hnw⟩:=aX ((Sc.words fd).length)
     have HNW:=aI hnw
     rw [hnw] at fq6 fq7
     have HNV:=aI fq7
     rw [hnw,fq7] at hc
     obtain ⟨y0,y1,y2,y3,y4,y5,y6,y7⟩:=aG8 (m:=j*8) hc
     have hla:acc.length+(Sx.encF fd).length<=40000:=by
      have:=congrArg List.length HR.out
      rw [aK,aK] at this
      omega
     obtain ⟨Nf,hNf⟩:=aX wi.heap.size
     have hbw:Blk (wi.alloc (.cells #[.string (Sc.nm fd),.string (Sc.of_ fd),.string (Sc.up fd),.int .i64 (Sc.kd fd),.int .i64 (Sc.lo fd),.int .i64 (Sc.hi fd),.slice Aw nw cw,.slice Bw nw dw] 52)) Nf 52 #[.string (Sc.nm fd),.string (Sc.of_ fd),.string (Sc.up fd),.int .i64 (Sc.kd fd),.int .i64 (Sc.lo fd),.int .i64 (Sc.hi fd),.slice Aw nw cw,.slice Bw nw dw]:=by rw [<-hNf];exact Blk.new wi _ _
     have hbl:Below wi.heap.size wi (wi.alloc (.cells #[.string (Sc.nm fd),.string (Sc.of_ fd),.string (Sc.up fd),.int .i64 (Sc.kd fd),.int .i64 (Sc.lo fd),.int .i64 (Sc.hi fd),.slice Aw nw cw,.slice Bw nw dw] 52)):=(Below.refl wi.heap.size wi).alloc (ag _) _
     have hnm:Nf∉M:=fun hm=>by have:=T.out.h.mb _ hm;omega
     have HTB:=T
     replace T:=aI ((((T.out.below hbl).add (keeps_sl Bw (Sc.wts fd)) (sw2.keep (Chg.of_below hbl))).add (keeps_sl Aw (Sc.words fd)) (sw1.keep (Chg.of_below hbl))).add (P:=fun M W=>Nf∉M/\Blk W Nf 52 #[.string (Sc.nm fd),.string (Sc.of_ fd),.string (Sc.up fd),.int .i64 (Sc.kd fd),.int .i64 (Sc.lo fd),.int .i64 (Sc.hi fd),.slice Aw nw cw,.slice Bw nw dw]) (keeps_blk _ _ _) ⟨hnm,hbw⟩)
     clear HTB hacc hfd hr hc fb sw1 sw2 hbw hbl hnm hnw
     have hl1:acc.length+(Sx.encS [Sc.nm fd,Sc.of_ fd,Sc.up fd]).length+(En.ints [Sc.kd fd,Sc.lo fd,Sc.hi fd]).length<=40000:=by
      unfold Sx.encF at hla;simp only [aK] at hla;omega
     have CB:=aI (fun W g (hB:Blk W g 9 #[.string (Sc.nm fd),.string (Sc.of_ fd),.string (Sc.up fd)])=>show Calls Tryz.prog 102 #[.slice (some ⟨g,0,none⟩) 3 3] W _ from rStrings_any [Sc.nm fd,Sc.of_ fd,Sc.up fd] (some ⟨g,0,none⟩) 3 W (SlAt.of_blk (xs:=[.string (Sc.nm fd),.string (Sc.of_ fd),.string (Sc.up fd)]) ⟨[_],_,rfl,⟨rfl,by omega⟩,[_],_,rfl,⟨rfl,by omega⟩,[_],[],rfl,⟨rfl,by omega⟩,rfl⟩ hB (by simp)) (by simp) (by intro s hs;simp only [List.mem_cons,List.not_mem_nil,or_false] at hs;rcases hs with rfl | rfl | rfl <;> omega))
     have CX:=aI (fun W g (hB:Blk W g 3 #[.int .i64 (Sc.kd fd),.int .i64 (Sc.lo fd),.int .i64 (Sc.hi fd)])=>show Calls Tryz.prog 101 #[.slice (some ⟨g,0,none⟩) 3 3] W _ from rInts_any [Sc.kd fd,Sc.lo fd,Sc.hi fd] (some ⟨g,0,none⟩) 3 W (SlAt.of_blk (xs:=[.int .i64 (Sc.kd fd),.int .i64 (Sc.lo fd),.int .i64 (Sc.hi fd)]) ⟨[_],_,rfl,⟨rfl,by rw [HK2.out];unfold inI;omega⟩,[_],_,rfl,⟨rfl,by unfold inI;omega⟩,[_],[],rfl,⟨rfl,by unfold inI;omega⟩,rfl⟩ hB (by simp)) (by simp))
     go_upto_region 12 with fail
     generalize wi.alloc (.cells #[.string (Sc.nm fd),.string (Sc.of_ fd),.string (Sc.up fd),.int .i64 (Sc.kd fd),.int .i64 (Sc.lo fd),.int .i64 (Sc.hi fd),.slice Aw nw cw,.slice Bw nw dw] 52)=w5 at *
     clear hNf y0 y1 y2 y3 y4 y5 y6 y7 c0 c1 c2 c3
     have HGL:=aI T.out.gLt
     go_wp2_with fail
     letI:Grow:=earlyGrow g 5 acc.length (byteVals (Sx.encS [Sc.nm fd,Sc.of_ fd,Sc.up fd]))
     apply RG.wp_region_typed (C:=fun w'=>EG g 5 acc.length (byteVals (Sx.encS [Sc.nm fd,Sc.of_ fd,Sc.up fd])) w5 w') (n:=194) (m:=18) (l1:=[_,_,_,_,_,_,_,_,_,_,_,_,_,_,_,_,_,_]) (l2:=[_,_])
     ·rfl
     ·rfl
     ·kernel_rfl
     ·rfl
     ·kernel_rfl
     ·exact EG.below ⟨rfl,rfl,rfl,ag _,fun _ _=>rfl⟩
     ·exact fun u u' h hb=>h.trans hb
     iterate 7 ((apply RG.wpT_exact;· (intro w' hC hf;unfold RG.Gives;obtain ⟨c0,c1,c2,c3,c4,c5,c6,c7⟩:=aM8 (((T.out.h.early T.out.ok rfl hC).fact (.head _)).2);clear hf hC;go_wp2_with (fail);apply RG.postT_val rfl (Grow.refl _);simp only [RG.valAt,aV];exact rfl));(try simp only [Act.put,aZ]))
     apply RG.wpT_typed (T:=fun v w=>∃ N,v=.slice (some ⟨N,0,none⟩) 3 3/\w5.heap.size<=N/\Blk w N 9 #[.string (Sc.nm fd),.string (Sc.of_ fd),.string (Sc.up fd)]) (blkN_kept HGL.out)
     ·intro w' hC hf;unfold RG.Gives;have hs:=aI (EG.size hC);clear hf hC
      go_wp2_with fail
      refine RG.postT_mk rfl (EG.below (by go_grown)) ?_;simp only [RG.valAt,aV];exact ⟨_,rfl,hs.out,Blk.new _ _ _⟩
     intro v70;(try simp only [Act.put,aZ])
     apply RG.wpT_typed (T:=RowN w5.heap.size 5 1 (Sx.encS [Sc.nm fd,Sc.of_ fd,Sc.up fd]).length (byteVals (Sx.encS [Sc.nm fd,Sc.of_ fd,Sc.up fd]))) (rowN_keptE HGL.out)
     ·intro w' hC hf;unfold RG.Gives;have HSZ:=aI (EG.size hC);obtain ⟨N2,rfl,_,hB⟩:=hf.1 rfl;have HBk:=aI hB;clear hB;clear hf hC
      go_wp2_with (go_at_call 102;refine (CB.out _ _ HBk.out).mono ?_;rintro e w2 ⟨v,rfl,hown,hb⟩;have HO:=aI hown;have HBL:=aI hb;clear hown hb)
      refine RG.postT_mk rfl (EG.below HBL.out) ?_;simp only [RG.valAt,aA];exact RowN.of_owns HO.out (encS_pos _) HSZ.out
     intro v71;(try simp only [Act.put,aZ])
     apply RG.wpT_typed (T:=RowE w5.heap.size g 5 1 (acc.length+(Sx.encS [Sc.nm fd,Sc.of_ fd,Sc.up fd]).length) (byteVals acc++byteVals (Sx.encS [Sc.nm fd,Sc.of_ fd,Sc.up fd]))) (rowE_kept (fun j u h1 h2=>by rw [List.getElem?_append_right (by unfold byteVals;rw [List.length_map];exact h1)] at h2;unfold byteVals at h2 ⊢;rw [List.length_map] at h2;exact h2))
     ·intro w' hC hf;unfold RG.Gives;have hro:=hf.1 rfl;clear hf
      have hbo:=RowN.owns hro (by unfold byteVals;rw [List.length_map,Nat.mul_one])
      obtain ⟨g2,cap2,cur2,rfl,_,_,_⟩:=hro
      obtain ⟨cur3,q1,q2,q3,q4,q5⟩:=T.out.rowE HAP.out hC
      obtain ⟨hi,hz0,hz1,hz2⟩:=HII.out
      refine wpList_append_early (g:=g) (te:=5) (n8:=acc.length) (us:=byteVals (Sx.encS [Sc.nm fd,Sc.of_ fd,Sc.up fd])) (B0:=w5.heap.size) (cap:=cr) (n:=acc.length) (cur:=cur3) (xs:=byteVals acc) (by rfl) _ _ 73 (by rfl) i0 _ 1 1 Tryz.underlying73 hi hz0 hz1 hz2 rfl (by decide) (by rfl) q1 q2 q3 q4 q5 (by unfold byteVals;rw [List.length_map,Nat.mul_one]) (by rfl) (reads_own hbo) (encS_pos _) (byteVals_one _) (by rw [Nat.mul_one]) (EG.size hC) (by unfold maxLen;omega) (by omega) ?_
      intro v' w2 k1 k2
      refine RG.postT_mk rfl k2 ?_;simp only [RG.valAt,aA];exact k1
     intro v72;(try simp only [Act.put,aZ])
     iterate 6 ((apply RG.wpT_exact;· (intro w' hC hf;unfold RG.Gives;obtain ⟨c0,c1,c2,c3,c4,c5,c6,c7⟩:=aM8 (((T.out.h.early T.out.ok rfl hC).fact (.head _)).2);clear hf hC;go_wp2_with (fail);apply RG.postT_val rfl (Grow.refl _);simp only [RG.valAt,aV];exact rfl));(try simp only [Act.put,aZ]))
     apply RG.wpT_typed (T:=fun v w=>∃ N,v=.slice (some ⟨N,0,none⟩) 3 3/\w5.heap.size<=N/\Blk w N 3 #[.int .i64 (Sc.kd fd),.int .i64 (Sc.lo fd),.int .i64 (Sc.hi fd)]) (blkN_kept HGL.out)
     ·intro w' hC hf;unfold RG.Gives;have hs:=aI (EG.size hC);clear hf hC
      go_wp2_with fail
      refine RG.postT_mk rfl (EG.below (by go_grown)) ?_;simp only [RG.valAt,aV];exact ⟨_,rfl,hs.out,Blk.new _ _ _⟩
     intro v79;(try simp only [Act.put,aZ])
     apply RG.wpT_typed (T:=RowN w5.heap.size 5 1 (En.ints [Sc.kd fd,Sc.lo fd,Sc.hi fd]).length (byteVals (En.ints [Sc.kd fd,Sc.lo fd,Sc.hi fd]))) (rowN_keptE HGL.out)
     ·intro w' hC hf;unfold RG.Gives;have HSZ:=aI (EG.size hC);obtain ⟨N2,rfl,_,hB⟩:=hf.1 rfl;have HBk:=aI hB;clear hB;clear hf hC
      go_wp2_with (go_at_call 101;refine (CX.out _ _ HBk.out).mono ?_;rintro e w2 ⟨v,rfl,hown,hb⟩;have HO:=aI hown;have HBL:=aI hb;clear hown hb)
      refine RG.postT_mk rfl (EG.below HBL.out) ?_;simp only [RG.valAt,aA];exact RowN.of_owns HO.out (encIs_pos _) HSZ.out
     intro v80;(try simp only [Act.put,aZ])
     apply RG.wpT_done
     intro w6 hC hall
     obtain ⟨M6,hT6⟩:=HRow.early T.out rfl hC hall.2.2.1 (by rw [aK];unfold byteVals;rw [List.length_map,List.length_map,Nat.mul_one])
     have hown2:=RowN.owns hall.1 (by unfold byteVals;rw [List.length_map,Nat.mul_one])
     obtain ⟨Ab,cb,rfl⟩:=own_form hown2
     have HR6:=aI (reads_own hown2)
     rw [<-byteVals_append,<-aK] at hT6
     replace T:=aI hT6
     clear hT6 hown2 hall hC HGL
     obtain ⟨hi,hz0,hz1,hz2⟩:=HII.out
     refine wpList_append_row (by rfl) _ _ 73 (by rfl) 5 i0 _ 1 1 Tryz.underlying73 hi hz0 hz1 hz2 rfl (by decide) T.out (by rfl) _ _ (En.ints [Sc.kd fd,Sc.lo fd,Sc.hi fd]).length _ (byteVals (En.ints [Sc.kd fd,Sc.lo fd,Sc.hi fd])) (by rfl) HR6.out (byteVals_one _) (by rw [aK];unfold maxLen;omega) (by rw [aK];omega) ?_
     intro v9 w9 M9 h9 _
     rw [<-byteVals_append,<-aK] at h9
     replace T:=aI h9
     clear h9 HR6 hi hz0 hz1 hz2
     obtain ⟨acc2,hac⟩:=aX ((acc++Sx.encS [Sc.nm fd,Sc.of_ fd,Sc.up fd])++En.ints [Sc.kd fd,Sc.lo fd,Sc.hi fd])
     rw [hac] at T
     obtain ⟨R3,hR3⟩:=aX ((((Sc.flds kd).drop (j+1)).map Sx.encF).flatten++R2)
     have HR3:=aI hR3
     have HA2:=aI (show ((acc2++Sx.encS (Sc.words fd))++En.ints (Sc.wts fd))++R3=E by
      rw [<-HR.out,<-hac,<-hR3];unfold Sx.encF;simp only [List.append_assoc])
     have hl2:acc2.length+(Sx.encS (Sc.words fd)).length+(En.ints (Sc.wts fd)).length<=40000:=by
      have:=congrArg List.length HA2.out
      rw [aK,aK,aK] at this
      omega
     have hap2:0 < acc2.length:=by rw [<-hac,aK,aK];omega
     clear CB CX hl1 hac hR3 HR hla HAP hpos
     obtain ⟨acc,hac⟩:∃ a,a=acc2:=⟨_,rfl⟩
     subst hac
     have HAP:=aI hap2
     obtain ⟨g,cr,rfl⟩:∃ g cr,v9=.slice (some ⟨g,0,none⟩) acc.length cr:=by
      rcases T.out.own.2 with ⟨h0,_⟩ | ⟨g,cap,cur,h1,_⟩
      ·omega
      ·exact ⟨g,cap,h1⟩
     have CWS:=aI (fun W (h:SlAt [] W Aw (Sc.words fd))=>rStrings_any (Sc.words fd) Aw cw W h (by rw [HNW.out];omega) (fun s hs=>by have:=HFB.out.w s hs;omega))
     have CWI:=aI (fun W (h:SlAt [] W Bw (Sc.wts fd))=>rInts_any (Sc.wts fd) Bw dw W h (by rw [HNV.out];omega))
     simp only [HNW.out] at CWS
     simp only [HNV.out] at CWI
     go_upto_region 13 with fail
     have HGL:=aI T.out.gLt
     go_wp2_with fail
     letI:Grow:=earlyGrow g 5 acc.length (byteVals (Sx.encS (Sc.words fd)))
     apply RG.wp_region_typed (C:=fun w'=>EG g 5 acc.length (byteVals (Sx.encS (Sc.words fd))) w9 w') (n:=194) (m:=8) (l1:=[_,_,_,_,_,_,_,_]) (l2:=[_,_])
     ·rfl
     ·rfl
     ·kernel_rfl
     ·rfl
     ·kernel_rfl
     ·exact EG.below ⟨rfl,rfl,rfl,ag _,fun _ _=>rfl⟩
     ·exact fun u u' h hb=>h.trans hb
     iterate 3 ((apply RG.wpT_exact;· (intro w' hC hf;unfold RG.Gives;obtain ⟨c0,c1,c2,c3,c4,c5,c6,c7⟩:=aM8 (((T.out.h.early T.out.ok rfl hC).fact (.head _)).2);clear hf hC;go_wp2_with (fail);apply RG.postT_val rfl (Grow.refl _);simp only [RG.valAt,aV];exact rfl));(try simp only [Act.put,aZ]))
     apply RG.wpT_typed (T:=RowN w9.heap.size 5 1 (Sx.encS (Sc.words fd)).length (byteVals (Sx.encS (Sc.words fd)))) (rowN_keptE HGL.out)
     ·intro w' hC hf;unfold RG.Gives;have HSZ:=aI (EG.size hC);have hsl:SlAt [] w' Aw (Sc.words fd):=((T.out.h.early T.out.ok rfl hC).fact (.tail _ (.head _))).sub (fun g hg=>by cases hg);have HSL:=aI hsl;clear hsl;clear hf hC
      go_wp2_with (go_at_call 102;refine (CWS.out w' HSL.out).mono ?_;rintro e w2 ⟨v,rfl,hown,hb⟩;have HO:=aI hown;have HBL:=aI hb;clear hown hb)
      refine RG.postT_mk rfl (EG.below HBL.out) ?_;simp only [RG.valAt,aA];exact RowN.of_owns HO.out (encS_pos _) HSZ.out
     intro v85;(try simp only [Act.put,aZ])
     apply RG.wpT_typed (T:=RowE w9.heap.size g 5 1 (acc.length+(Sx.encS (Sc.words fd)).length) (byteVals acc++byteVals (Sx.encS (Sc.words fd)))) (rowE_kept (fun j u h1 h2=>by rw [List.getElem?_append_right (by unfold byteVals;rw [List.length_map];exact h1)] at h2;unfold byteVals at h2 ⊢;rw [List.length_map] at h2;exact h2))
     ·intro w' hC hf;unfold RG.Gives;have hro:=hf.1 rfl;clear hf
      have hbo:=RowN.owns hro (by unfold byteVals;rw [List.length_map,Nat.mul_one])
      obtain ⟨g2,cap2,cur2,rfl,_,_,_⟩:=hro
      obtain ⟨cur3,q1,q2,q3,q4,q5⟩:=T.out.rowE HAP.out hC
      obtain ⟨hi,hz0,hz1,hz2⟩:=HII.out
      refine wpList_append_early (g:=g) (te:=5) (n8:=acc.length) (us:=byteVals (Sx.encS (Sc.words fd))) (B0:=w9.heap.size) (cap:=cr) (n:=acc.length) (cur:=cur3) (xs:=byteVals acc) (by rfl) _ _ 73 (by rfl) i0 _ 1 1 Tryz.underlying73 hi hz0 hz1 hz2 rfl (by decide) (by rfl) q1 q2 q3 q4 q5 (by unfold byteVals;rw [List.length_map,Nat.mul_one]) (by rfl) (reads_own hbo) (encS_pos _) (byteVals_one _) (by rw [Nat.mul_one]) (EG.size hC) (by unfold maxLen;omega) (by omega) ?_
      intro v' w2 k1 k2
      refine RG.postT_mk rfl k2 ?_;simp only [RG.valAt,aA];exact k1
     intro v86;(try simp only [Act.put,aZ])
     iterate 2 ((apply RG.wpT_exact;· (intro w' hC hf;unfold RG.Gives;obtain ⟨c0,c1,c2,c3,c4,c5,c6,c7⟩:=aM8 (((T.out.h.early T.out.ok rfl hC).fact (.head _)).2);clear hf hC;go_wp2_with (fail);apply RG.postT_val rfl (Grow.refl _);simp only [RG.valAt,aV];exact rfl));(try simp only [Act.put,aZ]))
     apply RG.wpT_typed (T:=RowN w9.heap.size 5 1 (En.ints (Sc.wts fd)).length (byteVals (En.ints (Sc.wts fd)))) (rowN_keptE HGL.out)
     ·intro w' hC hf;unfold RG.Gives;have HSZ:=aI (EG.size hC);have hsl:SlAt [] w' Bw (Sc.wts fd):=((T.out.h.early T.out.ok rfl hC).fact (.tail _ (.tail _ (.head _)))).sub (fun g hg=>by cases hg);have HSL:=aI hsl;clear hsl;clear hf hC
      go_wp2_with (go_at_call 101;refine (CWI.out w' HSL.out).mono ?_;rintro e w2 ⟨v,rfl,hown,hb⟩;have HO:=aI hown;have HBL:=aI hb;clear hown hb)
      refine RG.postT_mk rfl (EG.below HBL.out) ?_;simp only [RG.valAt,aA];exact RowN.of_owns HO.out (encIs_pos _) HSZ.out
     intro v89;(try simp only [Act.put,aZ])
     apply RG.wpT_done
     intro w6 hC hall
     obtain ⟨M6,hT6⟩:=HRow.early T.out rfl hC hall.2.1 (by rw [aK];unfold byteVals;rw [List.length_map,List.length_map,Nat.mul_one])
     have hown2:=RowN.owns hall.1 (by unfold byteVals;rw [List.length_map,Nat.mul_one])
     obtain ⟨Ab,cb,rfl⟩:=own_form hown2
     have HR6:=aI (reads_own hown2)
     rw [<-byteVals_append,<-aK] at hT6
     replace T:=aI hT6
     clear hT6 hown2 hall hC HGL
     obtain ⟨hi,hz0,hz1,hz2⟩:=HII.out
     refine wpList_append_row (by rfl) _ _ 73 (by rfl) 5 i0 _ 1 1 Tryz.underlying73 hi hz0 hz1 hz2 rfl (by decide) T.out (by rfl) _ _ (En.ints (Sc.wts fd)).length _ (byteVals (En.ints (Sc.wts fd))) (by rfl) HR6.out (byteVals_one _) (by rw [aK];unfold maxLen;omega) (by rw [aK];omega) ?_
     intro v10 w10 M10 h9 _
     rw [<-byteVals_append,<-aK] at h9
     replace T:=aI h9
     clear h9 HR6 hi hz0 hz1 hz2
     have HL:=aI hl2
     go_wp2_with fail
     go_roundg (gk - 1)
     case measure=>omega
     case rel=>exact ⟨j+1,_,_,by omega,by go_num,T.out.less (fun P hP=>.tail _ (.tail _ (.tail _ hP))),by rw [aK,aK];have:=HAP.out;omega,by rw [HR3.out];exact HA2.out⟩
    ·have j1:¬ (j:Int) < (nf:Int):=by omega
     rw [List.drop_eq_nil_of_le (by rw [HNF.out];omega),List.map_nil,List.flatten_nil,List.nil_append,<-HR2.out] at hacc
     have HR:=aI hacc
     clear hacc
     go_wp2_with fail
     go_roundg (gq - 1)
     case measure=>omega
     case rel=>exact ⟨k+1,_,_,by omega,by go_num,T.out.less (fun P hP=>.tail _ (.tail _ hP)),HAP.out,HR.out⟩
  ·have k1:¬ (k:Int) < (nk:Int):=by omega
   rw [List.drop_eq_nil_of_le (by rw [HNK.out];omega),List.map_nil,List.flatten_nil,List.nil_append,<-HR1.out] at hacc
   have hla:acc.length+(En.int (x.2.2.1.length:Int)).length<=40000:=by
    have:=congrArg List.length hacc
    rw [aK,aK] at this
    omega
   rw [HNL.out] at hla hacc
   rw [<-List.append_assoc] at hacc
   have HR:=aI hacc
   clear hacc
   have hi:=HII.out.1;have hz0:=HII.out.2.1;have hz1:=HII.out.2.2.1;have hz2:=HII.out.2.2.2
   go_wp2_with (first | (go_at_call 99;refine (CI3.out _).mono ?_;rintro e w2 ⟨v,rfl,hown,hb⟩;obtain ⟨Ab,cb,rfl⟩:=own_form hown;replace T:=aI (T.out.below hb);have HRD:=aI (reads_own hown);clear hown hb) | (at_builtin;refine wpList_append_row (by rfl) _ _ 73 (by rfl) 5 i0 _ 1 1 Tryz.underlying73 hi hz0 hz1 hz2 rfl (by decide) T.out (by rfl) _ _ (En.int (nl:Int)).length _ (byteVals (En.int (nl:Int))) (by rfl) HRD.out (byteVals_one _) (by unfold maxLen;omega) (by omega) ?_;intro v8 w8 M8 h8 _;rw [<-byteVals_append,<-aK] at h8;replace T:=aI h8;clear h8))
   clear z0 z1 z2 z3 hi hz0 hz1 hz2 HRD k1
   obtain ⟨R5,hR5⟩:=aX (En.int x.2.2.2.length++(x.2.2.2.map Sx.encR).flatten)
   rw [hR5] at HR
   have HR5:=aI hR5
   have hap3:0 < (acc++En.int (nl:Int)).length:=by rw [aK];omega
   clear hR5 hla hpos HAP
   go_loopg [3,8] nl (fun r v i wr=>∃ (k:Nat) (M:List Nat) (acc:List UInt8),k+r=nl/\i=.int .i64 k/\HRow W0 [] M [] [fun M W=>N∉M/\Blk W N 28 #[.int .i64 x.1,.slice A nk c,.slice B nl d,.slice C nr e],fun M W=>SlAt M W A (Sc.kinds x),fun M W=>SlAt M W B x.2.2.1,fun M W=>SlAt M W C x.2.2.2] 5 1 v acc.length (byteVals acc) wr/\0 < acc.length/\acc++(((x.2.2.1.drop k).map Sx.encL).flatten++R5)=E)
   case atStart=>exact ⟨0,_,_,by omega,rfl,T.out,hap3,HR.out⟩
   case round =>
    clear T HR hap3
    obtain ⟨k,M,acc,hk,rfl,hT,hpos,hacc⟩:=hrel
    obtain ⟨wo,rfl⟩:=aY wr
    obtain ⟨gq,rfl⟩:=aY gk
    have T:=aI hT
    clear hT
    obtain ⟨g,cr,rfl⟩:∃ g cr,u3=.slice (some ⟨g,0,none⟩) acc.length cr:=by
     rcases T.out.own.2 with ⟨h0,_⟩ | ⟨g,cap,cur,h1,_⟩
     ·omega
     ·exact ⟨g,cap,h1⟩
    obtain ⟨z0,z1,z2,z3⟩:=aM4 ((T.out.h.fact (.head _)).2)
    have HAP:=aI hpos
    by_cases hlt:k < nl
    ·have hkp:k < x.2.2.1.length:=by rw [HNL.out];exact hlt
     have k0:(0:Int)<=(k:Int):=aa _
     have k1:(k:Int) < (nl:Int):=by omega
     have HR:=aI hacc
     rw [List.drop_eq_getElem_cons hkp,List.map_cons,List.flatten_cons,List.append_assoc] at HR
     have kb:=HOB.out.l _ (List.getElem_mem hkp)
     obtain ⟨b,o,us,rfl,hbM,hr,hc⟩:=SlAt.get (T.out.h.fact (.tail _ (.tail _ (.head _)))) k hkp
     obtain ⟨lf,hlf⟩:=aX (x.2.2.1[k])
     rw [hlf] at HR kb hr
     obtain ⟨As,cs,Bm,cm,rfl,ss,sm,_⟩:=rep_lif hr
     rw [show Mem.sz Lif=3 from rfl] at hc
     have HLB:=aI kb
     have lq1:=kb.nm;have lq2:=kb.n;have lq3:=kb.m
     obtain ⟨ns,hns⟩:=aX lf.2.1.length
     obtain ⟨nm,hnm⟩:=aX lf.2.2.length
     have HNS:=aI hns;have HNM:=aI hnm
     rw [hns] at lq2;rw [hnm] at lq3
     rw [hns,hnm] at hc
     obtain ⟨y0,y1,y2⟩:=aG3 (m:=k*3) hc
     have hla:acc.length+(Sx.encL lf).length<=40000:=by
      have:=congrArg List.length HR.out
      rw [aK,aK] at this
      omega
     replace T:=aI (((((T.out.add (keeps_sl Bm lf.2.2) sm).add (keeps_sl As lf.2.1) ss).add (P:=fun M W=>b∉M/\W.cell? ⟨b,o+k*3+2,none⟩=some (.slice Bm nm cm)) (keeps_cell _ _ _) ⟨hbM,y2⟩).add (P:=fun M W=>b∉M/\W.cell? ⟨b,o+k*3+1,none⟩=some (.slice As ns cs)) (keeps_cell _ _ _) ⟨hbM,y1⟩).add (P:=fun M W=>b∉M/\W.cell? ⟨b,o+k*3,none⟩=some (.string lf.1)) (keeps_cell _ _ _) ⟨hbM,y0⟩)
     clear hacc hlf hr hc kb ss sm hns hnm
     have T2:=aI (HRow2.reset (e2:=3) (s2:=1) T.out)
     clear T
     go_wp2_with fail
     clear y0 y1 y2 z0 z1 z2 z3
     go_loopg [9,10] nm (fun r v9 v10 wr=>∃ (j:Nat) (M:List Nat) (l:List Int),j+r=nm/\v10=.int .i64 j/\l=Sx.mvs (lf.2.2.take j)/\HRow2 W0 [] M [] ((fun M W=>b∉M/\W.cell? ⟨b,o+k*3,none⟩=some (.string lf.1))::(fun M W=>b∉M/\W.cell? ⟨b,o+k*3+1,none⟩=some (.slice As ns cs))::(fun M W=>b∉M/\W.cell? ⟨b,o+k*3+2,none⟩=some (.slice Bm nm cm))::(fun M W=>SlAt M W As lf.2.1)::(fun M W=>SlAt M W Bm lf.2.2)::[fun M W=>N∉M/\Blk W N 28 #[.int .i64 x.1,.slice A nk c,.slice (some ⟨b,o,none⟩) nl d,.slice C nr e],fun M W=>SlAt M W A (Sc.kinds x),fun M W=>SlAt M W (some ⟨b,o,none⟩) x.2.2.1,fun M W=>SlAt M W C x.2.2.2]) 5 1 (.slice (some ⟨g,0,none⟩) acc.length cr) acc.length (byteVals acc) 3 1 v9 l.length (intVals l) wr)
     case atStart=>exact ⟨0,_,[],by omega,rfl,rfl,T2.out⟩
     case round =>
      clear T2
      obtain ⟨j,M2,l,hj,rfl,hl,hT⟩:=hrel
      obtain ⟨wi,rfl⟩:=aY wr
      have T2:=aI hT
      clear hT
      have HLL:=aI hl
      have hjl:j<=nm:=by omega
      have hln:l.length=2*j:=by rw [hl,Sx.mvs_len,List.length_take,HNM.out];omega
      have HLN:=aI hln
      clear hl
      obtain ⟨z0,z1,z2,z3⟩:=aM4 ((T2.out.r1.h.fact (.tail _ (.tail _ (.tail _ (.tail _ (.tail _ (.head _))))))).2)
      have y0:=(T2.out.r1.h.fact (.head _)).2;have y1:=(T2.out.r1.h.fact (.tail _ (.head _))).2;have y2:=(T2.out.r1.h.fact (.tail _ (.tail _ (.head _)))).2
      by_cases hlt2:j < nm
      ·have hjp:j < lf.2.2.length:=by rw [HNM.out];exact hlt2
       have j0:(0:Int)<=(j:Int):=aa _
       have j1:(j:Int) < (nm:Int):=by omega
       obtain ⟨b3,o3,us,rfl,hb3,hr,hc⟩:=SlAt.get (T2.out.r1.h.fact (.tail _ (.tail _ (.tail _ (.tail _ (.head _)))))) j hjp
       have hms:=HLL.out
       have HMT:=aI (mvs_take lf.2.2 j hjp)
       obtain ⟨mv,hmv⟩:=aX (lf.2.2[j])
       rw [hmv] at hr HMT
       obtain ⟨rfl,i1,i2⟩:=rep_mv hr
       rw [show Mem.sz (Int × Int)=2 from rfl] at hc
       have m0:wi.cell? ⟨b3,o3+j*2,none⟩=some (.int .i64 mv.1):=hc 0 _ rfl
       have m1:wi.cell? ⟨b3,o3+j*2+1,none⟩=some (.int .i64 mv.2):=hc 1 _ rfl
       have hT3:=(T2.out.r1.add (P:=fun M W=>b3∉M/\W.cell? ⟨b3,o3+j*2+1,none⟩=some (.int .i64 mv.2)) (keeps_cell _ _ _) ⟨hb3,m1⟩).add (P:=fun M W=>b3∉M/\W.cell? ⟨b3,o3+j*2,none⟩=some (.int .i64 mv.1)) (keeps_cell _ _ _) ⟨hb3,m0⟩
       have T3:=aI (HRow2.mk hT3 T2.out.k2 T2.out.o2)
       clear hT3 T2 hmv hr hc hms m0 m1 hln
       obtain ⟨A9,c9,rfl⟩:=own_form T3.out.o2
       go_wp2_with fail
       clear y0 y1 y2 z0 z1 z2 z3
       apply wp_region_typed (C:=fun w'=>HRow2 W0 [] M2 [] ((fun M W=>b3∉M/\W.cell? ⟨b3,o3+j*2,none⟩=some (.int .i64 mv.1))::(fun M W=>b3∉M/\W.cell? ⟨b3,o3+j*2+1,none⟩=some (.int .i64 mv.2))::(fun M W=>b∉M/\W.cell? ⟨b,o+k*3,none⟩=some (.string lf.1))::(fun M W=>b∉M/\W.cell? ⟨b,o+k*3+1,none⟩=some (.slice As ns cs))::(fun M W=>b∉M/\W.cell? ⟨b,o+k*3+2,none⟩=some (.slice (some ⟨b3,o3,none⟩) nm cm))::(fun M W=>SlAt M W As lf.2.1)::(fun M W=>SlAt M W (some ⟨b3,o3,none⟩) lf.2.2)::[fun M W=>N∉M/\Blk W N 28 #[.int .i64 x.1,.slice A nk c,.slice (some ⟨b,o,none⟩) nl d,.slice C nr e],fun M W=>SlAt M W A (Sc.kinds x),fun M W=>SlAt M W (some ⟨b,o,none⟩) x.2.2.1,fun M W=>SlAt M W C x.2.2.2]) 5 1 (.slice (some ⟨g,0,none⟩) acc.length cr) acc.length (byteVals acc) 3 1 (.slice A9 l.length c9) l.length (intVals l) w') (n:=194) (m:=22) (l1:=[_,_,_,_,_,_,_,_,_,_,_,_,_,_,_,_,_,_,_,_,_,_]) (l2:=[_,_])
       ·rfl
       ·rfl
       ·kernel_rfl
       ·rfl
       ·kernel_rfl
       ·exact T3.out.drew
       ·exact fun u u' h hb=>(by first | exact h.below hb | exact h.trans (hb.mono h.size))
       iterate 21 ((apply wpT_exact;· (intro w' hC hf;unfold Gives;have hbk:=(hC.r1.h.fact (.tail _ (.tail _ (.tail _ (.tail _ (.tail _ (.tail _ (.tail _ (.head _))))))))).2;have z2:=hbk.cell 2;simp at z2;have y2:=(hC.r1.h.fact (.tail _ (.tail _ (.tail _ (.tail _ (.head _)))))).2;have m0:=(hC.r1.h.fact (.head _)).2;have m1:=(hC.r1.h.fact (.tail _ (.head _))).2;clear hbk;clear hf hC;go_wp2_with (fail);apply postT_val rfl (Below.refl _ _);simp only [valAt,aV];exact rfl));(try simp only [Act.put,aZ]))
       apply wpT_typed (slBlk_kept 2 3 #[.int .i64 mv.1,.int .i64 mv.2])
       ·intro w' hC hf;unfold Gives;clear hf hC;go_wp2_with fail;apply postT_mk rfl (by go_grown);simp only [valAt,aV];exact ⟨_,rfl,Blk.new _ _ _⟩
       intro vsl;(try simp only [Act.put,aZ])
       apply wpT_done
       intro w6 hC hall
       obtain ⟨gb,rfl,hB⟩:=hall.1
       obtain ⟨hi,hz0,hz1,hz2⟩:=HIN.out
       refine wpList_append_row2 (by rfl) _ _ 22 (by rfl) iI _ 8 Tryz.underlying22 hi hz0 hz1 hz2 rfl (by decide) hC.swap (by decide) (by rfl) _ _ 2 2 (intVals [mv.1,mv.2]) (by rfl) (reads_blk hB rfl) (intVals_one [mv.1,mv.2]) (by have:=HLN.out;unfold maxLen;omega) (by have:=HLN.out;omega) ?_
       intro v7 w7 M7 h7 _
       rw [<-intVals_append,show l.length+2=(l++[mv.1,mv.2]).length from by rw [aK];rfl] at h7
       replace T3:=aI h7.swap
       clear h7 hB hC hall hi hz0 hz1 hz2
       go_wp2_with fail
       go_roundg (gk - 1)
       case measure=>omega
       case rel=>exact ⟨j+1,_,l++[mv.1,mv.2],by omega,by go_num,by rw [HMT.out,HLL.out],T3.out.r1.less (fun P hP=>.tail _ (.tail _ hP)),T3.out.k2,T3.out.o2⟩
      ·have j1:¬ (j:Int) < (nm:Int):=by omega
       have hall:l=Sx.mvs lf.2.2:=by rw [HLL.out,List.take_of_length_le (by rw [HNM.out];omega)]
       have hil:∀ z∈l,inI z:=by
        intro z hz
        rw [hall] at hz
        obtain ⟨m,hm,hz⟩:=List.mem_flatMap.1 hz
        have:=HLB.out.v m hm
        simp only [List.mem_cons,List.not_mem_nil,or_false] at hz
        unfold inI
        rcases hz with rfl | rfl <;> omega
       obtain ⟨A9,c9,M9,rfl,hT9⟩:=T2.out.freeze2 (l:=l) (by decide) rfl rfl (flat_intsB hil) (fun _ h=>by cases h)
       have T:=aI hT9
       have HLA:=aI hall
       clear T2 hT9 hil hall HLL hln
       have hl1:acc.length+(Sx.encB lf.1).length+(Sx.encS lf.2.1).length<=40000:=by
        unfold Sx.encL at hla;simp only [aK] at hla;omega
       have CB:=aI (fun w=>rBytes_any lf.1 w (by omega))
       have CX:=aI (fun W (h:SlAt [] W As lf.2.1)=>rStrings_any lf.2.1 As cs W h (by rw [HNS.out];omega) (fun s hs=>by have:=HLB.out.s s hs;omega))
       simp only [HNS.out] at CX
       go_upto_region 23 with fail
       have HGL:=aI T.out.gLt
       clear y0 y1 y2 z0 z1 z2 z3
       go_wp2_with fail
       letI:Grow:=earlyGrow g 5 acc.length (byteVals (Sx.encB lf.1))
       apply RG.wp_region_typed (C:=fun w'=>EG g 5 acc.length (byteVals (Sx.encB lf.1)) wi w') (n:=194) (m:=16) (l1:=[_,_,_,_,_,_,_,_,_,_,_,_,_,_,_,_]) (l2:=[_,_])
       ·rfl
       ·rfl
       ·kernel_rfl
       ·rfl
       ·kernel_rfl
       ·exact EG.below ⟨rfl,rfl,rfl,ag _,fun _ _=>rfl⟩
       ·exact fun u u' h hb=>h.trans hb
       iterate 7 ((apply RG.wpT_exact;· (intro w' hC hf;unfold RG.Gives;have hq:=T.out.h.early T.out.ok rfl hC;have z2:=(hq.fact (.tail _ (.tail _ (.tail _ (.tail _ (.tail _ (.tail _ (.head _)))))))).2.cell 2;have y0:=(hq.fact (.tail _ (.head _))).2;have y1:=(hq.fact (.tail _ (.tail _ (.head _)))).2;simp at z2;clear hq;clear hf hC;go_wp2_with (fail);apply RG.postT_val rfl (Grow.refl _);simp only [RG.valAt,aV];exact rfl));(try simp only [Act.put,aZ]))
       apply RG.wpT_typed (T:=RowN wi.heap.size 5 1 (Sx.encB lf.1).length (byteVals (Sx.encB lf.1))) (rowN_keptE HGL.out)
       ·intro w' hC hf;unfold RG.Gives;have HSZ:=aI (EG.size hC);clear hf hC
        go_wp2_with (go_at_call 100;refine (CB.out w').mono ?_;rintro e w2 ⟨v,rfl,hown,hb⟩;have HO:=aI hown;have HBL:=aI hb;clear hown hb)
        refine RG.postT_mk rfl (EG.below HBL.out) ?_;simp only [RG.valAt,aA];exact RowN.of_owns HO.out (encB_pos _) HSZ.out
       intro v145;(try simp only [Act.put,aZ])
       apply RG.wpT_typed (T:=RowE wi.heap.size g 5 1 (acc.length+(Sx.encB lf.1).length) (byteVals acc++byteVals (Sx.encB lf.1))) (rowE_kept (fun j u h1 h2=>by rw [List.getElem?_append_right (by unfold byteVals;rw [List.length_map];exact h1)] at h2;unfold byteVals at h2 ⊢;rw [List.length_map] at h2;exact h2))
       ·intro w' hC hf;unfold RG.Gives;have hro:=hf.1 rfl;clear hf
        have hbo:=RowN.owns hro (by unfold byteVals;rw [List.length_map,Nat.mul_one])
        obtain ⟨g2,cap2,cur2,rfl,_,_,_⟩:=hro
        obtain ⟨cur3,q1,q2,q3,q4,q5⟩:=T.out.rowE HAP.out hC
        obtain ⟨hi,hz0,hz1,hz2⟩:=HII.out
        refine wpList_append_early (g:=g) (te:=5) (n8:=acc.length) (us:=byteVals (Sx.encB lf.1)) (B0:=wi.heap.size) (cap:=cr) (n:=acc.length) (cur:=cur3) (xs:=byteVals acc) (by rfl) _ _ 73 (by rfl) i0 _ 1 1 Tryz.underlying73 hi hz0 hz1 hz2 rfl (by decide) (by rfl) q1 q2 q3 q4 q5 (by unfold byteVals;rw [List.length_map,Nat.mul_one]) (by rfl) (reads_own hbo) (encB_pos _) (byteVals_one _) (by rw [Nat.mul_one]) (EG.size hC) (by unfold maxLen;omega) (by omega) ?_
        intro v' w2 k1 k2
        refine RG.postT_mk rfl k2 ?_;simp only [RG.valAt,aA];exact k1
       intro v146;(try simp only [Act.put,aZ])
       iterate 6 ((apply RG.wpT_exact;· (intro w' hC hf;unfold RG.Gives;have hq:=T.out.h.early T.out.ok rfl hC;have z2:=(hq.fact (.tail _ (.tail _ (.tail _ (.tail _ (.tail _ (.tail _ (.head _)))))))).2.cell 2;have y0:=(hq.fact (.tail _ (.head _))).2;have y1:=(hq.fact (.tail _ (.tail _ (.head _)))).2;simp at z2;clear hq;clear hf hC;go_wp2_with (fail);apply RG.postT_val rfl (Grow.refl _);simp only [RG.valAt,aV];exact rfl));(try simp only [Act.put,aZ]))
       apply RG.wpT_typed (T:=RowN wi.heap.size 5 1 (Sx.encS lf.2.1).length (byteVals (Sx.encS lf.2.1))) (rowN_keptE HGL.out)
       ·intro w' hC hf;unfold RG.Gives;have HSZ:=aI (EG.size hC);have hsl:SlAt [] w' As lf.2.1:=((T.out.h.early T.out.ok rfl hC).fact (.tail _ (.tail _ (.tail _ (.tail _ (.head _)))))).sub (fun g hg=>by cases hg);have HSL:=aI hsl;clear hsl;clear hf hC
        go_wp2_with (go_at_call 102;refine (CX.out w' HSL.out).mono ?_;rintro e w2 ⟨v,rfl,hown,hb⟩;have HO:=aI hown;have HBL:=aI hb;clear hown hb)
        refine RG.postT_mk rfl (EG.below HBL.out) ?_;simp only [RG.valAt,aA];exact RowN.of_owns HO.out (encS_pos _) HSZ.out
       intro v153;(try simp only [Act.put,aZ])
       apply RG.wpT_done
       intro w6 hC hall
       obtain ⟨M6,hT6⟩:=HRow.early T.out rfl hC hall.2.1 (by rw [aK];unfold byteVals;rw [List.length_map,List.length_map,Nat.mul_one])
       have hown2:=RowN.owns hall.1 (by unfold byteVals;rw [List.length_map,Nat.mul_one])
       obtain ⟨Ab,cb,rfl⟩:=own_form hown2
       have HR6:=aI (reads_own hown2)
       rw [<-byteVals_append,<-aK] at hT6
       replace T:=aI hT6
       clear hT6 hown2 hall hC HGL
       obtain ⟨hi,hz0,hz1,hz2⟩:=HII.out
       refine wpList_append_row (by rfl) _ _ 73 (by rfl) 5 i0 _ 1 1 Tryz.underlying73 hi hz0 hz1 hz2 rfl (by decide) T.out (by rfl) _ _ (Sx.encS lf.2.1).length _ (byteVals (Sx.encS lf.2.1)) (by rfl) HR6.out (byteVals_one _) (by rw [aK];unfold maxLen;omega) (by rw [aK];omega) ?_
       intro v9 w9 M9 h9 _
       rw [<-byteVals_append,<-aK] at h9
       replace T:=aI h9
       clear h9 HR6 hi hz0 hz1 hz2
       obtain ⟨acc1,hac⟩:=aX ((acc++Sx.encB lf.1)++Sx.encS lf.2.1)
       rw [hac] at T
       obtain ⟨R2,hR2⟩:=aX ((((x.2.2.1.drop (k+1)).map Sx.encL).flatten)++R5)
       have HR2:=aI hR2
       have HA1:=aI (show (acc1++En.ints l)++R2=E by
        rw [<-HR.out,<-hac,<-hR2,HLA.out];unfold Sx.encL;simp only [List.append_assoc])
       have hla1:acc1.length+(En.ints l).length<=40000:=by
        have:=congrArg List.length HA1.out
        rw [aK,aK] at this
        omega
       have hap1:0 < acc1.length:=by rw [<-hac,aK,aK];have:=HAP.out;omega
       clear hac hR2 HR hla HAP hpos CB CX hl1
       have hsl:SlAt [] w9 A9 l:=(T.out.h.fact (.head _)).sub (fun g hg=>by cases hg)
       have CW:=aI (rInts_any l A9 c9 w9 hsl (by have:=HLN.out;omega))
       clear hsl
       have hi:=HII.out.1;have hz0:=HII.out.2.1;have hz1:=HII.out.2.2.1;have hz2:=HII.out.2.2.2
       go_wp2_with (first | (go_at_call 101;refine (CW.out).mono ?_;rintro e w2 ⟨v,rfl,hown,hb⟩;obtain ⟨Ab,cb,rfl⟩:=own_form hown;replace T:=aI (T.out.below hb);have HRD:=aI (reads_own hown);clear hown hb) | (at_builtin;refine wpList_append_row (by rfl) _ _ 73 (by rfl) 5 i0 _ 1 1 Tryz.underlying73 hi hz0 hz1 hz2 rfl (by decide) T.out (by rfl) _ _ (En.ints l).length _ (byteVals (En.ints l)) (by rfl) HRD.out (byteVals_one _) (by unfold maxLen;omega) (by omega) ?_;intro v8 w8 M8 h8 _;rw [<-byteVals_append,<-aK] at h8;replace T:=aI h8;clear h8))
       clear hi hz0 hz1 hz2 HRD
       go_wp2_with fail
       go_roundg (gq - 1)
       case measure=>omega
       case rel=>exact ⟨k+1,_,_,by omega,by go_num,T.out.less (fun P hP=>.tail _ (.tail _ (.tail _ (.tail _ (.tail _ (.tail _ hP)))))),by rw [aK];omega,by rw [HR2.out];exact HA1.out⟩
    ·have k1:¬ (k:Int) < (nl:Int):=by omega
     rw [List.drop_eq_nil_of_le (by rw [HNL.out];omega),List.map_nil,List.flatten_nil,List.nil_append,<-HR5.out] at hacc
     have hla:acc.length+(En.int (x.2.2.2.length:Int)).length<=40000:=by
      have:=congrArg List.length hacc
      rw [aK,aK] at this
      omega
     rw [HNR.out] at hla hacc
     rw [<-List.append_assoc] at hacc
     have HR:=aI hacc
     clear hacc
     have hi:=HII.out.1;have hz0:=HII.out.2.1;have hz1:=HII.out.2.2.1;have hz2:=HII.out.2.2.2
     go_wp2_with (first | (go_at_call 99;refine (CI4.out _).mono ?_;rintro e w2 ⟨v,rfl,hown,hb⟩;obtain ⟨Ab,cb,rfl⟩:=own_form hown;replace T:=aI (T.out.below hb);have HRD:=aI (reads_own hown);clear hown hb) | (at_builtin;refine wpList_append_row (by rfl) _ _ 73 (by rfl) 5 i0 _ 1 1 Tryz.underlying73 hi hz0 hz1 hz2 rfl (by decide) T.out (by rfl) _ _ (En.int (nr:Int)).length _ (byteVals (En.int (nr:Int))) (by rfl) HRD.out (byteVals_one _) (by unfold maxLen;omega) (by omega) ?_;intro v8 w8 M8 h8 _;rw [<-byteVals_append,<-aK] at h8;replace T:=aI h8;clear h8))
     clear z0 z1 z2 z3 hi hz0 hz1 hz2 HRD k1
     have hap4:0 < (acc++En.int (nr:Int)).length:=by rw [aK];omega
     clear hla hpos HAP
     go_loopg [3,11] nr (fun r v i wr=>∃ (k:Nat) (M:List Nat) (acc:List UInt8),k+r=nr/\i=.int .i64 k/\HRow W0 [] M [] [fun M W=>N∉M/\Blk W N 28 #[.int .i64 x.1,.slice A nk c,.slice B nl d,.slice C nr e],fun M W=>SlAt M W A (Sc.kinds x),fun M W=>SlAt M W B x.2.2.1,fun M W=>SlAt M W C x.2.2.2] 5 1 v acc.length (byteVals acc) wr/\0 < acc.length/\acc++((x.2.2.2.drop k).map Sx.encR).flatten=E)
     case atStart=>exact ⟨0,_,_,by omega,rfl,T.out,hap4,HR.out⟩
     case round =>
      clear T HR hap4
      obtain ⟨k,M,acc,hk,rfl,hT,hpos,hacc⟩:=hrel
      obtain ⟨wo,rfl⟩:=aY wr
      obtain ⟨gq,rfl⟩:=aY gk
      have T:=aI hT
      clear hT
      obtain ⟨g,cr,rfl⟩:∃ g cr,u3=.slice (some ⟨g,0,none⟩) acc.length cr:=by
       rcases T.out.own.2 with ⟨h0,_⟩ | ⟨g,cap,cur,h1,_⟩
       ·omega
       ·exact ⟨g,cap,h1⟩
      obtain ⟨z0,z1,z2,z3⟩:=aM4 ((T.out.h.fact (.head _)).2)
      have HAP:=aI hpos
      by_cases hlt:k < nr
      ·have hkp:k < x.2.2.2.length:=by rw [HNR.out];exact hlt
       have k0:(0:Int)<=(k:Int):=aa _
       have k1:(k:Int) < (nr:Int):=by omega
       have HR:=aI hacc
       rw [List.drop_eq_getElem_cons hkp,List.map_cons,List.flatten_cons] at HR
       have kb:=HOB.out.r _ (List.getElem_mem hkp)
       obtain ⟨b,o,us,rfl,_,hr,hc⟩:=SlAt.get (T.out.h.fact (.tail _ (.tail _ (.tail _ (.head _))))) k hkp
       obtain ⟨ru,hru⟩:=aX (x.2.2.2[k])
       rw [hru] at HR kb hr
       obtain ⟨rfl,_⟩:=rep_rul hr
       rw [show Mem.sz Rul=5 from rfl] at hc
       have lq1:=kb.nm;have lq2:=kb.k;have lq3:=kb.a;have lq4:=kb.b;have lq5:=kb.n
       obtain ⟨y0,y1,y2,y3,y4⟩:=aG5 (m:=k*5) hc
       have hla:acc.length+(Sx.encR ru).length<=40000:=by
        have:=congrArg List.length HR.out
        rw [aK,aK] at this
        omega
       obtain ⟨Nr,hNr⟩:=aX wo.heap.size
       have hbw:Blk (wo.alloc (.cells #[.string ru.1,.string ru.2.1,.string ru.2.2.1,.string ru.2.2.2.1,.int .i64 ru.2.2.2.2] 58)) Nr 58 #[.string ru.1,.string ru.2.1,.string ru.2.2.1,.string ru.2.2.2.1,.int .i64 ru.2.2.2.2]:=by rw [<-hNr];exact Blk.new wo _ _
       have hbl:Below wo.heap.size wo (wo.alloc (.cells #[.string ru.1,.string ru.2.1,.string ru.2.2.1,.string ru.2.2.2.1,.int .i64 ru.2.2.2.2] 58)):=(Below.refl wo.heap.size wo).alloc (ag _) _
       have hnm:Nr∉M:=fun hm=>by have:=T.out.h.mb _ hm;omega
       replace T:=aI ((T.out.below hbl).add (P:=fun M W=>Nr∉M/\Blk W Nr 58 #[.string ru.1,.string ru.2.1,.string ru.2.2.1,.string ru.2.2.2.1,.int .i64 ru.2.2.2.2]) (keeps_blk _ _ _) ⟨hnm,hbw⟩)
       clear hacc hru hr hc kb hbw hbl hnm
       have hl1:acc.length+(Sx.encS [ru.1,ru.2.1,ru.2.2.1,ru.2.2.2.1]).length+(En.int ru.2.2.2.2).length<=40000:=by
        unfold Sx.encR at hla;simp only [aK] at hla;omega
       have CB:=aI (fun W g (hB:Blk W g 9 #[.string ru.1,.string ru.2.1,.string ru.2.2.1,.string ru.2.2.2.1])=>show Calls Tryz.prog 102 #[.slice (some ⟨g,0,none⟩) 4 4] W _ from rStrings_any [ru.1,ru.2.1,ru.2.2.1,ru.2.2.2.1] (some ⟨g,0,none⟩) 4 W (SlAt.of_blk (xs:=[.string ru.1,.string ru.2.1,.string ru.2.2.1,.string ru.2.2.2.1]) ⟨[_],_,rfl,⟨rfl,by omega⟩,[_],_,rfl,⟨rfl,by omega⟩,[_],_,rfl,⟨rfl,by omega⟩,[_],[],rfl,⟨rfl,by omega⟩,rfl⟩ hB (by simp)) (by simp) (by intro s hs;simp only [List.mem_cons,List.not_mem_nil,or_false] at hs;rcases hs with rfl | rfl | rfl | rfl <;> omega))
       have CX:=aI (fun w=>rInt_any ru.2.2.2.2 w (by unfold inI;omega))
       go_upto_region 30 with fail
       generalize wo.alloc (.cells #[.string ru.1,.string ru.2.1,.string ru.2.2.1,.string ru.2.2.2.1,.int .i64 ru.2.2.2.2] 58)=w5 at *
       clear hNr y0 y1 y2 y3 y4 z0 z1 z2 z3
       have HGL:=aI T.out.gLt
       go_wp2_with fail
       letI:Grow:=earlyGrow g 5 acc.length (byteVals (Sx.encS [ru.1,ru.2.1,ru.2.2.1,ru.2.2.2.1]))
       apply RG.wp_region_typed (C:=fun w'=>EG g 5 acc.length (byteVals (Sx.encS [ru.1,ru.2.1,ru.2.2.1,ru.2.2.2.1])) w5 w') (n:=194) (m:=15) (l1:=[_,_,_,_,_,_,_,_,_,_,_,_,_,_,_]) (l2:=[_,_])
       ·rfl
       ·rfl
       ·kernel_rfl
       ·rfl
       ·kernel_rfl
       ·exact EG.below ⟨rfl,rfl,rfl,ag _,fun _ _=>rfl⟩
       ·exact fun u u' h hb=>h.trans hb
       iterate 9 ((apply RG.wpT_exact;· (intro w' hC hf;unfold RG.Gives;obtain ⟨c0,c1,c2,c3,c4⟩:=aM5 (((T.out.h.early T.out.ok rfl hC).fact (.head _)).2);clear hf hC;go_wp2_with (fail);apply RG.postT_val rfl (Grow.refl _);simp only [RG.valAt,aV];exact rfl));(try simp only [Act.put,aZ]))
       apply RG.wpT_typed (T:=fun v w=>∃ N,v=.slice (some ⟨N,0,none⟩) 4 4/\w5.heap.size<=N/\Blk w N 9 #[.string ru.1,.string ru.2.1,.string ru.2.2.1,.string ru.2.2.2.1]) (blkN_kept HGL.out)
       ·intro w' hC hf;unfold RG.Gives;have hs:=aI (EG.size hC);clear hf hC
        go_wp2_with fail
        refine RG.postT_mk rfl (EG.below (by go_grown)) ?_;simp only [RG.valAt,aV];exact ⟨_,rfl,hs.out,Blk.new _ _ _⟩
       intro v186;(try simp only [Act.put,aZ])
       apply RG.wpT_typed (T:=RowN w5.heap.size 5 1 (Sx.encS [ru.1,ru.2.1,ru.2.2.1,ru.2.2.2.1]).length (byteVals (Sx.encS [ru.1,ru.2.1,ru.2.2.1,ru.2.2.2.1]))) (rowN_keptE HGL.out)
       ·intro w' hC hf;unfold RG.Gives;have HSZ:=aI (EG.size hC);obtain ⟨N2,rfl,_,hB⟩:=hf.1 rfl;have HBk:=aI hB;clear hB;clear hf hC
        go_wp2_with (go_at_call 102;refine (CB.out _ _ HBk.out).mono ?_;rintro e w2 ⟨v,rfl,hown,hb⟩;have HO:=aI hown;have HBL:=aI hb;clear hown hb)
        refine RG.postT_mk rfl (EG.below HBL.out) ?_;simp only [RG.valAt,aA];exact RowN.of_owns HO.out (encS_pos _) HSZ.out
       intro v187;(try simp only [Act.put,aZ])
       apply RG.wpT_typed (T:=RowE w5.heap.size g 5 1 (acc.length+(Sx.encS [ru.1,ru.2.1,ru.2.2.1,ru.2.2.2.1]).length) (byteVals acc++byteVals (Sx.encS [ru.1,ru.2.1,ru.2.2.1,ru.2.2.2.1]))) (rowE_kept (fun j u h1 h2=>by rw [List.getElem?_append_right (by unfold byteVals;rw [List.length_map];exact h1)] at h2;unfold byteVals at h2 ⊢;rw [List.length_map] at h2;exact h2))
       ·intro w' hC hf;unfold RG.Gives;have hro:=hf.1 rfl;clear hf
        have hbo:=RowN.owns hro (by unfold byteVals;rw [List.length_map,Nat.mul_one])
        obtain ⟨g2,cap2,cur2,rfl,_,_,_⟩:=hro
        obtain ⟨cur3,q1,q2,q3,q4,q5⟩:=T.out.rowE HAP.out hC
        obtain ⟨hi,hz0,hz1,hz2⟩:=HII.out
        refine wpList_append_early (g:=g) (te:=5) (n8:=acc.length) (us:=byteVals (Sx.encS [ru.1,ru.2.1,ru.2.2.1,ru.2.2.2.1])) (B0:=w5.heap.size) (cap:=cr) (n:=acc.length) (cur:=cur3) (xs:=byteVals acc) (by rfl) _ _ 73 (by rfl) i0 _ 1 1 Tryz.underlying73 hi hz0 hz1 hz2 rfl (by decide) (by rfl) q1 q2 q3 q4 q5 (by unfold byteVals;rw [List.length_map,Nat.mul_one]) (by rfl) (reads_own hbo) (encS_pos _) (byteVals_one _) (by rw [Nat.mul_one]) (EG.size hC) (by unfold maxLen;omega) (by omega) ?_
        intro v' w2 k1 k2
        refine RG.postT_mk rfl k2 ?_;simp only [RG.valAt,aA];exact k1
       intro v188;(try simp only [Act.put,aZ])
       iterate 2 ((apply RG.wpT_exact;· (intro w' hC hf;unfold RG.Gives;obtain ⟨c0,c1,c2,c3,c4⟩:=aM5 (((T.out.h.early T.out.ok rfl hC).fact (.head _)).2);clear hf hC;go_wp2_with (fail);apply RG.postT_val rfl (Grow.refl _);simp only [RG.valAt,aV];exact rfl));(try simp only [Act.put,aZ]))
       apply RG.wpT_typed (T:=RowN w5.heap.size 5 1 (En.int ru.2.2.2.2).length (byteVals (En.int ru.2.2.2.2))) (rowN_keptE HGL.out)
       ·intro w' hC hf;unfold RG.Gives;have HSZ:=aI (EG.size hC);clear hf hC
        go_wp2_with (go_at_call 99;refine (CX.out w').mono ?_;rintro e w2 ⟨v,rfl,hown,hb⟩;have HO:=aI hown;have HBL:=aI hb;clear hown hb)
        refine RG.postT_mk rfl (EG.below HBL.out) ?_;simp only [RG.valAt,aA];exact RowN.of_owns HO.out (encI_pos _) HSZ.out
       intro v191;(try simp only [Act.put,aZ])
       apply RG.wpT_done
       intro w6 hC hall
       obtain ⟨M6,hT6⟩:=HRow.early T.out rfl hC hall.2.1 (by rw [aK];unfold byteVals;rw [List.length_map,List.length_map,Nat.mul_one])
       have hown2:=RowN.owns hall.1 (by unfold byteVals;rw [List.length_map,Nat.mul_one])
       obtain ⟨Ab,cb,rfl⟩:=own_form hown2
       have HR6:=aI (reads_own hown2)
       rw [<-byteVals_append,<-aK] at hT6
       replace T:=aI hT6
       clear hT6 hown2 hall hC HGL
       obtain ⟨hi,hz0,hz1,hz2⟩:=HII.out
       refine wpList_append_row (by rfl) _ _ 73 (by rfl) 5 i0 _ 1 1 Tryz.underlying73 hi hz0 hz1 hz2 rfl (by decide) T.out (by rfl) _ _ (En.int ru.2.2.2.2).length _ (byteVals (En.int ru.2.2.2.2)) (by rfl) HR6.out (byteVals_one _) (by rw [aK];unfold maxLen;omega) (by rw [aK];omega) ?_
       intro v9 w9 M9 h9 _
       rw [<-byteVals_append,<-aK] at h9
       replace T:=aI h9
       clear h9 HR6 hi hz0 hz1 hz2
       have HA1:=aI (show ((acc++Sx.encS [ru.1,ru.2.1,ru.2.2.1,ru.2.2.2.1])++En.int ru.2.2.2.2)++((x.2.2.2.drop (k+1)).map Sx.encR).flatten=E by
        rw [<-HR.out];unfold Sx.encR;simp only [List.append_assoc])
       go_wp2_with fail
       go_roundg (gq - 1)
       case measure=>omega
       case rel=>exact ⟨k+1,_,_,by omega,by go_num,T.out.less (fun P hP=>.tail _ hP),by rw [aK,aK];omega,HA1.out⟩
      ·have k1:¬ (k:Int) < (nr:Int):=by omega
       rw [List.drop_eq_nil_of_le (by rw [HNR.out];omega),List.map_nil,List.flatten_nil,List.append_nil] at hacc
       have HAE:=aI hacc
       clear hacc
       go_wp2_with fail
       go_ret
       rw [<-HAE.out]
       exact ⟨_,rfl,owns_mono T.out.own HB.out.size,HB.out.trans (T.out.h.bl.mono HB.out.size)⟩
end
section
theorem flat_bytesX {G:List Nat} {w:World}:∀ (l:List UInt8),Flat G w l (byteVals l)
 | []=>rfl
 | b::l=>⟨[.int .u8 b.toNat],byteVals l,rfl,rfl,flat_bytesX l⟩
theorem rowN_sl {B0:Nat} {l:List UInt8} {v:Value} {w:World} (h:RowN B0 5 1 l.length (byteVals l) v w):∃ A c,v=.slice A l.length c/\SlAt [] w A l:=by
 have ho:=RowN.owns h (by unfold byteVals;rw [List.length_map,Nat.mul_one])
 obtain ⟨A,c,h1,_,_,h4⟩:=Rep.of_own (G:=[]) ho (flat_bytesX l) (fun _ _ h=>by cases h)
 injection h1 with h1 _
 exact ⟨A,c,h1,h4⟩
theorem rsame_any (x:Sch) (us vs:List Value) (w:World) (h:Mem.rep [] w x us) (k:Mem.rep [] w x vs) (OB:Sx.OB x):Calls Tryz.prog 15 #[.agg us.toArray,.agg vs.toArray] w fun e w'=>e=.returned (.bool true)/\Below w.heap.size w w':=by
 have CE1:=aI (fun W (h:Mem.rep [] W x us)=>encode_any x us W h OB)
 have CE2:=aI (fun W (h:Mem.rep [] W x vs)=>encode_any x vs W h OB)
 have hle:=Sx.enc_le OB
 have hpos:0 < (Sx.enc x).length:=by unfold Sx.enc;simp only [aK];have:=encI_pos x.1;omega
 obtain ⟨E,hE⟩:=aX (Sx.enc x)
 unfold BytesP at CE1 CE2
 rw [hE] at CE1 CE2 hle hpos
 have HP:=aI hpos
 have CS:=aI (fun (A B:Option Addr) (c d:Nat) W (ha:SlAt [] W A E) (hb:SlAt [] W B E)=>same_any E E A B c d W ha hb (by omega) (by omega))
 simp only [decide_true] at CS
 obtain ⟨nE,hnE⟩:=aX E.length
 have T0:=aI (((held0 w [] (fun _ h=>by cases h)).add (keeps_rep x us) h).add (keeps_rep x vs) k)
 obtain ⟨A,c,B,d,C,e,rfl,_⟩:=rep_sch h
 obtain ⟨A2,c2,B2,d2,C2,e2,rfl,_⟩:=rep_sch k
 clear h k hE hnE OB hle hpos
 obtain ⟨nk,hk⟩:=aX ((Sc.kinds x).length)
 obtain ⟨nl,hl⟩:=aX x.2.2.1.length
 obtain ⟨nr,hr⟩:=aX x.2.2.2.length
 rw [hk,hl,hr] at T0 CE1 CE2 ⊢
 have T:=aI ((T0.out.made #[.int .i64 x.1,.slice A nk c,.slice B nl d,.slice C nr e] 28 rfl).made #[.int .i64 x.1,.slice A2 nk c2,.slice B2 nl d2,.slice C2 nr e2] 28 rfl)
 clear T0 hk hl hr
 go_enter Tryz.func15,Tryz.ntmps15
 go_upto_region 1 with fail
 have hz:(w.alloc (.cells #[.int .i64 x.1,.slice A nk c,.slice B nl d,.slice C nr e] 28)).heap.size=w.heap.size+1:=by simp
 rw [hz] at T
 clear hz
 generalize (w.alloc (.cells #[.int .i64 x.1,.slice A nk c,.slice B nl d,.slice C nr e] 28)).alloc (.cells #[.int .i64 x.1,.slice A2 nk c2,.slice B2 nl d2,.slice C2 nr e2] 28)=W2 at T ⊢
 generalize w.heap.size+1=N1 at T ⊢
 generalize w.heap.size=N0 at T ⊢
 apply wp_region_typed (C:=fun w'=>Held w [] [] [] [fun M W=>N1∉M/\Blk W N1 28 #[.int .i64 x.1,.slice A2 nk c2,.slice B2 nl d2,.slice C2 nr e2],fun M W=>N0∉M/\Blk W N0 28 #[.int .i64 x.1,.slice A nk c,.slice B nl d,.slice C nr e],fun M W=>Mem.rep M W x [.int .i64 x.1,.slice A2 nk c2,.slice B2 nl d2,.slice C2 nr e2],fun M W=>Mem.rep M W x [.int .i64 x.1,.slice A nk c,.slice B nl d,.slice C nr e]] w') (n:=10) (m:=5) (l1:=[_,_,_,_,_]) (l2:=[_])
 ·rfl
 ·rfl
 ·kernel_rfl
 ·rfl
 ·kernel_rfl
 ·exact T.out.drew
 ·exact fun u u' h hb=>(by first | exact h.below hb | exact h.trans (hb.mono h.size))
 (apply wpT_exact;· (intro w' hC hf;unfold Gives;have q0:=(hC.fact (.tail _ (.head _))).2;obtain ⟨a0,a1,a2,a3⟩:=aN4 q0.cell;have q1:=(hC.fact (.head _)).2;obtain ⟨b0,b1,b2,b3⟩:=aN4 q1.cell;simp at a0 a1 a2 a3 b0 b1 b2 b3;clear q0 q1;clear hf hC;go_wp2_with (fail);apply postT_val rfl (Below.refl _ _);simp only [valAt,aV];exact rfl));(try simp only [Act.put,aZ])
 apply wpT_typed (T:=RowN 0 5 1 E.length (byteVals E)) rowN_bk
 ·intro w' hC hf;unfold Gives;have HR:=aI (hC.fact (.tail _ (.tail _ (.tail _ (.head _)))));clear hf hC
  go_wp2_with (go_at_call 49;refine (CE1.out w' HR.out).mono ?_;rintro e w2 ⟨v,rfl,hown,hb⟩;have HO:=aI hown;have HBL:=aI hb;clear hown hb)
  refine postT_mk rfl HBL.out ?_;simp only [valAt,aA];exact RowN.of_owns HO.out HP.out (Nat.zero_le _)
 intro v6;(try simp only [Act.put,aZ])
 (apply wpT_exact;· (intro w' hC hf;unfold Gives;have q0:=(hC.fact (.tail _ (.head _))).2;obtain ⟨a0,a1,a2,a3⟩:=aN4 q0.cell;have q1:=(hC.fact (.head _)).2;obtain ⟨b0,b1,b2,b3⟩:=aN4 q1.cell;simp at a0 a1 a2 a3 b0 b1 b2 b3;clear q0 q1;clear hf hC;go_wp2_with (fail);apply postT_val rfl (Below.refl _ _);simp only [valAt,aV];exact rfl));(try simp only [Act.put,aZ])
 apply wpT_typed (T:=RowN 0 5 1 E.length (byteVals E)) rowN_bk
 ·intro w' hC hf;unfold Gives;have HR:=aI (hC.fact (.tail _ (.tail _ (.head _))));clear hf hC
  go_wp2_with (go_at_call 49;refine (CE2.out w' HR.out).mono ?_;rintro e w2 ⟨v,rfl,hown,hb⟩;have HO:=aI hown;have HBL:=aI hb;clear hown hb)
  refine postT_mk rfl HBL.out ?_;simp only [valAt,aA];exact RowN.of_owns HO.out HP.out (Nat.zero_le _)
 intro v8;(try simp only [Act.put,aZ])
 (apply wpT_exact;· (intro w' hC hf;unfold Gives;have r8:=hf.1 rfl;have r6:=hf.2.1 rfl;clear hf hC;obtain ⟨A8,c8,rfl,s8⟩:=rowN_sl r8;obtain ⟨A6,c6,rfl,s6⟩:=rowN_sl r6;have S8:=aI s8;have S6:=aI s6;clear r8 r6 s8 s6;go_wp2_with (go_at_call 48;refine (CS.out A6 A8 c6 c8 w' S6.out S8.out).mono ?_;rintro e w2 ⟨rfl,hb⟩;have HBL:=aI hb;clear hb);apply postT_val rfl HBL.out;simp only [valAt,aV];exact rfl));(try simp only [Act.put,aZ])
 apply wpT_done
 intro w4 hC hall
 have HBF:=aI hC.bl
 clear hC hall
 go_wp2_with fail
 go_ret
 exact ⟨rfl,HBF.out⟩
theorem Sx.parse_ob {s:Sx.Txt} {y:Sch} {k e:Int} (h:Sx.parse s=(y,k,e)):Sx.OB y:=by
 have h0:Sx.OB Sx.noSch:=(Sx.okB_bd (by decide))
 unfold Sx.parse at h
 split at h
 ·injection h with h1 h2;subst h1;exact h0
 ·split at h
  ·injection h with h1 h2;subst h1;exact h0
  ·injection h with h1 h2;subst h1;exact h0
  ·split at h
   ·injection h with h1 h2;subst h1;exact h0
   ·split at h
    ·rename_i hv
     injection h with h1 h2;subst h1;exact Sx.okB_bd (Sx.valid_ok hv).1
    ·injection h with h1 h2;subst h1;exact h0
  ·injection h with h1 h2;subst h1;exact h0
theorem rparse_open (s:ByteArray) (w:World) (hs:s.size<=9223372036854775807) {x:Sch} {k e:Int} (hp:Sx.parse s.data.toList=(x,k,e)):Calls Tryz.prog 14 #[.string s] w fun e' w'=>∃ (A:Option Addr) (c:Nat) (B:Option Addr) (d:Nat) (C:Option Addr) (f nk nl nr:Nat),e'=.returned (.tuple #[.agg #[.int .i64 x.1,.slice A nk c,.slice B nl d,.slice C nr f],.int .i64 k,.int .i64 e])/\Mem.rep [] w' x [.int .i64 x.1,.slice A nk c,.slice B nl d,.slice C nr f]/\Below w.heap.size w w':=by
 refine (rparse9_any s w hs).mono ?_
 rintro e' w' ⟨us,h1,h2,h3⟩
 rw [hp] at h1 h2
 obtain ⟨A,c,B,d,C,f,rfl,_⟩:=rep_sch h2
 exact ⟨A,c,B,d,C,f,_,_,_,h1,h2,h3⟩
theorem flat_strsC {G:List Nat} {w:World}:∀ {l:List ByteArray},(∀ t∈l,t.size<=9223372036854775807)->Flat G w l (l.map Value.string)
 | [],_=>rfl
 | t::l,h=>⟨[.string t],l.map Value.string,rfl,⟨rfl,h t (.head _)⟩,flat_strsC fun s hs=>h s (.tail _ hs)⟩
theorem law_parses (l m:List Int) (L0 L1:Option Addr) (c c1:Nat) (at_ how by_:Int) (raw:ByteArray) (w:World) (he:SEnv w) (hl:SlAt [] w L0 l) (hm:SlAt [] w L1 m) (hc:l.length<=c) (hc2:c<=9223372036854775807) (hd:m.length<=c1) (hd2:c1<=9223372036854775807) (h1:inI at_) (h2:inI how) (h3:inI by_) (h4:raw.size<=9223372036854775807) :
  Calls Tryz.prog 3 #[.slice L0 l.length c,.slice L1 m.length c1,.int .i64 at_,.int .i64 how,.int .i64 by_,.string raw] w fun e w'=>e=.returned (.bool true)/\Below w.heap.size w w':=by
 have CG:=aI (gsch_any l L0 c w hl hc hc2)
 have CSR:=aI (fun (x:Sch) (us:List Value) (W:World) (hr:Mem.rep [] W x us) (hv:Sx.valid x=0)=>rsource_any x us W hr (valid_ok hv))
 have CSP:=aI (fun (s:ByteArray) (W:World) (hb:Below w.heap.size w W) (hs:s.size<=8192)=>(spaced_any s m L1 c1 W (by omega) (hm.keep (Chg.of_below hb)) (by omega)).mono (fun e w' (h:StrP (s.size*(s.size+4)) W e w')=>(show StrP 70000000 W e w' by
  obtain ⟨t,k1,k2,k3⟩:=h
  exact ⟨t,k1,ah k2 (ah (Nat.mul_le_mul hs (show s.size+4<=8196 by omega)) (by omega)),k3⟩)))
 have CC:=aI (fun (s:ByteArray) W (hs:s.size<=70000000)=>changed_any s at_ how by_ W (by omega) h1 h2 h3)
 have e6:wrap64 (how.tdiv 6)=how.tdiv 6:=by have:=tdiv6_in h2;unfold inI at this;unfold wrap64;omega
 have h6:=tdiv6_in h2
 obtain ⟨hq,hhq⟩:=aX (how.tdiv 6)
 rw [hhq] at h6
 have CC2:=aI (fun (s:ByteArray) W (hs:s.size<=50000)=>changed_any s by_ hq at_ W (by omega) h3 h6 h1)
 have e8:wrap64 (how.tdiv 6)=hq:=e6.trans hhq
 have CSH:=aI (fun W=>(show Calls Tryz.prog 12 #[.string raw,.int .i64 200] W _ from short_any 200 (by omega) raw W h4))
 have CSI:=aI (fun W=>(show Calls Tryz.prog 12 #[.string raw,.int .i64 40] W _ from short_any 40 (by omega) raw W h4))
 have hfew:=short_le 200 raw
 have hfew2:=short_le 40 raw
 obtain ⟨few,hfe⟩:=aX (shortB 200 raw)
 obtain ⟨few2,hfe2⟩:=aX (shortB 40 raw)
 rw [hfe] at hfew CSH
 rw [hfe2] at hfew2 CSI
 have CL:=aI (fun (W:World) (hb:Below w.heap.size w W)=>lives_any W (he.to hb))
 have CP:=aI (fun (s:ByteArray) (x:Sch) (k e:Int) (W:World) (hb:Below w.heap.size w W) (hs:s.size<=9223372036854775807) (hp:Sx.parse s.data.toList=(x,k,e))=>pparse_open s W hs (he.to hb) hp)
 have CRP:=aI (fun (s:ByteArray) (x:Sch) (k e:Int) (W:World) (hs:s.size<=9223372036854775807) (hp:Sx.parse s.data.toList=(x,k,e))=>rparse_open s W hs hp)
 have CSM:=aI (fun (x:Sch) (us vs:List Value) (W:World) (h:Mem.rep [] W x us) (k:Mem.rep [] W x vs) (OB:Sx.OB x)=>rsame_any x us vs W h k OB)
 unfold GSchP at CG
 unfold StrP at CSP CC CC2
 have HB:=aI (Below.refl w.heap.size w)
 clear he hl hm hc hc2 hd hd2 h1 h2 h3 h4 h6 e6 hhq hfe hfe2
 generalize l.length=ll at *
 generalize m.length=ml at *
 go_enter Tryz.func3,Tryz.ntmps3
 go_upto_region 2 with (first | (go_at_call 9;(with_reducible refine (CG.out).mono ?_);rintro e w1 ⟨x,A1,k1,B1,d1,C1,f1,nk1,nl1,nr1,rfl,hv,hr,hb⟩;have CS1:=aI (CSR.out x _ w1 hr hv);have HSL:=aI (src_len hv);replace HB:=aI hb;clear hv hr hb CG) | (go_at_call 8;refine (CS1.out).mono ?_;rintro e w2 ⟨rfl,hb⟩;replace HB:=aT HB hb;clear hb CS1))
 obtain ⟨s,hs⟩:∃ s:ByteArray,(⟨(Sx.source x).toArray⟩:ByteArray)=s:=⟨_,rfl⟩
 have hs9:s.size<=8192:=by rw [<-hs];show (Sx.source x).toArray.size<=8192;rw [List.size_toArray];exact HSL.out
 rw [hs]
 clear hs HSL CSR
 go_upto_region 4 with (first | (go_at_call 10;(with_reducible refine (CSP.out s _ HB.out hs9).mono ?_);rintro e w3 ⟨t,rfl,ht,hb⟩;replace HB:=aT HB hb;clear hb CSP) | (go_at_call 11;(with_reducible refine (CC.out s _ (by omega)).mono ?_);rintro e w4 ⟨u,rfl,hu,hb⟩;replace HB:=aT HB hb;clear hb))
 go_upto_region 5 with (first | (go_at_call 11;(with_reducible refine (CC2.out u _ (by omega)).mono ?_);rintro e w5 ⟨u2,rfl,hu2,hb⟩;replace HB:=aT HB hb;clear hb CC2) | (go_at_call 11;(with_reducible refine (CC.out t _ (by omega)).mono ?_);rintro e w6 ⟨u3,rfl,hu3,hb⟩;replace HB:=aT HB hb;clear hb CC) | (go_at_call 12;(with_reducible refine aS (CSH.out _) ?_)) | (go_at_call 12;(with_reducible refine aS (CSI.out _) ?_)))
 have HTS:=aI (show ∀ q9∈[s,t,u,u2,u3,few,((⟨#[115,99,104,101,109,97,32,49,32]⟩:ByteArray)++few),(s++few2)],q9.size<=9223372036854775807 from fun q9 ht=>by
  simp only [List.mem_cons,List.not_mem_nil,or_false] at ht
  rcases ht with rfl | rfl | rfl | rfl | rfl | rfl | rfl | rfl <;> (first | omega | (rw [ByteArray.size_append];first | omega | (have h9:(⟨#[115,99,104,101,109,97,32,49,32]⟩:ByteArray).size=9:=rfl;omega))))
 have HSL:=aI (show SlAt [] (w6.alloc (.cells #[.string s,.string t,.string u,.string u2,.string u3,.string few,.string ((⟨#[115,99,104,101,109,97,32,49,32]⟩:ByteArray)++few),.string (s++few2)] 9)) (some ⟨w6.heap.size,0,none⟩) [s,t,u,u2,u3,few,((⟨#[115,99,104,101,109,97,32,49,32]⟩:ByteArray)++few),(s++few2)] from SlAt.of_blk (flat_strsC (l:=[s,t,u,u2,u3,few,((⟨#[115,99,104,101,109,97,32,49,32]⟩:ByteArray)++few),(s++few2)]) HTS.out) (Blk.new _ _ _) (by simp))
 replace HB:=aI (HB.out.alloc HB.out.size (.cells #[.string s,.string t,.string u,.string u2,.string u3,.string few,.string ((⟨#[115,99,104,101,109,97,32,49,32]⟩:ByteArray)++few),.string (s++few2)] 9))
 generalize w6.alloc (.cells #[.string s,.string t,.string u,.string u2,.string u3,.string few,.string ((⟨#[115,99,104,101,109,97,32,49,32]⟩:ByteArray)++few),.string (s++few2)] 9)=w9 at *
 obtain ⟨Nt,hNt⟩:=aX w6.heap.size
 rw [hNt] at HSL
 (try rw [hNt])
 obtain ⟨ts,hts⟩:∃ l:List ByteArray,[s,t,u,u2,u3,few,((⟨#[115,99,104,101,109,97,32,49,32]⟩:ByteArray)++few),(s++few2)]=l:=⟨_,rfl⟩
 have HTL:=aI (show ts.length=8 by rw [<-hts];rfl)
 rw [hts] at HSL HTS
 clear hts hNt hs9 ht hu hu2 hu3 hfew hfew2 e8 CSH CSI
 go_wp2_with fail
 go_loopg [17] 8 (fun r i wr=>∃ j:Nat,j+r=8/\i=.int .i64 j/\Below w9.heap.size w9 wr)
 case atStart=>exact ⟨0,by omega,rfl,Below.refl _ _⟩
 case round =>
  obtain ⟨j,hj,rfl,hT⟩:=hrel
  obtain ⟨wo,rfl⟩:=aY wr
  have HW:=aI hT
  clear hT
  have HBO:=aI (HB.out.trans (HW.out.mono HB.out.size))
  by_cases hlt:j < 8
  ·have hjp:j < ts.length:=by rw [HTL.out];exact hlt
   have j0:(0:Int)<=(j:Int):=aa _
   have j1:(j:Int) < 8:=by omega
   obtain ⟨b,o,hA,_,d0,_⟩:=str_at (HSL.out.keep (Chg.of_below HW.out)) j hjp
   injection hA with hA
   injection hA with hA1 hA2 _
   subst hA1 hA2
   have hsz:=HTS.out _ (List.getElem_mem hjp)
   obtain ⟨t,ht⟩:=aX (ts[j])
   rw [ht] at d0 hsz
   rw [Nat.zero_add] at d0
   have HD:=aI (fun (W:World) (hb:Below wo.heap.size wo W)=>(hb.cell (World.block_lt_of_cell? _ _ d0)).trans d0)
   clear ht
   obtain ⟨y,k,e,hpr⟩:∃ y k e,Sx.parse t.data.toList=(y,k,e):=⟨_,_,_,rfl⟩
   have CP1:=aI (CP.out t y k e wo HBO.out hsz hpr)
   have CP2:=aI (fun W=>CRP.out t y k e W hsz hpr)
   have OB:=aI (Sx.parse_ob hpr)
   have q1:(k != k)=false:=by simp
   have q2:(e != e)=false:=by simp
   clear hpr hsz
   go_upto_region 9 with (go_at_call 13;(with_reducible refine (CP1.out).mono ?_);rintro e' w6 ⟨A2,c2,B2,d2,C2,g2,nk2,nl2,nr2,rfl,hr,hb⟩;have HX:=aI hb;have HR:=aI hr;clear hb hr)
   have HB1:=aI ((Below.refl w6.heap.size w6).alloc (ag _) (.cells #[.int .i64 y.1,.slice A2 nk2 c2,.slice B2 nl2 d2,.slice C2 nr2 g2] 28))
   have KA:=aI (Blk.new w6 28 #[.int .i64 y.1,.slice A2 nk2 c2,.slice B2 nl2 d2,.slice C2 nr2 g2])
   replace HR:=aI (Mem.keep HR.out (Chg.of_below HB1.out))
   replace HX:=aI (HX.out.trans (HB1.out.mono HX.out.size))
   clear HB1
   obtain ⟨N1,hN1⟩:=aX w6.heap.size
   generalize w6.alloc (.cells #[.int .i64 y.1,.slice A2 nk2 c2,.slice B2 nl2 d2,.slice C2 nr2 g2] 28)=w7 at *
   rw [hN1] at KA
   (try rw [hN1])
   clear hN1
   replace d0:=HD.out _ HX.out
   go_upto_region 10 with (go_at_call 14;(with_reducible refine (CP2.out _).mono ?_);rintro e' w8 ⟨A3,c3,B3,d3,C3,g3,nk3,nl3,nr3,rfl,hr,hb⟩;have HY:=aI hb;have HR2:=aI hr;clear hb hr d0)
   have HB1:=aI ((Below.refl w8.heap.size w8).alloc (ag _) (.cells #[.int .i64 y.1,.slice A3 nk3 c3,.slice B3 nl3 d3,.slice C3 nr3 g3] 28))
   have KB:=aI (Blk.new w8 28 #[.int .i64 y.1,.slice A3 nk3 c3,.slice B3 nl3 d3,.slice C3 nr3 g3])
   replace HR2:=aI (Mem.keep HR2.out (Chg.of_below HB1.out))
   replace HY:=aI (HY.out.trans (HB1.out.mono HY.out.size))
   clear HB1
   obtain ⟨N2,hN2⟩:=aX w8.heap.size
   generalize w8.alloc (.cells #[.int .i64 y.1,.slice A3 nk3 c3,.slice B3 nl3 d3,.slice C3 nr3 g3] 28)=w9 at *
   rw [hN2] at KB
   (try rw [hN2])
   clear hN2
   replace KA:=aI (KA.out.below HY.out KA.out.lt)
   have CSM1:=aI (CSM.out y _ _ w9 (Mem.keep HR.out (Chg.of_below HY.out)) HR2.out OB.out)
   replace HW:=aI (HW.out.trans ((HX.out.trans (HY.out.mono HX.out.size)).mono HW.out.size))
   obtain ⟨z0,z1,z2,z3⟩:=aM4 (KA.out)
   obtain ⟨y0,y1,y2,y3⟩:=aM4 (KB.out)
   go_wp2_with (go_at_call 15;(with_reducible refine (CSM1.out).mono ?_);rintro e w10 ⟨rfl,hb⟩;replace HW:=aT HW hb;clear hb)
   go_roundg (gk - 1)
   case measure=>omega
   case rel=>exact ⟨j+1,by omega,by go_num,HW.out⟩
  ·have j1:¬ (j:Int) < 8:=by omega
   have CLE:=aI (CL.out wo HBO.out)
   go_wp2_with (go_at_call 16;(with_reducible refine (CLE.out).mono ?_);rintro e w6 ⟨rfl,hb⟩;replace HBO:=aT HBO hb;clear hb)
   go_ret
   exact ⟨rfl,HBO.out⟩
open Go Go.ChangeShapes Go.WideShapes Go.ChangeAt Go.RowKit
theorem own:ownKnob Tryz.prog.godebug=none:=by kernel_rfl
theorem gPowS : Tryz.prog.globalNamed "internal/strconv.uint64pow10" = some 5 := by kernel_rfl
theorem gB64S : Tryz.prog.globalNamed "math/bits.deBruijn64tab" = some 8 := by kernel_rfl
theorem gWordsS : Tryz.prog.globalNamed "diorama/schema.words" = some 0 := by kernel_rfl
theorem tPow:(Tryz.prog.globals[5]?).map (·.type)=some 213:=by kernel_rfl
theorem tWords:(Tryz.prog.globals[0]?).map (·.type)=some 129:=by kernel_rfl
theorem tSyn:(Tryz.prog.globals[1]?).map (·.type)=some 124:=by kernel_rfl
theorem tRng:(Tryz.prog.globals[2]?).map (·.type)=some 124:=by kernel_rfl
theorem rowErr (u : TypeId) (h : Tryz.prog.typeName? 3 u = some "*errors.errorString") : u = 196 :=
 typeName_ptr_named (nm := "errors.errorString") (by rw [show ("*" ++ "errors.errorString" : String) = "*errors.errorString" from by decide]; kernel_rfl) (by kernel_rfl) (by decide) u (by rw [show ("*" ++ "errors.errorString" : String) = "*errors.errorString" from by decide]; exact h)
abbrev laidAll:List (String × DataW Unit):=Rows.schemaBeginningsRow.laid
theorem cells_of_strs {H:Type} {enc:TypeId × Value->H} {P:Program} {w:World} {base:Nat} {sp:Nat->Bool} {held:Bool} {fuel:Nat} {t e:TypeId} {n:Nat} {cs:List Value} {zs:List (List UInt8)} {p:List MemPlace}
  (ht:P.underlying t=some (.array n e)) (he:P.underlying e=some .string) (hce:P.cellsOf e=1) (hct:P.cellsOf t=n)
  (h:DataW.trod enc P w base sp held fuel t cs=some (.agg (zs.map fun z=>.lit (.string z)),p)):cs=zs.map fun z=>Value.string (Sx.ofT z):=by
 cases fuel with
 | zero=>simp [DataW.trod] at h
 | succ fuel =>
  simp only [DataW.trod,ht,hce,hct,Nat.mul_one] at h
  split at h
  ·rename_i hl
   obtain ⟨xs,hm,hx⟩:=Option.map_eq_some_iff.1 h
   have hxs:xs.map (·.1)=zs.map fun z=>(DataW.lit (.string z):DataW H):=by
    have:=congrArg Prod.fst hx
    simpa using this
   have hxl:xs.length=n:=by simpa using Lib.mapM_length hm
   have hzl:zs.length=n:=by
    have:=congrArg List.length hxs
    simp at this
    omega
   apply List.ext_getElem?
   intro i
   by_cases hi:i < n
   ·obtain ⟨b,hb,hf⟩:=Lib.mapM_at hm i i (by simp [hi])
    obtain ⟨z,hc,rfl,_⟩:=DataW.trod_string he hf
    have h1:cs[i]?=some (.string z):=by
     have:=congrArg (·[0]?) hc
     simpa [List.getElem?_take,List.getElem?_drop] using this
    have h2:(xs.map (·.1))[i]?=some (DataW.lit (.string z.data.toList):DataW H):=by simp [hb]
    rw [hxs] at h2
    simp only [List.getElem?_map,Option.map_eq_some_iff,DataW.lit.injEq,Lit.string.injEq] at h2
    obtain ⟨z',hz',h3⟩:=h2
    rw [h1,List.getElem?_map,hz']
    have:Sx.ofT z'=z:=by rw [h3];unfold Sx.ofT;simp
    rw [<-this];rfl
   ·rw [List.getElem?_eq_none (by omega),List.getElem?_eq_none (by simp;omega)]
  ·cases h
theorem size_of_var {P:Program} {w:World} {n:String} {g:Nat} {cs:Array Value} (hg:P.globalNamed n=some g) (h:w.var? P n=some cs):g < w.heap.size:=by
 unfold World.var? at h
 rw [hg] at h
 rcases Nat.lt_or_ge g w.heap.size with h' | h'
 ·exact h'
 ·simp [Array.getElem?_eq_none h'] at h
theorem senv_of_laid {W:World} (hL:laidMetH Tryz.prog laidAll W):SEnv W:=by
 have h:laidMet Tryz.prog laidAll W:=hL
 have h2:=h.tail
 have h3:=h2.tail
 have h4:=h3.tail
 have h5:=h4.tail
 have h6:=h5.tail
 have h7:=h6.tail
 obtain ⟨a1,s1,hv1,_⟩:=laid_sentinel h5 gRng tRng Tryz.underlying124 rowErr Tryz.underlying196 Tryz.underlying198 rfl rfl Tryz.underlying9 (by kernel_rfl) (by kernel_rfl)
 obtain ⟨a0,s0,hv0,_⟩:=laid_sentinel h6 gSyn tSyn Tryz.underlying124 rowErr Tryz.underlying196 Tryz.underlying198 rfl rfl Tryz.underlying9 (by kernel_rfl) (by kernel_rfl)
 have hT : Lib.TabIs Tryz.prog W "internal/strconv.uint64pow10" .u64 Lib.pow10Tab := Lib.tabIs_of_head gPowS tPow Tryz.underlying213 Tryz.underlying183 (by kernel_rfl) (by kernel_rfl) h3
 have hp:5 < W.heap.size:=by
  unfold Lib.TabIs at hT
  exact size_of_var gPowS hT
 obtain ⟨_,⟨g4,t4,cs,_,_,_,hg4,ht4,hv4,hd,_⟩,_⟩:=h7
 obtain rfl:=Option.some.inj (gWordsS.symm.trans hg4)
 obtain rfl:=Option.some.inj (tWords.symm.trans ht4)
 have hcs:=cells_of_strs (zs:=Sx.wordsL) Tryz.underlying129 Tryz.underlying9 (by kernel_rfl) (by kernel_rfl) hd
 have hs:=size_of_var gSyn hv0
 have hr:=size_of_var gRng hv1
 have hw:=size_of_var gWordsS hv4
 refine ⟨⟨hT,hp⟩,⟨_,_,hv0⟩,⟨_,_,hv1⟩,fun k hk=>?_,?_⟩
 ·rw [World.var?_cell gWordsS hv4 k,<-Array.getElem?_toList,hcs]
  rw [List.getElem?_map,List.getElem?_eq_getElem (show k < Sx.wordsL.length from hk)]
  unfold wdS
  rw [List.getD_eq_getElem?_getD,List.getElem?_eq_getElem (show k < Sx.wordsL.length from hk)]
  rfl
 ·obtain ⟨_,⟨g5,_,_,_,_,_,hg5,_,hv5,_⟩,_⟩:=h2
  obtain rfl:=Option.some.inj (gB64S.symm.trans hg5)
  exact Nat.lt_of_le_of_lt (by decide) (size_of_var gB64S hv5)
theorem laid_met (os:Os) (args:Array Value):laidMet Tryz.prog laidAll ((World.laidAll Tryz.prog os laidAll).forCall (fun _ _=>0) ⟨#[],args,[]⟩).memory :=
 laidMet_laidAll args (by kernel_rfl) (by kernel_rfl)
section
variable {H:Type} {enc:TypeId × Value->H} {P:Program}
theorem post_low {f:Func} {s:ChangeSpec} {apart fresh handsOn again:Bool} {W W':World} {args:Array Value} {v:Value} {ds gs:List (DataW H)} {before:List MemPlace}
  (hW:DataW.Whole enc P f.params.toList s.vars apart W args.toList ds gs before) (hb:Below W.heap.size W W')
  (hres:∀ (b:Nat) (sp:Nat->Bool) (hd:Bool),DataW.TrodAll enc P W' b sp hd f.resultTypes.toList (v.resultList f.resultTypes.size) (s.fn H (ds++gs)).results [])
  (hargs:∀ sp:Nat->Bool,(∀ p∈before,sp p.block=true)->DataW.TrodAll enc P W' 0 sp true f.params.toList args.toList (s.fn H (ds++gs)).args before)
  (hvars:∀ sp:Nat->Bool,DataW.TrodVars enc P W' sp s.vars (s.fn H (ds++gs)).vars [])
  (hok:∀ (j:Nat) (t:TypeId) (r:Value),f.resultTypes[j]?=some t->(v.resultList f.resultTypes.size)[j]?=some r->Value.okWide P W' .any 0 t r) :
  s.post enc P f apart fresh handsOn again W args v W':=by
 have hold:∀ p∈before,(fun b=>decide (b < W.heap.size)) p.block=true:=fun p hp=>decide_eq_true (hW.lt p hp)
 have hz2:=hW
 obtain ⟨_,_,_,_,_,hz,hn⟩:=hz2
 have hwhole:DataW.TrodAll enc P W' 0 (fun _=>true) true f.params.toList args.toList (s.fn H (ds++gs)).args before:=hargs _ (fun _ _=>rfl)
 refine ⟨ds,gs,before,[],before,[],hW,hres _ _ _,hargs _ hold,hvars _,World.keptBut_mono (fun p hp=>⟨hp,.inr (.inl hp)⟩) (hb.frame (·∈before)),fun _=>?_⟩
 refine ⟨hok,_,_,([]++before)++[],⟨[]++before,[],trodAll_append hwhole (hres _ _ _),hvars _,rfl,?_,?_⟩,?_⟩
 ·intro b off hp
  have hin:MemPlace.cell b off∈before:=by simpa using hp
  rw [hb.frozen (hW.lt _ hin)]
  exact hz b off hin
 ·intro ha
  have:=hn ha
  simpa using this
 ·intro p hp _
  simpa using hp
end
theorem laidOut:laidOutB Tryz.prog=true:=by kernel_rfl
section
variable {H:Type} {enc:TypeId × Value->H} {P:Program}
theorem trodAll_stays (hl:laidOutB P=true) {W W':World} {sp:Nat->Bool}:∀ (ts:List TypeId) (vs:List Value) (ds:List (DataW H)) (ps:List MemPlace),
  (ts.all fun t=>P.readableRec t && decide (t < P.types.size))=true->DataW.TrodAll enc P W 0 (fun _=>true) true ts vs ds ps->(∀ p∈ps,W.sameAt W' p)->(∀ p∈ps,sp p.block=true)->DataW.TrodAll enc P W' 0 sp true ts vs ds ps
 | [],vs,ds,ps,_,h,_,_=>by
  match vs,ds,h with
  | [],[],h=>exact h
 | t::ts,vs,ds,ps,ht,h,hs,hp=>by
  obtain ⟨v,vs',d,ds',p,q,rfl,rfl,rfl,h1,h2⟩:=trodAll_cons h
  simp only [List.all_cons,Bool.and_eq_true,decide_eq_true_eq] at ht
  exact trodAll_cons_mk (WideElems.Trod_stays hl ht.1.1 ht.1.2 h1 (fun x hx=>hs x (List.mem_append_left _ hx)) (fun x hx=>hp x (List.mem_append_left _ hx)))
   (trodAll_stays hl ts vs' ds' q ht.2 h2 (fun x hx=>hs x (List.mem_append_right _ hx)) (fun x hx=>hp x (List.mem_append_right _ hx)))
theorem post_law {f:Func} {s:ChangeSpec} {apart fresh handsOn again:Bool} {W W':World} {args:Array Value} {ds:List (DataW H)} {before:List MemPlace} {tb:TypeId}
  (hl:laidOutB P=true) (hts:(f.params.toList.all fun t=>P.readableRec t && decide (t < P.types.size))=true) (hr:f.resultTypes=#[tb]) (htb:P.underlying tb=some .bool)
  (hW:DataW.Whole enc P f.params.toList s.vars apart W args.toList ds [] before) (hb:Below W.heap.size W W') (hv:s.vars=[])
  (hs:s.fn H ds={ results:=[.lit (.bool true)],args:=ds }):s.post enc P f apart fresh handsOn again W args (.bool true) W':=by
 have hW0:=hW
 obtain ⟨p,q,hA,hV,hpq,hz,hn⟩:=hW
 have hq:q=[]:=by rw [hv] at hV;exact (trodVars_none hV).2
 have hA':DataW.TrodAll enc P W 0 (fun _=>true) true f.params.toList args.toList ds before:=by
  have e:before=p:=by rw [hpq,hq,List.append_nil]
  rw [e];exact hA
 refine post_low hW0 hb ?_ ?_ ?_ (ok_one hr rfl (okWide_bool_mk htb _))
 ·intro b sp hd
  rw [List.append_nil,hs]
  show DataW.TrodAll enc P W' b sp hd f.resultTypes.toList ((Value.bool true).resultList f.resultTypes.size) [.lit (.bool true)] []
  rw [hr]
  exact trodAll_cons_mk (shut_bool htb _) trodAll_mk0
 ·intro sp hsp
  rw [List.append_nil,hs]
  exact trodAll_stays hl _ _ _ _ hts hA' (fun x hx=>hb.same (hW0.lt x hx)) hsp
 ·intro sp
  rw [List.append_nil,hs,hv]
  rfl
end
theorem inI_of_wf {x:Int} (h:(Lit.int .i64 x).wf=true):inI x:=by
 have h2:-9223372036854775808<=x/\x<=9223372036854775807:=by
  simp [Lit.wf,IntKind.min,IntKind.max,IntKind.signed,IntKind.bits] at h
  omega
 exact h2
section
variable {H:Type} {enc:TypeId × Value->H} {P:Program} {W:World} {t e:TypeId} {v:Value} {d:DataW H} {ps:List MemPlace} {b0:Nat}
theorem arg_int (ht:P.underlying t=some (.int .i64)) (hv:Value.okWide P W .any b0 t v) (h:DataW.Trod enc P W 0 (fun _=>true) true t v d ps):∃ a,v=.int .i64 a/\inI a:=by
 obtain ⟨a,rfl,_,_,hw⟩:=open_int ht hv h
 exact ⟨a,rfl,inI_of_wf hw⟩
theorem arg_str (ht:P.underlying t=some .string) (hv:Value.okWide P W .any b0 t v) (h:DataW.Trod enc P W 0 (fun _=>true) true t v d ps):∃ s:ByteArray,v=.string s/\s.size<=9223372036854775807:=by
 obtain ⟨s,rfl,_,_,hs⟩:=ChangeMaps.open_string ht hv h
 exact ⟨s,rfl,hs⟩
theorem arg_ints (ht:P.underlying t=some (.slice e)) (he:P.underlying e=some (.int .i64)) (hc:P.cellsOf e=1) (hv:Value.okWide P W .any b0 t v)
  (h:DataW.Trod enc P W 0 (fun _=>true) true t v d ps) (hlt:∀ p∈ps,p.block < W.heap.size):∃ A n c L,v=.slice A n c/\Ints W W.heap.size A n L/\AllI L/\n<=9223372036854775807:=by
 obtain ⟨A,n,c,rfl⟩:=okWide_slice ht hv
 obtain ⟨fuel,hf⟩:=h
 rcases open_ints ht he hc hf with ⟨hcs,_⟩ | ⟨a,len,cap,zs,hcs,_,hl,hm,hz,hx,hcell,hw⟩
 ·simp [Value.cells] at hcs
  obtain ⟨rfl,rfl,rfl⟩:=hcs
  exact ⟨none,0,0,[],rfl,Ints.nil,fun _ h=>(by cases h),by omega⟩
 ·simp [Value.cells] at hcs
  obtain ⟨rfl,rfl,rfl⟩:=hcs
  simp only [Prod.mk.injEq] at hx
  obtain ⟨rfl,rfl⟩:=hx
  simp only [if_true] at hz
  have hL:(zs.take n).length=n:=by rw [List.length_take];omega
  refine ⟨some a,n,c,zs.take n,rfl,⟨by simp [intVals];omega,fun hn=>⟨a,rfl,hlt (.cell a.block a.off) (MemPlace.mem_row.2 ⟨0,by omega,by simp⟩),fun j u hu=>?_⟩⟩,fun x hx=>inI_of_wf (hw x (List.mem_of_mem_take hx)),by unfold maxLen at hm;omega⟩
  have hj:j < n:=by
   have:=(List.getElem?_eq_some_iff.1 hu).1
   simp [intVals] at this;omega
  rw [intVals_get (by omega)] at hu
  obtain rfl:=Option.some.inj hu
  rw [hcell j (by omega)]
  simp [List.getD,hj]
end
theorem ints_sl {W:World} {A:Option Addr} {n:Nat} {L:List Int} (h:Ints W W.heap.size A n L) (hL:AllI L):SlAt [] W A L:=by
 rcases Nat.eq_zero_or_pos n with hn | hn
 ·have:=h.len
  rw [hn] at this
  exact .inl (List.eq_nil_of_length_eq_zero this)
 ·obtain ⟨b,off,rfl,hb,hc⟩:=h.form hn
  refine .inr ⟨b,off,rfl,hb,(fun h=>by cases h),fun i hi=>⟨[.int .i64 L[i]],⟨rfl,hL _ (List.getElem_mem hi)⟩,fun j u hu=>?_⟩⟩
  match j,hu with
  | 0,hu =>
   obtain rfl:=Option.some.inj hu
   have:=hc i hi
   rw [show i*Mem.sz Int+0=i from Nat.mul_one i,this]
   simp [List.getD,List.getElem?_eq_getElem hi]
theorem arg_sl {H:Type} {enc:TypeId × Value->H} {P:Program} {W:World} {t e:TypeId} {v:Value} {d:DataW H} {ps:List MemPlace} {b0:Nat} (ht:P.underlying t=some (.slice e)) (he:P.underlying e=some (.int .i64)) (hc:P.cellsOf e=1) (hv:Value.okWide P W .any b0 t v)
  (h:DataW.Trod enc P W 0 (fun _=>true) true t v d ps) (hlt:∀ p∈ps,p.block < W.heap.size):∃ (A:Option Addr) (c:Nat) (L:List Int),v=.slice A L.length c/\SlAt [] W A L/\L.length<=c/\c<=9223372036854775807:=by
 obtain ⟨A,n,c,L,rfl,hI,hA,hn⟩:=arg_ints ht he hc hv h hlt
 have hb:n<=c/\c<=9223372036854775807:=by
  obtain ⟨fuel,hf⟩:=h
  rcases open_ints ht he hc hf with ⟨hcs,_⟩ | ⟨a,len,cap,zs,hcs,_,hl,hm,_⟩
  ·simp [Value.cells] at hcs
   omega
  ·simp [Value.cells] at hcs
   unfold maxLen at hm
   omega
 exact ⟨A,c,L,by rw [hI.len],ints_sl hI hA,by rw [hI.len];exact hb.1,hb.2⟩
end
end Go.Proofs.YtmplaikgbeeikaaGreatDoor
