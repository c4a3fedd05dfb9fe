/- Parts of the proof, joined: SxN5, SxN6, SxLaw9. -/
import Derived.Test.YtmplaikgbeeikaaGreatDoorK2
import Derived.Test.YtmplaikgbeeikaaGreatDoorK15
import Derived.Test.YtmplaikgbeeikaaGreatDoorK17
import Derived.Test.YtmplaikgbeeikaaGreatDoorK26
import Derived.WalkLawsBesides
set_option linter.unusedVariables false
set_option linter.unusedSimpArgs false
set_option linter.unusedSectionVars false
namespace Go.Proofs.YtmplaikgbeeikaaGreatDoor
open Go Go.RowKit
theorem infoIN:(Tryz.prog.info? 3).map (fun i=>(i.zero,i.size,i.bytes))=some (some (.int .i64 0),1,8):=by kernel_rfl
theorem rowN_bk {B0:Nat} {te:TypeId} {size n:Nat} {xs:List Value}:Kept (RowN B0 te size n xs):=by
 rintro v w w' ⟨g',cap,cur,h1,h2,h3,h4⟩ hr
 exact ⟨g',cap,cur,h1,h2,(hr.block g' h3.lt).trans h3,h4⟩
theorem encI_pos (n:Int):0 < (En.int n).length:=by rw [En.int_length];omega
theorem encIs_pos (l:List Int):0 < (En.ints l).length:=by unfold En.ints;rw [aK];have:=encI_pos (l.length:Int);omega
theorem encB_pos (s:ByteArray):0 < (Sx.encB s).length:=by unfold Sx.encB;rw [aK];have:=encI_pos (s.size:Int);omega
theorem encS_pos (l:List ByteArray):0 < (Sx.encS l).length:=by unfold Sx.encS;rw [aK];have:=encI_pos (l.length:Int);omega
set_option maxRecDepth 100000 in
set_option maxHeartbeats 16000000 in
theorem encode_any (x:Sch) (us:List Value) (w:World) (h:Mem.rep [] w x us) (OB:Sx.OB x):Calls Tryz.prog 49 #[.agg us.toArray] w (BytesP (Sx.enc x) w):=by
 obtain ⟨A,c,B,d,C,e,rfl,s1,s2,s3,a1,b1,b2,b3,b4,b5,b6⟩:=rep_sch h
 have HOB:=aI OB
 have hx0:=OB.v
 have hnk:=OB.nk;have hnl:=OB.nl;have hnr:=OB.nr
 obtain ⟨E,hE⟩:∃ s,Sx.enc x=s:=⟨_,rfl⟩
 have hEl:E.length≤40000:=by rw [← hE];exact Sx.enc_le OB
 obtain ⟨R1,hR1⟩:∃ R,En.int x.2.2.1.length++((x.2.2.1.map Sx.encL).flatten++(En.int x.2.2.2.length++(x.2.2.2.map Sx.encR).flatten))=R:=⟨_,rfl⟩
 have HEQ:=aI (show (En.int x.1++En.int (Sc.kinds x).length)++(((Sc.kinds x).map Sx.encK).flatten++R1)=E by
  rw [← hE,← hR1];unfold Sx.enc;simp only [List.append_assoc])
 have HR1:=aI hR1
 obtain ⟨i0,hi,hz0,hz1,hz2⟩:=info_parts infoU8
 have HII:=aI (show _∧_∧_∧_ from ⟨hi,hz0,hz1,hz2⟩)
 clear hi hz0 hz1 hz2
 obtain ⟨iI,hi,hz0,hz1,hz2⟩:=info_parts infoIN
 have HIN:=aI (show _∧_∧_∧_ from ⟨hi,hz0,hz1,hz2⟩)
 obtain ⟨nk,hk⟩:∃ n,(Sc.kinds x).length=n:=⟨_,rfl⟩
 obtain ⟨nl,hl⟩:∃ n,x.2.2.1.length=n:=⟨_,rfl⟩
 obtain ⟨nr,hr⟩:∃ n,x.2.2.2.length=n:=⟨_,rfl⟩
 have HNK:=aI hk;have HNL:=aI hl;have HNR:=aI hr
 rw [hk] at hnk HEQ;rw [hl] at hnl;rw [hr] at hnr
 obtain ⟨N,hN⟩:∃ n,w.heap.size=n:=⟨_,rfl⟩
 obtain ⟨W0,hW0⟩:∃ X,w.alloc (.cells #[.int .i64 x.1,.slice A nk c,.slice B nl d,.slice C nr e] 28)=X:=⟨_,rfl⟩
 have hb0:Below w.heap.size w W0:=by rw [← hW0];exact (Below.refl w.heap.size w).alloc (Nat.le_refl _) _
 have hbk:Blk W0 N 28 #[.int .i64 x.1,.slice A nk c,.slice B nl d,.slice C nr e]:=by rw [← hW0,← hN];exact Blk.new w _ _
 have T:=aI (show Held W0 [] [] [] [fun M W=>N∉M∧Blk W N 28 #[.int .i64 x.1,.slice A nk c,.slice B nl d,.slice C nr e],fun M W=>SlAt M W A (Sc.kinds x),fun M W=>SlAt M W B x.2.2.1,fun M W=>SlAt M W C x.2.2.2] W0 from ((((held0 W0 [] (fun _ h=>by cases h)).add (keeps_sl C x.2.2.2) (s3.keep (Chg.of_below hb0))).add (keeps_sl B x.2.2.1) (s2.keep (Chg.of_below hb0))).add (keeps_sl A (Sc.kinds x)) (s1.keep (Chg.of_below hb0))).add (P:=fun M W=>N∉M∧Blk W N 28 #[.int .i64 x.1,.slice A nk c,.slice B nl d,.slice C nr e]) (keeps_blk _ _ _) ⟨by simp,hbk⟩)
 have HB:=aI hb0
 have HW0:=aI hW0
 have HN:=aI hN
 show Calls Tryz.prog 49 #[.agg #[.int .i64 x.1,.slice A (Sc.kinds x).length c,.slice B x.2.2.1.length d,.slice C x.2.2.2.length e]] w _
 rw [hk,hl,hr,hE]
 clear h s1 s2 s3 a1 b1 b2 b3 b4 b5 b6 hk hl hr hbk hb0 hW0 hN OB hE hR1 hi hz0 hz1 hz2
 have CI1:=aI (fun w=>rInt_any x.1 w (by unfold inI;omega))
 have CI2:=aI (fun w=>rInt_any (nk:Int) w (by unfold inI;omega))
 have CI3:=aI (fun w=>rInt_any (nl:Int) w (by unfold inI;omega))
 have CI4:=aI (fun w=>rInt_any (nr:Int) w (by unfold inI;omega))
 go_enter Tryz.func49,Tryz.ntmps49
 go_upto_region 1 with fail
 rw [HW0.out,HN.out]
 apply wp_region_typed (C:=fun w'=>Below W0.heap.size W0 w') (n:=194) (m:=7) (l1:=[_,_,_,_,_,_,_]) (l2:=[_,_])
 ·rfl
 ·rfl
 ·kernel_rfl
 ·rfl
 ·kernel_rfl
 ·exact ⟨rfl,rfl,rfl,Nat.le_refl _,fun _ _=>rfl⟩
 ·exact fun u u' h hb=>(by first | exact h.below hb | exact h.trans (hb.mono h.size))
 iterate 2 ((apply wpT_exact;· (intro w' hC hf;unfold Gives;have hbk:=((T.out.below hC).fact (.head _)).2;have z0:=hbk.cell 0;have z1:=hbk.cell 1;have z2:=hbk.cell 2;have z3:=hbk.cell 3;simp at z0 z1 z2 z3;clear hbk;clear hf hC;go_wp2_with (fail);apply postT_val rfl (Below.refl _ _);simp only [valAt,aA,aE,aC,aD,aH];exact rfl));(try simp only [Act.put,aB,aF,aG]))
 apply wpT_typed (T:=RowN W0.heap.size 5 1 (En.int x.1).length (byteVals (En.int x.1))) rowN_bk
 ·intro w' hC hf;unfold Gives;have HSZ:=aI hC.size;clear hf hC
  go_wp2_with (go_at_call 99;refine (CI1.out w').mono ?_;rintro e w2 ⟨v,rfl,hown,hb⟩;have HO:=aI hown;have HBL:=aI hb;clear hown hb)
  refine postT_mk rfl HBL.out ?_;simp only [valAt,aA];exact RowN.of_owns HO.out (encI_pos _) HSZ.out
 intro v15;(try simp only [Act.put,aB,aF,aG])
 iterate 3 ((apply wpT_exact;· (intro w' hC hf;unfold Gives;have hbk:=((T.out.below hC).fact (.head _)).2;have z0:=hbk.cell 0;have z1:=hbk.cell 1;have z2:=hbk.cell 2;have z3:=hbk.cell 3;simp at z0 z1 z2 z3;clear hbk;clear hf hC;go_wp2_with (fail);apply postT_val rfl (Below.refl _ _);simp only [valAt,aA,aE,aC,aD,aH];exact rfl));(try simp only [Act.put,aB,aF,aG]))
 apply wpT_typed (T:=RowN W0.heap.size 5 1 (En.int nk).length (byteVals (En.int nk))) rowN_bk
 ·intro w' hC hf;unfold Gives;have HSZ:=aI hC.size;clear hf hC
  go_wp2_with (go_at_call 99;refine (CI2.out w').mono ?_;rintro e w2 ⟨v,rfl,hown,hb⟩;have HO:=aI hown;have HBL:=aI hb;clear hown hb)
  refine postT_mk rfl HBL.out ?_;simp only [valAt,aA];exact RowN.of_owns HO.out (encI_pos _) HSZ.out
 intro v19;(try simp only [Act.put,aB,aF,aG])
 apply wpT_done
 intro w4 hC hall
 have hown:=RowN.owns hall.2.1 (by unfold byteVals;rw [List.length_map,Nat.mul_one])
 have hown2:=RowN.owns hall.1 (by unfold byteVals;rw [List.length_map,Nat.mul_one])
 obtain ⟨M1,hT,_⟩:=T.out.take hC hown
 obtain ⟨Ab,cb,rfl⟩:=own_form hown2
 have HR:=aI (reads_own hown2)
 have TB:=T
 replace T:=aI hT
 clear hT hown hown2 hall hC
 have hA1:=En.int_le x.1
 have hA2:=En.int_le (nk:Int)
 obtain ⟨hi,hz0,hz1,hz2⟩:=HII.out
 refine wpList_append_row (by rfl) _ _ 73 (by rfl) 5 i0 _ 1 1 Tryz.underlying73 hi hz0 hz1 hz2 rfl (by decide) T.out (by rfl) _ _ (En.int (nk:Int)).length _ (byteVals (En.int (nk:Int))) (by rfl) HR.out (byteVals_one _) (by unfold maxLen;omega) (by omega) ?_
 intro v5 w5 M5 h5 _
 rw [← byteVals_append,← aK] at h5
 replace T:=aI h5
 clear h5 HR hA1 hA2 hi hz0 hz1 hz2
 go_wp2_with fail
 go_loopg [3,4] nk (fun r v i wr=>∃ (k:Nat) (M:List Nat) (acc:List UInt8),k+r=nk∧i=.int .i64 k∧HRow W0 [] M [] [fun M W=>N∉M∧Blk W N 28 #[.int .i64 x.1,.slice A nk c,.slice B nl d,.slice C nr e],fun M W=>SlAt M W A (Sc.kinds x),fun M W=>SlAt M W B x.2.2.1,fun M W=>SlAt M W C x.2.2.2] 5 1 v acc.length (byteVals acc) wr∧0 < acc.length∧acc++((((Sc.kinds x).drop k).map Sx.encK).flatten++R1)=E)
 case atStart=>exact ⟨0,_,_,by omega,rfl,T.out,by rw [aK];have:=encI_pos x.1;omega,HEQ.out⟩
 case round =>
  clear T HEQ
  obtain ⟨k,M,acc,hk,rfl,hT,hpos,hacc⟩:=hrel
  obtain ⟨wo,rfl⟩:∃ wo:World,wo=wr:=⟨_,rfl⟩
  obtain ⟨gq,rfl⟩:∃ g:Nat,g=gk:=⟨_,rfl⟩
  have T:=aI hT
  clear hT
  obtain ⟨g,cr,rfl⟩:∃ g cr,u3=.slice (some ⟨g,0,none⟩) acc.length cr:=by
   rcases T.out.own.2 with ⟨h0,_⟩ | ⟨g,cap,cur,h1,_⟩
   ·omega
   ·exact ⟨g,cap,h1⟩
  have hbk:=(T.out.h.fact (.head _)).2;have z0:=hbk.cell 0;have z1:=hbk.cell 1;have z2:=hbk.cell 2;have z3:=hbk.cell 3;simp at z0 z1 z2 z3;clear hbk
  have HAP:=aI hpos
  by_cases hlt:k < nk
  ·have hkp:k < (Sc.kinds x).length:=by rw [HNK.out];exact hlt
   have k0:(0:Int)≤(k:Int):=Int.natCast_nonneg _
   have k1:(k:Int) < (nk:Int):=by omega
   have HR:=aI hacc
   rw [List.drop_eq_getElem_cons hkp,List.map_cons,List.flatten_cons,List.append_assoc] at HR
   have kb:=HOB.out.k _ (List.getElem_mem hkp)
   obtain ⟨b,o,F,cf,rfl,_,c0,c1,c2,c3,hsl,_⟩:=knd_at (T.out.h.fact (.tail _ (.head _))) k hkp
   obtain ⟨kd,hkd⟩:∃ z,(Sc.kinds x)[k]=z:=⟨_,rfl⟩
   rw [hkd] at c0 c1 c2 c3 hsl HR kb
   have HKB:=aI kb
   have hq1:=kb.nm;have hq2:=kb.lo;have hq3:=kb.hi
   obtain ⟨nf,hnf⟩:∃ n,(Sc.flds kd).length=n:=⟨_,rfl⟩
   have HNF:=aI hnf
   have hq4:=kb.n
   rw [hnf] at c3 hq4
   have hla:acc.length+(Sx.encK kd).length≤40000:=by
    have:=congrArg List.length HR.out
    rw [aK,aK] at this
    omega
   obtain ⟨Nk,hNk⟩:∃ n,wo.heap.size=n:=⟨_,rfl⟩
   have hbw:Blk (wo.alloc (.cells #[.string kd.1,.int .i64 kd.2.1,.int .i64 kd.2.2.1,.slice F nf cf] 49)) Nk 49 #[.string kd.1,.int .i64 kd.2.1,.int .i64 kd.2.2.1,.slice F nf cf]:=by rw [← hNk];exact Blk.new wo _ _
   have hbl:Below wo.heap.size wo (wo.alloc (.cells #[.string kd.1,.int .i64 kd.2.1,.int .i64 kd.2.2.1,.slice F nf cf] 49)):=(Below.refl wo.heap.size wo).alloc (Nat.le_refl _) _
   have hnm:Nk∉M:=fun hm=>by have:=T.out.h.mb _ hm;omega
   replace T:=aI (((T.out.below hbl).add (keeps_sl F (Sc.flds kd)) (hsl.keep (Chg.of_below hbl))).add (P:=fun M W=>Nk∉M∧Blk W Nk 49 #[.string kd.1,.int .i64 kd.2.1,.int .i64 kd.2.2.1,.slice F nf cf]) (keeps_blk _ _ _) ⟨hnm,hbw⟩)
   clear hnf hacc hkd kb hsl hbw hbl hnm
   have hlb:acc.length+(Sx.encB kd.1).length+(En.ints [kd.2.1,kd.2.2.1]).length≤40000:=by
    unfold Sx.encK at hla;simp only [aK] at hla;omega
   have CB:=aI (fun w=>rBytes_any kd.1 w (by omega))
   have CX:=aI (fun W g (hB:Blk W g 3 #[.int .i64 kd.2.1,.int .i64 kd.2.2.1])=>show Calls Tryz.prog 101 #[.slice (some ⟨g,0,none⟩) 2 2] W _ from rInts_any [kd.2.1,kd.2.2.1] (some ⟨g,0,none⟩) 2 W (SlAt.of_blk (xs:=[.int .i64 kd.2.1,.int .i64 kd.2.2.1]) ⟨[_],_,rfl,⟨rfl,by unfold inI;omega⟩,[_],[],rfl,⟨rfl,by unfold inI;omega⟩,rfl⟩ hB (by simp)) (by simp))
   go_upto_region 6 with fail
   generalize wo.alloc (.cells #[.string kd.1,.int .i64 kd.2.1,.int .i64 kd.2.2.1,.slice F nf cf] 49)=w5 at *
   clear hNk c0 c1 c2 c3 z0 z1 z2 z3
   have HGL:=aI T.out.gLt
   go_wp2_with fail
   letI:Grow:=earlyGrow g 5 acc.length (byteVals (Sx.encB kd.1))
   apply RG.wp_region_typed (C:=fun w'=>EG g 5 acc.length (byteVals (Sx.encB kd.1)) w5 w') (n:=194) (m:=11) (l1:=[_,_,_,_,_,_,_,_,_,_,_]) (l2:=[_,_])
   ·rfl
   ·rfl
   ·kernel_rfl
   ·rfl
   ·kernel_rfl
   ·exact EG.below ⟨rfl,rfl,rfl,Nat.le_refl _,fun _ _=>rfl⟩
   ·exact fun u u' h hb=>h.trans hb
   iterate 3 ((apply RG.wpT_exact;· (intro w' hC hf;unfold RG.Gives;have hbk:=((T.out.h.early T.out.ok rfl hC).fact (.head _)).2;have c0:=hbk.cell 0;have c1:=hbk.cell 1;have c2:=hbk.cell 2;have c3:=hbk.cell 3;simp at c0 c1 c2 c3;clear hbk;clear hf hC;go_wp2_with (fail);apply RG.postT_val rfl (Grow.refl _);simp only [RG.valAt,aA,aE,aC,aD,aH];exact rfl));(try simp only [Act.put,aB,aF,aG]))
   apply RG.wpT_typed (T:=RowN w5.heap.size 5 1 (Sx.encB kd.1).length (byteVals (Sx.encB kd.1))) (rowN_keptE HGL.out)
   ·intro w' hC hf;unfold RG.Gives;have HSZ:=aI (EG.size hC);clear hf hC
    go_wp2_with (go_at_call 100;refine (CB.out w').mono ?_;rintro e w2 ⟨v,rfl,hown,hb⟩;have HO:=aI hown;have HBL:=aI hb;clear hown hb)
    refine RG.postT_mk rfl (EG.below HBL.out) ?_;simp only [RG.valAt,aA];exact RowN.of_owns HO.out (encB_pos _) HSZ.out
   intro v36;(try simp only [Act.put,aB,aF,aG])
   apply RG.wpT_typed (T:=RowE w5.heap.size g 5 1 (acc.length+(Sx.encB kd.1).length) (byteVals acc++byteVals (Sx.encB kd.1))) (rowE_kept (fun j u h1 h2=>by rw [List.getElem?_append_right (by unfold byteVals;rw [List.length_map];exact h1)] at h2;unfold byteVals at h2 ⊢;rw [List.length_map] at h2;exact h2))
   ·intro w' hC hf;unfold RG.Gives;have hro:=hf.1 rfl;clear hf
    have hbo:=RowN.owns hro (by unfold byteVals;rw [List.length_map,Nat.mul_one])
    obtain ⟨g2,cap2,cur2,rfl,_,_,_⟩:=hro
    obtain ⟨cur3,q1,q2,q3,q4,q5⟩:=T.out.rowE HAP.out hC
    obtain ⟨hi,hz0,hz1,hz2⟩:=HII.out
    refine wpList_append_early (g:=g) (te:=5) (n8:=acc.length) (us:=byteVals (Sx.encB kd.1)) (B0:=w5.heap.size) (cap:=cr) (n:=acc.length) (cur:=cur3) (xs:=byteVals acc) (by rfl) _ _ 73 (by rfl) i0 _ 1 1 Tryz.underlying73 hi hz0 hz1 hz2 rfl (by decide) (by rfl) q1 q2 q3 q4 q5 (by unfold byteVals;rw [List.length_map,Nat.mul_one]) (by rfl) (reads_own hbo) (encB_pos _) (byteVals_one _) (by rw [Nat.mul_one]) (EG.size hC) (by unfold maxLen;omega) (by omega) ?_
    intro v' w2 k1 k2
    refine RG.postT_mk rfl k2 ?_;simp only [RG.valAt,aA];exact k1
   intro v37;(try simp only [Act.put,aB,aF,aG])
   iterate 4 ((apply RG.wpT_exact;· (intro w' hC hf;unfold RG.Gives;have hbk:=((T.out.h.early T.out.ok rfl hC).fact (.head _)).2;have c0:=hbk.cell 0;have c1:=hbk.cell 1;have c2:=hbk.cell 2;have c3:=hbk.cell 3;simp at c0 c1 c2 c3;clear hbk;clear hf hC;go_wp2_with (fail);apply RG.postT_val rfl (Grow.refl _);simp only [RG.valAt,aA,aE,aC,aD,aH];exact rfl));(try simp only [Act.put,aB,aF,aG]))
   apply RG.wpT_typed (T:=fun v w=>∃ N,v=.slice (some ⟨N,0,none⟩) 2 2∧w5.heap.size≤N∧Blk w N 3 #[.int .i64 kd.2.1,.int .i64 kd.2.2.1]) (blkN_kept HGL.out)
   ·intro w' hC hf;unfold RG.Gives;have hs:=aI (EG.size hC);clear hf hC
    go_wp2_with fail
    refine RG.postT_mk rfl (EG.below (by go_grown)) ?_;simp only [RG.valAt,aA,aE,aC,aD,aH];exact ⟨_,rfl,hs.out,Blk.new _ _ _⟩
   intro v42;(try simp only [Act.put,aB,aF,aG])
   apply RG.wpT_typed (T:=RowN w5.heap.size 5 1 (En.ints [kd.2.1,kd.2.2.1]).length (byteVals (En.ints [kd.2.1,kd.2.2.1]))) (rowN_keptE HGL.out)
   ·intro w' hC hf;unfold RG.Gives;have HSZ:=aI (EG.size hC);obtain ⟨N2,rfl,_,hB⟩:=hf.1 rfl;have HBk:=aI hB;clear hB;clear hf hC
    go_wp2_with (go_at_call 101;refine (CX.out _ _ HBk.out).mono ?_;rintro e w2 ⟨v,rfl,hown,hb⟩;have HO:=aI hown;have HBL:=aI hb;clear hown hb)
    refine RG.postT_mk rfl (EG.below HBL.out) ?_;simp only [RG.valAt,aA];exact RowN.of_owns HO.out (encIs_pos _) HSZ.out
   intro v43;(try simp only [Act.put,aB,aF,aG])
   apply RG.wpT_done
   intro w6 hC hall
   obtain ⟨M6,hT6⟩:=HRow.early T.out rfl hC hall.2.2.1 (by rw [aK];unfold byteVals;rw [List.length_map,List.length_map,Nat.mul_one])
   have hown2:=RowN.owns hall.1 (by unfold byteVals;rw [List.length_map,Nat.mul_one])
   obtain ⟨Ab,cb,rfl⟩:=own_form hown2
   have HR6:=aI (reads_own hown2)
   rw [← byteVals_append,← aK] at hT6
   replace T:=aI hT6
   clear hT6 hown2 hall hC HGL
   obtain ⟨hi,hz0,hz1,hz2⟩:=HII.out
   refine wpList_append_row (by rfl) _ _ 73 (by rfl) 5 i0 _ 1 1 Tryz.underlying73 hi hz0 hz1 hz2 rfl (by decide) T.out (by rfl) _ _ (En.ints [kd.2.1,kd.2.2.1]).length _ (byteVals (En.ints [kd.2.1,kd.2.2.1])) (by rfl) HR6.out (byteVals_one _) (by rw [aK];unfold maxLen;omega) (by rw [aK];omega) ?_
   intro v9 w9 M9 h9 _
   rw [← byteVals_append,← aK] at h9
   replace T:=aI h9
   clear h9 HR6 hi hz0 hz1 hz2
   clear CB CX hlb
   obtain ⟨acc1,hac⟩:∃ a,(acc++Sx.encB kd.1)++En.ints [kd.2.1,kd.2.2.1]=a:=⟨_,rfl⟩
   rw [hac] at T
   obtain ⟨R2,hR2⟩:∃ R,(((Sc.kinds x).drop (k+1)).map Sx.encK).flatten++R1=R:=⟨_,rfl⟩
   have HR2:=aI hR2
   have HA1:=aI (show (acc1++En.int (nf:Int))++((((Sc.flds kd).map Sx.encF).flatten)++R2)=E by
    rw [← HR.out,← hac,← hR2];unfold Sx.encK;rw [HNF.out];simp only [List.append_assoc])
   have hla1:acc1.length+(En.int (nf:Int)).length≤40000:=by
    have:=congrArg List.length HA1.out
    rw [aK,aK] at this
    omega
   have hap1:0 < acc1.length:=by rw [← hac,aK,aK];omega
   clear hac hR2 HR hla HAP hpos
   have CI5:=aI (fun w=>rInt_any (nf:Int) w (by unfold inI;omega))
   have hbk:=(T.out.h.fact (.head _)).2;have c0:=hbk.cell 0;have c1:=hbk.cell 1;have c2:=hbk.cell 2;have c3:=hbk.cell 3;simp at c0 c1 c2 c3;clear hbk
   have hi:=HII.out.1;have hz0:=HII.out.2.1;have hz1:=HII.out.2.2.1;have hz2:=HII.out.2.2.2
   go_wp2_with (first | (go_at_call 99;refine (CI5.out _).mono ?_;rintro e w2 ⟨v,rfl,hown,hb⟩;obtain ⟨Ab,cb,rfl⟩:=own_form hown;replace T:=aI (T.out.below hb);have HRD:=aI (reads_own hown);clear hown hb) | (at_builtin;refine wpList_append_row (by rfl) _ _ 73 (by rfl) 5 i0 _ 1 1 Tryz.underlying73 hi hz0 hz1 hz2 rfl (by decide) T.out (by rfl) _ _ (En.int (nf:Int)).length _ (byteVals (En.int (nf:Int))) (by rfl) HRD.out (byteVals_one _) (by unfold maxLen;omega) (by omega) ?_;intro v8 w8 M8 h8 _;rw [← byteVals_append,← aK] at h8;replace T:=aI h8;clear h8))
   clear c0 c1 c2 c3 hi hz0 hz1 hz2 HRD
   go_loopg [3,6] nf (fun r v i wr=>∃ (j:Nat) (M:List Nat) (acc:List UInt8),j+r=nf∧i=.int .i64 j∧HRow W0 [] M [] ((fun M W=>Nk∉M∧Blk W Nk 49 #[.string kd.1,.int .i64 kd.2.1,.int .i64 kd.2.2.1,.slice F nf cf])::(fun M W=>SlAt M W F (Sc.flds kd))::[fun M W=>N∉M∧Blk W N 28 #[.int .i64 x.1,.slice (some ⟨b,o,none⟩) nk c,.slice B nl d,.slice C nr e],fun M W=>SlAt M W (some ⟨b,o,none⟩) (Sc.kinds x),fun M W=>SlAt M W B x.2.2.1,fun M W=>SlAt M W C x.2.2.2]) 5 1 v acc.length (byteVals acc) wr∧0 < acc.length∧acc++((((Sc.flds kd).drop j).map Sx.encF).flatten++R2)=E)
   case atStart=>exact ⟨0,_,_,by omega,rfl,T.out,by rw [aK];omega,HA1.out⟩
   case round =>
    clear T HA1 hla1 hap1 CI5
    obtain ⟨j,M,acc,hj,rfl,hT,hpos,hacc⟩:=hrel
    obtain ⟨wi,rfl⟩:∃ wo:World,wo=wr:=⟨_,rfl⟩
    have T:=aI hT
    clear hT
    obtain ⟨g,cr,rfl⟩:∃ g cr,u3=.slice (some ⟨g,0,none⟩) acc.length cr:=by
     rcases T.out.own.2 with ⟨h0,_⟩ | ⟨g,cap,cur,h1,_⟩
     ·omega
     ·exact ⟨g,cap,h1⟩
    have HAP:=aI hpos
    have hbk:=(T.out.h.fact (.head _)).2;have c0:=hbk.cell 0;have c1:=hbk.cell 1;have c2:=hbk.cell 2;have c3:=hbk.cell 3;simp at c0 c1 c2 c3;clear hbk
    by_cases hlt2:j < nf
    ·have hjp:j < (Sc.flds kd).length:=by rw [HNF.out];exact hlt2
     have j0:(0:Int)≤(j:Int):=Int.natCast_nonneg _
     have j1:(j:Int) < (nf:Int):=by omega
     have HR:=aI hacc
     rw [List.drop_eq_getElem_cons hjp,List.map_cons,List.flatten_cons,List.append_assoc] at HR
     have fb:=Sx.fldB_bd (HKB.out.f _ (List.getElem_mem hjp))
     obtain ⟨b2,o2,us,rfl,_,hr,hc⟩:=SlAt.get (T.out.h.fact (.tail _ (.head _))) j hjp
     obtain ⟨fd,hfd⟩:∃ z,(Sc.flds kd)[j]=z:=⟨_,rfl⟩
     rw [hfd] at HR fb hr
     obtain ⟨Aw,cw,Bw,dw,rfl,sw1,sw2,_⟩:=rep_fld hr
     rw [show Mem.sz Fld=8 from rfl] at hc
     have HFB:=aI fb
     have fq1:=fb.nm;have fq2:=fb.of_;have fq3:=fb.up;have fq4:=fb.lo;have fq5:=fb.hi;have fq6:=fb.ws;have fq7:=fb.ns
     obtain ⟨kk,hk1,hk2⟩:=fb.kd
     have HK2:=aI hk2
     clear hk2
     obtain ⟨nw,hnw⟩:∃ n,(Sc.words fd).length=n:=⟨_,rfl⟩
     have HNW:=aI hnw
     rw [hnw] at fq6 fq7
     have HNV:=aI fq7
     rw [hnw,fq7] at hc
     have y0:wi.cell? ⟨b2,o2+j*8,none⟩=some (Value.string (Sc.nm fd)):=hc 0 _ rfl
     have y1:wi.cell? ⟨b2,o2+j*8+1,none⟩=some (Value.string (Sc.of_ fd)):=hc 1 _ rfl
     have y2:wi.cell? ⟨b2,o2+j*8+2,none⟩=some (Value.string (Sc.up fd)):=hc 2 _ rfl
     have y3:wi.cell? ⟨b2,o2+j*8+3,none⟩=some (Value.int .i64 (Sc.kd fd)):=hc 3 _ rfl
     have y4:wi.cell? ⟨b2,o2+j*8+4,none⟩=some (Value.int .i64 (Sc.lo fd)):=hc 4 _ rfl
     have y5:wi.cell? ⟨b2,o2+j*8+5,none⟩=some (Value.int .i64 (Sc.hi fd)):=hc 5 _ rfl
     have y6:wi.cell? ⟨b2,o2+j*8+6,none⟩=some (Value.slice Aw nw cw):=hc 6 _ rfl
     have y7:wi.cell? ⟨b2,o2+j*8+7,none⟩=some (Value.slice Bw nw dw):=hc 7 _ rfl
     have hla:acc.length+(Sx.encF fd).length≤40000:=by
      have:=congrArg List.length HR.out
      rw [aK,aK] at this
      omega
     obtain ⟨Nf,hNf⟩:∃ n,wi.heap.size=n:=⟨_,rfl⟩
     have hbw:Blk (wi.alloc (.cells #[.string (Sc.nm fd),.string (Sc.of_ fd),.string (Sc.up fd),.int .i64 (Sc.kd fd),.int .i64 (Sc.lo fd),.int .i64 (Sc.hi fd),.slice Aw nw cw,.slice Bw nw dw] 52)) Nf 52 #[.string (Sc.nm fd),.string (Sc.of_ fd),.string (Sc.up fd),.int .i64 (Sc.kd fd),.int .i64 (Sc.lo fd),.int .i64 (Sc.hi fd),.slice Aw nw cw,.slice Bw nw dw]:=by rw [← hNf];exact Blk.new wi _ _
     have hbl:Below wi.heap.size wi (wi.alloc (.cells #[.string (Sc.nm fd),.string (Sc.of_ fd),.string (Sc.up fd),.int .i64 (Sc.kd fd),.int .i64 (Sc.lo fd),.int .i64 (Sc.hi fd),.slice Aw nw cw,.slice Bw nw dw] 52)):=(Below.refl wi.heap.size wi).alloc (Nat.le_refl _) _
     have hnm:Nf∉M:=fun hm=>by have:=T.out.h.mb _ hm;omega
     have HTB:=T
     replace T:=aI ((((T.out.below hbl).add (keeps_sl Bw (Sc.wts fd)) (sw2.keep (Chg.of_below hbl))).add (keeps_sl Aw (Sc.words fd)) (sw1.keep (Chg.of_below hbl))).add (P:=fun M W=>Nf∉M∧Blk W Nf 52 #[.string (Sc.nm fd),.string (Sc.of_ fd),.string (Sc.up fd),.int .i64 (Sc.kd fd),.int .i64 (Sc.lo fd),.int .i64 (Sc.hi fd),.slice Aw nw cw,.slice Bw nw dw]) (keeps_blk _ _ _) ⟨hnm,hbw⟩)
     clear HTB hacc hfd hr hc fb sw1 sw2 hbw hbl hnm hnw
     have hl1:acc.length+(Sx.encS [Sc.nm fd,Sc.of_ fd,Sc.up fd]).length+(En.ints [Sc.kd fd,Sc.lo fd,Sc.hi fd]).length≤40000:=by
      unfold Sx.encF at hla;simp only [aK] at hla;omega
     have CB:=aI (fun W g (hB:Blk W g 9 #[.string (Sc.nm fd),.string (Sc.of_ fd),.string (Sc.up fd)])=>show Calls Tryz.prog 102 #[.slice (some ⟨g,0,none⟩) 3 3] W _ from rStrings_any [Sc.nm fd,Sc.of_ fd,Sc.up fd] (some ⟨g,0,none⟩) 3 W (SlAt.of_blk (xs:=[.string (Sc.nm fd),.string (Sc.of_ fd),.string (Sc.up fd)]) ⟨[_],_,rfl,⟨rfl,by omega⟩,[_],_,rfl,⟨rfl,by omega⟩,[_],[],rfl,⟨rfl,by omega⟩,rfl⟩ hB (by simp)) (by simp) (by intro s hs;simp only [List.mem_cons,List.not_mem_nil,or_false] at hs;rcases hs with rfl | rfl | rfl <;> omega))
     have CX:=aI (fun W g (hB:Blk W g 3 #[.int .i64 (Sc.kd fd),.int .i64 (Sc.lo fd),.int .i64 (Sc.hi fd)])=>show Calls Tryz.prog 101 #[.slice (some ⟨g,0,none⟩) 3 3] W _ from rInts_any [Sc.kd fd,Sc.lo fd,Sc.hi fd] (some ⟨g,0,none⟩) 3 W (SlAt.of_blk (xs:=[.int .i64 (Sc.kd fd),.int .i64 (Sc.lo fd),.int .i64 (Sc.hi fd)]) ⟨[_],_,rfl,⟨rfl,by rw [HK2.out];unfold inI;omega⟩,[_],_,rfl,⟨rfl,by unfold inI;omega⟩,[_],[],rfl,⟨rfl,by unfold inI;omega⟩,rfl⟩ hB (by simp)) (by simp))
     go_upto_region 12 with fail
     generalize wi.alloc (.cells #[.string (Sc.nm fd),.string (Sc.of_ fd),.string (Sc.up fd),.int .i64 (Sc.kd fd),.int .i64 (Sc.lo fd),.int .i64 (Sc.hi fd),.slice Aw nw cw,.slice Bw nw dw] 52)=w5 at *
     clear hNf y0 y1 y2 y3 y4 y5 y6 y7 c0 c1 c2 c3
     have HGL:=aI T.out.gLt
     go_wp2_with fail
     letI:Grow:=earlyGrow g 5 acc.length (byteVals (Sx.encS [Sc.nm fd,Sc.of_ fd,Sc.up fd]))
     apply RG.wp_region_typed (C:=fun w'=>EG g 5 acc.length (byteVals (Sx.encS [Sc.nm fd,Sc.of_ fd,Sc.up fd])) w5 w') (n:=194) (m:=18) (l1:=[_,_,_,_,_,_,_,_,_,_,_,_,_,_,_,_,_,_]) (l2:=[_,_])
     ·rfl
     ·rfl
     ·kernel_rfl
     ·rfl
     ·kernel_rfl
     ·exact EG.below ⟨rfl,rfl,rfl,Nat.le_refl _,fun _ _=>rfl⟩
     ·exact fun u u' h hb=>h.trans hb
     iterate 7 ((apply RG.wpT_exact;· (intro w' hC hf;unfold RG.Gives;have hbk:=((T.out.h.early T.out.ok rfl hC).fact (.head _)).2;have c0:=hbk.cell 0;have c1:=hbk.cell 1;have c2:=hbk.cell 2;have c3:=hbk.cell 3;have c4:=hbk.cell 4;have c5:=hbk.cell 5;have c6:=hbk.cell 6;have c7:=hbk.cell 7;simp at c0 c1 c2 c3 c4 c5 c6 c7;clear hbk;clear hf hC;go_wp2_with (fail);apply RG.postT_val rfl (Grow.refl _);simp only [RG.valAt,aA,aE,aC,aD,aH];exact rfl));(try simp only [Act.put,aB,aF,aG]))
     apply RG.wpT_typed (T:=fun v w=>∃ N,v=.slice (some ⟨N,0,none⟩) 3 3∧w5.heap.size≤N∧Blk w N 9 #[.string (Sc.nm fd),.string (Sc.of_ fd),.string (Sc.up fd)]) (blkN_kept HGL.out)
     ·intro w' hC hf;unfold RG.Gives;have hs:=aI (EG.size hC);clear hf hC
      go_wp2_with fail
      refine RG.postT_mk rfl (EG.below (by go_grown)) ?_;simp only [RG.valAt,aA,aE,aC,aD,aH];exact ⟨_,rfl,hs.out,Blk.new _ _ _⟩
     intro v70;(try simp only [Act.put,aB,aF,aG])
     apply RG.wpT_typed (T:=RowN w5.heap.size 5 1 (Sx.encS [Sc.nm fd,Sc.of_ fd,Sc.up fd]).length (byteVals (Sx.encS [Sc.nm fd,Sc.of_ fd,Sc.up fd]))) (rowN_keptE HGL.out)
     ·intro w' hC hf;unfold RG.Gives;have HSZ:=aI (EG.size hC);obtain ⟨N2,rfl,_,hB⟩:=hf.1 rfl;have HBk:=aI hB;clear hB;clear hf hC
      go_wp2_with (go_at_call 102;refine (CB.out _ _ HBk.out).mono ?_;rintro e w2 ⟨v,rfl,hown,hb⟩;have HO:=aI hown;have HBL:=aI hb;clear hown hb)
      refine RG.postT_mk rfl (EG.below HBL.out) ?_;simp only [RG.valAt,aA];exact RowN.of_owns HO.out (encS_pos _) HSZ.out
     intro v71;(try simp only [Act.put,aB,aF,aG])
     apply RG.wpT_typed (T:=RowE w5.heap.size g 5 1 (acc.length+(Sx.encS [Sc.nm fd,Sc.of_ fd,Sc.up fd]).length) (byteVals acc++byteVals (Sx.encS [Sc.nm fd,Sc.of_ fd,Sc.up fd]))) (rowE_kept (fun j u h1 h2=>by rw [List.getElem?_append_right (by unfold byteVals;rw [List.length_map];exact h1)] at h2;unfold byteVals at h2 ⊢;rw [List.length_map] at h2;exact h2))
     ·intro w' hC hf;unfold RG.Gives;have hro:=hf.1 rfl;clear hf
      have hbo:=RowN.owns hro (by unfold byteVals;rw [List.length_map,Nat.mul_one])
      obtain ⟨g2,cap2,cur2,rfl,_,_,_⟩:=hro
      obtain ⟨cur3,q1,q2,q3,q4,q5⟩:=T.out.rowE HAP.out hC
      obtain ⟨hi,hz0,hz1,hz2⟩:=HII.out
      refine wpList_append_early (g:=g) (te:=5) (n8:=acc.length) (us:=byteVals (Sx.encS [Sc.nm fd,Sc.of_ fd,Sc.up fd])) (B0:=w5.heap.size) (cap:=cr) (n:=acc.length) (cur:=cur3) (xs:=byteVals acc) (by rfl) _ _ 73 (by rfl) i0 _ 1 1 Tryz.underlying73 hi hz0 hz1 hz2 rfl (by decide) (by rfl) q1 q2 q3 q4 q5 (by unfold byteVals;rw [List.length_map,Nat.mul_one]) (by rfl) (reads_own hbo) (encS_pos _) (byteVals_one _) (by rw [Nat.mul_one]) (EG.size hC) (by unfold maxLen;omega) (by omega) ?_
      intro v' w2 k1 k2
      refine RG.postT_mk rfl k2 ?_;simp only [RG.valAt,aA];exact k1
     intro v72;(try simp only [Act.put,aB,aF,aG])
     iterate 6 ((apply RG.wpT_exact;· (intro w' hC hf;unfold RG.Gives;have hbk:=((T.out.h.early T.out.ok rfl hC).fact (.head _)).2;have c0:=hbk.cell 0;have c1:=hbk.cell 1;have c2:=hbk.cell 2;have c3:=hbk.cell 3;have c4:=hbk.cell 4;have c5:=hbk.cell 5;have c6:=hbk.cell 6;have c7:=hbk.cell 7;simp at c0 c1 c2 c3 c4 c5 c6 c7;clear hbk;clear hf hC;go_wp2_with (fail);apply RG.postT_val rfl (Grow.refl _);simp only [RG.valAt,aA,aE,aC,aD,aH];exact rfl));(try simp only [Act.put,aB,aF,aG]))
     apply RG.wpT_typed (T:=fun v w=>∃ N,v=.slice (some ⟨N,0,none⟩) 3 3∧w5.heap.size≤N∧Blk w N 3 #[.int .i64 (Sc.kd fd),.int .i64 (Sc.lo fd),.int .i64 (Sc.hi fd)]) (blkN_kept HGL.out)
     ·intro w' hC hf;unfold RG.Gives;have hs:=aI (EG.size hC);clear hf hC
      go_wp2_with fail
      refine RG.postT_mk rfl (EG.below (by go_grown)) ?_;simp only [RG.valAt,aA,aE,aC,aD,aH];exact ⟨_,rfl,hs.out,Blk.new _ _ _⟩
     intro v79;(try simp only [Act.put,aB,aF,aG])
     apply RG.wpT_typed (T:=RowN w5.heap.size 5 1 (En.ints [Sc.kd fd,Sc.lo fd,Sc.hi fd]).length (byteVals (En.ints [Sc.kd fd,Sc.lo fd,Sc.hi fd]))) (rowN_keptE HGL.out)
     ·intro w' hC hf;unfold RG.Gives;have HSZ:=aI (EG.size hC);obtain ⟨N2,rfl,_,hB⟩:=hf.1 rfl;have HBk:=aI hB;clear hB;clear hf hC
      go_wp2_with (go_at_call 101;refine (CX.out _ _ HBk.out).mono ?_;rintro e w2 ⟨v,rfl,hown,hb⟩;have HO:=aI hown;have HBL:=aI hb;clear hown hb)
      refine RG.postT_mk rfl (EG.below HBL.out) ?_;simp only [RG.valAt,aA];exact RowN.of_owns HO.out (encIs_pos _) HSZ.out
     intro v80;(try simp only [Act.put,aB,aF,aG])
     apply RG.wpT_done
     intro w6 hC hall
     obtain ⟨M6,hT6⟩:=HRow.early T.out rfl hC hall.2.2.1 (by rw [aK];unfold byteVals;rw [List.length_map,List.length_map,Nat.mul_one])
     have hown2:=RowN.owns hall.1 (by unfold byteVals;rw [List.length_map,Nat.mul_one])
     obtain ⟨Ab,cb,rfl⟩:=own_form hown2
     have HR6:=aI (reads_own hown2)
     rw [← byteVals_append,← aK] at hT6
     replace T:=aI hT6
     clear hT6 hown2 hall hC HGL
     obtain ⟨hi,hz0,hz1,hz2⟩:=HII.out
     refine wpList_append_row (by rfl) _ _ 73 (by rfl) 5 i0 _ 1 1 Tryz.underlying73 hi hz0 hz1 hz2 rfl (by decide) T.out (by rfl) _ _ (En.ints [Sc.kd fd,Sc.lo fd,Sc.hi fd]).length _ (byteVals (En.ints [Sc.kd fd,Sc.lo fd,Sc.hi fd])) (by rfl) HR6.out (byteVals_one _) (by rw [aK];unfold maxLen;omega) (by rw [aK];omega) ?_
     intro v9 w9 M9 h9 _
     rw [← byteVals_append,← aK] at h9
     replace T:=aI h9
     clear h9 HR6 hi hz0 hz1 hz2
     obtain ⟨acc2,hac⟩:∃ a,(acc++Sx.encS [Sc.nm fd,Sc.of_ fd,Sc.up fd])++En.ints [Sc.kd fd,Sc.lo fd,Sc.hi fd]=a:=⟨_,rfl⟩
     rw [hac] at T
     obtain ⟨R3,hR3⟩:∃ R,(((Sc.flds kd).drop (j+1)).map Sx.encF).flatten++R2=R:=⟨_,rfl⟩
     have HR3:=aI hR3
     have HA2:=aI (show ((acc2++Sx.encS (Sc.words fd))++En.ints (Sc.wts fd))++R3=E by
      rw [← HR.out,← hac,← hR3];unfold Sx.encF;simp only [List.append_assoc])
     have hl2:acc2.length+(Sx.encS (Sc.words fd)).length+(En.ints (Sc.wts fd)).length≤40000:=by
      have:=congrArg List.length HA2.out
      rw [aK,aK,aK] at this
      omega
     have hap2:0 < acc2.length:=by rw [← hac,aK,aK];omega
     clear CB CX hl1 hac hR3 HR hla HAP hpos
     obtain ⟨acc,hac⟩:∃ a,a=acc2:=⟨_,rfl⟩
     subst hac
     have HAP:=aI hap2
     obtain ⟨g,cr,rfl⟩:∃ g cr,v9=.slice (some ⟨g,0,none⟩) acc.length cr:=by
      rcases T.out.own.2 with ⟨h0,_⟩ | ⟨g,cap,cur,h1,_⟩
      ·omega
      ·exact ⟨g,cap,h1⟩
     have CWS:=aI (fun W (h:SlAt [] W Aw (Sc.words fd))=>rStrings_any (Sc.words fd) Aw cw W h (by rw [HNW.out];omega) (fun s hs=>by have:=HFB.out.w s hs;omega))
     have CWI:=aI (fun W (h:SlAt [] W Bw (Sc.wts fd))=>rInts_any (Sc.wts fd) Bw dw W h (by rw [HNV.out];omega))
     simp only [HNW.out] at CWS
     simp only [HNV.out] at CWI
     go_upto_region 13 with fail
     have HGL:=aI T.out.gLt
     go_wp2_with fail
     letI:Grow:=earlyGrow g 5 acc.length (byteVals (Sx.encS (Sc.words fd)))
     apply RG.wp_region_typed (C:=fun w'=>EG g 5 acc.length (byteVals (Sx.encS (Sc.words fd))) w9 w') (n:=194) (m:=8) (l1:=[_,_,_,_,_,_,_,_]) (l2:=[_,_])
     ·rfl
     ·rfl
     ·kernel_rfl
     ·rfl
     ·kernel_rfl
     ·exact EG.below ⟨rfl,rfl,rfl,Nat.le_refl _,fun _ _=>rfl⟩
     ·exact fun u u' h hb=>h.trans hb
     iterate 3 ((apply RG.wpT_exact;· (intro w' hC hf;unfold RG.Gives;have hbk:=((T.out.h.early T.out.ok rfl hC).fact (.head _)).2;have c0:=hbk.cell 0;have c1:=hbk.cell 1;have c2:=hbk.cell 2;have c3:=hbk.cell 3;have c4:=hbk.cell 4;have c5:=hbk.cell 5;have c6:=hbk.cell 6;have c7:=hbk.cell 7;simp at c0 c1 c2 c3 c4 c5 c6 c7;clear hbk;clear hf hC;go_wp2_with (fail);apply RG.postT_val rfl (Grow.refl _);simp only [RG.valAt,aA,aE,aC,aD,aH];exact rfl));(try simp only [Act.put,aB,aF,aG]))
     apply RG.wpT_typed (T:=RowN w9.heap.size 5 1 (Sx.encS (Sc.words fd)).length (byteVals (Sx.encS (Sc.words fd)))) (rowN_keptE HGL.out)
     ·intro w' hC hf;unfold RG.Gives;have HSZ:=aI (EG.size hC);have hsl:SlAt [] w' Aw (Sc.words fd):=((T.out.h.early T.out.ok rfl hC).fact (.tail _ (.head _))).sub (fun g hg=>by cases hg);have HSL:=aI hsl;clear hsl;clear hf hC
      go_wp2_with (go_at_call 102;refine (CWS.out w' HSL.out).mono ?_;rintro e w2 ⟨v,rfl,hown,hb⟩;have HO:=aI hown;have HBL:=aI hb;clear hown hb)
      refine RG.postT_mk rfl (EG.below HBL.out) ?_;simp only [RG.valAt,aA];exact RowN.of_owns HO.out (encS_pos _) HSZ.out
     intro v85;(try simp only [Act.put,aB,aF,aG])
     apply RG.wpT_typed (T:=RowE w9.heap.size g 5 1 (acc.length+(Sx.encS (Sc.words fd)).length) (byteVals acc++byteVals (Sx.encS (Sc.words fd)))) (rowE_kept (fun j u h1 h2=>by rw [List.getElem?_append_right (by unfold byteVals;rw [List.length_map];exact h1)] at h2;unfold byteVals at h2 ⊢;rw [List.length_map] at h2;exact h2))
     ·intro w' hC hf;unfold RG.Gives;have hro:=hf.1 rfl;clear hf
      have hbo:=RowN.owns hro (by unfold byteVals;rw [List.length_map,Nat.mul_one])
      obtain ⟨g2,cap2,cur2,rfl,_,_,_⟩:=hro
      obtain ⟨cur3,q1,q2,q3,q4,q5⟩:=T.out.rowE HAP.out hC
      obtain ⟨hi,hz0,hz1,hz2⟩:=HII.out
      refine wpList_append_early (g:=g) (te:=5) (n8:=acc.length) (us:=byteVals (Sx.encS (Sc.words fd))) (B0:=w9.heap.size) (cap:=cr) (n:=acc.length) (cur:=cur3) (xs:=byteVals acc) (by rfl) _ _ 73 (by rfl) i0 _ 1 1 Tryz.underlying73 hi hz0 hz1 hz2 rfl (by decide) (by rfl) q1 q2 q3 q4 q5 (by unfold byteVals;rw [List.length_map,Nat.mul_one]) (by rfl) (reads_own hbo) (encS_pos _) (byteVals_one _) (by rw [Nat.mul_one]) (EG.size hC) (by unfold maxLen;omega) (by omega) ?_
      intro v' w2 k1 k2
      refine RG.postT_mk rfl k2 ?_;simp only [RG.valAt,aA];exact k1
     intro v86;(try simp only [Act.put,aB,aF,aG])
     iterate 2 ((apply RG.wpT_exact;· (intro w' hC hf;unfold RG.Gives;have hbk:=((T.out.h.early T.out.ok rfl hC).fact (.head _)).2;have c0:=hbk.cell 0;have c1:=hbk.cell 1;have c2:=hbk.cell 2;have c3:=hbk.cell 3;have c4:=hbk.cell 4;have c5:=hbk.cell 5;have c6:=hbk.cell 6;have c7:=hbk.cell 7;simp at c0 c1 c2 c3 c4 c5 c6 c7;clear hbk;clear hf hC;go_wp2_with (fail);apply RG.postT_val rfl (Grow.refl _);simp only [RG.valAt,aA,aE,aC,aD,aH];exact rfl));(try simp only [Act.put,aB,aF,aG]))
     apply RG.wpT_typed (T:=RowN w9.heap.size 5 1 (En.ints (Sc.wts fd)).length (byteVals (En.ints (Sc.wts fd)))) (rowN_keptE HGL.out)
     ·intro w' hC hf;unfold RG.Gives;have HSZ:=aI (EG.size hC);have hsl:SlAt [] w' Bw (Sc.wts fd):=((T.out.h.early T.out.ok rfl hC).fact (.tail _ (.tail _ (.head _)))).sub (fun g hg=>by cases hg);have HSL:=aI hsl;clear hsl;clear hf hC
      go_wp2_with (go_at_call 101;refine (CWI.out w' HSL.out).mono ?_;rintro e w2 ⟨v,rfl,hown,hb⟩;have HO:=aI hown;have HBL:=aI hb;clear hown hb)
      refine RG.postT_mk rfl (EG.below HBL.out) ?_;simp only [RG.valAt,aA];exact RowN.of_owns HO.out (encIs_pos _) HSZ.out
     intro v89;(try simp only [Act.put,aB,aF,aG])
     apply RG.wpT_done
     intro w6 hC hall
     obtain ⟨M6,hT6⟩:=HRow.early T.out rfl hC hall.2.1 (by rw [aK];unfold byteVals;rw [List.length_map,List.length_map,Nat.mul_one])
     have hown2:=RowN.owns hall.1 (by unfold byteVals;rw [List.length_map,Nat.mul_one])
     obtain ⟨Ab,cb,rfl⟩:=own_form hown2
     have HR6:=aI (reads_own hown2)
     rw [← byteVals_append,← aK] at hT6
     replace T:=aI hT6
     clear hT6 hown2 hall hC HGL
     obtain ⟨hi,hz0,hz1,hz2⟩:=HII.out
     refine wpList_append_row (by rfl) _ _ 73 (by rfl) 5 i0 _ 1 1 Tryz.underlying73 hi hz0 hz1 hz2 rfl (by decide) T.out (by rfl) _ _ (En.ints (Sc.wts fd)).length _ (byteVals (En.ints (Sc.wts fd))) (by rfl) HR6.out (byteVals_one _) (by rw [aK];unfold maxLen;omega) (by rw [aK];omega) ?_
     intro v10 w10 M10 h9 _
     rw [← byteVals_append,← aK] at h9
     replace T:=aI h9
     clear h9 HR6 hi hz0 hz1 hz2
     have HL:=aI hl2
     go_wp2_with fail
     go_roundg (gk - 1)
     case measure=>omega
     case rel=>exact ⟨j+1,_,_,by omega,by go_num,T.out.less (fun P hP=>.tail _ (.tail _ (.tail _ hP))),by rw [aK,aK];have:=HAP.out;omega,by rw [HR3.out];exact HA2.out⟩
    ·have j1:¬ (j:Int) < (nf:Int):=by omega
     rw [List.drop_eq_nil_of_le (by rw [HNF.out];omega),List.map_nil,List.flatten_nil,List.nil_append,← HR2.out] at hacc
     have HR:=aI hacc
     clear hacc
     go_wp2_with fail
     go_roundg (gq - 1)
     case measure=>omega
     case rel=>exact ⟨k+1,_,_,by omega,by go_num,T.out.less (fun P hP=>.tail _ (.tail _ hP)),HAP.out,HR.out⟩
  ·have k1:¬ (k:Int) < (nk:Int):=by omega
   rw [List.drop_eq_nil_of_le (by rw [HNK.out];omega),List.map_nil,List.flatten_nil,List.nil_append,← HR1.out] at hacc
   have hla:acc.length+(En.int (x.2.2.1.length:Int)).length≤40000:=by
    have:=congrArg List.length hacc
    rw [aK,aK] at this
    omega
   rw [HNL.out] at hla hacc
   rw [← List.append_assoc] at hacc
   have HR:=aI hacc
   clear hacc
   have hi:=HII.out.1;have hz0:=HII.out.2.1;have hz1:=HII.out.2.2.1;have hz2:=HII.out.2.2.2
   go_wp2_with (first | (go_at_call 99;refine (CI3.out _).mono ?_;rintro e w2 ⟨v,rfl,hown,hb⟩;obtain ⟨Ab,cb,rfl⟩:=own_form hown;replace T:=aI (T.out.below hb);have HRD:=aI (reads_own hown);clear hown hb) | (at_builtin;refine wpList_append_row (by rfl) _ _ 73 (by rfl) 5 i0 _ 1 1 Tryz.underlying73 hi hz0 hz1 hz2 rfl (by decide) T.out (by rfl) _ _ (En.int (nl:Int)).length _ (byteVals (En.int (nl:Int))) (by rfl) HRD.out (byteVals_one _) (by unfold maxLen;omega) (by omega) ?_;intro v8 w8 M8 h8 _;rw [← byteVals_append,← aK] at h8;replace T:=aI h8;clear h8))
   clear z0 z1 z2 z3 hi hz0 hz1 hz2 HRD k1
   obtain ⟨R5,hR5⟩:∃ R,En.int x.2.2.2.length++(x.2.2.2.map Sx.encR).flatten=R:=⟨_,rfl⟩
   rw [hR5] at HR
   have HR5:=aI hR5
   have hap3:0 < (acc++En.int (nl:Int)).length:=by rw [aK];omega
   clear hR5 hla hpos HAP
   go_loopg [3,8] nl (fun r v i wr=>∃ (k:Nat) (M:List Nat) (acc:List UInt8),k+r=nl∧i=.int .i64 k∧HRow W0 [] M [] [fun M W=>N∉M∧Blk W N 28 #[.int .i64 x.1,.slice A nk c,.slice B nl d,.slice C nr e],fun M W=>SlAt M W A (Sc.kinds x),fun M W=>SlAt M W B x.2.2.1,fun M W=>SlAt M W C x.2.2.2] 5 1 v acc.length (byteVals acc) wr∧0 < acc.length∧acc++(((x.2.2.1.drop k).map Sx.encL).flatten++R5)=E)
   case atStart=>exact ⟨0,_,_,by omega,rfl,T.out,hap3,HR.out⟩
   case round =>
    clear T HR hap3
    obtain ⟨k,M,acc,hk,rfl,hT,hpos,hacc⟩:=hrel
    obtain ⟨wo,rfl⟩:∃ wo:World,wo=wr:=⟨_,rfl⟩
    obtain ⟨gq,rfl⟩:∃ g:Nat,g=gk:=⟨_,rfl⟩
    have T:=aI hT
    clear hT
    obtain ⟨g,cr,rfl⟩:∃ g cr,u3=.slice (some ⟨g,0,none⟩) acc.length cr:=by
     rcases T.out.own.2 with ⟨h0,_⟩ | ⟨g,cap,cur,h1,_⟩
     ·omega
     ·exact ⟨g,cap,h1⟩
    have hbk:=(T.out.h.fact (.head _)).2;have z0:=hbk.cell 0;have z1:=hbk.cell 1;have z2:=hbk.cell 2;have z3:=hbk.cell 3;simp at z0 z1 z2 z3;clear hbk
    have HAP:=aI hpos
    by_cases hlt:k < nl
    ·have hkp:k < x.2.2.1.length:=by rw [HNL.out];exact hlt
     have k0:(0:Int)≤(k:Int):=Int.natCast_nonneg _
     have k1:(k:Int) < (nl:Int):=by omega
     have HR:=aI hacc
     rw [List.drop_eq_getElem_cons hkp,List.map_cons,List.flatten_cons,List.append_assoc] at HR
     have kb:=HOB.out.l _ (List.getElem_mem hkp)
     obtain ⟨b,o,us,rfl,hbM,hr,hc⟩:=SlAt.get (T.out.h.fact (.tail _ (.tail _ (.head _)))) k hkp
     obtain ⟨lf,hlf⟩:∃ z,x.2.2.1[k]=z:=⟨_,rfl⟩
     rw [hlf] at HR kb hr
     obtain ⟨As,cs,Bm,cm,rfl,ss,sm,_⟩:=rep_lif hr
     rw [show Mem.sz Lif=3 from rfl] at hc
     have HLB:=aI kb
     have lq1:=kb.nm;have lq2:=kb.n;have lq3:=kb.m
     obtain ⟨ns,hns⟩:∃ n,lf.2.1.length=n:=⟨_,rfl⟩
     obtain ⟨nm,hnm⟩:∃ n,lf.2.2.length=n:=⟨_,rfl⟩
     have HNS:=aI hns;have HNM:=aI hnm
     rw [hns] at lq2;rw [hnm] at lq3
     rw [hns,hnm] at hc
     have y0:wo.cell? ⟨b,o+k*3,none⟩=some (.string lf.1):=hc 0 _ rfl
     have y1:wo.cell? ⟨b,o+k*3+1,none⟩=some (.slice As ns cs):=hc 1 _ rfl
     have y2:wo.cell? ⟨b,o+k*3+2,none⟩=some (.slice Bm nm cm):=hc 2 _ rfl
     have hla:acc.length+(Sx.encL lf).length≤40000:=by
      have:=congrArg List.length HR.out
      rw [aK,aK] at this
      omega
     replace T:=aI (((((T.out.add (keeps_sl Bm lf.2.2) sm).add (keeps_sl As lf.2.1) ss).add (P:=fun M W=>b∉M∧W.cell? ⟨b,o+k*3+2,none⟩=some (.slice Bm nm cm)) (keeps_cell _ _ _) ⟨hbM,y2⟩).add (P:=fun M W=>b∉M∧W.cell? ⟨b,o+k*3+1,none⟩=some (.slice As ns cs)) (keeps_cell _ _ _) ⟨hbM,y1⟩).add (P:=fun M W=>b∉M∧W.cell? ⟨b,o+k*3,none⟩=some (.string lf.1)) (keeps_cell _ _ _) ⟨hbM,y0⟩)
     clear hacc hlf hr hc kb ss sm hns hnm
     have T2:=aI (HRow2.reset (e2:=3) (s2:=1) T.out)
     clear T
     go_wp2_with fail
     clear y0 y1 y2 z0 z1 z2 z3
     go_loopg [9,10] nm (fun r v9 v10 wr=>∃ (j:Nat) (M:List Nat) (l:List Int),j+r=nm∧v10=.int .i64 j∧l=Sx.mvs (lf.2.2.take j)∧HRow2 W0 [] M [] ((fun M W=>b∉M∧W.cell? ⟨b,o+k*3,none⟩=some (.string lf.1))::(fun M W=>b∉M∧W.cell? ⟨b,o+k*3+1,none⟩=some (.slice As ns cs))::(fun M W=>b∉M∧W.cell? ⟨b,o+k*3+2,none⟩=some (.slice Bm nm cm))::(fun M W=>SlAt M W As lf.2.1)::(fun M W=>SlAt M W Bm lf.2.2)::[fun M W=>N∉M∧Blk W N 28 #[.int .i64 x.1,.slice A nk c,.slice (some ⟨b,o,none⟩) nl d,.slice C nr e],fun M W=>SlAt M W A (Sc.kinds x),fun M W=>SlAt M W (some ⟨b,o,none⟩) x.2.2.1,fun M W=>SlAt M W C x.2.2.2]) 5 1 (.slice (some ⟨g,0,none⟩) acc.length cr) acc.length (byteVals acc) 3 1 v9 l.length (intVals l) wr)
     case atStart=>exact ⟨0,_,[],by omega,rfl,rfl,T2.out⟩
     case round =>
      clear T2
      obtain ⟨j,M2,l,hj,rfl,hl,hT⟩:=hrel
      obtain ⟨wi,rfl⟩:∃ wo:World,wo=wr:=⟨_,rfl⟩
      have T2:=aI hT
      clear hT
      have HLL:=aI hl
      have hjl:j≤nm:=by omega
      have hln:l.length=2*j:=by rw [hl,Sx.mvs_len,List.length_take,HNM.out];omega
      have HLN:=aI hln
      clear hl
      have hbk:=(T2.out.r1.h.fact (.tail _ (.tail _ (.tail _ (.tail _ (.tail _ (.head _))))))).2;have z0:=hbk.cell 0;have z1:=hbk.cell 1;have z2:=hbk.cell 2;have z3:=hbk.cell 3;simp at z0 z1 z2 z3;clear hbk
      have y0:=(T2.out.r1.h.fact (.head _)).2;have y1:=(T2.out.r1.h.fact (.tail _ (.head _))).2;have y2:=(T2.out.r1.h.fact (.tail _ (.tail _ (.head _)))).2
      by_cases hlt2:j < nm
      ·have hjp:j < lf.2.2.length:=by rw [HNM.out];exact hlt2
       have j0:(0:Int)≤(j:Int):=Int.natCast_nonneg _
       have j1:(j:Int) < (nm:Int):=by omega
       obtain ⟨b3,o3,us,rfl,hb3,hr,hc⟩:=SlAt.get (T2.out.r1.h.fact (.tail _ (.tail _ (.tail _ (.tail _ (.head _)))))) j hjp
       have hms:=HLL.out
       have HMT:=aI (mvs_take lf.2.2 j hjp)
       obtain ⟨mv,hmv⟩:∃ z,lf.2.2[j]=z:=⟨_,rfl⟩
       rw [hmv] at hr HMT
       obtain ⟨rfl,i1,i2⟩:=rep_mv hr
       rw [show Mem.sz (Int × Int)=2 from rfl] at hc
       have m0:wi.cell? ⟨b3,o3+j*2,none⟩=some (.int .i64 mv.1):=hc 0 _ rfl
       have m1:wi.cell? ⟨b3,o3+j*2+1,none⟩=some (.int .i64 mv.2):=hc 1 _ rfl
       have hT3:=(T2.out.r1.add (P:=fun M W=>b3∉M∧W.cell? ⟨b3,o3+j*2+1,none⟩=some (.int .i64 mv.2)) (keeps_cell _ _ _) ⟨hb3,m1⟩).add (P:=fun M W=>b3∉M∧W.cell? ⟨b3,o3+j*2,none⟩=some (.int .i64 mv.1)) (keeps_cell _ _ _) ⟨hb3,m0⟩
       have T3:=aI (HRow2.mk hT3 T2.out.k2 T2.out.o2)
       clear hT3 T2 hmv hr hc hms m0 m1 hln
       obtain ⟨A9,c9,rfl⟩:=own_form T3.out.o2
       go_wp2_with fail
       clear y0 y1 y2 z0 z1 z2 z3
       apply wp_region_typed (C:=fun w'=>HRow2 W0 [] M2 [] ((fun M W=>b3∉M∧W.cell? ⟨b3,o3+j*2,none⟩=some (.int .i64 mv.1))::(fun M W=>b3∉M∧W.cell? ⟨b3,o3+j*2+1,none⟩=some (.int .i64 mv.2))::(fun M W=>b∉M∧W.cell? ⟨b,o+k*3,none⟩=some (.string lf.1))::(fun M W=>b∉M∧W.cell? ⟨b,o+k*3+1,none⟩=some (.slice As ns cs))::(fun M W=>b∉M∧W.cell? ⟨b,o+k*3+2,none⟩=some (.slice (some ⟨b3,o3,none⟩) nm cm))::(fun M W=>SlAt M W As lf.2.1)::(fun M W=>SlAt M W (some ⟨b3,o3,none⟩) lf.2.2)::[fun M W=>N∉M∧Blk W N 28 #[.int .i64 x.1,.slice A nk c,.slice (some ⟨b,o,none⟩) nl d,.slice C nr e],fun M W=>SlAt M W A (Sc.kinds x),fun M W=>SlAt M W (some ⟨b,o,none⟩) x.2.2.1,fun M W=>SlAt M W C x.2.2.2]) 5 1 (.slice (some ⟨g,0,none⟩) acc.length cr) acc.length (byteVals acc) 3 1 (.slice A9 l.length c9) l.length (intVals l) w') (n:=194) (m:=22) (l1:=[_,_,_,_,_,_,_,_,_,_,_,_,_,_,_,_,_,_,_,_,_,_]) (l2:=[_,_])
       ·rfl
       ·rfl
       ·kernel_rfl
       ·rfl
       ·kernel_rfl
       ·exact T3.out.drew
       ·exact fun u u' h hb=>(by first | exact h.below hb | exact h.trans (hb.mono h.size))
       iterate 21 ((apply wpT_exact;· (intro w' hC hf;unfold Gives;have hbk:=(hC.r1.h.fact (.tail _ (.tail _ (.tail _ (.tail _ (.tail _ (.tail _ (.tail _ (.head _))))))))).2;have z2:=hbk.cell 2;simp at z2;have y2:=(hC.r1.h.fact (.tail _ (.tail _ (.tail _ (.tail _ (.head _)))))).2;have m0:=(hC.r1.h.fact (.head _)).2;have m1:=(hC.r1.h.fact (.tail _ (.head _))).2;clear hbk;clear hf hC;go_wp2_with (fail);apply postT_val rfl (Below.refl _ _);simp only [valAt,aA,aE,aC,aD,aH];exact rfl));(try simp only [Act.put,aB,aF,aG]))
       apply wpT_typed (slBlk_kept 2 3 #[.int .i64 mv.1,.int .i64 mv.2])
       ·intro w' hC hf;unfold Gives;clear hf hC;go_wp2_with fail;apply postT_mk rfl (by go_grown);simp only [valAt,aA,aE,aC,aD,aH];exact ⟨_,rfl,Blk.new _ _ _⟩
       intro vsl;(try simp only [Act.put,aB,aF,aG])
       apply wpT_done
       intro w6 hC hall
       obtain ⟨gb,rfl,hB⟩:=hall.1
       obtain ⟨hi,hz0,hz1,hz2⟩:=HIN.out
       refine wpList_append_row2 (by rfl) _ _ 22 (by rfl) iI _ 8 Tryz.underlying22 hi hz0 hz1 hz2 rfl (by decide) hC.swap (by decide) (by rfl) _ _ 2 2 (intVals [mv.1,mv.2]) (by rfl) (reads_blk hB rfl) (intVals_one [mv.1,mv.2]) (by have:=HLN.out;unfold maxLen;omega) (by have:=HLN.out;omega) ?_
       intro v7 w7 M7 h7 _
       rw [← intVals_append,show l.length+2=(l++[mv.1,mv.2]).length from by rw [aK];rfl] at h7
       replace T3:=aI h7.swap
       clear h7 hB hC hall hi hz0 hz1 hz2
       go_wp2_with fail
       go_roundg (gk - 1)
       case measure=>omega
       case rel=>exact ⟨j+1,_,l++[mv.1,mv.2],by omega,by go_num,by rw [HMT.out,HLL.out],T3.out.r1.less (fun P hP=>.tail _ (.tail _ hP)),T3.out.k2,T3.out.o2⟩
      ·have j1:¬ (j:Int) < (nm:Int):=by omega
       have hall:l=Sx.mvs lf.2.2:=by rw [HLL.out,List.take_of_length_le (by rw [HNM.out];omega)]
       have hil:∀ z∈l,inI z:=by
        intro z hz
        rw [hall] at hz
        obtain ⟨m,hm,hz⟩:=List.mem_flatMap.1 hz
        have:=HLB.out.v m hm
        simp only [List.mem_cons,List.not_mem_nil,or_false] at hz
        unfold inI
        rcases hz with rfl | rfl <;> omega
       obtain ⟨A9,c9,M9,rfl,hT9⟩:=T2.out.freeze2 (l:=l) (by decide) rfl rfl (flat_intsB hil) (fun _ h=>by cases h)
       have T:=aI hT9
       have HLA:=aI hall
       clear T2 hT9 hil hall HLL hln
       have hl1:acc.length+(Sx.encB lf.1).length+(Sx.encS lf.2.1).length≤40000:=by
        unfold Sx.encL at hla;simp only [aK] at hla;omega
       have CB:=aI (fun w=>rBytes_any lf.1 w (by omega))
       have CX:=aI (fun W (h:SlAt [] W As lf.2.1)=>rStrings_any lf.2.1 As cs W h (by rw [HNS.out];omega) (fun s hs=>by have:=HLB.out.s s hs;omega))
       simp only [HNS.out] at CX
       go_upto_region 23 with fail
       have HGL:=aI T.out.gLt
       clear y0 y1 y2 z0 z1 z2 z3
       go_wp2_with fail
       letI:Grow:=earlyGrow g 5 acc.length (byteVals (Sx.encB lf.1))
       apply RG.wp_region_typed (C:=fun w'=>EG g 5 acc.length (byteVals (Sx.encB lf.1)) wi w') (n:=194) (m:=16) (l1:=[_,_,_,_,_,_,_,_,_,_,_,_,_,_,_,_]) (l2:=[_,_])
       ·rfl
       ·rfl
       ·kernel_rfl
       ·rfl
       ·kernel_rfl
       ·exact EG.below ⟨rfl,rfl,rfl,Nat.le_refl _,fun _ _=>rfl⟩
       ·exact fun u u' h hb=>h.trans hb
       iterate 7 ((apply RG.wpT_exact;· (intro w' hC hf;unfold RG.Gives;have hq:=T.out.h.early T.out.ok rfl hC;have z2:=(hq.fact (.tail _ (.tail _ (.tail _ (.tail _ (.tail _ (.tail _ (.head _)))))))).2.cell 2;have y0:=(hq.fact (.tail _ (.head _))).2;have y1:=(hq.fact (.tail _ (.tail _ (.head _)))).2;simp at z2;clear hq;clear hf hC;go_wp2_with (fail);apply RG.postT_val rfl (Grow.refl _);simp only [RG.valAt,aA,aE,aC,aD,aH];exact rfl));(try simp only [Act.put,aB,aF,aG]))
       apply RG.wpT_typed (T:=RowN wi.heap.size 5 1 (Sx.encB lf.1).length (byteVals (Sx.encB lf.1))) (rowN_keptE HGL.out)
       ·intro w' hC hf;unfold RG.Gives;have HSZ:=aI (EG.size hC);clear hf hC
        go_wp2_with (go_at_call 100;refine (CB.out w').mono ?_;rintro e w2 ⟨v,rfl,hown,hb⟩;have HO:=aI hown;have HBL:=aI hb;clear hown hb)
        refine RG.postT_mk rfl (EG.below HBL.out) ?_;simp only [RG.valAt,aA];exact RowN.of_owns HO.out (encB_pos _) HSZ.out
       intro v145;(try simp only [Act.put,aB,aF,aG])
       apply RG.wpT_typed (T:=RowE wi.heap.size g 5 1 (acc.length+(Sx.encB lf.1).length) (byteVals acc++byteVals (Sx.encB lf.1))) (rowE_kept (fun j u h1 h2=>by rw [List.getElem?_append_right (by unfold byteVals;rw [List.length_map];exact h1)] at h2;unfold byteVals at h2 ⊢;rw [List.length_map] at h2;exact h2))
       ·intro w' hC hf;unfold RG.Gives;have hro:=hf.1 rfl;clear hf
        have hbo:=RowN.owns hro (by unfold byteVals;rw [List.length_map,Nat.mul_one])
        obtain ⟨g2,cap2,cur2,rfl,_,_,_⟩:=hro
        obtain ⟨cur3,q1,q2,q3,q4,q5⟩:=T.out.rowE HAP.out hC
        obtain ⟨hi,hz0,hz1,hz2⟩:=HII.out
        refine wpList_append_early (g:=g) (te:=5) (n8:=acc.length) (us:=byteVals (Sx.encB lf.1)) (B0:=wi.heap.size) (cap:=cr) (n:=acc.length) (cur:=cur3) (xs:=byteVals acc) (by rfl) _ _ 73 (by rfl) i0 _ 1 1 Tryz.underlying73 hi hz0 hz1 hz2 rfl (by decide) (by rfl) q1 q2 q3 q4 q5 (by unfold byteVals;rw [List.length_map,Nat.mul_one]) (by rfl) (reads_own hbo) (encB_pos _) (byteVals_one _) (by rw [Nat.mul_one]) (EG.size hC) (by unfold maxLen;omega) (by omega) ?_
        intro v' w2 k1 k2
        refine RG.postT_mk rfl k2 ?_;simp only [RG.valAt,aA];exact k1
       intro v146;(try simp only [Act.put,aB,aF,aG])
       iterate 6 ((apply RG.wpT_exact;· (intro w' hC hf;unfold RG.Gives;have hq:=T.out.h.early T.out.ok rfl hC;have z2:=(hq.fact (.tail _ (.tail _ (.tail _ (.tail _ (.tail _ (.tail _ (.head _)))))))).2.cell 2;have y0:=(hq.fact (.tail _ (.head _))).2;have y1:=(hq.fact (.tail _ (.tail _ (.head _)))).2;simp at z2;clear hq;clear hf hC;go_wp2_with (fail);apply RG.postT_val rfl (Grow.refl _);simp only [RG.valAt,aA,aE,aC,aD,aH];exact rfl));(try simp only [Act.put,aB,aF,aG]))
       apply RG.wpT_typed (T:=RowN wi.heap.size 5 1 (Sx.encS lf.2.1).length (byteVals (Sx.encS lf.2.1))) (rowN_keptE HGL.out)
       ·intro w' hC hf;unfold RG.Gives;have HSZ:=aI (EG.size hC);have hsl:SlAt [] w' As lf.2.1:=((T.out.h.early T.out.ok rfl hC).fact (.tail _ (.tail _ (.tail _ (.tail _ (.head _)))))).sub (fun g hg=>by cases hg);have HSL:=aI hsl;clear hsl;clear hf hC
        go_wp2_with (go_at_call 102;refine (CX.out w' HSL.out).mono ?_;rintro e w2 ⟨v,rfl,hown,hb⟩;have HO:=aI hown;have HBL:=aI hb;clear hown hb)
        refine RG.postT_mk rfl (EG.below HBL.out) ?_;simp only [RG.valAt,aA];exact RowN.of_owns HO.out (encS_pos _) HSZ.out
       intro v153;(try simp only [Act.put,aB,aF,aG])
       apply RG.wpT_done
       intro w6 hC hall
       obtain ⟨M6,hT6⟩:=HRow.early T.out rfl hC hall.2.1 (by rw [aK];unfold byteVals;rw [List.length_map,List.length_map,Nat.mul_one])
       have hown2:=RowN.owns hall.1 (by unfold byteVals;rw [List.length_map,Nat.mul_one])
       obtain ⟨Ab,cb,rfl⟩:=own_form hown2
       have HR6:=aI (reads_own hown2)
       rw [← byteVals_append,← aK] at hT6
       replace T:=aI hT6
       clear hT6 hown2 hall hC HGL
       obtain ⟨hi,hz0,hz1,hz2⟩:=HII.out
       refine wpList_append_row (by rfl) _ _ 73 (by rfl) 5 i0 _ 1 1 Tryz.underlying73 hi hz0 hz1 hz2 rfl (by decide) T.out (by rfl) _ _ (Sx.encS lf.2.1).length _ (byteVals (Sx.encS lf.2.1)) (by rfl) HR6.out (byteVals_one _) (by rw [aK];unfold maxLen;omega) (by rw [aK];omega) ?_
       intro v9 w9 M9 h9 _
       rw [← byteVals_append,← aK] at h9
       replace T:=aI h9
       clear h9 HR6 hi hz0 hz1 hz2
       obtain ⟨acc1,hac⟩:∃ a,(acc++Sx.encB lf.1)++Sx.encS lf.2.1=a:=⟨_,rfl⟩
       rw [hac] at T
       obtain ⟨R2,hR2⟩:∃ R,(((x.2.2.1.drop (k+1)).map Sx.encL).flatten)++R5=R:=⟨_,rfl⟩
       have HR2:=aI hR2
       have HA1:=aI (show (acc1++En.ints l)++R2=E by
        rw [← HR.out,← hac,← hR2,HLA.out];unfold Sx.encL;simp only [List.append_assoc])
       have hla1:acc1.length+(En.ints l).length≤40000:=by
        have:=congrArg List.length HA1.out
        rw [aK,aK] at this
        omega
       have hap1:0 < acc1.length:=by rw [← hac,aK,aK];have:=HAP.out;omega
       clear hac hR2 HR hla HAP hpos CB CX hl1
       have hsl:SlAt [] w9 A9 l:=(T.out.h.fact (.head _)).sub (fun g hg=>by cases hg)
       have CW:=aI (rInts_any l A9 c9 w9 hsl (by have:=HLN.out;omega))
       clear hsl
       have hi:=HII.out.1;have hz0:=HII.out.2.1;have hz1:=HII.out.2.2.1;have hz2:=HII.out.2.2.2
       go_wp2_with (first | (go_at_call 101;refine (CW.out).mono ?_;rintro e w2 ⟨v,rfl,hown,hb⟩;obtain ⟨Ab,cb,rfl⟩:=own_form hown;replace T:=aI (T.out.below hb);have HRD:=aI (reads_own hown);clear hown hb) | (at_builtin;refine wpList_append_row (by rfl) _ _ 73 (by rfl) 5 i0 _ 1 1 Tryz.underlying73 hi hz0 hz1 hz2 rfl (by decide) T.out (by rfl) _ _ (En.ints l).length _ (byteVals (En.ints l)) (by rfl) HRD.out (byteVals_one _) (by unfold maxLen;omega) (by omega) ?_;intro v8 w8 M8 h8 _;rw [← byteVals_append,← aK] at h8;replace T:=aI h8;clear h8))
       clear hi hz0 hz1 hz2 HRD
       go_wp2_with fail
       go_roundg (gq - 1)
       case measure=>omega
       case rel=>exact ⟨k+1,_,_,by omega,by go_num,T.out.less (fun P hP=>.tail _ (.tail _ (.tail _ (.tail _ (.tail _ (.tail _ hP)))))),by rw [aK];omega,by rw [HR2.out];exact HA1.out⟩
    ·have k1:¬ (k:Int) < (nl:Int):=by omega
     rw [List.drop_eq_nil_of_le (by rw [HNL.out];omega),List.map_nil,List.flatten_nil,List.nil_append,← HR5.out] at hacc
     have hla:acc.length+(En.int (x.2.2.2.length:Int)).length≤40000:=by
      have:=congrArg List.length hacc
      rw [aK,aK] at this
      omega
     rw [HNR.out] at hla hacc
     rw [← List.append_assoc] at hacc
     have HR:=aI hacc
     clear hacc
     have hi:=HII.out.1;have hz0:=HII.out.2.1;have hz1:=HII.out.2.2.1;have hz2:=HII.out.2.2.2
     go_wp2_with (first | (go_at_call 99;refine (CI4.out _).mono ?_;rintro e w2 ⟨v,rfl,hown,hb⟩;obtain ⟨Ab,cb,rfl⟩:=own_form hown;replace T:=aI (T.out.below hb);have HRD:=aI (reads_own hown);clear hown hb) | (at_builtin;refine wpList_append_row (by rfl) _ _ 73 (by rfl) 5 i0 _ 1 1 Tryz.underlying73 hi hz0 hz1 hz2 rfl (by decide) T.out (by rfl) _ _ (En.int (nr:Int)).length _ (byteVals (En.int (nr:Int))) (by rfl) HRD.out (byteVals_one _) (by unfold maxLen;omega) (by omega) ?_;intro v8 w8 M8 h8 _;rw [← byteVals_append,← aK] at h8;replace T:=aI h8;clear h8))
     clear z0 z1 z2 z3 hi hz0 hz1 hz2 HRD k1
     have hap4:0 < (acc++En.int (nr:Int)).length:=by rw [aK];omega
     clear hla hpos HAP
     go_loopg [3,11] nr (fun r v i wr=>∃ (k:Nat) (M:List Nat) (acc:List UInt8),k+r=nr∧i=.int .i64 k∧HRow W0 [] M [] [fun M W=>N∉M∧Blk W N 28 #[.int .i64 x.1,.slice A nk c,.slice B nl d,.slice C nr e],fun M W=>SlAt M W A (Sc.kinds x),fun M W=>SlAt M W B x.2.2.1,fun M W=>SlAt M W C x.2.2.2] 5 1 v acc.length (byteVals acc) wr∧0 < acc.length∧acc++((x.2.2.2.drop k).map Sx.encR).flatten=E)
     case atStart=>exact ⟨0,_,_,by omega,rfl,T.out,hap4,HR.out⟩
     case round =>
      clear T HR hap4
      obtain ⟨k,M,acc,hk,rfl,hT,hpos,hacc⟩:=hrel
      obtain ⟨wo,rfl⟩:∃ wo:World,wo=wr:=⟨_,rfl⟩
      obtain ⟨gq,rfl⟩:∃ g:Nat,g=gk:=⟨_,rfl⟩
      have T:=aI hT
      clear hT
      obtain ⟨g,cr,rfl⟩:∃ g cr,u3=.slice (some ⟨g,0,none⟩) acc.length cr:=by
       rcases T.out.own.2 with ⟨h0,_⟩ | ⟨g,cap,cur,h1,_⟩
       ·omega
       ·exact ⟨g,cap,h1⟩
      have hbk:=(T.out.h.fact (.head _)).2;have z0:=hbk.cell 0;have z1:=hbk.cell 1;have z2:=hbk.cell 2;have z3:=hbk.cell 3;simp at z0 z1 z2 z3;clear hbk
      have HAP:=aI hpos
      by_cases hlt:k < nr
      ·have hkp:k < x.2.2.2.length:=by rw [HNR.out];exact hlt
       have k0:(0:Int)≤(k:Int):=Int.natCast_nonneg _
       have k1:(k:Int) < (nr:Int):=by omega
       have HR:=aI hacc
       rw [List.drop_eq_getElem_cons hkp,List.map_cons,List.flatten_cons] at HR
       have kb:=HOB.out.r _ (List.getElem_mem hkp)
       obtain ⟨b,o,us,rfl,_,hr,hc⟩:=SlAt.get (T.out.h.fact (.tail _ (.tail _ (.tail _ (.head _))))) k hkp
       obtain ⟨ru,hru⟩:∃ z,x.2.2.2[k]=z:=⟨_,rfl⟩
       rw [hru] at HR kb hr
       obtain ⟨rfl,_⟩:=rep_rul hr
       rw [show Mem.sz Rul=5 from rfl] at hc
       have lq1:=kb.nm;have lq2:=kb.k;have lq3:=kb.a;have lq4:=kb.b;have lq5:=kb.n
       have y0:wo.cell? ⟨b,o+k*5,none⟩=some (Value.string ru.1):=hc 0 _ rfl
       have y1:wo.cell? ⟨b,o+k*5+1,none⟩=some (Value.string ru.2.1):=hc 1 _ rfl
       have y2:wo.cell? ⟨b,o+k*5+2,none⟩=some (Value.string ru.2.2.1):=hc 2 _ rfl
       have y3:wo.cell? ⟨b,o+k*5+3,none⟩=some (Value.string ru.2.2.2.1):=hc 3 _ rfl
       have y4:wo.cell? ⟨b,o+k*5+4,none⟩=some (Value.int .i64 ru.2.2.2.2):=hc 4 _ rfl
       have hla:acc.length+(Sx.encR ru).length≤40000:=by
        have:=congrArg List.length HR.out
        rw [aK,aK] at this
        omega
       obtain ⟨Nr,hNr⟩:∃ n,wo.heap.size=n:=⟨_,rfl⟩
       have hbw:Blk (wo.alloc (.cells #[.string ru.1,.string ru.2.1,.string ru.2.2.1,.string ru.2.2.2.1,.int .i64 ru.2.2.2.2] 58)) Nr 58 #[.string ru.1,.string ru.2.1,.string ru.2.2.1,.string ru.2.2.2.1,.int .i64 ru.2.2.2.2]:=by rw [← hNr];exact Blk.new wo _ _
       have hbl:Below wo.heap.size wo (wo.alloc (.cells #[.string ru.1,.string ru.2.1,.string ru.2.2.1,.string ru.2.2.2.1,.int .i64 ru.2.2.2.2] 58)):=(Below.refl wo.heap.size wo).alloc (Nat.le_refl _) _
       have hnm:Nr∉M:=fun hm=>by have:=T.out.h.mb _ hm;omega
       replace T:=aI ((T.out.below hbl).add (P:=fun M W=>Nr∉M∧Blk W Nr 58 #[.string ru.1,.string ru.2.1,.string ru.2.2.1,.string ru.2.2.2.1,.int .i64 ru.2.2.2.2]) (keeps_blk _ _ _) ⟨hnm,hbw⟩)
       clear hacc hru hr hc kb hbw hbl hnm
       have hl1:acc.length+(Sx.encS [ru.1,ru.2.1,ru.2.2.1,ru.2.2.2.1]).length+(En.int ru.2.2.2.2).length≤40000:=by
        unfold Sx.encR at hla;simp only [aK] at hla;omega
       have CB:=aI (fun W g (hB:Blk W g 9 #[.string ru.1,.string ru.2.1,.string ru.2.2.1,.string ru.2.2.2.1])=>show Calls Tryz.prog 102 #[.slice (some ⟨g,0,none⟩) 4 4] W _ from rStrings_any [ru.1,ru.2.1,ru.2.2.1,ru.2.2.2.1] (some ⟨g,0,none⟩) 4 W (SlAt.of_blk (xs:=[.string ru.1,.string ru.2.1,.string ru.2.2.1,.string ru.2.2.2.1]) ⟨[_],_,rfl,⟨rfl,by omega⟩,[_],_,rfl,⟨rfl,by omega⟩,[_],_,rfl,⟨rfl,by omega⟩,[_],[],rfl,⟨rfl,by omega⟩,rfl⟩ hB (by simp)) (by simp) (by intro s hs;simp only [List.mem_cons,List.not_mem_nil,or_false] at hs;rcases hs with rfl | rfl | rfl | rfl <;> omega))
       have CX:=aI (fun w=>rInt_any ru.2.2.2.2 w (by unfold inI;omega))
       go_upto_region 30 with fail
       generalize wo.alloc (.cells #[.string ru.1,.string ru.2.1,.string ru.2.2.1,.string ru.2.2.2.1,.int .i64 ru.2.2.2.2] 58)=w5 at *
       clear hNr y0 y1 y2 y3 y4 z0 z1 z2 z3
       have HGL:=aI T.out.gLt
       go_wp2_with fail
       letI:Grow:=earlyGrow g 5 acc.length (byteVals (Sx.encS [ru.1,ru.2.1,ru.2.2.1,ru.2.2.2.1]))
       apply RG.wp_region_typed (C:=fun w'=>EG g 5 acc.length (byteVals (Sx.encS [ru.1,ru.2.1,ru.2.2.1,ru.2.2.2.1])) w5 w') (n:=194) (m:=15) (l1:=[_,_,_,_,_,_,_,_,_,_,_,_,_,_,_]) (l2:=[_,_])
       ·rfl
       ·rfl
       ·kernel_rfl
       ·rfl
       ·kernel_rfl
       ·exact EG.below ⟨rfl,rfl,rfl,Nat.le_refl _,fun _ _=>rfl⟩
       ·exact fun u u' h hb=>h.trans hb
       iterate 9 ((apply RG.wpT_exact;· (intro w' hC hf;unfold RG.Gives;have hbk:=((T.out.h.early T.out.ok rfl hC).fact (.head _)).2;have c0:=hbk.cell 0;have c1:=hbk.cell 1;have c2:=hbk.cell 2;have c3:=hbk.cell 3;have c4:=hbk.cell 4;simp at c0 c1 c2 c3 c4;clear hbk;clear hf hC;go_wp2_with (fail);apply RG.postT_val rfl (Grow.refl _);simp only [RG.valAt,aA,aE,aC,aD,aH];exact rfl));(try simp only [Act.put,aB,aF,aG]))
       apply RG.wpT_typed (T:=fun v w=>∃ N,v=.slice (some ⟨N,0,none⟩) 4 4∧w5.heap.size≤N∧Blk w N 9 #[.string ru.1,.string ru.2.1,.string ru.2.2.1,.string ru.2.2.2.1]) (blkN_kept HGL.out)
       ·intro w' hC hf;unfold RG.Gives;have hs:=aI (EG.size hC);clear hf hC
        go_wp2_with fail
        refine RG.postT_mk rfl (EG.below (by go_grown)) ?_;simp only [RG.valAt,aA,aE,aC,aD,aH];exact ⟨_,rfl,hs.out,Blk.new _ _ _⟩
       intro v186;(try simp only [Act.put,aB,aF,aG])
       apply RG.wpT_typed (T:=RowN w5.heap.size 5 1 (Sx.encS [ru.1,ru.2.1,ru.2.2.1,ru.2.2.2.1]).length (byteVals (Sx.encS [ru.1,ru.2.1,ru.2.2.1,ru.2.2.2.1]))) (rowN_keptE HGL.out)
       ·intro w' hC hf;unfold RG.Gives;have HSZ:=aI (EG.size hC);obtain ⟨N2,rfl,_,hB⟩:=hf.1 rfl;have HBk:=aI hB;clear hB;clear hf hC
        go_wp2_with (go_at_call 102;refine (CB.out _ _ HBk.out).mono ?_;rintro e w2 ⟨v,rfl,hown,hb⟩;have HO:=aI hown;have HBL:=aI hb;clear hown hb)
        refine RG.postT_mk rfl (EG.below HBL.out) ?_;simp only [RG.valAt,aA];exact RowN.of_owns HO.out (encS_pos _) HSZ.out
       intro v187;(try simp only [Act.put,aB,aF,aG])
       apply RG.wpT_typed (T:=RowE w5.heap.size g 5 1 (acc.length+(Sx.encS [ru.1,ru.2.1,ru.2.2.1,ru.2.2.2.1]).length) (byteVals acc++byteVals (Sx.encS [ru.1,ru.2.1,ru.2.2.1,ru.2.2.2.1]))) (rowE_kept (fun j u h1 h2=>by rw [List.getElem?_append_right (by unfold byteVals;rw [List.length_map];exact h1)] at h2;unfold byteVals at h2 ⊢;rw [List.length_map] at h2;exact h2))
       ·intro w' hC hf;unfold RG.Gives;have hro:=hf.1 rfl;clear hf
        have hbo:=RowN.owns hro (by unfold byteVals;rw [List.length_map,Nat.mul_one])
        obtain ⟨g2,cap2,cur2,rfl,_,_,_⟩:=hro
        obtain ⟨cur3,q1,q2,q3,q4,q5⟩:=T.out.rowE HAP.out hC
        obtain ⟨hi,hz0,hz1,hz2⟩:=HII.out
        refine wpList_append_early (g:=g) (te:=5) (n8:=acc.length) (us:=byteVals (Sx.encS [ru.1,ru.2.1,ru.2.2.1,ru.2.2.2.1])) (B0:=w5.heap.size) (cap:=cr) (n:=acc.length) (cur:=cur3) (xs:=byteVals acc) (by rfl) _ _ 73 (by rfl) i0 _ 1 1 Tryz.underlying73 hi hz0 hz1 hz2 rfl (by decide) (by rfl) q1 q2 q3 q4 q5 (by unfold byteVals;rw [List.length_map,Nat.mul_one]) (by rfl) (reads_own hbo) (encS_pos _) (byteVals_one _) (by rw [Nat.mul_one]) (EG.size hC) (by unfold maxLen;omega) (by omega) ?_
        intro v' w2 k1 k2
        refine RG.postT_mk rfl k2 ?_;simp only [RG.valAt,aA];exact k1
       intro v188;(try simp only [Act.put,aB,aF,aG])
       iterate 2 ((apply RG.wpT_exact;· (intro w' hC hf;unfold RG.Gives;have hbk:=((T.out.h.early T.out.ok rfl hC).fact (.head _)).2;have c0:=hbk.cell 0;have c1:=hbk.cell 1;have c2:=hbk.cell 2;have c3:=hbk.cell 3;have c4:=hbk.cell 4;simp at c0 c1 c2 c3 c4;clear hbk;clear hf hC;go_wp2_with (fail);apply RG.postT_val rfl (Grow.refl _);simp only [RG.valAt,aA,aE,aC,aD,aH];exact rfl));(try simp only [Act.put,aB,aF,aG]))
       apply RG.wpT_typed (T:=RowN w5.heap.size 5 1 (En.int ru.2.2.2.2).length (byteVals (En.int ru.2.2.2.2))) (rowN_keptE HGL.out)
       ·intro w' hC hf;unfold RG.Gives;have HSZ:=aI (EG.size hC);clear hf hC
        go_wp2_with (go_at_call 99;refine (CX.out w').mono ?_;rintro e w2 ⟨v,rfl,hown,hb⟩;have HO:=aI hown;have HBL:=aI hb;clear hown hb)
        refine RG.postT_mk rfl (EG.below HBL.out) ?_;simp only [RG.valAt,aA];exact RowN.of_owns HO.out (encI_pos _) HSZ.out
       intro v191;(try simp only [Act.put,aB,aF,aG])
       apply RG.wpT_done
       intro w6 hC hall
       obtain ⟨M6,hT6⟩:=HRow.early T.out rfl hC hall.2.1 (by rw [aK];unfold byteVals;rw [List.length_map,List.length_map,Nat.mul_one])
       have hown2:=RowN.owns hall.1 (by unfold byteVals;rw [List.length_map,Nat.mul_one])
       obtain ⟨Ab,cb,rfl⟩:=own_form hown2
       have HR6:=aI (reads_own hown2)
       rw [← byteVals_append,← aK] at hT6
       replace T:=aI hT6
       clear hT6 hown2 hall hC HGL
       obtain ⟨hi,hz0,hz1,hz2⟩:=HII.out
       refine wpList_append_row (by rfl) _ _ 73 (by rfl) 5 i0 _ 1 1 Tryz.underlying73 hi hz0 hz1 hz2 rfl (by decide) T.out (by rfl) _ _ (En.int ru.2.2.2.2).length _ (byteVals (En.int ru.2.2.2.2)) (by rfl) HR6.out (byteVals_one _) (by rw [aK];unfold maxLen;omega) (by rw [aK];omega) ?_
       intro v9 w9 M9 h9 _
       rw [← byteVals_append,← aK] at h9
       replace T:=aI h9
       clear h9 HR6 hi hz0 hz1 hz2
       have HA1:=aI (show ((acc++Sx.encS [ru.1,ru.2.1,ru.2.2.1,ru.2.2.2.1])++En.int ru.2.2.2.2)++((x.2.2.2.drop (k+1)).map Sx.encR).flatten=E by
        rw [← HR.out];unfold Sx.encR;simp only [List.append_assoc])
       go_wp2_with fail
       go_roundg (gq - 1)
       case measure=>omega
       case rel=>exact ⟨k+1,_,_,by omega,by go_num,T.out.less (fun P hP=>.tail _ hP),by rw [aK,aK];omega,HA1.out⟩
      ·have k1:¬ (k:Int) < (nr:Int):=by omega
       rw [List.drop_eq_nil_of_le (by rw [HNR.out];omega),List.map_nil,List.flatten_nil,List.append_nil] at hacc
       have HAE:=aI hacc
       clear hacc
       go_wp2_with fail
       go_ret
       rw [← HAE.out]
       exact ⟨_,rfl,owns_mono T.out.own HB.out.size,HB.out.trans (T.out.h.bl.mono HB.out.size)⟩
end Go.Proofs.YtmplaikgbeeikaaGreatDoor
namespace Go.Proofs.YtmplaikgbeeikaaGreatDoor
open Go Go.RowKit
theorem flat_bytesX {G:List Nat} {w:World}:∀ (l:List UInt8),Flat G w l (byteVals l)
 | []=>rfl
 | b::l=>⟨[.int .u8 b.toNat],byteVals l,rfl,rfl,flat_bytesX l⟩
theorem rowN_sl {B0:Nat} {l:List UInt8} {v:Value} {w:World} (h:RowN B0 5 1 l.length (byteVals l) v w):∃ A c,v=.slice A l.length c∧SlAt [] w A l:=by
 have ho:=RowN.owns h (by unfold byteVals;rw [List.length_map,Nat.mul_one])
 obtain ⟨A,c,h1,_,_,h4⟩:=Rep.of_own (G:=[]) ho (flat_bytesX l) (fun _ _ h=>by cases h)
 injection h1 with h1 _
 exact ⟨A,c,h1,h4⟩
set_option maxRecDepth 100000 in
set_option maxHeartbeats 8000000 in
theorem rsame_any (x:Sch) (us vs:List Value) (w:World) (h:Mem.rep [] w x us) (k:Mem.rep [] w x vs) (OB:Sx.OB x):Calls Tryz.prog 15 #[.agg us.toArray,.agg vs.toArray] w fun e w'=>e=.returned (.bool true)∧Below w.heap.size w w':=by
 have CE1:=aI (fun W (h:Mem.rep [] W x us)=>encode_any x us W h OB)
 have CE2:=aI (fun W (h:Mem.rep [] W x vs)=>encode_any x vs W h OB)
 have hle:=Sx.enc_le OB
 have hpos:0 < (Sx.enc x).length:=by unfold Sx.enc;simp only [aK];have:=encI_pos x.1;omega
 obtain ⟨E,hE⟩:∃ E,Sx.enc x=E:=⟨_,rfl⟩
 unfold BytesP at CE1 CE2
 rw [hE] at CE1 CE2 hle hpos
 have HP:=aI hpos
 have CS:=aI (fun (A B:Option Addr) (c d:Nat) W (ha:SlAt [] W A E) (hb:SlAt [] W B E)=>same_any E E A B c d W ha hb (by omega) (by omega))
 simp only [decide_true] at CS
 obtain ⟨nE,hnE⟩:∃ n,E.length=n:=⟨_,rfl⟩
 have T0:=aI (((held0 w [] (fun _ h=>by cases h)).add (keeps_rep x us) h).add (keeps_rep x vs) k)
 obtain ⟨A,c,B,d,C,e,rfl,_⟩:=rep_sch h
 obtain ⟨A2,c2,B2,d2,C2,e2,rfl,_⟩:=rep_sch k
 clear h k hE hnE OB hle hpos
 obtain ⟨nk,hk⟩:∃ n,(Sc.kinds x).length=n:=⟨_,rfl⟩
 obtain ⟨nl,hl⟩:∃ n,x.2.2.1.length=n:=⟨_,rfl⟩
 obtain ⟨nr,hr⟩:∃ n,x.2.2.2.length=n:=⟨_,rfl⟩
 rw [hk,hl,hr] at T0 CE1 CE2 ⊢
 have T:=aI ((T0.out.made #[.int .i64 x.1,.slice A nk c,.slice B nl d,.slice C nr e] 28 rfl).made #[.int .i64 x.1,.slice A2 nk c2,.slice B2 nl d2,.slice C2 nr e2] 28 rfl)
 clear T0 hk hl hr
 go_enter Tryz.func15,Tryz.ntmps15
 go_upto_region 1 with fail
 have hz:(w.alloc (.cells #[.int .i64 x.1,.slice A nk c,.slice B nl d,.slice C nr e] 28)).heap.size=w.heap.size+1:=by simp
 rw [hz] at T
 clear hz
 generalize (w.alloc (.cells #[.int .i64 x.1,.slice A nk c,.slice B nl d,.slice C nr e] 28)).alloc (.cells #[.int .i64 x.1,.slice A2 nk c2,.slice B2 nl d2,.slice C2 nr e2] 28)=W2 at T ⊢
 generalize w.heap.size+1=N1 at T ⊢
 generalize w.heap.size=N0 at T ⊢
 apply wp_region_typed (C:=fun w'=>Held w [] [] [] [fun M W=>N1∉M∧Blk W N1 28 #[.int .i64 x.1,.slice A2 nk c2,.slice B2 nl d2,.slice C2 nr e2],fun M W=>N0∉M∧Blk W N0 28 #[.int .i64 x.1,.slice A nk c,.slice B nl d,.slice C nr e],fun M W=>Mem.rep M W x [.int .i64 x.1,.slice A2 nk c2,.slice B2 nl d2,.slice C2 nr e2],fun M W=>Mem.rep M W x [.int .i64 x.1,.slice A nk c,.slice B nl d,.slice C nr e]] w') (n:=10) (m:=5) (l1:=[_,_,_,_,_]) (l2:=[_])
 ·rfl
 ·rfl
 ·kernel_rfl
 ·rfl
 ·kernel_rfl
 ·exact T.out.drew
 ·exact fun u u' h hb=>(by first | exact h.below hb | exact h.trans (hb.mono h.size))
 (apply wpT_exact;· (intro w' hC hf;unfold Gives;have q0:=(hC.fact (.tail _ (.head _))).2;have a0:=q0.cell 0;have a1:=q0.cell 1;have a2:=q0.cell 2;have a3:=q0.cell 3;have q1:=(hC.fact (.head _)).2;have b0:=q1.cell 0;have b1:=q1.cell 1;have b2:=q1.cell 2;have b3:=q1.cell 3;simp at a0 a1 a2 a3 b0 b1 b2 b3;clear q0 q1;clear hf hC;go_wp2_with (fail);apply postT_val rfl (Below.refl _ _);simp only [valAt,aA,aE,aC,aD,aH];exact rfl));(try simp only [Act.put,aB,aF,aG])
 apply wpT_typed (T:=RowN 0 5 1 E.length (byteVals E)) rowN_bk
 ·intro w' hC hf;unfold Gives;have HR:=aI (hC.fact (.tail _ (.tail _ (.tail _ (.head _)))));clear hf hC
  go_wp2_with (go_at_call 49;refine (CE1.out w' HR.out).mono ?_;rintro e w2 ⟨v,rfl,hown,hb⟩;have HO:=aI hown;have HBL:=aI hb;clear hown hb)
  refine postT_mk rfl HBL.out ?_;simp only [valAt,aA];exact RowN.of_owns HO.out HP.out (Nat.zero_le _)
 intro v6;(try simp only [Act.put,aB,aF,aG])
 (apply wpT_exact;· (intro w' hC hf;unfold Gives;have q0:=(hC.fact (.tail _ (.head _))).2;have a0:=q0.cell 0;have a1:=q0.cell 1;have a2:=q0.cell 2;have a3:=q0.cell 3;have q1:=(hC.fact (.head _)).2;have b0:=q1.cell 0;have b1:=q1.cell 1;have b2:=q1.cell 2;have b3:=q1.cell 3;simp at a0 a1 a2 a3 b0 b1 b2 b3;clear q0 q1;clear hf hC;go_wp2_with (fail);apply postT_val rfl (Below.refl _ _);simp only [valAt,aA,aE,aC,aD,aH];exact rfl));(try simp only [Act.put,aB,aF,aG])
 apply wpT_typed (T:=RowN 0 5 1 E.length (byteVals E)) rowN_bk
 ·intro w' hC hf;unfold Gives;have HR:=aI (hC.fact (.tail _ (.tail _ (.head _))));clear hf hC
  go_wp2_with (go_at_call 49;refine (CE2.out w' HR.out).mono ?_;rintro e w2 ⟨v,rfl,hown,hb⟩;have HO:=aI hown;have HBL:=aI hb;clear hown hb)
  refine postT_mk rfl HBL.out ?_;simp only [valAt,aA];exact RowN.of_owns HO.out HP.out (Nat.zero_le _)
 intro v8;(try simp only [Act.put,aB,aF,aG])
 (apply wpT_exact;· (intro w' hC hf;unfold Gives;have r8:=hf.1 rfl;have r6:=hf.2.1 rfl;clear hf hC;obtain ⟨A8,c8,rfl,s8⟩:=rowN_sl r8;obtain ⟨A6,c6,rfl,s6⟩:=rowN_sl r6;have S8:=aI s8;have S6:=aI s6;clear r8 r6 s8 s6;go_wp2_with (go_at_call 48;refine (CS.out A6 A8 c6 c8 w' S6.out S8.out).mono ?_;rintro e w2 ⟨rfl,hb⟩;have HBL:=aI hb;clear hb);apply postT_val rfl HBL.out;simp only [valAt,aA,aE,aC,aD,aH];exact rfl));(try simp only [Act.put,aB,aF,aG])
 apply wpT_done
 intro w4 hC hall
 have HBF:=aI hC.bl
 clear hC hall
 go_wp2_with fail
 go_ret
 exact ⟨rfl,HBF.out⟩
theorem Sx.parse_ob {s:Sx.Txt} {y:Sch} {k e:Int} (h:Sx.parse s=(y,k,e)):Sx.OB y:=by
 have h0:Sx.OB Sx.noSch:=(Sx.okB_bd (by decide))
 unfold Sx.parse at h
 split at h
 ·injection h with h1 h2;subst h1;exact h0
 ·split at h
  ·injection h with h1 h2;subst h1;exact h0
  ·injection h with h1 h2;subst h1;exact h0
  ·split at h
   ·injection h with h1 h2;subst h1;exact h0
   ·split at h
    ·rename_i hv
     injection h with h1 h2;subst h1;exact Sx.okB_bd (Sx.valid_ok hv).1
    ·injection h with h1 h2;subst h1;exact h0
  ·injection h with h1 h2;subst h1;exact h0
end Go.Proofs.YtmplaikgbeeikaaGreatDoor
