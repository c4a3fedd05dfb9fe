/- Parts of the proof, joined: SxS2. -/
import Derived.Test.YtmplaikgbeeikaaGreatDoorK15
set_option linter.unusedVariables false
set_option linter.unusedSimpArgs false
set_option linter.unusedSectionVars false
namespace Go.Proofs.YtmplaikgbeeikaaGreatDoor
open Go Go.RowKit
namespace Sx
def lnJ:List Txt→Txt
 | []=>[]
 | t::l=>t++l.flatMap fun u=>32::u
theorem lnJ_end {l:List Txt} (h:l≠[]):lineT l=lnJ l++[10]:=by
 cases l with
 | nil=>exact absurd rfl h
 | cons t l=>exact lineT_cons t l
theorem nm_orN {s:ByteArray} (h:nm s=true):orN s=s:=by
 unfold orN
 rw [if_neg (fun e=>by have h1:=nm_sz h;have h2:=em_sz e;omega)]
end Sx
theorem wdR_list (k:Nat):(wdR k).data.toList=Sx.wordsL.getD k []:=by simp [wdR,Sx.ofT]
theorem wdR_size (k:Nat):(wdR k).size≤12:=by rw [← strLen,wdR_list];exact Sx.words_len k
def RLineP (l:List Sx.Txt) (w:World) (e:Ending) (w':World):Prop:=∃ t:ByteArray,e=.returned (.string t)∧t.data.toList=10::Sx.lnJ l∧Below w.heap.size w w'
set_option maxRecDepth 100000 in
set_option maxHeartbeats 8000000 in
theorem rline_0 (nm of_ up:ByteArray) (lo hi:Int) (ws:List ByteArray) (ns:List Int) (us:List Value) (w:World) (h:Mem.rep [] w ((nm,of_,up,0,lo,hi,ws,ns):Fld) us) (hok:Sx.fldB ((nm,of_,up,0,lo,hi,ws,ns):Fld)=true):Calls Tryz.prog 24 #[.agg us.toArray] w (RLineP (Sx.fldT ((nm,of_,up,0,lo,hi,ws,ns):Fld)) w):=by
 have hf:=Sx.fldB_bd hok
 obtain ⟨A,c,B,d,rfl,s1,s2,a4,a5,a6,a1,a2,a3,b1,b2,e1,e2⟩:=rep_fld h
 have s1:SlAt [] w A ws:=s1
 have s2:SlAt [] w B ns:=s2
 obtain ⟨h1,h2,h3,h4,h5,h6,h7,h8,h9,_⟩:=hf
 replace h1:nm.size≤12:=h1
 replace h2:of_.size≤12:=h2
 replace h3:up.size≤12:=h3
 replace h4:-1048576≤lo∧lo≤1048576:=h4
 replace h5:-1048576≤hi∧hi≤1048576:=h5
 replace h6:ws.length≤12:=h6
 replace h7:ns.length=ws.length:=h7
 replace h8:∀ s∈ws,s.size≤12:=h8
 replace h9:∀ n∈ns,0≤n∧n≤1048576:=h9
 show Calls Tryz.prog 24 #[.agg #[.string nm,.string of_,.string up,.int .i64 0,.int .i64 lo,.int .i64 hi,.slice A ws.length c,.slice B ns.length d]] w _
 obtain ⟨nw,hnw⟩:∃ n,ws.length=n:=⟨_,rfl⟩
 have HNW:=aI hnw
 have HNN:=aI (h7.trans hnw)
 have HWF:=aI h8
 have HNF:=aI h9
 rw [h7,hnw]
 rw [hnw] at h6
 obtain ⟨W1,hW1⟩:∃ X,w.alloc (.cells #[.string nm,.string of_,.string up,.int .i64 0,.int .i64 lo,.int .i64 hi,.slice A nw c,.slice B nw d] 52)=X:=⟨_,rfl⟩
 have hb0:Below w.heap.size w W1:=by rw [← hW1];exact (Below.refl w.heap.size w).alloc (Nat.le_refl _) _
 have HB:=aI hb0
 have hbk:Blk W1 w.heap.size 52 #[.string nm,.string of_,.string up,.int .i64 0,.int .i64 lo,.int .i64 hi,.slice A nw c,.slice B nw d]:=by rw [← hW1];exact Blk.new w _ _
 have HBK:=aI hbk
 have HS1:=aI (s1.keep (Chg.of_below hb0))
 have HS2:=aI (s2.keep (Chg.of_below hb0))
 have HW1:=aI hW1
 have CU:=aI (fun w=>show Calls Tryz.prog 69 #[.int .i64 0] w fun e w'=>e=.returned (.tuple #[.bool false,.bool false,.bool true,.bool false,.bool false])∧w=w' from uses_any 0 w)
 have CW:=aI rwords_any
 obtain ⟨wd,hwd⟩:∃ s,wdR 0=s:=⟨_,rfl⟩
 have hwl:wd.size≤12:=by rw [← hwd];exact wdR_size 0
 have HWL:=aI (show wd.data.toList=Sx.wordsL.getD 0 [] by rw [← hwd];exact wdR_list 0)
 have HWG:=aI (show WRD[0]?=some (.string wd) by rw [← hwd];exact wrd_get 0 (by decide))
 obtain ⟨Nf,hNf⟩:∃ n,w.heap.size=n:=⟨_,rfl⟩
 have HNf:=aI hNf
 rw [hNf] at HBK
 have HC:=aI (Below.refl W1.heap.size W1)
 have hbk:=HBK.out.below HC.out HBK.out.lt;have c0:=hbk.cell 0;have c1:=hbk.cell 1;have c2:=hbk.cell 2;have c3:=hbk.cell 3;have c4:=hbk.cell 4;have c5:=hbk.cell 5;have c6:=hbk.cell 6;have c7:=hbk.cell 7;simp at c0 c1 c2 c3 c4 c5 c6 c7;clear hbk
 clear h7 h8 h9 hnw h s1 s2 a1 a2 a3 a4 a5 a6 b1 b2 e1 e2 hbk hW1 hb0 hwd hok hNf
 go_enter Tryz.func24,Tryz.ntmps24
 go_upto_region 1 with fail
 rw [HW1.out,HNf.out]
 go_wp2_with (go_at_call 69;((with_reducible refine (CU.out _).mono ?_));rintro e w2 ⟨rfl,rfl⟩)
 clear c0 c1 c2 c3 c4 c5 c6 c7
 apply wp_region_typed (C:=fun w'=>Below W1.heap.size W1 w') (n:=80) (m:=11) (l1:=[_,_,_,_,_,_,_,_,_,_,_]) (l2:=[])
 ·rfl
 ·rfl
 ·kernel_rfl
 ·rfl
 ·kernel_rfl
 ·exact ⟨rfl,rfl,rfl,Nat.le_refl _,fun _ _=>rfl⟩
 ·exact fun u u' h hb=>(by first | exact h.below hb | exact h.trans (hb.mono h.size))
 apply wpT_typed (slBlk_kept 9 9 WRD)
 ·intro w' hC hf;unfold Gives;clear hf hC
  go_wp2_with (go_at_call 70;((with_reducible refine (CW.out _).mono ?_));rintro e w2 ⟨g,rfl,hg,hB,hb2⟩)
  apply postT_mk rfl hb2;simp only [valAt,aA,aE,aC,aD,aH];exact ⟨g,rfl,hB⟩
 intro v28;(try simp only [Act.put,aB,aF,aG])
 iterate 2 ((apply wpT_exact;· (intro w' hC hf;unfold Gives;have hbk:=HBK.out.below hC HBK.out.lt;have c0:=hbk.cell 0;have c1:=hbk.cell 1;have c2:=hbk.cell 2;have c3:=hbk.cell 3;have c4:=hbk.cell 4;have c5:=hbk.cell 5;have c6:=hbk.cell 6;have c7:=hbk.cell 7;simp at c0 c1 c2 c3 c4 c5 c6 c7;clear hbk;clear hf hC;go_wp2_with (fail);apply postT_val rfl (Below.refl _ _);simp only [valAt,aA,aE,aC,aD,aH];exact rfl));(try simp only [Act.put,aB,aF,aG]))
 apply wpT_typed (atCell_kept (.string wd))
 ·intro w' hC hf;unfold Gives
  obtain ⟨g,rfl,hB⟩:=hf.1 rfl
  have hcell:=(hB.cell 0).trans HWG.out
  have HCE:=aI hcell
  clear hf hC hcell hB
  go_wp2_with fail
  apply postT_mk rfl (Below.refl _ _);simp only [valAt,aA,aE,aC,aD,aH];exact atCell_of HCE.out
 intro v34;(try simp only [Act.put,aB,aF,aG])
 apply wpT_exact
 ·intro w' hC hf;unfold Gives
  obtain ⟨a,rfl,hc⟩:=hf.1 rfl
  clear hf hC
  go_wp2_with fail
  apply postT_val rfl (Below.refl _ _);simp only [valAt,aA,aE,aC,aD,aH];exact rfl
 (try simp only [Act.put,aB,aF,aG])
 iterate 6 ((apply wpT_exact;· (intro w' hC hf;unfold Gives;have hbk:=HBK.out.below hC HBK.out.lt;have c0:=hbk.cell 0;have c1:=hbk.cell 1;have c2:=hbk.cell 2;have c3:=hbk.cell 3;have c4:=hbk.cell 4;have c5:=hbk.cell 5;have c6:=hbk.cell 6;have c7:=hbk.cell 7;simp at c0 c1 c2 c3 c4 c5 c6 c7;clear hbk;clear hf hC;go_wp2_with (fail);apply postT_val rfl (Below.refl _ _);simp only [valAt,aA,aE,aC,aD,aH];exact rfl));(try simp only [Act.put,aB,aF,aG]))
 apply wpT_done
 intro w3 hC _
 replace HC:=aI hC
 clear hC
 obtain ⟨o0,ho0⟩:∃ o:ByteArray,(⟨#[10]⟩++wd++⟨#[32]⟩++nm:ByteArray)=o:=⟨_,rfl⟩
 rw [ho0]
 have ho0s:o0.size≤26:=by rw [← ho0];simp only [ByteArray.size_append];rw [show (⟨#[10]⟩:ByteArray).size=1 from rfl,show (⟨#[32]⟩:ByteArray).size=1 from rfl];omega
 have HO0:=aI (show o0.data.toList=10::(Sx.wordsL.getD 0 []++32::Sx.bs nm) by rw [← ho0,← HWL.out];unfold Sx.bs;simp)
 clear ho0
 have hbk:=HBK.out.below HC.out HBK.out.lt;have c0:=hbk.cell 0;have c1:=hbk.cell 1;have c2:=hbk.cell 2;have c3:=hbk.cell 3;have c4:=hbk.cell 4;have c5:=hbk.cell 5;have c6:=hbk.cell 6;have c7:=hbk.cell 7;simp at c0 c1 c2 c3 c4 c5 c6 c7;clear hbk
 have CA1:=aI (fun w=>and_any o0 lo w (by omega) (by omega))
 go_wp2_with (first | (go_at_call 25;((with_reducible refine (CN.out _).mono ?_));rintro e w4 ⟨rfl,rfl⟩) | (go_at_call 23;((with_reducible refine (CA1.out _).mono ?_));rintro e w5 ⟨rfl,hb5⟩;replace HC:=aI (HC.out.trans (hb5.mono HC.out.size));clear hb5;clear c0 c1 c2 c3 c4 c5 c6 c7;have hbk:=HBK.out.below HC.out HBK.out.lt;have c0:=hbk.cell 0;have c1:=hbk.cell 1;have c2:=hbk.cell 2;have c3:=hbk.cell 3;have c4:=hbk.cell 4;have c5:=hbk.cell 5;have c6:=hbk.cell 6;have c7:=hbk.cell 7;simp at c0 c1 c2 c3 c4 c5 c6 c7;clear hbk))
 go_ret
 refine ⟨_,rfl,?_,HB.out.trans (HC.out.mono HB.out.size)⟩
 show (((andS o0 lo)):ByteArray).data.toList=10::Sx.lnJ (Sx.fldT ((nm,of_,up,0,lo,hi,ws,ns):Fld))
 rw [andS_list]
 have hx:=HO0.out
 show _=10::(Sx.wordsL.getD 0 []++(Sx.bs nm::[Sx.num lo]).flatMap fun u=>32::u)
 simp [hx,Sx.bs]
set_option maxRecDepth 100000 in
set_option maxHeartbeats 8000000 in
theorem rline_2 (nm of_ up:ByteArray) (lo hi:Int) (ws:List ByteArray) (ns:List Int) (us:List Value) (w:World) (h:Mem.rep [] w ((nm,of_,up,2,lo,hi,ws,ns):Fld) us) (hok:Sx.fldB ((nm,of_,up,2,lo,hi,ws,ns):Fld)=true):Calls Tryz.prog 24 #[.agg us.toArray] w (RLineP (Sx.fldT ((nm,of_,up,2,lo,hi,ws,ns):Fld)) w):=by
 have hf:=Sx.fldB_bd hok
 obtain ⟨A,c,B,d,rfl,s1,s2,a4,a5,a6,a1,a2,a3,b1,b2,e1,e2⟩:=rep_fld h
 have s1:SlAt [] w A ws:=s1
 have s2:SlAt [] w B ns:=s2
 obtain ⟨h1,h2,h3,h4,h5,h6,h7,h8,h9,_⟩:=hf
 replace h1:nm.size≤12:=h1
 replace h2:of_.size≤12:=h2
 replace h3:up.size≤12:=h3
 replace h4:-1048576≤lo∧lo≤1048576:=h4
 replace h5:-1048576≤hi∧hi≤1048576:=h5
 replace h6:ws.length≤12:=h6
 replace h7:ns.length=ws.length:=h7
 replace h8:∀ s∈ws,s.size≤12:=h8
 replace h9:∀ n∈ns,0≤n∧n≤1048576:=h9
 show Calls Tryz.prog 24 #[.agg #[.string nm,.string of_,.string up,.int .i64 2,.int .i64 lo,.int .i64 hi,.slice A ws.length c,.slice B ns.length d]] w _
 obtain ⟨nw,hnw⟩:∃ n,ws.length=n:=⟨_,rfl⟩
 have HNW:=aI hnw
 have HNN:=aI (h7.trans hnw)
 have HWF:=aI h8
 have HNF:=aI h9
 rw [h7,hnw]
 rw [hnw] at h6
 obtain ⟨W1,hW1⟩:∃ X,w.alloc (.cells #[.string nm,.string of_,.string up,.int .i64 2,.int .i64 lo,.int .i64 hi,.slice A nw c,.slice B nw d] 52)=X:=⟨_,rfl⟩
 have hb0:Below w.heap.size w W1:=by rw [← hW1];exact (Below.refl w.heap.size w).alloc (Nat.le_refl _) _
 have HB:=aI hb0
 have hbk:Blk W1 w.heap.size 52 #[.string nm,.string of_,.string up,.int .i64 2,.int .i64 lo,.int .i64 hi,.slice A nw c,.slice B nw d]:=by rw [← hW1];exact Blk.new w _ _
 have HBK:=aI hbk
 have HS1:=aI (s1.keep (Chg.of_below hb0))
 have HS2:=aI (s2.keep (Chg.of_below hb0))
 have HW1:=aI hW1
 have CU:=aI (fun w=>show Calls Tryz.prog 69 #[.int .i64 2] w fun e w'=>e=.returned (.tuple #[.bool false,.bool false,.bool true,.bool true,.bool false])∧w=w' from uses_any 2 w)
 have CW:=aI rwords_any
 obtain ⟨wd,hwd⟩:∃ s,wdR 2=s:=⟨_,rfl⟩
 have hwl:wd.size≤12:=by rw [← hwd];exact wdR_size 2
 have HWL:=aI (show wd.data.toList=Sx.wordsL.getD 2 [] by rw [← hwd];exact wdR_list 2)
 have HWG:=aI (show WRD[2]?=some (.string wd) by rw [← hwd];exact wrd_get 2 (by decide))
 obtain ⟨Nf,hNf⟩:∃ n,w.heap.size=n:=⟨_,rfl⟩
 have HNf:=aI hNf
 rw [hNf] at HBK
 have HC:=aI (Below.refl W1.heap.size W1)
 have hbk:=HBK.out.below HC.out HBK.out.lt;have c0:=hbk.cell 0;have c1:=hbk.cell 1;have c2:=hbk.cell 2;have c3:=hbk.cell 3;have c4:=hbk.cell 4;have c5:=hbk.cell 5;have c6:=hbk.cell 6;have c7:=hbk.cell 7;simp at c0 c1 c2 c3 c4 c5 c6 c7;clear hbk
 clear h7 h8 h9 hnw h s1 s2 a1 a2 a3 a4 a5 a6 b1 b2 e1 e2 hbk hW1 hb0 hwd hok hNf
 go_enter Tryz.func24,Tryz.ntmps24
 go_upto_region 1 with fail
 rw [HW1.out,HNf.out]
 go_wp2_with (go_at_call 69;((with_reducible refine (CU.out _).mono ?_));rintro e w2 ⟨rfl,rfl⟩)
 clear c0 c1 c2 c3 c4 c5 c6 c7
 apply wp_region_typed (C:=fun w'=>Below W1.heap.size W1 w') (n:=80) (m:=11) (l1:=[_,_,_,_,_,_,_,_,_,_,_]) (l2:=[])
 ·rfl
 ·rfl
 ·kernel_rfl
 ·rfl
 ·kernel_rfl
 ·exact ⟨rfl,rfl,rfl,Nat.le_refl _,fun _ _=>rfl⟩
 ·exact fun u u' h hb=>(by first | exact h.below hb | exact h.trans (hb.mono h.size))
 apply wpT_typed (slBlk_kept 9 9 WRD)
 ·intro w' hC hf;unfold Gives;clear hf hC
  go_wp2_with (go_at_call 70;((with_reducible refine (CW.out _).mono ?_));rintro e w2 ⟨g,rfl,hg,hB,hb2⟩)
  apply postT_mk rfl hb2;simp only [valAt,aA,aE,aC,aD,aH];exact ⟨g,rfl,hB⟩
 intro v28;(try simp only [Act.put,aB,aF,aG])
 iterate 2 ((apply wpT_exact;· (intro w' hC hf;unfold Gives;have hbk:=HBK.out.below hC HBK.out.lt;have c0:=hbk.cell 0;have c1:=hbk.cell 1;have c2:=hbk.cell 2;have c3:=hbk.cell 3;have c4:=hbk.cell 4;have c5:=hbk.cell 5;have c6:=hbk.cell 6;have c7:=hbk.cell 7;simp at c0 c1 c2 c3 c4 c5 c6 c7;clear hbk;clear hf hC;go_wp2_with (fail);apply postT_val rfl (Below.refl _ _);simp only [valAt,aA,aE,aC,aD,aH];exact rfl));(try simp only [Act.put,aB,aF,aG]))
 apply wpT_typed (atCell_kept (.string wd))
 ·intro w' hC hf;unfold Gives
  obtain ⟨g,rfl,hB⟩:=hf.1 rfl
  have hcell:=(hB.cell 2).trans HWG.out
  have HCE:=aI hcell
  clear hf hC hcell hB
  go_wp2_with fail
  apply postT_mk rfl (Below.refl _ _);simp only [valAt,aA,aE,aC,aD,aH];exact atCell_of HCE.out
 intro v34;(try simp only [Act.put,aB,aF,aG])
 apply wpT_exact
 ·intro w' hC hf;unfold Gives
  obtain ⟨a,rfl,hc⟩:=hf.1 rfl
  clear hf hC
  go_wp2_with fail
  apply postT_val rfl (Below.refl _ _);simp only [valAt,aA,aE,aC,aD,aH];exact rfl
 (try simp only [Act.put,aB,aF,aG])
 iterate 6 ((apply wpT_exact;· (intro w' hC hf;unfold Gives;have hbk:=HBK.out.below hC HBK.out.lt;have c0:=hbk.cell 0;have c1:=hbk.cell 1;have c2:=hbk.cell 2;have c3:=hbk.cell 3;have c4:=hbk.cell 4;have c5:=hbk.cell 5;have c6:=hbk.cell 6;have c7:=hbk.cell 7;simp at c0 c1 c2 c3 c4 c5 c6 c7;clear hbk;clear hf hC;go_wp2_with (fail);apply postT_val rfl (Below.refl _ _);simp only [valAt,aA,aE,aC,aD,aH];exact rfl));(try simp only [Act.put,aB,aF,aG]))
 apply wpT_done
 intro w3 hC _
 replace HC:=aI hC
 clear hC
 obtain ⟨o0,ho0⟩:∃ o:ByteArray,(⟨#[10]⟩++wd++⟨#[32]⟩++nm:ByteArray)=o:=⟨_,rfl⟩
 rw [ho0]
 have ho0s:o0.size≤26:=by rw [← ho0];simp only [ByteArray.size_append];rw [show (⟨#[10]⟩:ByteArray).size=1 from rfl,show (⟨#[32]⟩:ByteArray).size=1 from rfl];omega
 have HO0:=aI (show o0.data.toList=10::(Sx.wordsL.getD 2 []++32::Sx.bs nm) by rw [← ho0,← HWL.out];unfold Sx.bs;simp)
 clear ho0
 have hbk:=HBK.out.below HC.out HBK.out.lt;have c0:=hbk.cell 0;have c1:=hbk.cell 1;have c2:=hbk.cell 2;have c3:=hbk.cell 3;have c4:=hbk.cell 4;have c5:=hbk.cell 5;have c6:=hbk.cell 6;have c7:=hbk.cell 7;simp at c0 c1 c2 c3 c4 c5 c6 c7;clear hbk
 have CA1:=aI (fun w=>and_any o0 lo w (by omega) (by omega))
 have CA2:=aI (fun w=>and_any (andS o0 lo) hi w (by have:=andS_size o0 lo (by omega);omega) (by omega))
 go_wp2_with (first | (go_at_call 25;((with_reducible refine (CN.out _).mono ?_));rintro e w4 ⟨rfl,rfl⟩) | (go_at_call 23;((with_reducible refine (CA1.out _).mono ?_));rintro e w5 ⟨rfl,hb5⟩;replace HC:=aI (HC.out.trans (hb5.mono HC.out.size));clear hb5;clear c0 c1 c2 c3 c4 c5 c6 c7;have hbk:=HBK.out.below HC.out HBK.out.lt;have c0:=hbk.cell 0;have c1:=hbk.cell 1;have c2:=hbk.cell 2;have c3:=hbk.cell 3;have c4:=hbk.cell 4;have c5:=hbk.cell 5;have c6:=hbk.cell 6;have c7:=hbk.cell 7;simp at c0 c1 c2 c3 c4 c5 c6 c7;clear hbk) | (go_at_call 23;((with_reducible refine (CA2.out _).mono ?_));rintro e w5 ⟨rfl,hb5⟩;replace HC:=aI (HC.out.trans (hb5.mono HC.out.size));clear hb5;clear c0 c1 c2 c3 c4 c5 c6 c7;have hbk:=HBK.out.below HC.out HBK.out.lt;have c0:=hbk.cell 0;have c1:=hbk.cell 1;have c2:=hbk.cell 2;have c3:=hbk.cell 3;have c4:=hbk.cell 4;have c5:=hbk.cell 5;have c6:=hbk.cell 6;have c7:=hbk.cell 7;simp at c0 c1 c2 c3 c4 c5 c6 c7;clear hbk))
 go_ret
 refine ⟨_,rfl,?_,HB.out.trans (HC.out.mono HB.out.size)⟩
 show (((andS (andS o0 lo) hi)):ByteArray).data.toList=10::Sx.lnJ (Sx.fldT ((nm,of_,up,2,lo,hi,ws,ns):Fld))
 rw [andS_list,andS_list]
 have hx:=HO0.out
 show _=10::(Sx.wordsL.getD 2 []++(Sx.bs nm::[Sx.num lo,Sx.num hi]).flatMap fun u=>32::u)
 simp [hx,Sx.bs]
set_option maxRecDepth 100000 in
set_option maxHeartbeats 8000000 in
theorem rline_6 (nm of_ up:ByteArray) (lo hi:Int) (ws:List ByteArray) (ns:List Int) (us:List Value) (w:World) (h:Mem.rep [] w ((nm,of_,up,6,lo,hi,ws,ns):Fld) us) (hok:Sx.fldB ((nm,of_,up,6,lo,hi,ws,ns):Fld)=true):Calls Tryz.prog 24 #[.agg us.toArray] w (RLineP (Sx.fldT ((nm,of_,up,6,lo,hi,ws,ns):Fld)) w):=by
 have hf:=Sx.fldB_bd hok
 obtain ⟨A,c,B,d,rfl,s1,s2,a4,a5,a6,a1,a2,a3,b1,b2,e1,e2⟩:=rep_fld h
 have s1:SlAt [] w A ws:=s1
 have s2:SlAt [] w B ns:=s2
 obtain ⟨h1,h2,h3,h4,h5,h6,h7,h8,h9,_⟩:=hf
 replace h1:nm.size≤12:=h1
 replace h2:of_.size≤12:=h2
 replace h3:up.size≤12:=h3
 replace h4:-1048576≤lo∧lo≤1048576:=h4
 replace h5:-1048576≤hi∧hi≤1048576:=h5
 replace h6:ws.length≤12:=h6
 replace h7:ns.length=ws.length:=h7
 replace h8:∀ s∈ws,s.size≤12:=h8
 replace h9:∀ n∈ns,0≤n∧n≤1048576:=h9
 have hno:Sx.orN of_=of_:=Sx.nm_orN (by have hq:=hok;rw [show Sx.fldB ((nm,of_,up,6,lo,hi,ws,ns):Fld)=(Sx.nm nm && (Sx.em up && (Sx.noW ((nm,of_,up,6,lo,hi,ws,ns):Fld) && (decide (lo=0) && (decide (hi=0) && Sx.nm of_))))) from rfl] at hq;simp only [Bool.and_eq_true] at hq;exact hq.2.2.2.2.2)
 show Calls Tryz.prog 24 #[.agg #[.string nm,.string of_,.string up,.int .i64 6,.int .i64 lo,.int .i64 hi,.slice A ws.length c,.slice B ns.length d]] w _
 obtain ⟨nw,hnw⟩:∃ n,ws.length=n:=⟨_,rfl⟩
 have HNW:=aI hnw
 have HNN:=aI (h7.trans hnw)
 have HWF:=aI h8
 have HNF:=aI h9
 rw [h7,hnw]
 rw [hnw] at h6
 obtain ⟨W1,hW1⟩:∃ X,w.alloc (.cells #[.string nm,.string of_,.string up,.int .i64 6,.int .i64 lo,.int .i64 hi,.slice A nw c,.slice B nw d] 52)=X:=⟨_,rfl⟩
 have hb0:Below w.heap.size w W1:=by rw [← hW1];exact (Below.refl w.heap.size w).alloc (Nat.le_refl _) _
 have HB:=aI hb0
 have hbk:Blk W1 w.heap.size 52 #[.string nm,.string of_,.string up,.int .i64 6,.int .i64 lo,.int .i64 hi,.slice A nw c,.slice B nw d]:=by rw [← hW1];exact Blk.new w _ _
 have HBK:=aI hbk
 have HS1:=aI (s1.keep (Chg.of_below hb0))
 have HS2:=aI (s2.keep (Chg.of_below hb0))
 have HW1:=aI hW1
 have CU:=aI (fun w=>show Calls Tryz.prog 69 #[.int .i64 6] w fun e w'=>e=.returned (.tuple #[.bool true,.bool false,.bool false,.bool false,.bool false])∧w=w' from uses_any 6 w)
 have CW:=aI rwords_any
 obtain ⟨wd,hwd⟩:∃ s,wdR 6=s:=⟨_,rfl⟩
 have hwl:wd.size≤12:=by rw [← hwd];exact wdR_size 6
 have HWL:=aI (show wd.data.toList=Sx.wordsL.getD 6 [] by rw [← hwd];exact wdR_list 6)
 have HWG:=aI (show WRD[6]?=some (.string wd) by rw [← hwd];exact wrd_get 6 (by decide))
 obtain ⟨Nf,hNf⟩:∃ n,w.heap.size=n:=⟨_,rfl⟩
 have HNf:=aI hNf
 rw [hNf] at HBK
 have HC:=aI (Below.refl W1.heap.size W1)
 have hbk:=HBK.out.below HC.out HBK.out.lt;have c0:=hbk.cell 0;have c1:=hbk.cell 1;have c2:=hbk.cell 2;have c3:=hbk.cell 3;have c4:=hbk.cell 4;have c5:=hbk.cell 5;have c6:=hbk.cell 6;have c7:=hbk.cell 7;simp at c0 c1 c2 c3 c4 c5 c6 c7;clear hbk
 clear h7 h8 h9 hnw h s1 s2 a1 a2 a3 a4 a5 a6 b1 b2 e1 e2 hbk hW1 hb0 hwd hok hNf
 go_enter Tryz.func24,Tryz.ntmps24
 go_upto_region 1 with fail
 rw [HW1.out,HNf.out]
 go_wp2_with (go_at_call 69;((with_reducible refine (CU.out _).mono ?_));rintro e w2 ⟨rfl,rfl⟩)
 clear c0 c1 c2 c3 c4 c5 c6 c7
 apply wp_region_typed (C:=fun w'=>Below W1.heap.size W1 w') (n:=80) (m:=11) (l1:=[_,_,_,_,_,_,_,_,_,_,_]) (l2:=[])
 ·rfl
 ·rfl
 ·kernel_rfl
 ·rfl
 ·kernel_rfl
 ·exact ⟨rfl,rfl,rfl,Nat.le_refl _,fun _ _=>rfl⟩
 ·exact fun u u' h hb=>(by first | exact h.below hb | exact h.trans (hb.mono h.size))
 apply wpT_typed (slBlk_kept 9 9 WRD)
 ·intro w' hC hf;unfold Gives;clear hf hC
  go_wp2_with (go_at_call 70;((with_reducible refine (CW.out _).mono ?_));rintro e w2 ⟨g,rfl,hg,hB,hb2⟩)
  apply postT_mk rfl hb2;simp only [valAt,aA,aE,aC,aD,aH];exact ⟨g,rfl,hB⟩
 intro v28;(try simp only [Act.put,aB,aF,aG])
 iterate 2 ((apply wpT_exact;· (intro w' hC hf;unfold Gives;have hbk:=HBK.out.below hC HBK.out.lt;have c0:=hbk.cell 0;have c1:=hbk.cell 1;have c2:=hbk.cell 2;have c3:=hbk.cell 3;have c4:=hbk.cell 4;have c5:=hbk.cell 5;have c6:=hbk.cell 6;have c7:=hbk.cell 7;simp at c0 c1 c2 c3 c4 c5 c6 c7;clear hbk;clear hf hC;go_wp2_with (fail);apply postT_val rfl (Below.refl _ _);simp only [valAt,aA,aE,aC,aD,aH];exact rfl));(try simp only [Act.put,aB,aF,aG]))
 apply wpT_typed (atCell_kept (.string wd))
 ·intro w' hC hf;unfold Gives
  obtain ⟨g,rfl,hB⟩:=hf.1 rfl
  have hcell:=(hB.cell 6).trans HWG.out
  have HCE:=aI hcell
  clear hf hC hcell hB
  go_wp2_with fail
  apply postT_mk rfl (Below.refl _ _);simp only [valAt,aA,aE,aC,aD,aH];exact atCell_of HCE.out
 intro v34;(try simp only [Act.put,aB,aF,aG])
 apply wpT_exact
 ·intro w' hC hf;unfold Gives
  obtain ⟨a,rfl,hc⟩:=hf.1 rfl
  clear hf hC
  go_wp2_with fail
  apply postT_val rfl (Below.refl _ _);simp only [valAt,aA,aE,aC,aD,aH];exact rfl
 (try simp only [Act.put,aB,aF,aG])
 iterate 6 ((apply wpT_exact;· (intro w' hC hf;unfold Gives;have hbk:=HBK.out.below hC HBK.out.lt;have c0:=hbk.cell 0;have c1:=hbk.cell 1;have c2:=hbk.cell 2;have c3:=hbk.cell 3;have c4:=hbk.cell 4;have c5:=hbk.cell 5;have c6:=hbk.cell 6;have c7:=hbk.cell 7;simp at c0 c1 c2 c3 c4 c5 c6 c7;clear hbk;clear hf hC;go_wp2_with (fail);apply postT_val rfl (Below.refl _ _);simp only [valAt,aA,aE,aC,aD,aH];exact rfl));(try simp only [Act.put,aB,aF,aG]))
 apply wpT_done
 intro w3 hC _
 replace HC:=aI hC
 clear hC
 obtain ⟨o0,ho0⟩:∃ o:ByteArray,(⟨#[10]⟩++wd++⟨#[32]⟩++nm:ByteArray)=o:=⟨_,rfl⟩
 rw [ho0]
 have ho0s:o0.size≤26:=by rw [← ho0];simp only [ByteArray.size_append];rw [show (⟨#[10]⟩:ByteArray).size=1 from rfl,show (⟨#[32]⟩:ByteArray).size=1 from rfl];omega
 have HO0:=aI (show o0.data.toList=10::(Sx.wordsL.getD 6 []++32::Sx.bs nm) by rw [← ho0,← HWL.out];unfold Sx.bs;simp)
 clear ho0
 have hbk:=HBK.out.below HC.out HBK.out.lt;have c0:=hbk.cell 0;have c1:=hbk.cell 1;have c2:=hbk.cell 2;have c3:=hbk.cell 3;have c4:=hbk.cell 4;have c5:=hbk.cell 5;have c6:=hbk.cell 6;have c7:=hbk.cell 7;simp at c0 c1 c2 c3 c4 c5 c6 c7;clear hbk
 have CN:=aI (fun w=>rnamed_any of_ w)
 have hon:(Sx.orN of_).size≤12:=Sx.orN_sz h2 (by decide)
 obtain ⟨on,hon9⟩:∃ s,Sx.orN of_=s:=⟨_,rfl⟩
 rw [hon9] at CN hon hno
 have HON:=aI hon9
 clear hon9
 have HNO:=aI hno
 clear hno
 obtain ⟨o1,ho1⟩:∃ o:ByteArray,((o0++⟨#[32]⟩++on):ByteArray)=o:=⟨_,rfl⟩
 have ho1s:o1.size≤39:=by rw [← ho1];simp only [ByteArray.size_append];rw [show (⟨#[32]⟩:ByteArray).size=1 from rfl];omega
 have HO1:=aI ho1
 clear ho1
 go_upto_region 7 with (first | (go_at_call 25;((with_reducible refine (CN.out _).mono ?_));rintro e w4 ⟨rfl,rfl⟩))
 rw [HO1.out]
 go_wp2_with (first | (go_at_call 25;((with_reducible refine (CN.out _).mono ?_));rintro e w4 ⟨rfl,rfl⟩))
 go_ret
 refine ⟨_,rfl,?_,HB.out.trans (HC.out.mono HB.out.size)⟩
 show ((o1):ByteArray).data.toList=10::Sx.lnJ (Sx.fldT ((nm,of_,up,6,lo,hi,ws,ns):Fld))
 rw [← HO1.out]
 have hx:=HO0.out
 have hy:=HON.out
 have hz:=HNO.out
 show _=10::(Sx.wordsL.getD 6 []++(Sx.bs nm::[Sx.bs of_]).flatMap fun u=>32::u)
 rw [← hz]
 simp [hx,Sx.bs]
set_option maxRecDepth 100000 in
set_option maxHeartbeats 8000000 in
theorem rline_7 (nm of_ up:ByteArray) (lo hi:Int) (ws:List ByteArray) (ns:List Int) (us:List Value) (w:World) (h:Mem.rep [] w ((nm,of_,up,7,lo,hi,ws,ns):Fld) us) (hok:Sx.fldB ((nm,of_,up,7,lo,hi,ws,ns):Fld)=true):Calls Tryz.prog 24 #[.agg us.toArray] w (RLineP (Sx.fldT ((nm,of_,up,7,lo,hi,ws,ns):Fld)) w):=by
 have hf:=Sx.fldB_bd hok
 obtain ⟨A,c,B,d,rfl,s1,s2,a4,a5,a6,a1,a2,a3,b1,b2,e1,e2⟩:=rep_fld h
 have s1:SlAt [] w A ws:=s1
 have s2:SlAt [] w B ns:=s2
 obtain ⟨h1,h2,h3,h4,h5,h6,h7,h8,h9,_⟩:=hf
 replace h1:nm.size≤12:=h1
 replace h2:of_.size≤12:=h2
 replace h3:up.size≤12:=h3
 replace h4:-1048576≤lo∧lo≤1048576:=h4
 replace h5:-1048576≤hi∧hi≤1048576:=h5
 replace h6:ws.length≤12:=h6
 replace h7:ns.length=ws.length:=h7
 replace h8:∀ s∈ws,s.size≤12:=h8
 replace h9:∀ n∈ns,0≤n∧n≤1048576:=h9
 have hno:Sx.orN of_=of_:=Sx.nm_orN (by have hq:=hok;rw [show Sx.fldB ((nm,of_,up,7,lo,hi,ws,ns):Fld)=(Sx.nm nm && (Sx.noW ((nm,of_,up,7,lo,hi,ws,ns):Fld) && (Sx.nm of_ && (Sx.nm up && Sx.span lo hi 0 Sx.most)))) from rfl] at hq;simp only [Bool.and_eq_true] at hq;exact hq.2.2.1)
 show Calls Tryz.prog 24 #[.agg #[.string nm,.string of_,.string up,.int .i64 7,.int .i64 lo,.int .i64 hi,.slice A ws.length c,.slice B ns.length d]] w _
 obtain ⟨nw,hnw⟩:∃ n,ws.length=n:=⟨_,rfl⟩
 have HNW:=aI hnw
 have HNN:=aI (h7.trans hnw)
 have HWF:=aI h8
 have HNF:=aI h9
 rw [h7,hnw]
 rw [hnw] at h6
 obtain ⟨W1,hW1⟩:∃ X,w.alloc (.cells #[.string nm,.string of_,.string up,.int .i64 7,.int .i64 lo,.int .i64 hi,.slice A nw c,.slice B nw d] 52)=X:=⟨_,rfl⟩
 have hb0:Below w.heap.size w W1:=by rw [← hW1];exact (Below.refl w.heap.size w).alloc (Nat.le_refl _) _
 have HB:=aI hb0
 have hbk:Blk W1 w.heap.size 52 #[.string nm,.string of_,.string up,.int .i64 7,.int .i64 lo,.int .i64 hi,.slice A nw c,.slice B nw d]:=by rw [← hW1];exact Blk.new w _ _
 have HBK:=aI hbk
 have HS1:=aI (s1.keep (Chg.of_below hb0))
 have HS2:=aI (s2.keep (Chg.of_below hb0))
 have HW1:=aI hW1
 have CU:=aI (fun w=>show Calls Tryz.prog 69 #[.int .i64 7] w fun e w'=>e=.returned (.tuple #[.bool true,.bool true,.bool true,.bool true,.bool false])∧w=w' from uses_any 7 w)
 have CW:=aI rwords_any
 obtain ⟨wd,hwd⟩:∃ s,wdR 7=s:=⟨_,rfl⟩
 have hwl:wd.size≤12:=by rw [← hwd];exact wdR_size 7
 have HWL:=aI (show wd.data.toList=Sx.wordsL.getD 7 [] by rw [← hwd];exact wdR_list 7)
 have HWG:=aI (show WRD[7]?=some (.string wd) by rw [← hwd];exact wrd_get 7 (by decide))
 obtain ⟨Nf,hNf⟩:∃ n,w.heap.size=n:=⟨_,rfl⟩
 have HNf:=aI hNf
 rw [hNf] at HBK
 have HC:=aI (Below.refl W1.heap.size W1)
 have hbk:=HBK.out.below HC.out HBK.out.lt;have c0:=hbk.cell 0;have c1:=hbk.cell 1;have c2:=hbk.cell 2;have c3:=hbk.cell 3;have c4:=hbk.cell 4;have c5:=hbk.cell 5;have c6:=hbk.cell 6;have c7:=hbk.cell 7;simp at c0 c1 c2 c3 c4 c5 c6 c7;clear hbk
 clear h7 h8 h9 hnw h s1 s2 a1 a2 a3 a4 a5 a6 b1 b2 e1 e2 hbk hW1 hb0 hwd hok hNf
 go_enter Tryz.func24,Tryz.ntmps24
 go_upto_region 1 with fail
 rw [HW1.out,HNf.out]
 go_wp2_with (go_at_call 69;((with_reducible refine (CU.out _).mono ?_));rintro e w2 ⟨rfl,rfl⟩)
 clear c0 c1 c2 c3 c4 c5 c6 c7
 apply wp_region_typed (C:=fun w'=>Below W1.heap.size W1 w') (n:=80) (m:=11) (l1:=[_,_,_,_,_,_,_,_,_,_,_]) (l2:=[])
 ·rfl
 ·rfl
 ·kernel_rfl
 ·rfl
 ·kernel_rfl
 ·exact ⟨rfl,rfl,rfl,Nat.le_refl _,fun _ _=>rfl⟩
 ·exact fun u u' h hb=>(by first | exact h.below hb | exact h.trans (hb.mono h.size))
 apply wpT_typed (slBlk_kept 9 9 WRD)
 ·intro w' hC hf;unfold Gives;clear hf hC
  go_wp2_with (go_at_call 70;((with_reducible refine (CW.out _).mono ?_));rintro e w2 ⟨g,rfl,hg,hB,hb2⟩)
  apply postT_mk rfl hb2;simp only [valAt,aA,aE,aC,aD,aH];exact ⟨g,rfl,hB⟩
 intro v28;(try simp only [Act.put,aB,aF,aG])
 iterate 2 ((apply wpT_exact;· (intro w' hC hf;unfold Gives;have hbk:=HBK.out.below hC HBK.out.lt;have c0:=hbk.cell 0;have c1:=hbk.cell 1;have c2:=hbk.cell 2;have c3:=hbk.cell 3;have c4:=hbk.cell 4;have c5:=hbk.cell 5;have c6:=hbk.cell 6;have c7:=hbk.cell 7;simp at c0 c1 c2 c3 c4 c5 c6 c7;clear hbk;clear hf hC;go_wp2_with (fail);apply postT_val rfl (Below.refl _ _);simp only [valAt,aA,aE,aC,aD,aH];exact rfl));(try simp only [Act.put,aB,aF,aG]))
 apply wpT_typed (atCell_kept (.string wd))
 ·intro w' hC hf;unfold Gives
  obtain ⟨g,rfl,hB⟩:=hf.1 rfl
  have hcell:=(hB.cell 7).trans HWG.out
  have HCE:=aI hcell
  clear hf hC hcell hB
  go_wp2_with fail
  apply postT_mk rfl (Below.refl _ _);simp only [valAt,aA,aE,aC,aD,aH];exact atCell_of HCE.out
 intro v34;(try simp only [Act.put,aB,aF,aG])
 apply wpT_exact
 ·intro w' hC hf;unfold Gives
  obtain ⟨a,rfl,hc⟩:=hf.1 rfl
  clear hf hC
  go_wp2_with fail
  apply postT_val rfl (Below.refl _ _);simp only [valAt,aA,aE,aC,aD,aH];exact rfl
 (try simp only [Act.put,aB,aF,aG])
 iterate 6 ((apply wpT_exact;· (intro w' hC hf;unfold Gives;have hbk:=HBK.out.below hC HBK.out.lt;have c0:=hbk.cell 0;have c1:=hbk.cell 1;have c2:=hbk.cell 2;have c3:=hbk.cell 3;have c4:=hbk.cell 4;have c5:=hbk.cell 5;have c6:=hbk.cell 6;have c7:=hbk.cell 7;simp at c0 c1 c2 c3 c4 c5 c6 c7;clear hbk;clear hf hC;go_wp2_with (fail);apply postT_val rfl (Below.refl _ _);simp only [valAt,aA,aE,aC,aD,aH];exact rfl));(try simp only [Act.put,aB,aF,aG]))
 apply wpT_done
 intro w3 hC _
 replace HC:=aI hC
 clear hC
 obtain ⟨o0,ho0⟩:∃ o:ByteArray,(⟨#[10]⟩++wd++⟨#[32]⟩++nm:ByteArray)=o:=⟨_,rfl⟩
 rw [ho0]
 have ho0s:o0.size≤26:=by rw [← ho0];simp only [ByteArray.size_append];rw [show (⟨#[10]⟩:ByteArray).size=1 from rfl,show (⟨#[32]⟩:ByteArray).size=1 from rfl];omega
 have HO0:=aI (show o0.data.toList=10::(Sx.wordsL.getD 7 []++32::Sx.bs nm) by rw [← ho0,← HWL.out];unfold Sx.bs;simp)
 clear ho0
 have hbk:=HBK.out.below HC.out HBK.out.lt;have c0:=hbk.cell 0;have c1:=hbk.cell 1;have c2:=hbk.cell 2;have c3:=hbk.cell 3;have c4:=hbk.cell 4;have c5:=hbk.cell 5;have c6:=hbk.cell 6;have c7:=hbk.cell 7;simp at c0 c1 c2 c3 c4 c5 c6 c7;clear hbk
 have CN:=aI (fun w=>rnamed_any of_ w)
 have hon:(Sx.orN of_).size≤12:=Sx.orN_sz h2 (by decide)
 obtain ⟨on,hon9⟩:∃ s,Sx.orN of_=s:=⟨_,rfl⟩
 rw [hon9] at CN hon hno
 have HON:=aI hon9
 clear hon9
 have HNO:=aI hno
 clear hno
 obtain ⟨o1,ho1⟩:∃ o:ByteArray,(((o0++⟨#[32]⟩++up)++⟨#[32]⟩++on):ByteArray)=o:=⟨_,rfl⟩
 have ho1s:o1.size≤52:=by rw [← ho1];simp only [ByteArray.size_append];rw [show (⟨#[32]⟩:ByteArray).size=1 from rfl];omega
 have HO1:=aI ho1
 clear ho1
 have CA1:=aI (fun w=>and_any o1 lo w (by omega) (by omega))
 have CA2:=aI (fun w=>and_any (andS o1 lo) hi w (by have:=andS_size o1 lo (by omega);omega) (by omega))
 go_upto_region 7 with (first | (go_at_call 25;((with_reducible refine (CN.out _).mono ?_));rintro e w4 ⟨rfl,rfl⟩) | (go_at_call 23;((with_reducible refine (CA1.out _).mono ?_));rintro e w5 ⟨rfl,hb5⟩;replace HC:=aI (HC.out.trans (hb5.mono HC.out.size));clear hb5;clear c0 c1 c2 c3 c4 c5 c6 c7;have hbk:=HBK.out.below HC.out HBK.out.lt;have c0:=hbk.cell 0;have c1:=hbk.cell 1;have c2:=hbk.cell 2;have c3:=hbk.cell 3;have c4:=hbk.cell 4;have c5:=hbk.cell 5;have c6:=hbk.cell 6;have c7:=hbk.cell 7;simp at c0 c1 c2 c3 c4 c5 c6 c7;clear hbk) | (go_at_call 23;((with_reducible refine (CA2.out _).mono ?_));rintro e w5 ⟨rfl,hb5⟩;replace HC:=aI (HC.out.trans (hb5.mono HC.out.size));clear hb5;clear c0 c1 c2 c3 c4 c5 c6 c7;have hbk:=HBK.out.below HC.out HBK.out.lt;have c0:=hbk.cell 0;have c1:=hbk.cell 1;have c2:=hbk.cell 2;have c3:=hbk.cell 3;have c4:=hbk.cell 4;have c5:=hbk.cell 5;have c6:=hbk.cell 6;have c7:=hbk.cell 7;simp at c0 c1 c2 c3 c4 c5 c6 c7;clear hbk))
 rw [HO1.out]
 go_wp2_with (first | (go_at_call 25;((with_reducible refine (CN.out _).mono ?_));rintro e w4 ⟨rfl,rfl⟩) | (go_at_call 23;((with_reducible refine (CA1.out _).mono ?_));rintro e w5 ⟨rfl,hb5⟩;replace HC:=aI (HC.out.trans (hb5.mono HC.out.size));clear hb5;clear c0 c1 c2 c3 c4 c5 c6 c7;have hbk:=HBK.out.below HC.out HBK.out.lt;have c0:=hbk.cell 0;have c1:=hbk.cell 1;have c2:=hbk.cell 2;have c3:=hbk.cell 3;have c4:=hbk.cell 4;have c5:=hbk.cell 5;have c6:=hbk.cell 6;have c7:=hbk.cell 7;simp at c0 c1 c2 c3 c4 c5 c6 c7;clear hbk) | (go_at_call 23;((with_reducible refine (CA2.out _).mono ?_));rintro e w5 ⟨rfl,hb5⟩;replace HC:=aI (HC.out.trans (hb5.mono HC.out.size));clear hb5;clear c0 c1 c2 c3 c4 c5 c6 c7;have hbk:=HBK.out.below HC.out HBK.out.lt;have c0:=hbk.cell 0;have c1:=hbk.cell 1;have c2:=hbk.cell 2;have c3:=hbk.cell 3;have c4:=hbk.cell 4;have c5:=hbk.cell 5;have c6:=hbk.cell 6;have c7:=hbk.cell 7;simp at c0 c1 c2 c3 c4 c5 c6 c7;clear hbk))
 go_ret
 refine ⟨_,rfl,?_,HB.out.trans (HC.out.mono HB.out.size)⟩
 show (((andS (andS o1 lo) hi)):ByteArray).data.toList=10::Sx.lnJ (Sx.fldT ((nm,of_,up,7,lo,hi,ws,ns):Fld))
 rw [andS_list,andS_list]
 rw [← HO1.out]
 have hx:=HO0.out
 have hy:=HON.out
 have hz:=HNO.out
 show _=10::(Sx.wordsL.getD 7 []++(Sx.bs nm::[Sx.bs up,Sx.bs of_,Sx.num lo,Sx.num hi]).flatMap fun u=>32::u)
 rw [← hz]
 simp [hx,Sx.bs]
set_option maxRecDepth 100000 in
set_option maxHeartbeats 8000000 in
theorem rline_8 (nm of_ up:ByteArray) (lo hi:Int) (ws:List ByteArray) (ns:List Int) (us:List Value) (w:World) (h:Mem.rep [] w ((nm,of_,up,8,lo,hi,ws,ns):Fld) us) (hok:Sx.fldB ((nm,of_,up,8,lo,hi,ws,ns):Fld)=true):Calls Tryz.prog 24 #[.agg us.toArray] w (RLineP (Sx.fldT ((nm,of_,up,8,lo,hi,ws,ns):Fld)) w):=by
 have hf:=Sx.fldB_bd hok
 obtain ⟨A,c,B,d,rfl,s1,s2,a4,a5,a6,a1,a2,a3,b1,b2,e1,e2⟩:=rep_fld h
 have s1:SlAt [] w A ws:=s1
 have s2:SlAt [] w B ns:=s2
 obtain ⟨h1,h2,h3,h4,h5,h6,h7,h8,h9,_⟩:=hf
 replace h1:nm.size≤12:=h1
 replace h2:of_.size≤12:=h2
 replace h3:up.size≤12:=h3
 replace h4:-1048576≤lo∧lo≤1048576:=h4
 replace h5:-1048576≤hi∧hi≤1048576:=h5
 replace h6:ws.length≤12:=h6
 replace h7:ns.length=ws.length:=h7
 replace h8:∀ s∈ws,s.size≤12:=h8
 replace h9:∀ n∈ns,0≤n∧n≤1048576:=h9
 have hno:Sx.orN of_=of_:=Sx.nm_orN (by have hq:=hok;rw [show Sx.fldB ((nm,of_,up,8,lo,hi,ws,ns):Fld)=(Sx.nm nm && (Sx.noW ((nm,of_,up,8,lo,hi,ws,ns):Fld) && (decide (lo=0) && (decide (hi=0) && (Sx.nm of_ && Sx.nm up))))) from rfl] at hq;simp only [Bool.and_eq_true] at hq;exact hq.2.2.2.2.1)
 show Calls Tryz.prog 24 #[.agg #[.string nm,.string of_,.string up,.int .i64 8,.int .i64 lo,.int .i64 hi,.slice A ws.length c,.slice B ns.length d]] w _
 obtain ⟨nw,hnw⟩:∃ n,ws.length=n:=⟨_,rfl⟩
 have HNW:=aI hnw
 have HNN:=aI (h7.trans hnw)
 have HWF:=aI h8
 have HNF:=aI h9
 rw [h7,hnw]
 rw [hnw] at h6
 obtain ⟨W1,hW1⟩:∃ X,w.alloc (.cells #[.string nm,.string of_,.string up,.int .i64 8,.int .i64 lo,.int .i64 hi,.slice A nw c,.slice B nw d] 52)=X:=⟨_,rfl⟩
 have hb0:Below w.heap.size w W1:=by rw [← hW1];exact (Below.refl w.heap.size w).alloc (Nat.le_refl _) _
 have HB:=aI hb0
 have hbk:Blk W1 w.heap.size 52 #[.string nm,.string of_,.string up,.int .i64 8,.int .i64 lo,.int .i64 hi,.slice A nw c,.slice B nw d]:=by rw [← hW1];exact Blk.new w _ _
 have HBK:=aI hbk
 have HS1:=aI (s1.keep (Chg.of_below hb0))
 have HS2:=aI (s2.keep (Chg.of_below hb0))
 have HW1:=aI hW1
 have CU:=aI (fun w=>show Calls Tryz.prog 69 #[.int .i64 8] w fun e w'=>e=.returned (.tuple #[.bool true,.bool true,.bool false,.bool false,.bool false])∧w=w' from uses_any 8 w)
 have CW:=aI rwords_any
 obtain ⟨wd,hwd⟩:∃ s,wdR 8=s:=⟨_,rfl⟩
 have hwl:wd.size≤12:=by rw [← hwd];exact wdR_size 8
 have HWL:=aI (show wd.data.toList=Sx.wordsL.getD 8 [] by rw [← hwd];exact wdR_list 8)
 have HWG:=aI (show WRD[8]?=some (.string wd) by rw [← hwd];exact wrd_get 8 (by decide))
 obtain ⟨Nf,hNf⟩:∃ n,w.heap.size=n:=⟨_,rfl⟩
 have HNf:=aI hNf
 rw [hNf] at HBK
 have HC:=aI (Below.refl W1.heap.size W1)
 have hbk:=HBK.out.below HC.out HBK.out.lt;have c0:=hbk.cell 0;have c1:=hbk.cell 1;have c2:=hbk.cell 2;have c3:=hbk.cell 3;have c4:=hbk.cell 4;have c5:=hbk.cell 5;have c6:=hbk.cell 6;have c7:=hbk.cell 7;simp at c0 c1 c2 c3 c4 c5 c6 c7;clear hbk
 clear h7 h8 h9 hnw h s1 s2 a1 a2 a3 a4 a5 a6 b1 b2 e1 e2 hbk hW1 hb0 hwd hok hNf
 go_enter Tryz.func24,Tryz.ntmps24
 go_upto_region 1 with fail
 rw [HW1.out,HNf.out]
 go_wp2_with (go_at_call 69;((with_reducible refine (CU.out _).mono ?_));rintro e w2 ⟨rfl,rfl⟩)
 clear c0 c1 c2 c3 c4 c5 c6 c7
 apply wp_region_typed (C:=fun w'=>Below W1.heap.size W1 w') (n:=80) (m:=11) (l1:=[_,_,_,_,_,_,_,_,_,_,_]) (l2:=[])
 ·rfl
 ·rfl
 ·kernel_rfl
 ·rfl
 ·kernel_rfl
 ·exact ⟨rfl,rfl,rfl,Nat.le_refl _,fun _ _=>rfl⟩
 ·exact fun u u' h hb=>(by first | exact h.below hb | exact h.trans (hb.mono h.size))
 apply wpT_typed (slBlk_kept 9 9 WRD)
 ·intro w' hC hf;unfold Gives;clear hf hC
  go_wp2_with (go_at_call 70;((with_reducible refine (CW.out _).mono ?_));rintro e w2 ⟨g,rfl,hg,hB,hb2⟩)
  apply postT_mk rfl hb2;simp only [valAt,aA,aE,aC,aD,aH];exact ⟨g,rfl,hB⟩
 intro v28;(try simp only [Act.put,aB,aF,aG])
 iterate 2 ((apply wpT_exact;· (intro w' hC hf;unfold Gives;have hbk:=HBK.out.below hC HBK.out.lt;have c0:=hbk.cell 0;have c1:=hbk.cell 1;have c2:=hbk.cell 2;have c3:=hbk.cell 3;have c4:=hbk.cell 4;have c5:=hbk.cell 5;have c6:=hbk.cell 6;have c7:=hbk.cell 7;simp at c0 c1 c2 c3 c4 c5 c6 c7;clear hbk;clear hf hC;go_wp2_with (fail);apply postT_val rfl (Below.refl _ _);simp only [valAt,aA,aE,aC,aD,aH];exact rfl));(try simp only [Act.put,aB,aF,aG]))
 apply wpT_typed (atCell_kept (.string wd))
 ·intro w' hC hf;unfold Gives
  obtain ⟨g,rfl,hB⟩:=hf.1 rfl
  have hcell:=(hB.cell 8).trans HWG.out
  have HCE:=aI hcell
  clear hf hC hcell hB
  go_wp2_with fail
  apply postT_mk rfl (Below.refl _ _);simp only [valAt,aA,aE,aC,aD,aH];exact atCell_of HCE.out
 intro v34;(try simp only [Act.put,aB,aF,aG])
 apply wpT_exact
 ·intro w' hC hf;unfold Gives
  obtain ⟨a,rfl,hc⟩:=hf.1 rfl
  clear hf hC
  go_wp2_with fail
  apply postT_val rfl (Below.refl _ _);simp only [valAt,aA,aE,aC,aD,aH];exact rfl
 (try simp only [Act.put,aB,aF,aG])
 iterate 6 ((apply wpT_exact;· (intro w' hC hf;unfold Gives;have hbk:=HBK.out.below hC HBK.out.lt;have c0:=hbk.cell 0;have c1:=hbk.cell 1;have c2:=hbk.cell 2;have c3:=hbk.cell 3;have c4:=hbk.cell 4;have c5:=hbk.cell 5;have c6:=hbk.cell 6;have c7:=hbk.cell 7;simp at c0 c1 c2 c3 c4 c5 c6 c7;clear hbk;clear hf hC;go_wp2_with (fail);apply postT_val rfl (Below.refl _ _);simp only [valAt,aA,aE,aC,aD,aH];exact rfl));(try simp only [Act.put,aB,aF,aG]))
 apply wpT_done
 intro w3 hC _
 replace HC:=aI hC
 clear hC
 obtain ⟨o0,ho0⟩:∃ o:ByteArray,(⟨#[10]⟩++wd++⟨#[32]⟩++nm:ByteArray)=o:=⟨_,rfl⟩
 rw [ho0]
 have ho0s:o0.size≤26:=by rw [← ho0];simp only [ByteArray.size_append];rw [show (⟨#[10]⟩:ByteArray).size=1 from rfl,show (⟨#[32]⟩:ByteArray).size=1 from rfl];omega
 have HO0:=aI (show o0.data.toList=10::(Sx.wordsL.getD 8 []++32::Sx.bs nm) by rw [← ho0,← HWL.out];unfold Sx.bs;simp)
 clear ho0
 have hbk:=HBK.out.below HC.out HBK.out.lt;have c0:=hbk.cell 0;have c1:=hbk.cell 1;have c2:=hbk.cell 2;have c3:=hbk.cell 3;have c4:=hbk.cell 4;have c5:=hbk.cell 5;have c6:=hbk.cell 6;have c7:=hbk.cell 7;simp at c0 c1 c2 c3 c4 c5 c6 c7;clear hbk
 have CN:=aI (fun w=>rnamed_any of_ w)
 have hon:(Sx.orN of_).size≤12:=Sx.orN_sz h2 (by decide)
 obtain ⟨on,hon9⟩:∃ s,Sx.orN of_=s:=⟨_,rfl⟩
 rw [hon9] at CN hon hno
 have HON:=aI hon9
 clear hon9
 have HNO:=aI hno
 clear hno
 obtain ⟨o1,ho1⟩:∃ o:ByteArray,(((o0++⟨#[32]⟩++up)++⟨#[32]⟩++on):ByteArray)=o:=⟨_,rfl⟩
 have ho1s:o1.size≤52:=by rw [← ho1];simp only [ByteArray.size_append];rw [show (⟨#[32]⟩:ByteArray).size=1 from rfl];omega
 have HO1:=aI ho1
 clear ho1
 go_upto_region 7 with (first | (go_at_call 25;((with_reducible refine (CN.out _).mono ?_));rintro e w4 ⟨rfl,rfl⟩))
 rw [HO1.out]
 go_wp2_with (first | (go_at_call 25;((with_reducible refine (CN.out _).mono ?_));rintro e w4 ⟨rfl,rfl⟩))
 go_ret
 refine ⟨_,rfl,?_,HB.out.trans (HC.out.mono HB.out.size)⟩
 show ((o1):ByteArray).data.toList=10::Sx.lnJ (Sx.fldT ((nm,of_,up,8,lo,hi,ws,ns):Fld))
 rw [← HO1.out]
 have hx:=HO0.out
 have hy:=HON.out
 have hz:=HNO.out
 show _=10::(Sx.wordsL.getD 8 []++(Sx.bs nm::[Sx.bs up,Sx.bs of_]).flatMap fun u=>32::u)
 rw [← hz]
 simp [hx,Sx.bs]
set_option maxRecDepth 100000 in
set_option maxHeartbeats 8000000 in
theorem rline_1 (nm of_ up:ByteArray) (lo hi:Int) (ws:List ByteArray) (ns:List Int) (us:List Value) (w:World) (h:Mem.rep [] w ((nm,of_,up,1,lo,hi,ws,ns):Fld) us) (hok:Sx.fldB ((nm,of_,up,1,lo,hi,ws,ns):Fld)=true):Calls Tryz.prog 24 #[.agg us.toArray] w (RLineP (Sx.fldT ((nm,of_,up,1,lo,hi,ws,ns):Fld)) w):=by
 have hf:=Sx.fldB_bd hok
 obtain ⟨A,c,B,d,rfl,s1,s2,a4,a5,a6,a1,a2,a3,b1,b2,e1,e2⟩:=rep_fld h
 have s1:SlAt [] w A ws:=s1
 have s2:SlAt [] w B ns:=s2
 obtain ⟨h1,h2,h3,h4,h5,h6,h7,h8,h9,_⟩:=hf
 replace h1:nm.size≤12:=h1
 replace h2:of_.size≤12:=h2
 replace h3:up.size≤12:=h3
 replace h4:-1048576≤lo∧lo≤1048576:=h4
 replace h5:-1048576≤hi∧hi≤1048576:=h5
 replace h6:ws.length≤12:=h6
 replace h7:ns.length=ws.length:=h7
 replace h8:∀ s∈ws,s.size≤12:=h8
 replace h9:∀ n∈ns,0≤n∧n≤1048576:=h9
 show Calls Tryz.prog 24 #[.agg #[.string nm,.string of_,.string up,.int .i64 1,.int .i64 lo,.int .i64 hi,.slice A ws.length c,.slice B ns.length d]] w _
 obtain ⟨nw,hnw⟩:∃ n,ws.length=n:=⟨_,rfl⟩
 have HNW:=aI hnw
 have HNN:=aI (h7.trans hnw)
 have HWF:=aI h8
 have HNF:=aI h9
 rw [h7,hnw]
 rw [hnw] at h6
 obtain ⟨W1,hW1⟩:∃ X,w.alloc (.cells #[.string nm,.string of_,.string up,.int .i64 1,.int .i64 lo,.int .i64 hi,.slice A nw c,.slice B nw d] 52)=X:=⟨_,rfl⟩
 have hb0:Below w.heap.size w W1:=by rw [← hW1];exact (Below.refl w.heap.size w).alloc (Nat.le_refl _) _
 have HB:=aI hb0
 have hbk:Blk W1 w.heap.size 52 #[.string nm,.string of_,.string up,.int .i64 1,.int .i64 lo,.int .i64 hi,.slice A nw c,.slice B nw d]:=by rw [← hW1];exact Blk.new w _ _
 have HBK:=aI hbk
 have HS1:=aI (s1.keep (Chg.of_below hb0))
 have HS2:=aI (s2.keep (Chg.of_below hb0))
 have HW1:=aI hW1
 have CU:=aI (fun w=>show Calls Tryz.prog 69 #[.int .i64 1] w fun e w'=>e=.returned (.tuple #[.bool true,.bool false,.bool true,.bool true,.bool false])∧w=w' from uses_any 1 w)
 have CW:=aI rwords_any
 obtain ⟨wd,hwd⟩:∃ s,wdR 1=s:=⟨_,rfl⟩
 have hwl:wd.size≤12:=by rw [← hwd];exact wdR_size 1
 have HWL:=aI (show wd.data.toList=Sx.wordsL.getD 1 [] by rw [← hwd];exact wdR_list 1)
 have HWG:=aI (show WRD[1]?=some (.string wd) by rw [← hwd];exact wrd_get 1 (by decide))
 obtain ⟨Nf,hNf⟩:∃ n,w.heap.size=n:=⟨_,rfl⟩
 have HNf:=aI hNf
 rw [hNf] at HBK
 have HC:=aI (Below.refl W1.heap.size W1)
 have hbk:=HBK.out.below HC.out HBK.out.lt;have c0:=hbk.cell 0;have c1:=hbk.cell 1;have c2:=hbk.cell 2;have c3:=hbk.cell 3;have c4:=hbk.cell 4;have c5:=hbk.cell 5;have c6:=hbk.cell 6;have c7:=hbk.cell 7;simp at c0 c1 c2 c3 c4 c5 c6 c7;clear hbk
 clear h7 h8 h9 hnw h s1 s2 a1 a2 a3 a4 a5 a6 b1 b2 e1 e2 hbk hW1 hb0 hwd hok hNf
 go_enter Tryz.func24,Tryz.ntmps24
 go_upto_region 1 with fail
 rw [HW1.out,HNf.out]
 go_wp2_with (go_at_call 69;((with_reducible refine (CU.out _).mono ?_));rintro e w2 ⟨rfl,rfl⟩)
 clear c0 c1 c2 c3 c4 c5 c6 c7
 apply wp_region_typed (C:=fun w'=>Below W1.heap.size W1 w') (n:=80) (m:=11) (l1:=[_,_,_,_,_,_,_,_,_,_,_]) (l2:=[])
 ·rfl
 ·rfl
 ·kernel_rfl
 ·rfl
 ·kernel_rfl
 ·exact ⟨rfl,rfl,rfl,Nat.le_refl _,fun _ _=>rfl⟩
 ·exact fun u u' h hb=>(by first | exact h.below hb | exact h.trans (hb.mono h.size))
 apply wpT_typed (slBlk_kept 9 9 WRD)
 ·intro w' hC hf;unfold Gives;clear hf hC
  go_wp2_with (go_at_call 70;((with_reducible refine (CW.out _).mono ?_));rintro e w2 ⟨g,rfl,hg,hB,hb2⟩)
  apply postT_mk rfl hb2;simp only [valAt,aA,aE,aC,aD,aH];exact ⟨g,rfl,hB⟩
 intro v28;(try simp only [Act.put,aB,aF,aG])
 iterate 2 ((apply wpT_exact;· (intro w' hC hf;unfold Gives;have hbk:=HBK.out.below hC HBK.out.lt;have c0:=hbk.cell 0;have c1:=hbk.cell 1;have c2:=hbk.cell 2;have c3:=hbk.cell 3;have c4:=hbk.cell 4;have c5:=hbk.cell 5;have c6:=hbk.cell 6;have c7:=hbk.cell 7;simp at c0 c1 c2 c3 c4 c5 c6 c7;clear hbk;clear hf hC;go_wp2_with (fail);apply postT_val rfl (Below.refl _ _);simp only [valAt,aA,aE,aC,aD,aH];exact rfl));(try simp only [Act.put,aB,aF,aG]))
 apply wpT_typed (atCell_kept (.string wd))
 ·intro w' hC hf;unfold Gives
  obtain ⟨g,rfl,hB⟩:=hf.1 rfl
  have hcell:=(hB.cell 1).trans HWG.out
  have HCE:=aI hcell
  clear hf hC hcell hB
  go_wp2_with fail
  apply postT_mk rfl (Below.refl _ _);simp only [valAt,aA,aE,aC,aD,aH];exact atCell_of HCE.out
 intro v34;(try simp only [Act.put,aB,aF,aG])
 apply wpT_exact
 ·intro w' hC hf;unfold Gives
  obtain ⟨a,rfl,hc⟩:=hf.1 rfl
  clear hf hC
  go_wp2_with fail
  apply postT_val rfl (Below.refl _ _);simp only [valAt,aA,aE,aC,aD,aH];exact rfl
 (try simp only [Act.put,aB,aF,aG])
 iterate 6 ((apply wpT_exact;· (intro w' hC hf;unfold Gives;have hbk:=HBK.out.below hC HBK.out.lt;have c0:=hbk.cell 0;have c1:=hbk.cell 1;have c2:=hbk.cell 2;have c3:=hbk.cell 3;have c4:=hbk.cell 4;have c5:=hbk.cell 5;have c6:=hbk.cell 6;have c7:=hbk.cell 7;simp at c0 c1 c2 c3 c4 c5 c6 c7;clear hbk;clear hf hC;go_wp2_with (fail);apply postT_val rfl (Below.refl _ _);simp only [valAt,aA,aE,aC,aD,aH];exact rfl));(try simp only [Act.put,aB,aF,aG]))
 apply wpT_done
 intro w3 hC _
 replace HC:=aI hC
 clear hC
 obtain ⟨o0,ho0⟩:∃ o:ByteArray,(⟨#[10]⟩++wd++⟨#[32]⟩++nm:ByteArray)=o:=⟨_,rfl⟩
 rw [ho0]
 have ho0s:o0.size≤26:=by rw [← ho0];simp only [ByteArray.size_append];rw [show (⟨#[10]⟩:ByteArray).size=1 from rfl,show (⟨#[32]⟩:ByteArray).size=1 from rfl];omega
 have HO0:=aI (show o0.data.toList=10::(Sx.wordsL.getD 1 []++32::Sx.bs nm) by rw [← ho0,← HWL.out];unfold Sx.bs;simp)
 clear ho0
 have hbk:=HBK.out.below HC.out HBK.out.lt;have c0:=hbk.cell 0;have c1:=hbk.cell 1;have c2:=hbk.cell 2;have c3:=hbk.cell 3;have c4:=hbk.cell 4;have c5:=hbk.cell 5;have c6:=hbk.cell 6;have c7:=hbk.cell 7;simp at c0 c1 c2 c3 c4 c5 c6 c7;clear hbk
 have CN:=aI (fun w=>rnamed_any of_ w)
 have hon:(Sx.orN of_).size≤12:=Sx.orN_sz h2 (by decide)
 obtain ⟨on,hon9⟩:∃ s,Sx.orN of_=s:=⟨_,rfl⟩
 rw [hon9] at CN hon
 have HON:=aI hon9
 clear hon9
 obtain ⟨o1,ho1⟩:∃ o:ByteArray,((o0++⟨#[32]⟩++on):ByteArray)=o:=⟨_,rfl⟩
 have ho1s:o1.size≤39:=by rw [← ho1];simp only [ByteArray.size_append];rw [show (⟨#[32]⟩:ByteArray).size=1 from rfl];omega
 have HO1:=aI ho1
 clear ho1
 have CA1:=aI (fun w=>and_any o1 lo w (by omega) (by omega))
 have CA2:=aI (fun w=>and_any (andS o1 lo) hi w (by have:=andS_size o1 lo (by omega);omega) (by omega))
 go_upto_region 7 with (first | (go_at_call 25;((with_reducible refine (CN.out _).mono ?_));rintro e w4 ⟨rfl,rfl⟩) | (go_at_call 23;((with_reducible refine (CA1.out _).mono ?_));rintro e w5 ⟨rfl,hb5⟩;replace HC:=aI (HC.out.trans (hb5.mono HC.out.size));clear hb5;clear c0 c1 c2 c3 c4 c5 c6 c7;have hbk:=HBK.out.below HC.out HBK.out.lt;have c0:=hbk.cell 0;have c1:=hbk.cell 1;have c2:=hbk.cell 2;have c3:=hbk.cell 3;have c4:=hbk.cell 4;have c5:=hbk.cell 5;have c6:=hbk.cell 6;have c7:=hbk.cell 7;simp at c0 c1 c2 c3 c4 c5 c6 c7;clear hbk) | (go_at_call 23;((with_reducible refine (CA2.out _).mono ?_));rintro e w5 ⟨rfl,hb5⟩;replace HC:=aI (HC.out.trans (hb5.mono HC.out.size));clear hb5;clear c0 c1 c2 c3 c4 c5 c6 c7;have hbk:=HBK.out.below HC.out HBK.out.lt;have c0:=hbk.cell 0;have c1:=hbk.cell 1;have c2:=hbk.cell 2;have c3:=hbk.cell 3;have c4:=hbk.cell 4;have c5:=hbk.cell 5;have c6:=hbk.cell 6;have c7:=hbk.cell 7;simp at c0 c1 c2 c3 c4 c5 c6 c7;clear hbk))
 rw [HO1.out]
 go_wp2_with (first | (go_at_call 25;((with_reducible refine (CN.out _).mono ?_));rintro e w4 ⟨rfl,rfl⟩) | (go_at_call 23;((with_reducible refine (CA1.out _).mono ?_));rintro e w5 ⟨rfl,hb5⟩;replace HC:=aI (HC.out.trans (hb5.mono HC.out.size));clear hb5;clear c0 c1 c2 c3 c4 c5 c6 c7;have hbk:=HBK.out.below HC.out HBK.out.lt;have c0:=hbk.cell 0;have c1:=hbk.cell 1;have c2:=hbk.cell 2;have c3:=hbk.cell 3;have c4:=hbk.cell 4;have c5:=hbk.cell 5;have c6:=hbk.cell 6;have c7:=hbk.cell 7;simp at c0 c1 c2 c3 c4 c5 c6 c7;clear hbk) | (go_at_call 23;((with_reducible refine (CA2.out _).mono ?_));rintro e w5 ⟨rfl,hb5⟩;replace HC:=aI (HC.out.trans (hb5.mono HC.out.size));clear hb5;clear c0 c1 c2 c3 c4 c5 c6 c7;have hbk:=HBK.out.below HC.out HBK.out.lt;have c0:=hbk.cell 0;have c1:=hbk.cell 1;have c2:=hbk.cell 2;have c3:=hbk.cell 3;have c4:=hbk.cell 4;have c5:=hbk.cell 5;have c6:=hbk.cell 6;have c7:=hbk.cell 7;simp at c0 c1 c2 c3 c4 c5 c6 c7;clear hbk))
 go_ret
 refine ⟨_,rfl,?_,HB.out.trans (HC.out.mono HB.out.size)⟩
 show (((andS (andS o1 lo) hi)):ByteArray).data.toList=10::Sx.lnJ (Sx.fldT ((nm,of_,up,1,lo,hi,ws,ns):Fld))
 rw [andS_list,andS_list]
 rw [← HO1.out]
 have hx:=HO0.out
 have hy:=HON.out
 show _=10::(Sx.wordsL.getD 1 []++(Sx.bs nm::[Sx.orNone of_,Sx.num lo,Sx.num hi]).flatMap fun u=>32::u)
 rw [← Sx.orN_list,hy]
 simp [hx,Sx.bs]
set_option maxRecDepth 100000 in
set_option maxHeartbeats 8000000 in
theorem rline_4 (nm of_ up:ByteArray) (lo hi:Int) (ws:List ByteArray) (ns:List Int) (us:List Value) (w:World) (h:Mem.rep [] w ((nm,of_,up,4,lo,hi,ws,ns):Fld) us) (hok:Sx.fldB ((nm,of_,up,4,lo,hi,ws,ns):Fld)=true):Calls Tryz.prog 24 #[.agg us.toArray] w (RLineP (Sx.fldT ((nm,of_,up,4,lo,hi,ws,ns):Fld)) w):=by
 have hf:=Sx.fldB_bd hok
 obtain ⟨A,c,B,d,rfl,s1,s2,a4,a5,a6,a1,a2,a3,b1,b2,e1,e2⟩:=rep_fld h
 have s1:SlAt [] w A ws:=s1
 have s2:SlAt [] w B ns:=s2
 obtain ⟨h1,h2,h3,h4,h5,h6,h7,h8,h9,_⟩:=hf
 replace h1:nm.size≤12:=h1
 replace h2:of_.size≤12:=h2
 replace h3:up.size≤12:=h3
 replace h4:-1048576≤lo∧lo≤1048576:=h4
 replace h5:-1048576≤hi∧hi≤1048576:=h5
 replace h6:ws.length≤12:=h6
 replace h7:ns.length=ws.length:=h7
 replace h8:∀ s∈ws,s.size≤12:=h8
 replace h9:∀ n∈ns,0≤n∧n≤1048576:=h9
 show Calls Tryz.prog 24 #[.agg #[.string nm,.string of_,.string up,.int .i64 4,.int .i64 lo,.int .i64 hi,.slice A ws.length c,.slice B ns.length d]] w _
 obtain ⟨nw,hnw⟩:∃ n,ws.length=n:=⟨_,rfl⟩
 have HNW:=aI hnw
 have HNN:=aI (h7.trans hnw)
 have HWF:=aI h8
 have HNF:=aI h9
 rw [h7,hnw]
 rw [hnw] at h6
 obtain ⟨W1,hW1⟩:∃ X,w.alloc (.cells #[.string nm,.string of_,.string up,.int .i64 4,.int .i64 lo,.int .i64 hi,.slice A nw c,.slice B nw d] 52)=X:=⟨_,rfl⟩
 have hb0:Below w.heap.size w W1:=by rw [← hW1];exact (Below.refl w.heap.size w).alloc (Nat.le_refl _) _
 have HB:=aI hb0
 have hbk:Blk W1 w.heap.size 52 #[.string nm,.string of_,.string up,.int .i64 4,.int .i64 lo,.int .i64 hi,.slice A nw c,.slice B nw d]:=by rw [← hW1];exact Blk.new w _ _
 have HBK:=aI hbk
 have HS1:=aI (s1.keep (Chg.of_below hb0))
 have HS2:=aI (s2.keep (Chg.of_below hb0))
 have HW1:=aI hW1
 have CU:=aI (fun w=>show Calls Tryz.prog 69 #[.int .i64 4] w fun e w'=>e=.returned (.tuple #[.bool true,.bool false,.bool true,.bool true,.bool false])∧w=w' from uses_any 4 w)
 have CW:=aI rwords_any
 obtain ⟨wd,hwd⟩:∃ s,wdR 4=s:=⟨_,rfl⟩
 have hwl:wd.size≤12:=by rw [← hwd];exact wdR_size 4
 have HWL:=aI (show wd.data.toList=Sx.wordsL.getD 4 [] by rw [← hwd];exact wdR_list 4)
 have HWG:=aI (show WRD[4]?=some (.string wd) by rw [← hwd];exact wrd_get 4 (by decide))
 obtain ⟨Nf,hNf⟩:∃ n,w.heap.size=n:=⟨_,rfl⟩
 have HNf:=aI hNf
 rw [hNf] at HBK
 have HC:=aI (Below.refl W1.heap.size W1)
 have hbk:=HBK.out.below HC.out HBK.out.lt;have c0:=hbk.cell 0;have c1:=hbk.cell 1;have c2:=hbk.cell 2;have c3:=hbk.cell 3;have c4:=hbk.cell 4;have c5:=hbk.cell 5;have c6:=hbk.cell 6;have c7:=hbk.cell 7;simp at c0 c1 c2 c3 c4 c5 c6 c7;clear hbk
 clear h7 h8 h9 hnw h s1 s2 a1 a2 a3 a4 a5 a6 b1 b2 e1 e2 hbk hW1 hb0 hwd hok hNf
 go_enter Tryz.func24,Tryz.ntmps24
 go_upto_region 1 with fail
 rw [HW1.out,HNf.out]
 go_wp2_with (go_at_call 69;((with_reducible refine (CU.out _).mono ?_));rintro e w2 ⟨rfl,rfl⟩)
 clear c0 c1 c2 c3 c4 c5 c6 c7
 apply wp_region_typed (C:=fun w'=>Below W1.heap.size W1 w') (n:=80) (m:=11) (l1:=[_,_,_,_,_,_,_,_,_,_,_]) (l2:=[])
 ·rfl
 ·rfl
 ·kernel_rfl
 ·rfl
 ·kernel_rfl
 ·exact ⟨rfl,rfl,rfl,Nat.le_refl _,fun _ _=>rfl⟩
 ·exact fun u u' h hb=>(by first | exact h.below hb | exact h.trans (hb.mono h.size))
 apply wpT_typed (slBlk_kept 9 9 WRD)
 ·intro w' hC hf;unfold Gives;clear hf hC
  go_wp2_with (go_at_call 70;((with_reducible refine (CW.out _).mono ?_));rintro e w2 ⟨g,rfl,hg,hB,hb2⟩)
  apply postT_mk rfl hb2;simp only [valAt,aA,aE,aC,aD,aH];exact ⟨g,rfl,hB⟩
 intro v28;(try simp only [Act.put,aB,aF,aG])
 iterate 2 ((apply wpT_exact;· (intro w' hC hf;unfold Gives;have hbk:=HBK.out.below hC HBK.out.lt;have c0:=hbk.cell 0;have c1:=hbk.cell 1;have c2:=hbk.cell 2;have c3:=hbk.cell 3;have c4:=hbk.cell 4;have c5:=hbk.cell 5;have c6:=hbk.cell 6;have c7:=hbk.cell 7;simp at c0 c1 c2 c3 c4 c5 c6 c7;clear hbk;clear hf hC;go_wp2_with (fail);apply postT_val rfl (Below.refl _ _);simp only [valAt,aA,aE,aC,aD,aH];exact rfl));(try simp only [Act.put,aB,aF,aG]))
 apply wpT_typed (atCell_kept (.string wd))
 ·intro w' hC hf;unfold Gives
  obtain ⟨g,rfl,hB⟩:=hf.1 rfl
  have hcell:=(hB.cell 4).trans HWG.out
  have HCE:=aI hcell
  clear hf hC hcell hB
  go_wp2_with fail
  apply postT_mk rfl (Below.refl _ _);simp only [valAt,aA,aE,aC,aD,aH];exact atCell_of HCE.out
 intro v34;(try simp only [Act.put,aB,aF,aG])
 apply wpT_exact
 ·intro w' hC hf;unfold Gives
  obtain ⟨a,rfl,hc⟩:=hf.1 rfl
  clear hf hC
  go_wp2_with fail
  apply postT_val rfl (Below.refl _ _);simp only [valAt,aA,aE,aC,aD,aH];exact rfl
 (try simp only [Act.put,aB,aF,aG])
 iterate 6 ((apply wpT_exact;· (intro w' hC hf;unfold Gives;have hbk:=HBK.out.below hC HBK.out.lt;have c0:=hbk.cell 0;have c1:=hbk.cell 1;have c2:=hbk.cell 2;have c3:=hbk.cell 3;have c4:=hbk.cell 4;have c5:=hbk.cell 5;have c6:=hbk.cell 6;have c7:=hbk.cell 7;simp at c0 c1 c2 c3 c4 c5 c6 c7;clear hbk;clear hf hC;go_wp2_with (fail);apply postT_val rfl (Below.refl _ _);simp only [valAt,aA,aE,aC,aD,aH];exact rfl));(try simp only [Act.put,aB,aF,aG]))
 apply wpT_done
 intro w3 hC _
 replace HC:=aI hC
 clear hC
 obtain ⟨o0,ho0⟩:∃ o:ByteArray,(⟨#[10]⟩++wd++⟨#[32]⟩++nm:ByteArray)=o:=⟨_,rfl⟩
 rw [ho0]
 have ho0s:o0.size≤26:=by rw [← ho0];simp only [ByteArray.size_append];rw [show (⟨#[10]⟩:ByteArray).size=1 from rfl,show (⟨#[32]⟩:ByteArray).size=1 from rfl];omega
 have HO0:=aI (show o0.data.toList=10::(Sx.wordsL.getD 4 []++32::Sx.bs nm) by rw [← ho0,← HWL.out];unfold Sx.bs;simp)
 clear ho0
 have hbk:=HBK.out.below HC.out HBK.out.lt;have c0:=hbk.cell 0;have c1:=hbk.cell 1;have c2:=hbk.cell 2;have c3:=hbk.cell 3;have c4:=hbk.cell 4;have c5:=hbk.cell 5;have c6:=hbk.cell 6;have c7:=hbk.cell 7;simp at c0 c1 c2 c3 c4 c5 c6 c7;clear hbk
 have CN:=aI (fun w=>rnamed_any of_ w)
 have hon:(Sx.orN of_).size≤12:=Sx.orN_sz h2 (by decide)
 obtain ⟨on,hon9⟩:∃ s,Sx.orN of_=s:=⟨_,rfl⟩
 rw [hon9] at CN hon
 have HON:=aI hon9
 clear hon9
 obtain ⟨o1,ho1⟩:∃ o:ByteArray,((o0++⟨#[32]⟩++on):ByteArray)=o:=⟨_,rfl⟩
 have ho1s:o1.size≤39:=by rw [← ho1];simp only [ByteArray.size_append];rw [show (⟨#[32]⟩:ByteArray).size=1 from rfl];omega
 have HO1:=aI ho1
 clear ho1
 have CA1:=aI (fun w=>and_any o1 lo w (by omega) (by omega))
 have CA2:=aI (fun w=>and_any (andS o1 lo) hi w (by have:=andS_size o1 lo (by omega);omega) (by omega))
 go_upto_region 7 with (first | (go_at_call 25;((with_reducible refine (CN.out _).mono ?_));rintro e w4 ⟨rfl,rfl⟩) | (go_at_call 23;((with_reducible refine (CA1.out _).mono ?_));rintro e w5 ⟨rfl,hb5⟩;replace HC:=aI (HC.out.trans (hb5.mono HC.out.size));clear hb5;clear c0 c1 c2 c3 c4 c5 c6 c7;have hbk:=HBK.out.below HC.out HBK.out.lt;have c0:=hbk.cell 0;have c1:=hbk.cell 1;have c2:=hbk.cell 2;have c3:=hbk.cell 3;have c4:=hbk.cell 4;have c5:=hbk.cell 5;have c6:=hbk.cell 6;have c7:=hbk.cell 7;simp at c0 c1 c2 c3 c4 c5 c6 c7;clear hbk) | (go_at_call 23;((with_reducible refine (CA2.out _).mono ?_));rintro e w5 ⟨rfl,hb5⟩;replace HC:=aI (HC.out.trans (hb5.mono HC.out.size));clear hb5;clear c0 c1 c2 c3 c4 c5 c6 c7;have hbk:=HBK.out.below HC.out HBK.out.lt;have c0:=hbk.cell 0;have c1:=hbk.cell 1;have c2:=hbk.cell 2;have c3:=hbk.cell 3;have c4:=hbk.cell 4;have c5:=hbk.cell 5;have c6:=hbk.cell 6;have c7:=hbk.cell 7;simp at c0 c1 c2 c3 c4 c5 c6 c7;clear hbk))
 rw [HO1.out]
 go_wp2_with (first | (go_at_call 25;((with_reducible refine (CN.out _).mono ?_));rintro e w4 ⟨rfl,rfl⟩) | (go_at_call 23;((with_reducible refine (CA1.out _).mono ?_));rintro e w5 ⟨rfl,hb5⟩;replace HC:=aI (HC.out.trans (hb5.mono HC.out.size));clear hb5;clear c0 c1 c2 c3 c4 c5 c6 c7;have hbk:=HBK.out.below HC.out HBK.out.lt;have c0:=hbk.cell 0;have c1:=hbk.cell 1;have c2:=hbk.cell 2;have c3:=hbk.cell 3;have c4:=hbk.cell 4;have c5:=hbk.cell 5;have c6:=hbk.cell 6;have c7:=hbk.cell 7;simp at c0 c1 c2 c3 c4 c5 c6 c7;clear hbk) | (go_at_call 23;((with_reducible refine (CA2.out _).mono ?_));rintro e w5 ⟨rfl,hb5⟩;replace HC:=aI (HC.out.trans (hb5.mono HC.out.size));clear hb5;clear c0 c1 c2 c3 c4 c5 c6 c7;have hbk:=HBK.out.below HC.out HBK.out.lt;have c0:=hbk.cell 0;have c1:=hbk.cell 1;have c2:=hbk.cell 2;have c3:=hbk.cell 3;have c4:=hbk.cell 4;have c5:=hbk.cell 5;have c6:=hbk.cell 6;have c7:=hbk.cell 7;simp at c0 c1 c2 c3 c4 c5 c6 c7;clear hbk))
 go_ret
 refine ⟨_,rfl,?_,HB.out.trans (HC.out.mono HB.out.size)⟩
 show (((andS (andS o1 lo) hi)):ByteArray).data.toList=10::Sx.lnJ (Sx.fldT ((nm,of_,up,4,lo,hi,ws,ns):Fld))
 rw [andS_list,andS_list]
 rw [← HO1.out]
 have hx:=HO0.out
 have hy:=HON.out
 show _=10::(Sx.wordsL.getD 4 []++(Sx.bs nm::[Sx.orNone of_,Sx.num lo,Sx.num hi]).flatMap fun u=>32::u)
 rw [← Sx.orN_list,hy]
 simp [hx,Sx.bs]
set_option maxRecDepth 100000 in
set_option maxHeartbeats 8000000 in
theorem rline_5 (nm of_ up:ByteArray) (lo hi:Int) (ws:List ByteArray) (ns:List Int) (us:List Value) (w:World) (h:Mem.rep [] w ((nm,of_,up,5,lo,hi,ws,ns):Fld) us) (hok:Sx.fldB ((nm,of_,up,5,lo,hi,ws,ns):Fld)=true):Calls Tryz.prog 24 #[.agg us.toArray] w (RLineP (Sx.fldT ((nm,of_,up,5,lo,hi,ws,ns):Fld)) w):=by
 have hf:=Sx.fldB_bd hok
 obtain ⟨A,c,B,d,rfl,s1,s2,a4,a5,a6,a1,a2,a3,b1,b2,e1,e2⟩:=rep_fld h
 have s1:SlAt [] w A ws:=s1
 have s2:SlAt [] w B ns:=s2
 obtain ⟨h1,h2,h3,h4,h5,h6,h7,h8,h9,_⟩:=hf
 replace h1:nm.size≤12:=h1
 replace h2:of_.size≤12:=h2
 replace h3:up.size≤12:=h3
 replace h4:-1048576≤lo∧lo≤1048576:=h4
 replace h5:-1048576≤hi∧hi≤1048576:=h5
 replace h6:ws.length≤12:=h6
 replace h7:ns.length=ws.length:=h7
 replace h8:∀ s∈ws,s.size≤12:=h8
 replace h9:∀ n∈ns,0≤n∧n≤1048576:=h9
 show Calls Tryz.prog 24 #[.agg #[.string nm,.string of_,.string up,.int .i64 5,.int .i64 lo,.int .i64 hi,.slice A ws.length c,.slice B ns.length d]] w _
 obtain ⟨nw,hnw⟩:∃ n,ws.length=n:=⟨_,rfl⟩
 have HNW:=aI hnw
 have HNN:=aI (h7.trans hnw)
 have HWF:=aI h8
 have HNF:=aI h9
 rw [h7,hnw]
 rw [hnw] at h6
 obtain ⟨W1,hW1⟩:∃ X,w.alloc (.cells #[.string nm,.string of_,.string up,.int .i64 5,.int .i64 lo,.int .i64 hi,.slice A nw c,.slice B nw d] 52)=X:=⟨_,rfl⟩
 have hb0:Below w.heap.size w W1:=by rw [← hW1];exact (Below.refl w.heap.size w).alloc (Nat.le_refl _) _
 have HB:=aI hb0
 have hbk:Blk W1 w.heap.size 52 #[.string nm,.string of_,.string up,.int .i64 5,.int .i64 lo,.int .i64 hi,.slice A nw c,.slice B nw d]:=by rw [← hW1];exact Blk.new w _ _
 have HBK:=aI hbk
 have HS1:=aI (s1.keep (Chg.of_below hb0))
 have HS2:=aI (s2.keep (Chg.of_below hb0))
 have HW1:=aI hW1
 have CU:=aI (fun w=>show Calls Tryz.prog 69 #[.int .i64 5] w fun e w'=>e=.returned (.tuple #[.bool true,.bool false,.bool true,.bool true,.bool false])∧w=w' from uses_any 5 w)
 have CW:=aI rwords_any
 obtain ⟨wd,hwd⟩:∃ s,wdR 5=s:=⟨_,rfl⟩
 have hwl:wd.size≤12:=by rw [← hwd];exact wdR_size 5
 have HWL:=aI (show wd.data.toList=Sx.wordsL.getD 5 [] by rw [← hwd];exact wdR_list 5)
 have HWG:=aI (show WRD[5]?=some (.string wd) by rw [← hwd];exact wrd_get 5 (by decide))
 obtain ⟨Nf,hNf⟩:∃ n,w.heap.size=n:=⟨_,rfl⟩
 have HNf:=aI hNf
 rw [hNf] at HBK
 have HC:=aI (Below.refl W1.heap.size W1)
 have hbk:=HBK.out.below HC.out HBK.out.lt;have c0:=hbk.cell 0;have c1:=hbk.cell 1;have c2:=hbk.cell 2;have c3:=hbk.cell 3;have c4:=hbk.cell 4;have c5:=hbk.cell 5;have c6:=hbk.cell 6;have c7:=hbk.cell 7;simp at c0 c1 c2 c3 c4 c5 c6 c7;clear hbk
 clear h7 h8 h9 hnw h s1 s2 a1 a2 a3 a4 a5 a6 b1 b2 e1 e2 hbk hW1 hb0 hwd hok hNf
 go_enter Tryz.func24,Tryz.ntmps24
 go_upto_region 1 with fail
 rw [HW1.out,HNf.out]
 go_wp2_with (go_at_call 69;((with_reducible refine (CU.out _).mono ?_));rintro e w2 ⟨rfl,rfl⟩)
 clear c0 c1 c2 c3 c4 c5 c6 c7
 apply wp_region_typed (C:=fun w'=>Below W1.heap.size W1 w') (n:=80) (m:=11) (l1:=[_,_,_,_,_,_,_,_,_,_,_]) (l2:=[])
 ·rfl
 ·rfl
 ·kernel_rfl
 ·rfl
 ·kernel_rfl
 ·exact ⟨rfl,rfl,rfl,Nat.le_refl _,fun _ _=>rfl⟩
 ·exact fun u u' h hb=>(by first | exact h.below hb | exact h.trans (hb.mono h.size))
 apply wpT_typed (slBlk_kept 9 9 WRD)
 ·intro w' hC hf;unfold Gives;clear hf hC
  go_wp2_with (go_at_call 70;((with_reducible refine (CW.out _).mono ?_));rintro e w2 ⟨g,rfl,hg,hB,hb2⟩)
  apply postT_mk rfl hb2;simp only [valAt,aA,aE,aC,aD,aH];exact ⟨g,rfl,hB⟩
 intro v28;(try simp only [Act.put,aB,aF,aG])
 iterate 2 ((apply wpT_exact;· (intro w' hC hf;unfold Gives;have hbk:=HBK.out.below hC HBK.out.lt;have c0:=hbk.cell 0;have c1:=hbk.cell 1;have c2:=hbk.cell 2;have c3:=hbk.cell 3;have c4:=hbk.cell 4;have c5:=hbk.cell 5;have c6:=hbk.cell 6;have c7:=hbk.cell 7;simp at c0 c1 c2 c3 c4 c5 c6 c7;clear hbk;clear hf hC;go_wp2_with (fail);apply postT_val rfl (Below.refl _ _);simp only [valAt,aA,aE,aC,aD,aH];exact rfl));(try simp only [Act.put,aB,aF,aG]))
 apply wpT_typed (atCell_kept (.string wd))
 ·intro w' hC hf;unfold Gives
  obtain ⟨g,rfl,hB⟩:=hf.1 rfl
  have hcell:=(hB.cell 5).trans HWG.out
  have HCE:=aI hcell
  clear hf hC hcell hB
  go_wp2_with fail
  apply postT_mk rfl (Below.refl _ _);simp only [valAt,aA,aE,aC,aD,aH];exact atCell_of HCE.out
 intro v34;(try simp only [Act.put,aB,aF,aG])
 apply wpT_exact
 ·intro w' hC hf;unfold Gives
  obtain ⟨a,rfl,hc⟩:=hf.1 rfl
  clear hf hC
  go_wp2_with fail
  apply postT_val rfl (Below.refl _ _);simp only [valAt,aA,aE,aC,aD,aH];exact rfl
 (try simp only [Act.put,aB,aF,aG])
 iterate 6 ((apply wpT_exact;· (intro w' hC hf;unfold Gives;have hbk:=HBK.out.below hC HBK.out.lt;have c0:=hbk.cell 0;have c1:=hbk.cell 1;have c2:=hbk.cell 2;have c3:=hbk.cell 3;have c4:=hbk.cell 4;have c5:=hbk.cell 5;have c6:=hbk.cell 6;have c7:=hbk.cell 7;simp at c0 c1 c2 c3 c4 c5 c6 c7;clear hbk;clear hf hC;go_wp2_with (fail);apply postT_val rfl (Below.refl _ _);simp only [valAt,aA,aE,aC,aD,aH];exact rfl));(try simp only [Act.put,aB,aF,aG]))
 apply wpT_done
 intro w3 hC _
 replace HC:=aI hC
 clear hC
 obtain ⟨o0,ho0⟩:∃ o:ByteArray,(⟨#[10]⟩++wd++⟨#[32]⟩++nm:ByteArray)=o:=⟨_,rfl⟩
 rw [ho0]
 have ho0s:o0.size≤26:=by rw [← ho0];simp only [ByteArray.size_append];rw [show (⟨#[10]⟩:ByteArray).size=1 from rfl,show (⟨#[32]⟩:ByteArray).size=1 from rfl];omega
 have HO0:=aI (show o0.data.toList=10::(Sx.wordsL.getD 5 []++32::Sx.bs nm) by rw [← ho0,← HWL.out];unfold Sx.bs;simp)
 clear ho0
 have hbk:=HBK.out.below HC.out HBK.out.lt;have c0:=hbk.cell 0;have c1:=hbk.cell 1;have c2:=hbk.cell 2;have c3:=hbk.cell 3;have c4:=hbk.cell 4;have c5:=hbk.cell 5;have c6:=hbk.cell 6;have c7:=hbk.cell 7;simp at c0 c1 c2 c3 c4 c5 c6 c7;clear hbk
 have CN:=aI (fun w=>rnamed_any of_ w)
 have hon:(Sx.orN of_).size≤12:=Sx.orN_sz h2 (by decide)
 obtain ⟨on,hon9⟩:∃ s,Sx.orN of_=s:=⟨_,rfl⟩
 rw [hon9] at CN hon
 have HON:=aI hon9
 clear hon9
 obtain ⟨o1,ho1⟩:∃ o:ByteArray,((o0++⟨#[32]⟩++on):ByteArray)=o:=⟨_,rfl⟩
 have ho1s:o1.size≤39:=by rw [← ho1];simp only [ByteArray.size_append];rw [show (⟨#[32]⟩:ByteArray).size=1 from rfl];omega
 have HO1:=aI ho1
 clear ho1
 have CA1:=aI (fun w=>and_any o1 lo w (by omega) (by omega))
 have CA2:=aI (fun w=>and_any (andS o1 lo) hi w (by have:=andS_size o1 lo (by omega);omega) (by omega))
 go_upto_region 7 with (first | (go_at_call 25;((with_reducible refine (CN.out _).mono ?_));rintro e w4 ⟨rfl,rfl⟩) | (go_at_call 23;((with_reducible refine (CA1.out _).mono ?_));rintro e w5 ⟨rfl,hb5⟩;replace HC:=aI (HC.out.trans (hb5.mono HC.out.size));clear hb5;clear c0 c1 c2 c3 c4 c5 c6 c7;have hbk:=HBK.out.below HC.out HBK.out.lt;have c0:=hbk.cell 0;have c1:=hbk.cell 1;have c2:=hbk.cell 2;have c3:=hbk.cell 3;have c4:=hbk.cell 4;have c5:=hbk.cell 5;have c6:=hbk.cell 6;have c7:=hbk.cell 7;simp at c0 c1 c2 c3 c4 c5 c6 c7;clear hbk) | (go_at_call 23;((with_reducible refine (CA2.out _).mono ?_));rintro e w5 ⟨rfl,hb5⟩;replace HC:=aI (HC.out.trans (hb5.mono HC.out.size));clear hb5;clear c0 c1 c2 c3 c4 c5 c6 c7;have hbk:=HBK.out.below HC.out HBK.out.lt;have c0:=hbk.cell 0;have c1:=hbk.cell 1;have c2:=hbk.cell 2;have c3:=hbk.cell 3;have c4:=hbk.cell 4;have c5:=hbk.cell 5;have c6:=hbk.cell 6;have c7:=hbk.cell 7;simp at c0 c1 c2 c3 c4 c5 c6 c7;clear hbk))
 rw [HO1.out]
 go_wp2_with (first | (go_at_call 25;((with_reducible refine (CN.out _).mono ?_));rintro e w4 ⟨rfl,rfl⟩) | (go_at_call 23;((with_reducible refine (CA1.out _).mono ?_));rintro e w5 ⟨rfl,hb5⟩;replace HC:=aI (HC.out.trans (hb5.mono HC.out.size));clear hb5;clear c0 c1 c2 c3 c4 c5 c6 c7;have hbk:=HBK.out.below HC.out HBK.out.lt;have c0:=hbk.cell 0;have c1:=hbk.cell 1;have c2:=hbk.cell 2;have c3:=hbk.cell 3;have c4:=hbk.cell 4;have c5:=hbk.cell 5;have c6:=hbk.cell 6;have c7:=hbk.cell 7;simp at c0 c1 c2 c3 c4 c5 c6 c7;clear hbk) | (go_at_call 23;((with_reducible refine (CA2.out _).mono ?_));rintro e w5 ⟨rfl,hb5⟩;replace HC:=aI (HC.out.trans (hb5.mono HC.out.size));clear hb5;clear c0 c1 c2 c3 c4 c5 c6 c7;have hbk:=HBK.out.below HC.out HBK.out.lt;have c0:=hbk.cell 0;have c1:=hbk.cell 1;have c2:=hbk.cell 2;have c3:=hbk.cell 3;have c4:=hbk.cell 4;have c5:=hbk.cell 5;have c6:=hbk.cell 6;have c7:=hbk.cell 7;simp at c0 c1 c2 c3 c4 c5 c6 c7;clear hbk))
 go_ret
 refine ⟨_,rfl,?_,HB.out.trans (HC.out.mono HB.out.size)⟩
 show (((andS (andS o1 lo) hi)):ByteArray).data.toList=10::Sx.lnJ (Sx.fldT ((nm,of_,up,5,lo,hi,ws,ns):Fld))
 rw [andS_list,andS_list]
 rw [← HO1.out]
 have hx:=HO0.out
 have hy:=HON.out
 show _=10::(Sx.wordsL.getD 5 []++(Sx.bs nm::[Sx.orNone of_,Sx.num lo,Sx.num hi]).flatMap fun u=>32::u)
 rw [← Sx.orN_list,hy]
 simp [hx,Sx.bs]
set_option maxRecDepth 100000 in
set_option maxHeartbeats 8000000 in
theorem rline_3 (nm of_ up:ByteArray) (lo hi:Int) (ws:List ByteArray) (ns:List Int) (us:List Value) (w:World) (h:Mem.rep [] w ((nm,of_,up,3,lo,hi,ws,ns):Fld) us) (hok:Sx.fldB ((nm,of_,up,3,lo,hi,ws,ns):Fld)=true):Calls Tryz.prog 24 #[.agg us.toArray] w (RLineP (Sx.fldT ((nm,of_,up,3,lo,hi,ws,ns):Fld)) w):=by
 have hf:=Sx.fldB_bd hok
 obtain ⟨A,c,B,d,rfl,s1,s2,a4,a5,a6,a1,a2,a3,b1,b2,e1,e2⟩:=rep_fld h
 have s1:SlAt [] w A ws:=s1
 have s2:SlAt [] w B ns:=s2
 obtain ⟨h1,h2,h3,h4,h5,h6,h7,h8,h9,_⟩:=hf
 replace h1:nm.size≤12:=h1
 replace h2:of_.size≤12:=h2
 replace h3:up.size≤12:=h3
 replace h4:-1048576≤lo∧lo≤1048576:=h4
 replace h5:-1048576≤hi∧hi≤1048576:=h5
 replace h6:ws.length≤12:=h6
 replace h7:ns.length=ws.length:=h7
 replace h8:∀ s∈ws,s.size≤12:=h8
 replace h9:∀ n∈ns,0≤n∧n≤1048576:=h9
 show Calls Tryz.prog 24 #[.agg #[.string nm,.string of_,.string up,.int .i64 3,.int .i64 lo,.int .i64 hi,.slice A ws.length c,.slice B ns.length d]] w _
 obtain ⟨nw,hnw⟩:∃ n,ws.length=n:=⟨_,rfl⟩
 have HNW:=aI hnw
 have HNN:=aI (h7.trans hnw)
 have HWF:=aI h8
 have HNF:=aI h9
 rw [h7,hnw]
 rw [hnw] at h6
 obtain ⟨W1,hW1⟩:∃ X,w.alloc (.cells #[.string nm,.string of_,.string up,.int .i64 3,.int .i64 lo,.int .i64 hi,.slice A nw c,.slice B nw d] 52)=X:=⟨_,rfl⟩
 have hb0:Below w.heap.size w W1:=by rw [← hW1];exact (Below.refl w.heap.size w).alloc (Nat.le_refl _) _
 have HB:=aI hb0
 have hbk:Blk W1 w.heap.size 52 #[.string nm,.string of_,.string up,.int .i64 3,.int .i64 lo,.int .i64 hi,.slice A nw c,.slice B nw d]:=by rw [← hW1];exact Blk.new w _ _
 have HBK:=aI hbk
 have HS1:=aI (s1.keep (Chg.of_below hb0))
 have HS2:=aI (s2.keep (Chg.of_below hb0))
 have HW1:=aI hW1
 have CU:=aI (fun w=>show Calls Tryz.prog 69 #[.int .i64 3] w fun e w'=>e=.returned (.tuple #[.bool false,.bool false,.bool false,.bool false,.bool true])∧w=w' from uses_any 3 w)
 have CW:=aI rwords_any
 obtain ⟨wd,hwd⟩:∃ s,wdR 3=s:=⟨_,rfl⟩
 have hwl:wd.size≤12:=by rw [← hwd];exact wdR_size 3
 have HWL:=aI (show wd.data.toList=Sx.wordsL.getD 3 [] by rw [← hwd];exact wdR_list 3)
 have HWG:=aI (show WRD[3]?=some (.string wd) by rw [← hwd];exact wrd_get 3 (by decide))
 obtain ⟨Nf,hNf⟩:∃ n,w.heap.size=n:=⟨_,rfl⟩
 have HNf:=aI hNf
 rw [hNf] at HBK
 have HC:=aI (Below.refl W1.heap.size W1)
 have hbk:=HBK.out.below HC.out HBK.out.lt;have c0:=hbk.cell 0;have c1:=hbk.cell 1;have c2:=hbk.cell 2;have c3:=hbk.cell 3;have c4:=hbk.cell 4;have c5:=hbk.cell 5;have c6:=hbk.cell 6;have c7:=hbk.cell 7;simp at c0 c1 c2 c3 c4 c5 c6 c7;clear hbk
 clear h7 h8 h9 hnw h s1 s2 a1 a2 a3 a4 a5 a6 b1 b2 e1 e2 hbk hW1 hb0 hwd hok hNf
 go_enter Tryz.func24,Tryz.ntmps24
 go_upto_region 1 with fail
 rw [HW1.out,HNf.out]
 go_wp2_with (go_at_call 69;((with_reducible refine (CU.out _).mono ?_));rintro e w2 ⟨rfl,rfl⟩)
 clear c0 c1 c2 c3 c4 c5 c6 c7
 apply wp_region_typed (C:=fun w'=>Below W1.heap.size W1 w') (n:=80) (m:=11) (l1:=[_,_,_,_,_,_,_,_,_,_,_]) (l2:=[])
 ·rfl
 ·rfl
 ·kernel_rfl
 ·rfl
 ·kernel_rfl
 ·exact ⟨rfl,rfl,rfl,Nat.le_refl _,fun _ _=>rfl⟩
 ·exact fun u u' h hb=>(by first | exact h.below hb | exact h.trans (hb.mono h.size))
 apply wpT_typed (slBlk_kept 9 9 WRD)
 ·intro w' hC hf;unfold Gives;clear hf hC
  go_wp2_with (go_at_call 70;((with_reducible refine (CW.out _).mono ?_));rintro e w2 ⟨g,rfl,hg,hB,hb2⟩)
  apply postT_mk rfl hb2;simp only [valAt,aA,aE,aC,aD,aH];exact ⟨g,rfl,hB⟩
 intro v28;(try simp only [Act.put,aB,aF,aG])
 iterate 2 ((apply wpT_exact;· (intro w' hC hf;unfold Gives;have hbk:=HBK.out.below hC HBK.out.lt;have c0:=hbk.cell 0;have c1:=hbk.cell 1;have c2:=hbk.cell 2;have c3:=hbk.cell 3;have c4:=hbk.cell 4;have c5:=hbk.cell 5;have c6:=hbk.cell 6;have c7:=hbk.cell 7;simp at c0 c1 c2 c3 c4 c5 c6 c7;clear hbk;clear hf hC;go_wp2_with (fail);apply postT_val rfl (Below.refl _ _);simp only [valAt,aA,aE,aC,aD,aH];exact rfl));(try simp only [Act.put,aB,aF,aG]))
 apply wpT_typed (atCell_kept (.string wd))
 ·intro w' hC hf;unfold Gives
  obtain ⟨g,rfl,hB⟩:=hf.1 rfl
  have hcell:=(hB.cell 3).trans HWG.out
  have HCE:=aI hcell
  clear hf hC hcell hB
  go_wp2_with fail
  apply postT_mk rfl (Below.refl _ _);simp only [valAt,aA,aE,aC,aD,aH];exact atCell_of HCE.out
 intro v34;(try simp only [Act.put,aB,aF,aG])
 apply wpT_exact
 ·intro w' hC hf;unfold Gives
  obtain ⟨a,rfl,hc⟩:=hf.1 rfl
  clear hf hC
  go_wp2_with fail
  apply postT_val rfl (Below.refl _ _);simp only [valAt,aA,aE,aC,aD,aH];exact rfl
 (try simp only [Act.put,aB,aF,aG])
 iterate 6 ((apply wpT_exact;· (intro w' hC hf;unfold Gives;have hbk:=HBK.out.below hC HBK.out.lt;have c0:=hbk.cell 0;have c1:=hbk.cell 1;have c2:=hbk.cell 2;have c3:=hbk.cell 3;have c4:=hbk.cell 4;have c5:=hbk.cell 5;have c6:=hbk.cell 6;have c7:=hbk.cell 7;simp at c0 c1 c2 c3 c4 c5 c6 c7;clear hbk;clear hf hC;go_wp2_with (fail);apply postT_val rfl (Below.refl _ _);simp only [valAt,aA,aE,aC,aD,aH];exact rfl));(try simp only [Act.put,aB,aF,aG]))
 apply wpT_done
 intro w3 hC _
 replace HC:=aI hC
 clear hC
 obtain ⟨o0,ho0⟩:∃ o:ByteArray,(⟨#[10]⟩++wd++⟨#[32]⟩++nm:ByteArray)=o:=⟨_,rfl⟩
 rw [ho0]
 have ho0s:o0.size≤26:=by rw [← ho0];simp only [ByteArray.size_append];rw [show (⟨#[10]⟩:ByteArray).size=1 from rfl,show (⟨#[32]⟩:ByteArray).size=1 from rfl];omega
 have HO0:=aI (show o0.data.toList=10::(Sx.wordsL.getD 3 []++32::Sx.bs nm) by rw [← ho0,← HWL.out];unfold Sx.bs;simp)
 clear ho0
 have hbk:=HBK.out.below HC.out HBK.out.lt;have c0:=hbk.cell 0;have c1:=hbk.cell 1;have c2:=hbk.cell 2;have c3:=hbk.cell 3;have c4:=hbk.cell 4;have c5:=hbk.cell 5;have c6:=hbk.cell 6;have c7:=hbk.cell 7;simp at c0 c1 c2 c3 c4 c5 c6 c7;clear hbk
 have CA:=aI (fun w=>and_any o0 (nw:Int) w (by omega) (by omega))
 have hos:=andS_size o0 (nw:Int) (by omega)
 have HO1:=aI (andS_list o0 (nw:Int))
 obtain ⟨o1,ho1⟩:∃ o:ByteArray,andS o0 (nw:Int)=o:=⟨_,rfl⟩
 rw [ho1] at CA hos HO1
 clear ho1
 go_wp2_with (go_at_call 23;((with_reducible refine (CA.out _).mono ?_));rintro e w5 ⟨rfl,hb5⟩;replace HC:=aI (HC.out.trans (hb5.mono HC.out.size));clear hb5;clear c0 c1 c2 c3 c4 c5 c6 c7;have hbk:=HBK.out.below HC.out HBK.out.lt;have c0:=hbk.cell 0;have c1:=hbk.cell 1;have c2:=hbk.cell 2;have c3:=hbk.cell 3;have c4:=hbk.cell 4;have c5:=hbk.cell 5;have c6:=hbk.cell 6;have c7:=hbk.cell 7;simp at c0 c1 c2 c3 c4 c5 c6 c7;clear hbk)
 clear c0 c1 c2 c3 c4 c5 c6 c7
 go_loopg [8,9] nw (fun r s i wr=>∃ (j:Nat) (t:ByteArray),j+r=nw∧i=.int .i64 j∧s=.string t∧t.data.toList=o1.data.toList++((Sx.pickAv (ws.take j) (ns.take j)).flatMap fun a=>32::a.t)∧t.size≤50+30*j∧Below W1.heap.size W1 wr)
 case atStart=>exact ⟨0,o1,by omega,rfl,rfl,by simp [Sx.pickAv],by omega,HC.out⟩
 case round =>
  clear HC
  obtain ⟨j,t,hj,rfl,rfl,ht,hts,hb⟩:=hrel
  obtain ⟨wo,rfl⟩:∃ wo:World,wo=wr:=⟨_,rfl⟩
  have HC:=aI hb
  have HT:=aI ht
  clear hb ht
  have hbk:=HBK.out.below HC.out HBK.out.lt;have c0:=hbk.cell 0;have c1:=hbk.cell 1;have c2:=hbk.cell 2;have c3:=hbk.cell 3;have c4:=hbk.cell 4;have c5:=hbk.cell 5;have c6:=hbk.cell 6;have c7:=hbk.cell 7;simp at c0 c1 c2 c3 c4 c5 c6 c7;clear hbk
  by_cases hlt:j < nw
  ·have hjp:j < ws.length:=by rw [HNW.out];exact hlt
   have hjq:j < ns.length:=by rw [HNN.out];exact hlt
   have j0:(0:Int)≤(j:Int):=Int.natCast_nonneg _
   have j1:(j:Int) < (nw:Int):=by omega
   obtain ⟨b,o,rfl,_,d0,_⟩:=str_at (HS1.out.keep (Chg.of_below HC.out)) j hjp
   obtain ⟨b2,o2,rfl,_,d1,_⟩:=int_at (HS2.out.keep (Chg.of_below HC.out)) j hjq
   have hx:=HWF.out _ (List.getElem_mem hjp)
   have hy:=HNF.out _ (List.getElem_mem hjq)
   have HPS:=aI (Sx.pickAv_snoc ws ns j hjp hjq)
   obtain ⟨x0,hx0⟩:∃ x,ws[j]=x:=⟨_,rfl⟩
   obtain ⟨y0,hy0⟩:∃ y,ns[j]=y:=⟨_,rfl⟩
   rw [hx0] at d0 hx HPS
   rw [hy0] at d1 hy HPS
   obtain ⟨o2s,ho2⟩:∃ o:ByteArray,(t++⟨#[32]⟩++x0:ByteArray)=o:=⟨_,rfl⟩
   have ho2s:o2s.size≤t.size+13:=by rw [← ho2];simp only [ByteArray.size_append];rw [show (⟨#[32]⟩:ByteArray).size=1 from rfl];omega
   have HO2:=aI ho2
   have CA2:=aI (fun w=>and_any o2s y0 w (by omega) (by omega))
   have has:=andS_size o2s y0 (by omega)
   have HAS:=aI (andS_list o2s y0)
   clear hx0 hy0 ho2
   have HD0:=aI (fun (W:World) (hb:Below wo.heap.size wo W)=>(hb.cell (World.block_lt_of_cell? _ _ d0)).trans d0)
   have HD1:=aI (fun (W:World) (hb:Below wo.heap.size wo W)=>(hb.cell (World.block_lt_of_cell? _ _ d1)).trans d1)
   have HBW:=aI (HBK.out.below HC.out HBK.out.lt)
   go_wp2_with fail
   clear c0 c1 c2 c3 c4 c5 c6 c7
   clear d0 d1
   apply wp_region_typed (C:=fun w'=>Below wo.heap.size wo w') (n:=80) (m:=15) (l1:=[_,_,_,_,_,_,_,_,_,_,_,_,_,_,_]) (l2:=[])
   ·rfl
   ·rfl
   ·kernel_rfl
   ·rfl
   ·kernel_rfl
   ·exact ⟨rfl,rfl,rfl,Nat.le_refl _,fun _ _=>rfl⟩
   ·exact fun u u' h hb=>(by first | exact h.below hb | exact h.trans (hb.mono h.size))
   iterate 7 ((apply wpT_exact;· (intro w' hC hf;unfold Gives;have hbk:=HBW.out.below hC HBW.out.lt;have c6:=hbk.cell 6;have c7:=hbk.cell 7;simp at c6 c7;have d0:=HD0.out _ hC;have d1:=HD1.out _ hC;clear hbk;clear hf hC;go_wp2_with (fail);apply postT_val rfl (Below.refl _ _);simp only [valAt,aA,aE,aC,aD,aH];exact rfl));(try simp only [Act.put,aB,aF,aG]))
   (apply wpT_exact (c:=.string o2s);· (intro w' hC hf;unfold Gives;clear hf hC;go_wp2_with fail;apply postT_val rfl (Below.refl _ _);simp only [valAt,aA,aE,aC,aD,aH];rw [← HO2.out]));(try simp only [Act.put,aB,aF,aG])
   iterate 5 ((apply wpT_exact;· (intro w' hC hf;unfold Gives;have hbk:=HBW.out.below hC HBW.out.lt;have c6:=hbk.cell 6;have c7:=hbk.cell 7;simp at c6 c7;have d0:=HD0.out _ hC;have d1:=HD1.out _ hC;clear hbk;clear hf hC;go_wp2_with (fail);apply postT_val rfl (Below.refl _ _);simp only [valAt,aA,aE,aC,aD,aH];exact rfl));(try simp only [Act.put,aB,aF,aG]))
   (apply wpT_exact;· (intro w' hC hf;unfold Gives;clear hf hC;go_wp2_with (go_at_call 23;((with_reducible refine (CA2.out _).mono ?_));rintro e w5 ⟨rfl,hb5⟩);apply postT_val rfl (by assumption);simp only [valAt,aA,aE,aC,aD,aH];exact rfl));(try simp only [Act.put,aB,aF,aG])
   (apply wpT_exact;· (intro w' hC hf;unfold Gives;clear hf hC;go_wp2_with (fail);apply postT_val rfl (Below.refl _ _);simp only [valAt,aA,aE,aC,aD,aH];exact rfl));(try simp only [Act.put,aB,aF,aG])
   apply wpT_done
   intro w8 hC _
   replace HC:=aI (HC.out.trans (hC.mono HC.out.size))
   clear hC
   go_wp2_with fail
   go_roundg (gk - 1)
   case measure=>omega
   case rel =>
    refine ⟨j+1,_,by omega,by go_num,rfl,?_,by omega,HC.out⟩
    rw [HAS.out,← HO2.out,← HPS.out]
    simp [HT.out,Sx.Av.t,Sx.bs]
  ·have j1:¬ (j:Int) < (nw:Int):=by omega
   have e1:=HT.out
   rw [List.take_of_length_le (by rw [HNW.out];omega),List.take_of_length_le (by rw [HNN.out];omega),HO1.out,HO0.out] at e1
   replace HT:=aI e1
   clear e1
   go_wp2_with fail
   go_ret
   refine ⟨_,rfl,?_,HB.out.trans (HC.out.mono HB.out.size)⟩
   have e1:=HT.out
   rw [e1]
   show _=10::(Sx.wordsL.getD 3 []++(Sx.bs nm::Sx.num (ws.length:Int)::Sx.picksT ws ns).flatMap fun u=>32::u)
   rw [HNW.out,← Sx.pickAv_t,List.flatMap_cons,List.flatMap_cons,List.flatMap_map]
   simp
theorem rline_any (f:Fld) (us:List Value) (w:World) (h:Mem.rep [] w f us) (hf:Sx.fldB f=true):Calls Tryz.prog 24 #[.agg us.toArray] w (RLineP (Sx.fldT f) w):=by
 have hb:=Sx.fldB_bd hf
 obtain ⟨nm,of_,up,kd,lo,hi,ws,ns⟩:=f
 obtain ⟨k,hk,hkd⟩:=hb.kd
 obtain rfl:kd=(k:Int):=hkd
 rcases (show k=0∨k=1∨k=2∨k=3∨k=4∨k=5∨k=6∨k=7∨k=8 by omega) with rfl | rfl | rfl | rfl | rfl | rfl | rfl | rfl | rfl
 ·exact rline_0 nm of_ up lo hi ws ns us w h hf
 ·exact rline_1 nm of_ up lo hi ws ns us w h hf
 ·exact rline_2 nm of_ up lo hi ws ns us w h hf
 ·exact rline_3 nm of_ up lo hi ws ns us w h hf
 ·exact rline_4 nm of_ up lo hi ws ns us w h hf
 ·exact rline_5 nm of_ up lo hi ws ns us w h hf
 ·exact rline_6 nm of_ up lo hi ws ns us w h hf
 ·exact rline_7 nm of_ up lo hi ws ns us w h hf
 ·exact rline_8 nm of_ up lo hi ws ns us w h hf
end Go.Proofs.YtmplaikgbeeikaaGreatDoor
