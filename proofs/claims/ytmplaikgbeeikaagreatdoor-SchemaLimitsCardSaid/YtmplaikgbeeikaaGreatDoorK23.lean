/- Parts of the proof, joined: SxU3, SxLaw8, SxU4. -/
import Derived.Test.YtmplaikgbeeikaaGreatDoorK6
import Derived.Test.YtmplaikgbeeikaaGreatDoorK13
import Derived.Test.YtmplaikgbeeikaaGreatDoorK15
import Derived.Test.YtmplaikgbeeikaaGreatDoorK17
import Derived.Test.YtmplaikgbeeikaaGreatDoorK22
import Derived.Deep.QuietTactic
import Derived.BigQuiet
set_option linter.unusedVariables false
set_option linter.unusedSimpArgs false
set_option linter.unusedSectionVars false
namespace Go.Proofs.YtmplaikgbeeikaaGreatDoor
open Go Go.RowKit
set_option maxRecDepth 100000 in
set_option maxHeartbeats 8000000 in
theorem rIsKind_any (x:Knd) (us:List Value) (w:World) (h:Mem.rep [] w x us) (hl:(Sc.flds x).length≤1000000) (hz:∀ f∈Sc.flds x,(Sc.words f).length≤1000000∧(Sc.wts f).length≤1000000):Calls Tryz.prog 96 #[.agg us.toArray] w (BoolP (Sx.kndB x) w):=by
 obtain ⟨A,c,rfl,s1,i1,i2,z1,b1,b2⟩:=rep_knd h
 obtain ⟨nm,lo,hi,fs⟩:=x
 have z1:nm.size≤9223372036854775807:=z1
 have hl:fs.length≤1000000:=hl
 have HZ:=aI (show ∀ f∈fs,(Sc.words f).length≤1000000∧(Sc.wts f).length≤1000000 from hz)
 have CN:=aI (fun w=>rIsName_any nm w z1)
 obtain ⟨q1,hq1⟩:∃ b,Sx.nm nm=b:=⟨_,rfl⟩
 rw [hq1] at CN
 have CS:=aI (rSpan_any lo hi 0 65536)
 obtain ⟨q2,hq2⟩:∃ b,Sx.span lo hi 0 65536=b:=⟨_,rfl⟩
 rw [hq2] at CS
 show Calls Tryz.prog 96 #[.agg #[.string nm,.int .i64 lo,.int .i64 hi,.slice A fs.length c]] w (BoolP (Sx.kndB ((nm,lo,hi,fs):Knd)) w)
 obtain ⟨W1,hW1⟩:∃ X,w.alloc (.cells #[.string nm,.int .i64 lo,.int .i64 hi,.slice A fs.length c] 49)=X:=⟨_,rfl⟩
 have HB:=aI (show Below w.heap.size w W1 by rw [← hW1];exact (Below.refl w.heap.size w).alloc (Nat.le_refl _) _)
 have hbk:Blk W1 w.heap.size 49 #[.string nm,.int .i64 lo,.int .i64 hi,.slice A fs.length c]:=by rw [← hW1];exact Blk.new w _ _
 have HW1:=aI hW1
 have HS:=aI (SlAt.keep (show SlAt [] w A fs from s1) (Chg.of_below HB.out))
 obtain ⟨n,hn⟩:∃ n,fs.length=n:=⟨_,rfl⟩
 have HN:=aI hn
 have HF:=aI (show Sx.kndB ((nm,lo,hi,fs):Knd)=(q1 && (q2 && (decide (n≤10) && fs.all Sx.fldB))) by rw [← hq1,← hq2,← hn];rfl)
 have HV:=aI rIsField_any
 rw [hn] at hbk HW1 hl
 rw [hn]
 obtain ⟨N,hN⟩:∃ n,w.heap.size=n:=⟨_,rfl⟩
 rw [hN] at hbk
 have HBK:=aI hbk
 have c0:=hbk.cell 0;have c1:=hbk.cell 1;have c2:=hbk.cell 2;have c3:=hbk.cell 3;simp at c0 c1 c2 c3
 clear h s1 i1 i2 z1 b1 b2 hz hq1 hq2 hn hW1 hbk
 generalize Sx.kndB ((nm,lo,hi,fs):Knd)=fb at *
 go_enter Tryz.func96,Tryz.ntmps96
 go_upto_region 1 with fail
 rw [HW1.out]
 (try rw [hN])
 cases q1
 ·go_wp2_with (first | (go_at_call 128;((with_reducible refine (CN.out _).mono ?_));rintro e w2 ⟨rfl,rfl⟩) | (go_at_call 129;((with_reducible refine (CS.out _).mono ?_));rintro e w2 ⟨rfl,rfl⟩))
  go_ret
  exact ⟨by rw [HF.out];first | rfl | simp,HB.out⟩
 cases q2
 ·go_wp2_with (first | (go_at_call 128;((with_reducible refine (CN.out _).mono ?_));rintro e w2 ⟨rfl,rfl⟩) | (go_at_call 129;((with_reducible refine (CS.out _).mono ?_));rintro e w2 ⟨rfl,rfl⟩))
  go_ret
  exact ⟨by rw [HF.out];first | rfl | simp,HB.out⟩
 by_cases h10:n≤10
 rotate_left
 ·have t1:(10:Int) < (n:Int):=by omega
  have HF2:=aI (HF.out.trans (show (true && (true && (decide (n≤10) && fs.all Sx.fldB)))=false by rw [decide_eq_false h10];rfl))
  clear h10
  go_wp2_with (first | (go_at_call 128;((with_reducible refine (CN.out _).mono ?_));rintro e w2 ⟨rfl,rfl⟩) | (go_at_call 129;((with_reducible refine (CS.out _).mono ?_));rintro e w2 ⟨rfl,rfl⟩))
  go_ret
  exact ⟨by rw [HF2.out];first | done | rfl | simp,HB.out⟩
 ·have t1:¬ (10:Int) < (n:Int):=by omega
  have t2:(n:Int)≤(10:Int):=by omega
  have HF2:=aI (HF.out.trans (show (true && (true && (decide (n≤10) && fs.all Sx.fldB)))=fs.all Sx.fldB by rw [decide_eq_true h10];rfl))
  clear h10 HF
  go_wp2_with (first | (go_at_call 128;((with_reducible refine (CN.out _).mono ?_));rintro e w2 ⟨rfl,rfl⟩) | (go_at_call 129;((with_reducible refine (CS.out _).mono ?_));rintro e w2 ⟨rfl,rfl⟩))
  clear t1 t2 c0 c1 c2 c3
  go_loopg [3] n (fun r i wr=>∃ k:Nat,k+r=n∧i=.int .i64 k∧Below W1.heap.size W1 wr∧∀ j (hj:j < fs.length),j < k→Sx.fldB fs[j]=true)
  case atStart=>exact ⟨0,by omega,rfl,Below.refl _ _,fun _ _ h=>by omega⟩
  case round =>
   obtain ⟨k,hk,rfl,hb,hall⟩:=hrel
   obtain ⟨wo,rfl⟩:∃ wo:World,wo=wr:=⟨_,rfl⟩
   have HB2:=aI hb
   have HA:=aI hall
   have hbk:=HBK.out.below hb HBK.out.lt
   have c0:=hbk.cell 0;have c1:=hbk.cell 1;have c2:=hbk.cell 2;have c3:=hbk.cell 3;simp at c0 c1 c2 c3
   clear hb hall hbk
   by_cases hlt:k < n
   ·have hkp:k < fs.length:=by rw [HN.out];exact hlt
    have k0:(0:Int)≤(k:Int):=Int.natCast_nonneg _
    have k1:(k:Int) < (n:Int):=by omega
    obtain ⟨b,o,us,rfl,_,hr,hc⟩:=(HS.out.keep (Chg.of_below HB2.out)).get k hkp
    have cv:=HV.out fs[k] us wo hr (HZ.out _ (List.getElem_mem hkp)).1 (HZ.out _ (List.getElem_mem hkp)).2
    obtain ⟨x,hx⟩:∃ x,fs[k]=x:=⟨_,rfl⟩
    rw [hx] at cv hr
    obtain ⟨A1,cA,B1,dB,rfl,p1,p2,p3,p4,p5,p6,p7,p8,p9,p10,p11,p12⟩:=rep_fld hr
    clear p1 p2 p3 p4 p5 p6 p7 p8 p9 p10 p11 p12
    change Calls Tryz.prog 130 #[.agg #[.string (Sc.nm x),.string (Sc.of_ x),.string (Sc.up x),.int .i64 (Sc.kd x),.int .i64 (Sc.lo x),.int .i64 (Sc.hi x),.slice A1 (Sc.words x).length cA,.slice B1 (Sc.wts x).length dB]] wo _ at cv
    have d0:wo.cell? ⟨b,o+k*8,none⟩=some (.string (Sc.nm x)):=hc 0 _ rfl
    have d1:wo.cell? ⟨b,o+k*8+1,none⟩=some (.string (Sc.of_ x)):=hc 1 _ rfl
    have d2:wo.cell? ⟨b,o+k*8+2,none⟩=some (.string (Sc.up x)):=hc 2 _ rfl
    have d3:wo.cell? ⟨b,o+k*8+3,none⟩=some (.int .i64 (Sc.kd x)):=hc 3 _ rfl
    have d4:wo.cell? ⟨b,o+k*8+4,none⟩=some (.int .i64 (Sc.lo x)):=hc 4 _ rfl
    have d5:wo.cell? ⟨b,o+k*8+5,none⟩=some (.int .i64 (Sc.hi x)):=hc 5 _ rfl
    have d6:wo.cell? ⟨b,o+k*8+6,none⟩=some (.slice A1 (Sc.words x).length cA):=hc 6 _ rfl
    have d7:wo.cell? ⟨b,o+k*8+7,none⟩=some (.slice B1 (Sc.wts x).length dB):=hc 7 _ rfl
    obtain ⟨bb,hbb⟩:∃ b,Sx.fldB x=b:=⟨_,rfl⟩
    rw [hbb] at cv
    have CV:=aI cv
    have HX:=aI hx
    have HBB:=aI hbb
    clear cv hbb hr hc hx
    cases bb
    ·have HR:=aI (all_bad (b:=Sx.fldB) hkp (by rw [HX.out];exact HBB.out))
     go_wp2_with (go_at_call 130;((with_reducible refine (CV.out).mono ?_));rintro e w2 ⟨rfl,hb2⟩;replace HB2:=aI (HB2.out.trans (hb2.mono HB2.out.size));clear hb2)
     go_ret
     exact ⟨by rw [HF2.out,HR.out];first | done | rfl | simp,HB.out.trans (HB2.out.mono HB.out.size)⟩
    ·go_wp2_with (go_at_call 130;((with_reducible refine (CV.out).mono ?_));rintro e w2 ⟨rfl,hb2⟩;replace HB2:=aI (HB2.out.trans (hb2.mono HB2.out.size));clear hb2)
     go_roundg (gk - 1)
     case measure=>omega
     case rel =>
      refine ⟨k+1,by omega,by go_num,HB2.out,fun q hq hlt=>?_⟩
      rcases Nat.lt_or_ge q k with h' | h'
      ·exact HA.out q hq h'
      ·obtain rfl:q=k:=by omega
       rw [HX.out];exact HBB.out
   ·have HR:=aI (all_good (b:=Sx.fldB) fun q hq=>HA.out q hq (by rw [HN.out] at hq;omega))
    have k1:¬ (k:Int) < (n:Int):=by omega
    go_wp2_with fail
    go_ret
    exact ⟨by rw [HF2.out,HR.out];first | done | rfl | simp,HB.out.trans (HB2.out.mono HB.out.size)⟩
set_option maxRecDepth 100000 in
set_option maxHeartbeats 8000000 in
theorem rIsLife_any (x:Lif) (us:List Value) (w:World) (h:Mem.rep [] w x us) (hl:x.2.2.length≤1000000):Calls Tryz.prog 97 #[.agg us.toArray] w (BoolP (Sx.lifB x) w):=by
 obtain ⟨A,c,B,d,rfl,s1,s2,z1,b1,b2,e1,e2⟩:=rep_lif h
 obtain ⟨nm,ss,ms⟩:=x
 have z1:nm.size≤9223372036854775807:=z1
 have hl:ms.length≤1000000:=hl
 have hl2:ss.length≤9223372036854775807:=by have:ss.length≤c:=b1;omega
 have CN:=aI (fun w=>rIsName_any nm w z1)
 obtain ⟨q1,hq1⟩:∃ b,Sx.nm nm=b:=⟨_,rfl⟩
 rw [hq1] at CN
 have CW:=aI (rWithin_any (ss.length:Int) 1 12)
 obtain ⟨q2,hq2⟩:∃ b,Sx.within (ss.length:Int) 1 12=b:=⟨_,rfl⟩
 rw [hq2] at CW
 show Calls Tryz.prog 97 #[.agg #[.string nm,.slice A ss.length c,.slice B ms.length d]] w (BoolP (Sx.lifB ((nm,ss,ms):Lif)) w)
 obtain ⟨W1,hW1⟩:∃ X,w.alloc (.cells #[.string nm,.slice A ss.length c,.slice B ms.length d] 55)=X:=⟨_,rfl⟩
 have HB:=aI (show Below w.heap.size w W1 by rw [← hW1];exact (Below.refl w.heap.size w).alloc (Nat.le_refl _) _)
 have hbk:Blk W1 w.heap.size 55 #[.string nm,.slice A ss.length c,.slice B ms.length d]:=by rw [← hW1];exact Blk.new w _ _
 have HW1:=aI hW1
 have HS:=aI (SlAt.keep (show SlAt [] w B ms from s2) (Chg.of_below HB.out))
 have CM:=aI (rNames_any ss A c W1 (SlAt.keep (show SlAt [] w A ss from s1) (Chg.of_below HB.out)) hl2)
 obtain ⟨q3,hq3⟩:∃ b,ss.all Sx.nm=b:=⟨_,rfl⟩
 rw [hq3] at CM
 obtain ⟨n,hn⟩:∃ n,ms.length=n:=⟨_,rfl⟩
 obtain ⟨ns,hns⟩:∃ n,ss.length=n:=⟨_,rfl⟩
 have HN:=aI hn
 have HF:=aI (show Sx.lifB ((nm,ss,ms):Lif)=(q1 && (q2 && (q3 && (decide (n≤32) && ms.all (Sx.mvB ns))))) by rw [← hq1,← hq2,← hq3,← hn,← hns];rfl)
 rw [hn] at hbk HW1 hl
 rw [hns] at hbk HW1 hl2 CW CM hq2
 rw [hn,hns]
 obtain ⟨N,hN⟩:∃ n,w.heap.size=n:=⟨_,rfl⟩
 rw [hN] at hbk
 have HBK:=aI hbk
 have HQ2:=aI hq2
 have c0:=hbk.cell 0;have c1:=hbk.cell 1;have c2:=hbk.cell 2;simp at c0 c1 c2
 clear h s1 s2 z1 b1 b2 e1 e2 hq1 hq2 hq3 hn hns hW1 hbk
 generalize Sx.lifB ((nm,ss,ms):Lif)=fb at *
 go_enter Tryz.func97,Tryz.ntmps97
 go_upto_region 1 with fail
 rw [HW1.out]
 (try rw [hN])
 cases q1
 ·go_wp2_with (first | (go_at_call 128;((with_reducible refine (CN.out _).mono ?_));rintro e w2 ⟨rfl,rfl⟩) | (go_at_call 95;((with_reducible refine (CW.out _).mono ?_));rintro e w2 ⟨rfl,rfl⟩) | (go_at_call 131;((with_reducible refine (CM.out).mono ?_));rintro e w2 ⟨rfl,rfl⟩))
  go_ret
  exact ⟨by rw [HF.out];first | rfl | simp,HB.out⟩
 cases q2
 ·go_wp2_with (first | (go_at_call 128;((with_reducible refine (CN.out _).mono ?_));rintro e w2 ⟨rfl,rfl⟩) | (go_at_call 95;((with_reducible refine (CW.out _).mono ?_));rintro e w2 ⟨rfl,rfl⟩) | (go_at_call 131;((with_reducible refine (CM.out).mono ?_));rintro e w2 ⟨rfl,rfl⟩))
  go_ret
  exact ⟨by rw [HF.out];first | rfl | simp,HB.out⟩
 cases q3
 ·go_wp2_with (first | (go_at_call 128;((with_reducible refine (CN.out _).mono ?_));rintro e w2 ⟨rfl,rfl⟩) | (go_at_call 95;((with_reducible refine (CW.out _).mono ?_));rintro e w2 ⟨rfl,rfl⟩) | (go_at_call 131;((with_reducible refine (CM.out).mono ?_));rintro e w2 ⟨rfl,rfl⟩))
  go_ret
  exact ⟨by rw [HF.out];first | rfl | simp,HB.out⟩
 by_cases h10:n≤32
 rotate_left
 ·have t1:(32:Int) < (n:Int):=by omega
  have HF2:=aI (HF.out.trans (show (true && (true && (true && (decide (n≤32) && ms.all (Sx.mvB ns)))))=false by rw [decide_eq_false h10];rfl))
  clear h10
  go_wp2_with (first | (go_at_call 128;((with_reducible refine (CN.out _).mono ?_));rintro e w2 ⟨rfl,rfl⟩) | (go_at_call 95;((with_reducible refine (CW.out _).mono ?_));rintro e w2 ⟨rfl,rfl⟩) | (go_at_call 131;((with_reducible refine (CM.out).mono ?_));rintro e w2 ⟨rfl,rfl⟩))
  go_ret
  exact ⟨by rw [HF2.out];first | done | rfl | simp,HB.out⟩
 ·have t1:¬ (32:Int) < (n:Int):=by omega
  have t2:(n:Int)≤(32:Int):=by omega
  have hns1:=(within_bd HQ2.out)
  have HF2:=aI (HF.out.trans (show (true && (true && (true && (decide (n≤32) && ms.all (Sx.mvB ns)))))=ms.all (Sx.mvB ns) by rw [decide_eq_true h10];rfl))
  clear h10 HF
  go_wp2_with (first | (go_at_call 128;((with_reducible refine (CN.out _).mono ?_));rintro e w2 ⟨rfl,rfl⟩) | (go_at_call 95;((with_reducible refine (CW.out _).mono ?_));rintro e w2 ⟨rfl,rfl⟩) | (go_at_call 131;((with_reducible refine (CM.out).mono ?_));rintro e w2 ⟨rfl,rfl⟩))
  clear t1 t2 c0 c1 c2
  obtain ⟨n1,hn1⟩:∃ z:Int,(ns:Int) - 1=z:=⟨_,rfl⟩
  have hw1:IntKind.i64.wrap ((ns:Int) - 1)=n1:=by rw [← hn1];exact wrapI (by unfold inI;omega)
  have HN1:=aI hn1
  have HW9:=aI (fun a=>rWithin_any a 0 n1)
  clear hn1
  go_loopg [3] n (fun r i wr=>∃ k:Nat,k+r=n∧i=.int .i64 k∧Below W1.heap.size W1 wr∧∀ j (hj:j < ms.length),j < k→Sx.mvB ns ms[j]=true)
  case atStart=>exact ⟨0,by omega,rfl,Below.refl _ _,fun _ _ h=>by omega⟩
  case round =>
   obtain ⟨k,hk,rfl,hb,hall⟩:=hrel
   obtain ⟨wo,rfl⟩:∃ wo:World,wo=wr:=⟨_,rfl⟩
   have HB2:=aI hb
   have HA:=aI hall
   have hbk:=HBK.out.below hb HBK.out.lt
   have c0:=hbk.cell 0;have c1:=hbk.cell 1;have c2:=hbk.cell 2;simp at c0 c1 c2
   clear hb hall hbk
   by_cases hlt:k < n
   ·have hkp:k < ms.length:=by rw [HN.out];exact hlt
    have k0:(0:Int)≤(k:Int):=Int.natCast_nonneg _
    have k1:(k:Int) < (n:Int):=by omega
    obtain ⟨b,o,us,rfl,_,hr,hc⟩:=(HS.out.keep (Chg.of_below HB2.out)).get k hkp
    obtain ⟨⟨ma,mb⟩,hx⟩:∃ x,ms[k]=x:=⟨_,rfl⟩
    rw [hx] at hr
    obtain ⟨rfl,p1,p2⟩:=rep_mv hr
    have d0:wo.cell? ⟨b,o+k*2,none⟩=some (.int .i64 ma):=hc 0 _ rfl
    have d1:wo.cell? ⟨b,o+k*2+1,none⟩=some (.int .i64 mb):=hc 1 _ rfl
    have CV:=aI (HW9.out ma)
    have CU:=aI (HW9.out mb)
    have HBB:=aI (show Sx.mvB ns ms[k]=(Sx.within ma 0 n1 && Sx.within mb 0 n1) by rw [hx,← HN1.out];rfl)
    obtain ⟨r1,hr1⟩:∃ b,Sx.within ma 0 n1=b:=⟨_,rfl⟩
    obtain ⟨r2,hr2⟩:∃ b,Sx.within mb 0 n1=b:=⟨_,rfl⟩
    rw [hr1] at CV
    rw [hr2] at CU
    rw [hr1,hr2] at HBB
    clear hr hc hx p1 p2 hr1 hr2
    go_wp2_with fail
    have CVq:=aI (fun n=>Calls.quiet_of_same (n:=n) (w:=wo) ((CV.out (wo.drewN n)).mono fun _ _ h=>⟨h.1,h.2.symm⟩))
    have CUq:=aI (fun n=>Calls.quiet_of_same (n:=n) (w:=wo) ((CU.out (wo.drewN n)).mono fun _ _ h=>⟨h.1,h.2.symm⟩))
    clear CV CU
    cases r1
    ·have HR:=aI (all_bad (b:=Sx.mvB ns) hkp HBB.out)
     go_quiet ((go_at_call 95;first | with_reducible exact CVq.out _ | with_reducible exact CUq.out _))
     go_wp2_with fail
     go_ret
     exact ⟨by rw [HF2.out,HR.out];first | done | rfl | simp,HB.out.trans (Below.mono (by exact ⟨HB2.out.os,HB2.out.tape,HB2.out.output,HB2.out.size,HB2.out.block⟩) HB.out.size)⟩
    cases r2
    ·have HR:=aI (all_bad (b:=Sx.mvB ns) hkp HBB.out)
     go_quiet ((go_at_call 95;first | with_reducible exact CVq.out _ | with_reducible exact CUq.out _))
     go_wp2_with fail
     go_ret
     exact ⟨by rw [HF2.out,HR.out];first | done | rfl | simp,HB.out.trans (Below.mono (by exact ⟨HB2.out.os,HB2.out.tape,HB2.out.output,HB2.out.size,HB2.out.block⟩) HB.out.size)⟩
    ·go_quiet ((go_at_call 95;first | with_reducible exact CVq.out _ | with_reducible exact CUq.out _))
     go_wp2_with fail
     go_roundg (gk - 1)
     case measure=>omega
     case rel =>
      refine ⟨k+1,by omega,by go_num,by exact ⟨HB2.out.os,HB2.out.tape,HB2.out.output,HB2.out.size,HB2.out.block⟩,fun q hq hlt=>?_⟩
      rcases Nat.lt_or_ge q k with h' | h'
      ·exact HA.out q hq h'
      ·obtain rfl:q=k:=by omega
       exact HBB.out
   ·have HR:=aI (all_good (b:=Sx.mvB ns) fun q hq=>HA.out q hq (by rw [HN.out] at hq;omega))
    have k1:¬ (k:Int) < (n:Int):=by omega
    go_wp2_with fail
    go_ret
    exact ⟨by rw [HF2.out,HR.out];first | done | rfl | simp,HB.out.trans (HB2.out.mono HB.out.size)⟩
set_option maxRecDepth 100000 in
set_option maxHeartbeats 8000000 in
theorem rIsRule_any (x:Rul) (us:List Value) (w:World) (h:Mem.rep [] w x us):Calls Tryz.prog 98 #[.agg us.toArray] w (BoolP (Sx.rulB x) w):=by
 obtain ⟨rfl,a1,a2,a3,a4,a5⟩:=rep_rul h
 obtain ⟨nm,kd,a,b,n⟩:=x
 have a1:nm.size≤9223372036854775807:=a1
 have a2:kd.size≤9223372036854775807:=a2
 have a3:a.size≤9223372036854775807:=a3
 have a4:b.size≤9223372036854775807:=a4
 have CN:=aI (fun w=>rIsName_any nm w a1)
 have CK:=aI (fun w=>rIsName_any kd w a2)
 have CA:=aI (fun w=>rIsName_any a w a3)
 have CB:=aI (fun w=>rIsName_any b w a4)
 have CW:=aI (rWithin_any n (-1048576) 1048576)
 obtain ⟨y1,y2,y3⟩:=em_spell a
 obtain ⟨y4,y5,y6⟩:=em_spell b
 obtain ⟨qn,hq1⟩:∃ z,Sx.nm nm=z:=⟨_,rfl⟩
 rw [hq1] at CN
 obtain ⟨qk,hq2⟩:∃ z,Sx.nm kd=z:=⟨_,rfl⟩
 rw [hq2] at CK
 obtain ⟨ea,hq3⟩:∃ z,Sx.em a=z:=⟨_,rfl⟩
 rw [hq3] at y1 y2 y3
 obtain ⟨na,hq4⟩:∃ z,Sx.nm a=z:=⟨_,rfl⟩
 rw [hq4] at CA
 obtain ⟨eb,hq5⟩:∃ z,Sx.em b=z:=⟨_,rfl⟩
 rw [hq5] at y4 y5 y6
 obtain ⟨nb,hq6⟩:∃ z,Sx.nm b=z:=⟨_,rfl⟩
 rw [hq6] at CB
 obtain ⟨qw,hq7⟩:∃ z,Sx.within n (-1048576) 1048576=z:=⟨_,rfl⟩
 rw [hq7] at CW
 have HF:=aI (show Sx.rulB ((nm,kd,a,b,n):Rul)=(qn && (qk && ((ea || na) && ((eb || nb) && (!(ea && eb) && qw))))) by rw [← hq1,← hq2,← hq3,← hq4,← hq5,← hq6,← hq7];rfl)
 show Calls Tryz.prog 98 #[.agg #[.string nm,.string kd,.string a,.string b,.int .i64 n]] w _
 obtain ⟨W1,hW1⟩:∃ X,w.alloc (.cells #[.string nm,.string kd,.string a,.string b,.int .i64 n] 58)=X:=⟨_,rfl⟩
 have HB:=aI (show Below w.heap.size w W1 by rw [← hW1];exact (Below.refl w.heap.size w).alloc (Nat.le_refl _) _)
 have hbk:Blk W1 w.heap.size 58 #[.string nm,.string kd,.string a,.string b,.int .i64 n]:=by rw [← hW1];exact Blk.new w _ _
 have HW1:=aI hW1
 obtain ⟨N,hN⟩:∃ n,w.heap.size=n:=⟨_,rfl⟩
 rw [hN] at hbk
 have c0:=hbk.cell 0;have c1:=hbk.cell 1;have c2:=hbk.cell 2;have c3:=hbk.cell 3;have c4:=hbk.cell 4;simp at c0 c1 c2 c3 c4
 clear h hbk hW1 a1 a2 a3 a4 a5 hq1 hq2 hq3 hq4 hq5 hq6 hq7
 generalize Sx.rulB ((nm,kd,a,b,n):Rul)=fb at *
 go_enter Tryz.func98,Tryz.ntmps98
 go_upto_region 1 with fail
 rw [HW1.out]
 (try rw [hN])
 cases ea <;> cases eb <;> cases na <;> cases nb <;> cases qn <;> cases qk <;> (go_wp2_with (first | (go_at_call 128;((with_reducible refine (CA.out _).mono ?_));rintro e w2 ⟨rfl,rfl⟩) | (go_at_call 128;((with_reducible refine (CB.out _).mono ?_));rintro e w2 ⟨rfl,rfl⟩) | (go_at_call 128;((with_reducible refine (CN.out _).mono ?_));rintro e w2 ⟨rfl,rfl⟩) | (go_at_call 128;((with_reducible refine (CK.out _).mono ?_));rintro e w2 ⟨rfl,rfl⟩) | (go_at_call 95;((with_reducible refine (CW.out _).mono ?_));rintro e w2 ⟨rfl,rfl⟩));go_ret;exact ⟨by rw [HF.out];first | rfl | simp,HB.out⟩)
end Go.Proofs.YtmplaikgbeeikaaGreatDoor
namespace Go.Proofs.YtmplaikgbeeikaaGreatDoor
open Go Go.RowKit
namespace Sx
def SzW (x:Sch):Prop:=∀ k∈Sc.kinds x,∀ f∈Sc.flds k,(Sc.words f).length≤1000000
theorem picks_lenW:∀ (n:Nat) (ws:List ByteArray) (ns:List Int) (l:List Tok) (p:List ByteArray × List Int) (m:List Tok),picks n ws ns l=.ok p m→p.1.length=ws.length+n
 | 0,_,_,_,_,_,h=>by injection h with h1 h2;subst h1;rfl
 | n+1,ws,ns,l,p,m,h=>by
  obtain ⟨w,l1,_,h2⟩:=bind_ok h
  obtain ⟨v,l2,_,h4⟩:=bind_ok h2
  have:=picks_lenW n _ _ _ _ _ h4
  rw [aK,List.length_singleton] at this
  omega
theorem field1_okW {k:Nat} {nm:ByteArray} {l m:List Tok} {f:Fld} (h:field1 k nm l=.ok f m):(Sc.words f).length≤12:=by
 unfold field1 at h
 split at h
 ·obtain ⟨_,_,_,h⟩:=bind_ok h
  injection h with h1 h2;subst h1;exact Nat.zero_le _
 split at h
 ·obtain ⟨n,l1,h1,h⟩:=bind_ok h
  obtain ⟨p,l2,h2,h⟩:=bind_ok h
  have:=picks_lenW _ _ _ _ _ _ h2
  have hn:=(count_ok h1).1
  injection h with h3 h4;subst h3
  show p.1.length≤12
  rw [this];simpa using hn
 split at h
 ·obtain ⟨_,_,_,h⟩:=bind_ok h
  injection h with h1 h2;subst h1;exact Nat.zero_le _
 split at h
 ·obtain ⟨_,_,_,h⟩:=bind_ok h
  obtain ⟨_,_,_,h⟩:=bind_ok h
  injection h with h1 h2;subst h1;exact Nat.zero_le _
 split at h
 ·obtain ⟨_,_,_,h⟩:=bind_ok h
  obtain ⟨_,_,_,h⟩:=bind_ok h
  obtain ⟨_,_,_,h⟩:=bind_ok h
  obtain ⟨_,_,_,h⟩:=bind_ok h
  injection h with h1 h2;subst h1;exact Nat.zero_le _
 split at h
 ·obtain ⟨_,_,_,h⟩:=bind_ok h
  obtain ⟨_,_,_,h⟩:=bind_ok h
  injection h with h1 h2;subst h1;exact Nat.zero_le _
 ·obtain ⟨_,_,_,h⟩:=bind_ok h
  obtain ⟨_,_,_,h⟩:=bind_ok h
  obtain ⟨_,_,_,h⟩:=bind_ok h
  injection h with h1 h2;subst h1;exact Nat.zero_le _
theorem field_okW {l m:List Tok} {f:Fld} (h:field l=.ok f m):(Sc.words f).length≤12∧m.length≤l.length:=by
 refine ⟨?_,loc_len loc_field h⟩
 rw [field_eq] at h
 obtain ⟨_,_,_,h⟩:=bind_ok h
 obtain ⟨_,_,_,h⟩:=bind_ok h
 exact field1_okW h
theorem kind_okW {l m:List Tok} {k:Knd} (h:kind l=.ok k m):(∀ f∈Sc.flds k,(Sc.words f).length≤12)∧m.length≤l.length:=by
 refine ⟨?_,loc_len loc_kind h⟩
 obtain ⟨_,l1,h1,h⟩:=bind_ok h
 obtain ⟨_,l2,h2,h⟩:=bind_ok h
 obtain ⟨_,l3,h3,h⟩:=bind_ok h
 obtain ⟨_,l4,h4,h⟩:=bind_ok h
 obtain ⟨fs,l5,h5,h⟩:=bind_ok h
 obtain ⟨_,_,q3⟩:=many_sz (P:=fun f:Fld=>(Sc.words f).length≤12) (B:=l4.length) (fun l a m _ h=>field_okW h) _ _ _ _ _ (Nat.le_refl _) h5
 injection h with h6 h7
 subst h6
 exact q3 (fun _ h=>by cases h)
theorem schema_szW {l m:List Tok} {x:Sch} (h:schema l=.ok x m):SzW x:=by
 obtain ⟨_,l1,h1,h⟩:=bind_ok h
 obtain ⟨_,l2,h2,h⟩:=bind_ok h
 obtain ⟨ks,l3,h3,h⟩:=bind_ok h
 obtain ⟨ls,l4,h4,h⟩:=bind_ok h
 obtain ⟨rs,l5,h5,h⟩:=bind_ok h
 obtain ⟨_,_,q3⟩:=many_sz (P:=fun k:Knd=>∀ f∈Sc.flds k,(Sc.words f).length≤12) (B:=l2.length) (fun l a m _ h=>kind_okW h) _ _ _ _ _ (Nat.le_refl _) h3
 injection h with h6 h7
 subst h6
 intro k hk f hf
 have:=q3 (fun _ h=>by cases h) k hk f hf
 omega
end Sx
set_option maxRecDepth 100000 in
set_option maxHeartbeats 16000000 in
theorem rValid_sch (x:Sch) (us:List Value) (w:World) (h:Mem.rep [] w x us) (hz:Sx.Sz x) (hzw:Sx.SzW x):Calls Tryz.prog 47 #[.agg us.toArray] w fun e w'=>e=.returned (.int .i64 (Sx.valid x))∧Below w.heap.size w w':=by
 have h0:=h
 obtain ⟨A,c,B,d,C,e,rfl,s1,s2,s3,a1,b1,b2,b3,b4,b5,b6⟩:=rep_sch h
 have HZK:=aI hz.k
 have HZL:=aI hz.l
 have HZW:=aI hzw
 unfold Sx.SzW at HZW
 obtain ⟨v,kk,ll,rr⟩:=x
 have CSR:=aI (fun (W:World) (hb:Below w.heap.size w W) (hok:Sx.okB ((v,kk,ll,rr):Sch)=true)=>show Calls Tryz.prog 8 #[.agg #[.int .i64 v,.slice A kk.length c,.slice B ll.length d,.slice C rr.length e]] W _ from rsource_any ((v,kk,ll,rr):Sch) _ W (Mem.keep h0 (Chg.of_below hb)) hok)
 obtain ⟨S,hS⟩:∃ s,Sx.source ((v,kk,ll,rr):Sch)=s:=⟨_,rfl⟩
 have HV:=aI (show Sx.valid ((v,kk,ll,rr):Sch)=if Sx.okB ((v,kk,ll,rr):Sch)=true then (if 8192 < S.length then 4 else 0) else 1 by unfold Sx.valid;rw [hS])
 have hSl:=aI (show Sx.okB ((v,kk,ll,rr):Sch)=true→S.length≤1000000 from fun h=>by rw [← hS];exact Sx.source_le (Sx.okB_bd h))
 rw [hS] at CSR
 obtain ⟨d9,hd9⟩:∃ d:ByteArray,(⟨S.toArray⟩:ByteArray)=d:=⟨_,rfl⟩
 rw [hd9] at CSR
 have hds:d9.size=S.length:=by rw [← hd9];show S.toArray.size=_;rw [List.size_toArray]
 have C1:=rWithin_any v 0 1048576
 obtain ⟨q1,h1⟩:∃ b,Sx.within v 0 1048576=b:=⟨_,rfl⟩
 rw [h1] at C1
 replace C1:=aI C1
 show Calls Tryz.prog 47 #[.agg #[.int .i64 v,.slice A kk.length c,.slice B ll.length d,.slice C rr.length e]] w _
 obtain ⟨W1,hW1⟩:∃ X,w.alloc (.cells #[.int .i64 v,.slice A kk.length c,.slice B ll.length d,.slice C rr.length e] 28)=X:=⟨_,rfl⟩
 have HB:=aI (show Below w.heap.size w W1 by rw [← hW1];exact (Below.refl w.heap.size w).alloc (Nat.le_refl _) _)
 have hbk:Blk W1 w.heap.size 28 #[.int .i64 v,.slice A kk.length c,.slice B ll.length d,.slice C rr.length e]:=by rw [← hW1];exact Blk.new w _ _
 have HW1:=aI hW1
 have SK:=aI (SlAt.keep (show SlAt [] w A kk from s1) (Chg.of_below HB.out))
 have SL:=aI (SlAt.keep (show SlAt [] w B ll from s2) (Chg.of_below HB.out))
 have SR:=aI (SlAt.keep (show SlAt [] w C rr from s3) (Chg.of_below HB.out))
 have cl1:kk.length≤c:=b1
 have cl2:ll.length≤d:=b3
 have cl3:rr.length≤e:=b5
 obtain ⟨nk,hk⟩:∃ n,kk.length=n:=⟨_,rfl⟩
 obtain ⟨nl,hl⟩:∃ n,ll.length=n:=⟨_,rfl⟩
 obtain ⟨nr,hr⟩:∃ n,rr.length=n:=⟨_,rfl⟩
 have HNK:=aI hk;have HNL:=aI hl;have HNR:=aI hr
 have HOK:=aI (show Sx.okB ((v,kk,ll,rr):Sch)=(q1 && (decide (nk≤6) && (decide (nl≤6) && (decide (nr≤16) && (kk.all Sx.kndB && (ll.all Sx.lifB && rr.all Sx.rulB)))))) by rw [← h1,← hk,← hl,← hr];rfl)
 rw [hk,hl,hr] at hbk HW1 CSR
 rw [hk] at cl1;rw [hl] at cl2;rw [hr] at cl3
 rw [hk,hl,hr]
 obtain ⟨N,hN⟩:∃ n,w.heap.size=n:=⟨_,rfl⟩
 rw [hN] at hbk
 have HBK:=aI hbk
 have c0:=hbk.cell 0;have c1:=hbk.cell 1;have c2:=hbk.cell 2;have c3:=hbk.cell 3;simp at c0 c1 c2 c3
 have HZL2:=aI (show ∀ l∈ll,l.2.2.length≤1000000 from fun l hl=>(HZL.out l hl).2)
 have HZK2:=aI (show ∀ k∈kk,(Sc.flds k).length≤1000000∧∀ f∈Sc.flds k,(Sc.words f).length≤1000000∧(Sc.wts f).length≤1000000 from fun k hk=>⟨(HZK.out k hk).1,fun f hf=>⟨HZW.out k hk f hf,(HZK.out k hk).2 f hf⟩⟩)
 clear h h0 s1 s2 s3 a1 b1 b2 b3 b4 b5 b6 hk hl hr hbk hW1 h1 hS hz hzw hd9 HZL HZK HZW
 obtain ⟨okx,hokx⟩:∃ b,Sx.okB ((v,kk,ll,rr):Sch)=b:=⟨_,rfl⟩
 rw [hokx] at HOK CSR HV hSl
 clear hokx
 obtain ⟨vv,hvv⟩:∃ z,Sx.valid ((v,kk,ll,rr):Sch)=z:=⟨_,rfl⟩
 rw [hvv] at HV ⊢
 clear hvv
 have HK:=aI rIsKind_any
 have HL:=aI rIsLife_any
 have HR:=aI rIsRule_any
 have V1:=aI (show okx=false→vv=1 from fun h=>by rw [HV.out,h];rfl)
 go_enter Tryz.func47,Tryz.ntmps47
 go_upto_region 1 with fail
 rw [HW1.out]
 (try rw [hN])
 cases q1
 ·skip
  go_wp2_with (go_at_call 95;((with_reducible refine (C1.out _).mono ?_));rintro e w2 ⟨rfl,rfl⟩)
  go_ret
  exact ⟨by rw [V1.out (by rw [HOK.out];simp)];rfl,HB.out⟩
 by_cases gnk:nk≤6
 rotate_left
 ·have t1:(6:Int) < (nk:Int):=by omega
  have t2:decide ((6:Int) < (nk:Int))=true:=decide_eq_true (by omega)
  go_wp2_with (go_at_call 95;((with_reducible refine (C1.out _).mono ?_));rintro e w2 ⟨rfl,rfl⟩)
  go_ret
  exact ⟨by rw [V1.out (by rw [HOK.out,decide_eq_false gnk];simp)];rfl,HB.out⟩
 have t1nk:(nk:Int)≤(6:Int):=by omega
 have t2nk:decide ((6:Int) < (nk:Int))=false:=decide_eq_false (by omega)
 by_cases gnl:nl≤6
 rotate_left
 ·have t1:(6:Int) < (nl:Int):=by omega
  have t2:decide ((6:Int) < (nl:Int))=true:=decide_eq_true (by omega)
  go_wp2_with (go_at_call 95;((with_reducible refine (C1.out _).mono ?_));rintro e w2 ⟨rfl,rfl⟩)
  go_ret
  exact ⟨by rw [V1.out (by rw [HOK.out,decide_eq_false gnl];simp)];rfl,HB.out⟩
 have t1nl:(nl:Int)≤(6:Int):=by omega
 have t2nl:decide ((6:Int) < (nl:Int))=false:=decide_eq_false (by omega)
 by_cases gnr:nr≤16
 rotate_left
 ·have t1:(16:Int) < (nr:Int):=by omega
  have t2:decide ((16:Int) < (nr:Int))=true:=decide_eq_true (by omega)
  go_wp2_with (go_at_call 95;((with_reducible refine (C1.out _).mono ?_));rintro e w2 ⟨rfl,rfl⟩)
  go_ret
  exact ⟨by rw [V1.out (by rw [HOK.out,decide_eq_false gnr];simp)];rfl,HB.out⟩
 have t1nr:(nr:Int)≤(16:Int):=by omega
 have t2nr:decide ((16:Int) < (nr:Int))=false:=decide_eq_false (by omega)
 have HOK2:=aI (HOK.out.trans (show (true && (decide (nk≤6) && (decide (nl≤6) && (decide (nr≤16) && (kk.all Sx.kndB && (ll.all Sx.lifB && rr.all Sx.rulB))))))=(kk.all Sx.kndB && (ll.all Sx.lifB && rr.all Sx.rulB)) by rw [decide_eq_true gnk,decide_eq_true gnl,decide_eq_true gnr];rfl))
 clear HOK
 go_upto_region 4 with (go_at_call 95;((with_reducible refine (C1.out _).mono ?_));rintro e w2 ⟨rfl,rfl⟩)
 clear t1nk t2nk t1nl t2nl t1nr t2nr c0 c1 c2 c3
 go_loopg [3] nk (fun r i wr=>∃ k:Nat,k+r=nk∧i=.int .i64 k∧Below W1.heap.size W1 wr∧∀ j (hj:j < kk.length),j < k→Sx.kndB kk[j]=true)
 case atStart=>exact ⟨0,by omega,rfl,Below.refl _ _,fun _ _ h=>by omega⟩
 case round =>
  obtain ⟨k,hk,rfl,hb,hall⟩:=hrel
  obtain ⟨wo,rfl⟩:∃ wo:World,wo=wr:=⟨_,rfl⟩
  obtain ⟨gkK,rfl⟩:∃ g,g=gk:=⟨_,rfl⟩
  have HBK8:=aI hb
  have HA:=aI hall
  have hbk:=HBK.out.below hb HBK.out.lt
  have c0:=hbk.cell 0;have c1:=hbk.cell 1;have c2:=hbk.cell 2;have c3:=hbk.cell 3;simp at c0 c1 c2 c3
  clear hb hall hbk
  by_cases hlt:k < nk
  ·have hkp:k < kk.length:=by rw [HNK.out];exact hlt
   have k0:(0:Int)≤(k:Int):=Int.natCast_nonneg _
   have k1:(k:Int) < (nk:Int):=by omega
   obtain ⟨b,o,us,rfl,_,hr,hc⟩:=(SK.out.keep (Chg.of_below HBK8.out)).get k hkp
   have cv:=HK.out kk[k] us wo hr (HZK2.out _ (List.getElem_mem hkp)).1 (HZK2.out _ (List.getElem_mem hkp)).2
   obtain ⟨x,hx⟩:∃ x,kk[k]=x:=⟨_,rfl⟩
   rw [hx] at cv hr
   obtain ⟨A1,cA,rfl,p1,p2,p3,p4,p5,p6⟩:=rep_knd hr;clear p1 p2 p3 p4 p5 p6
   change Calls Tryz.prog 96 #[.agg #[.string x.1,.int .i64 x.2.1,.int .i64 x.2.2.1,.slice A1 (Sc.flds x).length cA]] wo _ at cv
   have d0:wo.cell? ⟨b,o+k*4,none⟩=some (.string x.1):=hc 0 _ rfl
   have d1:wo.cell? ⟨b,o+k*4+1,none⟩=some (.int .i64 x.2.1):=hc 1 _ rfl
   have d2:wo.cell? ⟨b,o+k*4+2,none⟩=some (.int .i64 x.2.2.1):=hc 2 _ rfl
   have d3:wo.cell? ⟨b,o+k*4+3,none⟩=some (.slice A1 (Sc.flds x).length cA):=hc 3 _ rfl
   obtain ⟨bb,hbb⟩:∃ b,Sx.kndB x=b:=⟨_,rfl⟩
   rw [hbb] at cv
   have CV:=aI cv
   have HX:=aI hx
   have HBB:=aI hbb
   clear cv hbb hr hc hx
   cases bb
   ·have HRK:=aI (all_bad (b:=Sx.kndB) hkp (by rw [HX.out];exact HBB.out))
    go_wp2_with (go_at_call 96;((with_reducible refine (CV.out).mono ?_));rintro e w2 ⟨rfl,hb2⟩;replace HBK8:=aI (HBK8.out.trans (hb2.mono HBK8.out.size));clear hb2)
    go_ret
    exact ⟨by rw [V1.out (by rw [HOK2.out,HRK.out];rfl)];rfl,HB.out.trans (HBK8.out.mono HB.out.size)⟩
   ·go_wp2_with (go_at_call 96;((with_reducible refine (CV.out).mono ?_));rintro e w2 ⟨rfl,hb2⟩;replace HBK8:=aI (HBK8.out.trans (hb2.mono HBK8.out.size));clear hb2)
    go_roundg (gkK - 1)
    case measure=>omega
    case rel =>
     refine ⟨k+1,by omega,by go_num,HBK8.out,fun q hq hlt=>?_⟩
     rcases Nat.lt_or_ge q k with h' | h'
     ·exact HA.out q hq h'
     ·obtain rfl:q=k:=by omega
      rw [HX.out];exact HBB.out
  ·have HGK:=aI (all_good (b:=Sx.kndB) fun q hq=>HA.out q hq (by rw [HNK.out] at hq;omega))
   have k1:¬ (k:Int) < (nk:Int):=by omega
   clear HA
   go_upto_region 9 with fail
   clear k1 c0 c1 c2 c3
   go_loopg [4] nl (fun r i wr=>∃ k:Nat,k+r=nl∧i=.int .i64 k∧Below W1.heap.size W1 wr∧∀ j (hj:j < ll.length),j < k→Sx.lifB ll[j]=true)
   case atStart=>exact ⟨0,by omega,rfl,HBK8.out,fun _ _ h=>by omega⟩
   case round =>
    obtain ⟨k,hk,rfl,hb,hall⟩:=hrel
    obtain ⟨wo,rfl⟩:∃ wo:World,wo=wr:=⟨_,rfl⟩
    obtain ⟨gkL,rfl⟩:∃ g,g=gk:=⟨_,rfl⟩
    have HBL:=aI hb
    have HA:=aI hall
    have hbk:=HBK.out.below hb HBK.out.lt
    have c0:=hbk.cell 0;have c1:=hbk.cell 1;have c2:=hbk.cell 2;have c3:=hbk.cell 3;simp at c0 c1 c2 c3
    clear hb hall hbk
    by_cases hlt:k < nl
    ·have hkp:k < ll.length:=by rw [HNL.out];exact hlt
     have k0:(0:Int)≤(k:Int):=Int.natCast_nonneg _
     have k1:(k:Int) < (nl:Int):=by omega
     obtain ⟨b,o,us,rfl,_,hr,hc⟩:=(SL.out.keep (Chg.of_below HBL.out)).get k hkp
     have cv:=HL.out ll[k] us wo hr (HZL2.out _ (List.getElem_mem hkp))
     obtain ⟨x,hx⟩:∃ x,ll[k]=x:=⟨_,rfl⟩
     rw [hx] at cv hr
     obtain ⟨A1,cA,B1,dB,rfl,p1,p2,p3,p4,p5,p6,p7⟩:=rep_lif hr;clear p1 p2 p3 p4 p5 p6 p7
     change Calls Tryz.prog 97 #[.agg #[.string x.1,.slice A1 x.2.1.length cA,.slice B1 x.2.2.length dB]] wo _ at cv
     have d0:wo.cell? ⟨b,o+k*3,none⟩=some (.string x.1):=hc 0 _ rfl
     have d1:wo.cell? ⟨b,o+k*3+1,none⟩=some (.slice A1 x.2.1.length cA):=hc 1 _ rfl
     have d2:wo.cell? ⟨b,o+k*3+2,none⟩=some (.slice B1 x.2.2.length dB):=hc 2 _ rfl
     obtain ⟨bb,hbb⟩:∃ b,Sx.lifB x=b:=⟨_,rfl⟩
     rw [hbb] at cv
     have CV:=aI cv
     have HX:=aI hx
     have HBB:=aI hbb
     clear cv hbb hr hc hx
     cases bb
     ·have HRK:=aI (all_bad (b:=Sx.lifB) hkp (by rw [HX.out];exact HBB.out))
      go_wp2_with (go_at_call 97;((with_reducible refine (CV.out).mono ?_));rintro e w2 ⟨rfl,hb2⟩;replace HBL:=aI (HBL.out.trans (hb2.mono HBL.out.size));clear hb2)
      go_ret
      exact ⟨by rw [V1.out (by rw [HOK2.out,HGK.out,HRK.out];rfl)];rfl,HB.out.trans (HBL.out.mono HB.out.size)⟩
     ·go_wp2_with (go_at_call 97;((with_reducible refine (CV.out).mono ?_));rintro e w2 ⟨rfl,hb2⟩;replace HBL:=aI (HBL.out.trans (hb2.mono HBL.out.size));clear hb2)
      go_roundg (gkL - 1)
      case measure=>omega
      case rel =>
       refine ⟨k+1,by omega,by go_num,HBL.out,fun q hq hlt=>?_⟩
       rcases Nat.lt_or_ge q k with h' | h'
       ·exact HA.out q hq h'
       ·obtain rfl:q=k:=by omega
        rw [HX.out];exact HBB.out
    ·have HGL:=aI (all_good (b:=Sx.lifB) fun q hq=>HA.out q hq (by rw [HNL.out] at hq;omega))
     have k1:¬ (k:Int) < (nl:Int):=by omega
     clear HA
     go_upto_region 14 with fail
     clear k1 c0 c1 c2 c3
     go_loopg [5] nr (fun r i wr=>∃ k:Nat,k+r=nr∧i=.int .i64 k∧Below W1.heap.size W1 wr∧∀ j (hj:j < rr.length),j < k→Sx.rulB rr[j]=true)
     case atStart=>exact ⟨0,by omega,rfl,HBL.out,fun _ _ h=>by omega⟩
     case round =>
      obtain ⟨k,hk,rfl,hb,hall⟩:=hrel
      obtain ⟨wo,rfl⟩:∃ wo:World,wo=wr:=⟨_,rfl⟩
      obtain ⟨gkR,rfl⟩:∃ g,g=gk:=⟨_,rfl⟩
      have HBR:=aI hb
      have HA:=aI hall
      have hbk:=HBK.out.below hb HBK.out.lt
      have c0:=hbk.cell 0;have c1:=hbk.cell 1;have c2:=hbk.cell 2;have c3:=hbk.cell 3;simp at c0 c1 c2 c3
      clear hb hall hbk
      by_cases hlt:k < nr
      ·have hkp:k < rr.length:=by rw [HNR.out];exact hlt
       have k0:(0:Int)≤(k:Int):=Int.natCast_nonneg _
       have k1:(k:Int) < (nr:Int):=by omega
       obtain ⟨b,o,us,rfl,_,hr,hc⟩:=(SR.out.keep (Chg.of_below HBR.out)).get k hkp
       have cv:=HR.out rr[k] us wo hr
       obtain ⟨x,hx⟩:∃ x,rr[k]=x:=⟨_,rfl⟩
       rw [hx] at cv hr
       obtain ⟨rfl,p1,p2,p3,p4,p5⟩:=rep_rul hr;clear p1 p2 p3 p4 p5
       change Calls Tryz.prog 98 #[.agg #[.string x.1,.string x.2.1,.string x.2.2.1,.string x.2.2.2.1,.int .i64 x.2.2.2.2]] wo _ at cv
       have d0:wo.cell? ⟨b,o+k*5,none⟩=some (.string x.1):=hc 0 _ rfl
       have d1:wo.cell? ⟨b,o+k*5+1,none⟩=some (.string x.2.1):=hc 1 _ rfl
       have d2:wo.cell? ⟨b,o+k*5+2,none⟩=some (.string x.2.2.1):=hc 2 _ rfl
       have d3:wo.cell? ⟨b,o+k*5+3,none⟩=some (.string x.2.2.2.1):=hc 3 _ rfl
       have d4:wo.cell? ⟨b,o+k*5+4,none⟩=some (.int .i64 x.2.2.2.2):=hc 4 _ rfl
       obtain ⟨bb,hbb⟩:∃ b,Sx.rulB x=b:=⟨_,rfl⟩
       rw [hbb] at cv
       have CV:=aI cv
       have HX:=aI hx
       have HBB:=aI hbb
       clear cv hbb hr hc hx
       cases bb
       ·have HRK:=aI (all_bad (b:=Sx.rulB) hkp (by rw [HX.out];exact HBB.out))
        go_wp2_with (go_at_call 98;((with_reducible refine (CV.out).mono ?_));rintro e w2 ⟨rfl,hb2⟩;replace HBR:=aI (HBR.out.trans (hb2.mono HBR.out.size));clear hb2)
        go_ret
        exact ⟨by rw [V1.out (by rw [HOK2.out,HGK.out,HGL.out,HRK.out];rfl)];rfl,HB.out.trans (HBR.out.mono HB.out.size)⟩
       ·go_wp2_with (go_at_call 98;((with_reducible refine (CV.out).mono ?_));rintro e w2 ⟨rfl,hb2⟩;replace HBR:=aI (HBR.out.trans (hb2.mono HBR.out.size));clear hb2)
        go_roundg (gkR - 1)
        case measure=>omega
        case rel =>
         refine ⟨k+1,by omega,by go_num,HBR.out,fun q hq hlt=>?_⟩
         rcases Nat.lt_or_ge q k with h' | h'
         ·exact HA.out q hq h'
         ·obtain rfl:q=k:=by omega
          rw [HX.out];exact HBB.out
      ·have HGR:=aI (all_good (b:=Sx.rulB) fun q hq=>HA.out q hq (by rw [HNR.out] at hq;omega))
       have k1:¬ (k:Int) < (nr:Int):=by omega
       clear HA
       have hok:okx=true:=by rw [HOK2.out,HGK.out,HGL.out,HGR.out];rfl
       have hSl2:=hSl.out hok
       have CS9:=aI (CSR.out wo (HB.out.trans (HBR.out.mono HB.out.size)) hok)
       have HVV:=aI (HV.out.trans (if_pos hok))
       clear hok
       by_cases hl:8192 < S.length
       ·have t3:(8192:Int) < (d9.size:Int):=by omega
        have t4:decide (8192 < d9.size)=true:=decide_eq_true (by omega)
        go_wp2_with (go_at_call 8;((with_reducible refine (CS9.out).mono ?_));rintro e w2 ⟨rfl,hb2⟩;have HB9:=aI ((HB.out.trans (HBR.out.mono HB.out.size)).trans (hb2.mono (HB.out.trans (HBR.out.mono HB.out.size)).size));clear hb2)
        go_ret
        exact ⟨by rw [HVV.out,if_pos hl];rfl,HB9.out⟩
       ·have t3:(d9.size:Int)≤(8192:Int):=by omega
        have t4:decide (8192 < d9.size)=false:=decide_eq_false (by omega)
        go_wp2_with (go_at_call 8;((with_reducible refine (CS9.out).mono ?_));rintro e w2 ⟨rfl,hb2⟩;have HB9:=aI ((HB.out.trans (HBR.out.mono HB.out.size)).trans (hb2.mono (HB.out.trans (HBR.out.mono HB.out.size)).size));clear hb2)
        go_ret
        exact ⟨by rw [HVV.out,if_neg hl];rfl,HB9.out⟩
end Go.Proofs.YtmplaikgbeeikaaGreatDoor
