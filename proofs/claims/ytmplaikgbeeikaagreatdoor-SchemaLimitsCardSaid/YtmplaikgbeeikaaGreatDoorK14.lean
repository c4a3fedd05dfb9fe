/- Parts of the proof, joined: SxV5. -/
import Derived.Test.YtmplaikgbeeikaaGreatDoorK3
import Derived.Test.YtmplaikgbeeikaaGreatDoorK4
import Derived.Test.YtmplaikgbeeikaaGreatDoorK6
import Derived.Deep.LoopGhost
set_option linter.unusedVariables false
set_option linter.unusedSimpArgs false
set_option linter.unusedSectionVars false
namespace Go.Proofs.YtmplaikgbeeikaaGreatDoor
open Go Go.RowKit
theorem em_add (a b:ByteArray):Sx.em (a++b)=(Sx.em a && Sx.em b):=by
 unfold Sx.em
 rw [ByteArray.size_append,Bool.eq_iff_iff]
 simp
set_option maxRecDepth 100000 in
set_option maxHeartbeats 8000000 in
theorem isRule_any (x:Rul) (us:List Value) (w:World) (h:Mem.rep [] w x us) (hp:x.2.2.1.size+x.2.2.2.1.size≤9223372036854775807):Calls Tryz.prog 58 #[.agg us.toArray] w (BoolP (Sx.rulB x) w):=by
 obtain ⟨rfl,a1,a2,a3,a4,a5⟩:=rep_rul h
 have C1:=aI (fun w=>isName_any x.1 w a1)
 have C2:=aI (fun w=>isName_any x.2.1 w a2)
 have C3:=aI (fun w=>isName_any x.2.2.1 w a3)
 have C4:=aI (fun w=>isName_any x.2.2.2.1 w a4)
 have C6:=aI (within_any x.2.2.2.2 (-1048576) 1048576)
 obtain ⟨y1,y2,y3⟩:=em_spell x.2.2.1
 obtain ⟨y4,y5,y6⟩:=em_spell x.2.2.2.1
 obtain ⟨y7,y8,y9⟩:=em_spell (x.2.2.1++x.2.2.2.1)
 have hadd:Sx.em (x.2.2.1++x.2.2.2.1)=(Sx.em x.2.2.1 && Sx.em x.2.2.2.1):=em_add _ _
 rw [hadd] at y7 y8 y9
 clear hadd
 obtain ⟨W1,hW1⟩:∃ X,w.alloc (.cells #[.string x.1,.string x.2.1,.string x.2.2.1,.string x.2.2.2.1,.int .i64 x.2.2.2.2] 58)=X:=⟨_,rfl⟩
 have HB:=aI (show Below w.heap.size w W1 by rw [← hW1];exact (Below.refl w.heap.size w).alloc (Nat.le_refl _) _)
 have HB1:=aI (Below.refl W1.heap.size W1)
 have hbk:Blk W1 w.heap.size 58 #[.string x.1,.string x.2.1,.string x.2.2.1,.string x.2.2.2.1,.int .i64 x.2.2.2.2]:=by rw [← hW1];exact Blk.new w _ _
 obtain ⟨N,hN⟩:∃ n,w.heap.size=n:=⟨_,rfl⟩
 rw [hN] at hbk
 have HBQ:=aI hbk
 have c0:=hbk.cell 0;have c1:=hbk.cell 1;have c2:=hbk.cell 2;have c3:=hbk.cell 3;have c4:=hbk.cell 4
 simp at c0 c1 c2 c3 c4
 have HW1:=aI hW1
 show Calls Tryz.prog 58 #[.agg #[.string x.1,.string x.2.1,.string x.2.2.1,.string x.2.2.2.1,.int .i64 x.2.2.2.2]] w _
 obtain ⟨q1,hq1⟩:∃ b,Sx.nm x.1=b:=⟨_,rfl⟩
 rw [hq1] at C1
 obtain ⟨q2,hq2⟩:∃ b,Sx.nm x.2.1=b:=⟨_,rfl⟩
 rw [hq2] at C2
 obtain ⟨q3,hq3⟩:∃ b,Sx.em x.2.2.1=b:=⟨_,rfl⟩
 rw [hq3] at y1 y2 y3 y7 y8 y9
 obtain ⟨q4,hq4⟩:∃ b,Sx.nm x.2.2.1=b:=⟨_,rfl⟩
 rw [hq4] at C3
 obtain ⟨q5,hq5⟩:∃ b,Sx.em x.2.2.2.1=b:=⟨_,rfl⟩
 rw [hq5] at y4 y5 y6 y7 y8 y9
 obtain ⟨q6,hq6⟩:∃ b,Sx.nm x.2.2.2.1=b:=⟨_,rfl⟩
 rw [hq6] at C4
 obtain ⟨q7,hq7⟩:∃ b,Sx.within x.2.2.2.2 (-Sx.most) Sx.most=b:=⟨_,rfl⟩
 rw [show Sx.within x.2.2.2.2 (-1048576) 1048576=q7 from hq7] at C6
 have HF:=aI (show Sx.rulB x=(q1 && (q2 && ((q3 || q4) && ((q5 || q6) && (!(q3 && q5) && q7))))) by unfold Sx.rulB;rw [hq1,hq2,hq3,hq4,hq5,hq6,hq7])
 clear h hbk hW1 a1 a2 a3 a4 a5 hq1 hq2 hq3 hq4 hq5 hq6 hq7
 generalize Sx.rulB x=fb at *
 generalize x.1=s1 at *
 generalize x.2.1=s2 at *
 generalize x.2.2.1=s3 at *
 generalize x.2.2.2.1=s4 at *
 generalize x.2.2.2.2=nn at *
 go_enter Tryz.func58,Tryz.ntmps58
 go_upto_region 1 with fail
 rw [HW1.out]
 cases q1 <;> cases q2 <;> cases q3 <;> cases q4 <;> cases q5 <;> cases q6 <;> (go_wp2_with (first | (go_at_call 110;((with_reducible refine (C1.out _).mono ?_));rintro e w2 ⟨rfl,hb2⟩;have HB1:=aI (HB1.out.trans (hb2.mono HB1.out.size));have hbk:=HBQ.out.below hb2 HBQ.out.lt;have HBQ:=aI hbk;have c0:=hbk.cell 0;have c1:=hbk.cell 1;have c2:=hbk.cell 2;have c3:=hbk.cell 3;have c4:=hbk.cell 4;simp at c0 c1 c2 c3 c4;clear hbk hb2) | (go_at_call 110;((with_reducible refine (C2.out _).mono ?_));rintro e w2 ⟨rfl,hb2⟩;have HB1:=aI (HB1.out.trans (hb2.mono HB1.out.size));have hbk:=HBQ.out.below hb2 HBQ.out.lt;have HBQ:=aI hbk;have c0:=hbk.cell 0;have c1:=hbk.cell 1;have c2:=hbk.cell 2;have c3:=hbk.cell 3;have c4:=hbk.cell 4;simp at c0 c1 c2 c3 c4;clear hbk hb2) | (go_at_call 110;((with_reducible refine (C3.out _).mono ?_));rintro e w2 ⟨rfl,hb2⟩;have HB1:=aI (HB1.out.trans (hb2.mono HB1.out.size));have hbk:=HBQ.out.below hb2 HBQ.out.lt;have HBQ:=aI hbk;have c0:=hbk.cell 0;have c1:=hbk.cell 1;have c2:=hbk.cell 2;have c3:=hbk.cell 3;have c4:=hbk.cell 4;simp at c0 c1 c2 c3 c4;clear hbk hb2) | (go_at_call 110;((with_reducible refine (C4.out _).mono ?_));rintro e w2 ⟨rfl,hb2⟩;have HB1:=aI (HB1.out.trans (hb2.mono HB1.out.size));have hbk:=HBQ.out.below hb2 HBQ.out.lt;have HBQ:=aI hbk;have c0:=hbk.cell 0;have c1:=hbk.cell 1;have c2:=hbk.cell 2;have c3:=hbk.cell 3;have c4:=hbk.cell 4;simp at c0 c1 c2 c3 c4;clear hbk hb2) | (go_at_call 52;((with_reducible refine (C6.out _).mono ?_));rintro e w2 ⟨rfl,rfl⟩));go_ret;exact ⟨by rw [HF.out];first | rfl | (cases q7 <;> rfl),HB.out.trans (HB1.out.mono HB.out.size)⟩)
def rtR:Value:=.func (.func 58) #[] #[]
def oneR (g:Nat):Value:=.func (.func 120) #[] #[.pointer (some ⟨g,0,none⟩)]
set_option maxRecDepth 100000 in
set_option maxHeartbeats 4000000 in
theorem oneR_any (x:Rul) (us:List Value) (g:Nat) (w:World) (hr:Mem.rep [] w x us) (hp:x.2.2.1.size+x.2.2.2.1.size≤9223372036854775807) (hg:w.cell? ⟨g,0,none⟩=some rtR) :
  Calls Tryz.prog 120 #[.agg us.toArray,.pointer (some ⟨g,0,none⟩)] w (BoolP (!Sx.rulB x) w):=by
 have hr0:=hr
 obtain ⟨rfl,q1,q2,q3,q4,q5⟩:=rep_rul hr
 clear q1 q2 q3 q4 q5
 show Calls Tryz.prog 120 #[.agg #[.string x.1,.string x.2.1,.string x.2.2.1,.string x.2.2.2.1,.int .i64 x.2.2.2.2],.pointer (some ⟨g,0,none⟩)] w (BoolP (!Sx.rulB x) w)
 have hB1:Below w.heap.size w (w.alloc (.cells #[.string x.1,.string x.2.1,.string x.2.2.1,.string x.2.2.2.1,.int .i64 x.2.2.2.2] 58)):=(Below.refl w.heap.size w).alloc (Nat.le_refl _) _
 have hg1:(w.alloc (.cells #[.string x.1,.string x.2.1,.string x.2.2.1,.string x.2.2.2.1,.int .i64 x.2.2.2.2] 58)).cell? ⟨g,0,none⟩=some rtR:=(hB1.cell (World.block_lt_of_cell? _ _ hg)).trans hg
 have hr9:=Mem.keep hr0 (Chg.of_below (G:=[]) hB1)
 have HC:=aI (isRule_any x _ (w.alloc (.cells #[.string x.1,.string x.2.1,.string x.2.2.1,.string x.2.2.2.1,.int .i64 x.2.2.2.2] 58)) hr9 hp)
 obtain ⟨r,hrr⟩:∃ r,Sx.rulB x=r:=⟨_,rfl⟩
 rw [hrr] at HC ⊢
 have HB1:=aI hB1
 unfold rtR at hg1
 clear hrr hr0 hr9 hp hg hB1
 go_enter Tryz.func120,Tryz.ntmps120
 go_wp2_with (go_at_call 58;((with_reducible refine (HC.out).mono ?_));rintro e w2 ⟨rfl,hb2⟩;have HB:=aI (HB1.out.trans (hb2.mono HB1.out.size));clear hb2)
 go_ret
 exact ⟨by cases r <;> rfl,HB.out⟩
set_option maxRecDepth 100000 in
set_option maxHeartbeats 4000000 in
theorem idxR_any (l:List (Rul)) (A:Option Addr) (c g:Nat) (W:World) (hs:SlAt [] W A l) (hm:l.length≤9223372036854775807) (hp:∀ x∈l,x.2.2.1.size+x.2.2.2.1.size≤9223372036854775807) (hg:W.cell? ⟨g,0,none⟩=some rtR) :
  Calls Tryz.prog 150 #[.slice A l.length c,oneR g] W (PredP (!l.all Sx.rulB) W):=by
 obtain ⟨n,hn⟩:∃ n,l.length=n:=⟨_,rfl⟩
 have HS:=aI hs
 have HN:=aI hn
 have HP:=aI hp
 have HG:=aI hg
 rw [hn]
 rw [hn] at hm
 have HV:=aI (oneR_any)
 unfold oneR
 clear hs hn hp hg
 go_enter Tryz.func150,Tryz.ntmps150
 go_wp2_with fail
 go_loopg [8] n (fun r i wr=>∃ k:Nat,k+r=n∧i=.int .i64 k∧Below W.heap.size W wr∧∀ j (hj:j < l.length),j < k→Sx.rulB l[j]=true)
 case atStart=>exact ⟨0,by omega,rfl,Below.refl _ _,fun _ _ h=>by omega⟩
 case round =>
  obtain ⟨k,hk,rfl,hb,hall⟩:=hrel
  obtain ⟨wo,rfl⟩:∃ wo:World,wo=wr:=⟨_,rfl⟩
  have HB:=aI hb
  have HA:=aI hall
  clear hb hall
  by_cases hlt:k < n
  ·have hkp:k < l.length:=by rw [HN.out];exact hlt
   have k0:(0:Int)≤(k:Int):=Int.natCast_nonneg _
   have k1:(k:Int) < (n:Int):=by omega
   obtain ⟨b,o,us,rfl,_,hr,hc⟩:=(HS.out.keep (Chg.of_below HB.out)).get k hkp
   have cv:=HV.out l[k] us g wo hr (HP.out _ (List.getElem_mem hkp)) ((HB.out.cell (World.block_lt_of_cell? _ _ HG.out)).trans HG.out)
   obtain ⟨x,hx⟩:∃ x,l[k]=x:=⟨_,rfl⟩
   rw [hx] at cv hr
   have hr0:=hr
   obtain ⟨rfl,q1,q2,q3,q4,q5⟩:=rep_rul hr
   clear q1 q2 q3 q4 q5
   change Calls Tryz.prog 120 #[.agg #[.string x.1,.string x.2.1,.string x.2.2.1,.string x.2.2.2.1,.int .i64 x.2.2.2.2],.pointer (some ⟨g,0,none⟩)] wo _ at cv
   have c0:wo.cell? ⟨b,o+k*5,none⟩=some (.string x.1):=hc 0 _ rfl
   have c1:wo.cell? ⟨b,o+k*5+1,none⟩=some (.string x.2.1):=hc 1 _ rfl
   have c2:wo.cell? ⟨b,o+k*5+2,none⟩=some (.string x.2.2.1):=hc 2 _ rfl
   have c3:wo.cell? ⟨b,o+k*5+3,none⟩=some (.string x.2.2.2.1):=hc 3 _ rfl
   have c4:wo.cell? ⟨b,o+k*5+4,none⟩=some (.int .i64 x.2.2.2.2):=hc 4 _ rfl
   obtain ⟨bb,hbb⟩:∃ b,Sx.rulB x=b:=⟨_,rfl⟩
   rw [hbb] at cv
   have CV:=aI cv
   have HX:=aI hx
   have HBB:=aI hbb
   clear cv hbb hr0 hc hx
   cases bb
   ·have HR:=aI (all_bad (b:=Sx.rulB) hkp (by rw [HX.out];exact HBB.out))
    go_wp2_with (go_at_call 120;((with_reducible refine (CV.out).mono ?_));rintro e w2 ⟨rfl,hb2⟩;replace HB:=aI (HB.out.trans (hb2.mono HB.out.size));clear hb2)
    go_ret
    exact ⟨_,rfl,by rw [HR.out];simp,HB.out⟩
   ·go_wp2_with (go_at_call 120;((with_reducible refine (CV.out).mono ?_));rintro e w2 ⟨rfl,hb2⟩;replace HB:=aI (HB.out.trans (hb2.mono HB.out.size));clear hb2)
    go_roundg (gk - 1)
    case measure=>omega
    case rel =>
     refine ⟨k+1,by omega,by go_num,HB.out,fun q hq hlt=>?_⟩
     rcases Nat.lt_or_ge q k with h' | h'
     ·exact HA.out q hq h'
     ·obtain rfl:q=k:=by omega
      rw [HX.out];exact HBB.out
  ·have HR:=aI (all_good (b:=Sx.rulB) fun q hq=>HA.out q hq (by rw [HN.out] at hq;omega))
   have k1:¬ (k:Int) < (n:Int):=by omega
   go_wp2_with fail
   go_ret
   exact ⟨_,rfl,by rw [HR.out];rfl,HB.out⟩
set_option maxHeartbeats 1000000 in
theorem conR_any (l:List (Rul)) (A:Option Addr) (c g:Nat) (W:World) (hs:SlAt [] W A l) (hm:l.length≤9223372036854775807) (hp:∀ x∈l,x.2.2.1.size+x.2.2.2.1.size≤9223372036854775807) (hg:W.cell? ⟨g,0,none⟩=some rtR) :
  Calls Tryz.prog 119 #[.slice A l.length c,oneR g] W (BoolP (!l.all Sx.rulB) W):=by
 have CI:=aI (idxR_any l A c g W hs hm hp hg)
 obtain ⟨n,hn⟩:∃ n,l.length=n:=⟨_,rfl⟩
 rw [hn] at CI ⊢
 clear hs hm hn hp hg
 generalize oneR g=F at *
 go_enter Tryz.func119,Tryz.ntmps119
 go_wp2_with (go_at_call 150;((with_reducible refine (CI.out).mono ?_));rintro e w2 ⟨r,rfl,hr,hb2⟩;have HB:=aI hb2;have HR:=aI hr;clear hb2 hr)
 go_ret
 exact ⟨by rw [← HR.out];rfl,HB.out⟩
set_option maxHeartbeats 1000000 in
theorem allR_any (l:List (Rul)) (A:Option Addr) (c:Nat) (w:World) (hs:SlAt [] w A l) (hm:l.length≤9223372036854775807) (hp:∀ x∈l,x.2.2.1.size+x.2.2.2.1.size≤9223372036854775807) :
  Calls Tryz.prog 57 #[.slice A l.length c,rtR] w (BoolP (l.all Sx.rulB) w):=by
 have hB1:Below w.heap.size w (w.alloc (.cells #[rtR] 105)):=(Below.refl w.heap.size w).alloc (Nat.le_refl _) _
 have CC:=aI (conR_any l A c w.heap.size (w.alloc (.cells #[rtR] 105)) (hs.keep (Chg.of_below hB1)) hm hp (cell_box1 w _ _))
 obtain ⟨n,hn⟩:∃ n,l.length=n:=⟨_,rfl⟩
 rw [hn] at CC ⊢
 generalize l.all Sx.rulB=r at *
 unfold rtR at CC hB1 ⊢
 unfold oneR at CC
 have HB1:=aI hB1
 clear hs hm hn hp hB1
 go_enter Tryz.func57,Tryz.ntmps57
 go_wp2_with (go_at_call 119;((with_reducible refine (CC.out).mono ?_));rintro e w2 ⟨rfl,hb2⟩;have HB:=aI (HB1.out.trans (hb2.mono HB1.out.size));clear hb2)
 go_ret
 exact ⟨by cases r <;> rfl,HB.out⟩
end Go.Proofs.YtmplaikgbeeikaaGreatDoor
