/- Parts of the proof, joined: SxV4, SxV4a, SxV4b. -/
import Derived.Test.YtmplaikgbeeikaaGreatDoorK3
import Derived.Test.YtmplaikgbeeikaaGreatDoorK4
import Derived.Test.YtmplaikgbeeikaaGreatDoorK6
import Derived.Deep.LoopGhost
set_option linter.unusedVariables false
set_option linter.unusedSimpArgs false
set_option linter.unusedSectionVars false
namespace Go.Proofs.YtmplaikgbeeikaaGreatDoor
open Go Go.RowKit
def Sx.mvB (n:Int) (m:Int × Int):Bool:=Sx.within m.1 0 (n - 1) && Sx.within m.2 0 (n - 1)
set_option maxRecDepth 100000 in
set_option maxHeartbeats 4000000 in
theorem isLife1_any (x:Int × Int) (gn:Nat) (n9:Int) (w:World) (hp:0≤n9∧n9≤9223372036854775807) (hq:w.cell? ⟨gn,0,none⟩=some (.int .i64 n9)):Calls Tryz.prog 118 #[.agg #[.int .i64 x.1,.int .i64 x.2],.pointer (some ⟨gn,0,none⟩)] w (BoolP (Sx.mvB n9 x) w):=by
 obtain ⟨a,b⟩:=x
 obtain ⟨n8,hn8⟩:∃ z,n9 - 1=z:=⟨_,rfl⟩
 have hw:IntKind.i64.wrap (n9 - 1)=n8:=by rw [← hn8];exact wrapI (by unfold inI;omega)
 have C1:=aI (within_any a 0 n8)
 have C2:=aI (within_any b 0 n8)
 obtain ⟨q1,h1⟩:∃ z,Sx.within a 0 n8=z:=⟨_,rfl⟩
 obtain ⟨q2,h2⟩:∃ z,Sx.within b 0 n8=z:=⟨_,rfl⟩
 rw [h1] at C1
 rw [h2] at C2
 have HF:=aI (show Sx.mvB n9 (a,b)=(q1 && q2) by unfold Sx.mvB;rw [hn8,h1,h2])
 have hlt:=World.block_lt_of_cell? _ _ hq
 have hB:Below w.heap.size w (w.alloc (.cells #[.int .i64 a,.int .i64 b] 56)):=(Below.refl w.heap.size w).alloc (Nat.le_refl _) _
 have hq2:=(hB.cell hlt).trans hq
 obtain ⟨W1,hW1⟩:∃ X,w.alloc (.cells #[.int .i64 a,.int .i64 b] 56)=X:=⟨_,rfl⟩
 have hbk:Blk W1 w.heap.size 56 #[.int .i64 a,.int .i64 b]:=by rw [← hW1];exact Blk.new w _ _
 rw [hW1] at hB hq2
 have c0:=hbk.cell 0
 have c1:=hbk.cell 1
 simp at c0 c1
 have HB:=aI hB
 have HW1:=aI hW1
 clear hbk hW1 hB hq hp hn8 h1 h2 hlt
 generalize Sx.mvB n9 (a,b)=fb at *
 go_enter Tryz.func118,Tryz.ntmps118
 go_upto_region 1 with fail
 rw [HW1.out]
 cases q1 <;> (go_wp2_with (first | (go_at_call 52;((with_reducible refine (C1.out _).mono ?_));rintro e w2 ⟨rfl,rfl⟩) | (go_at_call 52;((with_reducible refine (C2.out _).mono ?_));rintro e w2 ⟨rfl,rfl⟩));go_ret;exact ⟨by rw [HF.out];first | rfl | (cases q2 <;> rfl),HB.out⟩)
def rtM (gn:Nat):Value:=.func (.func 118) #[] #[.pointer (some ⟨gn,0,none⟩)]
def oneM (g:Nat):Value:=.func (.func 149) #[] #[.pointer (some ⟨g,0,none⟩)]
set_option maxRecDepth 100000 in
set_option maxHeartbeats 4000000 in
theorem oneM_any (gn:Nat) (n9:Int) (x:Int × Int) (us:List Value) (g:Nat) (w:World) (hr:Mem.rep [] w x us) (hp:0≤n9∧n9≤9223372036854775807) (hg:w.cell? ⟨g,0,none⟩=some (rtM gn)) (hq:w.cell? ⟨gn,0,none⟩=some (.int .i64 n9)) :
  Calls Tryz.prog 149 #[.agg us.toArray,.pointer (some ⟨g,0,none⟩)] w (BoolP (!(Sx.mvB n9) x) w):=by
 have hr0:=hr
 obtain ⟨rfl,q1,q2⟩:=rep_mv hr
 clear q1 q2
 show Calls Tryz.prog 149 #[.agg #[.int .i64 x.1,.int .i64 x.2],.pointer (some ⟨g,0,none⟩)] w (BoolP (!(Sx.mvB n9) x) w)
 have hB1:Below w.heap.size w (w.alloc (.cells #[.int .i64 x.1,.int .i64 x.2] 56)):=(Below.refl w.heap.size w).alloc (Nat.le_refl _) _
 have hg1:(w.alloc (.cells #[.int .i64 x.1,.int .i64 x.2] 56)).cell? ⟨g,0,none⟩=some (rtM gn):=(hB1.cell (World.block_lt_of_cell? _ _ hg)).trans hg
 have hr9:=Mem.keep hr0 (Chg.of_below (G:=[]) hB1)
 have hq1:=(hB1.cell (World.block_lt_of_cell? _ _ hq)).trans hq
 have HC:=aI (isLife1_any x gn n9 (w.alloc (.cells #[.int .i64 x.1,.int .i64 x.2] 56)) hp hq1)
 obtain ⟨r,hrr⟩:∃ r,(Sx.mvB n9) x=r:=⟨_,rfl⟩
 rw [hrr] at HC ⊢
 have HB1:=aI hB1
 unfold rtM at hg1
 clear hrr hr0 hr9 hp hg hB1 hq
 go_enter Tryz.func149,Tryz.ntmps149
 go_wp2_with (go_at_call 118;((with_reducible refine (HC.out).mono ?_));rintro e w2 ⟨rfl,hb2⟩;have HB:=aI (HB1.out.trans (hb2.mono HB1.out.size));clear hb2)
 go_ret
 exact ⟨by cases r <;> rfl,HB.out⟩
set_option maxRecDepth 100000 in
set_option maxHeartbeats 4000000 in
theorem idxM_any (gn:Nat) (n9:Int) (l:List (Int × Int)) (A:Option Addr) (c g:Nat) (W:World) (hs:SlAt [] W A l) (hm:l.length≤9223372036854775807) (hp:∀ x∈l,0≤n9∧n9≤9223372036854775807) (hg:W.cell? ⟨g,0,none⟩=some (rtM gn)) (hq:W.cell? ⟨gn,0,none⟩=some (.int .i64 n9)) :
  Calls Tryz.prog 171 #[.slice A l.length c,oneM g] W (PredP (!l.all (Sx.mvB n9)) W):=by
 obtain ⟨n,hn⟩:∃ n,l.length=n:=⟨_,rfl⟩
 have HS:=aI hs
 have HN:=aI hn
 have HP:=aI hp
 have HG:=aI hg
 rw [hn]
 rw [hn] at hm
 have HV:=aI (oneM_any gn n9)
 have HQ9:=aI hq
 unfold oneM
 clear hs hn hp hg hq
 go_enter Tryz.func171,Tryz.ntmps171
 go_wp2_with fail
 go_loopg [8] n (fun r i wr=>∃ k:Nat,k+r=n∧i=.int .i64 k∧Below W.heap.size W wr∧∀ j (hj:j < l.length),j < k→(Sx.mvB n9) l[j]=true)
 case atStart=>exact ⟨0,by omega,rfl,Below.refl _ _,fun _ _ h=>by omega⟩
 case round =>
  obtain ⟨k,hk,rfl,hb,hall⟩:=hrel
  obtain ⟨wo,rfl⟩:∃ wo:World,wo=wr:=⟨_,rfl⟩
  have HB:=aI hb
  have HA:=aI hall
  clear hb hall
  by_cases hlt:k < n
  ·have hkp:k < l.length:=by rw [HN.out];exact hlt
   have k0:(0:Int)≤(k:Int):=Int.natCast_nonneg _
   have k1:(k:Int) < (n:Int):=by omega
   obtain ⟨b,o,us,rfl,_,hr,hc⟩:=(HS.out.keep (Chg.of_below HB.out)).get k hkp
   have cv:=HV.out l[k] us g wo hr (HP.out _ (List.getElem_mem hkp)) ((HB.out.cell (World.block_lt_of_cell? _ _ HG.out)).trans HG.out) ((HB.out.cell (World.block_lt_of_cell? _ _ HQ9.out)).trans HQ9.out)
   obtain ⟨x,hx⟩:∃ x,l[k]=x:=⟨_,rfl⟩
   rw [hx] at cv hr
   have hr0:=hr
   obtain ⟨rfl,q1,q2⟩:=rep_mv hr
   clear q1 q2
   change Calls Tryz.prog 149 #[.agg #[.int .i64 x.1,.int .i64 x.2],.pointer (some ⟨g,0,none⟩)] wo _ at cv
   have c0:wo.cell? ⟨b,o+k*2,none⟩=some (.int .i64 x.1):=hc 0 _ rfl
   have c1:wo.cell? ⟨b,o+k*2+1,none⟩=some (.int .i64 x.2):=hc 1 _ rfl
   obtain ⟨bb,hbb⟩:∃ b,(Sx.mvB n9) x=b:=⟨_,rfl⟩
   rw [hbb] at cv
   have CV:=aI cv
   have HX:=aI hx
   have HBB:=aI hbb
   clear cv hbb hr0 hc hx
   cases bb
   ·have HR:=aI (all_bad (b:=(Sx.mvB n9)) hkp (by rw [HX.out];exact HBB.out))
    go_wp2_with (go_at_call 149;((with_reducible refine (CV.out).mono ?_));rintro e w2 ⟨rfl,hb2⟩;replace HB:=aI (HB.out.trans (hb2.mono HB.out.size));clear hb2)
    go_ret
    exact ⟨_,rfl,by rw [HR.out];simp,HB.out⟩
   ·go_wp2_with (go_at_call 149;((with_reducible refine (CV.out).mono ?_));rintro e w2 ⟨rfl,hb2⟩;replace HB:=aI (HB.out.trans (hb2.mono HB.out.size));clear hb2)
    go_roundg (gk - 1)
    case measure=>omega
    case rel =>
     refine ⟨k+1,by omega,by go_num,HB.out,fun q hq hlt=>?_⟩
     rcases Nat.lt_or_ge q k with h' | h'
     ·exact HA.out q hq h'
     ·obtain rfl:q=k:=by omega
      rw [HX.out];exact HBB.out
  ·have HR:=aI (all_good (b:=(Sx.mvB n9)) fun q hq=>HA.out q hq (by rw [HN.out] at hq;omega))
   have k1:¬ (k:Int) < (n:Int):=by omega
   go_wp2_with fail
   go_ret
   exact ⟨_,rfl,by rw [HR.out];rfl,HB.out⟩
set_option maxHeartbeats 1000000 in
theorem conM_any (gn:Nat) (n9:Int) (l:List (Int × Int)) (A:Option Addr) (c g:Nat) (W:World) (hs:SlAt [] W A l) (hm:l.length≤9223372036854775807) (hp:∀ x∈l,0≤n9∧n9≤9223372036854775807) (hg:W.cell? ⟨g,0,none⟩=some (rtM gn)) (hq:W.cell? ⟨gn,0,none⟩=some (.int .i64 n9)) :
  Calls Tryz.prog 148 #[.slice A l.length c,oneM g] W (BoolP (!l.all (Sx.mvB n9)) W):=by
 have CI:=aI (idxM_any gn n9 l A c g W hs hm hp hg hq)
 obtain ⟨n,hn⟩:∃ n,l.length=n:=⟨_,rfl⟩
 rw [hn] at CI ⊢
 clear hs hm hn hp hg hq
 generalize oneM g=F at *
 go_enter Tryz.func148,Tryz.ntmps148
 go_wp2_with (go_at_call 171;((with_reducible refine (CI.out).mono ?_));rintro e w2 ⟨r,rfl,hr,hb2⟩;have HB:=aI hb2;have HR:=aI hr;clear hb2 hr)
 go_ret
 exact ⟨by rw [← HR.out];rfl,HB.out⟩
set_option maxHeartbeats 1000000 in
theorem allM_any (gn:Nat) (n9:Int) (l:List (Int × Int)) (A:Option Addr) (c:Nat) (w:World) (hs:SlAt [] w A l) (hm:l.length≤9223372036854775807) (hp:∀ x∈l,0≤n9∧n9≤9223372036854775807) (hq:w.cell? ⟨gn,0,none⟩=some (.int .i64 n9)) :
  Calls Tryz.prog 117 #[.slice A l.length c,(rtM gn)] w (BoolP (l.all (Sx.mvB n9)) w):=by
 have hB1:Below w.heap.size w (w.alloc (.cells #[(rtM gn)] 149)):=(Below.refl w.heap.size w).alloc (Nat.le_refl _) _
 have CC:=aI (conM_any gn n9 l A c w.heap.size (w.alloc (.cells #[(rtM gn)] 149)) (hs.keep (Chg.of_below hB1)) hm hp (cell_box1 w _ _) ((hB1.cell (World.block_lt_of_cell? _ _ hq)).trans hq))
 obtain ⟨n,hn⟩:∃ n,l.length=n:=⟨_,rfl⟩
 rw [hn] at CC ⊢
 generalize l.all (Sx.mvB n9)=r at *
 unfold rtM at CC hB1 ⊢
 unfold oneM at CC
 have HB1:=aI hB1
 clear hs hm hn hp hB1 hq
 go_enter Tryz.func117,Tryz.ntmps117
 go_wp2_with (go_at_call 148;((with_reducible refine (CC.out).mono ?_));rintro e w2 ⟨rfl,hb2⟩;have HB:=aI (HB1.out.trans (hb2.mono HB1.out.size));clear hb2)
 go_ret
 exact ⟨by cases r <;> rfl,HB.out⟩
end Go.Proofs.YtmplaikgbeeikaaGreatDoor
namespace Go.Proofs.YtmplaikgbeeikaaGreatDoor
open Go Go.RowKit
theorem lifB_is (x:Lif):Sx.lifB x=(Sx.nm x.1 && (Sx.within x.2.1.length 1 12 && (x.2.1.all Sx.nm && (decide (x.2.2.length≤32) && x.2.2.all (Sx.mvB x.2.1.length))))):=rfl
set_option maxRecDepth 100000 in
set_option maxHeartbeats 8000000 in
theorem isLife_any (x:Lif) (us:List Value) (w:World) (h:Mem.rep [] w x us) (hp:x.2.1.length≤1000000∧x.2.2.length≤1000000):Calls Tryz.prog 56 #[.agg us.toArray] w (BoolP (Sx.lifB x) w):=by
 obtain ⟨A1,cA,B1,dB,rfl,s1,s2,a1,b1,b2,e1,e2⟩:=rep_lif h
 have C1:=aI (fun w=>isName_any x.1 w a1)
 have C2:=aI (within_any x.2.1.length 1 12)
 obtain ⟨W0,hW0⟩:∃ X,w.alloc (.cells #[.string x.1,.slice A1 x.2.1.length cA,.slice B1 x.2.2.length dB] 55)=X:=⟨_,rfl⟩
 have hB0:Below w.heap.size w W0:=by rw [← hW0];exact (Below.refl w.heap.size w).alloc (Nat.le_refl _) _
 have hbk0:Blk W0 w.heap.size 55 #[.string x.1,.slice A1 x.2.1.length cA,.slice B1 x.2.2.length dB]:=by rw [← hW0];exact Blk.new w _ _
 obtain ⟨W1,hW1⟩:∃ X,W0.alloc (.cells #[.int .i64 (x.2.1.length:Int)] 3)=X:=⟨_,rfl⟩
 have hB1:Below w.heap.size w W1:=by rw [← hW1];exact hB0.alloc hB0.size _
 have hbk:Blk W1 w.heap.size 55 #[.string x.1,.slice A1 x.2.1.length cA,.slice B1 x.2.2.length dB]:=by rw [← hW1];exact hbk0.alloc _
 have hbn:Blk W1 (w.heap.size+1) 3 #[.int .i64 (x.2.1.length:Int)]:=by
  have hz:W0.heap.size=w.heap.size+1:=by rw [← hW0];show (w.heap.push _).size=_;rw [Array.size_push]
  rw [← hW1,← hz];exact Blk.new W0 _ _
 obtain ⟨N,hN⟩:∃ n,w.heap.size=n:=⟨_,rfl⟩
 rw [hN] at hbk hbn hbk0
 have k0:=hbk0.cell 1
 simp at k0
 have HB:=aI hB1
 have HB1:=aI (Below.refl W1.heap.size W1)
 have HBQ:=aI hbk
 have HBN:=aI hbn
 have C3:=aI (fun (W':World) (hb:Below w.heap.size w W')=>allS_any x.2.1 A1 cA W' (s1.keep (Chg.of_below hb)) (by omega) (fun _ _=>trivial))
 have C5:=aI (fun (W':World) (hb:Below w.heap.size w W') (hq:W'.cell? ⟨N+1,0,none⟩=some (.int .i64 (x.2.1.length:Int)))=>allM_any (N+1) (x.2.1.length:Int) x.2.2 B1 dB W' (s2.keep (Chg.of_below hb)) (by omega) (fun _ _=>by omega) hq)
 unfold rtS at C3
 unfold rtM at C5
 have c0:=hbk.cell 0;have c1:=hbk.cell 1;have c2:=hbk.cell 2;have cn:=hbn.cell 0
 simp at c0 c1 c2 cn
 have HW0:=aI hW0
 have HW1:=aI hW1
 show Calls Tryz.prog 56 #[.agg #[.string x.1,.slice A1 x.2.1.length cA,.slice B1 x.2.2.length dB]] w _
 obtain ⟨q1,hq1⟩:∃ b,Sx.nm x.1=b:=⟨_,rfl⟩
 obtain ⟨q2,hq2⟩:∃ b,Sx.within x.2.1.length 1 12=b:=⟨_,rfl⟩
 obtain ⟨q3,hq3⟩:∃ b,x.2.1.all Sx.nm=b:=⟨_,rfl⟩
 obtain ⟨q4,hq4⟩:∃ b,decide (x.2.2.length≤32)=b:=⟨_,rfl⟩
 obtain ⟨q5,hq5⟩:∃ b,x.2.2.all (Sx.mvB x.2.1.length)=b:=⟨_,rfl⟩
 rw [hq1] at C1
 rw [hq2] at C2
 rw [hq3] at C3
 rw [hq5] at C5
 have hq4':decide ((x.2.2.length:Int)≤32)=q4:=by rw [← hq4];exact le_cast _ 32
 have HF:=aI (show Sx.lifB x=(q1 && (q2 && (q3 && (q4 && q5)))) by rw [lifB_is,hq1,hq2,hq3,hq4,hq5])
 clear h hbk hbn hbk0 hW1 hW0 hB0 hB1 s1 s2 a1 b1 b2 e1 e2 hp hq1 hq2 hq3 hq4 hq5
 generalize Sx.lifB x=fb at *
 generalize x.2.1.length=sl at *
 generalize x.2.2.length=ml at *
 go_enter Tryz.func56,Tryz.ntmps56
 go_upto_region 1 with fail
 rw [HW0.out]
 go_upto_region 2 with fail
 rw [HW1.out]
 (try clear k0)
 have hz0:W0.heap.size=N+1:=by rw [← HW0.out];show (w.heap.push _).size=_;rw [Array.size_push,hN]
 (try rw [hz0])
 cases q1 <;> cases q2 <;> cases q3 <;> cases q4 <;> (go_wp2_with (first | (go_at_call 110;((with_reducible refine (C1.out _).mono ?_));rintro e w2 ⟨rfl,hb2⟩;have HB1:=aI (HB1.out.trans (hb2.mono HB1.out.size));have hbk:=HBQ.out.below hb2 HBQ.out.lt;have HBQ:=aI hbk;have hbn:=HBN.out.below hb2 HBN.out.lt;have HBN:=aI hbn;have c0:=hbk.cell 0;have c1:=hbk.cell 1;have c2:=hbk.cell 2;have cn:=hbn.cell 0;simp at c0 c1 c2 cn;clear hbk hbn hb2) | (go_at_call 52;((with_reducible refine (C2.out _).mono ?_));rintro e w2 ⟨rfl,rfl⟩) | (go_at_call 116;((with_reducible refine (C3.out _ (HB.out.trans (HB1.out.mono HB.out.size))).mono ?_));rintro e w2 ⟨rfl,hb2⟩;have HB1:=aI (HB1.out.trans (hb2.mono HB1.out.size));have hbk:=HBQ.out.below hb2 HBQ.out.lt;have HBQ:=aI hbk;have hbn:=HBN.out.below hb2 HBN.out.lt;have HBN:=aI hbn;have c0:=hbk.cell 0;have c1:=hbk.cell 1;have c2:=hbk.cell 2;have cn:=hbn.cell 0;simp at c0 c1 c2 cn;clear hbk hbn hb2) | (go_at_call 117;((with_reducible refine (C5.out _ (HB.out.trans (HB1.out.mono HB.out.size)) cn).mono ?_));rintro e w2 ⟨rfl,hb2⟩;have HB1:=aI (HB1.out.trans (hb2.mono HB1.out.size));have hbk:=HBQ.out.below hb2 HBQ.out.lt;have HBQ:=aI hbk;have hbn:=HBN.out.below hb2 HBN.out.lt;have HBN:=aI hbn;have c0:=hbk.cell 0;have c1:=hbk.cell 1;have c2:=hbk.cell 2;have cn:=hbn.cell 0;simp at c0 c1 c2 cn;clear hbk hbn hb2));go_ret;exact ⟨by rw [HF.out];first | rfl | (cases q5 <;> rfl),HB.out.trans (HB1.out.mono HB.out.size)⟩)
def rtL:Value:=.func (.func 56) #[] #[]
def oneL (g:Nat):Value:=.func (.func 115) #[] #[.pointer (some ⟨g,0,none⟩)]
set_option maxRecDepth 100000 in
set_option maxHeartbeats 4000000 in
theorem oneL_any (x:Lif) (us:List Value) (g:Nat) (w:World) (hr:Mem.rep [] w x us) (hp:x.2.1.length≤1000000∧x.2.2.length≤1000000) (hg:w.cell? ⟨g,0,none⟩=some rtL) :
  Calls Tryz.prog 115 #[.agg us.toArray,.pointer (some ⟨g,0,none⟩)] w (BoolP (!Sx.lifB x) w):=by
 have hr0:=hr
 obtain ⟨A1,cA,B1,dB,rfl,q1,q2,q3,q4,q5,q6,q7⟩:=rep_lif hr
 clear q1 q2 q3 q4 q5 q6 q7
 show Calls Tryz.prog 115 #[.agg #[.string x.1,.slice A1 x.2.1.length cA,.slice B1 x.2.2.length dB],.pointer (some ⟨g,0,none⟩)] w (BoolP (!Sx.lifB x) w)
 have hB1:Below w.heap.size w (w.alloc (.cells #[.string x.1,.slice A1 x.2.1.length cA,.slice B1 x.2.2.length dB] 55)):=(Below.refl w.heap.size w).alloc (Nat.le_refl _) _
 have hg1:(w.alloc (.cells #[.string x.1,.slice A1 x.2.1.length cA,.slice B1 x.2.2.length dB] 55)).cell? ⟨g,0,none⟩=some rtL:=(hB1.cell (World.block_lt_of_cell? _ _ hg)).trans hg
 have hr9:=Mem.keep hr0 (Chg.of_below (G:=[]) hB1)
 have HC:=aI (isLife_any x _ (w.alloc (.cells #[.string x.1,.slice A1 x.2.1.length cA,.slice B1 x.2.2.length dB] 55)) hr9 hp)
 obtain ⟨r,hrr⟩:∃ r,Sx.lifB x=r:=⟨_,rfl⟩
 rw [hrr] at HC ⊢
 have HB1:=aI hB1
 unfold rtL at hg1
 clear hrr hr0 hr9 hp hg hB1
 go_enter Tryz.func115,Tryz.ntmps115
 go_wp2_with (go_at_call 56;((with_reducible refine (HC.out).mono ?_));rintro e w2 ⟨rfl,hb2⟩;have HB:=aI (HB1.out.trans (hb2.mono HB1.out.size));clear hb2)
 go_ret
 exact ⟨by cases r <;> rfl,HB.out⟩
set_option maxRecDepth 100000 in
set_option maxHeartbeats 4000000 in
theorem idxL_any (l:List (Lif)) (A:Option Addr) (c g:Nat) (W:World) (hs:SlAt [] W A l) (hm:l.length≤9223372036854775807) (hp:∀ x∈l,x.2.1.length≤1000000∧x.2.2.length≤1000000) (hg:W.cell? ⟨g,0,none⟩=some rtL) :
  Calls Tryz.prog 145 #[.slice A l.length c,oneL g] W (PredP (!l.all Sx.lifB) W):=by
 obtain ⟨n,hn⟩:∃ n,l.length=n:=⟨_,rfl⟩
 have HS:=aI hs
 have HN:=aI hn
 have HP:=aI hp
 have HG:=aI hg
 rw [hn]
 rw [hn] at hm
 have HV:=aI (oneL_any)
 unfold oneL
 clear hs hn hp hg
 go_enter Tryz.func145,Tryz.ntmps145
 go_wp2_with fail
 go_loopg [8] n (fun r i wr=>∃ k:Nat,k+r=n∧i=.int .i64 k∧Below W.heap.size W wr∧∀ j (hj:j < l.length),j < k→Sx.lifB l[j]=true)
 case atStart=>exact ⟨0,by omega,rfl,Below.refl _ _,fun _ _ h=>by omega⟩
 case round =>
  obtain ⟨k,hk,rfl,hb,hall⟩:=hrel
  obtain ⟨wo,rfl⟩:∃ wo:World,wo=wr:=⟨_,rfl⟩
  have HB:=aI hb
  have HA:=aI hall
  clear hb hall
  by_cases hlt:k < n
  ·have hkp:k < l.length:=by rw [HN.out];exact hlt
   have k0:(0:Int)≤(k:Int):=Int.natCast_nonneg _
   have k1:(k:Int) < (n:Int):=by omega
   obtain ⟨b,o,us,rfl,_,hr,hc⟩:=(HS.out.keep (Chg.of_below HB.out)).get k hkp
   have cv:=HV.out l[k] us g wo hr (HP.out _ (List.getElem_mem hkp)) ((HB.out.cell (World.block_lt_of_cell? _ _ HG.out)).trans HG.out)
   obtain ⟨x,hx⟩:∃ x,l[k]=x:=⟨_,rfl⟩
   rw [hx] at cv hr
   have hr0:=hr
   obtain ⟨A1,cA,B1,dB,rfl,q1,q2,q3,q4,q5,q6,q7⟩:=rep_lif hr
   clear q1 q2 q3 q4 q5 q6 q7
   change Calls Tryz.prog 115 #[.agg #[.string x.1,.slice A1 x.2.1.length cA,.slice B1 x.2.2.length dB],.pointer (some ⟨g,0,none⟩)] wo _ at cv
   have c0:wo.cell? ⟨b,o+k*3,none⟩=some (.string x.1):=hc 0 _ rfl
   have c1:wo.cell? ⟨b,o+k*3+1,none⟩=some (.slice A1 x.2.1.length cA):=hc 1 _ rfl
   have c2:wo.cell? ⟨b,o+k*3+2,none⟩=some (.slice B1 x.2.2.length dB):=hc 2 _ rfl
   obtain ⟨bb,hbb⟩:∃ b,Sx.lifB x=b:=⟨_,rfl⟩
   rw [hbb] at cv
   have CV:=aI cv
   have HX:=aI hx
   have HBB:=aI hbb
   clear cv hbb hr0 hc hx
   cases bb
   ·have HR:=aI (all_bad (b:=Sx.lifB) hkp (by rw [HX.out];exact HBB.out))
    go_wp2_with (go_at_call 115;((with_reducible refine (CV.out).mono ?_));rintro e w2 ⟨rfl,hb2⟩;replace HB:=aI (HB.out.trans (hb2.mono HB.out.size));clear hb2)
    go_ret
    exact ⟨_,rfl,by rw [HR.out];simp,HB.out⟩
   ·go_wp2_with (go_at_call 115;((with_reducible refine (CV.out).mono ?_));rintro e w2 ⟨rfl,hb2⟩;replace HB:=aI (HB.out.trans (hb2.mono HB.out.size));clear hb2)
    go_roundg (gk - 1)
    case measure=>omega
    case rel =>
     refine ⟨k+1,by omega,by go_num,HB.out,fun q hq hlt=>?_⟩
     rcases Nat.lt_or_ge q k with h' | h'
     ·exact HA.out q hq h'
     ·obtain rfl:q=k:=by omega
      rw [HX.out];exact HBB.out
  ·have HR:=aI (all_good (b:=Sx.lifB) fun q hq=>HA.out q hq (by rw [HN.out] at hq;omega))
   have k1:¬ (k:Int) < (n:Int):=by omega
   go_wp2_with fail
   go_ret
   exact ⟨_,rfl,by rw [HR.out];rfl,HB.out⟩
set_option maxHeartbeats 1000000 in
theorem conL_any (l:List (Lif)) (A:Option Addr) (c g:Nat) (W:World) (hs:SlAt [] W A l) (hm:l.length≤9223372036854775807) (hp:∀ x∈l,x.2.1.length≤1000000∧x.2.2.length≤1000000) (hg:W.cell? ⟨g,0,none⟩=some rtL) :
  Calls Tryz.prog 114 #[.slice A l.length c,oneL g] W (BoolP (!l.all Sx.lifB) W):=by
 have CI:=aI (idxL_any l A c g W hs hm hp hg)
 obtain ⟨n,hn⟩:∃ n,l.length=n:=⟨_,rfl⟩
 rw [hn] at CI ⊢
 clear hs hm hn hp hg
 generalize oneL g=F at *
 go_enter Tryz.func114,Tryz.ntmps114
 go_wp2_with (go_at_call 145;((with_reducible refine (CI.out).mono ?_));rintro e w2 ⟨r,rfl,hr,hb2⟩;have HB:=aI hb2;have HR:=aI hr;clear hb2 hr)
 go_ret
 exact ⟨by rw [← HR.out];rfl,HB.out⟩
set_option maxHeartbeats 1000000 in
theorem allL_any (l:List (Lif)) (A:Option Addr) (c:Nat) (w:World) (hs:SlAt [] w A l) (hm:l.length≤9223372036854775807) (hp:∀ x∈l,x.2.1.length≤1000000∧x.2.2.length≤1000000) :
  Calls Tryz.prog 55 #[.slice A l.length c,rtL] w (BoolP (l.all Sx.lifB) w):=by
 have hB1:Below w.heap.size w (w.alloc (.cells #[rtL] 103)):=(Below.refl w.heap.size w).alloc (Nat.le_refl _) _
 have CC:=aI (conL_any l A c w.heap.size (w.alloc (.cells #[rtL] 103)) (hs.keep (Chg.of_below hB1)) hm hp (cell_box1 w _ _))
 obtain ⟨n,hn⟩:∃ n,l.length=n:=⟨_,rfl⟩
 rw [hn] at CC ⊢
 generalize l.all Sx.lifB=r at *
 unfold rtL at CC hB1 ⊢
 unfold oneL at CC
 have HB1:=aI hB1
 clear hs hm hn hp hB1
 go_enter Tryz.func55,Tryz.ntmps55
 go_wp2_with (go_at_call 114;((with_reducible refine (CC.out).mono ?_));rintro e w2 ⟨rfl,hb2⟩;have HB:=aI (HB1.out.trans (hb2.mono HB1.out.size));clear hb2)
 go_ret
 exact ⟨by cases r <;> rfl,HB.out⟩
end Go.Proofs.YtmplaikgbeeikaaGreatDoor
