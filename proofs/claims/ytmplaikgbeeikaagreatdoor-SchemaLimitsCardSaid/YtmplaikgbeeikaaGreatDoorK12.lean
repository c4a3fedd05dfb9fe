/- Parts of the proof, joined: SxV3, SxV3a, SxV3b. -/
import Derived.Test.YtmplaikgbeeikaaGreatDoorK3
import Derived.Test.YtmplaikgbeeikaaGreatDoorK4
import Derived.Test.YtmplaikgbeeikaaGreatDoorK6
import Derived.Deep.LoopGhost
set_option linter.unusedVariables false
set_option linter.unusedSimpArgs false
set_option linter.unusedSectionVars false
namespace Go.Proofs.YtmplaikgbeeikaaGreatDoor
open Go Go.RowKit
def rtF:Value:=.func (.func 113) #[] #[]
def oneF (g:Nat):Value:=.func (.func 142) #[] #[.pointer (some ⟨g,0,none⟩)]
set_option maxRecDepth 100000 in
set_option maxHeartbeats 4000000 in
theorem oneF_any (x:Fld) (us:List Value) (g:Nat) (w:World) (hr:Mem.rep [] w x us) (hp:(Sc.wts x).length≤1000000) (hg:w.cell? ⟨g,0,none⟩=some rtF) :
  Calls Tryz.prog 142 #[.agg us.toArray,.pointer (some ⟨g,0,none⟩)] w (BoolP (!Sx.fldB x) w):=by
 have hr0:=hr
 obtain ⟨A1,cA,B1,dB,rfl,q1,q2,q3,q4,q5,q6,q7,q8,q9,q10,q11,q12⟩:=rep_fld hr
 clear q1 q2 q3 q4 q5 q6 q7 q8 q9 q10 q11 q12
 show Calls Tryz.prog 142 #[.agg #[.string (Sc.nm x),.string (Sc.of_ x),.string (Sc.up x),.int .i64 (Sc.kd x),.int .i64 (Sc.lo x),.int .i64 (Sc.hi x),.slice A1 (Sc.words x).length cA,.slice B1 (Sc.wts x).length dB],.pointer (some ⟨g,0,none⟩)] w (BoolP (!Sx.fldB x) w)
 have hB1:Below w.heap.size w (w.alloc (.cells #[.string (Sc.nm x),.string (Sc.of_ x),.string (Sc.up x),.int .i64 (Sc.kd x),.int .i64 (Sc.lo x),.int .i64 (Sc.hi x),.slice A1 (Sc.words x).length cA,.slice B1 (Sc.wts x).length dB] 52)):=(Below.refl w.heap.size w).alloc (Nat.le_refl _) _
 have hg1:(w.alloc (.cells #[.string (Sc.nm x),.string (Sc.of_ x),.string (Sc.up x),.int .i64 (Sc.kd x),.int .i64 (Sc.lo x),.int .i64 (Sc.hi x),.slice A1 (Sc.words x).length cA,.slice B1 (Sc.wts x).length dB] 52)).cell? ⟨g,0,none⟩=some rtF:=(hB1.cell (World.block_lt_of_cell? _ _ hg)).trans hg
 have hr9:=Mem.keep hr0 (Chg.of_below (G:=[]) hB1)
 have HC:=aI (isField_any x _ (w.alloc (.cells #[.string (Sc.nm x),.string (Sc.of_ x),.string (Sc.up x),.int .i64 (Sc.kd x),.int .i64 (Sc.lo x),.int .i64 (Sc.hi x),.slice A1 (Sc.words x).length cA,.slice B1 (Sc.wts x).length dB] 52)) hr9 hp)
 obtain ⟨r,hrr⟩:∃ r,Sx.fldB x=r:=⟨_,rfl⟩
 rw [hrr] at HC ⊢
 have HB1:=aI hB1
 unfold rtF at hg1
 clear hrr hr0 hr9 hp hg hB1
 go_enter Tryz.func142,Tryz.ntmps142
 go_wp2_with (go_at_call 113;((with_reducible refine (HC.out).mono ?_));rintro e w2 ⟨rfl,hb2⟩;have HB:=aI (HB1.out.trans (hb2.mono HB1.out.size));clear hb2)
 go_ret
 exact ⟨by cases r <;> rfl,HB.out⟩
set_option maxRecDepth 100000 in
set_option maxHeartbeats 4000000 in
theorem idxF_any (l:List (Fld)) (A:Option Addr) (c g:Nat) (W:World) (hs:SlAt [] W A l) (hm:l.length≤9223372036854775807) (hp:∀ x∈l,(Sc.wts x).length≤1000000) (hg:W.cell? ⟨g,0,none⟩=some rtF) :
  Calls Tryz.prog 169 #[.slice A l.length c,oneF g] W (PredP (!l.all Sx.fldB) W):=by
 obtain ⟨n,hn⟩:∃ n,l.length=n:=⟨_,rfl⟩
 have HS:=aI hs
 have HN:=aI hn
 have HP:=aI hp
 have HG:=aI hg
 rw [hn]
 rw [hn] at hm
 have HV:=aI (oneF_any)
 unfold oneF
 clear hs hn hp hg
 go_enter Tryz.func169,Tryz.ntmps169
 go_wp2_with fail
 go_loopg [8] n (fun r i wr=>∃ k:Nat,k+r=n∧i=.int .i64 k∧Below W.heap.size W wr∧∀ j (hj:j < l.length),j < k→Sx.fldB l[j]=true)
 case atStart=>exact ⟨0,by omega,rfl,Below.refl _ _,fun _ _ h=>by omega⟩
 case round =>
  obtain ⟨k,hk,rfl,hb,hall⟩:=hrel
  obtain ⟨wo,rfl⟩:∃ wo:World,wo=wr:=⟨_,rfl⟩
  have HB:=aI hb
  have HA:=aI hall
  clear hb hall
  by_cases hlt:k < n
  ·have hkp:k < l.length:=by rw [HN.out];exact hlt
   have k0:(0:Int)≤(k:Int):=Int.natCast_nonneg _
   have k1:(k:Int) < (n:Int):=by omega
   obtain ⟨b,o,us,rfl,_,hr,hc⟩:=(HS.out.keep (Chg.of_below HB.out)).get k hkp
   have cv:=HV.out l[k] us g wo hr (HP.out _ (List.getElem_mem hkp)) ((HB.out.cell (World.block_lt_of_cell? _ _ HG.out)).trans HG.out)
   obtain ⟨x,hx⟩:∃ x,l[k]=x:=⟨_,rfl⟩
   rw [hx] at cv hr
   have hr0:=hr
   obtain ⟨A1,cA,B1,dB,rfl,q1,q2,q3,q4,q5,q6,q7,q8,q9,q10,q11,q12⟩:=rep_fld hr
   clear q1 q2 q3 q4 q5 q6 q7 q8 q9 q10 q11 q12
   change Calls Tryz.prog 142 #[.agg #[.string (Sc.nm x),.string (Sc.of_ x),.string (Sc.up x),.int .i64 (Sc.kd x),.int .i64 (Sc.lo x),.int .i64 (Sc.hi x),.slice A1 (Sc.words x).length cA,.slice B1 (Sc.wts x).length dB],.pointer (some ⟨g,0,none⟩)] wo _ at cv
   have c0:wo.cell? ⟨b,o+k*8,none⟩=some (.string (Sc.nm x)):=hc 0 _ rfl
   have c1:wo.cell? ⟨b,o+k*8+1,none⟩=some (.string (Sc.of_ x)):=hc 1 _ rfl
   have c2:wo.cell? ⟨b,o+k*8+2,none⟩=some (.string (Sc.up x)):=hc 2 _ rfl
   have c3:wo.cell? ⟨b,o+k*8+3,none⟩=some (.int .i64 (Sc.kd x)):=hc 3 _ rfl
   have c4:wo.cell? ⟨b,o+k*8+4,none⟩=some (.int .i64 (Sc.lo x)):=hc 4 _ rfl
   have c5:wo.cell? ⟨b,o+k*8+5,none⟩=some (.int .i64 (Sc.hi x)):=hc 5 _ rfl
   have c6:wo.cell? ⟨b,o+k*8+6,none⟩=some (.slice A1 (Sc.words x).length cA):=hc 6 _ rfl
   have c7:wo.cell? ⟨b,o+k*8+7,none⟩=some (.slice B1 (Sc.wts x).length dB):=hc 7 _ rfl
   obtain ⟨bb,hbb⟩:∃ b,Sx.fldB x=b:=⟨_,rfl⟩
   rw [hbb] at cv
   have CV:=aI cv
   have HX:=aI hx
   have HBB:=aI hbb
   clear cv hbb hr0 hc hx
   cases bb
   ·have HR:=aI (all_bad (b:=Sx.fldB) hkp (by rw [HX.out];exact HBB.out))
    go_wp2_with (go_at_call 142;((with_reducible refine (CV.out).mono ?_));rintro e w2 ⟨rfl,hb2⟩;replace HB:=aI (HB.out.trans (hb2.mono HB.out.size));clear hb2)
    go_ret
    exact ⟨_,rfl,by rw [HR.out];simp,HB.out⟩
   ·go_wp2_with (go_at_call 142;((with_reducible refine (CV.out).mono ?_));rintro e w2 ⟨rfl,hb2⟩;replace HB:=aI (HB.out.trans (hb2.mono HB.out.size));clear hb2)
    go_roundg (gk - 1)
    case measure=>omega
    case rel =>
     refine ⟨k+1,by omega,by go_num,HB.out,fun q hq hlt=>?_⟩
     rcases Nat.lt_or_ge q k with h' | h'
     ·exact HA.out q hq h'
     ·obtain rfl:q=k:=by omega
      rw [HX.out];exact HBB.out
  ·have HR:=aI (all_good (b:=Sx.fldB) fun q hq=>HA.out q hq (by rw [HN.out] at hq;omega))
   have k1:¬ (k:Int) < (n:Int):=by omega
   go_wp2_with fail
   go_ret
   exact ⟨_,rfl,by rw [HR.out];rfl,HB.out⟩
set_option maxHeartbeats 1000000 in
theorem conF_any (l:List (Fld)) (A:Option Addr) (c g:Nat) (W:World) (hs:SlAt [] W A l) (hm:l.length≤9223372036854775807) (hp:∀ x∈l,(Sc.wts x).length≤1000000) (hg:W.cell? ⟨g,0,none⟩=some rtF) :
  Calls Tryz.prog 141 #[.slice A l.length c,oneF g] W (BoolP (!l.all Sx.fldB) W):=by
 have CI:=aI (idxF_any l A c g W hs hm hp hg)
 obtain ⟨n,hn⟩:∃ n,l.length=n:=⟨_,rfl⟩
 rw [hn] at CI ⊢
 clear hs hm hn hp hg
 generalize oneF g=F at *
 go_enter Tryz.func141,Tryz.ntmps141
 go_wp2_with (go_at_call 169;((with_reducible refine (CI.out).mono ?_));rintro e w2 ⟨r,rfl,hr,hb2⟩;have HB:=aI hb2;have HR:=aI hr;clear hb2 hr)
 go_ret
 exact ⟨by rw [← HR.out];rfl,HB.out⟩
set_option maxHeartbeats 1000000 in
theorem allF_any (l:List (Fld)) (A:Option Addr) (c:Nat) (w:World) (hs:SlAt [] w A l) (hm:l.length≤9223372036854775807) (hp:∀ x∈l,(Sc.wts x).length≤1000000) :
  Calls Tryz.prog 112 #[.slice A l.length c,rtF] w (BoolP (l.all Sx.fldB) w):=by
 have hB1:Below w.heap.size w (w.alloc (.cells #[rtF] 146)):=(Below.refl w.heap.size w).alloc (Nat.le_refl _) _
 have CC:=aI (conF_any l A c w.heap.size (w.alloc (.cells #[rtF] 146)) (hs.keep (Chg.of_below hB1)) hm hp (cell_box1 w _ _))
 obtain ⟨n,hn⟩:∃ n,l.length=n:=⟨_,rfl⟩
 rw [hn] at CC ⊢
 generalize l.all Sx.fldB=r at *
 unfold rtF at CC hB1 ⊢
 unfold oneF at CC
 have HB1:=aI hB1
 clear hs hm hn hp hB1
 go_enter Tryz.func112,Tryz.ntmps112
 go_wp2_with (go_at_call 141;((with_reducible refine (CC.out).mono ?_));rintro e w2 ⟨rfl,hb2⟩;have HB:=aI (HB1.out.trans (hb2.mono HB1.out.size));clear hb2)
 go_ret
 exact ⟨by cases r <;> rfl,HB.out⟩
end Go.Proofs.YtmplaikgbeeikaaGreatDoor
namespace Go.Proofs.YtmplaikgbeeikaaGreatDoor
open Go Go.RowKit
set_option maxRecDepth 100000 in
set_option maxHeartbeats 8000000 in
theorem isKind_any (x:Knd) (us:List Value) (w:World) (h:Mem.rep [] w x us) (hp:(Sc.flds x).length≤1000000∧∀ f∈Sc.flds x,(Sc.wts f).length≤1000000):Calls Tryz.prog 54 #[.agg us.toArray] w (BoolP (Sx.kndB x) w):=by
 obtain ⟨A1,cA,rfl,s1,a2,a3,a1,b1,b2⟩:=rep_knd h
 have C1:=aI (fun w=>isName_any x.1 w a1)
 have C2:=aI (span_any x.2.1 x.2.2.1 0 65536)
 have C4:=aI (fun (W':World) (hb:Below w.heap.size w W')=>allF_any (Sc.flds x) A1 cA W' (s1.keep (Chg.of_below hb)) (by omega) hp.2)
 unfold rtF at C4
 obtain ⟨W1,hW1⟩:∃ X,w.alloc (.cells #[.string x.1,.int .i64 x.2.1,.int .i64 x.2.2.1,.slice A1 (Sc.flds x).length cA] 49)=X:=⟨_,rfl⟩
 have HB:=aI (show Below w.heap.size w W1 by rw [← hW1];exact (Below.refl w.heap.size w).alloc (Nat.le_refl _) _)
 have HB1:=aI (Below.refl W1.heap.size W1)
 have hbk:Blk W1 w.heap.size 49 #[.string x.1,.int .i64 x.2.1,.int .i64 x.2.2.1,.slice A1 (Sc.flds x).length cA]:=by rw [← hW1];exact Blk.new w _ _
 obtain ⟨N,hN⟩:∃ n,w.heap.size=n:=⟨_,rfl⟩
 rw [hN] at hbk
 have HBQ:=aI hbk
 have c0:=hbk.cell 0;have c1:=hbk.cell 1;have c2:=hbk.cell 2;have c3:=hbk.cell 3
 simp at c0 c1 c2 c3
 have HW1:=aI hW1
 show Calls Tryz.prog 54 #[.agg #[.string x.1,.int .i64 x.2.1,.int .i64 x.2.2.1,.slice A1 (Sc.flds x).length cA]] w _
 obtain ⟨q1,hq1⟩:∃ b,Sx.nm x.1=b:=⟨_,rfl⟩
 rw [hq1] at C1
 obtain ⟨q2,hq2⟩:∃ b,Sx.span x.2.1 x.2.2.1 0 65536=b:=⟨_,rfl⟩
 rw [hq2] at C2
 obtain ⟨q3,hq3⟩:∃ b,decide ((Sc.flds x).length≤10)=b:=⟨_,rfl⟩
 have hq3':decide (((Sc.flds x).length:Int)≤10)=q3:=by rw [← hq3];exact le_cast _ 10
 obtain ⟨q4,hq4⟩:∃ b,(Sc.flds x).all Sx.fldB=b:=⟨_,rfl⟩
 rw [hq4] at C4
 have HF:=aI (show Sx.kndB x=(q1 && (q2 && (q3 && q4))) by unfold Sx.kndB;rw [hq1,hq2,hq3,hq4])
 clear h hbk hW1 s1 a1 a2 a3 b1 b2 hp hq1 hq2 hq3 hq4
 generalize Sx.kndB x=fb at *
 generalize (Sc.flds x).length=nl at *
 go_enter Tryz.func54,Tryz.ntmps54
 go_upto_region 1 with fail
 rw [HW1.out]
 cases q1 <;> cases q2 <;> cases q3 <;> (go_wp2_with (first | (go_at_call 110;((with_reducible refine (C1.out _).mono ?_));rintro e w2 ⟨rfl,hb2⟩;have HB1:=aI (HB1.out.trans (hb2.mono HB1.out.size));have hbk:=HBQ.out.below hb2 HBQ.out.lt;have HBQ:=aI hbk;have c0:=hbk.cell 0;have c1:=hbk.cell 1;have c2:=hbk.cell 2;have c3:=hbk.cell 3;simp at c0 c1 c2 c3;clear hbk hb2) | (go_at_call 111;((with_reducible refine (C2.out _).mono ?_));rintro e w2 ⟨rfl,rfl⟩) | (go_at_call 112;((with_reducible refine (C4.out _ (HB.out.trans (HB1.out.mono HB.out.size))).mono ?_));rintro e w2 ⟨rfl,hb2⟩;have HB1:=aI (HB1.out.trans (hb2.mono HB1.out.size));have hbk:=HBQ.out.below hb2 HBQ.out.lt;have HBQ:=aI hbk;have c0:=hbk.cell 0;have c1:=hbk.cell 1;have c2:=hbk.cell 2;have c3:=hbk.cell 3;simp at c0 c1 c2 c3;clear hbk hb2));go_ret;exact ⟨by rw [HF.out];first | rfl | (cases q4 <;> rfl),HB.out.trans (HB1.out.mono HB.out.size)⟩)
def rtK:Value:=.func (.func 54) #[] #[]
def oneK (g:Nat):Value:=.func (.func 109) #[] #[.pointer (some ⟨g,0,none⟩)]
set_option maxRecDepth 100000 in
set_option maxHeartbeats 4000000 in
theorem oneK_any (x:Knd) (us:List Value) (g:Nat) (w:World) (hr:Mem.rep [] w x us) (hp:(Sc.flds x).length≤1000000∧∀ f∈Sc.flds x,(Sc.wts f).length≤1000000) (hg:w.cell? ⟨g,0,none⟩=some rtK) :
  Calls Tryz.prog 109 #[.agg us.toArray,.pointer (some ⟨g,0,none⟩)] w (BoolP (!Sx.kndB x) w):=by
 have hr0:=hr
 obtain ⟨A1,cA,rfl,q1,q2,q3,q4,q5,q6⟩:=rep_knd hr
 clear q1 q2 q3 q4 q5 q6
 show Calls Tryz.prog 109 #[.agg #[.string x.1,.int .i64 x.2.1,.int .i64 x.2.2.1,.slice A1 (Sc.flds x).length cA],.pointer (some ⟨g,0,none⟩)] w (BoolP (!Sx.kndB x) w)
 have hB1:Below w.heap.size w (w.alloc (.cells #[.string x.1,.int .i64 x.2.1,.int .i64 x.2.2.1,.slice A1 (Sc.flds x).length cA] 49)):=(Below.refl w.heap.size w).alloc (Nat.le_refl _) _
 have hg1:(w.alloc (.cells #[.string x.1,.int .i64 x.2.1,.int .i64 x.2.2.1,.slice A1 (Sc.flds x).length cA] 49)).cell? ⟨g,0,none⟩=some rtK:=(hB1.cell (World.block_lt_of_cell? _ _ hg)).trans hg
 have hr9:=Mem.keep hr0 (Chg.of_below (G:=[]) hB1)
 have HC:=aI (isKind_any x _ (w.alloc (.cells #[.string x.1,.int .i64 x.2.1,.int .i64 x.2.2.1,.slice A1 (Sc.flds x).length cA] 49)) hr9 hp)
 obtain ⟨r,hrr⟩:∃ r,Sx.kndB x=r:=⟨_,rfl⟩
 rw [hrr] at HC ⊢
 have HB1:=aI hB1
 unfold rtK at hg1
 clear hrr hr0 hr9 hp hg hB1
 go_enter Tryz.func109,Tryz.ntmps109
 go_wp2_with (go_at_call 54;((with_reducible refine (HC.out).mono ?_));rintro e w2 ⟨rfl,hb2⟩;have HB:=aI (HB1.out.trans (hb2.mono HB1.out.size));clear hb2)
 go_ret
 exact ⟨by cases r <;> rfl,HB.out⟩
set_option maxRecDepth 100000 in
set_option maxHeartbeats 4000000 in
theorem idxK_any (l:List (Knd)) (A:Option Addr) (c g:Nat) (W:World) (hs:SlAt [] W A l) (hm:l.length≤9223372036854775807) (hp:∀ x∈l,(Sc.flds x).length≤1000000∧∀ f∈Sc.flds x,(Sc.wts f).length≤1000000) (hg:W.cell? ⟨g,0,none⟩=some rtK) :
  Calls Tryz.prog 136 #[.slice A l.length c,oneK g] W (PredP (!l.all Sx.kndB) W):=by
 obtain ⟨n,hn⟩:∃ n,l.length=n:=⟨_,rfl⟩
 have HS:=aI hs
 have HN:=aI hn
 have HP:=aI hp
 have HG:=aI hg
 rw [hn]
 rw [hn] at hm
 have HV:=aI (oneK_any)
 unfold oneK
 clear hs hn hp hg
 go_enter Tryz.func136,Tryz.ntmps136
 go_wp2_with fail
 go_loopg [8] n (fun r i wr=>∃ k:Nat,k+r=n∧i=.int .i64 k∧Below W.heap.size W wr∧∀ j (hj:j < l.length),j < k→Sx.kndB l[j]=true)
 case atStart=>exact ⟨0,by omega,rfl,Below.refl _ _,fun _ _ h=>by omega⟩
 case round =>
  obtain ⟨k,hk,rfl,hb,hall⟩:=hrel
  obtain ⟨wo,rfl⟩:∃ wo:World,wo=wr:=⟨_,rfl⟩
  have HB:=aI hb
  have HA:=aI hall
  clear hb hall
  by_cases hlt:k < n
  ·have hkp:k < l.length:=by rw [HN.out];exact hlt
   have k0:(0:Int)≤(k:Int):=Int.natCast_nonneg _
   have k1:(k:Int) < (n:Int):=by omega
   obtain ⟨b,o,us,rfl,_,hr,hc⟩:=(HS.out.keep (Chg.of_below HB.out)).get k hkp
   have cv:=HV.out l[k] us g wo hr (HP.out _ (List.getElem_mem hkp)) ((HB.out.cell (World.block_lt_of_cell? _ _ HG.out)).trans HG.out)
   obtain ⟨x,hx⟩:∃ x,l[k]=x:=⟨_,rfl⟩
   rw [hx] at cv hr
   have hr0:=hr
   obtain ⟨A1,cA,rfl,q1,q2,q3,q4,q5,q6⟩:=rep_knd hr
   clear q1 q2 q3 q4 q5 q6
   change Calls Tryz.prog 109 #[.agg #[.string x.1,.int .i64 x.2.1,.int .i64 x.2.2.1,.slice A1 (Sc.flds x).length cA],.pointer (some ⟨g,0,none⟩)] wo _ at cv
   have c0:wo.cell? ⟨b,o+k*4,none⟩=some (.string x.1):=hc 0 _ rfl
   have c1:wo.cell? ⟨b,o+k*4+1,none⟩=some (.int .i64 x.2.1):=hc 1 _ rfl
   have c2:wo.cell? ⟨b,o+k*4+2,none⟩=some (.int .i64 x.2.2.1):=hc 2 _ rfl
   have c3:wo.cell? ⟨b,o+k*4+3,none⟩=some (.slice A1 (Sc.flds x).length cA):=hc 3 _ rfl
   obtain ⟨bb,hbb⟩:∃ b,Sx.kndB x=b:=⟨_,rfl⟩
   rw [hbb] at cv
   have CV:=aI cv
   have HX:=aI hx
   have HBB:=aI hbb
   clear cv hbb hr0 hc hx
   cases bb
   ·have HR:=aI (all_bad (b:=Sx.kndB) hkp (by rw [HX.out];exact HBB.out))
    go_wp2_with (go_at_call 109;((with_reducible refine (CV.out).mono ?_));rintro e w2 ⟨rfl,hb2⟩;replace HB:=aI (HB.out.trans (hb2.mono HB.out.size));clear hb2)
    go_ret
    exact ⟨_,rfl,by rw [HR.out];simp,HB.out⟩
   ·go_wp2_with (go_at_call 109;((with_reducible refine (CV.out).mono ?_));rintro e w2 ⟨rfl,hb2⟩;replace HB:=aI (HB.out.trans (hb2.mono HB.out.size));clear hb2)
    go_roundg (gk - 1)
    case measure=>omega
    case rel =>
     refine ⟨k+1,by omega,by go_num,HB.out,fun q hq hlt=>?_⟩
     rcases Nat.lt_or_ge q k with h' | h'
     ·exact HA.out q hq h'
     ·obtain rfl:q=k:=by omega
      rw [HX.out];exact HBB.out
  ·have HR:=aI (all_good (b:=Sx.kndB) fun q hq=>HA.out q hq (by rw [HN.out] at hq;omega))
   have k1:¬ (k:Int) < (n:Int):=by omega
   go_wp2_with fail
   go_ret
   exact ⟨_,rfl,by rw [HR.out];rfl,HB.out⟩
set_option maxHeartbeats 1000000 in
theorem conK_any (l:List (Knd)) (A:Option Addr) (c g:Nat) (W:World) (hs:SlAt [] W A l) (hm:l.length≤9223372036854775807) (hp:∀ x∈l,(Sc.flds x).length≤1000000∧∀ f∈Sc.flds x,(Sc.wts f).length≤1000000) (hg:W.cell? ⟨g,0,none⟩=some rtK) :
  Calls Tryz.prog 108 #[.slice A l.length c,oneK g] W (BoolP (!l.all Sx.kndB) W):=by
 have CI:=aI (idxK_any l A c g W hs hm hp hg)
 obtain ⟨n,hn⟩:∃ n,l.length=n:=⟨_,rfl⟩
 rw [hn] at CI ⊢
 clear hs hm hn hp hg
 generalize oneK g=F at *
 go_enter Tryz.func108,Tryz.ntmps108
 go_wp2_with (go_at_call 136;((with_reducible refine (CI.out).mono ?_));rintro e w2 ⟨r,rfl,hr,hb2⟩;have HB:=aI hb2;have HR:=aI hr;clear hb2 hr)
 go_ret
 exact ⟨by rw [← HR.out];rfl,HB.out⟩
set_option maxHeartbeats 1000000 in
theorem allK_any (l:List (Knd)) (A:Option Addr) (c:Nat) (w:World) (hs:SlAt [] w A l) (hm:l.length≤9223372036854775807) (hp:∀ x∈l,(Sc.flds x).length≤1000000∧∀ f∈Sc.flds x,(Sc.wts f).length≤1000000) :
  Calls Tryz.prog 53 #[.slice A l.length c,rtK] w (BoolP (l.all Sx.kndB) w):=by
 have hB1:Below w.heap.size w (w.alloc (.cells #[rtK] 101)):=(Below.refl w.heap.size w).alloc (Nat.le_refl _) _
 have CC:=aI (conK_any l A c w.heap.size (w.alloc (.cells #[rtK] 101)) (hs.keep (Chg.of_below hB1)) hm hp (cell_box1 w _ _))
 obtain ⟨n,hn⟩:∃ n,l.length=n:=⟨_,rfl⟩
 rw [hn] at CC ⊢
 generalize l.all Sx.kndB=r at *
 unfold rtK at CC hB1 ⊢
 unfold oneK at CC
 have HB1:=aI hB1
 clear hs hm hn hp hB1
 go_enter Tryz.func53,Tryz.ntmps53
 go_wp2_with (go_at_call 108;((with_reducible refine (CC.out).mono ?_));rintro e w2 ⟨rfl,hb2⟩;have HB:=aI (HB1.out.trans (hb2.mono HB1.out.size));clear hb2)
 go_ret
 exact ⟨by cases r <;> rfl,HB.out⟩
end Go.Proofs.YtmplaikgbeeikaaGreatDoor
