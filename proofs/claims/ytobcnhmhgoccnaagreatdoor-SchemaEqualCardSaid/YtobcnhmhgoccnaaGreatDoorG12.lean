/- Parts of the proof, joined: SxV3, SxV3a, SxV3b, SxV4, SxV4a, SxV4b, SxV5, SxV6, SxLaw2, SxLaw3, SxLaw4, SxLaw7, SyB, SyL0, SxV7, SxNc. -/
import Derived.Test.YtobcnhmhgoccnaaGreatDoorG11
set_option maxRecDepth 100000
set_option maxHeartbeats 16000000
set_option linter.unusedVariables false
set_option linter.unusedSimpArgs false
set_option linter.unusedSectionVars false
namespace Go.Proofs.YtobcnhmhgoccnaaGreatDoor
open Go Go.RowKit
section
def rtF:Value:=.func (.func 77) #[] #[]
def oneF (g:Nat):Value:=.func (.func 118) #[] #[.pointer (some ⟨g,0,none⟩)]
theorem oneF_any (x:Fld) (us:List Value) (g:Nat) (w:World) (hr:Mem.rep [] w x us) (hp:(Sc.wts x).length<=1000000) (hg:w.cell? ⟨g,0,none⟩=some rtF) :
  Calls Tryz.prog 118 #[.agg us.toArray,.pointer (some ⟨g,0,none⟩)] w (BoolP (!Sx.fldB x) w):=by
 have hr0:=hr
 obtain ⟨A1,cA,B1,dB,rfl,q1,q2,q3,q4,q5,q6,q7,q8,q9,q10,q11,q12⟩:=rep_fld hr
 clear q1 q2 q3 q4 q5 q6 q7 q8 q9 q10 q11 q12
 show Calls Tryz.prog 118 #[.agg #[.string (Sc.nm x),.string (Sc.of_ x),.string (Sc.up x),.int .i64 (Sc.kd x),.int .i64 (Sc.lo x),.int .i64 (Sc.hi x),.slice A1 (Sc.words x).length cA,.slice B1 (Sc.wts x).length dB],.pointer (some ⟨g,0,none⟩)] w (BoolP (!Sx.fldB x) w)
 have hB1:Below w.heap.size w (w.alloc (.cells #[.string (Sc.nm x),.string (Sc.of_ x),.string (Sc.up x),.int .i64 (Sc.kd x),.int .i64 (Sc.lo x),.int .i64 (Sc.hi x),.slice A1 (Sc.words x).length cA,.slice B1 (Sc.wts x).length dB] 65)):=aP _ _
 have hg1:(w.alloc (.cells #[.string (Sc.nm x),.string (Sc.of_ x),.string (Sc.up x),.int .i64 (Sc.kd x),.int .i64 (Sc.lo x),.int .i64 (Sc.hi x),.slice A1 (Sc.words x).length cA,.slice B1 (Sc.wts x).length dB] 65)).cell? ⟨g,0,none⟩=some rtF:=(hB1.cell (World.block_lt_of_cell? _ _ hg)).trans hg
 have hr9:=Mem.keep hr0 (Chg.of_below (G:=[]) hB1)
 have HC:=aI (isField_any x _ (w.alloc (.cells #[.string (Sc.nm x),.string (Sc.of_ x),.string (Sc.up x),.int .i64 (Sc.kd x),.int .i64 (Sc.lo x),.int .i64 (Sc.hi x),.slice A1 (Sc.words x).length cA,.slice B1 (Sc.wts x).length dB] 65)) hr9 hp)
 obtain ⟨r,hrr⟩:=aX (Sx.fldB x)
 rw [hrr] at HC ⊢
 have HB1:=aI hB1
 unfold rtF at hg1
 clear hrr hr0 hr9 hp hg hB1
 go_enter Tryz.func118,Tryz.ntmps118
 go_wp2_with (go_at_call 77;(with_reducible refine (HC.out).mono ?_);rintro e w2 ⟨rfl,hb2⟩;have HB:=aI (HB1.out.trans (hb2.mono HB1.out.size));clear hb2)
 go_ret
 exact ⟨by cases r <;> rfl,HB.out⟩
theorem idxF_any (l:List (Fld)) (A:Option Addr) (c g:Nat) (W:World) (hs:SlAt [] W A l) (hm:l.length<=9223372036854775807) (hp:∀ x∈l,(Sc.wts x).length<=1000000) (hg:W.cell? ⟨g,0,none⟩=some rtF) :
  Calls Tryz.prog 155 #[.slice A l.length c,oneF g] W (PredP (!l.all Sx.fldB) W):=by
 obtain ⟨n,hn⟩:=aX l.length
 have HS:=aI hs
 have HN:=aI hn
 have HP:=aI hp
 have HG:=aI hg
 rw [hn]
 rw [hn] at hm
 have HV:=aI (oneF_any)
 unfold oneF
 clear hs hn hp hg
 go_enter Tryz.func155,Tryz.ntmps155
 go_wp2_with fail
 go_loopg [8] n (fun r i wr=>∃ k:Nat,k+r=n/\i=.int .i64 k/\Below W.heap.size W wr/\∀ j (hj:j < l.length),j < k->Sx.fldB l[j]=true)
 case atStart=>exact ⟨0,by omega,rfl,Below.refl _ _,fun _ _ h=>by omega⟩
 case round =>
  obtain ⟨k,hk,rfl,hb,hall⟩:=hrel
  obtain ⟨wo,rfl⟩:=aY wr
  have HB:=aI hb
  have HA:=aI hall
  clear hb hall
  by_cases hlt:k < n
  ·have hkp:k < l.length:=by rw [HN.out];exact hlt
   have k0:(0:Int)<=(k:Int):=aa _
   have k1:(k:Int) < (n:Int):=by omega
   obtain ⟨b,o,us,rfl,_,hr,hc⟩:=(HS.out.keep (Chg.of_below HB.out)).get k hkp
   have cv:=HV.out l[k] us g wo hr (HP.out _ (List.getElem_mem hkp)) ((HB.out.cell (World.block_lt_of_cell? _ _ HG.out)).trans HG.out)
   obtain ⟨x,hx⟩:=aX (l[k])
   rw [hx] at cv hr
   have hr0:=hr
   obtain ⟨A1,cA,B1,dB,rfl,q1,q2,q3,q4,q5,q6,q7,q8,q9,q10,q11,q12⟩:=rep_fld hr
   clear q1 q2 q3 q4 q5 q6 q7 q8 q9 q10 q11 q12
   change Calls Tryz.prog 118 #[.agg #[.string (Sc.nm x),.string (Sc.of_ x),.string (Sc.up x),.int .i64 (Sc.kd x),.int .i64 (Sc.lo x),.int .i64 (Sc.hi x),.slice A1 (Sc.words x).length cA,.slice B1 (Sc.wts x).length dB],.pointer (some ⟨g,0,none⟩)] wo _ at cv
   obtain ⟨c0,c1,c2,c3,c4,c5,c6,c7⟩:=aG8 (m:=k*8) hc
   obtain ⟨bb,hbb⟩:=aX (Sx.fldB x)
   rw [hbb] at cv
   have CV:=aI cv
   have HX:=aI hx
   have HBB:=aI hbb
   clear cv hbb hr0 hc hx
   cases bb
   ·have HR:=aI (all_bad (b:=Sx.fldB) hkp (by rw [HX.out];exact HBB.out))
    go_wp2_with (go_at_call 118;(with_reducible refine (CV.out).mono ?_);rintro e w2 ⟨rfl,hb2⟩;replace HB:=aT HB hb2;clear hb2)
    go_ret
    exact ⟨_,rfl,by rw [HR.out];simp,HB.out⟩
   ·go_wp2_with (go_at_call 118;(with_reducible refine (CV.out).mono ?_);rintro e w2 ⟨rfl,hb2⟩;replace HB:=aT HB hb2;clear hb2)
    go_roundg (gk - 1)
    case measure=>omega
    case rel =>
     refine ⟨k+1,by omega,by go_num,HB.out,fun q hq hlt=>?_⟩
     rcases aj q k with h' | h'
     ·exact HA.out q hq h'
     ·obtain rfl:q=k:=by omega
      rw [HX.out];exact HBB.out
  ·have HR:=aI (all_good (b:=Sx.fldB) fun q hq=>HA.out q hq (by rw [HN.out] at hq;omega))
   have k1:¬ (k:Int) < (n:Int):=by omega
   go_wp2_with fail
   go_ret
   exact ⟨_,rfl,by rw [HR.out];rfl,HB.out⟩
theorem conF_any (l:List (Fld)) (A:Option Addr) (c g:Nat) (W:World) (hs:SlAt [] W A l) (hm:l.length<=9223372036854775807) (hp:∀ x∈l,(Sc.wts x).length<=1000000) (hg:W.cell? ⟨g,0,none⟩=some rtF) :
  Calls Tryz.prog 117 #[.slice A l.length c,oneF g] W (BoolP (!l.all Sx.fldB) W):=by
 have CI:=aI (idxF_any l A c g W hs hm hp hg)
 obtain ⟨n,hn⟩:=aX l.length
 rw [hn] at CI ⊢
 clear hs hm hn hp hg
 generalize oneF g=F at *
 go_enter Tryz.func117,Tryz.ntmps117
 go_wp2_with (go_at_call 155;(with_reducible refine (CI.out).mono ?_);rintro e w2 ⟨r,rfl,hr,hb2⟩;have HB:=aI hb2;have HR:=aI hr;clear hb2 hr)
 go_ret
 exact ⟨by rw [<-HR.out];rfl,HB.out⟩
theorem allF_any (l:List (Fld)) (A:Option Addr) (c:Nat) (w:World) (hs:SlAt [] w A l) (hm:l.length<=9223372036854775807) (hp:∀ x∈l,(Sc.wts x).length<=1000000) :
  Calls Tryz.prog 76 #[.slice A l.length c,rtF] w (BoolP (l.all Sx.fldB) w):=by
 have hB1:Below w.heap.size w (w.alloc (.cells #[rtF] 115)):=aP _ _
 have CC:=aI (conF_any l A c w.heap.size (w.alloc (.cells #[rtF] 115)) (hs.keep (Chg.of_below hB1)) hm hp (cell_box1 w _ _))
 obtain ⟨n,hn⟩:=aX l.length
 rw [hn] at CC ⊢
 generalize l.all Sx.fldB=r at *
 unfold rtF at CC hB1 ⊢
 unfold oneF at CC
 have HB1:=aI hB1
 clear hs hm hn hp hB1
 go_enter Tryz.func76,Tryz.ntmps76
 go_wp2_with (go_at_call 117;(with_reducible refine (CC.out).mono ?_);rintro e w2 ⟨rfl,hb2⟩;have HB:=aI (HB1.out.trans (hb2.mono HB1.out.size));clear hb2)
 go_ret
 exact ⟨by cases r <;> rfl,HB.out⟩
end
section
theorem isKind_any (x:Knd) (us:List Value) (w:World) (h:Mem.rep [] w x us) (hp:(Sc.flds x).length<=1000000/\∀ f∈Sc.flds x,(Sc.wts f).length<=1000000):Calls Tryz.prog 27 #[.agg us.toArray] w (BoolP (Sx.kndB x) w):=by
 obtain ⟨A1,cA,rfl,s1,a2,a3,a1,b1,b2⟩:=rep_knd h
 have C1:=aI (fun w=>isName_any x.1 w a1)
 have C2:=aI (span_any x.2.1 x.2.2.1 0 65536)
 have C4:=aI (fun (W':World) (hb:Below w.heap.size w W')=>allF_any (Sc.flds x) A1 cA W' (s1.keep (Chg.of_below hb)) (by omega) hp.2)
 unfold rtF at C4
 obtain ⟨W1,hW1⟩:=aX (w.alloc (.cells #[.string x.1,.int .i64 x.2.1,.int .i64 x.2.2.1,.slice A1 (Sc.flds x).length cA] 52))
 have HB:=aI (show Below w.heap.size w W1 by rw [<-hW1];exact aP _ _)
 have HB1:=aI (Below.refl W1.heap.size W1)
 have hbk:Blk W1 w.heap.size 52 #[.string x.1,.int .i64 x.2.1,.int .i64 x.2.2.1,.slice A1 (Sc.flds x).length cA]:=by rw [<-hW1];exact Blk.new w _ _
 obtain ⟨N,hN⟩:=aX w.heap.size
 rw [hN] at hbk
 have HBQ:=aI hbk
 obtain ⟨c0,c1,c2,c3⟩:=aN4 hbk.cell
 simp at c0 c1 c2 c3
 have HW1:=aI hW1
 show Calls Tryz.prog 27 #[.agg #[.string x.1,.int .i64 x.2.1,.int .i64 x.2.2.1,.slice A1 (Sc.flds x).length cA]] w _
 obtain ⟨q1,hq1⟩:=aX (Sx.nm x.1)
 rw [hq1] at C1
 obtain ⟨q2,hq2⟩:=aX (Sx.span x.2.1 x.2.2.1 0 65536)
 rw [hq2] at C2
 obtain ⟨q3,hq3⟩:=aX (decide ((Sc.flds x).length<=10))
 have hq3':decide (((Sc.flds x).length:Int)<=10)=q3:=by rw [<-hq3];exact le_cast _ 10
 obtain ⟨q4,hq4⟩:=aX ((Sc.flds x).all Sx.fldB)
 rw [hq4] at C4
 have HF:=aI (show Sx.kndB x=(q1 && (q2 && (q3 && q4))) by unfold Sx.kndB;rw [hq1,hq2,hq3,hq4])
 clear h hbk hW1 s1 a1 a2 a3 b1 b2 hp hq1 hq2 hq3 hq4
 generalize Sx.kndB x=fb at *
 generalize (Sc.flds x).length=nl at *
 go_enter Tryz.func27,Tryz.ntmps27
 go_upto_region 1 with fail
 rw [HW1.out]
 cases q1 <;> cases q2 <;> cases q3 <;> (go_wp2_with (first | (go_at_call 74;(with_reducible refine (C1.out _).mono ?_);rintro e w2 ⟨rfl,hb2⟩;have HB1:=aI (HB1.out.trans (hb2.mono HB1.out.size));have hbk:=HBQ.out.below hb2 HBQ.out.lt;have HBQ:=aI hbk;obtain ⟨c0,c1,c2,c3⟩:=aN4 hbk.cell;simp at c0 c1 c2 c3;clear hbk hb2) | (go_at_call 75;(with_reducible refine aS (C2.out _) ?_)) | (go_at_call 76;(with_reducible refine (C4.out _ (HB.out.trans (HB1.out.mono HB.out.size))).mono ?_);rintro e w2 ⟨rfl,hb2⟩;have HB1:=aI (HB1.out.trans (hb2.mono HB1.out.size));have hbk:=HBQ.out.below hb2 HBQ.out.lt;have HBQ:=aI hbk;obtain ⟨c0,c1,c2,c3⟩:=aN4 hbk.cell;simp at c0 c1 c2 c3;clear hbk hb2));go_ret;exact ⟨by rw [HF.out];first | rfl | (cases q4 <;> rfl),HB.out.trans (HB1.out.mono HB.out.size)⟩)
def rtK:Value:=.func (.func 27) #[] #[]
def oneK (g:Nat):Value:=.func (.func 73) #[] #[.pointer (some ⟨g,0,none⟩)]
theorem oneK_any (x:Knd) (us:List Value) (g:Nat) (w:World) (hr:Mem.rep [] w x us) (hp:(Sc.flds x).length<=1000000/\∀ f∈Sc.flds x,(Sc.wts f).length<=1000000) (hg:w.cell? ⟨g,0,none⟩=some rtK) :
  Calls Tryz.prog 73 #[.agg us.toArray,.pointer (some ⟨g,0,none⟩)] w (BoolP (!Sx.kndB x) w):=by
 have hr0:=hr
 obtain ⟨A1,cA,rfl,q1,q2,q3,q4,q5,q6⟩:=rep_knd hr
 clear q1 q2 q3 q4 q5 q6
 show Calls Tryz.prog 73 #[.agg #[.string x.1,.int .i64 x.2.1,.int .i64 x.2.2.1,.slice A1 (Sc.flds x).length cA],.pointer (some ⟨g,0,none⟩)] w (BoolP (!Sx.kndB x) w)
 have hB1:Below w.heap.size w (w.alloc (.cells #[.string x.1,.int .i64 x.2.1,.int .i64 x.2.2.1,.slice A1 (Sc.flds x).length cA] 52)):=aP _ _
 have hg1:(w.alloc (.cells #[.string x.1,.int .i64 x.2.1,.int .i64 x.2.2.1,.slice A1 (Sc.flds x).length cA] 52)).cell? ⟨g,0,none⟩=some rtK:=(hB1.cell (World.block_lt_of_cell? _ _ hg)).trans hg
 have hr9:=Mem.keep hr0 (Chg.of_below (G:=[]) hB1)
 have HC:=aI (isKind_any x _ (w.alloc (.cells #[.string x.1,.int .i64 x.2.1,.int .i64 x.2.2.1,.slice A1 (Sc.flds x).length cA] 52)) hr9 hp)
 obtain ⟨r,hrr⟩:=aX (Sx.kndB x)
 rw [hrr] at HC ⊢
 have HB1:=aI hB1
 unfold rtK at hg1
 clear hrr hr0 hr9 hp hg hB1
 go_enter Tryz.func73,Tryz.ntmps73
 go_wp2_with (go_at_call 27;(with_reducible refine (HC.out).mono ?_);rintro e w2 ⟨rfl,hb2⟩;have HB:=aI (HB1.out.trans (hb2.mono HB1.out.size));clear hb2)
 go_ret
 exact ⟨by cases r <;> rfl,HB.out⟩
theorem idxK_any (l:List (Knd)) (A:Option Addr) (c g:Nat) (W:World) (hs:SlAt [] W A l) (hm:l.length<=9223372036854775807) (hp:∀ x∈l,(Sc.flds x).length<=1000000/\∀ f∈Sc.flds x,(Sc.wts f).length<=1000000) (hg:W.cell? ⟨g,0,none⟩=some rtK) :
  Calls Tryz.prog 112 #[.slice A l.length c,oneK g] W (PredP (!l.all Sx.kndB) W):=by
 obtain ⟨n,hn⟩:=aX l.length
 have HS:=aI hs
 have HN:=aI hn
 have HP:=aI hp
 have HG:=aI hg
 rw [hn]
 rw [hn] at hm
 have HV:=aI (oneK_any)
 unfold oneK
 clear hs hn hp hg
 go_enter Tryz.func112,Tryz.ntmps112
 go_wp2_with fail
 go_loopg [8] n (fun r i wr=>∃ k:Nat,k+r=n/\i=.int .i64 k/\Below W.heap.size W wr/\∀ j (hj:j < l.length),j < k->Sx.kndB l[j]=true)
 case atStart=>exact ⟨0,by omega,rfl,Below.refl _ _,fun _ _ h=>by omega⟩
 case round =>
  obtain ⟨k,hk,rfl,hb,hall⟩:=hrel
  obtain ⟨wo,rfl⟩:=aY wr
  have HB:=aI hb
  have HA:=aI hall
  clear hb hall
  by_cases hlt:k < n
  ·have hkp:k < l.length:=by rw [HN.out];exact hlt
   have k0:(0:Int)<=(k:Int):=aa _
   have k1:(k:Int) < (n:Int):=by omega
   obtain ⟨b,o,us,rfl,_,hr,hc⟩:=(HS.out.keep (Chg.of_below HB.out)).get k hkp
   have cv:=HV.out l[k] us g wo hr (HP.out _ (List.getElem_mem hkp)) ((HB.out.cell (World.block_lt_of_cell? _ _ HG.out)).trans HG.out)
   obtain ⟨x,hx⟩:=aX (l[k])
   rw [hx] at cv hr
   have hr0:=hr
   obtain ⟨A1,cA,rfl,q1,q2,q3,q4,q5,q6⟩:=rep_knd hr
   clear q1 q2 q3 q4 q5 q6
   change Calls Tryz.prog 73 #[.agg #[.string x.1,.int .i64 x.2.1,.int .i64 x.2.2.1,.slice A1 (Sc.flds x).length cA],.pointer (some ⟨g,0,none⟩)] wo _ at cv
   obtain ⟨c0,c1,c2,c3⟩:=aG4 (m:=k*4) hc
   obtain ⟨bb,hbb⟩:=aX (Sx.kndB x)
   rw [hbb] at cv
   have CV:=aI cv
   have HX:=aI hx
   have HBB:=aI hbb
   clear cv hbb hr0 hc hx
   cases bb
   ·have HR:=aI (all_bad (b:=Sx.kndB) hkp (by rw [HX.out];exact HBB.out))
    go_wp2_with (go_at_call 73;(with_reducible refine (CV.out).mono ?_);rintro e w2 ⟨rfl,hb2⟩;replace HB:=aT HB hb2;clear hb2)
    go_ret
    exact ⟨_,rfl,by rw [HR.out];simp,HB.out⟩
   ·go_wp2_with (go_at_call 73;(with_reducible refine (CV.out).mono ?_);rintro e w2 ⟨rfl,hb2⟩;replace HB:=aT HB hb2;clear hb2)
    go_roundg (gk - 1)
    case measure=>omega
    case rel =>
     refine ⟨k+1,by omega,by go_num,HB.out,fun q hq hlt=>?_⟩
     rcases aj q k with h' | h'
     ·exact HA.out q hq h'
     ·obtain rfl:q=k:=by omega
      rw [HX.out];exact HBB.out
  ·have HR:=aI (all_good (b:=Sx.kndB) fun q hq=>HA.out q hq (by rw [HN.out] at hq;omega))
   have k1:¬ (k:Int) < (n:Int):=by omega
   go_wp2_with fail
   go_ret
   exact ⟨_,rfl,by rw [HR.out];rfl,HB.out⟩
theorem conK_any (l:List (Knd)) (A:Option Addr) (c g:Nat) (W:World) (hs:SlAt [] W A l) (hm:l.length<=9223372036854775807) (hp:∀ x∈l,(Sc.flds x).length<=1000000/\∀ f∈Sc.flds x,(Sc.wts f).length<=1000000) (hg:W.cell? ⟨g,0,none⟩=some rtK) :
  Calls Tryz.prog 72 #[.slice A l.length c,oneK g] W (BoolP (!l.all Sx.kndB) W):=by
 have CI:=aI (idxK_any l A c g W hs hm hp hg)
 obtain ⟨n,hn⟩:=aX l.length
 rw [hn] at CI ⊢
 clear hs hm hn hp hg
 generalize oneK g=F at *
 go_enter Tryz.func72,Tryz.ntmps72
 go_wp2_with (go_at_call 112;(with_reducible refine (CI.out).mono ?_);rintro e w2 ⟨r,rfl,hr,hb2⟩;have HB:=aI hb2;have HR:=aI hr;clear hb2 hr)
 go_ret
 exact ⟨by rw [<-HR.out];rfl,HB.out⟩
theorem allK_any (l:List (Knd)) (A:Option Addr) (c:Nat) (w:World) (hs:SlAt [] w A l) (hm:l.length<=9223372036854775807) (hp:∀ x∈l,(Sc.flds x).length<=1000000/\∀ f∈Sc.flds x,(Sc.wts f).length<=1000000) :
  Calls Tryz.prog 26 #[.slice A l.length c,rtK] w (BoolP (l.all Sx.kndB) w):=by
 have hB1:Below w.heap.size w (w.alloc (.cells #[rtK] 69)):=aP _ _
 have CC:=aI (conK_any l A c w.heap.size (w.alloc (.cells #[rtK] 69)) (hs.keep (Chg.of_below hB1)) hm hp (cell_box1 w _ _))
 obtain ⟨n,hn⟩:=aX l.length
 rw [hn] at CC ⊢
 generalize l.all Sx.kndB=r at *
 unfold rtK at CC hB1 ⊢
 unfold oneK at CC
 have HB1:=aI hB1
 clear hs hm hn hp hB1
 go_enter Tryz.func26,Tryz.ntmps26
 go_wp2_with (go_at_call 72;(with_reducible refine (CC.out).mono ?_);rintro e w2 ⟨rfl,hb2⟩;have HB:=aI (HB1.out.trans (hb2.mono HB1.out.size));clear hb2)
 go_ret
 exact ⟨by cases r <;> rfl,HB.out⟩
def Sx.mvB (n:Int) (m:Int × Int):Bool:=Sx.within m.1 0 (n - 1) && Sx.within m.2 0 (n - 1)
theorem isLife1_any (x:Int × Int) (gn:Nat) (n9:Int) (w:World) (hp:0<=n9/\n9<=9223372036854775807) (hq:w.cell? ⟨gn,0,none⟩=some (.int .i64 n9)):Calls Tryz.prog 82 #[.agg #[.int .i64 x.1,.int .i64 x.2],.pointer (some ⟨gn,0,none⟩)] w (BoolP (Sx.mvB n9 x) w):=by
 obtain ⟨a,b⟩:=x
 obtain ⟨n8,hn8⟩:=aX (n9 - 1)
 have hw:IntKind.i64.wrap (n9 - 1)=n8:=by rw [<-hn8];exact wrapI (by unfold inI;omega)
 have C1:=aI (within_any a 0 n8)
 have C2:=aI (within_any b 0 n8)
 obtain ⟨q1,h1⟩:=aX (Sx.within a 0 n8)
 obtain ⟨q2,h2⟩:=aX (Sx.within b 0 n8)
 rw [h1] at C1
 rw [h2] at C2
 have HF:=aI (show Sx.mvB n9 (a,b)=(q1 && q2) by unfold Sx.mvB;rw [hn8,h1,h2])
 have hlt:=World.block_lt_of_cell? _ _ hq
 have hB:Below w.heap.size w (w.alloc (.cells #[.int .i64 a,.int .i64 b] 58)):=aP _ _
 have hq2:=(hB.cell hlt).trans hq
 obtain ⟨W1,hW1⟩:=aX (w.alloc (.cells #[.int .i64 a,.int .i64 b] 58))
 have hbk:Blk W1 w.heap.size 58 #[.int .i64 a,.int .i64 b]:=by rw [<-hW1];exact Blk.new w _ _
 rw [hW1] at hB hq2
 obtain ⟨c0,c1⟩:=aN2 hbk.cell
 simp at c0 c1
 have HB:=aI hB
 have HW1:=aI hW1
 clear hbk hW1 hB hq hp hn8 h1 h2 hlt
 generalize Sx.mvB n9 (a,b)=fb at *
 go_enter Tryz.func82,Tryz.ntmps82
 go_upto_region 1 with fail
 rw [HW1.out]
 cases q1 <;> (go_wp2_with (first | (go_at_call 25;(with_reducible refine aS (C1.out _) ?_)) | (go_at_call 25;(with_reducible refine aS (C2.out _) ?_)));go_ret;exact ⟨by rw [HF.out];first | rfl | (cases q2 <;> rfl),HB.out⟩)
def rtM (gn:Nat):Value:=.func (.func 82) #[] #[.pointer (some ⟨gn,0,none⟩)]
def oneM (g:Nat):Value:=.func (.func 125) #[] #[.pointer (some ⟨g,0,none⟩)]
theorem oneM_any (gn:Nat) (n9:Int) (x:Int × Int) (us:List Value) (g:Nat) (w:World) (hr:Mem.rep [] w x us) (hp:0<=n9/\n9<=9223372036854775807) (hg:w.cell? ⟨g,0,none⟩=some (rtM gn)) (hq:w.cell? ⟨gn,0,none⟩=some (.int .i64 n9)) :
  Calls Tryz.prog 125 #[.agg us.toArray,.pointer (some ⟨g,0,none⟩)] w (BoolP (!(Sx.mvB n9) x) w):=by
 have hr0:=hr
 obtain ⟨rfl,q1,q2⟩:=rep_mv hr
 clear q1 q2
 show Calls Tryz.prog 125 #[.agg #[.int .i64 x.1,.int .i64 x.2],.pointer (some ⟨g,0,none⟩)] w (BoolP (!(Sx.mvB n9) x) w)
 have hB1:Below w.heap.size w (w.alloc (.cells #[.int .i64 x.1,.int .i64 x.2] 58)):=aP _ _
 have hg1:(w.alloc (.cells #[.int .i64 x.1,.int .i64 x.2] 58)).cell? ⟨g,0,none⟩=some (rtM gn):=(hB1.cell (World.block_lt_of_cell? _ _ hg)).trans hg
 have hr9:=Mem.keep hr0 (Chg.of_below (G:=[]) hB1)
 have hq1:=(hB1.cell (World.block_lt_of_cell? _ _ hq)).trans hq
 have HC:=aI (isLife1_any x gn n9 (w.alloc (.cells #[.int .i64 x.1,.int .i64 x.2] 58)) hp hq1)
 obtain ⟨r,hrr⟩:=aX ((Sx.mvB n9) x)
 rw [hrr] at HC ⊢
 have HB1:=aI hB1
 unfold rtM at hg1
 clear hrr hr0 hr9 hp hg hB1 hq
 go_enter Tryz.func125,Tryz.ntmps125
 go_wp2_with (go_at_call 82;(with_reducible refine (HC.out).mono ?_);rintro e w2 ⟨rfl,hb2⟩;have HB:=aI (HB1.out.trans (hb2.mono HB1.out.size));clear hb2)
 go_ret
 exact ⟨by cases r <;> rfl,HB.out⟩
theorem idxM_any (gn:Nat) (n9:Int) (l:List (Int × Int)) (A:Option Addr) (c g:Nat) (W:World) (hs:SlAt [] W A l) (hm:l.length<=9223372036854775807) (hp:∀ x∈l,0<=n9/\n9<=9223372036854775807) (hg:W.cell? ⟨g,0,none⟩=some (rtM gn)) (hq:W.cell? ⟨gn,0,none⟩=some (.int .i64 n9)) :
  Calls Tryz.prog 157 #[.slice A l.length c,oneM g] W (PredP (!l.all (Sx.mvB n9)) W):=by
 obtain ⟨n,hn⟩:=aX l.length
 have HS:=aI hs
 have HN:=aI hn
 have HP:=aI hp
 have HG:=aI hg
 rw [hn]
 rw [hn] at hm
 have HV:=aI (oneM_any gn n9)
 have HQ9:=aI hq
 unfold oneM
 clear hs hn hp hg hq
 go_enter Tryz.func157,Tryz.ntmps157
 go_wp2_with fail
 go_loopg [8] n (fun r i wr=>∃ k:Nat,k+r=n/\i=.int .i64 k/\Below W.heap.size W wr/\∀ j (hj:j < l.length),j < k->(Sx.mvB n9) l[j]=true)
 case atStart=>exact ⟨0,by omega,rfl,Below.refl _ _,fun _ _ h=>by omega⟩
 case round =>
  obtain ⟨k,hk,rfl,hb,hall⟩:=hrel
  obtain ⟨wo,rfl⟩:=aY wr
  have HB:=aI hb
  have HA:=aI hall
  clear hb hall
  by_cases hlt:k < n
  ·have hkp:k < l.length:=by rw [HN.out];exact hlt
   have k0:(0:Int)<=(k:Int):=aa _
   have k1:(k:Int) < (n:Int):=by omega
   obtain ⟨b,o,us,rfl,_,hr,hc⟩:=(HS.out.keep (Chg.of_below HB.out)).get k hkp
   have cv:=HV.out l[k] us g wo hr (HP.out _ (List.getElem_mem hkp)) ((HB.out.cell (World.block_lt_of_cell? _ _ HG.out)).trans HG.out) ((HB.out.cell (World.block_lt_of_cell? _ _ HQ9.out)).trans HQ9.out)
   obtain ⟨x,hx⟩:=aX (l[k])
   rw [hx] at cv hr
   have hr0:=hr
   obtain ⟨rfl,q1,q2⟩:=rep_mv hr
   clear q1 q2
   change Calls Tryz.prog 125 #[.agg #[.int .i64 x.1,.int .i64 x.2],.pointer (some ⟨g,0,none⟩)] wo _ at cv
   have c0:wo.cell? ⟨b,o+k*2,none⟩=some (.int .i64 x.1):=hc 0 _ rfl
   have c1:wo.cell? ⟨b,o+k*2+1,none⟩=some (.int .i64 x.2):=hc 1 _ rfl
   obtain ⟨bb,hbb⟩:=aX ((Sx.mvB n9) x)
   rw [hbb] at cv
   have CV:=aI cv
   have HX:=aI hx
   have HBB:=aI hbb
   clear cv hbb hr0 hc hx
   cases bb
   ·have HR:=aI (all_bad (b:=(Sx.mvB n9)) hkp (by rw [HX.out];exact HBB.out))
    go_wp2_with (go_at_call 125;(with_reducible refine (CV.out).mono ?_);rintro e w2 ⟨rfl,hb2⟩;replace HB:=aT HB hb2;clear hb2)
    go_ret
    exact ⟨_,rfl,by rw [HR.out];simp,HB.out⟩
   ·go_wp2_with (go_at_call 125;(with_reducible refine (CV.out).mono ?_);rintro e w2 ⟨rfl,hb2⟩;replace HB:=aT HB hb2;clear hb2)
    go_roundg (gk - 1)
    case measure=>omega
    case rel =>
     refine ⟨k+1,by omega,by go_num,HB.out,fun q hq hlt=>?_⟩
     rcases aj q k with h' | h'
     ·exact HA.out q hq h'
     ·obtain rfl:q=k:=by omega
      rw [HX.out];exact HBB.out
  ·have HR:=aI (all_good (b:=(Sx.mvB n9)) fun q hq=>HA.out q hq (by rw [HN.out] at hq;omega))
   have k1:¬ (k:Int) < (n:Int):=by omega
   go_wp2_with fail
   go_ret
   exact ⟨_,rfl,by rw [HR.out];rfl,HB.out⟩
theorem conM_any (gn:Nat) (n9:Int) (l:List (Int × Int)) (A:Option Addr) (c g:Nat) (W:World) (hs:SlAt [] W A l) (hm:l.length<=9223372036854775807) (hp:∀ x∈l,0<=n9/\n9<=9223372036854775807) (hg:W.cell? ⟨g,0,none⟩=some (rtM gn)) (hq:W.cell? ⟨gn,0,none⟩=some (.int .i64 n9)) :
  Calls Tryz.prog 124 #[.slice A l.length c,oneM g] W (BoolP (!l.all (Sx.mvB n9)) W):=by
 have CI:=aI (idxM_any gn n9 l A c g W hs hm hp hg hq)
 obtain ⟨n,hn⟩:=aX l.length
 rw [hn] at CI ⊢
 clear hs hm hn hp hg hq
 generalize oneM g=F at *
 go_enter Tryz.func124,Tryz.ntmps124
 go_wp2_with (go_at_call 157;(with_reducible refine (CI.out).mono ?_);rintro e w2 ⟨r,rfl,hr,hb2⟩;have HB:=aI hb2;have HR:=aI hr;clear hb2 hr)
 go_ret
 exact ⟨by rw [<-HR.out];rfl,HB.out⟩
theorem allM_any (gn:Nat) (n9:Int) (l:List (Int × Int)) (A:Option Addr) (c:Nat) (w:World) (hs:SlAt [] w A l) (hm:l.length<=9223372036854775807) (hp:∀ x∈l,0<=n9/\n9<=9223372036854775807) (hq:w.cell? ⟨gn,0,none⟩=some (.int .i64 n9)) :
  Calls Tryz.prog 81 #[.slice A l.length c,(rtM gn)] w (BoolP (l.all (Sx.mvB n9)) w):=by
 have hB1:Below w.heap.size w (w.alloc (.cells #[(rtM gn)] 118)):=aP _ _
 have CC:=aI (conM_any gn n9 l A c w.heap.size (w.alloc (.cells #[(rtM gn)] 118)) (hs.keep (Chg.of_below hB1)) hm hp (cell_box1 w _ _) ((hB1.cell (World.block_lt_of_cell? _ _ hq)).trans hq))
 obtain ⟨n,hn⟩:=aX l.length
 rw [hn] at CC ⊢
 generalize l.all (Sx.mvB n9)=r at *
 unfold rtM at CC hB1 ⊢
 unfold oneM at CC
 have HB1:=aI hB1
 clear hs hm hn hp hB1 hq
 go_enter Tryz.func81,Tryz.ntmps81
 go_wp2_with (go_at_call 124;(with_reducible refine (CC.out).mono ?_);rintro e w2 ⟨rfl,hb2⟩;have HB:=aI (HB1.out.trans (hb2.mono HB1.out.size));clear hb2)
 go_ret
 exact ⟨by cases r <;> rfl,HB.out⟩
theorem lifB_is (x:Lif):Sx.lifB x=(Sx.nm x.1 && (Sx.within x.2.1.length 1 12 && (x.2.1.all Sx.nm && (decide (x.2.2.length<=32) && x.2.2.all (Sx.mvB x.2.1.length))))):=rfl
theorem isLife_any (x:Lif) (us:List Value) (w:World) (h:Mem.rep [] w x us) (hp:x.2.1.length<=1000000/\x.2.2.length<=1000000):Calls Tryz.prog 29 #[.agg us.toArray] w (BoolP (Sx.lifB x) w):=by
 obtain ⟨A1,cA,B1,dB,rfl,s1,s2,a1,b1,b2,e1,e2⟩:=rep_lif h
 have C1:=aI (fun w=>isName_any x.1 w a1)
 have C2:=aI (within_any x.2.1.length 1 12)
 obtain ⟨W0,hW0⟩:=aX (w.alloc (.cells #[.string x.1,.slice A1 x.2.1.length cA,.slice B1 x.2.2.length dB] 57))
 have hB0:Below w.heap.size w W0:=by rw [<-hW0];exact aP _ _
 have hbk0:Blk W0 w.heap.size 57 #[.string x.1,.slice A1 x.2.1.length cA,.slice B1 x.2.2.length dB]:=by rw [<-hW0];exact Blk.new w _ _
 obtain ⟨W1,hW1⟩:=aX (W0.alloc (.cells #[.int .i64 (x.2.1.length:Int)] 3))
 have hB1:Below w.heap.size w W1:=by rw [<-hW1];exact hB0.alloc hB0.size _
 have hbk:Blk W1 w.heap.size 57 #[.string x.1,.slice A1 x.2.1.length cA,.slice B1 x.2.2.length dB]:=by rw [<-hW1];exact hbk0.alloc _
 have hbn:Blk W1 (w.heap.size+1) 3 #[.int .i64 (x.2.1.length:Int)]:=by
  have hz:W0.heap.size=w.heap.size+1:=by rw [<-hW0];show (w.heap.push _).size=_;rw [Array.size_push]
  rw [<-hW1,<-hz];exact Blk.new W0 _ _
 obtain ⟨N,hN⟩:=aX w.heap.size
 rw [hN] at hbk hbn hbk0
 have k0:=hbk0.cell 1
 simp at k0
 have HB:=aI hB1
 have HB1:=aI (Below.refl W1.heap.size W1)
 have HBQ:=aI hbk
 have HBN:=aI hbn
 have C3:=aI (fun (W':World) (hb:Below w.heap.size w W')=>allS_any x.2.1 A1 cA W' (s1.keep (Chg.of_below hb)) (by omega) (fun _ _=>trivial))
 have C5:=aI (fun (W':World) (hb:Below w.heap.size w W') (hq:W'.cell? ⟨N+1,0,none⟩=some (.int .i64 (x.2.1.length:Int)))=>allM_any (N+1) (x.2.1.length:Int) x.2.2 B1 dB W' (s2.keep (Chg.of_below hb)) (by omega) (fun _ _=>by omega) hq)
 unfold rtS at C3
 unfold rtM at C5
 obtain ⟨c0,c1,c2⟩:=aN3 hbk.cell;have cn:=hbn.cell 0
 simp at c0 c1 c2 cn
 have HW0:=aI hW0
 have HW1:=aI hW1
 show Calls Tryz.prog 29 #[.agg #[.string x.1,.slice A1 x.2.1.length cA,.slice B1 x.2.2.length dB]] w _
 obtain ⟨q1,hq1⟩:=aX (Sx.nm x.1)
 obtain ⟨q2,hq2⟩:=aX (Sx.within x.2.1.length 1 12)
 obtain ⟨q3,hq3⟩:=aX (x.2.1.all Sx.nm)
 obtain ⟨q4,hq4⟩:=aX (decide (x.2.2.length<=32))
 obtain ⟨q5,hq5⟩:=aX (x.2.2.all (Sx.mvB x.2.1.length))
 rw [hq1] at C1
 rw [hq2] at C2
 rw [hq3] at C3
 rw [hq5] at C5
 have hq4':decide ((x.2.2.length:Int)<=32)=q4:=by rw [<-hq4];exact le_cast _ 32
 have HF:=aI (show Sx.lifB x=(q1 && (q2 && (q3 && (q4 && q5)))) by rw [lifB_is,hq1,hq2,hq3,hq4,hq5])
 clear h hbk hbn hbk0 hW1 hW0 hB0 hB1 s1 s2 a1 b1 b2 e1 e2 hp hq1 hq2 hq3 hq4 hq5
 generalize Sx.lifB x=fb at *
 generalize x.2.1.length=sl at *
 generalize x.2.2.length=ml at *
 go_enter Tryz.func29,Tryz.ntmps29
 go_upto_region 1 with fail
 rw [HW0.out]
 go_upto_region 2 with fail
 rw [HW1.out]
 (try clear k0)
 have hz0:W0.heap.size=N+1:=by rw [<-HW0.out];show (w.heap.push _).size=_;rw [Array.size_push,hN]
 (try rw [hz0])
 cases q1 <;> cases q2 <;> cases q3 <;> cases q4 <;> (go_wp2_with (first | (go_at_call 74;(with_reducible refine (C1.out _).mono ?_);rintro e w2 ⟨rfl,hb2⟩;have HB1:=aI (HB1.out.trans (hb2.mono HB1.out.size));have hbk:=HBQ.out.below hb2 HBQ.out.lt;have HBQ:=aI hbk;have hbn:=HBN.out.below hb2 HBN.out.lt;have HBN:=aI hbn;obtain ⟨c0,c1,c2⟩:=aN3 hbk.cell;have cn:=hbn.cell 0;simp at c0 c1 c2 cn;clear hbk hbn hb2) | (go_at_call 25;(with_reducible refine aS (C2.out _) ?_)) | (go_at_call 80;(with_reducible refine (C3.out _ (HB.out.trans (HB1.out.mono HB.out.size))).mono ?_);rintro e w2 ⟨rfl,hb2⟩;have HB1:=aI (HB1.out.trans (hb2.mono HB1.out.size));have hbk:=HBQ.out.below hb2 HBQ.out.lt;have HBQ:=aI hbk;have hbn:=HBN.out.below hb2 HBN.out.lt;have HBN:=aI hbn;obtain ⟨c0,c1,c2⟩:=aN3 hbk.cell;have cn:=hbn.cell 0;simp at c0 c1 c2 cn;clear hbk hbn hb2) | (go_at_call 81;(with_reducible refine (C5.out _ (HB.out.trans (HB1.out.mono HB.out.size)) cn).mono ?_);rintro e w2 ⟨rfl,hb2⟩;have HB1:=aI (HB1.out.trans (hb2.mono HB1.out.size));have hbk:=HBQ.out.below hb2 HBQ.out.lt;have HBQ:=aI hbk;have hbn:=HBN.out.below hb2 HBN.out.lt;have HBN:=aI hbn;obtain ⟨c0,c1,c2⟩:=aN3 hbk.cell;have cn:=hbn.cell 0;simp at c0 c1 c2 cn;clear hbk hbn hb2));go_ret;exact ⟨by rw [HF.out];first | rfl | (cases q5 <;> rfl),HB.out.trans (HB1.out.mono HB.out.size)⟩)
def rtL:Value:=.func (.func 29) #[] #[]
def oneL (g:Nat):Value:=.func (.func 79) #[] #[.pointer (some ⟨g,0,none⟩)]
theorem oneL_any (x:Lif) (us:List Value) (g:Nat) (w:World) (hr:Mem.rep [] w x us) (hp:x.2.1.length<=1000000/\x.2.2.length<=1000000) (hg:w.cell? ⟨g,0,none⟩=some rtL) :
  Calls Tryz.prog 79 #[.agg us.toArray,.pointer (some ⟨g,0,none⟩)] w (BoolP (!Sx.lifB x) w):=by
 have hr0:=hr
 obtain ⟨A1,cA,B1,dB,rfl,q1,q2,q3,q4,q5,q6,q7⟩:=rep_lif hr
 clear q1 q2 q3 q4 q5 q6 q7
 show Calls Tryz.prog 79 #[.agg #[.string x.1,.slice A1 x.2.1.length cA,.slice B1 x.2.2.length dB],.pointer (some ⟨g,0,none⟩)] w (BoolP (!Sx.lifB x) w)
 have hB1:Below w.heap.size w (w.alloc (.cells #[.string x.1,.slice A1 x.2.1.length cA,.slice B1 x.2.2.length dB] 57)):=aP _ _
 have hg1:(w.alloc (.cells #[.string x.1,.slice A1 x.2.1.length cA,.slice B1 x.2.2.length dB] 57)).cell? ⟨g,0,none⟩=some rtL:=(hB1.cell (World.block_lt_of_cell? _ _ hg)).trans hg
 have hr9:=Mem.keep hr0 (Chg.of_below (G:=[]) hB1)
 have HC:=aI (isLife_any x _ (w.alloc (.cells #[.string x.1,.slice A1 x.2.1.length cA,.slice B1 x.2.2.length dB] 57)) hr9 hp)
 obtain ⟨r,hrr⟩:=aX (Sx.lifB x)
 rw [hrr] at HC ⊢
 have HB1:=aI hB1
 unfold rtL at hg1
 clear hrr hr0 hr9 hp hg hB1
 go_enter Tryz.func79,Tryz.ntmps79
 go_wp2_with (go_at_call 29;(with_reducible refine (HC.out).mono ?_);rintro e w2 ⟨rfl,hb2⟩;have HB:=aI (HB1.out.trans (hb2.mono HB1.out.size));clear hb2)
 go_ret
 exact ⟨by cases r <;> rfl,HB.out⟩
theorem idxL_any (l:List (Lif)) (A:Option Addr) (c g:Nat) (W:World) (hs:SlAt [] W A l) (hm:l.length<=9223372036854775807) (hp:∀ x∈l,x.2.1.length<=1000000/\x.2.2.length<=1000000) (hg:W.cell? ⟨g,0,none⟩=some rtL) :
  Calls Tryz.prog 121 #[.slice A l.length c,oneL g] W (PredP (!l.all Sx.lifB) W):=by
 obtain ⟨n,hn⟩:=aX l.length
 have HS:=aI hs
 have HN:=aI hn
 have HP:=aI hp
 have HG:=aI hg
 rw [hn]
 rw [hn] at hm
 have HV:=aI (oneL_any)
 unfold oneL
 clear hs hn hp hg
 go_enter Tryz.func121,Tryz.ntmps121
 go_wp2_with fail
 go_loopg [8] n (fun r i wr=>∃ k:Nat,k+r=n/\i=.int .i64 k/\Below W.heap.size W wr/\∀ j (hj:j < l.length),j < k->Sx.lifB l[j]=true)
 case atStart=>exact ⟨0,by omega,rfl,Below.refl _ _,fun _ _ h=>by omega⟩
 case round =>
  obtain ⟨k,hk,rfl,hb,hall⟩:=hrel
  obtain ⟨wo,rfl⟩:=aY wr
  have HB:=aI hb
  have HA:=aI hall
  clear hb hall
  by_cases hlt:k < n
  ·have hkp:k < l.length:=by rw [HN.out];exact hlt
   have k0:(0:Int)<=(k:Int):=aa _
   have k1:(k:Int) < (n:Int):=by omega
   obtain ⟨b,o,us,rfl,_,hr,hc⟩:=(HS.out.keep (Chg.of_below HB.out)).get k hkp
   have cv:=HV.out l[k] us g wo hr (HP.out _ (List.getElem_mem hkp)) ((HB.out.cell (World.block_lt_of_cell? _ _ HG.out)).trans HG.out)
   obtain ⟨x,hx⟩:=aX (l[k])
   rw [hx] at cv hr
   have hr0:=hr
   obtain ⟨A1,cA,B1,dB,rfl,q1,q2,q3,q4,q5,q6,q7⟩:=rep_lif hr
   clear q1 q2 q3 q4 q5 q6 q7
   change Calls Tryz.prog 79 #[.agg #[.string x.1,.slice A1 x.2.1.length cA,.slice B1 x.2.2.length dB],.pointer (some ⟨g,0,none⟩)] wo _ at cv
   obtain ⟨c0,c1,c2⟩:=aG3 (m:=k*3) hc
   obtain ⟨bb,hbb⟩:=aX (Sx.lifB x)
   rw [hbb] at cv
   have CV:=aI cv
   have HX:=aI hx
   have HBB:=aI hbb
   clear cv hbb hr0 hc hx
   cases bb
   ·have HR:=aI (all_bad (b:=Sx.lifB) hkp (by rw [HX.out];exact HBB.out))
    go_wp2_with (go_at_call 79;(with_reducible refine (CV.out).mono ?_);rintro e w2 ⟨rfl,hb2⟩;replace HB:=aT HB hb2;clear hb2)
    go_ret
    exact ⟨_,rfl,by rw [HR.out];simp,HB.out⟩
   ·go_wp2_with (go_at_call 79;(with_reducible refine (CV.out).mono ?_);rintro e w2 ⟨rfl,hb2⟩;replace HB:=aT HB hb2;clear hb2)
    go_roundg (gk - 1)
    case measure=>omega
    case rel =>
     refine ⟨k+1,by omega,by go_num,HB.out,fun q hq hlt=>?_⟩
     rcases aj q k with h' | h'
     ·exact HA.out q hq h'
     ·obtain rfl:q=k:=by omega
      rw [HX.out];exact HBB.out
  ·have HR:=aI (all_good (b:=Sx.lifB) fun q hq=>HA.out q hq (by rw [HN.out] at hq;omega))
   have k1:¬ (k:Int) < (n:Int):=by omega
   go_wp2_with fail
   go_ret
   exact ⟨_,rfl,by rw [HR.out];rfl,HB.out⟩
theorem conL_any (l:List (Lif)) (A:Option Addr) (c g:Nat) (W:World) (hs:SlAt [] W A l) (hm:l.length<=9223372036854775807) (hp:∀ x∈l,x.2.1.length<=1000000/\x.2.2.length<=1000000) (hg:W.cell? ⟨g,0,none⟩=some rtL) :
  Calls Tryz.prog 78 #[.slice A l.length c,oneL g] W (BoolP (!l.all Sx.lifB) W):=by
 have CI:=aI (idxL_any l A c g W hs hm hp hg)
 obtain ⟨n,hn⟩:=aX l.length
 rw [hn] at CI ⊢
 clear hs hm hn hp hg
 generalize oneL g=F at *
 go_enter Tryz.func78,Tryz.ntmps78
 go_wp2_with (go_at_call 121;(with_reducible refine (CI.out).mono ?_);rintro e w2 ⟨r,rfl,hr,hb2⟩;have HB:=aI hb2;have HR:=aI hr;clear hb2 hr)
 go_ret
 exact ⟨by rw [<-HR.out];rfl,HB.out⟩
theorem allL_any (l:List (Lif)) (A:Option Addr) (c:Nat) (w:World) (hs:SlAt [] w A l) (hm:l.length<=9223372036854775807) (hp:∀ x∈l,x.2.1.length<=1000000/\x.2.2.length<=1000000) :
  Calls Tryz.prog 28 #[.slice A l.length c,rtL] w (BoolP (l.all Sx.lifB) w):=by
 have hB1:Below w.heap.size w (w.alloc (.cells #[rtL] 71)):=aP _ _
 have CC:=aI (conL_any l A c w.heap.size (w.alloc (.cells #[rtL] 71)) (hs.keep (Chg.of_below hB1)) hm hp (cell_box1 w _ _))
 obtain ⟨n,hn⟩:=aX l.length
 rw [hn] at CC ⊢
 generalize l.all Sx.lifB=r at *
 unfold rtL at CC hB1 ⊢
 unfold oneL at CC
 have HB1:=aI hB1
 clear hs hm hn hp hB1
 go_enter Tryz.func28,Tryz.ntmps28
 go_wp2_with (go_at_call 78;(with_reducible refine (CC.out).mono ?_);rintro e w2 ⟨rfl,hb2⟩;have HB:=aI (HB1.out.trans (hb2.mono HB1.out.size));clear hb2)
 go_ret
 exact ⟨by cases r <;> rfl,HB.out⟩
theorem em_add (a b:ByteArray):Sx.em (a++b)=(Sx.em a && Sx.em b):=by
 unfold Sx.em
 rw [ByteArray.size_append,Bool.eq_iff_iff]
 simp
theorem isRule_any (x:Rul) (us:List Value) (w:World) (h:Mem.rep [] w x us) (hp:x.2.2.1.size+x.2.2.2.1.size<=9223372036854775807):Calls Tryz.prog 31 #[.agg us.toArray] w (BoolP (Sx.rulB x) w):=by
 obtain ⟨rfl,a1,a2,a3,a4,a5⟩:=rep_rul h
 have C1:=aI (fun w=>isName_any x.1 w a1)
 have C2:=aI (fun w=>isName_any x.2.1 w a2)
 have C3:=aI (fun w=>isName_any x.2.2.1 w a3)
 have C4:=aI (fun w=>isName_any x.2.2.2.1 w a4)
 have C6:=aI (within_any x.2.2.2.2 (-1048576) 1048576)
 obtain ⟨y1,y2,y3⟩:=em_spell x.2.2.1
 obtain ⟨y4,y5,y6⟩:=em_spell x.2.2.2.1
 obtain ⟨y7,y8,y9⟩:=em_spell (x.2.2.1++x.2.2.2.1)
 have hadd:Sx.em (x.2.2.1++x.2.2.2.1)=(Sx.em x.2.2.1 && Sx.em x.2.2.2.1):=em_add _ _
 rw [hadd] at y7 y8 y9
 clear hadd
 obtain ⟨W1,hW1⟩:=aX (w.alloc (.cells #[.string x.1,.string x.2.1,.string x.2.2.1,.string x.2.2.2.1,.int .i64 x.2.2.2.2] 60))
 have HB:=aI (show Below w.heap.size w W1 by rw [<-hW1];exact aP _ _)
 have HB1:=aI (Below.refl W1.heap.size W1)
 have hbk:Blk W1 w.heap.size 60 #[.string x.1,.string x.2.1,.string x.2.2.1,.string x.2.2.2.1,.int .i64 x.2.2.2.2]:=by rw [<-hW1];exact Blk.new w _ _
 obtain ⟨N,hN⟩:=aX w.heap.size
 rw [hN] at hbk
 have HBQ:=aI hbk
 obtain ⟨c0,c1,c2,c3,c4⟩:=aN5 hbk.cell
 simp at c0 c1 c2 c3 c4
 have HW1:=aI hW1
 show Calls Tryz.prog 31 #[.agg #[.string x.1,.string x.2.1,.string x.2.2.1,.string x.2.2.2.1,.int .i64 x.2.2.2.2]] w _
 obtain ⟨q1,hq1⟩:=aX (Sx.nm x.1)
 rw [hq1] at C1
 obtain ⟨q2,hq2⟩:=aX (Sx.nm x.2.1)
 rw [hq2] at C2
 obtain ⟨q3,hq3⟩:=aX (Sx.em x.2.2.1)
 rw [hq3] at y1 y2 y3 y7 y8 y9
 obtain ⟨q4,hq4⟩:=aX (Sx.nm x.2.2.1)
 rw [hq4] at C3
 obtain ⟨q5,hq5⟩:=aX (Sx.em x.2.2.2.1)
 rw [hq5] at y4 y5 y6 y7 y8 y9
 obtain ⟨q6,hq6⟩:=aX (Sx.nm x.2.2.2.1)
 rw [hq6] at C4
 obtain ⟨q7,hq7⟩:=aX (Sx.within x.2.2.2.2 (-Sx.most) Sx.most)
 rw [show Sx.within x.2.2.2.2 (-1048576) 1048576=q7 from hq7] at C6
 have HF:=aI (show Sx.rulB x=(q1 && (q2 && ((q3 || q4) && ((q5 || q6) && (!(q3 && q5) && q7))))) by unfold Sx.rulB;rw [hq1,hq2,hq3,hq4,hq5,hq6,hq7])
 clear h hbk hW1 a1 a2 a3 a4 a5 hq1 hq2 hq3 hq4 hq5 hq6 hq7
 generalize Sx.rulB x=fb at *
 generalize x.1=s1 at *
 generalize x.2.1=s2 at *
 generalize x.2.2.1=s3 at *
 generalize x.2.2.2.1=s4 at *
 generalize x.2.2.2.2=nn at *
 go_enter Tryz.func31,Tryz.ntmps31
 go_upto_region 1 with fail
 rw [HW1.out]
 cases q1 <;> cases q2 <;> cases q3 <;> cases q4 <;> cases q5 <;> cases q6 <;> (go_wp2_with (first | (go_at_call 74;(with_reducible refine (C1.out _).mono ?_);rintro e w2 ⟨rfl,hb2⟩;have HB1:=aI (HB1.out.trans (hb2.mono HB1.out.size));have hbk:=HBQ.out.below hb2 HBQ.out.lt;have HBQ:=aI hbk;obtain ⟨c0,c1,c2,c3,c4⟩:=aN5 hbk.cell;simp at c0 c1 c2 c3 c4;clear hbk hb2) | (go_at_call 74;(with_reducible refine (C2.out _).mono ?_);rintro e w2 ⟨rfl,hb2⟩;have HB1:=aI (HB1.out.trans (hb2.mono HB1.out.size));have hbk:=HBQ.out.below hb2 HBQ.out.lt;have HBQ:=aI hbk;obtain ⟨c0,c1,c2,c3,c4⟩:=aN5 hbk.cell;simp at c0 c1 c2 c3 c4;clear hbk hb2) | (go_at_call 74;(with_reducible refine (C3.out _).mono ?_);rintro e w2 ⟨rfl,hb2⟩;have HB1:=aI (HB1.out.trans (hb2.mono HB1.out.size));have hbk:=HBQ.out.below hb2 HBQ.out.lt;have HBQ:=aI hbk;obtain ⟨c0,c1,c2,c3,c4⟩:=aN5 hbk.cell;simp at c0 c1 c2 c3 c4;clear hbk hb2) | (go_at_call 74;(with_reducible refine (C4.out _).mono ?_);rintro e w2 ⟨rfl,hb2⟩;have HB1:=aI (HB1.out.trans (hb2.mono HB1.out.size));have hbk:=HBQ.out.below hb2 HBQ.out.lt;have HBQ:=aI hbk;obtain ⟨c0,c1,c2,c3,c4⟩:=aN5 hbk.cell;simp at c0 c1 c2 c3 c4;clear hbk hb2) | (go_at_call 25;(with_reducible refine aS (C6.out _) ?_)));go_ret;exact ⟨by rw [HF.out];first | rfl | (cases q7 <;> rfl),HB.out.trans (HB1.out.mono HB.out.size)⟩)
def rtR:Value:=.func (.func 31) #[] #[]
def oneR (g:Nat):Value:=.func (.func 84) #[] #[.pointer (some ⟨g,0,none⟩)]
theorem oneR_any (x:Rul) (us:List Value) (g:Nat) (w:World) (hr:Mem.rep [] w x us) (hp:x.2.2.1.size+x.2.2.2.1.size<=9223372036854775807) (hg:w.cell? ⟨g,0,none⟩=some rtR) :
  Calls Tryz.prog 84 #[.agg us.toArray,.pointer (some ⟨g,0,none⟩)] w (BoolP (!Sx.rulB x) w):=by
 have hr0:=hr
 obtain ⟨rfl,q1,q2,q3,q4,q5⟩:=rep_rul hr
 clear q1 q2 q3 q4 q5
 show Calls Tryz.prog 84 #[.agg #[.string x.1,.string x.2.1,.string x.2.2.1,.string x.2.2.2.1,.int .i64 x.2.2.2.2],.pointer (some ⟨g,0,none⟩)] w (BoolP (!Sx.rulB x) w)
 have hB1:Below w.heap.size w (w.alloc (.cells #[.string x.1,.string x.2.1,.string x.2.2.1,.string x.2.2.2.1,.int .i64 x.2.2.2.2] 60)):=aP _ _
 have hg1:(w.alloc (.cells #[.string x.1,.string x.2.1,.string x.2.2.1,.string x.2.2.2.1,.int .i64 x.2.2.2.2] 60)).cell? ⟨g,0,none⟩=some rtR:=(hB1.cell (World.block_lt_of_cell? _ _ hg)).trans hg
 have hr9:=Mem.keep hr0 (Chg.of_below (G:=[]) hB1)
 have HC:=aI (isRule_any x _ (w.alloc (.cells #[.string x.1,.string x.2.1,.string x.2.2.1,.string x.2.2.2.1,.int .i64 x.2.2.2.2] 60)) hr9 hp)
 obtain ⟨r,hrr⟩:=aX (Sx.rulB x)
 rw [hrr] at HC ⊢
 have HB1:=aI hB1
 unfold rtR at hg1
 clear hrr hr0 hr9 hp hg hB1
 go_enter Tryz.func84,Tryz.ntmps84
 go_wp2_with (go_at_call 31;(with_reducible refine (HC.out).mono ?_);rintro e w2 ⟨rfl,hb2⟩;have HB:=aI (HB1.out.trans (hb2.mono HB1.out.size));clear hb2)
 go_ret
 exact ⟨by cases r <;> rfl,HB.out⟩
theorem idxR_any (l:List (Rul)) (A:Option Addr) (c g:Nat) (W:World) (hs:SlAt [] W A l) (hm:l.length<=9223372036854775807) (hp:∀ x∈l,x.2.2.1.size+x.2.2.2.1.size<=9223372036854775807) (hg:W.cell? ⟨g,0,none⟩=some rtR) :
  Calls Tryz.prog 126 #[.slice A l.length c,oneR g] W (PredP (!l.all Sx.rulB) W):=by
 obtain ⟨n,hn⟩:=aX l.length
 have HS:=aI hs
 have HN:=aI hn
 have HP:=aI hp
 have HG:=aI hg
 rw [hn]
 rw [hn] at hm
 have HV:=aI (oneR_any)
 unfold oneR
 clear hs hn hp hg
 go_enter Tryz.func126,Tryz.ntmps126
 go_wp2_with fail
 go_loopg [8] n (fun r i wr=>∃ k:Nat,k+r=n/\i=.int .i64 k/\Below W.heap.size W wr/\∀ j (hj:j < l.length),j < k->Sx.rulB l[j]=true)
 case atStart=>exact ⟨0,by omega,rfl,Below.refl _ _,fun _ _ h=>by omega⟩
 case round =>
  obtain ⟨k,hk,rfl,hb,hall⟩:=hrel
  obtain ⟨wo,rfl⟩:=aY wr
  have HB:=aI hb
  have HA:=aI hall
  clear hb hall
  by_cases hlt:k < n
  ·have hkp:k < l.length:=by rw [HN.out];exact hlt
   have k0:(0:Int)<=(k:Int):=aa _
   have k1:(k:Int) < (n:Int):=by omega
   obtain ⟨b,o,us,rfl,_,hr,hc⟩:=(HS.out.keep (Chg.of_below HB.out)).get k hkp
   have cv:=HV.out l[k] us g wo hr (HP.out _ (List.getElem_mem hkp)) ((HB.out.cell (World.block_lt_of_cell? _ _ HG.out)).trans HG.out)
   obtain ⟨x,hx⟩:=aX (l[k])
   rw [hx] at cv hr
   have hr0:=hr
   obtain ⟨rfl,q1,q2,q3,q4,q5⟩:=rep_rul hr
   clear q1 q2 q3 q4 q5
   change Calls Tryz.prog 84 #[.agg #[.string x.1,.string x.2.1,.string x.2.2.1,.string x.2.2.2.1,.int .i64 x.2.2.2.2],.pointer (some ⟨g,0,none⟩)] wo _ at cv
   obtain ⟨c0,c1,c2,c3,c4⟩:=aG5 (m:=k*5) hc
   obtain ⟨bb,hbb⟩:=aX (Sx.rulB x)
   rw [hbb] at cv
   have CV:=aI cv
   have HX:=aI hx
   have HBB:=aI hbb
   clear cv hbb hr0 hc hx
   cases bb
   ·have HR:=aI (all_bad (b:=Sx.rulB) hkp (by rw [HX.out];exact HBB.out))
    go_wp2_with (go_at_call 84;(with_reducible refine (CV.out).mono ?_);rintro e w2 ⟨rfl,hb2⟩;replace HB:=aT HB hb2;clear hb2)
    go_ret
    exact ⟨_,rfl,by rw [HR.out];simp,HB.out⟩
   ·go_wp2_with (go_at_call 84;(with_reducible refine (CV.out).mono ?_);rintro e w2 ⟨rfl,hb2⟩;replace HB:=aT HB hb2;clear hb2)
    go_roundg (gk - 1)
    case measure=>omega
    case rel =>
     refine ⟨k+1,by omega,by go_num,HB.out,fun q hq hlt=>?_⟩
     rcases aj q k with h' | h'
     ·exact HA.out q hq h'
     ·obtain rfl:q=k:=by omega
      rw [HX.out];exact HBB.out
  ·have HR:=aI (all_good (b:=Sx.rulB) fun q hq=>HA.out q hq (by rw [HN.out] at hq;omega))
   have k1:¬ (k:Int) < (n:Int):=by omega
   go_wp2_with fail
   go_ret
   exact ⟨_,rfl,by rw [HR.out];rfl,HB.out⟩
theorem conR_any (l:List (Rul)) (A:Option Addr) (c g:Nat) (W:World) (hs:SlAt [] W A l) (hm:l.length<=9223372036854775807) (hp:∀ x∈l,x.2.2.1.size+x.2.2.2.1.size<=9223372036854775807) (hg:W.cell? ⟨g,0,none⟩=some rtR) :
  Calls Tryz.prog 83 #[.slice A l.length c,oneR g] W (BoolP (!l.all Sx.rulB) W):=by
 have CI:=aI (idxR_any l A c g W hs hm hp hg)
 obtain ⟨n,hn⟩:=aX l.length
 rw [hn] at CI ⊢
 clear hs hm hn hp hg
 generalize oneR g=F at *
 go_enter Tryz.func83,Tryz.ntmps83
 go_wp2_with (go_at_call 126;(with_reducible refine (CI.out).mono ?_);rintro e w2 ⟨r,rfl,hr,hb2⟩;have HB:=aI hb2;have HR:=aI hr;clear hb2 hr)
 go_ret
 exact ⟨by rw [<-HR.out];rfl,HB.out⟩
theorem allR_any (l:List (Rul)) (A:Option Addr) (c:Nat) (w:World) (hs:SlAt [] w A l) (hm:l.length<=9223372036854775807) (hp:∀ x∈l,x.2.2.1.size+x.2.2.2.1.size<=9223372036854775807) :
  Calls Tryz.prog 30 #[.slice A l.length c,rtR] w (BoolP (l.all Sx.rulB) w):=by
 have hB1:Below w.heap.size w (w.alloc (.cells #[rtR] 73)):=aP _ _
 have CC:=aI (conR_any l A c w.heap.size (w.alloc (.cells #[rtR] 73)) (hs.keep (Chg.of_below hB1)) hm hp (cell_box1 w _ _))
 obtain ⟨n,hn⟩:=aX l.length
 rw [hn] at CC ⊢
 generalize l.all Sx.rulB=r at *
 unfold rtR at CC hB1 ⊢
 unfold oneR at CC
 have HB1:=aI hB1
 clear hs hm hn hp hB1
 go_enter Tryz.func30,Tryz.ntmps30
 go_wp2_with (go_at_call 83;(with_reducible refine (CC.out).mono ?_);rintro e w2 ⟨rfl,hb2⟩;have HB:=aI (HB1.out.trans (hb2.mono HB1.out.size));clear hb2)
 go_ret
 exact ⟨by cases r <;> rfl,HB.out⟩
structure Sx.Sz (x:Sch):Prop where
 k:∀ k∈Sc.kinds x,(Sc.flds k).length<=1000000/\∀ f∈Sc.flds k,(Sc.wts f).length<=1000000
 l:∀ l∈x.2.2.1,l.2.1.length<=1000000/\l.2.2.length<=1000000
 r:∀ r∈x.2.2.2,r.2.2.1.size+r.2.2.2.1.size<=9223372036854775807
theorem okB_eq (x:Sch):Sx.okB x=(Sx.within x.1 0 1048576 && (decide ((Sc.kinds x).length<=6) && (decide (x.2.2.1.length<=6) && (decide (x.2.2.2.length<=16) && ((Sc.kinds x).all Sx.kndB && (x.2.2.1.all Sx.lifB && x.2.2.2.all Sx.rulB)))))):=rfl
theorem valid_any (x:Sch) (us:List Value) (w:World) (h:Mem.rep [] w x us) (hz:Sx.Sz x) (he:SEnv w):Calls Tryz.prog 7 #[.agg us.toArray] w fun e w'=>e=.returned (.int .i64 (Sx.valid x))/\Below w.heap.size w w':=by
 obtain ⟨A,c,B,d,C,e,rfl,s1,s2,s3,a1,b1,b2,b3,b4,b5,b6⟩:=rep_sch h
 obtain ⟨nk,hk⟩:=aX ((Sc.kinds x).length)
 obtain ⟨nl,hl⟩:=aX x.2.2.1.length
 obtain ⟨nr,hr⟩:=aX x.2.2.2.length
 obtain ⟨q1,h1⟩:=aX (Sx.within x.1 0 1048576)
 obtain ⟨q5,h5⟩:=aX ((Sc.kinds x).all Sx.kndB)
 obtain ⟨q6,h6⟩:=aX (x.2.2.1.all Sx.lifB)
 obtain ⟨q7,h7⟩:=aX (x.2.2.2.all Sx.rulB)
 have C1:=within_any x.1 0 1048576
 rw [h1] at C1
 replace C1:=aI C1
 have C5:=fun (W:World) (hs:SlAt [] W A (Sc.kinds x))=>allK_any (Sc.kinds x) A c W hs (by omega) hz.k
 have C6:=fun (W:World) (hs:SlAt [] W B x.2.2.1)=>allL_any x.2.2.1 B d W hs (by omega) hz.l
 have C7:=fun (W:World) (hs:SlAt [] W C x.2.2.2)=>allR_any x.2.2.2 C e W hs (by omega) hz.r
 rw [h5,hk] at C5
 rw [h6,hl] at C6
 rw [h7,hr] at C7
 unfold rtK at C5
 unfold rtL at C6
 unfold rtR at C7
 replace C5:=aI C5
 replace C6:=aI C6
 replace C7:=aI C7
 have HOK:=okB_eq x
 rw [h1,hk,hl,hr,h5,h6,h7] at HOK
 obtain ⟨S,hS⟩:=aX (Sx.source x)
 have HV:Sx.valid x=if Sx.okB x=true then (if 8192 < S.length then 4 else 0) else 1:=by unfold Sx.valid;rw [hS]
 have hSl:Sx.okB x=true->S.length<=1000000:=fun h=>by rw [<-hS];exact Sx.source_le (Sx.okB_bd h)
 have CSR:=aI (fun (W:World) (hr:Mem.rep [] W x [.int .i64 x.1,.slice A nk c,.slice B nl d,.slice C nr e]) (hok:Sx.okB x=true) (hb:Below w.heap.size w W)=>source_any x _ W hr hok (he.to hb))
 rw [hS] at CSR
 obtain ⟨N,hN⟩:=aX w.heap.size
 obtain ⟨W0,hW0⟩:=aX (w.alloc (.cells #[.int .i64 x.1,.slice A nk c,.slice B nl d,.slice C nr e] 27))
 have hb0:Below w.heap.size w W0:=by rw [<-hW0];exact aP _ _
 have hbk:Blk W0 N 27 #[.int .i64 x.1,.slice A nk c,.slice B nl d,.slice C nr e]:=by rw [<-hW0,<-hN];exact Blk.new w _ _
 rw [hk,hl,hr] at h
 have T:=aI ((((((held0 W0 [] (fun _ h=>by cases h)).add (keeps_rep x _) (Mem.keep h (Chg.of_below hb0))).add (keeps_sl C x.2.2.2) (s3.keep (Chg.of_below hb0))).add (keeps_sl B x.2.2.1) (s2.keep (Chg.of_below hb0))).add (keeps_sl A (Sc.kinds x)) (s1.keep (Chg.of_below hb0))).add (P:=fun M W=>N∉M/\Blk W N 27 #[.int .i64 x.1,.slice A nk c,.slice B nl d,.slice C nr e]) (keeps_blk _ _ _) ⟨by simp,hbk⟩)
 replace C5:=aI (fun (W:World) (hb:Below W0.heap.size W0 W)=>C5.out W ((T.out.below hb).fact (.tail _ (.head _))))
 replace C6:=aI (fun (W:World) (hb:Below W0.heap.size W0 W)=>C6.out W ((T.out.below hb).fact (.tail _ (.tail _ (.head _)))))
 replace C7:=aI (fun (W:World) (hb:Below W0.heap.size W0 W)=>C7.out W ((T.out.below hb).fact (.tail _ (.tail _ (.tail _ (.head _))))))
 replace CSR:=aI (fun (W:World) (hok:Sx.okB x=true) (hb:Below W0.heap.size W0 W)=>CSR.out W ((T.out.below hb).fact (.tail _ (.tail _ (.tail _ (.tail _ (.head _)))))) hok (hb0.trans (hb.mono hb0.size)))
 have HB:=aI hb0
 have HW0:=aI hW0
 show Calls Tryz.prog 7 #[.agg #[.int .i64 x.1,.slice A (Sc.kinds x).length c,.slice B x.2.2.1.length d,.slice C x.2.2.2.length e]] w _
 obtain ⟨vv,hvv⟩:=aX (Sx.valid x)
 rw [hvv] at HV ⊢
 rw [hk,hl,hr]
 have HVV:=aI HV
 clear h s1 s2 s3 a1 b1 b2 b3 b4 b5 b6 hk hl hr hbk hb0 hW0 h1 h5 h6 h7 HV hS he hz hvv
 obtain ⟨z0,z1,z2,z3⟩:=aM4 ((T.out.fact (.head _)).2)
 have HN:=aI hN
 clear hN
 go_enter Tryz.func7,Tryz.ntmps7
 go_upto_region 1 with fail
 rw [HW0.out,HN.out]
 cases q1
 ·(try simp only [Bool.false_and,Bool.true_and] at HOK)
  have HOK:=aI HOK
  go_wp2_with (first | (go_at_call 25;(with_reducible refine aS (C1.out _) ?_)) | (go_at_call 26;(with_reducible refine (C5.out _ T.out.bl).mono ?_);rintro e w2 ⟨rfl,hb2⟩;replace T:=aI (T.out.below hb2);clear hb2 z0 z1 z2 z3;obtain ⟨z0,z1,z2,z3⟩:=aM4 ((T.out.fact (.head _)).2)) | (go_at_call 28;(with_reducible refine (C6.out _ T.out.bl).mono ?_);rintro e w2 ⟨rfl,hb2⟩;replace T:=aI (T.out.below hb2);clear hb2 z0 z1 z2 z3;obtain ⟨z0,z1,z2,z3⟩:=aM4 ((T.out.fact (.head _)).2)) | (go_at_call 30;(with_reducible refine (C7.out _ T.out.bl).mono ?_);rintro e w2 ⟨rfl,hb2⟩;replace T:=aI (T.out.below hb2);clear hb2 z0 z1 z2 z3;obtain ⟨z0,z1,z2,z3⟩:=aM4 ((T.out.fact (.head _)).2)))
  go_ret
  have ev:vv=1:=by rw [HVV.out,if_neg (by rw [HOK.out];simp)]
  exact ⟨by rw [ev];rfl,HB.out.trans (T.out.bl.mono HB.out.size)⟩
 ·(try simp only [Bool.true_and] at HOK)
  by_cases c2:nk<=6
  rotate_left
  ·rw [ad c2] at HOK
   (try simp only [Bool.false_and,Bool.true_and] at HOK)
   have HOK:=aI HOK
   have t1:((6:Int) < (nk:Int)):=by omega
   have t2:decide ((6:Int) < (nk:Int))=true:=ac (by omega)
   go_wp2_with (first | (go_at_call 25;(with_reducible refine aS (C1.out _) ?_)) | (go_at_call 26;(with_reducible refine (C5.out _ T.out.bl).mono ?_);rintro e w2 ⟨rfl,hb2⟩;replace T:=aI (T.out.below hb2);clear hb2 z0 z1 z2 z3;obtain ⟨z0,z1,z2,z3⟩:=aM4 ((T.out.fact (.head _)).2)) | (go_at_call 28;(with_reducible refine (C6.out _ T.out.bl).mono ?_);rintro e w2 ⟨rfl,hb2⟩;replace T:=aI (T.out.below hb2);clear hb2 z0 z1 z2 z3;obtain ⟨z0,z1,z2,z3⟩:=aM4 ((T.out.fact (.head _)).2)) | (go_at_call 30;(with_reducible refine (C7.out _ T.out.bl).mono ?_);rintro e w2 ⟨rfl,hb2⟩;replace T:=aI (T.out.below hb2);clear hb2 z0 z1 z2 z3;obtain ⟨z0,z1,z2,z3⟩:=aM4 ((T.out.fact (.head _)).2)))
   go_ret
   have ev:vv=1:=by rw [HVV.out,if_neg (by rw [HOK.out];simp)]
   exact ⟨by rw [ev];rfl,HB.out.trans (T.out.bl.mono HB.out.size)⟩
  ·rw [ac c2] at HOK
   (try simp only [Bool.true_and] at HOK)
   have t1c2:((nk:Int)<=(6:Int)):=by omega
   have t2c2:decide ((6:Int) < (nk:Int))=false:=ad (by omega)
   by_cases c3:nl<=6
   rotate_left
   ·rw [ad c3] at HOK
    (try simp only [Bool.false_and,Bool.true_and] at HOK)
    have HOK:=aI HOK
    have t1:((6:Int) < (nl:Int)):=by omega
    have t2:decide ((6:Int) < (nl:Int))=true:=ac (by omega)
    go_wp2_with (first | (go_at_call 25;(with_reducible refine aS (C1.out _) ?_)) | (go_at_call 26;(with_reducible refine (C5.out _ T.out.bl).mono ?_);rintro e w2 ⟨rfl,hb2⟩;replace T:=aI (T.out.below hb2);clear hb2 z0 z1 z2 z3;obtain ⟨z0,z1,z2,z3⟩:=aM4 ((T.out.fact (.head _)).2)) | (go_at_call 28;(with_reducible refine (C6.out _ T.out.bl).mono ?_);rintro e w2 ⟨rfl,hb2⟩;replace T:=aI (T.out.below hb2);clear hb2 z0 z1 z2 z3;obtain ⟨z0,z1,z2,z3⟩:=aM4 ((T.out.fact (.head _)).2)) | (go_at_call 30;(with_reducible refine (C7.out _ T.out.bl).mono ?_);rintro e w2 ⟨rfl,hb2⟩;replace T:=aI (T.out.below hb2);clear hb2 z0 z1 z2 z3;obtain ⟨z0,z1,z2,z3⟩:=aM4 ((T.out.fact (.head _)).2)))
    go_ret
    have ev:vv=1:=by rw [HVV.out,if_neg (by rw [HOK.out];simp)]
    exact ⟨by rw [ev];rfl,HB.out.trans (T.out.bl.mono HB.out.size)⟩
   ·rw [ac c3] at HOK
    (try simp only [Bool.true_and] at HOK)
    have t1c3:((nl:Int)<=(6:Int)):=by omega
    have t2c3:decide ((6:Int) < (nl:Int))=false:=ad (by omega)
    by_cases c4:nr<=16
    rotate_left
    ·rw [ad c4] at HOK
     (try simp only [Bool.false_and,Bool.true_and] at HOK)
     have HOK:=aI HOK
     have t1:((16:Int) < (nr:Int)):=by omega
     have t2:decide ((16:Int) < (nr:Int))=true:=ac (by omega)
     go_wp2_with (first | (go_at_call 25;(with_reducible refine aS (C1.out _) ?_)) | (go_at_call 26;(with_reducible refine (C5.out _ T.out.bl).mono ?_);rintro e w2 ⟨rfl,hb2⟩;replace T:=aI (T.out.below hb2);clear hb2 z0 z1 z2 z3;obtain ⟨z0,z1,z2,z3⟩:=aM4 ((T.out.fact (.head _)).2)) | (go_at_call 28;(with_reducible refine (C6.out _ T.out.bl).mono ?_);rintro e w2 ⟨rfl,hb2⟩;replace T:=aI (T.out.below hb2);clear hb2 z0 z1 z2 z3;obtain ⟨z0,z1,z2,z3⟩:=aM4 ((T.out.fact (.head _)).2)) | (go_at_call 30;(with_reducible refine (C7.out _ T.out.bl).mono ?_);rintro e w2 ⟨rfl,hb2⟩;replace T:=aI (T.out.below hb2);clear hb2 z0 z1 z2 z3;obtain ⟨z0,z1,z2,z3⟩:=aM4 ((T.out.fact (.head _)).2)))
     go_ret
     have ev:vv=1:=by rw [HVV.out,if_neg (by rw [HOK.out];simp)]
     exact ⟨by rw [ev];rfl,HB.out.trans (T.out.bl.mono HB.out.size)⟩
    ·rw [ac c4] at HOK
     (try simp only [Bool.true_and] at HOK)
     have t1c4:((nr:Int)<=(16:Int)):=by omega
     have t2c4:decide ((16:Int) < (nr:Int))=false:=ad (by omega)
     cases q5
     ·(try simp only [Bool.false_and,Bool.true_and] at HOK)
      have HOK:=aI HOK
      go_wp2_with (first | (go_at_call 25;(with_reducible refine aS (C1.out _) ?_)) | (go_at_call 26;(with_reducible refine (C5.out _ T.out.bl).mono ?_);rintro e w2 ⟨rfl,hb2⟩;replace T:=aI (T.out.below hb2);clear hb2 z0 z1 z2 z3;obtain ⟨z0,z1,z2,z3⟩:=aM4 ((T.out.fact (.head _)).2)) | (go_at_call 28;(with_reducible refine (C6.out _ T.out.bl).mono ?_);rintro e w2 ⟨rfl,hb2⟩;replace T:=aI (T.out.below hb2);clear hb2 z0 z1 z2 z3;obtain ⟨z0,z1,z2,z3⟩:=aM4 ((T.out.fact (.head _)).2)) | (go_at_call 30;(with_reducible refine (C7.out _ T.out.bl).mono ?_);rintro e w2 ⟨rfl,hb2⟩;replace T:=aI (T.out.below hb2);clear hb2 z0 z1 z2 z3;obtain ⟨z0,z1,z2,z3⟩:=aM4 ((T.out.fact (.head _)).2)))
      go_ret
      have ev:vv=1:=by rw [HVV.out,if_neg (by rw [HOK.out];simp)]
      exact ⟨by rw [ev];rfl,HB.out.trans (T.out.bl.mono HB.out.size)⟩
     ·(try simp only [Bool.true_and] at HOK)
      cases q6
      ·(try simp only [Bool.false_and,Bool.true_and] at HOK)
       have HOK:=aI HOK
       go_wp2_with (first | (go_at_call 25;(with_reducible refine aS (C1.out _) ?_)) | (go_at_call 26;(with_reducible refine (C5.out _ T.out.bl).mono ?_);rintro e w2 ⟨rfl,hb2⟩;replace T:=aI (T.out.below hb2);clear hb2 z0 z1 z2 z3;obtain ⟨z0,z1,z2,z3⟩:=aM4 ((T.out.fact (.head _)).2)) | (go_at_call 28;(with_reducible refine (C6.out _ T.out.bl).mono ?_);rintro e w2 ⟨rfl,hb2⟩;replace T:=aI (T.out.below hb2);clear hb2 z0 z1 z2 z3;obtain ⟨z0,z1,z2,z3⟩:=aM4 ((T.out.fact (.head _)).2)) | (go_at_call 30;(with_reducible refine (C7.out _ T.out.bl).mono ?_);rintro e w2 ⟨rfl,hb2⟩;replace T:=aI (T.out.below hb2);clear hb2 z0 z1 z2 z3;obtain ⟨z0,z1,z2,z3⟩:=aM4 ((T.out.fact (.head _)).2)))
       go_ret
       have ev:vv=1:=by rw [HVV.out,if_neg (by rw [HOK.out];simp)]
       exact ⟨by rw [ev];rfl,HB.out.trans (T.out.bl.mono HB.out.size)⟩
      ·(try simp only [Bool.true_and] at HOK)
       cases q7
       ·(try simp only [Bool.false_and,Bool.true_and] at HOK)
        have HOK:=aI HOK
        go_wp2_with (first | (go_at_call 25;(with_reducible refine aS (C1.out _) ?_)) | (go_at_call 26;(with_reducible refine (C5.out _ T.out.bl).mono ?_);rintro e w2 ⟨rfl,hb2⟩;replace T:=aI (T.out.below hb2);clear hb2 z0 z1 z2 z3;obtain ⟨z0,z1,z2,z3⟩:=aM4 ((T.out.fact (.head _)).2)) | (go_at_call 28;(with_reducible refine (C6.out _ T.out.bl).mono ?_);rintro e w2 ⟨rfl,hb2⟩;replace T:=aI (T.out.below hb2);clear hb2 z0 z1 z2 z3;obtain ⟨z0,z1,z2,z3⟩:=aM4 ((T.out.fact (.head _)).2)) | (go_at_call 30;(with_reducible refine (C7.out _ T.out.bl).mono ?_);rintro e w2 ⟨rfl,hb2⟩;replace T:=aI (T.out.below hb2);clear hb2 z0 z1 z2 z3;obtain ⟨z0,z1,z2,z3⟩:=aM4 ((T.out.fact (.head _)).2)))
        go_ret
        have ev:vv=1:=by rw [HVV.out,if_neg (by rw [HOK.out];simp)]
        exact ⟨by rw [ev];rfl,HB.out.trans (T.out.bl.mono HB.out.size)⟩
       ·(try simp only [Bool.true_and] at HOK)
        have hok:Sx.okB x=true:=HOK
        have HOK:=aI hok
        have hSl2:=hSl hok
        clear hok hSl
        obtain ⟨d9,hd9⟩:∃ d:ByteArray,(⟨S.toArray⟩:ByteArray)=d:=⟨_,rfl⟩
        rw [hd9] at CSR
        have hds:d9.size=S.length:=by rw [<-hd9];show S.toArray.size=_;rw [List.size_toArray]
        clear hd9
        by_cases hl:8192 < S.length
        ·have t3:(8192:Int) < (d9.size:Int):=by omega
         have t4:decide (8192 < d9.size)=true:=ac (by omega)
         go_wp2_with (first | (go_at_call 25;(with_reducible refine aS (C1.out _) ?_)) | (go_at_call 26;(with_reducible refine (C5.out _ T.out.bl).mono ?_);rintro e w2 ⟨rfl,hb2⟩;replace T:=aI (T.out.below hb2);clear hb2 z0 z1 z2 z3;obtain ⟨z0,z1,z2,z3⟩:=aM4 ((T.out.fact (.head _)).2)) | (go_at_call 28;(with_reducible refine (C6.out _ T.out.bl).mono ?_);rintro e w2 ⟨rfl,hb2⟩;replace T:=aI (T.out.below hb2);clear hb2 z0 z1 z2 z3;obtain ⟨z0,z1,z2,z3⟩:=aM4 ((T.out.fact (.head _)).2)) | (go_at_call 30;(with_reducible refine (C7.out _ T.out.bl).mono ?_);rintro e w2 ⟨rfl,hb2⟩;replace T:=aI (T.out.below hb2);clear hb2 z0 z1 z2 z3;obtain ⟨z0,z1,z2,z3⟩:=aM4 ((T.out.fact (.head _)).2)) | (go_at_call 32;(with_reducible refine (CSR.out _ HOK.out T.out.bl).mono ?_);rintro e w2 ⟨rfl,hb2⟩;replace T:=aI (T.out.below hb2);clear hb2 z0 z1 z2 z3;obtain ⟨z0,z1,z2,z3⟩:=aM4 ((T.out.fact (.head _)).2)))
         go_ret
         have ev:vv=4:=by rw [HVV.out,if_pos HOK.out,if_pos hl]
         exact ⟨by rw [ev];rfl,HB.out.trans (T.out.bl.mono HB.out.size)⟩
        ·have t3:(d9.size:Int)<=(8192:Int):=by omega
         have t4:decide (8192 < d9.size)=false:=ad (by omega)
         go_wp2_with (first | (go_at_call 25;(with_reducible refine aS (C1.out _) ?_)) | (go_at_call 26;(with_reducible refine (C5.out _ T.out.bl).mono ?_);rintro e w2 ⟨rfl,hb2⟩;replace T:=aI (T.out.below hb2);clear hb2 z0 z1 z2 z3;obtain ⟨z0,z1,z2,z3⟩:=aM4 ((T.out.fact (.head _)).2)) | (go_at_call 28;(with_reducible refine (C6.out _ T.out.bl).mono ?_);rintro e w2 ⟨rfl,hb2⟩;replace T:=aI (T.out.below hb2);clear hb2 z0 z1 z2 z3;obtain ⟨z0,z1,z2,z3⟩:=aM4 ((T.out.fact (.head _)).2)) | (go_at_call 30;(with_reducible refine (C7.out _ T.out.bl).mono ?_);rintro e w2 ⟨rfl,hb2⟩;replace T:=aI (T.out.below hb2);clear hb2 z0 z1 z2 z3;obtain ⟨z0,z1,z2,z3⟩:=aM4 ((T.out.fact (.head _)).2)) | (go_at_call 32;(with_reducible refine (CSR.out _ HOK.out T.out.bl).mono ?_);rintro e w2 ⟨rfl,hb2⟩;replace T:=aI (T.out.below hb2);clear hb2 z0 z1 z2 z3;obtain ⟨z0,z1,z2,z3⟩:=aM4 ((T.out.fact (.head _)).2)))
         go_ret
         have ev:vv=0:=by rw [HVV.out,if_pos HOK.out,if_neg hl]
         exact ⟨by rw [ev];rfl,HB.out.trans (T.out.bl.mono HB.out.size)⟩
namespace Sx
def Reads' {α:Type} (r:List Tok->Res α) (ts:List Txt) (a:α) (C:List Txt->Prop):Prop:=∀ l rest,C rest->l.map Prod.fst=ts++rest->∃ l',r l=.ok a l'/\l'.map Prod.fst=rest
abbrev Any:List Txt->Prop:=fun _=>True
theorem reads_bind {α β:Type} {r:List Tok->Res α} {f:α->List Tok->Res β} {ts us:List Txt} {a:α} {b:β} {C C1:List Txt->Prop} (h:Reads' r ts a C1) (k:Reads' (f a) us b C) (hC:∀ rest,C rest->C1 (us++rest)):Reads' (fun l=>(r l).bind f) (ts++us) b C:=by
 intro l rest hr hl
 rw [List.append_assoc] at hl
 obtain ⟨l',e1,e2⟩:=h l (us++rest) (hC rest hr) hl
 obtain ⟨l2,e3,e4⟩:=k l' rest hr e2
 exact ⟨l2,by show (r l).bind f=_;rw [e1];exact e3,e4⟩
theorem reads_ret {β:Type} {b:β} {C:List Txt->Prop}:Reads' (fun l=>.ok b l) [] b C:=fun l rest _ hl=>⟨l,rfl,by simpa using hl⟩
theorem reads_next {right:Txt->Bool} {t:Txt} {C:List Txt->Prop} (h:right t=true):Reads' (next right) [t] t C:=by
 intro l rest _ hl
 cases l with
 | nil=>simp at hl
 | cons u l =>
  simp only [List.map_cons,List.cons_append,List.nil_append] at hl
  injection hl with h1 h2
  refine ⟨l,?_,h2⟩
  show (if right u.1=true then Res.ok u.1 l else Res.bad (u::l))=_
  rw [h1,if_pos h]
theorem reads_need {w:Txt} {C:List Txt->Prop}:Reads' (need w) [w] () C :=
 reads_bind (us:=[]) (C1:=Any) (reads_next (by simp)) reads_ret (fun _ _=>trivial)
theorem reads_number {n:Int} {C:List Txt->Prop} (h:n.natAbs < 1000000000):Reads' number [num n] n C:=by
 obtain ⟨h1,h2⟩:=numB_num n h
 have:=reads_bind (us:=[]) (C1:=Any) (C:=C) (f:=fun t l=>Res.ok (numV t) l) (reads_next h1) reads_ret (fun _ _=>trivial)
 rw [h2] at this
 exact this
theorem reads_count {n:Nat} {C:List Txt->Prop} (h1:1<=n) (h2:n<=12):Reads' count [num n] n C:=by
 obtain ⟨k1,k2⟩:=numB_num n (by omega)
 have hr:(numB (num n) && within (numV (num n)) 1 12)=true:=by
  rw [k1,k2];simp [within];omega
 have:=reads_bind (us:=[]) (C1:=Any) (C:=C) (f:=fun t l=>Res.ok (numV t).toNat l) (reads_next (right:=fun t=>numB t && within (numV t) 1 12) hr) reads_ret (fun _ _=>trivial)
 rw [k2,Int.toNat_natCast] at this
 exact this
theorem reads_name {s:ByteArray} {C:List Txt->Prop} (h:nm s=true):Reads' name [bs s] (bs s) C:=reads_next h
theorem of_bs (s:ByteArray):ofT (bs s)=s:=by cases s;simp [ofT,bs]
theorem em_eq {s:ByteArray} (h:em s=true):s=ofT []:=by
 unfold em at h
 have h:=of_decide_eq_true h
 cases s with
 | mk d =>
  have:d=#[]:=Array.eq_empty_of_size_eq_zero h
  rw [this];rfl
theorem name_not {t:Txt} (h:nameB t=true):(t == [45])=false:=by
 cases ht:t == [45] with
 | false=>rfl
 | true =>
  rw [beq_iff_eq.1 ht] at h
  exact absurd h (by decide)
theorem reads_names {s:ByteArray} {C:List Txt->Prop} (h:(em s || nm s)=true):∃ t,Reads' names [orNone s] t C/\ofT t=s:=by
 unfold orNone
 by_cases he:em s=true
 ·rw [if_pos he]
  refine ⟨[],?_,(em_eq he).symm⟩
  exact reads_bind (us:=[]) (C1:=Any) (f:=fun t l=>Res.ok (if t == [45] then [] else t) l) (reads_next (t:=[45]) (by decide)) reads_ret (fun _ _=>trivial)
 ·rw [if_neg he]
  have hn:nm s=true:=by
   rw [Bool.or_eq_true] at h;exact h.resolve_left he
  refine ⟨bs s,?_,of_bs s⟩
  have:=reads_bind (us:=[]) (C1:=Any) (C:=C) (f:=fun t l=>Res.ok (if t == [45] then [] else t) l) (reads_next (right:=fun t=>nameB t || t == [45]) (t:=bs s) (by rw [show nameB (bs s)=true from hn];rfl)) reads_ret (fun _ _=>trivial)
  have e:(bs s == ([45]:Txt))=false:=name_not hn
  simp only [e] at this
  exact this
theorem reads_cast {α:Type} {r:List Tok->Res α} {ts us:List Txt} {a b:α} {C:List Txt->Prop} (h:Reads' r ts a C) (ht:ts=us) (ha:a=b):Reads' r us b C:=by subst ht ha;exact h
theorem within_abs {n a b:Int} (h:within n a b=true) (ha:-100000000<=a) (hb:b<=100000000):n.natAbs < 1000000000:=by
 simp only [within,Bool.and_eq_true,decide_eq_true_eq] at h
 omega
theorem span_abs {x y a b:Int} (h:span x y a b=true) (ha:-100000000<=a) (hb:b<=100000000):x.natAbs < 1000000000/\y.natAbs < 1000000000:=by
 simp only [span,Bool.and_eq_true,decide_eq_true_eq] at h
 omega
theorem reads_picks {C:List Txt->Prop}:∀ (ws:List ByteArray) (ns:List Int) (w0:List ByteArray) (n0:List Int),ws.length=ns.length->ws.all nm=true->(ns.all fun n=>within n 0 most)=true ->
  Reads' (picks ws.length w0 n0) (picksT ws ns) (w0++ws,n0++ns) C
 | [],[],w0,n0,_,_,_=>by
  rw [List.append_nil,List.append_nil]
  exact reads_ret
 | w::ws,n::ns,w0,n0,hl,hw,hn=>by
  rw [List.all_cons,Bool.and_eq_true] at hw hn
  have ih:=reads_picks (C:=C) ws ns (w0++[w]) (n0++[n]) (by simpa using hl) hw.2 hn.2
  have h2:=reads_bind (C1:=Any) (f:=fun v l=>picks ws.length (w0++[ofT (bs w)]) (n0++[v]) l) (reads_number (within_abs hn.1 (by decide) (by decide))) (by rw [of_bs];exact ih) (fun _ _=>trivial)
  have h1:=reads_bind (C1:=Any) (f:=fun w l=>(number l).bind fun v l=>picks ws.length (w0++[ofT w]) (n0++[v]) l) (reads_name hw.1) h2 (fun _ _=>trivial)
  exact reads_cast h1 (by simp [picksT]) (by simp)
 | [],_::_,_,_,h,_,_=>by simp at h
 | _::_,[],_,_,h,_,_=>by simp at h
theorem reads_states {C:List Txt->Prop}:∀ (ws:List ByteArray) (w0:List ByteArray),ws.all nm=true->Reads' (states ws.length w0) (ws.map bs) (w0++ws) C
 | [],w0,_=>by
  rw [List.append_nil]
  exact reads_ret
 | w::ws,w0,hw=>by
  rw [List.all_cons,Bool.and_eq_true] at hw
  have ih:=reads_states (C:=C) ws (w0++[w]) hw.2
  have h1:=reads_bind (C1:=Any) (f:=fun w l=>states ws.length (w0++[ofT w]) l) (reads_name hw.1) (by rw [of_bs];exact ih) (fun _ _=>trivial)
  exact reads_cast h1 (by simp) (by simp)
def Stop (q:Txt->Bool) (rest:List Txt):Prop:=∀ t,rest.head?=some t->q t=false
theorem reads_many {α:Type} {begins q:Txt->Bool} {read:List Tok->Res α} {tk:α->List Txt}:∀ (xs:List α) (acc:List α) (fuel:Nat) (l:List Tok) (rest:List Txt),
  (∀ a∈xs,Reads' read (tk a) a (Stop q)/\∃ h r,tk a=h::r/\begins h=true/\q h=false)->xs.length<=fuel->Stop begins rest->Stop q rest->l.map Prod.fst=xs.flatMap tk++rest ->
  ∃ l',many begins read fuel acc l=.ok (acc++xs) l'/\l'.map Prod.fst=rest
 | [],acc,0,l,rest,_,_,_,_,hl=>⟨l,by rw [List.append_nil];rfl,by simpa using hl⟩
 | [],acc,fuel+1,l,rest,_,_,hb,_,hl=>by
  rw [List.append_nil]
  simp only [List.flatMap_nil,List.nil_append] at hl
  cases l with
  | nil=>exact ⟨[],rfl,hl⟩
  | cons t l =>
   refine ⟨t::l,?_,hl⟩
   have:=hb t.1 (by rw [<-hl];rfl)
   simp only [many]
   rw [if_neg (by rw [this];simp)]
 | a::xs,acc,0,l,rest,_,hf,_,_,_=>by simp at hf
 | a::xs,acc,fuel+1,l,rest,ha,hf,hb,hq,hl=>by
  obtain ⟨h1,h,r,e1,e2,e3⟩:=ha a (.head _)
  rw [List.flatMap_cons,List.append_assoc] at hl
  have hst:Stop q (xs.flatMap tk++rest):=by
   cases xs with
   | nil=>simpa using hq
   | cons b xs =>
    obtain ⟨_,h',r',k1,_,k3⟩:=ha b (.tail _ (.head _))
    intro t ht
    rw [List.flatMap_cons,k1] at ht
    simp only [List.cons_append,List.head?_cons] at ht
    injection ht with ht
    subst ht
    exact k3
  obtain ⟨l',r1,r2⟩:=h1 l _ hst hl
  cases l with
  | nil=>rw [e1] at hl;simp at hl
  | cons t l =>
   have ht:t.1=h:=by
    rw [e1,List.map_cons,List.cons_append] at hl
    injection hl
   obtain ⟨l2,s1,s2⟩:=reads_many (begins:=begins) (q:=q) (read:=read) (tk:=tk) xs (acc++[a]) fuel l' rest (fun b hb=>ha b (.tail _ hb)) (by simpa using hf) hb hq r2
   refine ⟨l2,?_,s2⟩
   simp only [many]
   rw [if_pos (by rw [ht];exact e2),r1]
   show many begins read fuel (acc++[a]) l'=_
   rw [s1,List.append_assoc];rfl
theorem flatMap_len {α:Type} {tk:α->List Txt}:∀ (xs:List α),(∀ a∈xs,tk a≠[])->xs.length<=(xs.flatMap tk).length
 | [],_=>by simp
 | a::xs,h=>by
  have:=flatMap_len xs (fun b hb=>h b (.tail _ hb))
  have h1:0 < (tk a).length:=List.length_pos_iff.2 (h a (.head _))
  rw [List.flatMap_cons,aK,List.length_cons]
  omega
theorem reads_many' {α:Type} {begins q:Txt->Bool} {read:List Tok->Res α} {tk:α->List Txt} (xs:List α) (ha:∀ a∈xs,Reads' read (tk a) a (Stop q)/\∃ h r,tk a=h::r/\begins h=true/\q h=false) :
  Reads' (fun l=>many begins read l.length [] l) (xs.flatMap tk) xs (fun rest=>Stop begins rest/\Stop q rest):=by
 intro l rest hr hl
 have hlen:xs.length<=l.length:=by
  have h1:=flatMap_len (tk:=tk) xs (fun a h=>by obtain ⟨_,h',r,e,_⟩:=ha a h;rw [e];simp)
  have h2:=congrArg List.length hl
  rw [List.length_map,aK] at h2
  omega
 obtain ⟨l',e1,e2⟩:=reads_many xs [] l.length l rest ha hlen hr.1 hr.2 hl
 exact ⟨l',by show many begins read l.length [] l=_;rw [e1,List.nil_append],e2⟩
end Sx
namespace Sx
theorem noW_eq {f:Fld} (h:noW f=true):Sc.words f=[]/\Sc.wts f=[]:=by
 simp only [noW,Bool.and_eq_true,decide_eq_true_eq] at h
 exact ⟨List.eq_nil_of_length_eq_zero h.1,List.eq_nil_of_length_eq_zero h.2⟩
section
variable {C:List Txt->Prop}
theorem r_num {β:Type} {n:Int} {f:Int->List Tok->Res β} {us:List Txt} {b:β} (h:n.natAbs < 1000000000) (k:Reads' (f n) us b C):Reads' (fun l=>(number l).bind f) (num n::us) b C :=
 reads_bind (C1:=Any) (reads_number h) k (fun _ _=>trivial)
theorem r_cnt {β:Type} {n:Nat} {f:Nat->List Tok->Res β} {us:List Txt} {b:β} (h1:1<=n) (h2:n<=12) (k:Reads' (f n) us b C):Reads' (fun l=>(count l).bind f) (num n::us) b C :=
 reads_bind (C1:=Any) (reads_count h1 h2) k (fun _ _=>trivial)
theorem r_name {β:Type} {s:ByteArray} {f:Txt->List Tok->Res β} {us:List Txt} {b:β} (h:nm s=true) (k:Reads' (f (bs s)) us b C):Reads' (fun l=>(name l).bind f) (bs s::us) b C :=
 reads_bind (C1:=Any) (reads_name h) k (fun _ _=>trivial)
theorem r_need {β:Type} {w:Txt} {f:Unit->List Tok->Res β} {us:List Txt} {b:β} (k:Reads' (f ()) us b C):Reads' (fun l=>(need w l).bind f) (w::us) b C :=
 reads_bind (C1:=Any) reads_need k (fun _ _=>trivial)
theorem r_names {β:Type} {s:ByteArray} {f:Txt->List Tok->Res β} {us:List Txt} {b:β} (h:(em s || nm s)=true) (k:∀ t,ofT t=s->Reads' (f t) us b C):Reads' (fun l=>(names l).bind f) (orNone s::us) b C:=by
 obtain ⟨t,h1,h2⟩:=reads_names (C:=Any) h
 exact reads_bind (C1:=Any) h1 (k t h2) (fun _ _=>trivial)
theorem r_ret {β:Type} {b c:β} (h:b=c):Reads' (fun l=>.ok b l) [] c C:=by subst h;exact reads_ret
end
theorem nm_orNone {s:ByteArray} (h:nm s=true):orNone s=bs s:=by
 unfold orNone
 rw [if_neg]
 intro he
 rw [em_eq he] at h
 exact absurd h (by decide)
theorem all_mem {α:Type} {p:α->Bool} {l:List α} (h:l.all p=true):∀ a∈l,p a=true:=List.all_eq_true.1 h
theorem isTok_name {s:ByteArray} (h:nm s=true):(bs s).all Vm.isTok=true/\bs s≠[]:=by
 have h:nameB (bs s)=true:=h
 simp only [nameB,Bool.and_eq_true,decide_eq_true_eq] at h
 refine ⟨List.all_eq_true.2 fun c hc=>?_,fun he=>by rw [he] at h;simp at h⟩
 have:=List.all_eq_true.1 h.2 c hc
 simp only [alnumB,letterB,Dc.isDig,Bool.or_eq_true,Bool.and_eq_true,decide_eq_true_eq] at this
 simp only [Vm.isTok,Bool.and_eq_true,decide_eq_true_eq]
 omega
theorem isTok_num (n:Int):(num n).all Vm.isTok=true/\num n≠[]:=⟨Vm.itoa_tok n,Vm.itoa_ne n⟩
theorem isTok_orNone {s:ByteArray} (h:(em s || nm s)=true):(orNone s).all Vm.isTok=true/\orNone s≠[]:=by
 unfold orNone
 split
 ·exact ⟨by decide,by simp⟩
 ·rename_i he
  rw [Bool.or_eq_true] at h
  exact isTok_name (h.resolve_left he)
def Good (l:List Txt):Prop:=∀ t∈l,t.all Vm.isTok=true/\t≠[]
theorem good_nil:Good []:=fun _ h=>by cases h
theorem good_cons {t:Txt} {l:List Txt} (h:t.all Vm.isTok=true/\t≠[]) (k:Good l):Good (t::l):=fun u hu=>by
 rcases aL hu with rfl | hu
 ·exact h
 ·exact k u hu
theorem good_app {l m:List Txt} (h:Good l) (k:Good m):Good (l++m):=fun u hu=>(List.mem_append.1 hu).elim (h u) (k u)
theorem good_flat {α:Type} {tk:α->List Txt}:∀ (l:List α),(∀ a∈l,Good (tk a))->Good (l.flatMap tk)
 | [],_=>good_nil
 | a::l,h=>by rw [List.flatMap_cons];exact good_app (h a (.head _)) (good_flat l fun b hb=>h b (.tail _ hb))
theorem good_picks:∀ (ws:List ByteArray) (ns:List Int),ws.all nm=true->Good (picksT ws ns)
 | [],_,_=>good_nil
 | _::_,[],_=>good_nil
 | w::ws,n::ns,h=>by
  rw [List.all_cons,Bool.and_eq_true] at h
  exact good_cons (isTok_name h.1) (good_cons (isTok_num n) (good_picks ws ns h.2))
theorem good_map (ws:List ByteArray) (h:ws.all nm=true):Good (ws.map bs):=fun t ht=>by
 obtain ⟨w,hw,rfl⟩:=List.mem_map.1 ht
 exact isTok_name (all_mem h w hw)
theorem reads_field1 {f:Fld} {C:List Txt->Prop} (h:fldB f=true):∃ k:Nat,Sc.kd f=(k:Int)/\k < 9/\∃ us,fldT f=wordsL.getD k []::bs (Sc.nm f)::us/\nm (Sc.nm f)=true/\Good us/\Reads' (field1 k (Sc.nm f)) us f C:=by
 obtain ⟨n,o,u,kd,lo,hi,ws,ns⟩:=f
 unfold fldB at h
 rw [Bool.and_eq_true] at h
 obtain ⟨hn,h⟩:=h
 have hn:nm n=true:=hn
 by_cases k0:kd=0
 ·rw [if_pos (show Sc.kd (n,o,u,kd,lo,hi,ws,ns)=0 from k0)] at h
  subst k0
  simp only [Bool.and_eq_true,decide_eq_true_eq] at h
  obtain ⟨h1,h2,h3,h4,h5⟩:=h
  obtain ⟨rfl,rfl⟩:ws=[]/\ns=[]:=noW_eq h4
  have e1:o=ofT []:=em_eq h1;have e2:u=ofT []:=em_eq h2
  have h3:hi=0:=h3
  subst e1 e2 h3
  refine ⟨0,rfl,by decide,[num lo],rfl,hn,good_cons (isTok_num _) good_nil,?_⟩
  exact r_num (within_abs h5 (by decide) (by decide)) (r_ret rfl)
 rw [if_neg (show ¬ Sc.kd (n,o,u,kd,lo,hi,ws,ns)=0 from k0)] at h
 by_cases k1:kd=1
 ·rw [if_pos (show Sc.kd (n,o,u,kd,lo,hi,ws,ns)=1 from k1)] at h
  subst k1
  simp only [Bool.and_eq_true] at h
  obtain ⟨h2,h4,h6,h5⟩:=h
  obtain ⟨rfl,rfl⟩:ws=[]/\ns=[]:=noW_eq h4
  have e2:u=ofT []:=em_eq h2
  subst e2
  obtain ⟨b1,b2⟩:=span_abs h5 (by decide) (by decide)
  have h6:nm o=true:=h6
  refine ⟨1,rfl,by decide,[bs o,num lo,num hi],by rw [<-nm_orNone h6];rfl,hn,good_cons (isTok_name h6) (good_cons (isTok_num _) (good_cons (isTok_num _) good_nil)),?_⟩
  exact r_name h6 (r_num b1 (r_num b2 (r_ret (by rw [of_bs];rfl))))
 rw [if_neg (show ¬ Sc.kd (n,o,u,kd,lo,hi,ws,ns)=1 from k1)] at h
 by_cases k2:kd=2
 ·rw [if_pos (show Sc.kd (n,o,u,kd,lo,hi,ws,ns)=2 from k2)] at h
  subst k2
  simp only [Bool.and_eq_true] at h
  obtain ⟨h1,h2,h4,h5⟩:=h
  obtain ⟨rfl,rfl⟩:ws=[]/\ns=[]:=noW_eq h4
  have e1:o=ofT []:=em_eq h1;have e2:u=ofT []:=em_eq h2
  subst e1 e2
  obtain ⟨b1,b2⟩:=span_abs h5 (by decide) (by decide)
  refine ⟨2,rfl,by decide,[num lo,num hi],rfl,hn,good_cons (isTok_num _) (good_cons (isTok_num _) good_nil),?_⟩
  exact r_num b1 (r_num b2 (r_ret rfl))
 rw [if_neg (show ¬ Sc.kd (n,o,u,kd,lo,hi,ws,ns)=2 from k2)] at h
 by_cases k3:kd=3
 ·rw [if_pos (show Sc.kd (n,o,u,kd,lo,hi,ws,ns)=3 from k3)] at h
  subst k3
  simp only [Bool.and_eq_true,decide_eq_true_eq,pickB] at h
  obtain ⟨h1,h2,h3,h4,h5,h6,h7,h8,h9⟩:=h
  have e1:o=ofT []:=em_eq h1;have e2:u=ofT []:=em_eq h2
  have h3:lo=0:=h3
  have h4:hi=0:=h4
  subst e1 e2 h3 h4
  have h6':(1:Int)<=ws.length/\(ws.length:Int)<=12:=by
   have:=h6
   simp only [within,Bool.and_eq_true,decide_eq_true_eq] at this
   exact this
  refine ⟨3,rfl,by decide,num ws.length::picksT ws ns,rfl,hn,good_cons (isTok_num _) (good_picks ws ns h9),?_⟩
  refine r_cnt (n:=ws.length) (by omega) (by omega) ?_
  have hp:=reads_bind (C1:=Any) (C:=C) (f:=fun (p:List ByteArray × List Int) l=>Res.ok ((n,ofT [],ofT [],3,0,0,p.1,p.2):Fld) l) (us:=[]) (reads_picks (C:=Any) ws ns [] [] h7 h9 h5) (r_ret rfl) (fun _ _=>trivial)
  rw [List.append_nil] at hp
  exact hp
 rw [if_neg (show ¬ Sc.kd (n,o,u,kd,lo,hi,ws,ns)=3 from k3)] at h
 by_cases k4:kd=4
 ·rw [if_pos (show Sc.kd (n,o,u,kd,lo,hi,ws,ns)=4 from k4)] at h
  subst k4
  simp only [Bool.and_eq_true] at h
  obtain ⟨h2,h4,h6,h5⟩:=h
  obtain ⟨rfl,rfl⟩:ws=[]/\ns=[]:=noW_eq h4
  have e2:u=ofT []:=em_eq h2
  subst e2
  obtain ⟨b1,b2⟩:=span_abs h5 (by decide) (by decide)
  refine ⟨4,rfl,by decide,[orNone o,num lo,num hi],rfl,hn,good_cons (isTok_orNone h6) (good_cons (isTok_num _) (good_cons (isTok_num _) good_nil)),?_⟩
  exact r_names h6 (fun t ht=>r_num b1 (r_num b2 (r_ret (by rw [ht];rfl))))
 rw [if_neg (show ¬ Sc.kd (n,o,u,kd,lo,hi,ws,ns)=4 from k4)] at h
 by_cases k5:kd=5
 ·rw [if_pos (show Sc.kd (n,o,u,kd,lo,hi,ws,ns)=5 from k5)] at h
  subst k5
  simp only [Bool.and_eq_true] at h
  obtain ⟨h2,h4,h6,h5⟩:=h
  obtain ⟨rfl,rfl⟩:ws=[]/\ns=[]:=noW_eq h4
  have e2:u=ofT []:=em_eq h2
  subst e2
  obtain ⟨b1,b2⟩:=span_abs h5 (by decide) (by decide)
  have h6:nm o=true:=h6
  refine ⟨5,rfl,by decide,[bs o,num lo,num hi],by rw [<-nm_orNone h6];rfl,hn,good_cons (isTok_name h6) (good_cons (isTok_num _) (good_cons (isTok_num _) good_nil)),?_⟩
  exact r_name h6 (r_num b1 (r_num b2 (r_ret (by rw [of_bs];rfl))))
 rw [if_neg (show ¬ Sc.kd (n,o,u,kd,lo,hi,ws,ns)=5 from k5)] at h
 by_cases k6:kd=6
 ·rw [if_pos (show Sc.kd (n,o,u,kd,lo,hi,ws,ns)=6 from k6)] at h
  subst k6
  simp only [Bool.and_eq_true,decide_eq_true_eq] at h
  obtain ⟨h2,h4,h7,h8,h6⟩:=h
  obtain ⟨rfl,rfl⟩:ws=[]/\ns=[]:=noW_eq h4
  have e2:u=ofT []:=em_eq h2
  have h7:lo=0:=h7
  have h8:hi=0:=h8
  subst e2 h7 h8
  refine ⟨6,rfl,by decide,[bs o],rfl,hn,good_cons (isTok_name h6) good_nil,?_⟩
  exact r_name h6 (r_ret (by rw [of_bs];rfl))
 rw [if_neg (show ¬ Sc.kd (n,o,u,kd,lo,hi,ws,ns)=6 from k6)] at h
 by_cases k7:kd=7
 ·rw [if_pos (show Sc.kd (n,o,u,kd,lo,hi,ws,ns)=7 from k7)] at h
  subst k7
  simp only [Bool.and_eq_true] at h
  obtain ⟨h4,h6,h7,h5⟩:=h
  obtain ⟨rfl,rfl⟩:ws=[]/\ns=[]:=noW_eq h4
  obtain ⟨b1,b2⟩:=span_abs h5 (by decide) (by decide)
  refine ⟨7,rfl,by decide,[bs u,bs o,num lo,num hi],rfl,hn,good_cons (isTok_name h7) (good_cons (isTok_name h6) (good_cons (isTok_num _) (good_cons (isTok_num _) good_nil))),?_⟩
  exact r_name h7 (r_name h6 (r_num b1 (r_num b2 (r_ret (by rw [of_bs,of_bs];rfl)))))
 rw [if_neg (show ¬ Sc.kd (n,o,u,kd,lo,hi,ws,ns)=7 from k7)] at h
 by_cases k8:kd=8
 ·rw [if_pos (show Sc.kd (n,o,u,kd,lo,hi,ws,ns)=8 from k8)] at h
  subst k8
  simp only [Bool.and_eq_true,decide_eq_true_eq] at h
  obtain ⟨h4,h9,h8,h6,h7⟩:=h
  obtain ⟨rfl,rfl⟩:ws=[]/\ns=[]:=noW_eq h4
  have h9:lo=0:=h9
  have h8:hi=0:=h8
  subst h9 h8
  refine ⟨8,rfl,by decide,[bs u,bs o],rfl,hn,good_cons (isTok_name h7) (good_cons (isTok_name h6) good_nil),?_⟩
  exact r_name h7 (r_name h6 (r_ret (by rw [of_bs,of_bs];rfl)))
 rw [if_neg (show ¬ Sc.kd (n,o,u,kd,lo,hi,ws,ns)=8 from k8)] at h
 cases h
theorem wordOf_at (k:Nat) (h:k < 9):wordOf (wordsL.getD k [])=some k:=by
 match k,h with
 | 0,_ | 1,_ | 2,_ | 3,_ | 4,_ | 5,_ | 6,_ | 7,_ | 8,_=>rfl
theorem reads_field {f:Fld} {C:List Txt->Prop} (h:fldB f=true):Reads' field (fldT f) f C/\∃ w r,fldT f=w::r/\isWord w=true:=by
 obtain ⟨k,_,hk,us,hus,hn,_,hr⟩:=reads_field1 (C:=C) h
 refine ⟨?_,_,_,hus,by unfold isWord;rw [wordOf_at k hk];rfl⟩
 rw [hus]
 intro l rest hc hl
 cases l with
 | nil=>simp at hl
 | cons t l =>
  rw [List.map_cons,List.cons_append] at hl
  injection hl with h1 h2
  obtain ⟨l',e1,e2⟩:=r_name (f:=fun nm l=>field1 k (ofT nm) l) hn (by rw [of_bs];exact hr) l rest hc h2
  refine ⟨l',?_,e2⟩
  show (match wordOf t.1 with
   | none=>Res.bad (t::l)
   | some k=>(name l).bind fun nm l=>field1 k (ofT nm) l)=_
  rw [h1,wordOf_at k hk]
  exact e1
theorem flatten_map {α:Type} {tk:α->List Txt} (l:List α):(l.map tk).flatten=l.flatMap tk:=by rw [List.flatMap_def]
theorem kndT_eq (k:Knd):(kndL k).flatten=sKind::bs k.1::num k.2.1::num k.2.2.1::(Sc.flds k).flatMap fldT:=by
 unfold kndL
 rw [List.flatten_cons,flatten_map]
 rfl
theorem reads_kind {k:Knd} (h:kndB k=true):Reads' kind (kndL k).flatten k (Stop isWord):=by
 obtain ⟨n,lo,hi,fs⟩:=k
 simp only [kndB,Bool.and_eq_true,decide_eq_true_eq] at h
 obtain ⟨h1,h2,_,h4⟩:=h
 obtain ⟨b1,b2⟩:=span_abs h2 (by decide) (by decide)
 rw [kndT_eq]
 have hm:=reads_many' (begins:=isWord) (q:=fun _=>false) (read:=field) (tk:=fldT) fs (fun f hf=>by
  obtain ⟨r1,w,r,e,hw⟩:=reads_field (C:=Stop fun _=>false) (all_mem h4 f hf)
  exact ⟨r1,w,r,e,hw,rfl⟩)
 have hb:=reads_bind (C:=Stop isWord) (f:=fun fs l=>Res.ok ((ofT (bs n),lo,hi,fs):Knd) l) (us:=[]) hm (r_ret rfl) (fun rest hr=>⟨by simpa using hr,fun _ _=>rfl⟩)
 rw [List.append_nil] at hb
 refine reads_cast (r_need (w:=sKind) (r_name h1 (r_num b1 (r_num b2 hb)))) rfl ?_
 rw [of_bs]
theorem lifT_eq (x:Lif):(lifL x).flatten=sLife::bs x.1::num x.2.1.length::(x.2.1.map bs++x.2.2.flatMap fun m=>[sMove,num m.1,num m.2]):=by
 unfold lifL
 rw [List.flatten_cons,flatten_map]
 rfl
theorem reads_move {m:Int × Int} {C:List Txt->Prop} (h1:m.1.natAbs < 1000000000) (h2:m.2.natAbs < 1000000000):Reads' move [sMove,num m.1,num m.2] m C :=
 r_need (r_num h1 (r_num h2 (r_ret rfl)))
theorem reads_life {x:Lif} (h:lifB x=true):Reads' life (lifL x).flatten x (Stop fun t=>t == sMove):=by
 obtain ⟨n,ss,ms⟩:=x
 simp only [lifB,Bool.and_eq_true,decide_eq_true_eq] at h
 obtain ⟨h1,h2,h3,_,h5⟩:=h
 have h2':=h2
 simp only [within,Bool.and_eq_true,decide_eq_true_eq] at h2'
 rw [lifT_eq]
 have hm:=reads_many' (begins:=fun t=>t == sMove) (q:=fun _=>false) (read:=move) (tk:=fun m:Int × Int=>[sMove,num m.1,num m.2]) ms (fun m hm=>by
  have hw:=all_mem h5 m hm
  simp only [within,Bool.and_eq_true,decide_eq_true_eq] at hw
  exact ⟨reads_move (by omega) (by omega),sMove,_,rfl,by decide,rfl⟩)
 have hb:=reads_bind (C:=Stop fun t=>t == sMove) (f:=fun ms l=>Res.ok ((ofT (bs n),ss,ms):Lif) l) (us:=[]) hm (r_ret rfl) (fun rest hr=>⟨by simpa using hr,fun _ _=>rfl⟩)
 rw [List.append_nil] at hb
 have hs:=reads_bind (C1:=Any) (C:=Stop fun t=>t == sMove) (f:=fun ss l=>(many (fun t=>t == sMove) move l.length [] l).bind fun ms l=>Res.ok ((ofT (bs n),ss,ms):Lif) l) (reads_states (C:=Any) ss [] h3) (by rw [List.nil_append];exact hb) (fun _ _=>trivial)
 refine reads_cast (r_need (w:=sLife) (r_name h1 (r_cnt (n:=ss.length) (by omega) (by omega) hs))) rfl ?_
 rw [of_bs]
theorem reads_rule {r:Rul} {C:List Txt->Prop} (h:rulB r=true):Reads' rule (rulL r) r C:=by
 obtain ⟨n,k,a,b,v⟩:=r
 simp only [rulB,Bool.and_eq_true] at h
 obtain ⟨h1,h2,h3,h4,_,h6⟩:=h
 exact r_need (r_name h1 (r_name h2 (r_names h3 (fun t ht=>r_names h4 (fun u hu=>r_num (within_abs h6 (by decide) (by decide)) (r_ret (by rw [of_bs,of_bs,ht,hu])))))))
theorem reads_schema {x:Sch} (h:okB x=true):Reads' schema (linesL x).flatten x (fun rest=>rest=[]):=by
 obtain ⟨v,ks,ls,rs⟩:=x
 simp only [okB,Bool.and_eq_true,decide_eq_true_eq] at h
 obtain ⟨h1,_,_,_,h5,h6,h7⟩:=h
 have e:(linesL (v,ks,ls,rs)).flatten=sSchema::num v::(ks.flatMap (fun k=>(kndL k).flatten)++(ls.flatMap (fun x=>(lifL x).flatten)++rs.flatMap rulL)):=by
  unfold linesL
  rw [List.flatten_cons,List.flatten_append,List.flatten_append,flatten_map]
  have f1:∀ {α:Type} (g:α->List (List Txt)) (l:List α),(l.flatMap g).flatten=l.flatMap fun a=>(g a).flatten:=by
   intro α g l
   induction l with
   | nil=>rfl
   | cons a l ih=>rw [List.flatMap_cons,List.flatten_append,ih,List.flatMap_cons]
  rw [f1,f1]
  rfl
 rw [e]
 have stop_rules:∀ (q:Txt->Bool) (rest:List Txt),q sRule=false->rest=[]->Stop q (rs.flatMap rulL++rest):=by
  intro q rest hq hr
  subst hr
  cases rs with
  | nil=>intro t ht;simp at ht
  | cons r rs =>
   intro t ht
   have:t=sRule:=by
    rw [List.flatMap_cons] at ht
    simpa [rulL] using ht.symm
   rw [this];exact hq
 have stop_lives:∀ (q:Txt->Bool) (rest:List Txt),q sLife=false->q sRule=false->rest=[]->Stop q (ls.flatMap (fun x=>(lifL x).flatten)++(rs.flatMap rulL++rest)):=by
  intro q rest hl hq hr
  cases ls with
  | nil=>exact stop_rules q rest hq hr
  | cons y ls =>
   intro t ht
   have:t=sLife:=by
    rw [List.flatMap_cons,lifT_eq] at ht
    simpa using ht.symm
   rw [this];exact hl
 have hrs:=reads_many' (begins:=fun t=>t == sRule) (q:=fun _=>false) (read:=rule) (tk:=rulL) rs (fun r hr=>⟨reads_rule (all_mem h7 r hr),sRule,_,rfl,by decide,rfl⟩)
 have hr2:=reads_bind (C:=fun rest=>rest=[]) (f:=fun rs l=>Res.ok ((v,ks,ls,rs):Sch) l) (us:=[]) hrs (r_ret rfl) (fun rest hr=>by subst hr;exact ⟨fun t ht=>by simp at ht,fun t ht=>rfl⟩)
 rw [List.append_nil] at hr2
 have hls:=reads_many' (begins:=fun t=>t == sLife) (q:=fun t=>t == sMove) (read:=life) (tk:=fun x=>(lifL x).flatten) ls (fun y hy=>⟨reads_life (all_mem h6 y hy),sLife,_,lifT_eq y,by decide,by decide⟩)
 have hl2:=reads_bind (C:=fun rest=>rest=[]) (f:=fun ls l=>(many (fun t=>t == sRule) rule l.length [] l).bind fun rs l=>Res.ok ((v,ks,ls,rs):Sch) l) hls hr2 (fun rest hr=>⟨stop_rules _ rest (by decide) hr,stop_rules _ rest (by decide) hr⟩)
 have hks:=reads_many' (begins:=fun t=>t == sKind) (q:=isWord) (read:=kind) (tk:=fun k=>(kndL k).flatten) ks (fun k hk=>⟨reads_kind (all_mem h5 k hk),sKind,_,kndT_eq k,by decide,by decide⟩)
 have hk2:=reads_bind (C:=fun rest=>rest=[]) (f:=fun ks l=>(many (fun t=>t == sLife) life l.length [] l).bind fun ls l=>(many (fun t=>t == sRule) rule l.length [] l).bind fun rs l=>Res.ok ((v,ks,ls,rs):Sch) l) hks hl2 (fun rest hr=>by rw [List.append_assoc];exact ⟨stop_lives _ rest (by decide) (by decide) hr,stop_lives _ rest (by decide) (by decide) hr⟩)
 exact r_need (r_num (within_abs h1 (by decide) (by decide)) hk2)
theorem good_word (k:Nat) (h:k < 9):(wordsL.getD k []).all Vm.isTok=true/\wordsL.getD k []≠[]:=by
 match k,h with
 | 0,_ | 1,_ | 2,_ | 3,_ | 4,_ | 5,_ | 6,_ | 7,_ | 8,_=>exact ⟨by decide,by decide⟩
theorem good_fld {f:Fld} (h:fldB f=true):Good (fldT f):=by
 obtain ⟨k,_,hk,us,hus,hn,hg,_⟩:=reads_field1 (C:=Any) h
 rw [hus]
 exact good_cons (good_word k hk) (good_cons (isTok_name hn) hg)
theorem good_lines {x:Sch} (h:okB x=true):Good (linesL x).flatten:=by
 obtain ⟨v,ks,ls,rs⟩:=x
 simp only [okB,Bool.and_eq_true,decide_eq_true_eq] at h
 obtain ⟨_,_,_,_,h5,h6,h7⟩:=h
 unfold linesL
 rw [List.flatten_cons,List.flatten_append,List.flatten_append,flatten_map]
 have f1:∀ {α:Type} (g:α->List (List Txt)) (l:List α),(l.flatMap g).flatten=l.flatMap fun a=>(g a).flatten:=by
  intro α g l
  induction l with
  | nil=>rfl
  | cons a l ih=>rw [List.flatMap_cons,List.flatten_append,ih,List.flatMap_cons]
 rw [f1,f1]
 refine good_app (good_cons ⟨by decide,by decide⟩ (good_cons (isTok_num _) good_nil)) (good_app (good_flat _ fun k hk=>?_) (good_app (good_flat _ fun y hy=>?_) (good_flat _ fun r hr=>?_)))
 ·have hb:=all_mem h5 k hk
  simp only [kndB,Bool.and_eq_true,decide_eq_true_eq] at hb
  rw [kndT_eq]
  exact good_cons ⟨by decide,by decide⟩ (good_cons (isTok_name hb.1) (good_cons (isTok_num _) (good_cons (isTok_num _) (good_flat _ fun f hf=>good_fld (all_mem hb.2.2.2 f hf)))))
 ·have hb:=all_mem h6 y hy
  simp only [lifB,Bool.and_eq_true,decide_eq_true_eq] at hb
  rw [lifT_eq]
  exact good_cons ⟨by decide,by decide⟩ (good_cons (isTok_name hb.1) (good_cons (isTok_num _) (good_app (good_map _ hb.2.2.1) (good_flat _ fun m _=>good_cons ⟨by decide,by decide⟩ (good_cons (isTok_num _) (good_cons (isTok_num _) good_nil))))))
 ·have hb:=all_mem h7 r hr
  simp only [rulB,Bool.and_eq_true] at hb
  exact good_cons ⟨by decide,by decide⟩ (good_cons (isTok_name hb.1) (good_cons (isTok_name hb.2.1) (good_cons (isTok_orNone hb.2.2.1) (good_cons (isTok_orNone hb.2.2.2.1) (good_cons (isTok_num _) good_nil)))))
theorem lines_ne (x:Sch):∀ m∈(linesL x).tail,m≠[]:=by
 intro m hm
 simp only [linesL,List.tail_cons,List.mem_append,List.mem_flatMap,List.mem_map] at hm
 rcases hm with ⟨k,_,hk⟩ | ⟨y,_,hy⟩ | ⟨r,_,rfl⟩
 ·simp only [kndL,List.mem_cons,List.mem_map] at hk
  rcases hk with rfl | ⟨f,_,rfl⟩
  ·simp
  ·unfold fldT
   repeat' split
   all_goals simp
 ·simp only [lifL,List.mem_cons,List.mem_map] at hy
  rcases hy with rfl | ⟨q,_,rfl⟩ <;> simp
 ·simp [rulL]
theorem valid_ok {x:Sch} (h:valid x=0):okB x=true/\(source x).length<=8192:=by
 unfold valid at h
 by_cases ho:okB x=true
 ·rw [if_pos ho] at h
  by_cases hl:8192 < (source x).length
  ·rw [if_pos hl] at h;cases h
  ·exact ⟨ho,by omega⟩
 ·rw [if_neg ho] at h;cases h
theorem parse_toks {x:Sch} {s:Txt} (h:valid x=0) (hl:s.length<=8192) (ht:(toks s).map Prod.fst=(linesL x).flatten) (hs:stopAt s=s.length):parse s=(x,0,0):=by
 obtain ⟨ho,_⟩:=valid_ok h
 obtain ⟨l',e1,e2⟩:=reads_schema ho (toks s) [] rfl (by rw [ht,List.append_nil])
 have e3:l'=[]:=List.map_eq_nil_iff.1 e2
 subst e3
 unfold parse
 rw [if_neg (by omega),e1]
 show (if stopAt s < s.length then _ else if valid x=0 then (x,(0:Int),(0:Int)) else _)=_
 rw [if_neg (by omega),if_pos h]
theorem parse_print {x:Sch} (h:valid x=0):parse (print x)=(x,0,0):=by
 obtain ⟨ho,hl⟩:=valid_ok h
 have hp:print x=source x:=by unfold print;rw [if_pos h]
 rw [hp]
 obtain ⟨l,ls,e⟩:∃ l ls,linesL x=l::ls:=⟨_,_,rfl⟩
 have hne:l≠[]:=by
  have:l=[sSchema,num x.1]:=by
   unfold linesL at e
   injection e with e _
   exact e.symm
  rw [this];simp
 obtain ⟨t1,t2⟩:=toks_lines l ls hne (fun m hm=>lines_ne x m (by rw [e];exact hm)) (by rw [<-e];exact good_lines ho)
 have hsrc:source x=(l::ls).flatMap lineT:=by unfold source;rw [e]
 rw [<-hsrc] at t1 t2
 exact parse_toks h hl (by rw [t1,e]) t2
end Sx
namespace Sx
structure Loc {α:Type} (p:List Tok->Res α):Prop where
 ok:∀ l a m,p l=.ok a m->∃ c,l=c++m/\∀ d,d <+: m->p (c++d)=.ok a d
 bad:∀ l m,p l=.bad m->∃ c,l=c++m/\(p c=.bad []∨∃ a,p c=.ok a [])
theorem loc_nil {α:Type} {p:List Tok->Res α} (h:Loc p):p []=.bad []∨∃ a,p []=.ok a []:=by
 cases hp:p [] with
 | ok a m =>
  obtain ⟨c,e,_⟩:=h.ok [] a m hp
  have:m=[]:=(List.append_eq_nil_iff.1 e.symm).2
  subst this
  exact .inr ⟨a,rfl⟩
 | bad m =>
  obtain ⟨c,e,_⟩:=h.bad [] m hp
  have:m=[]:=(List.append_eq_nil_iff.1 e.symm).2
  subst this
  exact .inl rfl
theorem loc_next (right:Txt->Bool):Loc (next right):=by
 refine ⟨fun l a m h=>?_,fun l m h=>?_⟩
 ·cases l with
  | nil=>cases h
  | cons t l =>
   have h:(if right t.1=true then Res.ok t.1 l else Res.bad (t::l))=.ok a m:=h
   by_cases hr:right t.1=true
   ·rw [if_pos hr] at h
    injection h with h1 h2
    subst h1 h2
    refine ⟨[t],rfl,fun d _=>?_⟩
    show (if right t.1=true then Res.ok t.1 d else Res.bad (t::d))=_
    rw [if_pos hr]
   ·rw [if_neg hr] at h;cases h
 ·cases l with
  | nil =>
   have h:Res.bad []=Res.bad m:=h
   injection h with h
   subst h
   exact ⟨[],rfl,.inl rfl⟩
  | cons t l =>
   have h:(if right t.1=true then Res.ok t.1 l else Res.bad (t::l))=.bad m:=h
   by_cases hr:right t.1=true
   ·rw [if_pos hr] at h;cases h
   ·rw [if_neg hr] at h
    injection h with h
    subst h
    exact ⟨[],rfl,.inl rfl⟩
theorem loc_ret {α:Type} (a:α):Loc (fun l=>Res.ok a l) :=
 ⟨fun l b m h=>by injection h with h1 h2;subst h1 h2;exact ⟨[],rfl,fun d _=>rfl⟩,fun l m h=>by cases h⟩
theorem loc_bind {α β:Type} {p:List Tok->Res α} {f:α->List Tok->Res β} (h:Loc p) (k:∀ a,Loc (f a)):Loc (fun l=>(p l).bind f):=by
 refine ⟨fun l b m hb=>?_,fun l m hb=>?_⟩
 ·have hb:(p l).bind f=.ok b m:=hb
  cases hp:p l with
  | bad l1=>rw [hp] at hb;cases hb
  | ok a l1 =>
   rw [hp] at hb
   have hb:f a l1=.ok b m:=hb
   obtain ⟨c1,e1,g1⟩:=h.ok l a l1 hp
   obtain ⟨c2,e2,g2⟩:=(k a).ok l1 b m hb
   refine ⟨c1++c2,by rw [e1,e2,List.append_assoc],fun d hd=>?_⟩
   show (p (c1++c2++d)).bind f=_
   rw [List.append_assoc,g1 (c2++d) (by rw [e2];exact (List.prefix_append_right_inj _).2 hd)]
   exact g2 d hd
 ·have hb:(p l).bind f=.bad m:=hb
  cases hp:p l with
  | bad l1 =>
   rw [hp] at hb
   have hb:Res.bad l1=(Res.bad m:Res β):=hb
   injection hb with hb
   subst hb
   obtain ⟨c,e,g⟩:=h.bad l l1 hp
   refine ⟨c,e,?_⟩
   rcases g with g | ⟨a,g⟩
   ·exact .inl (by show (p c).bind f=_;rw [g];rfl)
   ·rcases loc_nil (k a) with g2 | ⟨b,g2⟩
    ·exact .inl (by show (p c).bind f=_;rw [g];exact g2)
    ·exact .inr ⟨b,by show (p c).bind f=_;rw [g];exact g2⟩
  | ok a l1 =>
   rw [hp] at hb
   have hb:f a l1=.bad m:=hb
   obtain ⟨c1,e1,g1⟩:=h.ok l a l1 hp
   obtain ⟨c2,e2,g2⟩:=(k a).bad l1 m hb
   refine ⟨c1++c2,by rw [e1,e2,List.append_assoc],?_⟩
   have hc:=g1 c2 (by rw [e2];exact List.prefix_append _ _)
   rcases g2 with g2 | ⟨b,g2⟩
   ·exact .inl (by show (p (c1++c2)).bind f=_;rw [hc];exact g2)
   ·exact .inr ⟨b,by show (p (c1++c2)).bind f=_;rw [hc];exact g2⟩
def Eats {α:Type} (p:List Tok->Res α):Prop:=∀ l a m,p l=.ok a m->m.length < l.length
theorem loc_len {α:Type} {p:List Tok->Res α} (h:Loc p) {l m:List Tok} {a:α} (hp:p l=.ok a m):m.length<=l.length:=by
 obtain ⟨c,e,_⟩:=h.ok l a m hp
 rw [e,aK];omega
theorem eats_next (right:Txt->Bool):Eats (next right):=by
 intro l a m h
 cases l with
 | nil=>cases h
 | cons t l =>
  have h:(if right t.1=true then Res.ok t.1 l else Res.bad (t::l))=.ok a m:=h
  by_cases hr:right t.1=true
  ·rw [if_pos hr] at h
   injection h with _ h2
   subst h2
   simp
  ·rw [if_neg hr] at h;cases h
theorem eats_bind {α β:Type} {p:List Tok->Res α} {f:α->List Tok->Res β} (h:Eats p) (k:∀ a,Loc (f a)):Eats (fun l=>(p l).bind f):=by
 intro l b m hb
 have hb:(p l).bind f=.ok b m:=hb
 cases hp:p l with
 | bad l1=>rw [hp] at hb;cases hb
 | ok a l1 =>
  rw [hp] at hb
  have h1:=h l a l1 hp
  have h2:=loc_len (k a) (show f a l1=.ok b m from hb)
  omega
theorem many_loc {α:Type} {begins:Txt->Bool} {read:List Tok->Res α} (h:Loc read) (he:Eats read):∀ (n:Nat) (l:List Tok) (fuel:Nat) (acc:List α),l.length=n->l.length<=fuel ->
  (∀ xs m,many begins read fuel acc l=.ok xs m->∃ c,l=c++m/\∀ d,d <+: m->∀ F,(c++d).length<=F->many begins read F acc (c++d)=.ok xs d) /\
  (∀ m,many begins read fuel acc l=.bad m->∃ c,l=c++m/\∀ F,c.length<=F->(many begins read F acc c=.bad []∨∃ xs,many begins read F acc c=.ok xs [])):=by
 intro n
 induction n using Nat.strongRecOn with
 | _ n ih =>
  intro l fuel acc hn hf
  have mnil:∀ F,many begins read F acc []=.ok acc []:=fun F=>by cases F <;> rfl
  cases l with
  | nil =>
   rw [mnil]
   refine ⟨fun xs m hm=>?_,fun m hm=>by cases hm⟩
   injection hm with h1 h2
   subst h1 h2
   refine ⟨[],rfl,fun d hd F _=>?_⟩
   rw [List.prefix_nil.1 hd]
   exact mnil F
  | cons t l =>
   obtain ⟨fuel,rfl⟩:∃ f,fuel=f+1:=⟨fuel - 1,by simp at hf;omega⟩
   have step:∀ F u r,many begins read (F+1) acc (u::r)=if begins u.1=true then (read (u::r)).bind fun a l=>many begins read F (acc++[a]) l else .ok acc (u::r):=fun _ _ _=>rfl
   rw [step]
   by_cases hb:begins t.1=true
   ·rw [if_pos hb]
    cases hr:read (t::l) with
    | bad l1 =>
     refine ⟨fun xs m hm=>(by cases hm),fun m hm=>?_⟩
     have hm:Res.bad l1=(Res.bad m:Res (List α)):=hm
     injection hm with hm
     subst hm
     obtain ⟨c,e,g⟩:=h.bad _ _ hr
     refine ⟨c,e,fun F hF=>?_⟩
     cases c with
     | nil=>exact .inr ⟨acc,mnil F⟩
     | cons u c =>
      obtain ⟨F,rfl⟩:∃ f,F=f+1:=⟨F - 1,by simp at hF;omega⟩
      have hu:u=t:=by rw [List.cons_append] at e;injection e with e _;exact e.symm
      rw [step,hu,if_pos hb]
      rw [hu] at g
      rcases g with g | ⟨a,g⟩
      ·exact .inl (by rw [g];rfl)
      ·refine .inr ⟨acc++[a],?_⟩
       rw [g]
       show many begins read F (acc++[a]) []=_
       cases F <;> rfl
    | ok a l1 =>
     have hlt:=he _ _ _ hr
     obtain ⟨c1,e1,g1⟩:=h.ok _ _ _ hr
     obtain ⟨i1,i2⟩:=ih l1.length (by omega) l1 fuel (acc++[a]) rfl (by simp at hf hlt;omega)
     have c1ne:∃ u c',c1=u::c':=by
      cases c1 with
      | nil=>rw [List.nil_append] at e1;rw [<-e1] at hlt;omega
      | cons u c'=>exact ⟨u,c',rfl⟩
     obtain ⟨u,c',rfl⟩:=c1ne
     have hu:u=t:=by rw [List.cons_append] at e1;injection e1 with e1 _;exact e1.symm
     subst hu
     refine ⟨fun xs m hm=>?_,fun m hm=>?_⟩
     ·obtain ⟨c2,e2,g2⟩:=i1 xs m hm
      refine ⟨u::c'++c2,by rw [e1,e2,List.append_assoc],fun d hd F hF=>?_⟩
      obtain ⟨F,rfl⟩:∃ f,F=f+1:=⟨F - 1,by simp at hF;omega⟩
      have hc:=g1 (c2++d) (by rw [e2];exact (List.prefix_append_right_inj _).2 hd)
      rw [List.append_assoc] at hF ⊢
      rw [List.cons_append] at hc hF ⊢
      rw [step,if_pos hb,hc]
      exact g2 d hd F (by simp at hF ⊢;omega)
     ·obtain ⟨c2,e2,g2⟩:=i2 m hm
      refine ⟨u::c'++c2,by rw [e1,e2,List.append_assoc],fun F hF=>?_⟩
      obtain ⟨F,rfl⟩:∃ f,F=f+1:=⟨F - 1,by simp at hF;omega⟩
      have hc:=g1 c2 (by rw [e2];exact List.prefix_append _ _)
      rw [List.cons_append] at hc hF ⊢
      rw [step,if_pos hb,hc]
      exact g2 F (by simp at hF;omega)
   ·rw [if_neg hb]
    refine ⟨fun xs m hm=>?_,fun m hm=>by cases hm⟩
    injection hm with h1 h2
    subst h1 h2
    refine ⟨[],rfl,fun d hd F hF=>?_⟩
    rw [List.nil_append] at hF ⊢
    cases d with
    | nil=>exact mnil F
    | cons u d =>
     obtain ⟨F,rfl⟩:∃ f,F=f+1:=⟨F - 1,by simp at hF;omega⟩
     have hu:u=t:=(List.cons_prefix_cons.1 hd).1
     subst hu
     rw [step,if_neg hb]
theorem loc_many {α:Type} {begins:Txt->Bool} {read:List Tok->Res α} (h:Loc read) (he:Eats read):Loc (fun l=>many begins read l.length [] l):=by
 refine ⟨fun l a m hm=>?_,fun l m hm=>?_⟩
 ·obtain ⟨c,e,g⟩:=(many_loc (begins:=begins) h he l.length l l.length [] rfl (ag _)).1 a m hm
  exact ⟨c,e,fun d hd=>g d hd _ (ag _)⟩
 ·obtain ⟨c,e,g⟩:=(many_loc (begins:=begins) h he l.length l l.length [] rfl (ag _)).2 m hm
  exact ⟨c,e,g _ (ag _)⟩
theorem loc_need (w:Txt):Loc (need w):=loc_bind (loc_next _) (fun _=>loc_ret _)
theorem loc_number:Loc number:=loc_bind (loc_next _) (fun _=>loc_ret _)
theorem loc_count:Loc count:=loc_bind (loc_next _) (fun _=>loc_ret _)
theorem loc_name:Loc name:=loc_next _
theorem loc_names:Loc names:=loc_bind (loc_next _) (fun _=>loc_ret _)
theorem loc_picks:∀ (n:Nat) (ws:List ByteArray) (ns:List Int),Loc (picks n ws ns)
 | 0,_,_=>loc_ret _
 | n+1,_,_=>loc_bind loc_name (fun _=>loc_bind loc_number (fun _=>loc_picks n _ _))
theorem loc_states:∀ (n:Nat) (ws:List ByteArray),Loc (states n ws)
 | 0,_=>loc_ret _
 | n+1,_=>loc_bind loc_name (fun _=>loc_states n _)
theorem loc_field1 (k:Nat) (nm:ByteArray):Loc (field1 k nm):=by
 unfold field1
 by_cases k0:k=0
 ·simp only [if_pos k0];exact loc_bind loc_number (fun _=>loc_ret _)
 simp only [if_neg k0]
 by_cases k3:k=3
 ·simp only [if_pos k3];exact loc_bind loc_count (fun _=>loc_bind (loc_picks _ _ _) (fun _=>loc_ret _))
 simp only [if_neg k3]
 by_cases k6:k=6
 ·simp only [if_pos k6];exact loc_bind loc_name (fun _=>loc_ret _)
 simp only [if_neg k6]
 by_cases k8:k=8
 ·simp only [if_pos k8];exact loc_bind loc_name (fun _=>loc_bind loc_name (fun _=>loc_ret _))
 simp only [if_neg k8]
 by_cases k7:k=7
 ·simp only [if_pos k7];exact loc_bind loc_name (fun _=>loc_bind loc_name (fun _=>loc_bind loc_number (fun _=>loc_bind loc_number (fun _=>loc_ret _))))
 simp only [if_neg k7]
 by_cases k2:k=2
 ·simp only [if_pos k2];exact loc_bind loc_number (fun _=>loc_bind loc_number (fun _=>loc_ret _))
 simp only [if_neg k2]
 by_cases k4:k=4
 ·simp only [if_pos k4];exact loc_bind loc_names (fun _=>loc_bind loc_number (fun _=>loc_bind loc_number (fun _=>loc_ret _)))
 ·simp only [if_neg k4];exact loc_bind loc_name (fun _=>loc_bind loc_number (fun _=>loc_bind loc_number (fun _=>loc_ret _)))
theorem field_eq:field=fun l=>(next isWord l).bind fun t l=>(name l).bind fun nm l=>field1 ((wordOf t).getD 0) (ofT nm) l:=by
 funext l
 cases l with
 | nil=>rfl
 | cons t l =>
  show (match wordOf t.1 with
   | none=>Res.bad (t::l)
   | some k=>(name l).bind fun nm l=>field1 k (ofT nm) l)=((if isWord t.1=true then Res.ok t.1 l else Res.bad (t::l))).bind _
  unfold isWord
  cases hw:wordOf t.1 with
  | none=>rfl
  | some k =>
   rw [if_pos (show (some k).isSome=true from rfl)]
   show _=(name l).bind fun nm l=>field1 ((wordOf t.1).getD 0) (ofT nm) l
   rw [hw];rfl
theorem loc_field:Loc field:=by rw [field_eq];exact loc_bind (loc_next _) (fun _=>loc_bind loc_name (fun _=>loc_field1 _ _))
theorem eats_field:Eats field:=by rw [field_eq];exact eats_bind (eats_next _) (fun _=>loc_bind loc_name (fun _=>loc_field1 _ _))
theorem eats_need (w:Txt):Eats (need w):=eats_bind (eats_next _) (fun _=>loc_ret _)
theorem loc_kind1:∀ _:Unit,Loc (fun l=>(name l).bind fun nm l=>(number l).bind fun lo l=>(number l).bind fun hi l=>(many isWord field l.length [] l).bind fun fs l=>Res.ok ((ofT nm,lo,hi,fs):Knd) l):=fun _ =>
 loc_bind loc_name (fun _=>loc_bind loc_number (fun _=>loc_bind loc_number (fun _=>loc_bind (loc_many loc_field eats_field) (fun _=>loc_ret _))))
theorem loc_kind:Loc kind:=loc_bind (loc_need _) loc_kind1
theorem eats_kind:Eats kind:=eats_bind (eats_need _) loc_kind1
theorem loc_move1:∀ _:Unit,Loc (fun l=>(number l).bind fun a l=>(number l).bind fun b l=>Res.ok ((a,b):Int × Int) l):=fun _=>loc_bind loc_number (fun _=>loc_bind loc_number (fun _=>loc_ret _))
theorem loc_move:Loc move:=loc_bind (loc_need _) loc_move1
theorem eats_move:Eats move:=eats_bind (eats_need _) loc_move1
theorem loc_life1:∀ _:Unit,Loc (fun l=>(name l).bind fun nm l=>(count l).bind fun n l=>(states n [] l).bind fun ss l=>(many (fun t=>t == sMove) move l.length [] l).bind fun ms l=>Res.ok ((ofT nm,ss,ms):Lif) l):=fun _ =>
 loc_bind loc_name (fun _=>loc_bind loc_count (fun _=>loc_bind (loc_states _ _) (fun _=>loc_bind (loc_many loc_move eats_move) (fun _=>loc_ret _))))
theorem loc_life:Loc life:=loc_bind (loc_need _) loc_life1
theorem eats_life:Eats life:=eats_bind (eats_need _) loc_life1
theorem loc_rule1:∀ _:Unit,Loc (fun l=>(name l).bind fun nm l=>(name l).bind fun k l=>(names l).bind fun a l=>(names l).bind fun b l=>(number l).bind fun n l=>Res.ok ((ofT nm,ofT k,ofT a,ofT b,n):Rul) l):=fun _ =>
 loc_bind loc_name (fun _=>loc_bind loc_name (fun _=>loc_bind loc_names (fun _=>loc_bind loc_names (fun _=>loc_bind loc_number (fun _=>loc_ret _)))))
theorem loc_rule:Loc rule:=loc_bind (loc_need _) loc_rule1
theorem eats_rule:Eats rule:=eats_bind (eats_need _) loc_rule1
end Sx
namespace Sx
theorem bind_ok {α β:Type} {r:Res α} {f:α->List Tok->Res β} {b:β} {m:List Tok} (h:r.bind f=.ok b m):∃ a l,r=.ok a l/\f a l=.ok b m:=by
 cases r with
 | ok a l=>exact ⟨a,l,rfl,h⟩
 | bad l=>cases h
theorem next_ok {right:Txt->Bool} {l m:List Tok} {t:Txt} (h:next right l=.ok t m):right t=true/\m.length<=l.length:=by
 cases l with
 | nil=>cases h
 | cons u l =>
  have h:(if right u.1=true then Res.ok u.1 l else .bad (u::l))=.ok t m:=h
  split at h
  ·rename_i hr
   injection h with h1 h2
   subst h1 h2
   exact ⟨hr,by simp⟩
  ·cases h
theorem many_sz {α:Type} {begins:Txt->Bool} {read:List Tok->Res α} {P:α->Prop} {B:Nat} (hr:∀ l a m,l.length<=B->read l=.ok a m->P a/\m.length<=l.length) :
  ∀ (f:Nat) (acc:List α) (l:List Tok) (xs:List α) (m:List Tok),l.length<=B->many begins read f acc l=.ok xs m->xs.length<=acc.length+f/\m.length<=l.length/\((∀ x∈acc,P x)->∀ x∈xs,P x)
 | 0,acc,l,xs,m,_,h=>by
  injection h with h1 h2
  subst h1 h2
  exact ⟨ag _,ag _,fun h=>h⟩
 | f+1,acc,[],xs,m,_,h=>by
  injection h with h1 h2
  subst h1 h2
  exact ⟨by omega,ag _,fun h=>h⟩
 | f+1,acc,t::r,xs,m,hl,h=>by
  have h:(if begins t.1=true then (read (t::r)).bind fun a l=>many begins read f (acc++[a]) l else .ok acc (t::r))=.ok xs m:=h
  split at h
  ·obtain ⟨a,l1,h1,h2⟩:=bind_ok h
   obtain ⟨p1,p2⟩:=hr _ _ _ hl h1
   obtain ⟨q1,q2,q3⟩:=many_sz hr f _ _ _ _ (by omega) h2
   rw [aK,List.length_singleton] at q1
   refine ⟨by omega,by omega,fun hP=>q3 fun x hx=>?_⟩
   rcases List.mem_append.1 hx with hx | hx
   ·exact hP x hx
   ·rw [List.mem_singleton] at hx;subst hx;exact p1
  ·injection h with h1 h2
   subst h1 h2
   exact ⟨by omega,ag _,fun h=>h⟩
theorem number_ok {l m:List Tok} {n:Int} (h:number l=.ok n m):m.length<=l.length:=loc_len loc_number h
theorem name_ok {l m:List Tok} {t:Txt} (h:name l=.ok t m):t.length<=12/\m.length<=l.length:=by
 obtain ⟨h1,h2⟩:=next_ok h
 unfold nameB at h1
 simp only [Bool.and_eq_true,decide_eq_true_eq] at h1
 exact ⟨h1.1.1.2,h2⟩
theorem names_ok {l m:List Tok} {t:Txt} (h:names l=.ok t m):t.length<=12/\m.length<=l.length:=by
 obtain ⟨a,l1,h1,h2⟩:=bind_ok h
 obtain ⟨h3,h4⟩:=next_ok h1
 injection h2 with h5 h6
 subst h5 h6
 refine ⟨?_,h4⟩
 split
 ·decide
 ·rename_i hn
  rw [Bool.or_eq_true] at h3
  rcases h3 with h3 | h3
  ·unfold nameB at h3
   simp only [Bool.and_eq_true,decide_eq_true_eq] at h3
   exact h3.1.1.2
  ·exact absurd h3 hn
theorem count_ok {l m:List Tok} {n:Nat} (h:count l=.ok n m):n<=12/\m.length<=l.length:=by
 obtain ⟨a,l1,h1,h2⟩:=bind_ok h
 obtain ⟨h3,h4⟩:=next_ok h1
 injection h2 with h5 h6
 subst h5 h6
 rw [Bool.and_eq_true] at h3
 have:=within_of h3.2
 exact ⟨by omega,h4⟩
theorem picks_len:∀ (n:Nat) (ws:List ByteArray) (ns:List Int) (l:List Tok) (p:List ByteArray × List Int) (m:List Tok),picks n ws ns l=.ok p m->p.2.length=ns.length+n
 | 0,_,_,_,_,_,h=>by injection h with h1 h2;subst h1;rfl
 | n+1,ws,ns,l,p,m,h=>by
  obtain ⟨w,l1,_,h2⟩:=bind_ok h
  obtain ⟨v,l2,_,h4⟩:=bind_ok h2
  have:=picks_len n _ _ _ _ _ h4
  rw [aK,List.length_singleton] at this
  omega
theorem states_len:∀ (n:Nat) (ws:List ByteArray) (l:List Tok) (p:List ByteArray) (m:List Tok),states n ws l=.ok p m->p.length=ws.length+n
 | 0,_,_,_,_,h=>by injection h with h1 h2;subst h1;rfl
 | n+1,ws,l,p,m,h=>by
  obtain ⟨w,l1,_,h2⟩:=bind_ok h
  have:=states_len n _ _ _ _ h2
  rw [aK,List.length_singleton] at this
  omega
theorem field1_ok {k:Nat} {nm:ByteArray} {l m:List Tok} {f:Fld} (h:field1 k nm l=.ok f m):(Sc.wts f).length<=12:=by
 unfold field1 at h
 split at h
 ·obtain ⟨_,_,_,h⟩:=bind_ok h
  injection h with h1 h2;subst h1;exact Nat.zero_le _
 split at h
 ·obtain ⟨n,l1,h1,h⟩:=bind_ok h
  obtain ⟨p,l2,h2,h⟩:=bind_ok h
  have:=picks_len _ _ _ _ _ _ h2
  have hn:=(count_ok h1).1
  injection h with h3 h4;subst h3
  show p.2.length<=12
  rw [this];simpa using hn
 split at h
 ·obtain ⟨_,_,_,h⟩:=bind_ok h
  injection h with h1 h2;subst h1;exact Nat.zero_le _
 split at h
 ·obtain ⟨_,_,_,h⟩:=bind_ok h
  obtain ⟨_,_,_,h⟩:=bind_ok h
  injection h with h1 h2;subst h1;exact Nat.zero_le _
 split at h
 ·obtain ⟨_,_,_,h⟩:=bind_ok h
  obtain ⟨_,_,_,h⟩:=bind_ok h
  obtain ⟨_,_,_,h⟩:=bind_ok h
  obtain ⟨_,_,_,h⟩:=bind_ok h
  injection h with h1 h2;subst h1;exact Nat.zero_le _
 split at h
 ·obtain ⟨_,_,_,h⟩:=bind_ok h
  obtain ⟨_,_,_,h⟩:=bind_ok h
  injection h with h1 h2;subst h1;exact Nat.zero_le _
 ·obtain ⟨_,_,_,h⟩:=bind_ok h
  obtain ⟨_,_,_,h⟩:=bind_ok h
  obtain ⟨_,_,_,h⟩:=bind_ok h
  injection h with h1 h2;subst h1;exact Nat.zero_le _
theorem field_ok {l m:List Tok} {f:Fld} (h:field l=.ok f m):(Sc.wts f).length<=12/\m.length<=l.length:=by
 refine ⟨?_,loc_len loc_field h⟩
 rw [field_eq] at h
 obtain ⟨_,_,_,h⟩:=bind_ok h
 obtain ⟨_,_,_,h⟩:=bind_ok h
 exact field1_ok h
theorem kind_ok {B:Nat} {l m:List Tok} {k:Knd} (hl:l.length<=B) (h:kind l=.ok k m):((Sc.flds k).length<=B/\∀ f∈Sc.flds k,(Sc.wts f).length<=12)/\m.length<=l.length:=by
 refine ⟨?_,loc_len loc_kind h⟩
 obtain ⟨_,l1,h1,h⟩:=bind_ok h
 obtain ⟨_,l2,h2,h⟩:=bind_ok h
 obtain ⟨_,l3,h3,h⟩:=bind_ok h
 obtain ⟨_,l4,h4,h⟩:=bind_ok h
 obtain ⟨fs,l5,h5,h⟩:=bind_ok h
 have a1:=loc_len (loc_need _) h1
 have a2:=(name_ok h2).2
 have a3:=number_ok h3
 have a4:=number_ok h4
 obtain ⟨q1,_,q3⟩:=many_sz (P:=fun f:Fld=>(Sc.wts f).length<=12) (B:=l4.length) (fun l a m _ h=>field_ok h) _ _ _ _ _ (ag _) h5
 injection h with h6 h7
 subst h6
 exact ⟨by show fs.length<=B;simp at q1;omega,q3 (fun _ h=>by cases h)⟩
theorem life_ok {B:Nat} {l m:List Tok} {x:Lif} (hl:l.length<=B) (h:life l=.ok x m):(x.2.1.length<=12/\x.2.2.length<=B)/\m.length<=l.length:=by
 refine ⟨?_,loc_len loc_life h⟩
 obtain ⟨_,l1,h1,h⟩:=bind_ok h
 obtain ⟨_,l2,h2,h⟩:=bind_ok h
 obtain ⟨n,l3,h3,h⟩:=bind_ok h
 obtain ⟨ss,l4,h4,h⟩:=bind_ok h
 obtain ⟨ms,l5,h5,h⟩:=bind_ok h
 have a1:=loc_len (loc_need _) h1
 have a2:=(name_ok h2).2
 have a3:=count_ok h3
 have a4:=loc_len (loc_states _ _) h4
 have a5:=states_len _ _ _ _ _ h4
 obtain ⟨q1,_,_⟩:=many_sz (P:=fun _:Int × Int=>True) (B:=l4.length) (fun l a m _ h=>⟨trivial,loc_len loc_move h⟩) _ _ _ _ _ (ag _) h5
 injection h with h6 h7
 subst h6
 exact ⟨by show ss.length<=12;simp at a5;omega,by show ms.length<=B;simp at q1;omega⟩
theorem rule_ok {l m:List Tok} {r:Rul} (h:rule l=.ok r m):(r.2.2.1.size<=12/\r.2.2.2.1.size<=12)/\m.length<=l.length:=by
 refine ⟨?_,loc_len loc_rule h⟩
 obtain ⟨_,l1,_,h⟩:=bind_ok h
 obtain ⟨_,l2,_,h⟩:=bind_ok h
 obtain ⟨_,l3,_,h⟩:=bind_ok h
 obtain ⟨a,l4,h4,h⟩:=bind_ok h
 obtain ⟨b,l5,h5,h⟩:=bind_ok h
 obtain ⟨_,l6,_,h⟩:=bind_ok h
 have a4:=(names_ok h4).1
 have a5:=(names_ok h5).1
 injection h with h6 h7
 subst h6
 constructor
 ·show (ofT a).size<=12;unfold ofT;simpa [ByteArray.size] using a4
 ·show (ofT b).size<=12;unfold ofT;simpa [ByteArray.size] using a5
theorem schema_sz {l m:List Tok} {x:Sch} (hl:l.length<=8192) (h:schema l=.ok x m):Sz x:=by
 obtain ⟨_,l1,h1,h⟩:=bind_ok h
 obtain ⟨_,l2,h2,h⟩:=bind_ok h
 obtain ⟨ks,l3,h3,h⟩:=bind_ok h
 obtain ⟨ls,l4,h4,h⟩:=bind_ok h
 obtain ⟨rs,l5,h5,h⟩:=bind_ok h
 have a1:=loc_len (loc_need _) h1
 have a2:=number_ok h2
 obtain ⟨_,b3,q3⟩:=many_sz (P:=fun k:Knd=>(Sc.flds k).length<=8192/\∀ f∈Sc.flds k,(Sc.wts f).length<=12) (B:=8192) (fun l a m hl h=>kind_ok hl h) _ _ _ _ _ (by omega) h3
 obtain ⟨_,b4,q4⟩:=many_sz (P:=fun x:Lif=>x.2.1.length<=12/\x.2.2.length<=8192) (B:=8192) (fun l a m hl h=>life_ok hl h) _ _ _ _ _ (by omega) h4
 obtain ⟨_,b5,q5⟩:=many_sz (P:=fun r:Rul=>r.2.2.1.size<=12/\r.2.2.2.1.size<=12) (B:=8192) (fun l a m hl h=>rule_ok h) _ _ _ _ _ (by omega) h5
 injection h with h6 h7
 subst h6
 refine ⟨fun k hk=>?_,fun x hx=>?_,fun r hr=>?_⟩
 ·have:=q3 (fun _ h=>by cases h) k hk
  exact ⟨by omega,fun f hf=>by have:=this.2 f hf;omega⟩
 ·have:=q4 (fun _ h=>by cases h) x hx
  omega
 ·have:=q5 (fun _ h=>by cases h) r hr
  omega
end Sx
namespace Sx
structure FW (n:Nat) (f:Fld):Prop where
 nm:(Sc.nm f).size<=16
 of_:(Sc.of_ f).size<=16
 up:(Sc.up f).size<=16
 lo:-1100000 - (n:Int)<=Sc.lo f/\Sc.lo f<=1100000+(n:Int)
 hi:-1100000 - (n:Int)<=Sc.hi f/\Sc.hi f<=1100000+(n:Int)
 ws:(Sc.words f).length<=12+n
 ns:(Sc.wts f).length<=12+n
 w:∀ s∈Sc.words f,s.size<=16
 kd:-20<=Sc.kd f/\Sc.kd f<=20
structure KW (q:Nat) (k:Knd):Prop where
 nm:k.1.size<=16
 lo:-1100000<=k.2.1/\k.2.1<=1100000
 hi:-1100000<=k.2.2.1/\k.2.2.1<=1100000
 n:(Sc.flds k).length<=10
 f:∀ f∈Sc.flds k,FW q f
structure LW (q:Nat) (x:Lif):Prop where
 nm:x.1.size<=16
 n:x.2.1.length<=12+q
 s:∀ s∈x.2.1,s.size<=16
 m:x.2.2.length<=32+q
 v:∀ m∈x.2.2,-20<=m.1/\m.1<=20/\-20<=m.2/\m.2<=20
structure RW (r:Rul):Prop where
 nm:r.1.size<=16
 k:r.2.1.size<=16
 a:r.2.2.1.size<=16
 b:r.2.2.2.1.size<=16
 n:-1100000<=r.2.2.2.2/\r.2.2.2.2<=1100000
structure WB (n:Nat) (x:Sch):Prop where
 v:-1100000 - (n:Int)<=x.1/\x.1<=1100000+(n:Int)
 nk:(Sc.kinds x).length<=6
 nl:x.2.2.1.length<=6
 nr:x.2.2.2.length<=16+n
 k:∀ k∈Sc.kinds x,KW n k
 l:∀ l∈x.2.2.1,LW n l
 r:∀ r∈x.2.2.2,RW r
section
variable {n m:Nat} (h:n<=m)
include h
theorem FW.more {f:Fld} (x:FW n f):FW m f:=⟨x.nm,x.of_,x.up,by have:=x.lo;omega,by have:=x.hi;omega,by have:=x.ws;omega,by have:=x.ns;omega,x.w,x.kd⟩
theorem KW.more {k:Knd} (x:KW n k):KW m k:=⟨x.nm,x.lo,x.hi,x.n,fun f hf=>(x.f f hf).more h⟩
theorem LW.more {l:Lif} (x:LW n l):LW m l:=⟨x.nm,by have:=x.n;omega,x.s,by have:=x.m;omega,x.v⟩
theorem WB.more {s:Sch} (x:WB n s):WB m s:=⟨by have:=x.v;omega,x.nk,x.nl,by have:=x.nr;omega,fun k hk=>(x.k k hk).more h,fun l hl=>(x.l l hl).more h,x.r⟩
end
theorem FB.wb {f:Fld} (h:FB f):FW 0 f:=⟨by have:=h.nm;omega,by have:=h.of_;omega,by have:=h.up;omega,by have:=h.lo;omega,by have:=h.hi;omega,by have:=h.ws;omega,by have:=h.ws;have:=h.ns;omega,fun s hs=>by have:=h.w s hs;omega,by obtain ⟨k,h1,h2⟩:=h.kd;omega⟩
theorem KB.wb {k:Knd} (h:KB k):KW 0 k:=⟨by have:=h.nm;omega,by have:=h.lo;omega,by have:=h.hi;omega,h.n,fun f hf=>(fldB_bd (h.f f hf)).wb⟩
theorem LB.wb {x:Lif} (h:LB x):LW 0 x:=⟨by have:=h.nm;omega,by have:=h.n;omega,fun s hs=>by have:=h.s s hs;omega,by have:=h.m;omega,fun m hm=>by have:=h.v m hm;omega⟩
theorem RB.wb {r:Rul} (h:RB r):RW r:=⟨by have:=h.nm;omega,by have:=h.k;omega,by have:=h.a;omega,by have:=h.b;omega,by have:=h.n;omega⟩
theorem OB.wb {x:Sch} (h:OB x):WB 0 x:=⟨by have:=h.v;omega,h.nk,h.nl,by have:=h.nr;omega,fun k hk=>(h.k k hk).wb,fun l hl=>(h.l l hl).wb,fun r hr=>(h.r r hr).wb⟩
section
variable {n:Nat} (hn:n<=2) {x:Sch} (h:WB n x)
include hn h
theorem WB.sz:Sz x:=by
 refine ⟨fun k hk=>⟨by have:=(h.k k hk).n;omega,fun f hf=>by have:=((h.k k hk).f f hf).ns;omega⟩,fun l hl=>⟨by have:=(h.l l hl).n;omega,by have:=(h.l l hl).m;omega⟩,fun r hr=>by have:=(h.r r hr).a;have:=(h.r r hr).b;omega⟩
end
section
variable {n:Nat} {v:Int} {x:Sch} {i:Nat} (h:WB n x)
include h
theorem WB.ver (hv:-1100000 - ((n+1:Nat):Int)<=v/\v<=1100000+((n+1:Nat):Int)):WB (n+1) ((v,Sc.kinds x,x.2.2.1,x.2.2.2):Sch):=by
 have h':=h.more (Nat.le_succ n)
 exact ⟨hv,h'.nk,h'.nl,h'.nr,h'.k,h'.l,h'.r⟩
theorem WB.setK {k:Knd} (hv:x.1=v) (hk:KW (n+1) k):WB (n+1) ((v,(Sc.kinds x).set i k,x.2.2.1,x.2.2.2):Sch):=by
 have h':=h.more (Nat.le_succ n)
 refine ⟨hv ▸ h'.v,by show ((Sc.kinds x).set i k).length<=6;rw [List.length_set];exact h'.nk,h'.nl,h'.nr,fun k' hk'=>?_,h'.l,h'.r⟩
 rcases List.mem_or_eq_of_mem_set hk' with hk' | rfl
 ·exact h'.k k' hk'
 ·exact hk
theorem WB.setL {l:Lif} (hv:x.1=v) (hl:LW (n+1) l):WB (n+1) ((v,Sc.kinds x,x.2.2.1.set i l,x.2.2.2):Sch):=by
 have h':=h.more (Nat.le_succ n)
 refine ⟨hv ▸ h'.v,h'.nk,by show (x.2.2.1.set i l).length<=6;rw [List.length_set];exact h'.nl,h'.nr,h'.k,fun l' hl'=>?_,h'.r⟩
 rcases List.mem_or_eq_of_mem_set hl' with hl' | rfl
 ·exact h'.l l' hl'
 ·exact hl
theorem WB.addR {r:Rul} (hv:x.1=v) (hr:RW r):WB (n+1) ((v,Sc.kinds x,x.2.2.1,x.2.2.2++[r]):Sch):=by
 have h':=h.more (Nat.le_succ n)
 refine ⟨hv ▸ h'.v,h'.nk,h'.nl,by show (x.2.2.2++[r]).length<=_;rw [aK];have:=h.nr;simp only [List.length_cons,List.length_nil];omega,h'.k,h'.l,fun r' hr'=>?_⟩
 rcases List.mem_append.1 hr' with hr' | hr'
 ·exact h'.r r' hr'
 ·rw [List.mem_singleton.1 hr'];exact hr
end
theorem encF_leW {f:Fld} {n:Nat} (hn:n<=2) (h:FW n f):(encF f).length<=700:=by
 have h1:=encS_le (l:=[Sc.nm f,Sc.of_ f,Sc.up f]) (b:=16) (by
  intro s hs
  simp only [List.mem_cons,List.not_mem_nil,or_false] at hs
  have:=h.nm;have:=h.of_;have:=h.up
  rcases hs with rfl | rfl | rfl <;> assumption)
 have h2:=ints_le [Sc.kd f,Sc.lo f,Sc.hi f]
 have h3:=encS_le h.w
 have h4:=ints_le (Sc.wts f)
 have h5:=h.ws;have h6:=h.ns
 have h7:(16+9)*((Sc.words f).length+1)<=375:=by omega
 unfold encF
 simp only [aK,List.length_cons,List.length_nil] at *
 omega
theorem encK_leW {k:Knd} {n:Nat} (hn:n<=2) (h:KW n k):(encK k).length<=7100:=by
 have h1:=encB_le h.nm
 have h2:=ints_le [k.2.1,k.2.2.1]
 have h3:=En.int_le ((Sc.flds k).length:Int)
 have h4:=flat_le2 encF 700 (l:=Sc.flds k) fun f hf=>encF_leW hn (h.f f hf)
 have h5:=h.n
 unfold encK
 simp only [aK,List.length_cons,List.length_nil] at *
 omega
theorem encL_leW {x:Lif} {n:Nat} (hn:n<=2) (h:LW n x):(encL x).length<=1100:=by
 have h1:=encB_le h.nm
 have h2:=encS_le h.s
 have h3:=ints_le (mvs x.2.2)
 have h4:=h.n;have h5:=h.m
 rw [mvs_len] at h3
 unfold encL
 simp only [aK] at *
 omega
theorem encR_leW {r:Rul} (h:RW r):(encR r).length<=140:=by
 have h1:=encS_le (l:=[r.1,r.2.1,r.2.2.1,r.2.2.2.1]) (b:=16) (by
  intro s hs
  simp only [List.mem_cons,List.not_mem_nil,or_false] at hs
  have:=h.nm;have:=h.k;have:=h.a;have:=h.b
  rcases hs with rfl | rfl | rfl | rfl <;> assumption)
 have h2:=En.int_le r.2.2.2.2
 unfold encR
 simp only [aK,List.length_cons,List.length_nil] at *
 omega
theorem enc_leW {x:Sch} {n:Nat} (hn:n<=2) (h:WB n x):(enc x).length<=60000:=by
 have h1:=En.int_le x.1
 have h2:=En.int_le ((Sc.kinds x).length:Int)
 have h3:=flat_le2 encK 7100 (l:=Sc.kinds x) fun k hk=>encK_leW hn (h.k k hk)
 have h4:=En.int_le (x.2.2.1.length:Int)
 have h5:=flat_le2 encL 1100 (l:=x.2.2.1) fun k hk=>encL_leW hn (h.l k hk)
 have h6:=En.int_le (x.2.2.2.length:Int)
 have h7:=flat_le2 encR 140 (l:=x.2.2.2) fun k hk=>encR_leW (h.r k hk)
 have h8:=h.nk;have h9:=h.nl;have h10:=h.nr
 unfold enc
 simp only [aK]
 omega
end Sx
theorem eqD_run (l:List UInt8) (hl:l.length=16) (w:World):(Op.equalIn 10000 38 (.agg (byteVals l).toArray) (.agg (byteVals l).toArray)).run Tryz.prog w=.ok true w:=by
 obtain ⟨i,hi⟩:∃ i,Tryz.prog.info? 5=some i:=⟨_,rfl⟩
 rw [show (10000:Nat)=9999+1 from rfl,run_equalIn_array w 9999 _ _ Tryz.underlying38 hi]
 have h2:(isAgg 5).run Tryz.prog w=.ok false w:=by unfold isAgg;rw [Sem.run_bind,run_underlying Tryz.underlying5 w];rfl
 have hc:Tryz.prog.cellsOf 5=1:=by kernel_rfl
 rw [hc]
 have key:∀ is:List Nat,(∀ j∈is,j < 16)->(Op.eqItems 9999 5 1 (byteVals l).toArray (byteVals l).toArray is).run Tryz.prog w=.ok true w:=by
  intro is
  induction is with
  | nil=>intro _;rfl
  | cons j is ih =>
   intro h
   have hj:=h j (.head _)
   have h3:(byteVals l)[j]?=some (.int .u8 ((l[j]'(by omega)).toNat:Int)):=by unfold byteVals;rw [List.getElem?_map,List.getElem?_eq_getElem (by omega)];rfl
   have hp:(part 5 (byteVals l).toArray (j*1)).run Tryz.prog w=.ok (.int .u8 ((l[j]'(by omega)).toNat:Int)) w:=by
    unfold part
    rw [Sem.run_bind,h2]
    simp [h3]
   have he:=run_equalIn_int (P:=Tryz.prog) w 9998 5 .u8 .u8 ((l[j]'(by omega)).toNat:Int) ((l[j]'(by omega)).toNat:Int) Tryz.underlying5
   rw [beq_self_eq_true] at he
   simp only [Op.eqItems,Sem.run_bind,hp,Result.andThen_ok]
   rw [he]
   simp only [Result.andThen_ok,Bool.not_true,Bool.false_eq_true,if_false]
   exact ih fun k hk=>h k (.tail _ hk)
 exact key _ fun j hj=>List.mem_range.1 hj
def IsSx (Q:Sch->Prop) (v:Value) (w:World):Prop:=∃ (z:Sch) (us:List Value),v=.agg us.toArray/\Mem.rep [] w z us/\Q z
theorem isSx_kept (Q:Sch->Prop):Kept (IsSx Q):=fun _ _ _ ⟨z,us,h1,h2,h3⟩ hb=>⟨z,us,h1,Mem.keep h2 (Chg.of_below hb),h3⟩
structure SchIn (g k:Nat) (X:Sch) (A B C:Option Addr) (c d f p q r:Nat) (W:World):Prop where
 rep:Mem.rep [] W X [.int .i64 X.1,.slice A p c,.slice B q d,.slice C r f]
 c0:W.cell? ⟨g,k*4,none⟩=some (.int .i64 X.1)
 c1:W.cell? ⟨g,k*4+1,none⟩=some (.slice A p c)
 c2:W.cell? ⟨g,k*4+2,none⟩=some (.slice B q d)
 c3:W.cell? ⟨g,k*4+3,none⟩=some (.slice C r f)
theorem SchIn.below {g k:Nat} {X:Sch} {A B C:Option Addr} {c d f p q r:Nat} {w W:World} (h:SchIn g k X A B C c d f p q r w) (hb:Below w.heap.size w W):SchIn g k X A B C c d f p q r W :=
 ⟨Mem.keep h.rep (Chg.of_below hb),(hb.cell (World.block_lt_of_cell? _ _ h.c0)).trans h.c0,(hb.cell (World.block_lt_of_cell? _ _ h.c1)).trans h.c1,(hb.cell (World.block_lt_of_cell? _ _ h.c2)).trans h.c2,(hb.cell (World.block_lt_of_cell? _ _ h.c3)).trans h.c3⟩
theorem sch_elem {g:Nat} {ls:List Sch} {w:World} (h:SlAt [] w (some ⟨g,0,none⟩) ls) (k:Nat) (hk:k < ls.length):∃ (A B C:Option Addr) (c d f p q r:Nat),SchIn g k ls[k] A B C c d f p q r w:=by
 obtain ⟨b',o',us,hbo,-,hr,hcc⟩:=SlAt.get h k hk
 obtain ⟨rfl,rfl⟩:=addr_inj hbo
 rw [show Mem.sz Sch=4 from rfl] at hcc
 have hr0:=hr
 obtain ⟨A6,c6,B6,d6,C6,f6,rfl,-⟩:=rep_sch hr0
 have d0:=hcc 0 _ rfl;have d1:=hcc 1 _ rfl;have d2:=hcc 2 _ rfl;have d3:=hcc 3 _ rfl
 rw [Nat.zero_add] at d0 d1 d2 d3
 rw [Nat.add_zero] at d0
 exact ⟨A6,B6,C6,c6,d6,f6,_,_,_,hr,d0,d1,d2,d3⟩
theorem valid_ok {x:Sch} (h:Sx.valid x=0):Sx.okB x=true:=by
 unfold Sx.valid at h
 split at h
 ·assumption
 ·cases h
theorem print_any (x:Sch) (us:List Value) (w:World) (h:Mem.rep [] w x us) (hz:Sx.Sz x) (he:SEnv w):Calls Tryz.prog 9 #[.agg us.toArray] w fun e w'=>e=.returned (.string ⟨(Sx.print x).toArray⟩)/\Below w.heap.size w w':=by
 obtain ⟨A,c,B,d,C,e,rfl,s1,s2,s3,a1,b1,b2,b3,b4,b5,b6⟩:=rep_sch h
 obtain ⟨nk,hk⟩:=aX ((Sc.kinds x).length)
 obtain ⟨nl,hl⟩:=aX x.2.2.1.length
 obtain ⟨nr,hr⟩:=aX x.2.2.2.length
 rw [hk,hl,hr] at h
 obtain ⟨N,hN⟩:=aX w.heap.size
 obtain ⟨W0,hW0⟩:=aX (w.alloc (.cells #[.int .i64 x.1,.slice A nk c,.slice B nl d,.slice C nr e] 27))
 have hb0:Below w.heap.size w W0:=by rw [<-hW0];exact aP _ _
 have hbk:Blk W0 N 27 #[.int .i64 x.1,.slice A nk c,.slice B nl d,.slice C nr e]:=by rw [<-hW0,<-hN];exact Blk.new w _ _
 have T:=aI (((held0 W0 [] (fun _ h=>by cases h)).add (keeps_rep x _) (Mem.keep h (Chg.of_below hb0))).add (P:=fun M W=>N∉M/\Blk W N 27 #[.int .i64 x.1,.slice A nk c,.slice B nl d,.slice C nr e]) (keeps_blk _ _ _) ⟨by simp,hbk⟩)
 have CV:=aI (fun (W:World) (hb:Below W0.heap.size W0 W)=>show Calls Tryz.prog 7 #[.agg #[.int .i64 x.1,.slice A nk c,.slice B nl d,.slice C nr e]] W fun e w'=>e=.returned (.int .i64 (Sx.valid x))/\Below W.heap.size W w' from valid_any x _ W ((T.out.below hb).fact (.tail _ (.head _))) hz (he.to (hb0.trans (hb.mono hb0.size))))
 have CS:=aI (fun (W:World) (hok:Sx.okB x=true) (hb:Below W0.heap.size W0 W)=>show Calls Tryz.prog 32 #[.agg #[.int .i64 x.1,.slice A nk c,.slice B nl d,.slice C nr e]] W fun e w'=>e=.returned (.string ⟨(Sx.source x).toArray⟩)/\Below W.heap.size W w' from source_any x _ W ((T.out.below hb).fact (.tail _ (.head _))) hok (he.to (hb0.trans (hb.mono hb0.size))))
 have HB:=aI hb0
 have HW0:=aI hW0
 have HN:=aI hN
 have hp:Sx.print x=if Sx.valid x=0 then Sx.source x else []:=rfl
 have HOK:=aI (valid_ok (x:=x))
 obtain ⟨vv,hvv⟩:=aX (Sx.valid x)
 rw [hvv] at CV hp HOK
 show Calls Tryz.prog 9 #[.agg #[.int .i64 x.1,.slice A (Sc.kinds x).length c,.slice B x.2.2.1.length d,.slice C x.2.2.2.length e]] w _
 rw [hk,hl,hr]
 by_cases h0:vv=0
 ·rw [if_pos h0] at hp
  replace HOK:=aI (HOK.out h0)
  subst h0
  rw [hp]
  clear h s1 s2 s3 a1 b1 b2 b3 b4 b5 b6 hk hl hr hbk hb0 hW0 hN he hz hvv hp
  obtain ⟨z0,z1,z2,z3⟩:=aM4 ((T.out.fact (.head _)).2)
  go_enter Tryz.func9,Tryz.ntmps9
  go_upto_region 1 with fail
  rw [HW0.out,HN.out]
  go_wp2_with (first | (go_at_call 7;(with_reducible refine (CV.out _ T.out.bl).mono ?_);rintro e w2 ⟨rfl,hb2⟩;replace T:=aI (T.out.below hb2);clear hb2 z0 z1 z2 z3;obtain ⟨z0,z1,z2,z3⟩:=aM4 ((T.out.fact (.head _)).2)) | (go_at_call 32;(with_reducible refine (CS.out _ HOK.out T.out.bl).mono ?_);rintro e w2 ⟨rfl,hb2⟩;replace T:=aI (T.out.below hb2);clear hb2 z0 z1 z2 z3))
  go_ret
  exact ⟨rfl,HB.out.trans (T.out.bl.mono HB.out.size)⟩
 ·rw [if_neg h0] at hp
  rw [hp]
  have q1:(vv == 0)=false:=by simpa using h0
  have q2:(vv != 0)=true:=by simpa using h0
  clear h s1 s2 s3 a1 b1 b2 b3 b4 b5 b6 hk hl hr hbk hb0 hW0 hN he hz hvv hp h0
  obtain ⟨z0,z1,z2,z3⟩:=aM4 ((T.out.fact (.head _)).2)
  go_enter Tryz.func9,Tryz.ntmps9
  go_upto_region 1 with fail
  rw [HW0.out,HN.out]
  go_wp2_with (go_at_call 7;(with_reducible refine (CV.out _ T.out.bl).mono ?_);rintro e w2 ⟨rfl,hb2⟩;replace T:=aI (T.out.below hb2);clear hb2 z0 z1 z2 z3;obtain ⟨z0,z1,z2,z3⟩:=aM4 ((T.out.fact (.head _)).2))
  go_ret
  exact ⟨rfl,HB.out.trans (T.out.bl.mono HB.out.size)⟩
theorem mvs_take (l:List (Int × Int)) (j:Nat) (hj:j < l.length):Sx.mvs (l.take (j+1))=Sx.mvs (l.take j)++[l[j].1,l[j].2]:=by
 rw [List.take_succ_eq_append_getElem hj]
 unfold Sx.mvs
 rw [List.flatMap_append]
 rfl
end
end Go.Proofs.YtobcnhmhgoccnaaGreatDoor
