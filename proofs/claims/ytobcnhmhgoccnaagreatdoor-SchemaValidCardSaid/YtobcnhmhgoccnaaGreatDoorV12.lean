/- Parts of the proof, joined: SxV3, SxV3a, SxV3b, SxV4, SxV4a, SxV4b, SxV5, SxV6, SxV7, SxDec, SxS1, SxS2. -/
import Derived.Test.YtobcnhmhgoccnaaGreatDoorV11
set_option maxRecDepth 100000
set_option maxHeartbeats 16000000
set_option linter.unusedVariables false
set_option linter.unusedSimpArgs false
set_option linter.unusedSectionVars false
namespace Go.Proofs.YtobcnhmhgoccnaaGreatDoor
open Go Go.RowKit
section
def rtF:Value:=.func (.func 77) #[] #[]
def oneF (g:Nat):Value:=.func (.func 118) #[] #[.pointer (some ⟨g,0,none⟩)]
theorem oneF_any (x:Fld) (us:List Value) (g:Nat) (w:World) (hr:Mem.rep [] w x us) (hp:(Sc.wts x).length<=1000000) (hg:w.cell? ⟨g,0,none⟩=some rtF) :
  Calls Tryz.prog 118 #[.agg us.toArray,.pointer (some ⟨g,0,none⟩)] w (BoolP (!Sx.fldB x) w):=by
 have hr0:=hr
 obtain ⟨A1,cA,B1,dB,rfl,q1,q2,q3,q4,q5,q6,q7,q8,q9,q10,q11,q12⟩:=rep_fld hr
 clear q1 q2 q3 q4 q5 q6 q7 q8 q9 q10 q11 q12
 show Calls Tryz.prog 118 #[.agg #[.string (Sc.nm x),.string (Sc.of_ x),.string (Sc.up x),.int .i64 (Sc.kd x),.int .i64 (Sc.lo x),.int .i64 (Sc.hi x),.slice A1 (Sc.words x).length cA,.slice B1 (Sc.wts x).length dB],.pointer (some ⟨g,0,none⟩)] w (BoolP (!Sx.fldB x) w)
 have hB1:Below w.heap.size w (w.alloc (.cells #[.string (Sc.nm x),.string (Sc.of_ x),.string (Sc.up x),.int .i64 (Sc.kd x),.int .i64 (Sc.lo x),.int .i64 (Sc.hi x),.slice A1 (Sc.words x).length cA,.slice B1 (Sc.wts x).length dB] 65)):=aP _ _
 have hg1:(w.alloc (.cells #[.string (Sc.nm x),.string (Sc.of_ x),.string (Sc.up x),.int .i64 (Sc.kd x),.int .i64 (Sc.lo x),.int .i64 (Sc.hi x),.slice A1 (Sc.words x).length cA,.slice B1 (Sc.wts x).length dB] 65)).cell? ⟨g,0,none⟩=some rtF:=(hB1.cell (zc _ _ hg)).trans hg
 have hr9:=Mem.keep hr0 (za (G:=[]) hB1)
 have HC:=aI (isField_any x _ (w.alloc (.cells #[.string (Sc.nm x),.string (Sc.of_ x),.string (Sc.up x),.int .i64 (Sc.kd x),.int .i64 (Sc.lo x),.int .i64 (Sc.hi x),.slice A1 (Sc.words x).length cA,.slice B1 (Sc.wts x).length dB] 65)) hr9 hp)
 obtain ⟨r,hrr⟩:=aX (Sx.fldB x)
 rw [hrr] at HC ⊢
 have HB1:=aI hB1
 unfold rtF at hg1
 clear hrr hr0 hr9 hp hg hB1
 go_enter Tryz.func118,Tryz.ntmps118
 go_wp2_with (go_at_call 77;(with_reducible refine HC.out.mono ?_);rintro e w2 ⟨rfl,hb2⟩;have HB:=aI (HB1.out.trans (hb2.mono HB1.out.size));clear hb2)
 go_ret
 exact ⟨by cases r <;> rfl,HB.out⟩
theorem idxF_any (l:List (Fld)) (A:Option Addr) (c g:Nat) (W:World) (hs:SlAt [] W A l) (hm:l.length<=9223372036854775807) (hp:∀x∈l,(Sc.wts x).length<=1000000) (hg:W.cell? ⟨g,0,none⟩=some rtF) :
  Calls Tryz.prog 155 #[.slice A l.length c,oneF g] W (PredP (!l.all Sx.fldB) W):=by
 obtain ⟨n,hn⟩:=aX l.length
 have HS:=aI hs
 have HN:=aI hn
 have HP:=aI hp
 have HG:=aI hg
 rw [hn]
 rw [hn] at hm
 have HV:=aI (oneF_any)
 unfold oneF
 clear hs hn hp hg
 go_enter Tryz.func155,Tryz.ntmps155
 go_wp2_with fail
 go_loopg [8] n (λr i wr=>∃k:Nat,k+r=n/\i=.int .i64 k/\Below W.heap.size W wr/\∀j (hj:j < l.length),j < k->Sx.fldB l[j]=true)
 case atStart=>exact ⟨0,by omega,rfl,zf _ _,λ_ _ h=>by omega⟩
 case round =>
  obtain ⟨k,hk,rfl,hb,hall⟩:=hrel
  obtain ⟨wo,rfl⟩:=aY wr
  have HB:=aI hb
  have HA:=aI hall
  clear hb hall
  by_cases hlt:k < n
  .have hkp:k < l.length:=by rw [HN.out];exact hlt
   have k0:(0:Int)<=(k:Int):=aa _
   have k1:(k:Int) < (n:Int):=by omega
   obtain ⟨b,o,us,rfl,_,hr,hc⟩:=(HS.out.keep (za HB.out)).get k hkp
   have cv:=HV.out l[k] us g wo hr (HP.out _ (ze hkp)) ((HB.out.cell (zc _ _ HG.out)).trans HG.out)
   obtain ⟨x,hx⟩:=aX (l[k])
   rw [hx] at cv hr
   have hr0:=hr
   obtain ⟨A1,cA,B1,dB,rfl,q1,q2,q3,q4,q5,q6,q7,q8,q9,q10,q11,q12⟩:=rep_fld hr
   clear q1 q2 q3 q4 q5 q6 q7 q8 q9 q10 q11 q12
   change Calls Tryz.prog 118 #[.agg #[.string (Sc.nm x),.string (Sc.of_ x),.string (Sc.up x),.int .i64 (Sc.kd x),.int .i64 (Sc.lo x),.int .i64 (Sc.hi x),.slice A1 (Sc.words x).length cA,.slice B1 (Sc.wts x).length dB],.pointer (some ⟨g,0,none⟩)] wo _ at cv
   obtain ⟨c0,c1,c2,c3,c4,c5,c6,c7⟩:=aG8 (m:=k*8) hc
   obtain ⟨bb,hbb⟩:=aX (Sx.fldB x)
   rw [hbb] at cv
   have CV:=aI cv
   have HX:=aI hx
   have HBB:=aI hbb
   clear cv hbb hr0 hc hx
   cases bb
   .have HR:=aI (all_bad (b:=Sx.fldB) hkp (by rw [HX.out];exact HBB.out))
    go_wp2_with (go_at_call 118;(with_reducible refine CV.out.mono ?_);rintro e w2 ⟨rfl,hb2⟩;replace HB:=aT HB hb2;clear hb2)
    go_ret
    exact ⟨_,rfl,by rw [HR.out];simp,HB.out⟩
   .go_wp2_with (go_at_call 118;(with_reducible refine CV.out.mono ?_);rintro e w2 ⟨rfl,hb2⟩;replace HB:=aT HB hb2;clear hb2)
    go_roundg (gk - 1)
    case measure=>omega
    case rel =>
     refine ⟨k+1,by omega,by go_num,HB.out,λq hq hlt=>?_⟩
     rcases aj q k with h' | h'
     .exact HA.out q hq h'
     .obtain rfl:q=k:=by omega
      rw [HX.out];exact HBB.out
  .have HR:=aI (all_good (b:=Sx.fldB) λq hq=>HA.out q hq (by rw [HN.out] at hq;omega))
   have k1:¬(k:Int) < (n:Int):=by omega
   go_wp2_with fail
   go_ret
   exact ⟨_,rfl,by rw [HR.out];rfl,HB.out⟩
theorem conF_any (l:List (Fld)) (A:Option Addr) (c g:Nat) (W:World) (hs:SlAt [] W A l) (hm:l.length<=9223372036854775807) (hp:∀x∈l,(Sc.wts x).length<=1000000) (hg:W.cell? ⟨g,0,none⟩=some rtF) :
  Calls Tryz.prog 117 #[.slice A l.length c,oneF g] W (BoolP (!l.all Sx.fldB) W):=by
 have CI:=aI (idxF_any l A c g W hs hm hp hg)
 obtain ⟨n,hn⟩:=aX l.length
 rw [hn] at CI ⊢
 clear hs hm hn hp hg
 generalize oneF g=F at *
 go_enter Tryz.func117,Tryz.ntmps117
 go_wp2_with (go_at_call 155;(with_reducible refine CI.out.mono ?_);rintro e w2 ⟨r,rfl,hr,hb2⟩;have HB:=aI hb2;have HR:=aI hr;clear hb2 hr)
 go_ret
 exact ⟨by rw [<-HR.out];rfl,HB.out⟩
theorem allF_any (l:List (Fld)) (A:Option Addr) (c:Nat) (w:World) (hs:SlAt [] w A l) (hm:l.length<=9223372036854775807) (hp:∀x∈l,(Sc.wts x).length<=1000000) :
  Calls Tryz.prog 76 #[.slice A l.length c,rtF] w (BoolP (l.all Sx.fldB) w):=by
 have hB1:Below w.heap.size w (w.alloc (.cells #[rtF] 115)):=aP _ _
 have CC:=aI (conF_any l A c w.heap.size (w.alloc (.cells #[rtF] 115)) (hs.keep (za hB1)) hm hp (cell_box1 w _ _))
 obtain ⟨n,hn⟩:=aX l.length
 rw [hn] at CC ⊢
 generalize l.all Sx.fldB=r at *
 unfold rtF at CC hB1 ⊢
 unfold oneF at CC
 have HB1:=aI hB1
 clear hs hm hn hp hB1
 go_enter Tryz.func76,Tryz.ntmps76
 go_wp2_with (go_at_call 117;(with_reducible refine CC.out.mono ?_);rintro e w2 ⟨rfl,hb2⟩;have HB:=aI (HB1.out.trans (hb2.mono HB1.out.size));clear hb2)
 go_ret
 exact ⟨by cases r <;> rfl,HB.out⟩
end
section
theorem isKind_any (x:Knd) (us:List Value) (w:World) (h:Mem.rep [] w x us) (hp:(Sc.flds x).length<=1000000/\∀f∈Sc.flds x,(Sc.wts f).length<=1000000):Calls Tryz.prog 27 #[.agg us.toArray] w (BoolP (Sx.kndB x) w):=by
 obtain ⟨A1,cA,rfl,s1,a2,a3,a1,b1,b2⟩:=rep_knd h
 have C1:=aI (λw=>isName_any x.1 w a1)
 have C2:=aI (span_any x.2.1 x.2.2.1 0 65536)
 have C4:=aI (λ(W':World) (hb:Below w.heap.size w W')=>allF_any (Sc.flds x) A1 cA W' (s1.keep (za hb)) (by omega) hp.2)
 unfold rtF at C4
 obtain ⟨W1,hW1⟩:=aX (w.alloc (.cells #[.string x.1,.int .i64 x.2.1,.int .i64 x.2.2.1,.slice A1 (Sc.flds x).length cA] 52))
 have HB:=aI (show Below w.heap.size w W1 by rw [<-hW1];exact aP _ _)
 have HB1:=aI (zf W1.heap.size W1)
 have hbk:Blk W1 w.heap.size 52 #[.string x.1,.int .i64 x.2.1,.int .i64 x.2.2.1,.slice A1 (Sc.flds x).length cA]:=by rw [<-hW1];exact zj w _ _
 obtain ⟨N,hN⟩:=aX w.heap.size
 rw [hN] at hbk
 have HBQ:=aI hbk
 obtain ⟨c0,c1,c2,c3⟩:=aN4 hbk.cell
 simp at c0 c1 c2 c3
 have HW1:=aI hW1
 show Calls Tryz.prog 27 #[.agg #[.string x.1,.int .i64 x.2.1,.int .i64 x.2.2.1,.slice A1 (Sc.flds x).length cA]] w _
 obtain ⟨q1,hq1⟩:=aX (Sx.nm x.1)
 rw [hq1] at C1
 obtain ⟨q2,hq2⟩:=aX (Sx.span x.2.1 x.2.2.1 0 65536)
 rw [hq2] at C2
 obtain ⟨q3,hq3⟩:=aX (decide ((Sc.flds x).length<=10))
 have hq3':decide (((Sc.flds x).length:Int)<=10)=q3:=by rw [<-hq3];exact le_cast _ 10
 obtain ⟨q4,hq4⟩:=aX ((Sc.flds x).all Sx.fldB)
 rw [hq4] at C4
 have HF:=aI (show Sx.kndB x=(q1 && (q2 && (q3 && q4))) by unfold Sx.kndB;rw [hq1,hq2,hq3,hq4])
 clear h hbk hW1 s1 a1 a2 a3 b1 b2 hp hq1 hq2 hq3 hq4
 generalize Sx.kndB x=fb at *
 generalize (Sc.flds x).length=nl at *
 go_enter Tryz.func27,Tryz.ntmps27
 go_upto_region 1 with fail
 rw [HW1.out]
 cases q1 <;> cases q2 <;> cases q3 <;> (go_wp2_with (first | (go_at_call 74;(with_reducible refine (C1.out _).mono ?_);rintro e w2 ⟨rfl,hb2⟩;have HB1:=aI (HB1.out.trans (hb2.mono HB1.out.size));have hbk:=HBQ.out.below hb2 HBQ.out.lt;have HBQ:=aI hbk;obtain ⟨c0,c1,c2,c3⟩:=aN4 hbk.cell;simp at c0 c1 c2 c3;clear hbk hb2) | (go_at_call 75;(with_reducible refine aS (C2.out _) ?_)) | (go_at_call 76;(with_reducible refine (C4.out _ (HB.out.trans (HB1.out.mono HB.out.size))).mono ?_);rintro e w2 ⟨rfl,hb2⟩;have HB1:=aI (HB1.out.trans (hb2.mono HB1.out.size));have hbk:=HBQ.out.below hb2 HBQ.out.lt;have HBQ:=aI hbk;obtain ⟨c0,c1,c2,c3⟩:=aN4 hbk.cell;simp at c0 c1 c2 c3;clear hbk hb2));go_ret;exact ⟨by rw [HF.out];first | rfl | (cases q4 <;> rfl),HB.out.trans (HB1.out.mono HB.out.size)⟩)
def rtK:Value:=.func (.func 27) #[] #[]
def oneK (g:Nat):Value:=.func (.func 73) #[] #[.pointer (some ⟨g,0,none⟩)]
theorem oneK_any (x:Knd) (us:List Value) (g:Nat) (w:World) (hr:Mem.rep [] w x us) (hp:(Sc.flds x).length<=1000000/\∀f∈Sc.flds x,(Sc.wts f).length<=1000000) (hg:w.cell? ⟨g,0,none⟩=some rtK) :
  Calls Tryz.prog 73 #[.agg us.toArray,.pointer (some ⟨g,0,none⟩)] w (BoolP (!Sx.kndB x) w):=by
 have hr0:=hr
 obtain ⟨A1,cA,rfl,q1,q2,q3,q4,q5,q6⟩:=rep_knd hr
 clear q1 q2 q3 q4 q5 q6
 show Calls Tryz.prog 73 #[.agg #[.string x.1,.int .i64 x.2.1,.int .i64 x.2.2.1,.slice A1 (Sc.flds x).length cA],.pointer (some ⟨g,0,none⟩)] w (BoolP (!Sx.kndB x) w)
 have hB1:Below w.heap.size w (w.alloc (.cells #[.string x.1,.int .i64 x.2.1,.int .i64 x.2.2.1,.slice A1 (Sc.flds x).length cA] 52)):=aP _ _
 have hg1:(w.alloc (.cells #[.string x.1,.int .i64 x.2.1,.int .i64 x.2.2.1,.slice A1 (Sc.flds x).length cA] 52)).cell? ⟨g,0,none⟩=some rtK:=(hB1.cell (zc _ _ hg)).trans hg
 have hr9:=Mem.keep hr0 (za (G:=[]) hB1)
 have HC:=aI (isKind_any x _ (w.alloc (.cells #[.string x.1,.int .i64 x.2.1,.int .i64 x.2.2.1,.slice A1 (Sc.flds x).length cA] 52)) hr9 hp)
 obtain ⟨r,hrr⟩:=aX (Sx.kndB x)
 rw [hrr] at HC ⊢
 have HB1:=aI hB1
 unfold rtK at hg1
 clear hrr hr0 hr9 hp hg hB1
 go_enter Tryz.func73,Tryz.ntmps73
 go_wp2_with (go_at_call 27;(with_reducible refine HC.out.mono ?_);rintro e w2 ⟨rfl,hb2⟩;have HB:=aI (HB1.out.trans (hb2.mono HB1.out.size));clear hb2)
 go_ret
 exact ⟨by cases r <;> rfl,HB.out⟩
theorem idxK_any (l:List (Knd)) (A:Option Addr) (c g:Nat) (W:World) (hs:SlAt [] W A l) (hm:l.length<=9223372036854775807) (hp:∀x∈l,(Sc.flds x).length<=1000000/\∀f∈Sc.flds x,(Sc.wts f).length<=1000000) (hg:W.cell? ⟨g,0,none⟩=some rtK) :
  Calls Tryz.prog 112 #[.slice A l.length c,oneK g] W (PredP (!l.all Sx.kndB) W):=by
 obtain ⟨n,hn⟩:=aX l.length
 have HS:=aI hs
 have HN:=aI hn
 have HP:=aI hp
 have HG:=aI hg
 rw [hn]
 rw [hn] at hm
 have HV:=aI (oneK_any)
 unfold oneK
 clear hs hn hp hg
 go_enter Tryz.func112,Tryz.ntmps112
 go_wp2_with fail
 go_loopg [8] n (λr i wr=>∃k:Nat,k+r=n/\i=.int .i64 k/\Below W.heap.size W wr/\∀j (hj:j < l.length),j < k->Sx.kndB l[j]=true)
 case atStart=>exact ⟨0,by omega,rfl,zf _ _,λ_ _ h=>by omega⟩
 case round =>
  obtain ⟨k,hk,rfl,hb,hall⟩:=hrel
  obtain ⟨wo,rfl⟩:=aY wr
  have HB:=aI hb
  have HA:=aI hall
  clear hb hall
  by_cases hlt:k < n
  .have hkp:k < l.length:=by rw [HN.out];exact hlt
   have k0:(0:Int)<=(k:Int):=aa _
   have k1:(k:Int) < (n:Int):=by omega
   obtain ⟨b,o,us,rfl,_,hr,hc⟩:=(HS.out.keep (za HB.out)).get k hkp
   have cv:=HV.out l[k] us g wo hr (HP.out _ (ze hkp)) ((HB.out.cell (zc _ _ HG.out)).trans HG.out)
   obtain ⟨x,hx⟩:=aX (l[k])
   rw [hx] at cv hr
   have hr0:=hr
   obtain ⟨A1,cA,rfl,q1,q2,q3,q4,q5,q6⟩:=rep_knd hr
   clear q1 q2 q3 q4 q5 q6
   change Calls Tryz.prog 73 #[.agg #[.string x.1,.int .i64 x.2.1,.int .i64 x.2.2.1,.slice A1 (Sc.flds x).length cA],.pointer (some ⟨g,0,none⟩)] wo _ at cv
   obtain ⟨c0,c1,c2,c3⟩:=aG4 (m:=k*4) hc
   obtain ⟨bb,hbb⟩:=aX (Sx.kndB x)
   rw [hbb] at cv
   have CV:=aI cv
   have HX:=aI hx
   have HBB:=aI hbb
   clear cv hbb hr0 hc hx
   cases bb
   .have HR:=aI (all_bad (b:=Sx.kndB) hkp (by rw [HX.out];exact HBB.out))
    go_wp2_with (go_at_call 73;(with_reducible refine CV.out.mono ?_);rintro e w2 ⟨rfl,hb2⟩;replace HB:=aT HB hb2;clear hb2)
    go_ret
    exact ⟨_,rfl,by rw [HR.out];simp,HB.out⟩
   .go_wp2_with (go_at_call 73;(with_reducible refine CV.out.mono ?_);rintro e w2 ⟨rfl,hb2⟩;replace HB:=aT HB hb2;clear hb2)
    go_roundg (gk - 1)
    case measure=>omega
    case rel =>
     refine ⟨k+1,by omega,by go_num,HB.out,λq hq hlt=>?_⟩
     rcases aj q k with h' | h'
     .exact HA.out q hq h'
     .obtain rfl:q=k:=by omega
      rw [HX.out];exact HBB.out
  .have HR:=aI (all_good (b:=Sx.kndB) λq hq=>HA.out q hq (by rw [HN.out] at hq;omega))
   have k1:¬(k:Int) < (n:Int):=by omega
   go_wp2_with fail
   go_ret
   exact ⟨_,rfl,by rw [HR.out];rfl,HB.out⟩
theorem conK_any (l:List (Knd)) (A:Option Addr) (c g:Nat) (W:World) (hs:SlAt [] W A l) (hm:l.length<=9223372036854775807) (hp:∀x∈l,(Sc.flds x).length<=1000000/\∀f∈Sc.flds x,(Sc.wts f).length<=1000000) (hg:W.cell? ⟨g,0,none⟩=some rtK) :
  Calls Tryz.prog 72 #[.slice A l.length c,oneK g] W (BoolP (!l.all Sx.kndB) W):=by
 have CI:=aI (idxK_any l A c g W hs hm hp hg)
 obtain ⟨n,hn⟩:=aX l.length
 rw [hn] at CI ⊢
 clear hs hm hn hp hg
 generalize oneK g=F at *
 go_enter Tryz.func72,Tryz.ntmps72
 go_wp2_with (go_at_call 112;(with_reducible refine CI.out.mono ?_);rintro e w2 ⟨r,rfl,hr,hb2⟩;have HB:=aI hb2;have HR:=aI hr;clear hb2 hr)
 go_ret
 exact ⟨by rw [<-HR.out];rfl,HB.out⟩
theorem allK_any (l:List (Knd)) (A:Option Addr) (c:Nat) (w:World) (hs:SlAt [] w A l) (hm:l.length<=9223372036854775807) (hp:∀x∈l,(Sc.flds x).length<=1000000/\∀f∈Sc.flds x,(Sc.wts f).length<=1000000) :
  Calls Tryz.prog 26 #[.slice A l.length c,rtK] w (BoolP (l.all Sx.kndB) w):=by
 have hB1:Below w.heap.size w (w.alloc (.cells #[rtK] 69)):=aP _ _
 have CC:=aI (conK_any l A c w.heap.size (w.alloc (.cells #[rtK] 69)) (hs.keep (za hB1)) hm hp (cell_box1 w _ _))
 obtain ⟨n,hn⟩:=aX l.length
 rw [hn] at CC ⊢
 generalize l.all Sx.kndB=r at *
 unfold rtK at CC hB1 ⊢
 unfold oneK at CC
 have HB1:=aI hB1
 clear hs hm hn hp hB1
 go_enter Tryz.func26,Tryz.ntmps26
 go_wp2_with (go_at_call 72;(with_reducible refine CC.out.mono ?_);rintro e w2 ⟨rfl,hb2⟩;have HB:=aI (HB1.out.trans (hb2.mono HB1.out.size));clear hb2)
 go_ret
 exact ⟨by cases r <;> rfl,HB.out⟩
def Sx.mvB (n:Int) (m:Int × Int):Bool:=Sx.within m.1 0 (n - 1) && Sx.within m.2 0 (n - 1)
theorem isLife1_any (x:Int × Int) (gn:Nat) (n9:Int) (w:World) (hp:0<=n9/\n9<=9223372036854775807) (hq:w.cell? ⟨gn,0,none⟩=some (.int .i64 n9)):Calls Tryz.prog 82 #[.agg #[.int .i64 x.1,.int .i64 x.2],.pointer (some ⟨gn,0,none⟩)] w (BoolP (Sx.mvB n9 x) w):=by
 obtain ⟨a,b⟩:=x
 obtain ⟨n8,hn8⟩:=aX (n9 - 1)
 have hw:IntKind.i64.wrap (n9 - 1)=n8:=by rw [<-hn8];exact wrapI (by unfold inI;omega)
 have C1:=aI (within_any a 0 n8)
 have C2:=aI (within_any b 0 n8)
 obtain ⟨q1,h1⟩:=aX (Sx.within a 0 n8)
 obtain ⟨q2,h2⟩:=aX (Sx.within b 0 n8)
 rw [h1] at C1
 rw [h2] at C2
 have HF:=aI (show Sx.mvB n9 (a,b)=(q1 && q2) by unfold Sx.mvB;rw [hn8,h1,h2])
 have hlt:=zc _ _ hq
 have hB:Below w.heap.size w (w.alloc (.cells #[.int .i64 a,.int .i64 b] 58)):=aP _ _
 have hq2:=(hB.cell hlt).trans hq
 obtain ⟨W1,hW1⟩:=aX (w.alloc (.cells #[.int .i64 a,.int .i64 b] 58))
 have hbk:Blk W1 w.heap.size 58 #[.int .i64 a,.int .i64 b]:=by rw [<-hW1];exact zj w _ _
 rw [hW1] at hB hq2
 obtain ⟨c0,c1⟩:=aN2 hbk.cell
 simp at c0 c1
 have HB:=aI hB
 have HW1:=aI hW1
 clear hbk hW1 hB hq hp hn8 h1 h2 hlt
 generalize Sx.mvB n9 (a,b)=fb at *
 go_enter Tryz.func82,Tryz.ntmps82
 go_upto_region 1 with fail
 rw [HW1.out]
 cases q1 <;> (go_wp2_with (first | (go_at_call 25;(with_reducible refine aS (C1.out _) ?_)) | (go_at_call 25;(with_reducible refine aS (C2.out _) ?_)));go_ret;exact ⟨by rw [HF.out];first | rfl | (cases q2 <;> rfl),HB.out⟩)
def rtM (gn:Nat):Value:=.func (.func 82) #[] #[.pointer (some ⟨gn,0,none⟩)]
def oneM (g:Nat):Value:=.func (.func 125) #[] #[.pointer (some ⟨g,0,none⟩)]
theorem oneM_any (gn:Nat) (n9:Int) (x:Int × Int) (us:List Value) (g:Nat) (w:World) (hr:Mem.rep [] w x us) (hp:0<=n9/\n9<=9223372036854775807) (hg:w.cell? ⟨g,0,none⟩=some (rtM gn)) (hq:w.cell? ⟨gn,0,none⟩=some (.int .i64 n9)) :
  Calls Tryz.prog 125 #[.agg us.toArray,.pointer (some ⟨g,0,none⟩)] w (BoolP (!(Sx.mvB n9) x) w):=by
 have hr0:=hr
 obtain ⟨rfl,q1,q2⟩:=rep_mv hr
 clear q1 q2
 show Calls Tryz.prog 125 #[.agg #[.int .i64 x.1,.int .i64 x.2],.pointer (some ⟨g,0,none⟩)] w (BoolP (!(Sx.mvB n9) x) w)
 have hB1:Below w.heap.size w (w.alloc (.cells #[.int .i64 x.1,.int .i64 x.2] 58)):=aP _ _
 have hg1:(w.alloc (.cells #[.int .i64 x.1,.int .i64 x.2] 58)).cell? ⟨g,0,none⟩=some (rtM gn):=(hB1.cell (zc _ _ hg)).trans hg
 have hr9:=Mem.keep hr0 (za (G:=[]) hB1)
 have hq1:=(hB1.cell (zc _ _ hq)).trans hq
 have HC:=aI (isLife1_any x gn n9 (w.alloc (.cells #[.int .i64 x.1,.int .i64 x.2] 58)) hp hq1)
 obtain ⟨r,hrr⟩:=aX ((Sx.mvB n9) x)
 rw [hrr] at HC ⊢
 have HB1:=aI hB1
 unfold rtM at hg1
 clear hrr hr0 hr9 hp hg hB1 hq
 go_enter Tryz.func125,Tryz.ntmps125
 go_wp2_with (go_at_call 82;(with_reducible refine HC.out.mono ?_);rintro e w2 ⟨rfl,hb2⟩;have HB:=aI (HB1.out.trans (hb2.mono HB1.out.size));clear hb2)
 go_ret
 exact ⟨by cases r <;> rfl,HB.out⟩
theorem idxM_any (gn:Nat) (n9:Int) (l:List (Int × Int)) (A:Option Addr) (c g:Nat) (W:World) (hs:SlAt [] W A l) (hm:l.length<=9223372036854775807) (hp:∀x∈l,0<=n9/\n9<=9223372036854775807) (hg:W.cell? ⟨g,0,none⟩=some (rtM gn)) (hq:W.cell? ⟨gn,0,none⟩=some (.int .i64 n9)) :
  Calls Tryz.prog 157 #[.slice A l.length c,oneM g] W (PredP (!l.all (Sx.mvB n9)) W):=by
 obtain ⟨n,hn⟩:=aX l.length
 have HS:=aI hs
 have HN:=aI hn
 have HP:=aI hp
 have HG:=aI hg
 rw [hn]
 rw [hn] at hm
 have HV:=aI (oneM_any gn n9)
 have HQ9:=aI hq
 unfold oneM
 clear hs hn hp hg hq
 go_enter Tryz.func157,Tryz.ntmps157
 go_wp2_with fail
 go_loopg [8] n (λr i wr=>∃k:Nat,k+r=n/\i=.int .i64 k/\Below W.heap.size W wr/\∀j (hj:j < l.length),j < k->(Sx.mvB n9) l[j]=true)
 case atStart=>exact ⟨0,by omega,rfl,zf _ _,λ_ _ h=>by omega⟩
 case round =>
  obtain ⟨k,hk,rfl,hb,hall⟩:=hrel
  obtain ⟨wo,rfl⟩:=aY wr
  have HB:=aI hb
  have HA:=aI hall
  clear hb hall
  by_cases hlt:k < n
  .have hkp:k < l.length:=by rw [HN.out];exact hlt
   have k0:(0:Int)<=(k:Int):=aa _
   have k1:(k:Int) < (n:Int):=by omega
   obtain ⟨b,o,us,rfl,_,hr,hc⟩:=(HS.out.keep (za HB.out)).get k hkp
   have cv:=HV.out l[k] us g wo hr (HP.out _ (ze hkp)) ((HB.out.cell (zc _ _ HG.out)).trans HG.out) ((HB.out.cell (zc _ _ HQ9.out)).trans HQ9.out)
   obtain ⟨x,hx⟩:=aX (l[k])
   rw [hx] at cv hr
   have hr0:=hr
   obtain ⟨rfl,q1,q2⟩:=rep_mv hr
   clear q1 q2
   change Calls Tryz.prog 125 #[.agg #[.int .i64 x.1,.int .i64 x.2],.pointer (some ⟨g,0,none⟩)] wo _ at cv
   have c0:wo.cell? ⟨b,o+k*2,none⟩=some (.int .i64 x.1):=hc 0 _ rfl
   have c1:wo.cell? ⟨b,o+k*2+1,none⟩=some (.int .i64 x.2):=hc 1 _ rfl
   obtain ⟨bb,hbb⟩:=aX ((Sx.mvB n9) x)
   rw [hbb] at cv
   have CV:=aI cv
   have HX:=aI hx
   have HBB:=aI hbb
   clear cv hbb hr0 hc hx
   cases bb
   .have HR:=aI (all_bad (b:=(Sx.mvB n9)) hkp (by rw [HX.out];exact HBB.out))
    go_wp2_with (go_at_call 125;(with_reducible refine CV.out.mono ?_);rintro e w2 ⟨rfl,hb2⟩;replace HB:=aT HB hb2;clear hb2)
    go_ret
    exact ⟨_,rfl,by rw [HR.out];simp,HB.out⟩
   .go_wp2_with (go_at_call 125;(with_reducible refine CV.out.mono ?_);rintro e w2 ⟨rfl,hb2⟩;replace HB:=aT HB hb2;clear hb2)
    go_roundg (gk - 1)
    case measure=>omega
    case rel =>
     refine ⟨k+1,by omega,by go_num,HB.out,λq hq hlt=>?_⟩
     rcases aj q k with h' | h'
     .exact HA.out q hq h'
     .obtain rfl:q=k:=by omega
      rw [HX.out];exact HBB.out
  .have HR:=aI (all_good (b:=(Sx.mvB n9)) λq hq=>HA.out q hq (by rw [HN.out] at hq;omega))
   have k1:¬(k:Int) < (n:Int):=by omega
   go_wp2_with fail
   go_ret
   exact ⟨_,rfl,by rw [HR.out];rfl,HB.out⟩
theorem conM_any (gn:Nat) (n9:Int) (l:List (Int × Int)) (A:Option Addr) (c g:Nat) (W:World) (hs:SlAt [] W A l) (hm:l.length<=9223372036854775807) (hp:∀x∈l,0<=n9/\n9<=9223372036854775807) (hg:W.cell? ⟨g,0,none⟩=some (rtM gn)) (hq:W.cell? ⟨gn,0,none⟩=some (.int .i64 n9)) :
  Calls Tryz.prog 124 #[.slice A l.length c,oneM g] W (BoolP (!l.all (Sx.mvB n9)) W):=by
 have CI:=aI (idxM_any gn n9 l A c g W hs hm hp hg hq)
 obtain ⟨n,hn⟩:=aX l.length
 rw [hn] at CI ⊢
 clear hs hm hn hp hg hq
 generalize oneM g=F at *
 go_enter Tryz.func124,Tryz.ntmps124
 go_wp2_with (go_at_call 157;(with_reducible refine CI.out.mono ?_);rintro e w2 ⟨r,rfl,hr,hb2⟩;have HB:=aI hb2;have HR:=aI hr;clear hb2 hr)
 go_ret
 exact ⟨by rw [<-HR.out];rfl,HB.out⟩
theorem allM_any (gn:Nat) (n9:Int) (l:List (Int × Int)) (A:Option Addr) (c:Nat) (w:World) (hs:SlAt [] w A l) (hm:l.length<=9223372036854775807) (hp:∀x∈l,0<=n9/\n9<=9223372036854775807) (hq:w.cell? ⟨gn,0,none⟩=some (.int .i64 n9)) :
  Calls Tryz.prog 81 #[.slice A l.length c,(rtM gn)] w (BoolP (l.all (Sx.mvB n9)) w):=by
 have hB1:Below w.heap.size w (w.alloc (.cells #[(rtM gn)] 118)):=aP _ _
 have CC:=aI (conM_any gn n9 l A c w.heap.size (w.alloc (.cells #[(rtM gn)] 118)) (hs.keep (za hB1)) hm hp (cell_box1 w _ _) ((hB1.cell (zc _ _ hq)).trans hq))
 obtain ⟨n,hn⟩:=aX l.length
 rw [hn] at CC ⊢
 generalize l.all (Sx.mvB n9)=r at *
 unfold rtM at CC hB1 ⊢
 unfold oneM at CC
 have HB1:=aI hB1
 clear hs hm hn hp hB1 hq
 go_enter Tryz.func81,Tryz.ntmps81
 go_wp2_with (go_at_call 124;(with_reducible refine CC.out.mono ?_);rintro e w2 ⟨rfl,hb2⟩;have HB:=aI (HB1.out.trans (hb2.mono HB1.out.size));clear hb2)
 go_ret
 exact ⟨by cases r <;> rfl,HB.out⟩
theorem lifB_is (x:Lif):Sx.lifB x=(Sx.nm x.1 && (Sx.within x.2.1.length 1 12 && (x.2.1.all Sx.nm && (decide (x.2.2.length<=32) && x.2.2.all (Sx.mvB x.2.1.length))))):=rfl
theorem isLife_any (x:Lif) (us:List Value) (w:World) (h:Mem.rep [] w x us) (hp:x.2.1.length<=1000000/\x.2.2.length<=1000000):Calls Tryz.prog 29 #[.agg us.toArray] w (BoolP (Sx.lifB x) w):=by
 obtain ⟨A1,cA,B1,dB,rfl,s1,s2,a1,b1,b2,e1,e2⟩:=rep_lif h
 have C1:=aI (λw=>isName_any x.1 w a1)
 have C2:=aI (within_any x.2.1.length 1 12)
 obtain ⟨W0,hW0⟩:=aX (w.alloc (.cells #[.string x.1,.slice A1 x.2.1.length cA,.slice B1 x.2.2.length dB] 57))
 have hB0:Below w.heap.size w W0:=by rw [<-hW0];exact aP _ _
 have hbk0:Blk W0 w.heap.size 57 #[.string x.1,.slice A1 x.2.1.length cA,.slice B1 x.2.2.length dB]:=by rw [<-hW0];exact zj w _ _
 obtain ⟨W1,hW1⟩:=aX (W0.alloc (.cells #[.int .i64 (x.2.1.length:Int)] 3))
 have hB1:Below w.heap.size w W1:=by rw [<-hW1];exact hB0.alloc hB0.size _
 have hbk:Blk W1 w.heap.size 57 #[.string x.1,.slice A1 x.2.1.length cA,.slice B1 x.2.2.length dB]:=by rw [<-hW1];exact hbk0.alloc _
 have hbn:Blk W1 (w.heap.size+1) 3 #[.int .i64 (x.2.1.length:Int)]:=by
  have hz:W0.heap.size=w.heap.size+1:=by rw [<-hW0];show (w.heap.push _).size=_;rw [Array.size_push]
  rw [<-hW1,<-hz];exact zj W0 _ _
 obtain ⟨N,hN⟩:=aX w.heap.size
 rw [hN] at hbk hbn hbk0
 have k0:=hbk0.cell 1
 simp at k0
 have HB:=aI hB1
 have HB1:=aI (zf W1.heap.size W1)
 have HBQ:=aI hbk
 have HBN:=aI hbn
 have C3:=aI (λ(W':World) (hb:Below w.heap.size w W')=>allS_any x.2.1 A1 cA W' (s1.keep (za hb)) (by omega) (λ_ _=>trivial))
 have C5:=aI (λ(W':World) (hb:Below w.heap.size w W') (hq:W'.cell? ⟨N+1,0,none⟩=some (.int .i64 (x.2.1.length:Int)))=>allM_any (N+1) (x.2.1.length:Int) x.2.2 B1 dB W' (s2.keep (za hb)) (by omega) (λ_ _=>by omega) hq)
 unfold rtS at C3
 unfold rtM at C5
 obtain ⟨c0,c1,c2⟩:=aN3 hbk.cell;have cn:=hbn.cell 0
 simp at c0 c1 c2 cn
 have HW0:=aI hW0
 have HW1:=aI hW1
 show Calls Tryz.prog 29 #[.agg #[.string x.1,.slice A1 x.2.1.length cA,.slice B1 x.2.2.length dB]] w _
 obtain ⟨q1,hq1⟩:=aX (Sx.nm x.1)
 obtain ⟨q2,hq2⟩:=aX (Sx.within x.2.1.length 1 12)
 obtain ⟨q3,hq3⟩:=aX (x.2.1.all Sx.nm)
 obtain ⟨q4,hq4⟩:=aX (decide (x.2.2.length<=32))
 obtain ⟨q5,hq5⟩:=aX (x.2.2.all (Sx.mvB x.2.1.length))
 rw [hq1] at C1
 rw [hq2] at C2
 rw [hq3] at C3
 rw [hq5] at C5
 have hq4':decide ((x.2.2.length:Int)<=32)=q4:=by rw [<-hq4];exact le_cast _ 32
 have HF:=aI (show Sx.lifB x=(q1 && (q2 && (q3 && (q4 && q5)))) by rw [lifB_is,hq1,hq2,hq3,hq4,hq5])
 clear h hbk hbn hbk0 hW1 hW0 hB0 hB1 s1 s2 a1 b1 b2 e1 e2 hp hq1 hq2 hq3 hq4 hq5
 generalize Sx.lifB x=fb at *
 generalize x.2.1.length=sl at *
 generalize x.2.2.length=ml at *
 go_enter Tryz.func29,Tryz.ntmps29
 go_upto_region 1 with fail
 rw [HW0.out]
 go_upto_region 2 with fail
 rw [HW1.out]
 (try clear k0)
 have hz0:W0.heap.size=N+1:=by rw [<-HW0.out];show (w.heap.push _).size=_;rw [Array.size_push,hN]
 (try rw [hz0])
 cases q1 <;> cases q2 <;> cases q3 <;> cases q4 <;> (go_wp2_with (first | (go_at_call 74;(with_reducible refine (C1.out _).mono ?_);rintro e w2 ⟨rfl,hb2⟩;have HB1:=aI (HB1.out.trans (hb2.mono HB1.out.size));have hbk:=HBQ.out.below hb2 HBQ.out.lt;have HBQ:=aI hbk;have hbn:=HBN.out.below hb2 HBN.out.lt;have HBN:=aI hbn;obtain ⟨c0,c1,c2⟩:=aN3 hbk.cell;have cn:=hbn.cell 0;simp at c0 c1 c2 cn;clear hbk hbn hb2) | (go_at_call 25;(with_reducible refine aS (C2.out _) ?_)) | (go_at_call 80;(with_reducible refine (C3.out _ (HB.out.trans (HB1.out.mono HB.out.size))).mono ?_);rintro e w2 ⟨rfl,hb2⟩;have HB1:=aI (HB1.out.trans (hb2.mono HB1.out.size));have hbk:=HBQ.out.below hb2 HBQ.out.lt;have HBQ:=aI hbk;have hbn:=HBN.out.below hb2 HBN.out.lt;have HBN:=aI hbn;obtain ⟨c0,c1,c2⟩:=aN3 hbk.cell;have cn:=hbn.cell 0;simp at c0 c1 c2 cn;clear hbk hbn hb2) | (go_at_call 81;(with_reducible refine (C5.out _ (HB.out.trans (HB1.out.mono HB.out.size)) cn).mono ?_);rintro e w2 ⟨rfl,hb2⟩;have HB1:=aI (HB1.out.trans (hb2.mono HB1.out.size));have hbk:=HBQ.out.below hb2 HBQ.out.lt;have HBQ:=aI hbk;have hbn:=HBN.out.below hb2 HBN.out.lt;have HBN:=aI hbn;obtain ⟨c0,c1,c2⟩:=aN3 hbk.cell;have cn:=hbn.cell 0;simp at c0 c1 c2 cn;clear hbk hbn hb2));go_ret;exact ⟨by rw [HF.out];first | rfl | (cases q5 <;> rfl),HB.out.trans (HB1.out.mono HB.out.size)⟩)
def rtL:Value:=.func (.func 29) #[] #[]
def oneL (g:Nat):Value:=.func (.func 79) #[] #[.pointer (some ⟨g,0,none⟩)]
theorem oneL_any (x:Lif) (us:List Value) (g:Nat) (w:World) (hr:Mem.rep [] w x us) (hp:x.2.1.length<=1000000/\x.2.2.length<=1000000) (hg:w.cell? ⟨g,0,none⟩=some rtL) :
  Calls Tryz.prog 79 #[.agg us.toArray,.pointer (some ⟨g,0,none⟩)] w (BoolP (!Sx.lifB x) w):=by
 have hr0:=hr
 obtain ⟨A1,cA,B1,dB,rfl,q1,q2,q3,q4,q5,q6,q7⟩:=rep_lif hr
 clear q1 q2 q3 q4 q5 q6 q7
 show Calls Tryz.prog 79 #[.agg #[.string x.1,.slice A1 x.2.1.length cA,.slice B1 x.2.2.length dB],.pointer (some ⟨g,0,none⟩)] w (BoolP (!Sx.lifB x) w)
 have hB1:Below w.heap.size w (w.alloc (.cells #[.string x.1,.slice A1 x.2.1.length cA,.slice B1 x.2.2.length dB] 57)):=aP _ _
 have hg1:(w.alloc (.cells #[.string x.1,.slice A1 x.2.1.length cA,.slice B1 x.2.2.length dB] 57)).cell? ⟨g,0,none⟩=some rtL:=(hB1.cell (zc _ _ hg)).trans hg
 have hr9:=Mem.keep hr0 (za (G:=[]) hB1)
 have HC:=aI (isLife_any x _ (w.alloc (.cells #[.string x.1,.slice A1 x.2.1.length cA,.slice B1 x.2.2.length dB] 57)) hr9 hp)
 obtain ⟨r,hrr⟩:=aX (Sx.lifB x)
 rw [hrr] at HC ⊢
 have HB1:=aI hB1
 unfold rtL at hg1
 clear hrr hr0 hr9 hp hg hB1
 go_enter Tryz.func79,Tryz.ntmps79
 go_wp2_with (go_at_call 29;(with_reducible refine HC.out.mono ?_);rintro e w2 ⟨rfl,hb2⟩;have HB:=aI (HB1.out.trans (hb2.mono HB1.out.size));clear hb2)
 go_ret
 exact ⟨by cases r <;> rfl,HB.out⟩
theorem idxL_any (l:List (Lif)) (A:Option Addr) (c g:Nat) (W:World) (hs:SlAt [] W A l) (hm:l.length<=9223372036854775807) (hp:∀x∈l,x.2.1.length<=1000000/\x.2.2.length<=1000000) (hg:W.cell? ⟨g,0,none⟩=some rtL) :
  Calls Tryz.prog 121 #[.slice A l.length c,oneL g] W (PredP (!l.all Sx.lifB) W):=by
 obtain ⟨n,hn⟩:=aX l.length
 have HS:=aI hs
 have HN:=aI hn
 have HP:=aI hp
 have HG:=aI hg
 rw [hn]
 rw [hn] at hm
 have HV:=aI (oneL_any)
 unfold oneL
 clear hs hn hp hg
 go_enter Tryz.func121,Tryz.ntmps121
 go_wp2_with fail
 go_loopg [8] n (λr i wr=>∃k:Nat,k+r=n/\i=.int .i64 k/\Below W.heap.size W wr/\∀j (hj:j < l.length),j < k->Sx.lifB l[j]=true)
 case atStart=>exact ⟨0,by omega,rfl,zf _ _,λ_ _ h=>by omega⟩
 case round =>
  obtain ⟨k,hk,rfl,hb,hall⟩:=hrel
  obtain ⟨wo,rfl⟩:=aY wr
  have HB:=aI hb
  have HA:=aI hall
  clear hb hall
  by_cases hlt:k < n
  .have hkp:k < l.length:=by rw [HN.out];exact hlt
   have k0:(0:Int)<=(k:Int):=aa _
   have k1:(k:Int) < (n:Int):=by omega
   obtain ⟨b,o,us,rfl,_,hr,hc⟩:=(HS.out.keep (za HB.out)).get k hkp
   have cv:=HV.out l[k] us g wo hr (HP.out _ (ze hkp)) ((HB.out.cell (zc _ _ HG.out)).trans HG.out)
   obtain ⟨x,hx⟩:=aX (l[k])
   rw [hx] at cv hr
   have hr0:=hr
   obtain ⟨A1,cA,B1,dB,rfl,q1,q2,q3,q4,q5,q6,q7⟩:=rep_lif hr
   clear q1 q2 q3 q4 q5 q6 q7
   change Calls Tryz.prog 79 #[.agg #[.string x.1,.slice A1 x.2.1.length cA,.slice B1 x.2.2.length dB],.pointer (some ⟨g,0,none⟩)] wo _ at cv
   obtain ⟨c0,c1,c2⟩:=aG3 (m:=k*3) hc
   obtain ⟨bb,hbb⟩:=aX (Sx.lifB x)
   rw [hbb] at cv
   have CV:=aI cv
   have HX:=aI hx
   have HBB:=aI hbb
   clear cv hbb hr0 hc hx
   cases bb
   .have HR:=aI (all_bad (b:=Sx.lifB) hkp (by rw [HX.out];exact HBB.out))
    go_wp2_with (go_at_call 79;(with_reducible refine CV.out.mono ?_);rintro e w2 ⟨rfl,hb2⟩;replace HB:=aT HB hb2;clear hb2)
    go_ret
    exact ⟨_,rfl,by rw [HR.out];simp,HB.out⟩
   .go_wp2_with (go_at_call 79;(with_reducible refine CV.out.mono ?_);rintro e w2 ⟨rfl,hb2⟩;replace HB:=aT HB hb2;clear hb2)
    go_roundg (gk - 1)
    case measure=>omega
    case rel =>
     refine ⟨k+1,by omega,by go_num,HB.out,λq hq hlt=>?_⟩
     rcases aj q k with h' | h'
     .exact HA.out q hq h'
     .obtain rfl:q=k:=by omega
      rw [HX.out];exact HBB.out
  .have HR:=aI (all_good (b:=Sx.lifB) λq hq=>HA.out q hq (by rw [HN.out] at hq;omega))
   have k1:¬(k:Int) < (n:Int):=by omega
   go_wp2_with fail
   go_ret
   exact ⟨_,rfl,by rw [HR.out];rfl,HB.out⟩
theorem conL_any (l:List (Lif)) (A:Option Addr) (c g:Nat) (W:World) (hs:SlAt [] W A l) (hm:l.length<=9223372036854775807) (hp:∀x∈l,x.2.1.length<=1000000/\x.2.2.length<=1000000) (hg:W.cell? ⟨g,0,none⟩=some rtL) :
  Calls Tryz.prog 78 #[.slice A l.length c,oneL g] W (BoolP (!l.all Sx.lifB) W):=by
 have CI:=aI (idxL_any l A c g W hs hm hp hg)
 obtain ⟨n,hn⟩:=aX l.length
 rw [hn] at CI ⊢
 clear hs hm hn hp hg
 generalize oneL g=F at *
 go_enter Tryz.func78,Tryz.ntmps78
 go_wp2_with (go_at_call 121;(with_reducible refine CI.out.mono ?_);rintro e w2 ⟨r,rfl,hr,hb2⟩;have HB:=aI hb2;have HR:=aI hr;clear hb2 hr)
 go_ret
 exact ⟨by rw [<-HR.out];rfl,HB.out⟩
theorem allL_any (l:List (Lif)) (A:Option Addr) (c:Nat) (w:World) (hs:SlAt [] w A l) (hm:l.length<=9223372036854775807) (hp:∀x∈l,x.2.1.length<=1000000/\x.2.2.length<=1000000) :
  Calls Tryz.prog 28 #[.slice A l.length c,rtL] w (BoolP (l.all Sx.lifB) w):=by
 have hB1:Below w.heap.size w (w.alloc (.cells #[rtL] 71)):=aP _ _
 have CC:=aI (conL_any l A c w.heap.size (w.alloc (.cells #[rtL] 71)) (hs.keep (za hB1)) hm hp (cell_box1 w _ _))
 obtain ⟨n,hn⟩:=aX l.length
 rw [hn] at CC ⊢
 generalize l.all Sx.lifB=r at *
 unfold rtL at CC hB1 ⊢
 unfold oneL at CC
 have HB1:=aI hB1
 clear hs hm hn hp hB1
 go_enter Tryz.func28,Tryz.ntmps28
 go_wp2_with (go_at_call 78;(with_reducible refine CC.out.mono ?_);rintro e w2 ⟨rfl,hb2⟩;have HB:=aI (HB1.out.trans (hb2.mono HB1.out.size));clear hb2)
 go_ret
 exact ⟨by cases r <;> rfl,HB.out⟩
theorem em_add (a b:ByteArray):Sx.em (a++b)=(Sx.em a && Sx.em b):=by
 unfold Sx.em
 rw [ByteArray.size_append,Bool.eq_iff_iff]
 simp
theorem isRule_any (x:Rul) (us:List Value) (w:World) (h:Mem.rep [] w x us) (hp:x.2.2.1.size+x.2.2.2.1.size<=9223372036854775807):Calls Tryz.prog 31 #[.agg us.toArray] w (BoolP (Sx.rulB x) w):=by
 obtain ⟨rfl,a1,a2,a3,a4,a5⟩:=rep_rul h
 have C1:=aI (λw=>isName_any x.1 w a1)
 have C2:=aI (λw=>isName_any x.2.1 w a2)
 have C3:=aI (λw=>isName_any x.2.2.1 w a3)
 have C4:=aI (λw=>isName_any x.2.2.2.1 w a4)
 have C6:=aI (within_any x.2.2.2.2 (-1048576) 1048576)
 obtain ⟨y1,y2,y3⟩:=em_spell x.2.2.1
 obtain ⟨y4,y5,y6⟩:=em_spell x.2.2.2.1
 obtain ⟨y7,y8,y9⟩:=em_spell (x.2.2.1++x.2.2.2.1)
 have hadd:Sx.em (x.2.2.1++x.2.2.2.1)=(Sx.em x.2.2.1 && Sx.em x.2.2.2.1):=em_add _ _
 rw [hadd] at y7 y8 y9
 clear hadd
 obtain ⟨W1,hW1⟩:=aX (w.alloc (.cells #[.string x.1,.string x.2.1,.string x.2.2.1,.string x.2.2.2.1,.int .i64 x.2.2.2.2] 60))
 have HB:=aI (show Below w.heap.size w W1 by rw [<-hW1];exact aP _ _)
 have HB1:=aI (zf W1.heap.size W1)
 have hbk:Blk W1 w.heap.size 60 #[.string x.1,.string x.2.1,.string x.2.2.1,.string x.2.2.2.1,.int .i64 x.2.2.2.2]:=by rw [<-hW1];exact zj w _ _
 obtain ⟨N,hN⟩:=aX w.heap.size
 rw [hN] at hbk
 have HBQ:=aI hbk
 obtain ⟨c0,c1,c2,c3,c4⟩:=aN5 hbk.cell
 simp at c0 c1 c2 c3 c4
 have HW1:=aI hW1
 show Calls Tryz.prog 31 #[.agg #[.string x.1,.string x.2.1,.string x.2.2.1,.string x.2.2.2.1,.int .i64 x.2.2.2.2]] w _
 obtain ⟨q1,hq1⟩:=aX (Sx.nm x.1)
 rw [hq1] at C1
 obtain ⟨q2,hq2⟩:=aX (Sx.nm x.2.1)
 rw [hq2] at C2
 obtain ⟨q3,hq3⟩:=aX (Sx.em x.2.2.1)
 rw [hq3] at y1 y2 y3 y7 y8 y9
 obtain ⟨q4,hq4⟩:=aX (Sx.nm x.2.2.1)
 rw [hq4] at C3
 obtain ⟨q5,hq5⟩:=aX (Sx.em x.2.2.2.1)
 rw [hq5] at y4 y5 y6 y7 y8 y9
 obtain ⟨q6,hq6⟩:=aX (Sx.nm x.2.2.2.1)
 rw [hq6] at C4
 obtain ⟨q7,hq7⟩:=aX (Sx.within x.2.2.2.2 (-Sx.most) Sx.most)
 rw [show Sx.within x.2.2.2.2 (-1048576) 1048576=q7 from hq7] at C6
 have HF:=aI (show Sx.rulB x=(q1 && (q2 && ((q3 || q4) && ((q5 || q6) && (!(q3 && q5) && q7))))) by unfold Sx.rulB;rw [hq1,hq2,hq3,hq4,hq5,hq6,hq7])
 clear h hbk hW1 a1 a2 a3 a4 a5 hq1 hq2 hq3 hq4 hq5 hq6 hq7
 generalize Sx.rulB x=fb at *
 generalize x.1=s1 at *
 generalize x.2.1=s2 at *
 generalize x.2.2.1=s3 at *
 generalize x.2.2.2.1=s4 at *
 generalize x.2.2.2.2=nn at *
 go_enter Tryz.func31,Tryz.ntmps31
 go_upto_region 1 with fail
 rw [HW1.out]
 cases q1 <;> cases q2 <;> cases q3 <;> cases q4 <;> cases q5 <;> cases q6 <;> (go_wp2_with (first | (go_at_call 74;(with_reducible refine (C1.out _).mono ?_);rintro e w2 ⟨rfl,hb2⟩;have HB1:=aI (HB1.out.trans (hb2.mono HB1.out.size));have hbk:=HBQ.out.below hb2 HBQ.out.lt;have HBQ:=aI hbk;obtain ⟨c0,c1,c2,c3,c4⟩:=aN5 hbk.cell;simp at c0 c1 c2 c3 c4;clear hbk hb2) | (go_at_call 74;(with_reducible refine (C2.out _).mono ?_);rintro e w2 ⟨rfl,hb2⟩;have HB1:=aI (HB1.out.trans (hb2.mono HB1.out.size));have hbk:=HBQ.out.below hb2 HBQ.out.lt;have HBQ:=aI hbk;obtain ⟨c0,c1,c2,c3,c4⟩:=aN5 hbk.cell;simp at c0 c1 c2 c3 c4;clear hbk hb2) | (go_at_call 74;(with_reducible refine (C3.out _).mono ?_);rintro e w2 ⟨rfl,hb2⟩;have HB1:=aI (HB1.out.trans (hb2.mono HB1.out.size));have hbk:=HBQ.out.below hb2 HBQ.out.lt;have HBQ:=aI hbk;obtain ⟨c0,c1,c2,c3,c4⟩:=aN5 hbk.cell;simp at c0 c1 c2 c3 c4;clear hbk hb2) | (go_at_call 74;(with_reducible refine (C4.out _).mono ?_);rintro e w2 ⟨rfl,hb2⟩;have HB1:=aI (HB1.out.trans (hb2.mono HB1.out.size));have hbk:=HBQ.out.below hb2 HBQ.out.lt;have HBQ:=aI hbk;obtain ⟨c0,c1,c2,c3,c4⟩:=aN5 hbk.cell;simp at c0 c1 c2 c3 c4;clear hbk hb2) | (go_at_call 25;(with_reducible refine aS (C6.out _) ?_)));go_ret;exact ⟨by rw [HF.out];first | rfl | (cases q7 <;> rfl),HB.out.trans (HB1.out.mono HB.out.size)⟩)
def rtR:Value:=.func (.func 31) #[] #[]
def oneR (g:Nat):Value:=.func (.func 84) #[] #[.pointer (some ⟨g,0,none⟩)]
theorem oneR_any (x:Rul) (us:List Value) (g:Nat) (w:World) (hr:Mem.rep [] w x us) (hp:x.2.2.1.size+x.2.2.2.1.size<=9223372036854775807) (hg:w.cell? ⟨g,0,none⟩=some rtR) :
  Calls Tryz.prog 84 #[.agg us.toArray,.pointer (some ⟨g,0,none⟩)] w (BoolP (!Sx.rulB x) w):=by
 have hr0:=hr
 obtain ⟨rfl,q1,q2,q3,q4,q5⟩:=rep_rul hr
 clear q1 q2 q3 q4 q5
 show Calls Tryz.prog 84 #[.agg #[.string x.1,.string x.2.1,.string x.2.2.1,.string x.2.2.2.1,.int .i64 x.2.2.2.2],.pointer (some ⟨g,0,none⟩)] w (BoolP (!Sx.rulB x) w)
 have hB1:Below w.heap.size w (w.alloc (.cells #[.string x.1,.string x.2.1,.string x.2.2.1,.string x.2.2.2.1,.int .i64 x.2.2.2.2] 60)):=aP _ _
 have hg1:(w.alloc (.cells #[.string x.1,.string x.2.1,.string x.2.2.1,.string x.2.2.2.1,.int .i64 x.2.2.2.2] 60)).cell? ⟨g,0,none⟩=some rtR:=(hB1.cell (zc _ _ hg)).trans hg
 have hr9:=Mem.keep hr0 (za (G:=[]) hB1)
 have HC:=aI (isRule_any x _ (w.alloc (.cells #[.string x.1,.string x.2.1,.string x.2.2.1,.string x.2.2.2.1,.int .i64 x.2.2.2.2] 60)) hr9 hp)
 obtain ⟨r,hrr⟩:=aX (Sx.rulB x)
 rw [hrr] at HC ⊢
 have HB1:=aI hB1
 unfold rtR at hg1
 clear hrr hr0 hr9 hp hg hB1
 go_enter Tryz.func84,Tryz.ntmps84
 go_wp2_with (go_at_call 31;(with_reducible refine HC.out.mono ?_);rintro e w2 ⟨rfl,hb2⟩;have HB:=aI (HB1.out.trans (hb2.mono HB1.out.size));clear hb2)
 go_ret
 exact ⟨by cases r <;> rfl,HB.out⟩
theorem idxR_any (l:List (Rul)) (A:Option Addr) (c g:Nat) (W:World) (hs:SlAt [] W A l) (hm:l.length<=9223372036854775807) (hp:∀x∈l,x.2.2.1.size+x.2.2.2.1.size<=9223372036854775807) (hg:W.cell? ⟨g,0,none⟩=some rtR) :
  Calls Tryz.prog 126 #[.slice A l.length c,oneR g] W (PredP (!l.all Sx.rulB) W):=by
 obtain ⟨n,hn⟩:=aX l.length
 have HS:=aI hs
 have HN:=aI hn
 have HP:=aI hp
 have HG:=aI hg
 rw [hn]
 rw [hn] at hm
 have HV:=aI (oneR_any)
 unfold oneR
 clear hs hn hp hg
 go_enter Tryz.func126,Tryz.ntmps126
 go_wp2_with fail
 go_loopg [8] n (λr i wr=>∃k:Nat,k+r=n/\i=.int .i64 k/\Below W.heap.size W wr/\∀j (hj:j < l.length),j < k->Sx.rulB l[j]=true)
 case atStart=>exact ⟨0,by omega,rfl,zf _ _,λ_ _ h=>by omega⟩
 case round =>
  obtain ⟨k,hk,rfl,hb,hall⟩:=hrel
  obtain ⟨wo,rfl⟩:=aY wr
  have HB:=aI hb
  have HA:=aI hall
  clear hb hall
  by_cases hlt:k < n
  .have hkp:k < l.length:=by rw [HN.out];exact hlt
   have k0:(0:Int)<=(k:Int):=aa _
   have k1:(k:Int) < (n:Int):=by omega
   obtain ⟨b,o,us,rfl,_,hr,hc⟩:=(HS.out.keep (za HB.out)).get k hkp
   have cv:=HV.out l[k] us g wo hr (HP.out _ (ze hkp)) ((HB.out.cell (zc _ _ HG.out)).trans HG.out)
   obtain ⟨x,hx⟩:=aX (l[k])
   rw [hx] at cv hr
   have hr0:=hr
   obtain ⟨rfl,q1,q2,q3,q4,q5⟩:=rep_rul hr
   clear q1 q2 q3 q4 q5
   change Calls Tryz.prog 84 #[.agg #[.string x.1,.string x.2.1,.string x.2.2.1,.string x.2.2.2.1,.int .i64 x.2.2.2.2],.pointer (some ⟨g,0,none⟩)] wo _ at cv
   obtain ⟨c0,c1,c2,c3,c4⟩:=aG5 (m:=k*5) hc
   obtain ⟨bb,hbb⟩:=aX (Sx.rulB x)
   rw [hbb] at cv
   have CV:=aI cv
   have HX:=aI hx
   have HBB:=aI hbb
   clear cv hbb hr0 hc hx
   cases bb
   .have HR:=aI (all_bad (b:=Sx.rulB) hkp (by rw [HX.out];exact HBB.out))
    go_wp2_with (go_at_call 84;(with_reducible refine CV.out.mono ?_);rintro e w2 ⟨rfl,hb2⟩;replace HB:=aT HB hb2;clear hb2)
    go_ret
    exact ⟨_,rfl,by rw [HR.out];simp,HB.out⟩
   .go_wp2_with (go_at_call 84;(with_reducible refine CV.out.mono ?_);rintro e w2 ⟨rfl,hb2⟩;replace HB:=aT HB hb2;clear hb2)
    go_roundg (gk - 1)
    case measure=>omega
    case rel =>
     refine ⟨k+1,by omega,by go_num,HB.out,λq hq hlt=>?_⟩
     rcases aj q k with h' | h'
     .exact HA.out q hq h'
     .obtain rfl:q=k:=by omega
      rw [HX.out];exact HBB.out
  .have HR:=aI (all_good (b:=Sx.rulB) λq hq=>HA.out q hq (by rw [HN.out] at hq;omega))
   have k1:¬(k:Int) < (n:Int):=by omega
   go_wp2_with fail
   go_ret
   exact ⟨_,rfl,by rw [HR.out];rfl,HB.out⟩
theorem conR_any (l:List (Rul)) (A:Option Addr) (c g:Nat) (W:World) (hs:SlAt [] W A l) (hm:l.length<=9223372036854775807) (hp:∀x∈l,x.2.2.1.size+x.2.2.2.1.size<=9223372036854775807) (hg:W.cell? ⟨g,0,none⟩=some rtR) :
  Calls Tryz.prog 83 #[.slice A l.length c,oneR g] W (BoolP (!l.all Sx.rulB) W):=by
 have CI:=aI (idxR_any l A c g W hs hm hp hg)
 obtain ⟨n,hn⟩:=aX l.length
 rw [hn] at CI ⊢
 clear hs hm hn hp hg
 generalize oneR g=F at *
 go_enter Tryz.func83,Tryz.ntmps83
 go_wp2_with (go_at_call 126;(with_reducible refine CI.out.mono ?_);rintro e w2 ⟨r,rfl,hr,hb2⟩;have HB:=aI hb2;have HR:=aI hr;clear hb2 hr)
 go_ret
 exact ⟨by rw [<-HR.out];rfl,HB.out⟩
theorem allR_any (l:List (Rul)) (A:Option Addr) (c:Nat) (w:World) (hs:SlAt [] w A l) (hm:l.length<=9223372036854775807) (hp:∀x∈l,x.2.2.1.size+x.2.2.2.1.size<=9223372036854775807) :
  Calls Tryz.prog 30 #[.slice A l.length c,rtR] w (BoolP (l.all Sx.rulB) w):=by
 have hB1:Below w.heap.size w (w.alloc (.cells #[rtR] 73)):=aP _ _
 have CC:=aI (conR_any l A c w.heap.size (w.alloc (.cells #[rtR] 73)) (hs.keep (za hB1)) hm hp (cell_box1 w _ _))
 obtain ⟨n,hn⟩:=aX l.length
 rw [hn] at CC ⊢
 generalize l.all Sx.rulB=r at *
 unfold rtR at CC hB1 ⊢
 unfold oneR at CC
 have HB1:=aI hB1
 clear hs hm hn hp hB1
 go_enter Tryz.func30,Tryz.ntmps30
 go_wp2_with (go_at_call 83;(with_reducible refine CC.out.mono ?_);rintro e w2 ⟨rfl,hb2⟩;have HB:=aI (HB1.out.trans (hb2.mono HB1.out.size));clear hb2)
 go_ret
 exact ⟨by cases r <;> rfl,HB.out⟩
structure Sx.Sz (x:Sch):Prop where
 k:∀k∈Sc.kinds x,(Sc.flds k).length<=1000000/\∀f∈Sc.flds k,(Sc.wts f).length<=1000000
 l:∀l∈x.2.2.1,l.2.1.length<=1000000/\l.2.2.length<=1000000
 r:∀r∈x.2.2.2,r.2.2.1.size+r.2.2.2.1.size<=9223372036854775807
theorem okB_eq (x:Sch):Sx.okB x=(Sx.within x.1 0 1048576 && (decide ((Sc.kinds x).length<=6) && (decide (x.2.2.1.length<=6) && (decide (x.2.2.2.length<=16) && ((Sc.kinds x).all Sx.kndB && (x.2.2.1.all Sx.lifB && x.2.2.2.all Sx.rulB)))))):=rfl
theorem valid_any (x:Sch) (us:List Value) (w:World) (h:Mem.rep [] w x us) (hz:Sx.Sz x) (he:SEnv w):Calls Tryz.prog 7 #[.agg us.toArray] w λe w'=>e=.returned (.int .i64 (Sx.valid x))/\Below w.heap.size w w':=by
 obtain ⟨A,c,B,d,C,e,rfl,s1,s2,s3,a1,b1,b2,b3,b4,b5,b6⟩:=rep_sch h
 obtain ⟨nk,hk⟩:=aX ((Sc.kinds x).length)
 obtain ⟨nl,hl⟩:=aX x.2.2.1.length
 obtain ⟨nr,hr⟩:=aX x.2.2.2.length
 obtain ⟨q1,h1⟩:=aX (Sx.within x.1 0 1048576)
 obtain ⟨q5,h5⟩:=aX ((Sc.kinds x).all Sx.kndB)
 obtain ⟨q6,h6⟩:=aX (x.2.2.1.all Sx.lifB)
 obtain ⟨q7,h7⟩:=aX (x.2.2.2.all Sx.rulB)
 have C1:=within_any x.1 0 1048576
 rw [h1] at C1
 replace C1:=aI C1
 have C5:=λ(W:World) (hs:SlAt [] W A (Sc.kinds x))=>allK_any (Sc.kinds x) A c W hs (by omega) hz.k
 have C6:=λ(W:World) (hs:SlAt [] W B x.2.2.1)=>allL_any x.2.2.1 B d W hs (by omega) hz.l
 have C7:=λ(W:World) (hs:SlAt [] W C x.2.2.2)=>allR_any x.2.2.2 C e W hs (by omega) hz.r
 rw [h5,hk] at C5
 rw [h6,hl] at C6
 rw [h7,hr] at C7
 unfold rtK at C5
 unfold rtL at C6
 unfold rtR at C7
 replace C5:=aI C5
 replace C6:=aI C6
 replace C7:=aI C7
 have HOK:=okB_eq x
 rw [h1,hk,hl,hr,h5,h6,h7] at HOK
 obtain ⟨S,hS⟩:=aX (Sx.source x)
 have HV:Sx.valid x=if Sx.okB x=true then (if 8192 < S.length then 4 else 0) else 1:=by unfold Sx.valid;rw [hS]
 have hSl:Sx.okB x=true->S.length<=1000000:=λh=>by rw [<-hS];exact Sx.source_le (Sx.okB_bd h)
 have CSR:=aI (λ(W:World) (hr:Mem.rep [] W x [.int .i64 x.1,.slice A nk c,.slice B nl d,.slice C nr e]) (hok:Sx.okB x=true) (hb:Below w.heap.size w W)=>source_any x _ W hr hok (he.to hb))
 rw [hS] at CSR
 obtain ⟨N,hN⟩:=aX w.heap.size
 obtain ⟨W0,hW0⟩:=aX (w.alloc (.cells #[.int .i64 x.1,.slice A nk c,.slice B nl d,.slice C nr e] 27))
 have hb0:Below w.heap.size w W0:=by rw [<-hW0];exact aP _ _
 have hbk:Blk W0 N 27 #[.int .i64 x.1,.slice A nk c,.slice B nl d,.slice C nr e]:=by rw [<-hW0,<-hN];exact zj w _ _
 rw [hk,hl,hr] at h
 have T:=aI ((((((held0 W0 [] (λ_ h=>by cases h)).add (keeps_rep x _) (Mem.keep h (za hb0))).add (keeps_sl C x.2.2.2) (s3.keep (za hb0))).add (keeps_sl B x.2.2.1) (s2.keep (za hb0))).add (keeps_sl A (Sc.kinds x)) (s1.keep (za hb0))).add (P:=λM W=>N∉M/\Blk W N 27 #[.int .i64 x.1,.slice A nk c,.slice B nl d,.slice C nr e]) (keeps_blk _ _ _) ⟨by simp,hbk⟩)
 replace C5:=aI (λ(W:World) (hb:Below W0.heap.size W0 W)=>C5.out W ((T.out.below hb).fact (.tail _ (.head _))))
 replace C6:=aI (λ(W:World) (hb:Below W0.heap.size W0 W)=>C6.out W ((T.out.below hb).fact (.tail _ (.tail _ (.head _)))))
 replace C7:=aI (λ(W:World) (hb:Below W0.heap.size W0 W)=>C7.out W ((T.out.below hb).fact (.tail _ (.tail _ (.tail _ (.head _))))))
 replace CSR:=aI (λ(W:World) (hok:Sx.okB x=true) (hb:Below W0.heap.size W0 W)=>CSR.out W ((T.out.below hb).fact (.tail _ (.tail _ (.tail _ (.tail _ (.head _)))))) hok (hb0.trans (hb.mono hb0.size)))
 have HB:=aI hb0
 have HW0:=aI hW0
 show Calls Tryz.prog 7 #[.agg #[.int .i64 x.1,.slice A (Sc.kinds x).length c,.slice B x.2.2.1.length d,.slice C x.2.2.2.length e]] w _
 obtain ⟨vv,hvv⟩:=aX (Sx.valid x)
 rw [hvv] at HV ⊢
 rw [hk,hl,hr]
 have HVV:=aI HV
 clear h s1 s2 s3 a1 b1 b2 b3 b4 b5 b6 hk hl hr hbk hb0 hW0 h1 h5 h6 h7 HV hS he hz hvv
 obtain ⟨z0,z1,z2,z3⟩:=aM4 ((T.out.fact (.head _)).2)
 have HN:=aI hN
 clear hN
 go_enter Tryz.func7,Tryz.ntmps7
 go_upto_region 1 with fail
 rw [HW0.out,HN.out]
 cases q1
 ·(try simp only [Bool.false_and,Bool.true_and] at HOK)
  have HOK:=aI HOK
  go_wp2_with (first | (go_at_call 25;(with_reducible refine aS (C1.out _) ?_)) | (go_at_call 26;(with_reducible refine (C5.out _ T.out.bl).mono ?_);rintro e w2 ⟨rfl,hb2⟩;replace T:=aI (T.out.below hb2);clear hb2 z0 z1 z2 z3;obtain ⟨z0,z1,z2,z3⟩:=aM4 ((T.out.fact (.head _)).2)) | (go_at_call 28;(with_reducible refine (C6.out _ T.out.bl).mono ?_);rintro e w2 ⟨rfl,hb2⟩;replace T:=aI (T.out.below hb2);clear hb2 z0 z1 z2 z3;obtain ⟨z0,z1,z2,z3⟩:=aM4 ((T.out.fact (.head _)).2)) | (go_at_call 30;(with_reducible refine (C7.out _ T.out.bl).mono ?_);rintro e w2 ⟨rfl,hb2⟩;replace T:=aI (T.out.below hb2);clear hb2 z0 z1 z2 z3;obtain ⟨z0,z1,z2,z3⟩:=aM4 ((T.out.fact (.head _)).2)))
  go_ret
  have ev:vv=1:=by rw [HVV.out,if_neg (by rw [HOK.out];simp)]
  exact ⟨by rw [ev];rfl,HB.out.trans (T.out.bl.mono HB.out.size)⟩
 ·(try simp only [Bool.true_and] at HOK)
  by_cases c2:nk<=6
  rotate_left
  .rw [ad c2] at HOK
   (try simp only [Bool.false_and,Bool.true_and] at HOK)
   have HOK:=aI HOK
   have t1:((6:Int) < (nk:Int)):=by omega
   have t2:decide ((6:Int) < (nk:Int))=true:=ac (by omega)
   go_wp2_with (first | (go_at_call 25;(with_reducible refine aS (C1.out _) ?_)) | (go_at_call 26;(with_reducible refine (C5.out _ T.out.bl).mono ?_);rintro e w2 ⟨rfl,hb2⟩;replace T:=aI (T.out.below hb2);clear hb2 z0 z1 z2 z3;obtain ⟨z0,z1,z2,z3⟩:=aM4 ((T.out.fact (.head _)).2)) | (go_at_call 28;(with_reducible refine (C6.out _ T.out.bl).mono ?_);rintro e w2 ⟨rfl,hb2⟩;replace T:=aI (T.out.below hb2);clear hb2 z0 z1 z2 z3;obtain ⟨z0,z1,z2,z3⟩:=aM4 ((T.out.fact (.head _)).2)) | (go_at_call 30;(with_reducible refine (C7.out _ T.out.bl).mono ?_);rintro e w2 ⟨rfl,hb2⟩;replace T:=aI (T.out.below hb2);clear hb2 z0 z1 z2 z3;obtain ⟨z0,z1,z2,z3⟩:=aM4 ((T.out.fact (.head _)).2)))
   go_ret
   have ev:vv=1:=by rw [HVV.out,if_neg (by rw [HOK.out];simp)]
   exact ⟨by rw [ev];rfl,HB.out.trans (T.out.bl.mono HB.out.size)⟩
  .rw [ac c2] at HOK
   (try simp only [Bool.true_and] at HOK)
   have t1c2:((nk:Int)<=(6:Int)):=by omega
   have t2c2:decide ((6:Int) < (nk:Int))=false:=ad (by omega)
   by_cases c3:nl<=6
   rotate_left
   .rw [ad c3] at HOK
    (try simp only [Bool.false_and,Bool.true_and] at HOK)
    have HOK:=aI HOK
    have t1:((6:Int) < (nl:Int)):=by omega
    have t2:decide ((6:Int) < (nl:Int))=true:=ac (by omega)
    go_wp2_with (first | (go_at_call 25;(with_reducible refine aS (C1.out _) ?_)) | (go_at_call 26;(with_reducible refine (C5.out _ T.out.bl).mono ?_);rintro e w2 ⟨rfl,hb2⟩;replace T:=aI (T.out.below hb2);clear hb2 z0 z1 z2 z3;obtain ⟨z0,z1,z2,z3⟩:=aM4 ((T.out.fact (.head _)).2)) | (go_at_call 28;(with_reducible refine (C6.out _ T.out.bl).mono ?_);rintro e w2 ⟨rfl,hb2⟩;replace T:=aI (T.out.below hb2);clear hb2 z0 z1 z2 z3;obtain ⟨z0,z1,z2,z3⟩:=aM4 ((T.out.fact (.head _)).2)) | (go_at_call 30;(with_reducible refine (C7.out _ T.out.bl).mono ?_);rintro e w2 ⟨rfl,hb2⟩;replace T:=aI (T.out.below hb2);clear hb2 z0 z1 z2 z3;obtain ⟨z0,z1,z2,z3⟩:=aM4 ((T.out.fact (.head _)).2)))
    go_ret
    have ev:vv=1:=by rw [HVV.out,if_neg (by rw [HOK.out];simp)]
    exact ⟨by rw [ev];rfl,HB.out.trans (T.out.bl.mono HB.out.size)⟩
   .rw [ac c3] at HOK
    (try simp only [Bool.true_and] at HOK)
    have t1c3:((nl:Int)<=(6:Int)):=by omega
    have t2c3:decide ((6:Int) < (nl:Int))=false:=ad (by omega)
    by_cases c4:nr<=16
    rotate_left
    .rw [ad c4] at HOK
     (try simp only [Bool.false_and,Bool.true_and] at HOK)
     have HOK:=aI HOK
     have t1:((16:Int) < (nr:Int)):=by omega
     have t2:decide ((16:Int) < (nr:Int))=true:=ac (by omega)
     go_wp2_with (first | (go_at_call 25;(with_reducible refine aS (C1.out _) ?_)) | (go_at_call 26;(with_reducible refine (C5.out _ T.out.bl).mono ?_);rintro e w2 ⟨rfl,hb2⟩;replace T:=aI (T.out.below hb2);clear hb2 z0 z1 z2 z3;obtain ⟨z0,z1,z2,z3⟩:=aM4 ((T.out.fact (.head _)).2)) | (go_at_call 28;(with_reducible refine (C6.out _ T.out.bl).mono ?_);rintro e w2 ⟨rfl,hb2⟩;replace T:=aI (T.out.below hb2);clear hb2 z0 z1 z2 z3;obtain ⟨z0,z1,z2,z3⟩:=aM4 ((T.out.fact (.head _)).2)) | (go_at_call 30;(with_reducible refine (C7.out _ T.out.bl).mono ?_);rintro e w2 ⟨rfl,hb2⟩;replace T:=aI (T.out.below hb2);clear hb2 z0 z1 z2 z3;obtain ⟨z0,z1,z2,z3⟩:=aM4 ((T.out.fact (.head _)).2)))
     go_ret
     have ev:vv=1:=by rw [HVV.out,if_neg (by rw [HOK.out];simp)]
     exact ⟨by rw [ev];rfl,HB.out.trans (T.out.bl.mono HB.out.size)⟩
    .rw [ac c4] at HOK
     (try simp only [Bool.true_and] at HOK)
     have t1c4:((nr:Int)<=(16:Int)):=by omega
     have t2c4:decide ((16:Int) < (nr:Int))=false:=ad (by omega)
     cases q5
     ·(try simp only [Bool.false_and,Bool.true_and] at HOK)
      have HOK:=aI HOK
      go_wp2_with (first | (go_at_call 25;(with_reducible refine aS (C1.out _) ?_)) | (go_at_call 26;(with_reducible refine (C5.out _ T.out.bl).mono ?_);rintro e w2 ⟨rfl,hb2⟩;replace T:=aI (T.out.below hb2);clear hb2 z0 z1 z2 z3;obtain ⟨z0,z1,z2,z3⟩:=aM4 ((T.out.fact (.head _)).2)) | (go_at_call 28;(with_reducible refine (C6.out _ T.out.bl).mono ?_);rintro e w2 ⟨rfl,hb2⟩;replace T:=aI (T.out.below hb2);clear hb2 z0 z1 z2 z3;obtain ⟨z0,z1,z2,z3⟩:=aM4 ((T.out.fact (.head _)).2)) | (go_at_call 30;(with_reducible refine (C7.out _ T.out.bl).mono ?_);rintro e w2 ⟨rfl,hb2⟩;replace T:=aI (T.out.below hb2);clear hb2 z0 z1 z2 z3;obtain ⟨z0,z1,z2,z3⟩:=aM4 ((T.out.fact (.head _)).2)))
      go_ret
      have ev:vv=1:=by rw [HVV.out,if_neg (by rw [HOK.out];simp)]
      exact ⟨by rw [ev];rfl,HB.out.trans (T.out.bl.mono HB.out.size)⟩
     ·(try simp only [Bool.true_and] at HOK)
      cases q6
      ·(try simp only [Bool.false_and,Bool.true_and] at HOK)
       have HOK:=aI HOK
       go_wp2_with (first | (go_at_call 25;(with_reducible refine aS (C1.out _) ?_)) | (go_at_call 26;(with_reducible refine (C5.out _ T.out.bl).mono ?_);rintro e w2 ⟨rfl,hb2⟩;replace T:=aI (T.out.below hb2);clear hb2 z0 z1 z2 z3;obtain ⟨z0,z1,z2,z3⟩:=aM4 ((T.out.fact (.head _)).2)) | (go_at_call 28;(with_reducible refine (C6.out _ T.out.bl).mono ?_);rintro e w2 ⟨rfl,hb2⟩;replace T:=aI (T.out.below hb2);clear hb2 z0 z1 z2 z3;obtain ⟨z0,z1,z2,z3⟩:=aM4 ((T.out.fact (.head _)).2)) | (go_at_call 30;(with_reducible refine (C7.out _ T.out.bl).mono ?_);rintro e w2 ⟨rfl,hb2⟩;replace T:=aI (T.out.below hb2);clear hb2 z0 z1 z2 z3;obtain ⟨z0,z1,z2,z3⟩:=aM4 ((T.out.fact (.head _)).2)))
       go_ret
       have ev:vv=1:=by rw [HVV.out,if_neg (by rw [HOK.out];simp)]
       exact ⟨by rw [ev];rfl,HB.out.trans (T.out.bl.mono HB.out.size)⟩
      ·(try simp only [Bool.true_and] at HOK)
       cases q7
       ·(try simp only [Bool.false_and,Bool.true_and] at HOK)
        have HOK:=aI HOK
        go_wp2_with (first | (go_at_call 25;(with_reducible refine aS (C1.out _) ?_)) | (go_at_call 26;(with_reducible refine (C5.out _ T.out.bl).mono ?_);rintro e w2 ⟨rfl,hb2⟩;replace T:=aI (T.out.below hb2);clear hb2 z0 z1 z2 z3;obtain ⟨z0,z1,z2,z3⟩:=aM4 ((T.out.fact (.head _)).2)) | (go_at_call 28;(with_reducible refine (C6.out _ T.out.bl).mono ?_);rintro e w2 ⟨rfl,hb2⟩;replace T:=aI (T.out.below hb2);clear hb2 z0 z1 z2 z3;obtain ⟨z0,z1,z2,z3⟩:=aM4 ((T.out.fact (.head _)).2)) | (go_at_call 30;(with_reducible refine (C7.out _ T.out.bl).mono ?_);rintro e w2 ⟨rfl,hb2⟩;replace T:=aI (T.out.below hb2);clear hb2 z0 z1 z2 z3;obtain ⟨z0,z1,z2,z3⟩:=aM4 ((T.out.fact (.head _)).2)))
        go_ret
        have ev:vv=1:=by rw [HVV.out,if_neg (by rw [HOK.out];simp)]
        exact ⟨by rw [ev];rfl,HB.out.trans (T.out.bl.mono HB.out.size)⟩
       ·(try simp only [Bool.true_and] at HOK)
        have hok:Sx.okB x=true:=HOK
        have HOK:=aI hok
        have hSl2:=hSl hok
        clear hok hSl
        obtain ⟨d9,hd9⟩:∃d:ByteArray,(⟨S.toArray⟩:ByteArray)=d:=⟨_,rfl⟩
        rw [hd9] at CSR
        have hds:d9.size=S.length:=by rw [<-hd9];show S.toArray.size=_;rw [zS]
        clear hd9
        by_cases hl:8192 < S.length
        .have t3:(8192:Int) < (d9.size:Int):=by omega
         have t4:decide (8192 < d9.size)=true:=ac (by omega)
         go_wp2_with (first | (go_at_call 25;(with_reducible refine aS (C1.out _) ?_)) | (go_at_call 26;(with_reducible refine (C5.out _ T.out.bl).mono ?_);rintro e w2 ⟨rfl,hb2⟩;replace T:=aI (T.out.below hb2);clear hb2 z0 z1 z2 z3;obtain ⟨z0,z1,z2,z3⟩:=aM4 ((T.out.fact (.head _)).2)) | (go_at_call 28;(with_reducible refine (C6.out _ T.out.bl).mono ?_);rintro e w2 ⟨rfl,hb2⟩;replace T:=aI (T.out.below hb2);clear hb2 z0 z1 z2 z3;obtain ⟨z0,z1,z2,z3⟩:=aM4 ((T.out.fact (.head _)).2)) | (go_at_call 30;(with_reducible refine (C7.out _ T.out.bl).mono ?_);rintro e w2 ⟨rfl,hb2⟩;replace T:=aI (T.out.below hb2);clear hb2 z0 z1 z2 z3;obtain ⟨z0,z1,z2,z3⟩:=aM4 ((T.out.fact (.head _)).2)) | (go_at_call 32;(with_reducible refine (CSR.out _ HOK.out T.out.bl).mono ?_);rintro e w2 ⟨rfl,hb2⟩;replace T:=aI (T.out.below hb2);clear hb2 z0 z1 z2 z3;obtain ⟨z0,z1,z2,z3⟩:=aM4 ((T.out.fact (.head _)).2)))
         go_ret
         have ev:vv=4:=by rw [HVV.out,if_pos HOK.out,if_pos hl]
         exact ⟨by rw [ev];rfl,HB.out.trans (T.out.bl.mono HB.out.size)⟩
        .have t3:(d9.size:Int)<=(8192:Int):=by omega
         have t4:decide (8192 < d9.size)=false:=ad (by omega)
         go_wp2_with (first | (go_at_call 25;(with_reducible refine aS (C1.out _) ?_)) | (go_at_call 26;(with_reducible refine (C5.out _ T.out.bl).mono ?_);rintro e w2 ⟨rfl,hb2⟩;replace T:=aI (T.out.below hb2);clear hb2 z0 z1 z2 z3;obtain ⟨z0,z1,z2,z3⟩:=aM4 ((T.out.fact (.head _)).2)) | (go_at_call 28;(with_reducible refine (C6.out _ T.out.bl).mono ?_);rintro e w2 ⟨rfl,hb2⟩;replace T:=aI (T.out.below hb2);clear hb2 z0 z1 z2 z3;obtain ⟨z0,z1,z2,z3⟩:=aM4 ((T.out.fact (.head _)).2)) | (go_at_call 30;(with_reducible refine (C7.out _ T.out.bl).mono ?_);rintro e w2 ⟨rfl,hb2⟩;replace T:=aI (T.out.below hb2);clear hb2 z0 z1 z2 z3;obtain ⟨z0,z1,z2,z3⟩:=aM4 ((T.out.fact (.head _)).2)) | (go_at_call 32;(with_reducible refine (CSR.out _ HOK.out T.out.bl).mono ?_);rintro e w2 ⟨rfl,hb2⟩;replace T:=aI (T.out.below hb2);clear hb2 z0 z1 z2 z3;obtain ⟨z0,z1,z2,z3⟩:=aM4 ((T.out.fact (.head _)).2)))
         go_ret
         have ev:vv=0:=by rw [HVV.out,if_pos HOK.out,if_neg hl]
         exact ⟨by rw [ev];rfl,HB.out.trans (T.out.bl.mono HB.out.size)⟩
theorem valid_ok {x:Sch} (h:Sx.valid x=0):Sx.okB x=true:=by
 unfold Sx.valid at h
 split at h
 .assumption
 .cases h
theorem print_any (x:Sch) (us:List Value) (w:World) (h:Mem.rep [] w x us) (hz:Sx.Sz x) (he:SEnv w):Calls Tryz.prog 9 #[.agg us.toArray] w λe w'=>e=.returned (.string ⟨(Sx.print x).toArray⟩)/\Below w.heap.size w w':=by
 obtain ⟨A,c,B,d,C,e,rfl,s1,s2,s3,a1,b1,b2,b3,b4,b5,b6⟩:=rep_sch h
 obtain ⟨nk,hk⟩:=aX ((Sc.kinds x).length)
 obtain ⟨nl,hl⟩:=aX x.2.2.1.length
 obtain ⟨nr,hr⟩:=aX x.2.2.2.length
 rw [hk,hl,hr] at h
 obtain ⟨N,hN⟩:=aX w.heap.size
 obtain ⟨W0,hW0⟩:=aX (w.alloc (.cells #[.int .i64 x.1,.slice A nk c,.slice B nl d,.slice C nr e] 27))
 have hb0:Below w.heap.size w W0:=by rw [<-hW0];exact aP _ _
 have hbk:Blk W0 N 27 #[.int .i64 x.1,.slice A nk c,.slice B nl d,.slice C nr e]:=by rw [<-hW0,<-hN];exact zj w _ _
 have T:=aI (((held0 W0 [] (λ_ h=>by cases h)).add (keeps_rep x _) (Mem.keep h (za hb0))).add (P:=λM W=>N∉M/\Blk W N 27 #[.int .i64 x.1,.slice A nk c,.slice B nl d,.slice C nr e]) (keeps_blk _ _ _) ⟨by simp,hbk⟩)
 have CV:=aI (λ(W:World) (hb:Below W0.heap.size W0 W)=>show Calls Tryz.prog 7 #[.agg #[.int .i64 x.1,.slice A nk c,.slice B nl d,.slice C nr e]] W λe w'=>e=.returned (.int .i64 (Sx.valid x))/\Below W.heap.size W w' from valid_any x _ W ((T.out.below hb).fact (.tail _ (.head _))) hz (he.to (hb0.trans (hb.mono hb0.size))))
 have CS:=aI (λ(W:World) (hok:Sx.okB x=true) (hb:Below W0.heap.size W0 W)=>show Calls Tryz.prog 32 #[.agg #[.int .i64 x.1,.slice A nk c,.slice B nl d,.slice C nr e]] W λe w'=>e=.returned (.string ⟨(Sx.source x).toArray⟩)/\Below W.heap.size W w' from source_any x _ W ((T.out.below hb).fact (.tail _ (.head _))) hok (he.to (hb0.trans (hb.mono hb0.size))))
 have HB:=aI hb0
 have HW0:=aI hW0
 have HN:=aI hN
 have hp:Sx.print x=if Sx.valid x=0 then Sx.source x else []:=rfl
 have HOK:=aI (valid_ok (x:=x))
 obtain ⟨vv,hvv⟩:=aX (Sx.valid x)
 rw [hvv] at CV hp HOK
 show Calls Tryz.prog 9 #[.agg #[.int .i64 x.1,.slice A (Sc.kinds x).length c,.slice B x.2.2.1.length d,.slice C x.2.2.2.length e]] w _
 rw [hk,hl,hr]
 by_cases h0:vv=0
 .rw [if_pos h0] at hp
  replace HOK:=aI (HOK.out h0)
  subst h0
  rw [hp]
  clear h s1 s2 s3 a1 b1 b2 b3 b4 b5 b6 hk hl hr hbk hb0 hW0 hN he hz hvv hp
  obtain ⟨z0,z1,z2,z3⟩:=aM4 ((T.out.fact (.head _)).2)
  go_enter Tryz.func9,Tryz.ntmps9
  go_upto_region 1 with fail
  rw [HW0.out,HN.out]
  go_wp2_with (first | (go_at_call 7;(with_reducible refine (CV.out _ T.out.bl).mono ?_);rintro e w2 ⟨rfl,hb2⟩;replace T:=aI (T.out.below hb2);clear hb2 z0 z1 z2 z3;obtain ⟨z0,z1,z2,z3⟩:=aM4 ((T.out.fact (.head _)).2)) | (go_at_call 32;(with_reducible refine (CS.out _ HOK.out T.out.bl).mono ?_);rintro e w2 ⟨rfl,hb2⟩;replace T:=aI (T.out.below hb2);clear hb2 z0 z1 z2 z3))
  go_ret
  exact ⟨rfl,HB.out.trans (T.out.bl.mono HB.out.size)⟩
 .rw [if_neg h0] at hp
  rw [hp]
  have q1:(vv == 0)=false:=by simpa using h0
  have q2:(vv != 0)=true:=by simpa using h0
  clear h s1 s2 s3 a1 b1 b2 b3 b4 b5 b6 hk hl hr hbk hb0 hW0 hN he hz hvv hp h0
  obtain ⟨z0,z1,z2,z3⟩:=aM4 ((T.out.fact (.head _)).2)
  go_enter Tryz.func9,Tryz.ntmps9
  go_upto_region 1 with fail
  rw [HW0.out,HN.out]
  go_wp2_with (go_at_call 7;(with_reducible refine (CV.out _ T.out.bl).mono ?_);rintro e w2 ⟨rfl,hb2⟩;replace T:=aI (T.out.below hb2);clear hb2 z0 z1 z2 z3;obtain ⟨z0,z1,z2,z3⟩:=aM4 ((T.out.fact (.head _)).2))
  go_ret
  exact ⟨rfl,HB.out.trans (T.out.bl.mono HB.out.size)⟩
theorem sDecN_any (u:Nat) (w:World) (h:u < 10000000000):Calls Tryz.prog 135 #[.int .i64 (u:Int)] w λe w'=>e=.returned (.string ⟨(Lib.decDigits u).toArray⟩)/\Below w.heap.size w w':=by
 induction u using Nat.strongRecOn generalizing w with
 | _ u ih =>
  by_cases h10:u < 10
  .have b1:decide ((u:Int) < 10)=true:=by simp;omega
   have b0:decide ((u:Int) < 0)=false:=ad (by omega)
   obtain ⟨b,hb⟩:=aX (UInt8.ofNat (48+u))
   have hd:=aI (show Lib.decDigits u=[b] by rw [Lib.decDigits,dif_pos h10,hb])
   have hown:=own_lit (w:=w) (base:=w.heap.size) (e:=5) (.int .u8 (48+(u:Int))) (ag _)
   have hcv:=run_str_own (P:=Tryz.prog) (w.alloc (.cells #[.int .u8 (48+(u:Int))] 5)) 35 9 5 Tryz.underlying35 Tryz.underlying5 Tryz.underlying9 (l:=[b]) (by
    have e:byteVals [b]=[.int .u8 (48+(u:Int))]:=by
     have:=digit_byte u
     rw [Nat.mod_eq_of_lt h10,hb] at this
     simp only [byteVals,List.map_cons,List.map_nil]
     rw [this];congr 2;omega
    rw [e];exact hown)
   clear ih hown hb
   go_enter Tryz.func135,Tryz.ntmps135
   go_wp2
   go_ret
   exact ⟨by rw [hd.out];rfl,(zf _ _).alloc (ag _) _⟩
  .have b1:decide ((u:Int) < 10)=false:=by simp;omega
   have b0:decide ((u:Int) < 0)=false:=ad (by omega)
   obtain ⟨q,hq⟩:=aX (u / 10)
   obtain ⟨b,hb⟩:=aX (UInt8.ofNat (48+u % 10))
   have hd:=aI (show Lib.decDigits u=Lib.decDigits q++[b] by rw [Lib.decDigits,dif_neg h10,hb,hq])
   obtain ⟨C,hC⟩:=aX (48+(u:Int) % 10)
   have hCb:(b.toNat:Int)=C:=by have:=digit_byte u;rw [hb] at this;omega
   have wC:IntKind.u8.wrap C=C:=by
    have:0<=C/\C<=255:=by omega
    simp only [IntKind.wrap,IntKind.signed,IntKind.bits];simp;omega
   have wC2:IntKind.i64.wrap C=C:=wrapI (by unfold inI;omega)
   have hq1:(u:Int).tdiv 10=(q:Int):=by rw [Int.tdiv_eq_ediv_of_nonneg (by omega)];omega
   have hq2:(u:Int) / 10=(q:Int):=by omega
   have hq3:(u:Int).tmod 10=(u:Int) % 10:=Int.tmod_eq_emod_of_nonneg (by omega)
   have wq:IntKind.i64.wrap (q:Int)=q:=wrapI (by unfold inI;omega)
   have cr:=λw=>ih q (by omega) w (by omega)
   obtain ⟨t,ht⟩:∃t:ByteArray,(⟨(Lib.decDigits q).toArray⟩:ByteArray)=t:=⟨_,rfl⟩
   rw [ht] at cr
   have CR:=aI cr
   have HT:=aI ht
   have hts:t.size<=10:=by rw [<-ht];exact Dc.decDigits_len q (by omega)
   have hts2:t.size+1 < 9223372036854775808:=by omega
   clear cr ih hb hq h ht
   go_enter Tryz.func135,Tryz.ntmps135
   go_wp2
   apply zy (C:=λw'=>Below w.heap.size w w') (n:=26) (m:=11) (l1:=[_,_,_,_,_,_,_,_,_,_,_]) (l2:=[]);rfl;rfl;kernel_rfl;rfl;kernel_rfl;exact ⟨rfl,rfl,rfl,ag _,λ_ _=>rfl⟩;exact aR
   iterate 2 ((apply aJ;·(intro w' hC hf;clear hf hC;go_wp2_with (fail);apply aO;simp only [zC];exact rfl));(try simp only [zn]))
   (apply aJ;·(intro w' hC hf;clear hf hC;go_wp2_with (first | (go_at_call 135;(with_reducible refine (CR.out _).mono ?_);rintro e w2 ⟨rfl,hb2⟩));apply postT_val rfl (by first | exact zf _ _ | assumption);simp only [zC];exact rfl));(try simp only [zn])
   iterate 4 ((apply aJ;·(intro w' hC hf;clear hf hC;go_wp2_with (fail);apply aO;simp only [zC];exact rfl));(try simp only [zn]))
   apply zF (slB_kept b)
   .intro w' hC hf;unfold Gives;clear hf hC;go_wp2;apply zJ rfl (by go_grown);simp only [zC]
    have:=own_lit (w:=w') (base:=0) (e:=5) (.int .u8 C) (zN _)
    unfold SlB
    simp only [byteVals,List.map_cons,List.map_nil,hCb]
    exact this
   intro v7;(try simp only [zn])
   apply wpT_exact
   .intro w' hC hf;unfold Gives
    have hcv:=run_str_own (P:=Tryz.prog) w' 35 9 5 Tryz.underlying35 Tryz.underlying5 Tryz.underlying9 (hf.1 rfl)
    clear hf hC;go_wp2_with fail;apply aO;simp only [zC];exact rfl
   (try simp only [zn])
   iterate 2 ((apply aJ;·(intro w' hC hf;clear hf hC;go_wp2_with (fail);apply aO;simp only [zC];exact rfl));(try simp only [zn]))
   apply wpT_done
   intro w3 hC _
   go_wp2
   go_ret
   refine ⟨?_,hC⟩
   show Ending.returned (.string (t++(⟨#[b]⟩:ByteArray)))=_
   have e:t++(⟨#[b]⟩:ByteArray)=⟨(Lib.decDigits q++[b]).toArray⟩:=by
    apply ByteArray.ext
    rw [ByteArray.data_append,<-HT.out]
    simp
   rw [hd.out,e]
theorem sDecimal_any (n:Int) (w:World) (h:n.natAbs < 10000000000):Calls Tryz.prog 135 #[.int .i64 n] w λe w'=>e=.returned (.string ⟨(Lib.itoa n).toArray⟩)/\Below w.heap.size w w':=by
 by_cases h0:n < 0
 .obtain ⟨u,hu⟩:∃u:Nat,n=-(u:Int):=⟨n.natAbs,by omega⟩
  subst hu
  have hu0:0 < u:=by omega
  have d0:decide (-(u:Int) < 0)=true:=ac (by omega)
  have CR:=aI (λw=>sDecN_any u w (by omega))
  have HV:=aI (itoa_neg u hu0)
  have hlen:=Dc.decDigits_len u (by omega)
  obtain ⟨t,ht⟩:∃t:ByteArray,(⟨(Lib.decDigits u).toArray⟩:ByteArray)=t:=⟨_,rfl⟩
  rw [ht] at CR
  have HT:=aI ht
  have hts:t.size<=10:=by rw [<-ht];exact hlen
  have hneg:IntKind.i64.wrap (- -(u:Int))=(u:Int):=by rw [Int.neg_neg];exact wrapI (by unfold inI;omega)
  clear ht hlen
  go_enter Tryz.func135,Tryz.ntmps135
  go_wp2_with (go_at_call 135;(with_reducible refine (CR.out _).mono ?_);rintro e w2 ⟨rfl,hb2⟩;have HB:=aI hb2;clear hb2)
  go_ret
  refine ⟨?_,HB.out⟩
  rw [HV.out,<-HT.out]
  rfl
 .obtain ⟨u,rfl⟩:=Int.eq_ofNat_of_zero_le (show 0<=n by omega)
  rw [itoa_nat]
  exact sDecN_any u w (by omega)
def andS (s:ByteArray) (n:Int):ByteArray:=s++⟨#[32]⟩++Sx.ofT (Sx.num n)
theorem andS_list (s:ByteArray) (n:Int):(andS s n).data.toList=s.data.toList++32::Sx.num n:=by unfold andS Sx.ofT;simp
theorem andS_size (s:ByteArray) (n:Int) (h:-1000000000<=n/\n<=1000000000):(andS s n).size<=s.size+13:=by
 have h1:=strLen (andS s n)
 rw [andS_list,aK,zm,strLen] at h1
 have:=Sx.num_len h
 omega
theorem and_any (s:ByteArray) (n:Int) (w:World) (hs:s.size<=100000000) (hn:-1000000000<=n/\n<=1000000000):Calls Tryz.prog 94 #[.string s,.int .i64 n] w λe w'=>e=.returned (.string (andS s n))/\Below w.heap.size w w':=by
 have CD:=aI (λw=>sDecimal_any n w (by omega))
 have hl:=Sx.num_len hn
 unfold andS
 obtain ⟨d,hd⟩:∃d:ByteArray,Sx.ofT (Sx.num n)=d:=⟨_,rfl⟩
 have hds:d.size<=12:=by rw [<-hd];unfold Sx.ofT;simpa [ByteArray.size] using hl
 rw [show (⟨(Lib.itoa n).toArray⟩:ByteArray)=d from hd] at CD
 rw [hd]
 clear hd hl hn
 go_enter Tryz.func94,Tryz.ntmps94
 go_wp2_with (go_at_call 135;(with_reducible refine (CD.out _).mono ?_);rintro e w1 ⟨rfl,hb1⟩;have HB:=aI hb1;clear hb1)
 go_ret
 exact ⟨rfl,HB.out⟩
theorem rnamed_any (s:ByteArray) (w:World):Calls Tryz.prog 96 #[.string s] w λe w'=>e=.returned (.string (Sx.orN s))/\w=w':=by
 unfold Sx.orN
 obtain ⟨e1,e2,e3⟩:=em_spell s
 obtain ⟨r,hr⟩:=aX (Sx.em s)
 rw [hr] at e1 e2 e3 ⊢
 clear hr
 cases r
 .rw [if_neg (by simp)]
  go_enter Tryz.func96,Tryz.ntmps96
  go_wp2_with fail
  go_ret
  exact ⟨rfl,rfl⟩
 .rw [if_pos rfl]
  go_enter Tryz.func96,Tryz.ntmps96
  go_wp2_with fail
  go_ret
  exact ⟨rfl,rfl⟩
def usesK (k:Int):Bool × Bool × Bool × Bool × Bool :=
 if k=0 then (false,false,true,false,false) else if k=1 then (true,false,true,true,false) else if k=2 then (false,false,true,true,false) else if k=3 then (false,false,false,false,true)
 else if k=4 then (true,false,true,true,false) else if k=5 then (true,false,true,true,false) else if k=6 then (true,false,false,false,false) else if k=7 then (true,true,true,true,false)
 else if k=8 then (true,true,false,false,false) else (false,false,false,false,false)
theorem uses_any (k:Int) (w:World):Calls Tryz.prog 133 #[.int .i64 k] w λe w'=>e=.returned (.tuple #[.bool (usesK k).1,.bool (usesK k).2.1,.bool (usesK k).2.2.1,.bool (usesK k).2.2.2.1,.bool (usesK k).2.2.2.2])/\w=w':=by
 by_cases h:k=0∨k=1∨k=2∨k=3∨k=4∨k=5∨k=6∨k=7∨k=8
 .rcases h with rfl | rfl | rfl | rfl | rfl | rfl | rfl | rfl | rfl <;> (go_enter Tryz.func133,Tryz.ntmps133;go_wp2_with fail;go_returns;exact ⟨rfl,rfl⟩)
 .have hu:usesK k=(false,false,false,false,false):=by
   unfold usesK
   rw [if_neg (by omega),if_neg (by omega),if_neg (by omega),if_neg (by omega),if_neg (by omega),if_neg (by omega),if_neg (by omega),if_neg (by omega),if_neg (by omega)]
  rw [hu]
  have h0:(k == 0)=false:=beq_eq_false_iff_ne.2 (by omega)
  have h1:(k == 1)=false:=beq_eq_false_iff_ne.2 (by omega)
  have h2:(k == 2)=false:=beq_eq_false_iff_ne.2 (by omega)
  have h3:(k == 3)=false:=beq_eq_false_iff_ne.2 (by omega)
  have h4:(k == 4)=false:=beq_eq_false_iff_ne.2 (by omega)
  have h5:(k == 5)=false:=beq_eq_false_iff_ne.2 (by omega)
  have h6:(k == 6)=false:=beq_eq_false_iff_ne.2 (by omega)
  have h7:(k == 7)=false:=beq_eq_false_iff_ne.2 (by omega)
  have h8:(k == 8)=false:=beq_eq_false_iff_ne.2 (by omega)
  clear h hu
  go_enter Tryz.func133,Tryz.ntmps133
  go_wp2_with fail
  go_returns
  exact ⟨rfl,rfl⟩
def wdR (k:Nat):ByteArray:=Sx.ofT (Sx.wordsL.getD k [])
def WRD:Array Value:=#[.string (wdR 0),.string (wdR 1),.string (wdR 2),.string (wdR 3),.string (wdR 4),.string (wdR 5),.string (wdR 6),.string (wdR 7),.string (wdR 8)]
theorem wrd_get (k:Nat) (h:k < 9):WRD[k]?=some (.string (wdR k)):=by
 rcases (show k=0∨k=1∨k=2∨k=3∨k=4∨k=5∨k=6∨k=7∨k=8 by omega) with rfl | rfl | rfl | rfl | rfl | rfl | rfl | rfl | rfl <;> rfl
theorem rwords_any (w:World):Calls Tryz.prog 136 #[] w λe w'=>∃g,e=.returned (.slice (some ⟨g,0,none⟩) 9 9)/\w.heap.size<=g/\Blk w' g 9 WRD/\Below w.heap.size w w':=by
 go_enter Tryz.func136,Tryz.ntmps136
 go_wp2_with fail
 go_ret
 exact ⟨_,rfl,ag _,zj _ _ _,(zf _ _).alloc (ag _) _⟩
namespace Sx
def lnJ:List Txt->Txt
 | []=>[]
 | t::l=>t++l.flatMap λu=>32::u
theorem lnJ_end {l:List Txt} (h:l≠[]):lineT l=lnJ l++[10]:=by
 cases l with
 | nil=>exact zU rfl h
 | cons t l=>exact lineT_cons t l
theorem nm_orN {s:ByteArray} (h:nm s=true):orN s=s:=by
 unfold orN
 rw [if_neg (λe=>by have h1:=nm_sz h;have h2:=em_sz e;omega)]
end Sx
theorem wdR_list (k:Nat):(wdR k).data.toList=Sx.wordsL.getD k []:=by simp [wdR,Sx.ofT]
theorem wdR_size (k:Nat):(wdR k).size<=12:=by rw [<-strLen,wdR_list];exact Sx.words_len k
def RLineP (l:List Sx.Txt) (w:World) (e:Ending) (w':World):Prop:=∃t:ByteArray,e=.returned (.string t)/\t.data.toList=10::Sx.lnJ l/\Below w.heap.size w w'
theorem rline_any (f:Fld) (us:List Value) (w:World) (h:Mem.rep [] w f us) (hok:Sx.fldB f=true):Calls Tryz.prog 95 #[.agg us.toArray] w (RLineP (Sx.fldT f) w):=by
 have hf:=Sx.fldB_bd hok
 obtain ⟨nm,of_,up,kd,lo,hi,ws,ns⟩:=f
 obtain ⟨k,hk,hkd⟩:=hf.kd
 obtain rfl:kd=(k:Int):=hkd
 obtain ⟨A,c,B,d,rfl,s1,s2,a4,a5,a6,a1,a2,a3,b1,b2,e1,e2⟩:=rep_f8 h
 obtain ⟨h1,h2,h3,h4,h5,h6,h7,h8,h9,_⟩:=hf
 replace h1:nm.size<=12:=h1
 replace h2:of_.size<=12:=h2
 replace h3:up.size<=12:=h3
 replace h4:-1048576<=lo/\lo<=1048576:=h4
 replace h5:-1048576<=hi/\hi<=1048576:=h5
 replace h6:ws.length<=12:=h6
 replace h7:ns.length=ws.length:=h7
 replace h8:∀s∈ws,s.size<=12:=h8
 replace h9:∀n∈ns,0<=n/\n<=1048576:=h9
 show Calls Tryz.prog 95 #[.agg #[.string nm,.string of_,.string up,.int .i64 (k:Int),.int .i64 lo,.int .i64 hi,.slice A ws.length c,.slice B ns.length d]] w _
 have HOK:=aI hok
 obtain ⟨nw,hnw⟩:=aX ws.length
 have HNW:=aI hnw
 have HNN:=aI (h7.trans hnw)
 have HWF:=aI h8
 have HNF:=aI h9
 rw [h7,hnw]
 rw [hnw] at h6
 obtain ⟨W1,hW1⟩:=aX (w.alloc (.cells #[.string nm,.string of_,.string up,.int .i64 (k:Int),.int .i64 lo,.int .i64 hi,.slice A nw c,.slice B nw d] 65))
 have hb0:Below w.heap.size w W1:=by rw [<-hW1];exact aP _ _
 have HB:=aI hb0
 have hbk:Blk W1 w.heap.size 65 #[.string nm,.string of_,.string up,.int .i64 (k:Int),.int .i64 lo,.int .i64 hi,.slice A nw c,.slice B nw d]:=by rw [<-hW1];exact zj w _ _
 have HBK:=aI hbk
 have HS1:=aI (s1.keep (za hb0))
 have HS2:=aI (s2.keep (za hb0))
 have HW1:=aI hW1
 have HK:=aI (show (k=0/\usesK (k:Int)=(false,false,true,false,false))∨((k=1∨k=4∨k=5)/\usesK (k:Int)=(true,false,true,true,false))∨(k=2/\usesK (k:Int)=(false,false,true,true,false))∨(k=6/\usesK (k:Int)=(true,false,false,false,false))∨(k=7/\usesK (k:Int)=(true,true,true,true,false))∨(k=8/\usesK (k:Int)=(true,true,false,false,false))∨(k=3/\usesK (k:Int)=(false,false,false,false,true)) by
  rcases (show k=0∨k=1∨k=2∨k=3∨k=4∨k=5∨k=6∨k=7∨k=8 by omega) with rfl | rfl | rfl | rfl | rfl | rfl | rfl | rfl | rfl <;> simp [usesK])
 have CU:=uses_any (k:Int)
 generalize hU:usesK (k:Int)=U at CU HK
 obtain ⟨bo,bu,bl,bh,bw⟩:=U
 clear hU
 replace CU:=aI CU
 have CW:=aI rwords_any
 obtain ⟨wd,hwd⟩:=aX (wdR k)
 have hwl:wd.size<=12:=by rw [<-hwd];exact wdR_size k
 have HWL:=aI (show wd.data.toList=Sx.wordsL.getD k [] by rw [<-hwd];exact wdR_list k)
 have HWG:=aI (show WRD[k]?=some (.string wd) by rw [<-hwd];exact wrd_get k (by omega))
 obtain ⟨Nf,hNf⟩:=aX w.heap.size
 have HNf:=aI hNf
 rw [hNf] at HBK
 have HC:=aI (zf W1.heap.size W1)
 have k0:(0:Int)<=(k:Int):=aa _
 have k9:(k:Int) < 9:=by omega
 obtain ⟨c0,c1,c2,c3,c4,c5,c6,c7⟩:=aM8 (HBK.out.below HC.out HBK.out.lt)
 clear h7 h8 h9 hnw h s1 s2 a1 a2 a3 a4 a5 a6 b1 b2 e1 e2 hbk hW1 hb0 hwd hok hNf
 go_enter Tryz.func95,Tryz.ntmps95
 go_upto_region 1 with fail
 rw [HW1.out,HNf.out]
 go_wp2_with (go_at_call 133;(with_reducible refine aS (CU.out _) ?_))
 clear c0 c1 c2 c3 c4 c5 c6 c7
 apply zy (C:=λw'=>Below W1.heap.size W1 w') (n:=80) (m:=11) (l1:=[_,_,_,_,_,_,_,_,_,_,_]) (l2:=[]);rfl;rfl;kernel_rfl;rfl;kernel_rfl;exact ⟨rfl,rfl,rfl,ag _,λ_ _=>rfl⟩;exact aR
 apply zF (slBlk_kept 9 9 WRD)
 .intro w' hC hf;unfold Gives;clear hf hC
  go_wp2_with (go_at_call 136;(with_reducible refine (CW.out _).mono ?_);rintro e w2 ⟨g,rfl,hg,hB,hb2⟩)
  apply zJ rfl hb2;simp only [zC];exact ⟨g,rfl,hB⟩
 intro v28;(try simp only [zn])
 iterate 2 ((apply aJ;·(intro w' hC hf;obtain ⟨c0,c1,c2,c3,c4,c5,c6,c7⟩:=aM8 (HBK.out.below hC HBK.out.lt);clear hf hC;go_wp2_with (fail);apply aO;simp only [zC];exact rfl));(try simp only [zn]))
 apply zF (atCell_kept (.string wd))
 .intro w' hC hf;unfold Gives
  obtain ⟨g,rfl,hB⟩:=hf.1 rfl
  have hcell:=(hB.cell k).trans HWG.out
  have HCE:=aI hcell
  clear hf hC hcell hB
  go_wp2_with fail
  apply zJ rfl (zf _ _);simp only [zC];exact atCell_of HCE.out
 intro v34;(try simp only [zn])
 apply wpT_exact
 .intro w' hC hf;unfold Gives
  obtain ⟨a,rfl,hc⟩:=hf.1 rfl
  clear hf hC
  go_wp2_with fail
  apply aO;simp only [zC];exact rfl
 (try simp only [zn])
 iterate 6 ((apply aJ;·(intro w' hC hf;obtain ⟨c0,c1,c2,c3,c4,c5,c6,c7⟩:=aM8 (HBK.out.below hC HBK.out.lt);clear hf hC;go_wp2_with (fail);apply aO;simp only [zC];exact rfl));(try simp only [zn]))
 apply wpT_done
 intro w3 hC _
 replace HC:=aI hC
 clear hC
 obtain ⟨o0,ho0⟩:∃o:ByteArray,(⟨#[10]⟩++wd++⟨#[32]⟩++nm:ByteArray)=o:=⟨_,rfl⟩
 rw [ho0]
 have ho0s:o0.size<=26:=by rw [<-ho0];simp only [ByteArray.size_append];rw [show (⟨#[10]⟩:ByteArray).size=1 from rfl,show (⟨#[32]⟩:ByteArray).size=1 from rfl];omega
 have HO0:=aI (show o0.data.toList=10::(Sx.wordsL.getD k []++32::Sx.bs nm) by rw [<-ho0,<-HWL.out];unfold Sx.bs;simp)
 clear ho0
 obtain ⟨c0,c1,c2,c3,c4,c5,c6,c7⟩:=aM8 (HBK.out.below HC.out HBK.out.lt)
 have CN:=aI (λw=>rnamed_any of_ w)
 have hon:(Sx.orN of_).size<=12:=Sx.orN_sz h2 (by decide)
 obtain ⟨on,hon9⟩:=aX (Sx.orN of_)
 rw [hon9] at CN hon
 have HON:=aI hon9
 clear hon9 k0 k9
 have CA:=aI (λ(o:ByteArray) (n:Int) (w:World) (h1:o.size<=1000) (h2:-1048576<=n/\n<=1048576)=>and_any o n w (by omega) (by omega))
 rcases HK.out with ⟨hk,hu⟩ | ⟨hk,hu⟩ | ⟨hk,hu⟩ | ⟨hk,hu⟩ | ⟨hk,hu⟩ | ⟨hk,hu⟩ | ⟨hk,hu⟩
 all_goals (injection hu with hu1 hu;injection hu with hu2 hu;injection hu with hu3 hu;injection hu with hu4 hu5;subst hu1 hu2 hu3 hu4 hu5;clear CU HK)
 .go_wp2_with (go_at_call 94;((with_reducible refine (CA.out _ _ _ (by first | omega | (have:=andS_size o1 lo (by omega);omega) | (have:=andS_size o0 lo (by omega);omega)) (by omega)).mono ?_));rintro e w5 ⟨rfl,hb5⟩;replace HC:=aT HC hb5;clear hb5;clear c0 c1 c2 c3 c4 c5 c6 c7;obtain ⟨c0,c1,c2,c3,c4,c5,c6,c7⟩:=aM8 (HBK.out.below HC.out HBK.out.lt))
  go_ret
  refine ⟨_,rfl,?_,HB.out.trans (HC.out.mono HB.out.size)⟩
  subst hk
  show ((andS o0 lo):ByteArray).data.toList=_;rw [andS_list];have hx:=HO0.out;show _=10::(Sx.wordsL.getD 0 []++(Sx.bs nm::[Sx.num lo]).flatMap λu=>32::u);simp [hx,Sx.bs]
 .obtain ⟨o1,ho1⟩:∃o:ByteArray,((o0++⟨#[32]⟩++on):ByteArray)=o:=⟨_,rfl⟩
  have ho1s:o1.size<=39:=by rw [<-ho1];simp only [ByteArray.size_append];rw [show (⟨#[32]⟩:ByteArray).size=1 from rfl];omega
  have HO1:=aI ho1
  clear ho1
  go_upto_region 7 with (go_at_call 96;(with_reducible refine aS (CN.out _) ?_))
  rw [HO1.out]
  go_wp2_with (go_at_call 94;((with_reducible refine (CA.out _ _ _ (by first | omega | (have:=andS_size o1 lo (by omega);omega) | (have:=andS_size o0 lo (by omega);omega)) (by omega)).mono ?_));rintro e w5 ⟨rfl,hb5⟩;replace HC:=aT HC hb5;clear hb5;clear c0 c1 c2 c3 c4 c5 c6 c7;obtain ⟨c0,c1,c2,c3,c4,c5,c6,c7⟩:=aM8 (HBK.out.below HC.out HBK.out.lt))
  go_ret
  refine ⟨_,rfl,?_,HB.out.trans (HC.out.mono HB.out.size)⟩
  rcases hk with rfl | rfl | rfl <;> (
  show ((andS (andS o1 lo) hi):ByteArray).data.toList=_;rw [andS_list,andS_list];rw [<-HO1.out];have hx:=HO0.out;have hy:=HON.out;show _=10::(_++(Sx.bs nm::[Sx.orNone of_,Sx.num lo,Sx.num hi]).flatMap λu=>32::u);rw [<-Sx.orN_list,hy];simp [hx,Sx.bs];rfl)
 .go_wp2_with (go_at_call 94;((with_reducible refine (CA.out _ _ _ (by first | omega | (have:=andS_size o1 lo (by omega);omega) | (have:=andS_size o0 lo (by omega);omega)) (by omega)).mono ?_));rintro e w5 ⟨rfl,hb5⟩;replace HC:=aT HC hb5;clear hb5;clear c0 c1 c2 c3 c4 c5 c6 c7;obtain ⟨c0,c1,c2,c3,c4,c5,c6,c7⟩:=aM8 (HBK.out.below HC.out HBK.out.lt))
  go_ret
  refine ⟨_,rfl,?_,HB.out.trans (HC.out.mono HB.out.size)⟩
  subst hk
  show ((andS (andS o0 lo) hi):ByteArray).data.toList=_;rw [andS_list,andS_list];have hx:=HO0.out;show _=10::(Sx.wordsL.getD 2 []++(Sx.bs nm::[Sx.num lo,Sx.num hi]).flatMap λu=>32::u);simp [hx,Sx.bs]
 .obtain ⟨o1,ho1⟩:∃o:ByteArray,((o0++⟨#[32]⟩++on):ByteArray)=o:=⟨_,rfl⟩
  have ho1s:o1.size<=39:=by rw [<-ho1];simp only [ByteArray.size_append];rw [show (⟨#[32]⟩:ByteArray).size=1 from rfl];omega
  have HO1:=aI ho1
  clear ho1
  go_upto_region 7 with (go_at_call 96;(with_reducible refine aS (CN.out _) ?_))
  rw [HO1.out]
  go_wp2_with fail
  go_ret
  refine ⟨_,rfl,?_,HB.out.trans (HC.out.mono HB.out.size)⟩
  subst hk
  show (o1:ByteArray).data.toList=_;rw [<-HO1.out];have hx:=HO0.out;have hq:=HOK.out;rw [show Sx.fldB ((nm,of_,up,((6:Nat):Int),lo,hi,ws,ns):Fld)=(Sx.nm nm && (Sx.em up && (Sx.noW ((nm,of_,up,6,lo,hi,ws,ns):Fld) && (decide (lo=0) && (decide (hi=0) && Sx.nm of_))))) from rfl] at hq;simp only [zw] at hq;replace hq:=hq.2.2.2.2.2;have hy:=HON.out;show _=10::(Sx.wordsL.getD 6 []++(Sx.bs nm::[Sx.bs of_]).flatMap λu=>32::u);rw [Sx.nm_orN hq] at hy;subst hy;simp [hx,Sx.bs]
 .obtain ⟨o1,ho1⟩:∃o:ByteArray,(((o0++⟨#[32]⟩++up)++⟨#[32]⟩++on):ByteArray)=o:=⟨_,rfl⟩
  have ho1s:o1.size<=52:=by rw [<-ho1];simp only [ByteArray.size_append];rw [show (⟨#[32]⟩:ByteArray).size=1 from rfl];omega
  have HO1:=aI ho1
  clear ho1
  go_upto_region 7 with (go_at_call 96;(with_reducible refine aS (CN.out _) ?_))
  rw [HO1.out]
  go_wp2_with (go_at_call 94;((with_reducible refine (CA.out _ _ _ (by first | omega | (have:=andS_size o1 lo (by omega);omega) | (have:=andS_size o0 lo (by omega);omega)) (by omega)).mono ?_));rintro e w5 ⟨rfl,hb5⟩;replace HC:=aT HC hb5;clear hb5;clear c0 c1 c2 c3 c4 c5 c6 c7;obtain ⟨c0,c1,c2,c3,c4,c5,c6,c7⟩:=aM8 (HBK.out.below HC.out HBK.out.lt))
  go_ret
  refine ⟨_,rfl,?_,HB.out.trans (HC.out.mono HB.out.size)⟩
  subst hk
  show ((andS (andS o1 lo) hi):ByteArray).data.toList=_;rw [andS_list,andS_list];rw [<-HO1.out];have hx:=HO0.out;have hq:=HOK.out;rw [show Sx.fldB ((nm,of_,up,((7:Nat):Int),lo,hi,ws,ns):Fld)=(Sx.nm nm && (Sx.noW ((nm,of_,up,7,lo,hi,ws,ns):Fld) && (Sx.nm of_ && (Sx.nm up && Sx.span lo hi 0 Sx.most)))) from rfl] at hq;simp only [zw] at hq;replace hq:=hq.2.2.1;have hy:=HON.out;show _=10::(Sx.wordsL.getD 7 []++(Sx.bs nm::[Sx.bs up,Sx.bs of_,Sx.num lo,Sx.num hi]).flatMap λu=>32::u);rw [Sx.nm_orN hq] at hy;subst hy;simp [hx,Sx.bs]
 .obtain ⟨o1,ho1⟩:∃o:ByteArray,(((o0++⟨#[32]⟩++up)++⟨#[32]⟩++on):ByteArray)=o:=⟨_,rfl⟩
  have ho1s:o1.size<=52:=by rw [<-ho1];simp only [ByteArray.size_append];rw [show (⟨#[32]⟩:ByteArray).size=1 from rfl];omega
  have HO1:=aI ho1
  clear ho1
  go_upto_region 7 with (go_at_call 96;(with_reducible refine aS (CN.out _) ?_))
  rw [HO1.out]
  go_wp2_with fail
  go_ret
  refine ⟨_,rfl,?_,HB.out.trans (HC.out.mono HB.out.size)⟩
  subst hk
  show (o1:ByteArray).data.toList=_;rw [<-HO1.out];have hx:=HO0.out;have hq:=HOK.out;rw [show Sx.fldB ((nm,of_,up,((8:Nat):Int),lo,hi,ws,ns):Fld)=(Sx.nm nm && (Sx.noW ((nm,of_,up,8,lo,hi,ws,ns):Fld) && (decide (lo=0) && (decide (hi=0) && (Sx.nm of_ && Sx.nm up))))) from rfl] at hq;simp only [zw] at hq;replace hq:=hq.2.2.2.2.1;have hy:=HON.out;show _=10::(Sx.wordsL.getD 8 []++(Sx.bs nm::[Sx.bs up,Sx.bs of_]).flatMap λu=>32::u);rw [Sx.nm_orN hq] at hy;subst hy;simp [hx,Sx.bs]
 .obtain rfl:=hk
  have CA1:=aI (λw=>and_any o0 (nw:Int) w (by omega) (by omega))
  have hos:=andS_size o0 (nw:Int) (by omega)
  have HO1:=aI (andS_list o0 (nw:Int))
  obtain ⟨o1,ho1⟩:∃o:ByteArray,andS o0 (nw:Int)=o:=⟨_,rfl⟩
  rw [ho1] at CA1 hos HO1
  clear ho1
  go_wp2_with (go_at_call 94;(with_reducible refine (CA1.out _).mono ?_);rintro e w5 ⟨rfl,hb5⟩;replace HC:=aT HC hb5;clear hb5;clear c0 c1 c2 c3 c4 c5 c6 c7;obtain ⟨c0,c1,c2,c3,c4,c5,c6,c7⟩:=aM8 (HBK.out.below HC.out HBK.out.lt))
  clear c0 c1 c2 c3 c4 c5 c6 c7
  go_loopg [8,9] nw (λr s i wr=>∃(j:Nat) (t:ByteArray),j+r=nw/\i=.int .i64 j/\s=.string t/\t.data.toList=o1.data.toList++((Sx.pickAv (ws.take j) (ns.take j)).flatMap λa=>32::a.t)/\t.size<=50+30*j/\Below W1.heap.size W1 wr)
  case atStart=>exact ⟨0,o1,by omega,rfl,rfl,by simp [Sx.pickAv],by omega,HC.out⟩
  case round =>
   clear HC
   obtain ⟨j,t,hj,rfl,rfl,ht,hts,hb⟩:=hrel
   obtain ⟨wo,rfl⟩:=aY wr
   have HC:=aI hb
   have HT:=aI ht
   clear hb ht
   obtain ⟨c0,c1,c2,c3,c4,c5,c6,c7⟩:=aM8 (HBK.out.below HC.out HBK.out.lt)
   by_cases hlt:j < nw
   .have hjp:j < ws.length:=by rw [HNW.out];exact hlt
    have hjq:j < ns.length:=by rw [HNN.out];exact hlt
    have j0:(0:Int)<=(j:Int):=aa _
    have j1:(j:Int) < (nw:Int):=by omega
    obtain ⟨b,o,rfl,_,d0,_⟩:=str_at (HS1.out.keep (za HC.out)) j hjp
    obtain ⟨b2,o2,rfl,_,d1,_⟩:=int_at (HS2.out.keep (za HC.out)) j hjq
    have hx:=HWF.out _ (ze hjp)
    have hy:=HNF.out _ (ze hjq)
    have HPS:=aI (Sx.pickAv_snoc ws ns j hjp hjq)
    obtain ⟨x0,hx0⟩:=aX (ws[j])
    obtain ⟨y0,hy0⟩:=aX (ns[j])
    rw [hx0] at d0 hx HPS
    rw [hy0] at d1 hy HPS
    obtain ⟨o2s,ho2⟩:∃o:ByteArray,(t++⟨#[32]⟩++x0:ByteArray)=o:=⟨_,rfl⟩
    have ho2s:o2s.size<=t.size+13:=by rw [<-ho2];simp only [ByteArray.size_append];rw [show (⟨#[32]⟩:ByteArray).size=1 from rfl];omega
    have HO2:=aI ho2
    have CA2:=aI (λw=>and_any o2s y0 w (by omega) (by omega))
    have has:=andS_size o2s y0 (by omega)
    have HAS:=aI (andS_list o2s y0)
    clear hx0 hy0 ho2
    have HD0:=aI (λ(W:World) (hb:Below wo.heap.size wo W)=>(hb.cell (zc _ _ d0)).trans d0)
    have HD1:=aI (λ(W:World) (hb:Below wo.heap.size wo W)=>(hb.cell (zc _ _ d1)).trans d1)
    have HBW:=aI (HBK.out.below HC.out HBK.out.lt)
    go_wp2_with fail
    clear c0 c1 c2 c3 c4 c5 c6 c7
    clear d0 d1
    apply zy (C:=λw'=>Below wo.heap.size wo w') (n:=80) (m:=15) (l1:=[_,_,_,_,_,_,_,_,_,_,_,_,_,_,_]) (l2:=[]);rfl;rfl;kernel_rfl;rfl;kernel_rfl;exact ⟨rfl,rfl,rfl,ag _,λ_ _=>rfl⟩;exact aR
    iterate 7 ((apply aJ;·(intro w' hC hf;have hbk:=HBW.out.below hC HBW.out.lt;have c6:=hbk.cell 6;have c7:=hbk.cell 7;simp at c6 c7;have d0:=HD0.out _ hC;have d1:=HD1.out _ hC;clear hbk;clear hf hC;go_wp2_with (fail);apply aO;simp only [zC];exact rfl));(try simp only [zn]))
    (apply wpT_exact (c:=.string o2s);· (intro w' hC hf;unfold Gives;clear hf hC;go_wp2_with fail;apply aO;simp only [zC];rw [<-HO2.out]));(try simp only [zn])
    iterate 5 ((apply aJ;·(intro w' hC hf;have hbk:=HBW.out.below hC HBW.out.lt;have c6:=hbk.cell 6;have c7:=hbk.cell 7;simp at c6 c7;have d0:=HD0.out _ hC;have d1:=HD1.out _ hC;clear hbk;clear hf hC;go_wp2_with (fail);apply aO;simp only [zC];exact rfl));(try simp only [zn]))
    (apply aJ;·(intro w' hC hf;clear hf hC;go_wp2_with (go_at_call 94;(with_reducible refine (CA2.out _).mono ?_);rintro e w5 ⟨rfl,hb5⟩);apply postT_val rfl (by assumption);simp only [zC];exact rfl));(try simp only [zn])
    (apply aJ;·(intro w' hC hf;clear hf hC;go_wp2_with (fail);apply aO;simp only [zC];exact rfl));(try simp only [zn])
    apply wpT_done
    intro w8 hC _
    replace HC:=aT HC hC
    clear hC
    go_wp2_with fail
    go_roundg (gk - 1)
    case measure=>omega
    case rel =>
     refine ⟨j+1,_,by omega,by go_num,rfl,?_,by omega,HC.out⟩
     rw [HAS.out,<-HO2.out,<-HPS.out]
     simp [HT.out,Sx.Av.t,Sx.bs]
   .have j1:¬(j:Int) < (nw:Int):=by omega
    have e1:=HT.out
    rw [List.take_of_length_le (by rw [HNW.out];omega),List.take_of_length_le (by rw [HNN.out];omega),HO1.out,HO0.out] at e1
    replace HT:=aI e1
    clear e1
    go_wp2_with fail
    go_ret
    refine ⟨_,rfl,?_,HB.out.trans (HC.out.mono HB.out.size)⟩
    have e1:=HT.out
    rw [e1]
    show _=10::(Sx.wordsL.getD 3 []++(Sx.bs nm::Sx.num (ws.length:Int)::Sx.picksT ws ns).flatMap λu=>32::u)
    rw [HNW.out,<-Sx.pickAv_t,zR,zR,List.flatMap_map]
    simp
end
end Go.Proofs.YtobcnhmhgoccnaaGreatDoor
