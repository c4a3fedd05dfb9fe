/- Parts of the proof, joined: SxB0, SxQ2, SxQ3, SxQ4, SxQ5, SxQ6, SyL2, SyMet, SyMetE. -/
import Derived.Test.YtobcnhmhgoccnaaGreatDoorG16
import Derived.Test.YtobcnhmhgoccnaaGreatDoorG19
import Derived.Test.YtobcnhmhgoccnaaGreatDoorG22
import Derived.Test.YtobcnhmhgoccnaaGreatDoorG23
import Derived.Test.YtobcnhmhgoccnaaGreatDoorCards
import Derived.Test.YtobcnhmhgoccnaaGreatDoorTie
import Derived.Lib.SmallJoins
import Derived.LaidMore
import Derived.Lay
import Derived.Stop.LaidErr
import Derived.Deep.DeepWitnessRowRef
set_option maxRecDepth 100000
set_option maxHeartbeats 16000000
set_option linter.unusedVariables false
set_option linter.unusedSimpArgs false
set_option linter.unusedSectionVars false
namespace Go.Proofs.YtobcnhmhgoccnaaGreatDoor
open Go Go.RowKit
section
def GSchP (w:World) (e:Ending) (w':World):Prop:=∃ (x:Sch) (A:Option Addr) (c:Nat) (B:Option Addr) (d:Nat) (C:Option Addr) (f nk nl nr:Nat),e=.returned (.agg #[.int .i64 x.1,.slice A nk c,.slice B nl d,.slice C nr f])/\Sx.valid x=0/\Mem.rep [] w' x [.int .i64 x.1,.slice A nk c,.slice B nl d,.slice C nr f]/\Below w.heap.size w w'
theorem gsch_any (l:List Int) (A:Option Addr) (c:Nat) (w:World) (hs:SlAt [] w A l) (hc:l.length<=c) (hm:c<=9223372036854775807):Calls Tryz.prog 5 #[.slice A l.length c] w (GSchP w):=by
 refine (gschema_any l A c w hs hc hm).mono ?_
 rintro e w' ⟨x,v,rfl,hx,⟨us,rfl,hr⟩,hb⟩
 obtain ⟨A1,c1,A2,c2,A3,c3,rfl,_⟩:=rep_sch hr
 exact ⟨x,A1,c1,A2,c2,A3,c3,_,_,_,rfl,hx.valid,hr,hb⟩
end
section
def Sx.sameK (x y:Knd):Bool:=decide (x.1=y.1) && (decide (x.2.1=y.2.1) && (decide (x.2.2.1=y.2.2.1) && (Sx.eqL Sx.sameF (Sc.flds x) (Sc.flds y))))
theorem sameK_any (x y:Knd) (us vs:List Value) (w:World) (ha:Mem.rep [] w x us) (hb:Mem.rep [] w y vs) :
  Calls Tryz.prog 60 #[.agg us.toArray,.agg vs.toArray] w (BoolP (Sx.sameK x y) w):=by
 obtain ⟨A1,cA,rfl,s1,a2,a3,a1,b1,b2⟩:=rep_knd ha
 obtain ⟨A2,cB,rfl,s2,a2',a3',a1',b1',b2'⟩:=rep_knd hb
 have hb1:Below w.heap.size w (w.alloc (.cells #[.string x.1,.int .i64 x.2.1,.int .i64 x.2.2.1,.slice A1 (Sc.flds x).length cA] 52)):=(Below.refl _ _).alloc (ag _) _
 have hk1:Blk (w.alloc (.cells #[.string x.1,.int .i64 x.2.1,.int .i64 x.2.2.1,.slice A1 (Sc.flds x).length cA] 52)) w.heap.size 52 #[.string x.1,.int .i64 x.2.1,.int .i64 x.2.2.1,.slice A1 (Sc.flds x).length cA]:=Blk.new _ _ _
 obtain ⟨W1,hW1⟩:=aX (w.alloc (.cells #[.string x.1,.int .i64 x.2.1,.int .i64 x.2.2.1,.slice A1 (Sc.flds x).length cA] 52))
 rw [hW1] at hb1 hk1
 have hb2:Below W1.heap.size W1 (W1.alloc (.cells #[.string y.1,.int .i64 y.2.1,.int .i64 y.2.2.1,.slice A2 (Sc.flds y).length cB] 52)):=(Below.refl _ _).alloc (ag _) _
 have hk2:Blk (W1.alloc (.cells #[.string y.1,.int .i64 y.2.1,.int .i64 y.2.2.1,.slice A2 (Sc.flds y).length cB] 52)) W1.heap.size 52 #[.string y.1,.int .i64 y.2.1,.int .i64 y.2.2.1,.slice A2 (Sc.flds y).length cB]:=Blk.new _ _ _
 obtain ⟨W2,hW2⟩:=aX (W1.alloc (.cells #[.string y.1,.int .i64 y.2.1,.int .i64 y.2.2.1,.slice A2 (Sc.flds y).length cB] 52))
 rw [hW2] at hb2 hk2
 have hk1':=hk1.below hb2 hk1.lt
 obtain ⟨Na,hNa⟩:=aX w.heap.size
 have hNb:W1.heap.size=Na+1:=by rw [<-hW1,<-hNa];simp only [World.alloc,Array.size_push]
 rw [hNa] at hk1'
 rw [hNb] at hk2
 have KA:=aI hk1';have KB:=aI hk2
 have HB:=aI (hb1.trans (hb2.mono hb1.size))
 have HW1:=aI hW1;have HW2:=aI hW2;have HNa:=aI hNa;have HNb:=aI hNb
 have C3:=aI (fun (W:World) (hb:Below w.heap.size w W)=>eqF_any (Sc.flds x) (Sc.flds y) A1 A2 cA cB W (s1.keep (Chg.of_below hb)) (s2.keep (Chg.of_below hb)) (ah b1 b2) (ah b1' b2'))
 unfold rtEF at C3
 show Calls Tryz.prog 60 #[.agg #[.string x.1,.int .i64 x.2.1,.int .i64 x.2.2.1,.slice A1 (Sc.flds x).length cA],.agg #[.string y.1,.int .i64 y.2.1,.int .i64 y.2.2.1,.slice A2 (Sc.flds y).length cB]] w _
 obtain ⟨r0,h0⟩:∃ r,decide (x.1=y.1)=r:=⟨_,rfl⟩
 have q0:((x.1).toList == (y.1).toList)=r0:=by rw [<-h0];exact strEqB _ _
 obtain ⟨r1,h1⟩:∃ r,decide (x.2.1=y.2.1)=r:=⟨_,rfl⟩
 have q1:(x.2.1 == y.2.1)=r1:=by rw [<-h1];exact intEqB _ _
 obtain ⟨r2,h2⟩:∃ r,decide (x.2.2.1=y.2.2.1)=r:=⟨_,rfl⟩
 have q2:(x.2.2.1 == y.2.2.1)=r2:=by rw [<-h2];exact intEqB _ _
 obtain ⟨r3,h3⟩:=aX (Sx.eqL Sx.sameF (Sc.flds x) (Sc.flds y))
 rw [h3] at C3
 have HF:=aI (show Sx.sameK x y=(r0 && (r1 && (r2 && (r3)))) by unfold Sx.sameK;rw [h0,h1,h2,h3])
 generalize Sx.sameK x y=sf at *
 clear ha hb hb1 hb2 hk1 hk2 hk1' hW1 hW2 hNa hNb h0 h1 h2 h3 s1 s2 a1 a2 a3 b1 b2 a1' a2' a3' b1' b2'
 go_enter Tryz.func60,Tryz.ntmps60
 go_upto_region 1 with fail
 rw [HW1.out,HW2.out]
 (try rw [HNa.out])
 (try rw [HNb.out])
 have ka:=KA.out;have kb:=KB.out;have z0:=ka.cell 0;have y0:=kb.cell 0;have z1:=ka.cell 1;have y1:=kb.cell 1;have z2:=ka.cell 2;have y2:=kb.cell 2;have z3:=ka.cell 3;have y3:=kb.cell 3;simp at z0 y0 z1 y1 z2 y2 z3 y3;clear ka kb
 cases r0
 ·go_wp2_with (first | (go_at_call 61;(with_reducible refine (C3.out _ HB.out).mono ?_);rintro e w2 ⟨rfl,hb2⟩;replace KA:=aI (KA.out.below hb2 KA.out.lt);replace KB:=aI (KB.out.below hb2 KB.out.lt);replace HB:=aT HB hb2;clear z0 y0 z1 y1 z2 y2 z3 y3 hb2;have ka:=KA.out;have kb:=KB.out;have z0:=ka.cell 0;have y0:=kb.cell 0;have z1:=ka.cell 1;have y1:=kb.cell 1;have z2:=ka.cell 2;have y2:=kb.cell 2;have z3:=ka.cell 3;have y3:=kb.cell 3;simp at z0 y0 z1 y1 z2 y2 z3 y3;clear ka kb))
  go_ret
  exact ⟨by rw [HF.out];rfl,HB.out⟩
 cases r1
 ·go_wp2_with (first | (go_at_call 61;(with_reducible refine (C3.out _ HB.out).mono ?_);rintro e w2 ⟨rfl,hb2⟩;replace KA:=aI (KA.out.below hb2 KA.out.lt);replace KB:=aI (KB.out.below hb2 KB.out.lt);replace HB:=aT HB hb2;clear z0 y0 z1 y1 z2 y2 z3 y3 hb2;have ka:=KA.out;have kb:=KB.out;have z0:=ka.cell 0;have y0:=kb.cell 0;have z1:=ka.cell 1;have y1:=kb.cell 1;have z2:=ka.cell 2;have y2:=kb.cell 2;have z3:=ka.cell 3;have y3:=kb.cell 3;simp at z0 y0 z1 y1 z2 y2 z3 y3;clear ka kb))
  go_ret
  exact ⟨by rw [HF.out];rfl,HB.out⟩
 cases r2
 ·go_wp2_with (first | (go_at_call 61;(with_reducible refine (C3.out _ HB.out).mono ?_);rintro e w2 ⟨rfl,hb2⟩;replace KA:=aI (KA.out.below hb2 KA.out.lt);replace KB:=aI (KB.out.below hb2 KB.out.lt);replace HB:=aT HB hb2;clear z0 y0 z1 y1 z2 y2 z3 y3 hb2;have ka:=KA.out;have kb:=KB.out;have z0:=ka.cell 0;have y0:=kb.cell 0;have z1:=ka.cell 1;have y1:=kb.cell 1;have z2:=ka.cell 2;have y2:=kb.cell 2;have z3:=ka.cell 3;have y3:=kb.cell 3;simp at z0 y0 z1 y1 z2 y2 z3 y3;clear ka kb))
  go_ret
  exact ⟨by rw [HF.out];rfl,HB.out⟩
 go_wp2_with (first | (go_at_call 61;(with_reducible refine (C3.out _ HB.out).mono ?_);rintro e w2 ⟨rfl,hb2⟩;replace KA:=aI (KA.out.below hb2 KA.out.lt);replace KB:=aI (KB.out.below hb2 KB.out.lt);replace HB:=aT HB hb2;clear z0 y0 z1 y1 z2 y2 z3 y3 hb2;have ka:=KA.out;have kb:=KB.out;have z0:=ka.cell 0;have y0:=kb.cell 0;have z1:=ka.cell 1;have y1:=kb.cell 1;have z2:=ka.cell 2;have y2:=kb.cell 2;have z3:=ka.cell 3;have y3:=kb.cell 3;simp at z0 y0 z1 y1 z2 y2 z3 y3;clear ka kb))
 go_ret
 exact ⟨by rw [HF.out];cases r3 <;> rfl,HB.out⟩
def rtEK:Value:=.func (.func 60) #[] #[]
theorem eqK_any (xs ys:List (Knd)) (A B:Option Addr) (c d:Nat) (w:World) (ha:SlAt [] w A xs) (hb:SlAt [] w B ys) (hx:xs.length<=9223372036854775807) (hy:ys.length<=9223372036854775807) :
  Calls Tryz.prog 59 #[.slice A xs.length c,.slice B ys.length d,rtEK] w (BoolP (Sx.eqL Sx.sameK xs ys) w):=by
 obtain ⟨n,hn⟩:=aX xs.length
 obtain ⟨m,hm⟩:=aX ys.length
 have HX:=aI ha;have HY:=aI hb
 have HN:=aI hn;have HM:=aI hm
 have HBD:=aI (fun (k:Nat)=>eqL_bad (p:=Sx.sameK) (a:=xs) (b:=ys) (k:=k))
 have HGD:=aI (eqL_good (p:=Sx.sameK) (a:=xs) (b:=ys))
 have HLN:=aI (eqL_len (p:=Sx.sameK) (a:=xs) (b:=ys))
 obtain ⟨q,hq⟩:=aX (Sx.eqL Sx.sameK xs ys)
 rw [hq] at HBD HGD HLN ⊢
 rw [hn] at hx ⊢
 rw [hm] at hy ⊢
 unfold rtEK
 clear ha hb hn hm hq
 go_enter Tryz.func59,Tryz.ntmps59
 by_cases hnm:n=m
 ·subst hnm
  go_wp2_with fail
  go_loopg [17] n (fun r i wr=>∃ k:Nat,k+r=n/\i=.int .i64 k/\Below w.heap.size w wr/\∀ j (h1:j < xs.length) (h2:j < ys.length),j < k->Sx.sameK xs[j] ys[j]=true)
  case atStart=>exact ⟨0,by omega,rfl,Below.refl _ _,fun _ _ _ h=>by omega⟩
  case round =>
   obtain ⟨k,hk,rfl,hb,hall⟩:=hrel
   obtain ⟨wo,rfl⟩:=aY wr
   have HB:=aI hb
   have HA:=aI hall
   clear hb hall
   by_cases hlt:k < n
   ·have hkx:k < xs.length:=by rw [HN.out];exact hlt
    have hky:k < ys.length:=by rw [HM.out];exact hlt
    have k0:(0:Int)<=(k:Int):=aa _
    have k1:(k:Int) < (n:Int):=by omega
    obtain ⟨b,o,us,rfl,_,hr,hc⟩:=(HX.out.keep (Chg.of_below HB.out)).get k hkx
    obtain ⟨b2,o2,vs,rfl,_,hr2,hc2⟩:=(HY.out.keep (Chg.of_below HB.out)).get k hky
    obtain ⟨x,hxe⟩:=aX (xs[k])
    obtain ⟨y,hye⟩:=aX (ys[k])
    have HP:=aI (show Sx.sameK xs[k] ys[k]=Sx.sameK x y by rw [hxe,hye])
    rw [hxe] at hr
    rw [hye] at hr2
    have hr0:=hr;have hr02:=hr2
    obtain ⟨A1,cA,rfl,_⟩:=rep_knd hr0
    obtain ⟨A2,cB,rfl,_⟩:=rep_knd hr02
    rw [show Mem.sz (Knd)=4 from rfl] at hc hc2
    obtain ⟨c0,c1,c2,c3⟩:=aG4 (m:=k*4) hc
    have d0:wo.cell? ⟨b2,o2+k*4,none⟩=some (.string y.1):=hc2 0 _ rfl
    have d1:wo.cell? ⟨b2,o2+k*4+1,none⟩=some (.int .i64 y.2.1):=hc2 1 _ rfl
    have d2:wo.cell? ⟨b2,o2+k*4+2,none⟩=some (.int .i64 y.2.2.1):=hc2 2 _ rfl
    have d3:wo.cell? ⟨b2,o2+k*4+3,none⟩=some (.slice A2 (Sc.flds y).length cB):=hc2 3 _ rfl
    have hb5:Below wo.heap.size wo (wo.alloc (.cells #[.string x.1,.int .i64 x.2.1,.int .i64 x.2.2.1,.slice A1 (Sc.flds x).length cA] 52)):=(Below.refl _ _).alloc (ag _) _
    have hk5:Blk (wo.alloc (.cells #[.string x.1,.int .i64 x.2.1,.int .i64 x.2.2.1,.slice A1 (Sc.flds x).length cA] 52)) wo.heap.size 52 #[.string x.1,.int .i64 x.2.1,.int .i64 x.2.2.1,.slice A1 (Sc.flds x).length cA]:=Blk.new _ _ _
    have HR1:=aI (Mem.keep hr (Chg.of_below hb5));have HR2:=aI (Mem.keep hr2 (Chg.of_below hb5))
    have e0:=(hb5.cell (World.block_lt_of_cell? _ _ d0)).trans d0
    have e1:=(hb5.cell (World.block_lt_of_cell? _ _ d1)).trans d1
    have e2:=(hb5.cell (World.block_lt_of_cell? _ _ d2)).trans d2
    have e3:=(hb5.cell (World.block_lt_of_cell? _ _ d3)).trans d3
    obtain ⟨Nx,hNx⟩:=aX wo.heap.size
    have HB5:=aI (HB.out.trans (hb5.mono HB.out.size))
    have HK5:=aI hk5
    clear hxe hye hr hr2 hr0 hr02 hc hc2 hb5 hk5
    go_upto_region 6 with fail
    generalize wo.alloc (.cells #[.string x.1,.int .i64 x.2.1,.int .i64 x.2.2.1,.slice A1 (Sc.flds x).length cA] 52)=w5 at *
    rw [hNx] at HK5
    clear hNx c0 c1 c2 c3 d0 d1 d2 d3
    have hb6:Below w5.heap.size w5 (w5.alloc (.cells #[.string y.1,.int .i64 y.2.1,.int .i64 y.2.2.1,.slice A2 (Sc.flds y).length cB] 52)):=(Below.refl _ _).alloc (ag _) _
    have HK6:=aI (show Blk (w5.alloc (.cells #[.string y.1,.int .i64 y.2.1,.int .i64 y.2.2.1,.slice A2 (Sc.flds y).length cB] 52)) w5.heap.size 52 #[.string y.1,.int .i64 y.2.1,.int .i64 y.2.2.1,.slice A2 (Sc.flds y).length cB] from Blk.new _ _ _)
    have HK7:=aI (HK5.out.below hb6 HK5.out.lt)
    have CE:=aI (sameK_any x y _ _ _ (Mem.keep HR1.out (Chg.of_below hb6)) (Mem.keep HR2.out (Chg.of_below hb6)))
    have HB6:=aI (HB5.out.trans (hb6.mono HB5.out.size))
    obtain ⟨Ny,hNy⟩:=aX w5.heap.size
    clear hb6 HR1 HR2
    go_upto_region 7 with fail
    generalize w5.alloc (.cells #[.string y.1,.int .i64 y.2.1,.int .i64 y.2.2.1,.slice A2 (Sc.flds y).length cB] 52)=w6 at *
    rw [hNy] at HK6
    clear hNy e0 e1 e2 e3
    have hk7:=HK7.out;have hk6:=HK6.out
    obtain ⟨z0,z1,z2,z3⟩:=aN4 hk7.cell;simp at z0 z1 z2 z3;obtain ⟨y0,y1,y2,y3⟩:=aN4 hk6.cell;simp at y0 y1 y2 y3
    clear hk7 hk6
    obtain ⟨r,hr⟩:=aX (Sx.sameK x y)
    rw [hr] at CE HP
    clear hr
    replace CE:=aI (show Calls Tryz.prog 60 #[.agg #[.string x.1,.int .i64 x.2.1,.int .i64 x.2.2.1,.slice A1 (Sc.flds x).length cA],.agg #[.string y.1,.int .i64 y.2.1,.int .i64 y.2.2.1,.slice A2 (Sc.flds y).length cB]] w6 (BoolP r w6) from CE.out)
    cases r
    ·have HQ:=aI (HBD.out k hkx hky HP.out)
     go_wp2_with (go_at_call 60;(with_reducible refine (CE.out).mono ?_);rintro e w7 ⟨rfl,hb7⟩;have HB7:=aI (HB6.out.trans (hb7.mono HB6.out.size));clear hb7)
     go_ret
     exact ⟨by rw [HQ.out];rfl,HB7.out⟩
    ·go_wp2_with (go_at_call 60;(with_reducible refine (CE.out).mono ?_);rintro e w7 ⟨rfl,hb7⟩;have HB7:=aI (HB6.out.trans (hb7.mono HB6.out.size));clear hb7)
     go_roundg (gk - 1)
     case measure=>omega
     case rel =>
      refine ⟨k+1,by omega,by go_num,HB7.out,fun j h1 h2 hj=>?_⟩
      rcases aj j k with h' | h'
      ·exact HA.out j h1 h2 h'
      ·obtain rfl:j=k:=by omega
       exact HP.out
   ·have k1:¬ (k:Int) < (n:Int):=by omega
    have HQ:=aI (HGD.out (HN.out.trans HM.out.symm) fun j h1 h2=>HA.out j h1 h2 (by rw [HN.out] at h1;omega))
    go_wp2_with fail
    go_ret
    exact ⟨by rw [HQ.out];rfl,HB.out⟩
 ·have HQ:=aI (HLN.out (by rw [HN.out,HM.out];exact hnm))
  have q1:((n:Int) == (m:Int))=false:=beq_eq_false_iff_ne.2 (by omega)
  have q2:((n:Int) != (m:Int))=true:=by rw [bne,q1];rfl
  clear hnm
  go_wp2_with fail
  go_ret
  exact ⟨by rw [HQ.out];rfl,Below.refl _ _⟩
def Sx.eqD {α:Type} [DecidableEq α] (x y:α):Bool:=decide (x=y)
theorem eqL_dec {α:Type} [DecidableEq α] (xs ys:List α):Sx.eqL Sx.eqD xs ys=decide (xs=ys):=by
 by_cases h:xs=ys
 ·rw [ac h];exact (eqL_iff (fun x y=>by unfold Sx.eqD;exact decide_eq_true_iff) xs ys).2 h
 ·rw [ad h]
  cases hb:Sx.eqL Sx.eqD xs ys with
  | false=>rfl
  | true=>exact absurd ((eqL_iff (fun x y=>by unfold Sx.eqD;exact decide_eq_true_iff) xs ys).1 hb) h
theorem eqD_M (x y:Int × Int):Sx.eqD x y=((x.1 == y.1) && (x.2 == y.2)):=by
 unfold Sx.eqD
 rw [intEqB,intEqB,<-Bool.decide_and]
 exact decide_eq_decide.2 Prod.ext_iff
theorem eqD_R (x y:Rul):Sx.eqD x y=((x.1.toList == y.1.toList) && ((x.2.1.toList == y.2.1.toList) && ((x.2.2.1.toList == y.2.2.1.toList) && ((x.2.2.2.1.toList == y.2.2.2.1.toList) && (x.2.2.2.2 == y.2.2.2.2))))):=by
 unfold Sx.eqD
 rw [strEqB,strEqB,strEqB,strEqB,intEqB]
 simp only [<-Bool.decide_and]
 exact decide_eq_decide.2 (by rw [Prod.ext_iff,Prod.ext_iff,Prod.ext_iff,Prod.ext_iff])
theorem eqM_run (x y:Int × Int) (w:World):(Op.equalIn 10000 58 (.agg #[.int .i64 x.1,.int .i64 x.2]) (.agg #[.int .i64 y.1,.int .i64 y.2])).run Tryz.prog w=.ok ((x.1 == y.1) && (x.2 == y.2)) w:=by
 obtain ⟨i,hi⟩:∃ i,Tryz.prog.info? 3=some i:=⟨_,rfl⟩
 have h1:=run_equalIn_int (P:=Tryz.prog) w 9998 3 .i64 .i64 x.1 y.1 Tryz.underlying3
 have h2:=run_equalIn_int (P:=Tryz.prog) w 9998 3 .i64 .i64 x.2 y.2 Tryz.underlying3
 rw [show (10000:Nat)=9999+1 from rfl,run_equalIn_array w 9999 _ _ Tryz.underlying58 hi]
 have p0:∀ u v:Value,(part 3 #[u,v] (0*Tryz.prog.cellsOf 3)).run Tryz.prog w=.ok u w:=fun u v=>by kernel_rfl
 have p1:∀ u v:Value,(part 3 #[u,v] (1*Tryz.prog.cellsOf 3)).run Tryz.prog w=.ok v w:=fun u v=>by kernel_rfl
 show (Op.eqItems 9999 3 _ _ _ [0,1]).run _ _=_
 simp only [Op.eqItems,Sem.run_bind,p0,p1,Result.andThen_ok]
 rw [h1]
 cases (x.1 == y.1)
 ·simp
 ·simp only [Result.andThen_ok,Bool.not_true,Bool.false_eq_true,if_false,Sem.run_bind,p1]
  rw [h2]
  cases (x.2 == y.2) <;> simp
theorem eqFields_cons {P : Program} {d : Nat} {xs ys : Array Value} {f : Field} {fs : List Field} {a b : Value} {r q : Bool} {w : World} (hn : decide (f.name ≠ "_") = true) (ha : (part f.type xs f.offset).run P w = .ok a w) (hb : (part f.type ys f.offset).run P w = .ok b w) (hr : (Op.equalIn d f.type a b).run P w = .ok r w) (hq : (Op.eqFields d xs ys fs).run P w = .ok q w) :
  (Op.eqFields d xs ys (f::fs)).run P w=.ok (r && q) w:=by
 simp only [Op.eqFields,Sem.run_ite,Sem.run_bind,if_pos (of_decide_eq_true hn),ha,hb,hr,Result.andThen_ok]
 cases r
 ·simp
 ·simp [hq]
noncomputable def Sx.rf (i:Nat):Field:=(Tryz.prog.fieldsOf 60).toList[i]!
theorem eqR_run (x y:Rul) (w:World):(Op.equalIn 10000 60 (.agg #[.string x.1,.string x.2.1,.string x.2.2.1,.string x.2.2.2.1,.int .i64 x.2.2.2.2]) (.agg #[.string y.1,.string y.2.1,.string y.2.2.1,.string y.2.2.2.1,.int .i64 y.2.2.2.2])).run Tryz.prog w=.ok ((x.1.toList == y.1.toList) && ((x.2.1.toList == y.2.1.toList) && ((x.2.2.1.toList == y.2.2.1.toList) && ((x.2.2.2.1.toList == y.2.2.2.1.toList) && (x.2.2.2.2 == y.2.2.2.2))))) w:=by
 have hf:(Tryz.prog.fieldsOf 60).toList=[Sx.rf 0,Sx.rf 1,Sx.rf 2,Sx.rf 3,Sx.rf 4]:=by kernel_rfl
 have t0:(Sx.rf 0).type=9:=by kernel_rfl
 have t1:(Sx.rf 1).type=9:=by kernel_rfl
 have t2:(Sx.rf 2).type=9:=by kernel_rfl
 have t3:(Sx.rf 3).type=9:=by kernel_rfl
 have t4:(Sx.rf 4).type=3:=by kernel_rfl
 rw [show (10000:Nat)=9999+1 from rfl,run_equalIn_struct w 9999 _ _ _ Tryz.underlying60 (by kernel_rfl),hf]
 rw [show ((x.2.2.2.1.toList == y.2.2.2.1.toList) && (x.2.2.2.2 == y.2.2.2.2))=((x.2.2.2.1.toList == y.2.2.2.1.toList) && ((x.2.2.2.2 == y.2.2.2.2) && true)) by rw [Bool.and_true]]
 have P0:∀ a b c d e:Value,(part (Sx.rf 0).type #[a,b,c,d,e] (Sx.rf 0).offset).run Tryz.prog w=.ok a w:=fun a b c d e=>by kernel_rfl
 have P1:∀ a b c d e:Value,(part (Sx.rf 1).type #[a,b,c,d,e] (Sx.rf 1).offset).run Tryz.prog w=.ok b w:=fun a b c d e=>by kernel_rfl
 have P2:∀ a b c d e:Value,(part (Sx.rf 2).type #[a,b,c,d,e] (Sx.rf 2).offset).run Tryz.prog w=.ok c w:=fun a b c d e=>by kernel_rfl
 have P3:∀ a b c d e:Value,(part (Sx.rf 3).type #[a,b,c,d,e] (Sx.rf 3).offset).run Tryz.prog w=.ok d w:=fun a b c d e=>by kernel_rfl
 have P4:∀ a b c d e:Value,(part (Sx.rf 4).type #[a,b,c,d,e] (Sx.rf 4).offset).run Tryz.prog w=.ok e w:=fun a b c d e=>by kernel_rfl
 refine eqFields_cons (by kernel_rfl) (P0 _ _ _ _ _) (P0 _ _ _ _ _) (by rw [t0];exact run_equalIn_string w _ _ _ _ Tryz.underlying9) ?_
 refine eqFields_cons (by kernel_rfl) (P1 _ _ _ _ _) (P1 _ _ _ _ _) (by rw [t1];exact run_equalIn_string w _ _ _ _ Tryz.underlying9) ?_
 refine eqFields_cons (by kernel_rfl) (P2 _ _ _ _ _) (P2 _ _ _ _ _) (by rw [t2];exact run_equalIn_string w _ _ _ _ Tryz.underlying9) ?_
 refine eqFields_cons (by kernel_rfl) (P3 _ _ _ _ _) (P3 _ _ _ _ _) (by rw [t3];exact run_equalIn_string w _ _ _ _ Tryz.underlying9) ?_
 refine eqFields_cons (by kernel_rfl) (P4 _ _ _ _ _) (P4 _ _ _ _ _) (by rw [t4];exact run_equalIn_int w _ _ .i64 .i64 _ _ Tryz.underlying3) ?_
 simp [Op.eqFields]
theorem eqpM_any (xs ys:List (Int × Int)) (A B:Option Addr) (c d:Nat) (w:World) (ha:SlAt [] w A xs) (hb:SlAt [] w B ys) (hx:xs.length<=9223372036854775807) (hy:ys.length<=9223372036854775807) :
  Calls Tryz.prog 66 #[.slice A xs.length c,.slice B ys.length d] w (BoolP (decide (xs=ys)) w):=by
 rw [<-eqL_dec xs ys]
 obtain ⟨n,hn⟩:=aX xs.length
 obtain ⟨m,hm⟩:=aX ys.length
 have HX:=aI ha;have HY:=aI hb
 have HN:=aI hn;have HM:=aI hm
 have HBD:=aI (fun (k:Nat)=>eqL_bad (p:=Sx.eqD) (a:=xs) (b:=ys) (k:=k))
 have HGD:=aI (eqL_good (p:=Sx.eqD) (a:=xs) (b:=ys))
 have HLN:=aI (eqL_len (p:=Sx.eqD) (a:=xs) (b:=ys))
 obtain ⟨q,hq⟩:=aX (Sx.eqL Sx.eqD xs ys)
 rw [hq] at HBD HGD HLN ⊢
 rw [hn] at hx ⊢
 rw [hm] at hy ⊢
 clear ha hb hn hm hq
 go_enter Tryz.func66,Tryz.ntmps66
 by_cases hnm:n=m
 ·subst hnm
  go_wp2_with fail
  go_loopg [13] n (fun r i wr=>∃ k:Nat,k+r=n/\i=.int .i64 k/\Below w.heap.size w wr/\∀ j (h1:j < xs.length) (h2:j < ys.length),j < k->Sx.eqD xs[j] ys[j]=true)
  case atStart=>exact ⟨0,by omega,rfl,Below.refl _ _,fun _ _ _ h=>by omega⟩
  case round =>
   obtain ⟨k,hk,rfl,hb,hall⟩:=hrel
   obtain ⟨wo,rfl⟩:=aY wr
   have HB:=aI hb
   have HA:=aI hall
   clear hb hall
   by_cases hlt:k < n
   ·have hkx:k < xs.length:=by rw [HN.out];exact hlt
    have hky:k < ys.length:=by rw [HM.out];exact hlt
    have k0:(0:Int)<=(k:Int):=aa _
    have k1:(k:Int) < (n:Int):=by omega
    obtain ⟨b,o,us,rfl,_,hr,hc⟩:=(HX.out.keep (Chg.of_below HB.out)).get k hkx
    obtain ⟨b2,o2,vs,rfl,_,hr2,hc2⟩:=(HY.out.keep (Chg.of_below HB.out)).get k hky
    obtain ⟨x,hxe⟩:=aX (xs[k])
    obtain ⟨y,hye⟩:=aX (ys[k])
    have HP:=aI (show Sx.eqD xs[k] ys[k]=Sx.eqD x y by rw [hxe,hye])
    rw [hxe] at hr
    rw [hye] at hr2
    obtain ⟨rfl,_,_⟩:=rep_mv hr
    obtain ⟨rfl,_,_⟩:=rep_mv hr2
    rw [show Mem.sz (Int × Int)=2 from rfl] at hc hc2
    have c0:wo.cell? ⟨b,o+k*2,none⟩=some (.int .i64 x.1):=hc 0 _ rfl
    have c1:wo.cell? ⟨b,o+k*2+1,none⟩=some (.int .i64 x.2):=hc 1 _ rfl
    have d0:wo.cell? ⟨b2,o2+k*2,none⟩=some (.int .i64 y.1):=hc2 0 _ rfl
    have d1:wo.cell? ⟨b2,o2+k*2+1,none⟩=some (.int .i64 y.2):=hc2 1 _ rfl
    clear hxe hye hr hr2 hc hc2
    obtain ⟨r,hr⟩:=aX (Sx.eqD x y)
    rw [hr] at HP
    have HR:=aI (hr.symm.trans (eqD_M x y));clear hr
    have hE:=fun w=>(eqM_run x y w).trans (by rw [<-HR.out])
    go_upto_region 6 with fail
    go_region
    clear c0 d0 c1 d1 hE
    have HB7:=aI (HB.out.trans ((show Below wo.heap.size wo wo.drew from ⟨rfl,rfl,rfl,ag _,fun _ _=>rfl⟩).mono HB.out.size))
    cases r
    ·have HQ:=aI (HBD.out k hkx hky HP.out)
     go_wp2_with fail
     go_ret
     exact ⟨by rw [HQ.out];rfl,HB7.out⟩
    ·go_wp2_with fail
     go_roundg (gk - 1)
     case measure=>omega
     case rel =>
      refine ⟨k+1,by omega,by go_num,HB7.out,fun j h1 h2 hj=>?_⟩
      rcases aj j k with h' | h'
      ·exact HA.out j h1 h2 h'
      ·obtain rfl:j=k:=by omega
       exact HP.out
   ·have k1:¬ (k:Int) < (n:Int):=by omega
    have HQ:=aI (HGD.out (HN.out.trans HM.out.symm) fun j h1 h2=>HA.out j h1 h2 (by rw [HN.out] at h1;omega))
    go_wp2_with fail
    go_ret
    exact ⟨by rw [HQ.out];rfl,HB.out⟩
 ·have HQ:=aI (HLN.out (by rw [HN.out,HM.out];exact hnm))
  have q1:((n:Int) == (m:Int))=false:=beq_eq_false_iff_ne.2 (by omega)
  have q2:((n:Int) != (m:Int))=true:=by rw [bne,q1];rfl
  clear hnm
  go_wp2_with fail
  go_ret
  exact ⟨by rw [HQ.out];rfl,Below.refl _ _⟩
theorem eqpR_any (xs ys:List (Rul)) (A B:Option Addr) (c d:Nat) (w:World) (ha:SlAt [] w A xs) (hb:SlAt [] w B ys) (hx:xs.length<=9223372036854775807) (hy:ys.length<=9223372036854775807) :
  Calls Tryz.prog 67 #[.slice A xs.length c,.slice B ys.length d] w (BoolP (decide (xs=ys)) w):=by
 rw [<-eqL_dec xs ys]
 obtain ⟨n,hn⟩:=aX xs.length
 obtain ⟨m,hm⟩:=aX ys.length
 have HX:=aI ha;have HY:=aI hb
 have HN:=aI hn;have HM:=aI hm
 have HBD:=aI (fun (k:Nat)=>eqL_bad (p:=Sx.eqD) (a:=xs) (b:=ys) (k:=k))
 have HGD:=aI (eqL_good (p:=Sx.eqD) (a:=xs) (b:=ys))
 have HLN:=aI (eqL_len (p:=Sx.eqD) (a:=xs) (b:=ys))
 obtain ⟨q,hq⟩:=aX (Sx.eqL Sx.eqD xs ys)
 rw [hq] at HBD HGD HLN ⊢
 rw [hn] at hx ⊢
 rw [hm] at hy ⊢
 clear ha hb hn hm hq
 go_enter Tryz.func67,Tryz.ntmps67
 by_cases hnm:n=m
 ·subst hnm
  go_wp2_with fail
  go_loopg [13] n (fun r i wr=>∃ k:Nat,k+r=n/\i=.int .i64 k/\Below w.heap.size w wr/\∀ j (h1:j < xs.length) (h2:j < ys.length),j < k->Sx.eqD xs[j] ys[j]=true)
  case atStart=>exact ⟨0,by omega,rfl,Below.refl _ _,fun _ _ _ h=>by omega⟩
  case round =>
   obtain ⟨k,hk,rfl,hb,hall⟩:=hrel
   obtain ⟨wo,rfl⟩:=aY wr
   have HB:=aI hb
   have HA:=aI hall
   clear hb hall
   by_cases hlt:k < n
   ·have hkx:k < xs.length:=by rw [HN.out];exact hlt
    have hky:k < ys.length:=by rw [HM.out];exact hlt
    have k0:(0:Int)<=(k:Int):=aa _
    have k1:(k:Int) < (n:Int):=by omega
    obtain ⟨b,o,us,rfl,_,hr,hc⟩:=(HX.out.keep (Chg.of_below HB.out)).get k hkx
    obtain ⟨b2,o2,vs,rfl,_,hr2,hc2⟩:=(HY.out.keep (Chg.of_below HB.out)).get k hky
    obtain ⟨x,hxe⟩:=aX (xs[k])
    obtain ⟨y,hye⟩:=aX (ys[k])
    have HP:=aI (show Sx.eqD xs[k] ys[k]=Sx.eqD x y by rw [hxe,hye])
    rw [hxe] at hr
    rw [hye] at hr2
    obtain ⟨rfl,_⟩:=rep_rul hr
    obtain ⟨rfl,_⟩:=rep_rul hr2
    rw [show Mem.sz (Rul)=5 from rfl] at hc hc2
    obtain ⟨c0,c1,c2,c3,c4⟩:=aG5 (m:=k*5) hc
    have d0:wo.cell? ⟨b2,o2+k*5,none⟩=some (.string y.1):=hc2 0 _ rfl
    have d1:wo.cell? ⟨b2,o2+k*5+1,none⟩=some (.string y.2.1):=hc2 1 _ rfl
    have d2:wo.cell? ⟨b2,o2+k*5+2,none⟩=some (.string y.2.2.1):=hc2 2 _ rfl
    have d3:wo.cell? ⟨b2,o2+k*5+3,none⟩=some (.string y.2.2.2.1):=hc2 3 _ rfl
    have d4:wo.cell? ⟨b2,o2+k*5+4,none⟩=some (.int .i64 y.2.2.2.2):=hc2 4 _ rfl
    clear hxe hye hr hr2 hc hc2
    obtain ⟨r,hr⟩:=aX (Sx.eqD x y)
    rw [hr] at HP
    have HR:=aI (hr.symm.trans (eqD_R x y));clear hr
    have hE:=fun w=>(eqR_run x y w).trans (by rw [<-HR.out])
    go_upto_region 6 with fail
    go_region
    clear c0 d0 c1 d1 c2 d2 c3 d3 c4 d4 hE
    have HB7:=aI (HB.out.trans ((show Below wo.heap.size wo wo.drew from ⟨rfl,rfl,rfl,ag _,fun _ _=>rfl⟩).mono HB.out.size))
    cases r
    ·have HQ:=aI (HBD.out k hkx hky HP.out)
     go_wp2_with fail
     go_ret
     exact ⟨by rw [HQ.out];rfl,HB7.out⟩
    ·go_wp2_with fail
     go_roundg (gk - 1)
     case measure=>omega
     case rel =>
      refine ⟨k+1,by omega,by go_num,HB7.out,fun j h1 h2 hj=>?_⟩
      rcases aj j k with h' | h'
      ·exact HA.out j h1 h2 h'
      ·obtain rfl:j=k:=by omega
       exact HP.out
   ·have k1:¬ (k:Int) < (n:Int):=by omega
    have HQ:=aI (HGD.out (HN.out.trans HM.out.symm) fun j h1 h2=>HA.out j h1 h2 (by rw [HN.out] at h1;omega))
    go_wp2_with fail
    go_ret
    exact ⟨by rw [HQ.out];rfl,HB.out⟩
 ·have HQ:=aI (HLN.out (by rw [HN.out,HM.out];exact hnm))
  have q1:((n:Int) == (m:Int))=false:=beq_eq_false_iff_ne.2 (by omega)
  have q2:((n:Int) != (m:Int))=true:=by rw [bne,q1];rfl
  clear hnm
  go_wp2_with fail
  go_ret
  exact ⟨by rw [HQ.out];rfl,Below.refl _ _⟩
def Sx.sameL (x y:Lif):Bool:=decide (x.1=y.1) && (decide (x.2.1=y.2.1) && decide (x.2.2=y.2.2))
theorem sameL_any (x y:Lif) (us vs:List Value) (w:World) (ha:Mem.rep [] w x us) (hb:Mem.rep [] w y vs) :
  Calls Tryz.prog 64 #[.agg us.toArray,.agg vs.toArray] w (BoolP (Sx.sameL x y) w):=by
 obtain ⟨A1,cA,B1,dA,rfl,s1,s2,a1,b1,b2,e1,e2⟩:=rep_lif ha
 obtain ⟨A2,cB,B2,dB,rfl,s3,s4,a1',b1',b2',e1',e2'⟩:=rep_lif hb
 have hb1:Below w.heap.size w (w.alloc (.cells #[.string x.1,.slice A1 x.2.1.length cA,.slice B1 x.2.2.length dA] 57)):=(Below.refl _ _).alloc (ag _) _
 have hk1:Blk (w.alloc (.cells #[.string x.1,.slice A1 x.2.1.length cA,.slice B1 x.2.2.length dA] 57)) w.heap.size 57 #[.string x.1,.slice A1 x.2.1.length cA,.slice B1 x.2.2.length dA]:=Blk.new _ _ _
 obtain ⟨W1,hW1⟩:=aX (w.alloc (.cells #[.string x.1,.slice A1 x.2.1.length cA,.slice B1 x.2.2.length dA] 57))
 rw [hW1] at hb1 hk1
 have hb2:Below W1.heap.size W1 (W1.alloc (.cells #[.string y.1,.slice A2 y.2.1.length cB,.slice B2 y.2.2.length dB] 57)):=(Below.refl _ _).alloc (ag _) _
 have hk2:Blk (W1.alloc (.cells #[.string y.1,.slice A2 y.2.1.length cB,.slice B2 y.2.2.length dB] 57)) W1.heap.size 57 #[.string y.1,.slice A2 y.2.1.length cB,.slice B2 y.2.2.length dB]:=Blk.new _ _ _
 obtain ⟨W2,hW2⟩:=aX (W1.alloc (.cells #[.string y.1,.slice A2 y.2.1.length cB,.slice B2 y.2.2.length dB] 57))
 rw [hW2] at hb2 hk2
 have hk1':=hk1.below hb2 hk1.lt
 obtain ⟨Na,hNa⟩:=aX w.heap.size
 have hNb:W1.heap.size=Na+1:=by rw [<-hW1,<-hNa];simp only [World.alloc,Array.size_push]
 rw [hNa] at hk1'
 rw [hNb] at hk2
 have KA:=aI hk1';have KB:=aI hk2
 have HB:=aI (hb1.trans (hb2.mono hb1.size))
 have HW1:=aI hW1;have HW2:=aI hW2;have HNa:=aI hNa;have HNb:=aI hNb
 have C1:=aI (fun (W:World) (hb:Below w.heap.size w W)=>eqS_any x.2.1 y.2.1 A1 A2 cA cB W (s1.keep (Chg.of_below hb)) (s3.keep (Chg.of_below hb)) (ah b1 b2) (ah b1' b2'))
 have C2:=aI (fun (W:World) (hb:Below w.heap.size w W)=>eqpM_any x.2.2 y.2.2 B1 B2 dA dB W (s2.keep (Chg.of_below hb)) (s4.keep (Chg.of_below hb)) (ah e1 e2) (ah e1' e2'))
 show Calls Tryz.prog 64 #[.agg #[.string x.1,.slice A1 x.2.1.length cA,.slice B1 x.2.2.length dA],.agg #[.string y.1,.slice A2 y.2.1.length cB,.slice B2 y.2.2.length dB]] w _
 obtain ⟨r0,h0⟩:∃ r,decide (x.1=y.1)=r:=⟨_,rfl⟩
 have q0:((x.1).toList == (y.1).toList)=r0:=by rw [<-h0];exact strEqB _ _
 obtain ⟨r1,h1⟩:∃ r,decide (x.2.1=y.2.1)=r:=⟨_,rfl⟩
 rw [h1] at C1
 obtain ⟨r2,h2⟩:∃ r,decide (x.2.2=y.2.2)=r:=⟨_,rfl⟩
 rw [h2] at C2
 have HF:=aI (show Sx.sameL x y=(r0 && (r1 && (r2))) by unfold Sx.sameL;rw [h0,h1,h2])
 generalize Sx.sameL x y=sf at *
 clear ha hb hb1 hb2 hk1 hk2 hk1' hW1 hW2 hNa hNb h0 h1 h2 s1 s2 s3 s4 a1 b1 b2 e1 e2 a1' b1' b2' e1' e2'
 go_enter Tryz.func64,Tryz.ntmps64
 go_upto_region 1 with fail
 rw [HW1.out,HW2.out]
 (try rw [HNa.out])
 (try rw [HNb.out])
 have ka:=KA.out;have kb:=KB.out;have z0:=ka.cell 0;have y0:=kb.cell 0;have z1:=ka.cell 1;have y1:=kb.cell 1;have z2:=ka.cell 2;have y2:=kb.cell 2;simp at z0 y0 z1 y1 z2 y2;clear ka kb
 cases r0
 ·go_wp2_with (first | (go_at_call 65;(with_reducible refine (C1.out _ HB.out).mono ?_);rintro e w2 ⟨rfl,hb2⟩;replace KA:=aI (KA.out.below hb2 KA.out.lt);replace KB:=aI (KB.out.below hb2 KB.out.lt);replace HB:=aT HB hb2;clear z0 y0 z1 y1 z2 y2 hb2;have ka:=KA.out;have kb:=KB.out;have z0:=ka.cell 0;have y0:=kb.cell 0;have z1:=ka.cell 1;have y1:=kb.cell 1;have z2:=ka.cell 2;have y2:=kb.cell 2;simp at z0 y0 z1 y1 z2 y2;clear ka kb) | (go_at_call 66;(with_reducible refine (C2.out _ HB.out).mono ?_);rintro e w2 ⟨rfl,hb2⟩;replace KA:=aI (KA.out.below hb2 KA.out.lt);replace KB:=aI (KB.out.below hb2 KB.out.lt);replace HB:=aT HB hb2;clear z0 y0 z1 y1 z2 y2 hb2;have ka:=KA.out;have kb:=KB.out;have z0:=ka.cell 0;have y0:=kb.cell 0;have z1:=ka.cell 1;have y1:=kb.cell 1;have z2:=ka.cell 2;have y2:=kb.cell 2;simp at z0 y0 z1 y1 z2 y2;clear ka kb))
  go_ret
  exact ⟨by rw [HF.out];rfl,HB.out⟩
 cases r1
 ·go_wp2_with (first | (go_at_call 65;(with_reducible refine (C1.out _ HB.out).mono ?_);rintro e w2 ⟨rfl,hb2⟩;replace KA:=aI (KA.out.below hb2 KA.out.lt);replace KB:=aI (KB.out.below hb2 KB.out.lt);replace HB:=aT HB hb2;clear z0 y0 z1 y1 z2 y2 hb2;have ka:=KA.out;have kb:=KB.out;have z0:=ka.cell 0;have y0:=kb.cell 0;have z1:=ka.cell 1;have y1:=kb.cell 1;have z2:=ka.cell 2;have y2:=kb.cell 2;simp at z0 y0 z1 y1 z2 y2;clear ka kb) | (go_at_call 66;(with_reducible refine (C2.out _ HB.out).mono ?_);rintro e w2 ⟨rfl,hb2⟩;replace KA:=aI (KA.out.below hb2 KA.out.lt);replace KB:=aI (KB.out.below hb2 KB.out.lt);replace HB:=aT HB hb2;clear z0 y0 z1 y1 z2 y2 hb2;have ka:=KA.out;have kb:=KB.out;have z0:=ka.cell 0;have y0:=kb.cell 0;have z1:=ka.cell 1;have y1:=kb.cell 1;have z2:=ka.cell 2;have y2:=kb.cell 2;simp at z0 y0 z1 y1 z2 y2;clear ka kb))
  go_ret
  exact ⟨by rw [HF.out];rfl,HB.out⟩
 go_wp2_with (first | (go_at_call 65;(with_reducible refine (C1.out _ HB.out).mono ?_);rintro e w2 ⟨rfl,hb2⟩;replace KA:=aI (KA.out.below hb2 KA.out.lt);replace KB:=aI (KB.out.below hb2 KB.out.lt);replace HB:=aT HB hb2;clear z0 y0 z1 y1 z2 y2 hb2;have ka:=KA.out;have kb:=KB.out;have z0:=ka.cell 0;have y0:=kb.cell 0;have z1:=ka.cell 1;have y1:=kb.cell 1;have z2:=ka.cell 2;have y2:=kb.cell 2;simp at z0 y0 z1 y1 z2 y2;clear ka kb) | (go_at_call 66;(with_reducible refine (C2.out _ HB.out).mono ?_);rintro e w2 ⟨rfl,hb2⟩;replace KA:=aI (KA.out.below hb2 KA.out.lt);replace KB:=aI (KB.out.below hb2 KB.out.lt);replace HB:=aT HB hb2;clear z0 y0 z1 y1 z2 y2 hb2;have ka:=KA.out;have kb:=KB.out;have z0:=ka.cell 0;have y0:=kb.cell 0;have z1:=ka.cell 1;have y1:=kb.cell 1;have z2:=ka.cell 2;have y2:=kb.cell 2;simp at z0 y0 z1 y1 z2 y2;clear ka kb))
 go_ret
 exact ⟨by rw [HF.out];cases r2 <;> rfl,HB.out⟩
def rtEL:Value:=.func (.func 64) #[] #[]
theorem eqL_any (xs ys:List (Lif)) (A B:Option Addr) (c d:Nat) (w:World) (ha:SlAt [] w A xs) (hb:SlAt [] w B ys) (hx:xs.length<=9223372036854775807) (hy:ys.length<=9223372036854775807) :
  Calls Tryz.prog 63 #[.slice A xs.length c,.slice B ys.length d,rtEL] w (BoolP (Sx.eqL Sx.sameL xs ys) w):=by
 obtain ⟨n,hn⟩:=aX xs.length
 obtain ⟨m,hm⟩:=aX ys.length
 have HX:=aI ha;have HY:=aI hb
 have HN:=aI hn;have HM:=aI hm
 have HBD:=aI (fun (k:Nat)=>eqL_bad (p:=Sx.sameL) (a:=xs) (b:=ys) (k:=k))
 have HGD:=aI (eqL_good (p:=Sx.sameL) (a:=xs) (b:=ys))
 have HLN:=aI (eqL_len (p:=Sx.sameL) (a:=xs) (b:=ys))
 obtain ⟨q,hq⟩:=aX (Sx.eqL Sx.sameL xs ys)
 rw [hq] at HBD HGD HLN ⊢
 rw [hn] at hx ⊢
 rw [hm] at hy ⊢
 unfold rtEL
 clear ha hb hn hm hq
 go_enter Tryz.func63,Tryz.ntmps63
 by_cases hnm:n=m
 ·subst hnm
  go_wp2_with fail
  go_loopg [17] n (fun r i wr=>∃ k:Nat,k+r=n/\i=.int .i64 k/\Below w.heap.size w wr/\∀ j (h1:j < xs.length) (h2:j < ys.length),j < k->Sx.sameL xs[j] ys[j]=true)
  case atStart=>exact ⟨0,by omega,rfl,Below.refl _ _,fun _ _ _ h=>by omega⟩
  case round =>
   obtain ⟨k,hk,rfl,hb,hall⟩:=hrel
   obtain ⟨wo,rfl⟩:=aY wr
   have HB:=aI hb
   have HA:=aI hall
   clear hb hall
   by_cases hlt:k < n
   ·have hkx:k < xs.length:=by rw [HN.out];exact hlt
    have hky:k < ys.length:=by rw [HM.out];exact hlt
    have k0:(0:Int)<=(k:Int):=aa _
    have k1:(k:Int) < (n:Int):=by omega
    obtain ⟨b,o,us,rfl,_,hr,hc⟩:=(HX.out.keep (Chg.of_below HB.out)).get k hkx
    obtain ⟨b2,o2,vs,rfl,_,hr2,hc2⟩:=(HY.out.keep (Chg.of_below HB.out)).get k hky
    obtain ⟨x,hxe⟩:=aX (xs[k])
    obtain ⟨y,hye⟩:=aX (ys[k])
    have HP:=aI (show Sx.sameL xs[k] ys[k]=Sx.sameL x y by rw [hxe,hye])
    rw [hxe] at hr
    rw [hye] at hr2
    have hr0:=hr;have hr02:=hr2
    obtain ⟨A1,cA,B1,dA,rfl,_⟩:=rep_lif hr0
    obtain ⟨A2,cB,B2,dB,rfl,_⟩:=rep_lif hr02
    rw [show Mem.sz (Lif)=3 from rfl] at hc hc2
    obtain ⟨c0,c1,c2⟩:=aG3 (m:=k*3) hc
    have d0:wo.cell? ⟨b2,o2+k*3,none⟩=some (.string y.1):=hc2 0 _ rfl
    have d1:wo.cell? ⟨b2,o2+k*3+1,none⟩=some (.slice A2 y.2.1.length cB):=hc2 1 _ rfl
    have d2:wo.cell? ⟨b2,o2+k*3+2,none⟩=some (.slice B2 y.2.2.length dB):=hc2 2 _ rfl
    have hb5:Below wo.heap.size wo (wo.alloc (.cells #[.string x.1,.slice A1 x.2.1.length cA,.slice B1 x.2.2.length dA] 57)):=(Below.refl _ _).alloc (ag _) _
    have hk5:Blk (wo.alloc (.cells #[.string x.1,.slice A1 x.2.1.length cA,.slice B1 x.2.2.length dA] 57)) wo.heap.size 57 #[.string x.1,.slice A1 x.2.1.length cA,.slice B1 x.2.2.length dA]:=Blk.new _ _ _
    have HR1:=aI (Mem.keep hr (Chg.of_below hb5));have HR2:=aI (Mem.keep hr2 (Chg.of_below hb5))
    have e0:=(hb5.cell (World.block_lt_of_cell? _ _ d0)).trans d0
    have e1:=(hb5.cell (World.block_lt_of_cell? _ _ d1)).trans d1
    have e2:=(hb5.cell (World.block_lt_of_cell? _ _ d2)).trans d2
    obtain ⟨Nx,hNx⟩:=aX wo.heap.size
    have HB5:=aI (HB.out.trans (hb5.mono HB.out.size))
    have HK5:=aI hk5
    clear hxe hye hr hr2 hr0 hr02 hc hc2 hb5 hk5
    go_upto_region 6 with fail
    generalize wo.alloc (.cells #[.string x.1,.slice A1 x.2.1.length cA,.slice B1 x.2.2.length dA] 57)=w5 at *
    rw [hNx] at HK5
    clear hNx c0 c1 c2 d0 d1 d2
    have hb6:Below w5.heap.size w5 (w5.alloc (.cells #[.string y.1,.slice A2 y.2.1.length cB,.slice B2 y.2.2.length dB] 57)):=(Below.refl _ _).alloc (ag _) _
    have HK6:=aI (show Blk (w5.alloc (.cells #[.string y.1,.slice A2 y.2.1.length cB,.slice B2 y.2.2.length dB] 57)) w5.heap.size 57 #[.string y.1,.slice A2 y.2.1.length cB,.slice B2 y.2.2.length dB] from Blk.new _ _ _)
    have HK7:=aI (HK5.out.below hb6 HK5.out.lt)
    have CE:=aI (sameL_any x y _ _ _ (Mem.keep HR1.out (Chg.of_below hb6)) (Mem.keep HR2.out (Chg.of_below hb6)))
    have HB6:=aI (HB5.out.trans (hb6.mono HB5.out.size))
    obtain ⟨Ny,hNy⟩:=aX w5.heap.size
    clear hb6 HR1 HR2
    go_upto_region 7 with fail
    generalize w5.alloc (.cells #[.string y.1,.slice A2 y.2.1.length cB,.slice B2 y.2.2.length dB] 57)=w6 at *
    rw [hNy] at HK6
    clear hNy e0 e1 e2
    have hk7:=HK7.out;have hk6:=HK6.out
    obtain ⟨z0,z1,z2⟩:=aN3 hk7.cell;simp at z0 z1 z2;obtain ⟨y0,y1,y2⟩:=aN3 hk6.cell;simp at y0 y1 y2
    clear hk7 hk6
    obtain ⟨r,hr⟩:=aX (Sx.sameL x y)
    rw [hr] at CE HP
    clear hr
    replace CE:=aI (show Calls Tryz.prog 64 #[.agg #[.string x.1,.slice A1 x.2.1.length cA,.slice B1 x.2.2.length dA],.agg #[.string y.1,.slice A2 y.2.1.length cB,.slice B2 y.2.2.length dB]] w6 (BoolP r w6) from CE.out)
    cases r
    ·have HQ:=aI (HBD.out k hkx hky HP.out)
     go_wp2_with (go_at_call 64;(with_reducible refine (CE.out).mono ?_);rintro e w7 ⟨rfl,hb7⟩;have HB7:=aI (HB6.out.trans (hb7.mono HB6.out.size));clear hb7)
     go_ret
     exact ⟨by rw [HQ.out];rfl,HB7.out⟩
    ·go_wp2_with (go_at_call 64;(with_reducible refine (CE.out).mono ?_);rintro e w7 ⟨rfl,hb7⟩;have HB7:=aI (HB6.out.trans (hb7.mono HB6.out.size));clear hb7)
     go_roundg (gk - 1)
     case measure=>omega
     case rel =>
      refine ⟨k+1,by omega,by go_num,HB7.out,fun j h1 h2 hj=>?_⟩
      rcases aj j k with h' | h'
      ·exact HA.out j h1 h2 h'
      ·obtain rfl:j=k:=by omega
       exact HP.out
   ·have k1:¬ (k:Int) < (n:Int):=by omega
    have HQ:=aI (HGD.out (HN.out.trans HM.out.symm) fun j h1 h2=>HA.out j h1 h2 (by rw [HN.out] at h1;omega))
    go_wp2_with fail
    go_ret
    exact ⟨by rw [HQ.out];rfl,HB.out⟩
 ·have HQ:=aI (HLN.out (by rw [HN.out,HM.out];exact hnm))
  have q1:((n:Int) == (m:Int))=false:=beq_eq_false_iff_ne.2 (by omega)
  have q2:((n:Int) != (m:Int))=true:=by rw [bne,q1];rfl
  clear hnm
  go_wp2_with fail
  go_ret
  exact ⟨by rw [HQ.out];rfl,Below.refl _ _⟩
def Sx.sameX (x y:Sch):Bool:=decide (x.1=y.1) && (Sx.eqL Sx.sameK (Sc.kinds x) (Sc.kinds y) && (Sx.eqL Sx.sameL x.2.2.1 y.2.2.1 && decide (x.2.2.2=y.2.2.2)))
theorem Sx.sameF_iff (x y:Fld):Sx.sameF x y=true↔x=y:=by
 unfold Sx.sameF
 simp only [Bool.and_eq_true,decide_eq_true_eq]
 obtain ⟨x1,x2,x3,x4,x5,x6,x7,x8⟩:=x
 obtain ⟨y1,y2,y3,y4,y5,y6,y7,y8⟩:=y
 constructor
 ·rintro ⟨h1,h2,h3,h4,h5,h6,h7,h8⟩
  cases h1;cases h2;cases h3;cases h4;cases h5;cases h6;cases h7;cases h8;rfl
 ·intro h;cases h;exact ⟨rfl,rfl,rfl,rfl,rfl,rfl,rfl,rfl⟩
theorem Sx.sameK_iff (x y:Knd):Sx.sameK x y=true↔x=y:=by
 unfold Sx.sameK
 simp only [Bool.and_eq_true,decide_eq_true_eq,eqL_iff Sx.sameF_iff]
 obtain ⟨x1,x2,x3,x4⟩:=x
 obtain ⟨y1,y2,y3,y4⟩:=y
 constructor
 ·rintro ⟨h1,h2,h3,h4⟩
  cases h1;cases h2;cases h3;cases h4;rfl
 ·intro h;cases h;exact ⟨rfl,rfl,rfl,rfl⟩
theorem Sx.sameL_iff (x y:Lif):Sx.sameL x y=true↔x=y:=by
 unfold Sx.sameL
 simp only [Bool.and_eq_true,decide_eq_true_eq]
 obtain ⟨x1,x2,x3⟩:=x
 obtain ⟨y1,y2,y3⟩:=y
 constructor
 ·rintro ⟨h1,h2,h3⟩
  cases h1;cases h2;cases h3;rfl
 ·intro h;cases h;exact ⟨rfl,rfl,rfl⟩
theorem Sx.sameX_iff (x y:Sch):Sx.sameX x y=true↔x=y:=by
 unfold Sx.sameX
 simp only [Bool.and_eq_true,decide_eq_true_eq,eqL_iff Sx.sameK_iff,eqL_iff Sx.sameL_iff]
 obtain ⟨x1,x2,x3,x4⟩:=x
 obtain ⟨y1,y2,y3,y4⟩:=y
 constructor
 ·rintro ⟨h1,h2,h3,h4⟩
  cases h1;cases h2;cases h3;cases h4;rfl
 ·intro h;cases h;exact ⟨rfl,rfl,rfl,rfl⟩
theorem same_schemas (x y:Sch) (us vs:List Value) (w:World) (ha:Mem.rep [] w x us) (hb:Mem.rep [] w y vs) :
  Calls Tryz.prog 19 #[.agg us.toArray,.agg vs.toArray] w (BoolP (Sx.sameX x y) w):=by
 obtain ⟨A1,cA,B1,dA,G1,fA,rfl,s1,s2,s3,a1,b1,b2,b3,b4,b5,b6⟩:=rep_sch ha
 obtain ⟨A2,cB,B2,dB,G2,fB,rfl,t1,t2,t3,a1',b1',b2',b3',b4',b5',b6'⟩:=rep_sch hb
 have hb1:Below w.heap.size w (w.alloc (.cells #[.int .i64 x.1,.slice A1 (Sc.kinds x).length cA,.slice B1 x.2.2.1.length dA,.slice G1 x.2.2.2.length fA] 27)):=(Below.refl _ _).alloc (ag _) _
 have hk1:Blk (w.alloc (.cells #[.int .i64 x.1,.slice A1 (Sc.kinds x).length cA,.slice B1 x.2.2.1.length dA,.slice G1 x.2.2.2.length fA] 27)) w.heap.size 27 #[.int .i64 x.1,.slice A1 (Sc.kinds x).length cA,.slice B1 x.2.2.1.length dA,.slice G1 x.2.2.2.length fA]:=Blk.new _ _ _
 obtain ⟨W1,hW1⟩:=aX (w.alloc (.cells #[.int .i64 x.1,.slice A1 (Sc.kinds x).length cA,.slice B1 x.2.2.1.length dA,.slice G1 x.2.2.2.length fA] 27))
 rw [hW1] at hb1 hk1
 have hb2:Below W1.heap.size W1 (W1.alloc (.cells #[.int .i64 y.1,.slice A2 (Sc.kinds y).length cB,.slice B2 y.2.2.1.length dB,.slice G2 y.2.2.2.length fB] 27)):=(Below.refl _ _).alloc (ag _) _
 have hk2:Blk (W1.alloc (.cells #[.int .i64 y.1,.slice A2 (Sc.kinds y).length cB,.slice B2 y.2.2.1.length dB,.slice G2 y.2.2.2.length fB] 27)) W1.heap.size 27 #[.int .i64 y.1,.slice A2 (Sc.kinds y).length cB,.slice B2 y.2.2.1.length dB,.slice G2 y.2.2.2.length fB]:=Blk.new _ _ _
 obtain ⟨W2,hW2⟩:=aX (W1.alloc (.cells #[.int .i64 y.1,.slice A2 (Sc.kinds y).length cB,.slice B2 y.2.2.1.length dB,.slice G2 y.2.2.2.length fB] 27))
 rw [hW2] at hb2 hk2
 have hk1':=hk1.below hb2 hk1.lt
 obtain ⟨Na,hNa⟩:=aX w.heap.size
 have hNb:W1.heap.size=Na+1:=by rw [<-hW1,<-hNa];simp only [World.alloc,Array.size_push]
 rw [hNa] at hk1'
 rw [hNb] at hk2
 have KA:=aI hk1';have KB:=aI hk2
 have HB:=aI (hb1.trans (hb2.mono hb1.size))
 have HW1:=aI hW1;have HW2:=aI hW2;have HNa:=aI hNa;have HNb:=aI hNb
 have C1:=aI (fun (W:World) (hb:Below w.heap.size w W)=>eqK_any (Sc.kinds x) (Sc.kinds y) A1 A2 cA cB W (s1.keep (Chg.of_below hb)) (t1.keep (Chg.of_below hb)) (ah b1 b2) (ah b1' b2'))
 unfold rtEK at C1
 have C2:=aI (fun (W:World) (hb:Below w.heap.size w W)=>eqL_any x.2.2.1 y.2.2.1 B1 B2 dA dB W (s2.keep (Chg.of_below hb)) (t2.keep (Chg.of_below hb)) (ah b3 b4) (ah b3' b4'))
 unfold rtEL at C2
 have C3:=aI (fun (W:World) (hb:Below w.heap.size w W)=>eqpR_any x.2.2.2 y.2.2.2 G1 G2 fA fB W (s3.keep (Chg.of_below hb)) (t3.keep (Chg.of_below hb)) (ah b5 b6) (ah b5' b6'))
 show Calls Tryz.prog 19 #[.agg #[.int .i64 x.1,.slice A1 (Sc.kinds x).length cA,.slice B1 x.2.2.1.length dA,.slice G1 x.2.2.2.length fA],.agg #[.int .i64 y.1,.slice A2 (Sc.kinds y).length cB,.slice B2 y.2.2.1.length dB,.slice G2 y.2.2.2.length fB]] w _
 obtain ⟨r0,h0⟩:∃ r,decide (x.1=y.1)=r:=⟨_,rfl⟩
 have q0:(x.1 == y.1)=r0:=by rw [<-h0];exact intEqB _ _
 obtain ⟨r1,h1⟩:=aX (Sx.eqL Sx.sameK (Sc.kinds x) (Sc.kinds y))
 rw [h1] at C1
 obtain ⟨r2,h2⟩:=aX (Sx.eqL Sx.sameL x.2.2.1 y.2.2.1)
 rw [h2] at C2
 obtain ⟨r3,h3⟩:∃ r,decide (x.2.2.2=y.2.2.2)=r:=⟨_,rfl⟩
 rw [h3] at C3
 have HF:=aI (show Sx.sameX x y=(r0 && (r1 && (r2 && (r3)))) by unfold Sx.sameX;rw [h0,h1,h2,h3])
 generalize Sx.sameX x y=sf at *
 clear ha hb hb1 hb2 hk1 hk2 hk1' hW1 hW2 hNa hNb h0 h1 h2 h3 s1 s2 s3 t1 t2 t3 a1 b1 b2 b3 b4 b5 b6 a1' b1' b2' b3' b4' b5' b6'
 go_enter Tryz.func19,Tryz.ntmps19
 go_upto_region 1 with fail
 rw [HW1.out,HW2.out]
 (try rw [HNa.out])
 (try rw [HNb.out])
 have ka:=KA.out;have kb:=KB.out;have z0:=ka.cell 0;have y0:=kb.cell 0;have z1:=ka.cell 1;have y1:=kb.cell 1;have z2:=ka.cell 2;have y2:=kb.cell 2;have z3:=ka.cell 3;have y3:=kb.cell 3;simp at z0 y0 z1 y1 z2 y2 z3 y3;clear ka kb
 cases r0
 ·go_wp2_with (first | (go_at_call 59;(with_reducible refine (C1.out _ HB.out).mono ?_);rintro e w2 ⟨rfl,hb2⟩;replace KA:=aI (KA.out.below hb2 KA.out.lt);replace KB:=aI (KB.out.below hb2 KB.out.lt);replace HB:=aT HB hb2;clear z0 y0 z1 y1 z2 y2 z3 y3 hb2;have ka:=KA.out;have kb:=KB.out;have z0:=ka.cell 0;have y0:=kb.cell 0;have z1:=ka.cell 1;have y1:=kb.cell 1;have z2:=ka.cell 2;have y2:=kb.cell 2;have z3:=ka.cell 3;have y3:=kb.cell 3;simp at z0 y0 z1 y1 z2 y2 z3 y3;clear ka kb) | (go_at_call 63;(with_reducible refine (C2.out _ HB.out).mono ?_);rintro e w2 ⟨rfl,hb2⟩;replace KA:=aI (KA.out.below hb2 KA.out.lt);replace KB:=aI (KB.out.below hb2 KB.out.lt);replace HB:=aT HB hb2;clear z0 y0 z1 y1 z2 y2 z3 y3 hb2;have ka:=KA.out;have kb:=KB.out;have z0:=ka.cell 0;have y0:=kb.cell 0;have z1:=ka.cell 1;have y1:=kb.cell 1;have z2:=ka.cell 2;have y2:=kb.cell 2;have z3:=ka.cell 3;have y3:=kb.cell 3;simp at z0 y0 z1 y1 z2 y2 z3 y3;clear ka kb) | (go_at_call 67;(with_reducible refine (C3.out _ HB.out).mono ?_);rintro e w2 ⟨rfl,hb2⟩;replace KA:=aI (KA.out.below hb2 KA.out.lt);replace KB:=aI (KB.out.below hb2 KB.out.lt);replace HB:=aT HB hb2;clear z0 y0 z1 y1 z2 y2 z3 y3 hb2;have ka:=KA.out;have kb:=KB.out;have z0:=ka.cell 0;have y0:=kb.cell 0;have z1:=ka.cell 1;have y1:=kb.cell 1;have z2:=ka.cell 2;have y2:=kb.cell 2;have z3:=ka.cell 3;have y3:=kb.cell 3;simp at z0 y0 z1 y1 z2 y2 z3 y3;clear ka kb))
  go_ret
  exact ⟨by rw [HF.out];rfl,HB.out⟩
 cases r1
 ·go_wp2_with (first | (go_at_call 59;(with_reducible refine (C1.out _ HB.out).mono ?_);rintro e w2 ⟨rfl,hb2⟩;replace KA:=aI (KA.out.below hb2 KA.out.lt);replace KB:=aI (KB.out.below hb2 KB.out.lt);replace HB:=aT HB hb2;clear z0 y0 z1 y1 z2 y2 z3 y3 hb2;have ka:=KA.out;have kb:=KB.out;have z0:=ka.cell 0;have y0:=kb.cell 0;have z1:=ka.cell 1;have y1:=kb.cell 1;have z2:=ka.cell 2;have y2:=kb.cell 2;have z3:=ka.cell 3;have y3:=kb.cell 3;simp at z0 y0 z1 y1 z2 y2 z3 y3;clear ka kb) | (go_at_call 63;(with_reducible refine (C2.out _ HB.out).mono ?_);rintro e w2 ⟨rfl,hb2⟩;replace KA:=aI (KA.out.below hb2 KA.out.lt);replace KB:=aI (KB.out.below hb2 KB.out.lt);replace HB:=aT HB hb2;clear z0 y0 z1 y1 z2 y2 z3 y3 hb2;have ka:=KA.out;have kb:=KB.out;have z0:=ka.cell 0;have y0:=kb.cell 0;have z1:=ka.cell 1;have y1:=kb.cell 1;have z2:=ka.cell 2;have y2:=kb.cell 2;have z3:=ka.cell 3;have y3:=kb.cell 3;simp at z0 y0 z1 y1 z2 y2 z3 y3;clear ka kb) | (go_at_call 67;(with_reducible refine (C3.out _ HB.out).mono ?_);rintro e w2 ⟨rfl,hb2⟩;replace KA:=aI (KA.out.below hb2 KA.out.lt);replace KB:=aI (KB.out.below hb2 KB.out.lt);replace HB:=aT HB hb2;clear z0 y0 z1 y1 z2 y2 z3 y3 hb2;have ka:=KA.out;have kb:=KB.out;have z0:=ka.cell 0;have y0:=kb.cell 0;have z1:=ka.cell 1;have y1:=kb.cell 1;have z2:=ka.cell 2;have y2:=kb.cell 2;have z3:=ka.cell 3;have y3:=kb.cell 3;simp at z0 y0 z1 y1 z2 y2 z3 y3;clear ka kb))
  go_ret
  exact ⟨by rw [HF.out];rfl,HB.out⟩
 cases r2
 ·go_wp2_with (first | (go_at_call 59;(with_reducible refine (C1.out _ HB.out).mono ?_);rintro e w2 ⟨rfl,hb2⟩;replace KA:=aI (KA.out.below hb2 KA.out.lt);replace KB:=aI (KB.out.below hb2 KB.out.lt);replace HB:=aT HB hb2;clear z0 y0 z1 y1 z2 y2 z3 y3 hb2;have ka:=KA.out;have kb:=KB.out;have z0:=ka.cell 0;have y0:=kb.cell 0;have z1:=ka.cell 1;have y1:=kb.cell 1;have z2:=ka.cell 2;have y2:=kb.cell 2;have z3:=ka.cell 3;have y3:=kb.cell 3;simp at z0 y0 z1 y1 z2 y2 z3 y3;clear ka kb) | (go_at_call 63;(with_reducible refine (C2.out _ HB.out).mono ?_);rintro e w2 ⟨rfl,hb2⟩;replace KA:=aI (KA.out.below hb2 KA.out.lt);replace KB:=aI (KB.out.below hb2 KB.out.lt);replace HB:=aT HB hb2;clear z0 y0 z1 y1 z2 y2 z3 y3 hb2;have ka:=KA.out;have kb:=KB.out;have z0:=ka.cell 0;have y0:=kb.cell 0;have z1:=ka.cell 1;have y1:=kb.cell 1;have z2:=ka.cell 2;have y2:=kb.cell 2;have z3:=ka.cell 3;have y3:=kb.cell 3;simp at z0 y0 z1 y1 z2 y2 z3 y3;clear ka kb) | (go_at_call 67;(with_reducible refine (C3.out _ HB.out).mono ?_);rintro e w2 ⟨rfl,hb2⟩;replace KA:=aI (KA.out.below hb2 KA.out.lt);replace KB:=aI (KB.out.below hb2 KB.out.lt);replace HB:=aT HB hb2;clear z0 y0 z1 y1 z2 y2 z3 y3 hb2;have ka:=KA.out;have kb:=KB.out;have z0:=ka.cell 0;have y0:=kb.cell 0;have z1:=ka.cell 1;have y1:=kb.cell 1;have z2:=ka.cell 2;have y2:=kb.cell 2;have z3:=ka.cell 3;have y3:=kb.cell 3;simp at z0 y0 z1 y1 z2 y2 z3 y3;clear ka kb))
  go_ret
  exact ⟨by rw [HF.out];rfl,HB.out⟩
 go_wp2_with (first | (go_at_call 59;(with_reducible refine (C1.out _ HB.out).mono ?_);rintro e w2 ⟨rfl,hb2⟩;replace KA:=aI (KA.out.below hb2 KA.out.lt);replace KB:=aI (KB.out.below hb2 KB.out.lt);replace HB:=aT HB hb2;clear z0 y0 z1 y1 z2 y2 z3 y3 hb2;have ka:=KA.out;have kb:=KB.out;have z0:=ka.cell 0;have y0:=kb.cell 0;have z1:=ka.cell 1;have y1:=kb.cell 1;have z2:=ka.cell 2;have y2:=kb.cell 2;have z3:=ka.cell 3;have y3:=kb.cell 3;simp at z0 y0 z1 y1 z2 y2 z3 y3;clear ka kb) | (go_at_call 63;(with_reducible refine (C2.out _ HB.out).mono ?_);rintro e w2 ⟨rfl,hb2⟩;replace KA:=aI (KA.out.below hb2 KA.out.lt);replace KB:=aI (KB.out.below hb2 KB.out.lt);replace HB:=aT HB hb2;clear z0 y0 z1 y1 z2 y2 z3 y3 hb2;have ka:=KA.out;have kb:=KB.out;have z0:=ka.cell 0;have y0:=kb.cell 0;have z1:=ka.cell 1;have y1:=kb.cell 1;have z2:=ka.cell 2;have y2:=kb.cell 2;have z3:=ka.cell 3;have y3:=kb.cell 3;simp at z0 y0 z1 y1 z2 y2 z3 y3;clear ka kb) | (go_at_call 67;(with_reducible refine (C3.out _ HB.out).mono ?_);rintro e w2 ⟨rfl,hb2⟩;replace KA:=aI (KA.out.below hb2 KA.out.lt);replace KB:=aI (KB.out.below hb2 KB.out.lt);replace HB:=aT HB hb2;clear z0 y0 z1 y1 z2 y2 z3 y3 hb2;have ka:=KA.out;have kb:=KB.out;have z0:=ka.cell 0;have y0:=kb.cell 0;have z1:=ka.cell 1;have y1:=kb.cell 1;have z2:=ka.cell 2;have y2:=kb.cell 2;have z3:=ka.cell 3;have y3:=kb.cell 3;simp at z0 y0 z1 y1 z2 y2 z3 y3;clear ka kb))
 go_ret
 exact ⟨by rw [HF.out];cases r3 <;> rfl,HB.out⟩
theorem Sx.same_enc {x y:Sch} (hx:Sx.EI x) (hy:Sx.EI y):Sx.sameX x y=decide (Sx.enc x=Sx.enc y):=by
 by_cases h:x=y
 ·subst h;rw [(Sx.sameX_iff _ _).2 rfl];simp
 ·rw [Bool.eq_false_iff.2 (fun e=>h ((Sx.sameX_iff _ _).1 e))];exact (ad (fun e=>h (Sx.enc_inj hx hy e))).symm
theorem beq_bytes (a b:ByteArray):(a == b)=decide (a=b):=by
 have:(a == b)=(a.data == b.data):=rfl
 rw [this]
 by_cases h:a=b
 ·simp [h]
 ·have:a.data≠b.data:=fun e=>h (by cases a;cases b;simp_all)
  simp [h,this]
theorem lists_beq (a b:ByteArray):(a.toList == b.toList)=decide (a=b):=by
 rw [Lib.toList_data,Lib.toList_data,<-beq_bytes]
 have:(a == b)=(a.data == b.data):=rfl
 rw [this]
 by_cases h:a.data=b.data
 ·simp [h]
 ·have h2:a.data.toList≠b.data.toList:=fun e=>h (Array.toList_inj.1 e)
  rw [beq_eq_false_iff_ne.2 h,beq_eq_false_iff_ne.2 h2]
theorem Sx.same_print {x y:Sch} (hx:Sx.valid x=0) (hy:Sx.valid y=0):((⟨(Sx.print x).toArray⟩:ByteArray) == ⟨(Sx.print y).toArray⟩)=Sx.sameX x y:=by
 rw [beq_bytes]
 by_cases h:x=y
 ·subst h;rw [(Sx.sameX_iff _ _).2 rfl];simp
 ·rw [Bool.eq_false_iff.2 (fun e=>h ((Sx.sameX_iff _ _).1 e))]
  refine ad fun e=>?_
  have e2:Sx.print x=Sx.print y:=by
   have:=congrArg (fun x:ByteArray=>x.data.toList) e
   simpa using this
  have e3:=Sx.parse_print hx
  rw [e2,Sx.parse_print hy] at e3
  exact h (congrArg Prod.fst e3).symm
theorem Sx.enc_take (x:Sch):(Sx.enc x).take (En.int x.1).length=En.int x.1:=by
 unfold Sx.enc
 simp only [List.append_assoc]
 rw [List.take_left]
theorem Sx.enc_ge (x:Sch):(En.int x.1).length<=(Sx.enc x).length:=by
 unfold Sx.enc
 simp only [List.append_assoc,aK]
 omega
theorem bytes_form {w:World} {base:Nat} {v:Value} {l:List UInt8} (h:w.ownsRow base 5 1 v l.length (byteVals l)) (h0:0 < l.length):∃ g c,v=.slice (some ⟨g,0,none⟩) l.length c/\l.length<=c/\c<=9223372036854775807/\SlAt [] w (some ⟨g,0,none⟩) l:=by
 obtain ⟨A,c,hv,h1,h2,hs⟩:=rep_bytes (l:=l) ⟨base,h⟩
 injection hv with hv _
 subst hv
 obtain ⟨g,rfl,-⟩:=owns_cell h h0
 exact ⟨g,c,rfl,h1,h2,hs⟩
theorem law_equal (l m:List Int) (A B:Option Addr) (c d:Nat) (at_ how by_:Int) (w:World) (he:SEnv w) (hk:KEnv w) (hl:SlAt [] w A l) (hm:SlAt [] w B m) (hc:l.length<=c) (hc2:c<=9223372036854775807) (hd:m.length<=d) (hd2:d<=9223372036854775807) (h1:inI at_) (h2:inI how) (h3:inI by_) :
  Calls Tryz.prog 4 #[.slice A l.length c,.slice B m.length d,.int .i64 at_,.int .i64 how,.int .i64 by_] w fun e w'=>e=.returned (.bool true)/\Below w.heap.size w w':=by
 have CG:=aI (gsch_any l A c w hl hc hc2)
 have CG2:=aI (fun (W:World) (h:SlAt [] W B m)=>gsch_any m B d W h hd hd2)
 have CS0:=aI (fun (x:Sch) us W (h:Mem.rep [] W x us) (OB:Sx.WB 0 x)=>spoilt_any (cb:=0) (by decide) x us W h OB at_ how by_ h1 h2 h3)
 have e8:wrap64 (by_.tdiv 2)=by_.tdiv 2:=by
  have:=tdiv_in by_ 2 h3.1 h3.2 (by omega);unfold wrap64;omega
 have CS1:=aI (fun (x:Sch) us W (h:Mem.rep [] W x us) (OB:Sx.WB 0 x)=>spoilt_any (cb:=0) (by decide) x us W h OB at_ how (by_.tdiv 2) h1 h2 (tdiv_in by_ 2 h3.1 h3.2 (by omega)))
 have HENV:=aI (fun (W:World) (h:Below w.heap.size w W)=>show SEnv W/\KEnv W from ⟨he.to h,hk.to h⟩)
 have T0:=aI ((held0 w [] (fun _ h=>by cases h)).add (keeps_sl B m) hm)
 clear hl hm hc hc2 hd hd2 h1 h2 h3
 go_enter Tryz.func4,Tryz.ntmps4
 go_upto_region 2 with (go_at_call 5;refine (CG.out).mono ?_;rintro e w1 ⟨x,A1,c1,B1,d1,C1,f1,nk,nl,nr,rfl,hv,hr,hb⟩;have HV:=aI hv;have HR:=aI hr;have HB:=aI hb;clear hv hr hb)
 have hOBx:Sx.WB 0 x:=(Sx.okB_bd (valid_ok HV.out)).wb
 have HOBx:=aI hOBx
 have T:=aI (((T0.out.below HB.out).add (keeps_rep x _) HR.out).made #[.int .i64 x.1,.slice A1 nk c1,.slice B1 nl d1,.slice C1 nr f1] 27 rfl)
 clear HB HR hOBx T0
 generalize w1.alloc (.cells #[.int .i64 x.1,.slice A1 nk c1,.slice B1 nl d1,.slice C1 nr f1] 27)=W1 at T ⊢
 generalize w1.heap.size=N9 at T ⊢
 have hb1:=below_drewS W1
 apply wp_region_typed (C:=fun w'=>Below W1.heap.size W1 w') (n:=132) (m:=14) (l1:=[_,_,_,_,_,_,_,_,_,_,_,_,_,_]) (l2:=[_,_]);rfl;rfl;kernel_rfl;rfl;kernel_rfl;exact hb1;exact aR
 iterate 2 ((apply aJ;·(intro w' hC hf;have q:=((T.out.below hC).fact (.head _)).2;obtain ⟨q0,q1,q2,q3⟩:=aN4 q.cell;simp at q0 q1 q2 q3;clear q;clear hf hC;go_wp2_with (fail);apply aO;simp only [valAt,aV];exact rfl));(try simp only [Act.put,aZ]))
 apply wpT_typed (isSx_kept (fun z=>Sx.valid z=0))
 ·intro w' hC hf;unfold Gives
  have HM:=aI ((T.out.below hC).fact (.tail _ (.tail _ (.head _))))
  clear hf hC
  go_wp2_with (go_at_call 5;refine (CG2.out _ HM.out).mono ?_;rintro e w3 ⟨z,A3,c3,B3,d3,C3,f3,n1,n2,n3,rfl,hv,hr,hb⟩;have HV3:=aI hv;have HRz:=aI hr;have HBL:=aI hb;clear hv hr hb)
  apply postT_mk rfl HBL.out;simp only [valAt,aV];exact ⟨z,[_,_,_,_],rfl,HRz.out,HV3.out⟩
 intro v22;(try simp only [Act.put,aZ])
 iterate 4 ((apply aJ;·(intro w' hC hf;have q:=((T.out.below hC).fact (.head _)).2;obtain ⟨q0,q1,q2,q3⟩:=aN4 q.cell;simp at q0 q1 q2 q3;clear q;clear hf hC;go_wp2_with (fail);apply aO;simp only [valAt,aV];exact rfl));(try simp only [Act.put,aZ]))
 apply wpT_typed (isSx_kept (Sx.WB 1))
 ·intro w' hC hf;unfold Gives
  have HR:=aI ((T.out.below hC).fact (.tail _ (.head _)))
  clear hf hC
  go_wp2_with (go_at_call 6;refine (CS0.out x _ _ HR.out HOBx.out).mono ?_;rintro e w3 ⟨z,us,rfl,hr,hOBz,hb⟩;have HRz:=aI hr;have HOBz:=aI hOBz;have HBL:=aI hb;clear hr hOBz hb)
  apply postT_mk rfl HBL.out;simp only [valAt,aV];exact ⟨z,us,rfl,HRz.out,HOBz.out⟩
 intro v27;(try simp only [Act.put,aZ])
 iterate 5 ((apply aJ;·(intro w' hC hf;have q:=((T.out.below hC).fact (.head _)).2;obtain ⟨q0,q1,q2,q3⟩:=aN4 q.cell;simp at q0 q1 q2 q3;clear q;clear hf hC;go_wp2_with (fail);apply aO;simp only [valAt,aV];exact rfl));(try simp only [Act.put,aZ]))
 apply wpT_typed (isSx_kept (Sx.WB 1))
 ·intro w' hC hf;unfold Gives
  have HR:=aI ((T.out.below hC).fact (.tail _ (.head _)))
  clear hf hC
  go_wp2_with (go_at_call 6;refine (CS1.out x _ _ HR.out HOBx.out).mono ?_;rintro e w3 ⟨z,us,rfl,hr,hOBz,hb⟩;have HRz:=aI hr;have HOBz:=aI hOBz;have HBL:=aI hb;clear hr hOBz hb)
  apply postT_mk rfl HBL.out;simp only [valAt,aV];exact ⟨z,us,rfl,HRz.out,HOBz.out⟩
 intro v33;(try simp only [Act.put,aZ])
 apply wpT_done
 intro w4 hC hall  --S4
 obtain ⟨u,us3,rfl,hru,hOBu⟩:=hall.1
 obtain ⟨z,us2,rfl,hrz,hOBz⟩:=hall.2.1
 obtain ⟨y,us1,rfl,hry,hvy⟩:=hall.2.2.1
 obtain ⟨A2,c2,B2,d2,C2,f2,rfl,-⟩:=rep_sch hry
 obtain ⟨A3,c3,B3,d3,C3,f3,rfl,-⟩:=rep_sch hrz
 obtain ⟨A4,c4,B4,d4,C4,f4,rfl,-⟩:=rep_sch hru
 have hb4:Below w4.heap.size w4 (w4.alloc (.cells #[.int .i64 x.1,.slice A1 nk c1,.slice B1 nl d1,.slice C1 nr f1,.int .i64 y.1,.slice A2 (Sc.kinds y).length c2,.slice B2 y.2.2.1.length d2,.slice C2 y.2.2.2.length f2,.int .i64 z.1,.slice A3 (Sc.kinds z).length c3,.slice B3 z.2.2.1.length d3,.slice C3 z.2.2.2.length f3,.int .i64 u.1,.slice A4 (Sc.kinds u).length c4,.slice B4 u.2.2.1.length d4,.slice C4 u.2.2.2.length f4] 27)):=(Below.refl _ _).alloc (ag _) _
 have hB:Blk (w4.alloc (.cells #[.int .i64 x.1,.slice A1 nk c1,.slice B1 nl d1,.slice C1 nr f1,.int .i64 y.1,.slice A2 (Sc.kinds y).length c2,.slice B2 y.2.2.1.length d2,.slice C2 y.2.2.2.length f2,.int .i64 z.1,.slice A3 (Sc.kinds z).length c3,.slice B3 z.2.2.1.length d3,.slice C3 z.2.2.2.length f3,.int .i64 u.1,.slice A4 (Sc.kinds u).length c4,.slice B4 u.2.2.1.length d4,.slice C4 u.2.2.2.length f4] 27)) w4.heap.size 27 #[.int .i64 x.1,.slice A1 nk c1,.slice B1 nl d1,.slice C1 nr f1,.int .i64 y.1,.slice A2 (Sc.kinds y).length c2,.slice B2 y.2.2.1.length d2,.slice C2 y.2.2.2.length f2,.int .i64 z.1,.slice A3 (Sc.kinds z).length c3,.slice B3 z.2.2.1.length d3,.slice C3 z.2.2.2.length f3,.int .i64 u.1,.slice A4 (Sc.kinds u).length c4,.slice B4 u.2.2.1.length d4,.slice C4 u.2.2.2.length f4]:=Blk.new _ _ _
 have hrx:=Mem.keep (T.out.fact (.tail _ (.head _))) (Chg.of_below hC)
 have HALL:=aI (show ∀ X∈[x,y,z,u],Sx.EI X by
  intro X hX
  simp only [List.mem_cons,List.not_mem_nil,or_false] at hX
  rcases hX with rfl | rfl | rfl | rfl
  ·exact ⟨HOBx.out.more (by decide),sch_in hrx⟩
  ·exact ⟨((Sx.okB_bd (valid_ok hvy)).wb).more (by decide),sch_in hry⟩
  ·exact ⟨hOBz.more (by decide),sch_in hrz⟩
  ·exact ⟨hOBu.more (by decide),sch_in hru⟩)
 have hsl:SlAt [] (w4.alloc (.cells #[.int .i64 x.1,.slice A1 nk c1,.slice B1 nl d1,.slice C1 nr f1,.int .i64 y.1,.slice A2 (Sc.kinds y).length c2,.slice B2 y.2.2.1.length d2,.slice C2 y.2.2.2.length f2,.int .i64 z.1,.slice A3 (Sc.kinds z).length c3,.slice B3 z.2.2.1.length d3,.slice C3 z.2.2.2.length f3,.int .i64 u.1,.slice A4 (Sc.kinds u).length c4,.slice B4 u.2.2.1.length d4,.slice C4 u.2.2.2.length f4] 27)) (some ⟨w4.heap.size,0,none⟩) [x,y,z,u]:=sl_of_blk hB ⟨[.int .i64 x.1,.slice A1 nk c1,.slice B1 nl d1,.slice C1 nr f1],_,rfl,Mem.keep hrx (Chg.of_below hb4),[.int .i64 y.1,.slice A2 (Sc.kinds y).length c2,.slice B2 y.2.2.1.length d2,.slice C2 y.2.2.2.length f2],_,rfl,Mem.keep hry (Chg.of_below hb4),[.int .i64 z.1,.slice A3 (Sc.kinds z).length c3,.slice B3 z.2.2.1.length d3,.slice C3 z.2.2.2.length f3],_,rfl,Mem.keep hrz (Chg.of_below hb4),[.int .i64 u.1,.slice A4 (Sc.kinds u).length c4,.slice B4 u.2.2.1.length d4,.slice C4 u.2.2.2.length f4],_,rfl,Mem.keep hru (Chg.of_below hb4),rfl⟩ (show 4<=maxLen by decide)
 have T5:=aI ((((T.out.below hC).below hb4).less (L':=[]) (fun _ h=>by cases h) (List.Sublist.refl _)).add (keeps_sl (some ⟨w4.heap.size,0,none⟩) [x,y,z,u]) hsl)
 have HLEN:=aI (show [x,y,z,u].length=4 from rfl)
 obtain ⟨ls,hls⟩:=aX ([x,y,z,u])
 rw [hls] at T5 HALL HLEN
 clear hB hsl hb4 hall hC hrx hry hrz hru hOBz hOBu hvy T HOBx HV hls hb1
 go_upto_region 3 with fail
 generalize (w4.alloc (.cells #[.int .i64 x.1,.slice A1 nk c1,.slice B1 nl d1,.slice C1 nr f1,.int .i64 y.1,.slice A2 (Sc.kinds y).length c2,.slice B2 y.2.2.1.length d2,.slice C2 y.2.2.2.length f2,.int .i64 z.1,.slice A3 (Sc.kinds z).length c3,.slice B3 z.2.2.1.length d3,.slice C3 z.2.2.2.length f3,.int .i64 u.1,.slice A4 (Sc.kinds u).length c4,.slice B4 u.2.2.1.length d4,.slice C4 u.2.2.2.length f4] 27))=W5 at T5 ⊢
 generalize w4.heap.size=g at T5 ⊢
 go_wp2_with fail
 rw [e8]
 clear e8
 go_loopg [13] 4 (fun r u wr=>∃ k:Nat,k+r=4/\u=.int .i64 k/\Below W5.heap.size W5 wr)
 case atStart=>exact ⟨0,by omega,rfl,Below.refl _ _⟩
 case round =>
  obtain ⟨k,hk4,rfl,hb⟩:=hrel
  obtain ⟨wo,rfl⟩:=aY wr
  obtain ⟨ok,rfl⟩:=aY gk
  have T:=aI (T5.out.below hb)
  have HB:=aI hb
  clear hb
  by_cases hlt:k < 4
  ·have k0:(0:Int)<=(k:Int):=aa _
   have k1:(k:Int) < 4:=by omega
   have hkl:k < ls.length:=by rw [HLEN.out];exact hlt
   obtain ⟨A6,B6,C6,c6,d6,f6,p6,q6,r6,hin⟩:=sch_elem (T.out.fact (.head _)) k hkl
   have hei:=HALL.out _ (List.getElem_mem hkl)
   obtain ⟨X,hX⟩:=aX (ls[k])
   rw [hX] at hin hei
   have HIN0:=aI hin
   have HEI:=aI hei
   have HENVO:=aI (fun (W:World) (h:Below wo.heap.size wo W)=>HENV.out W (T5.out.bl.trans ((HB.out.trans (h.mono HB.out.size)).mono T5.out.bl.size)))
   have CE:=aI (fun (W:World) (h:Below wo.heap.size wo W)=>show Calls Tryz.prog 12 #[.agg #[.int .i64 X.1,.slice A6 p6 c6,.slice B6 q6 d6,.slice C6 r6 f6]] W (BytesP (Sx.enc X) W) from penc_any X _ W (HIN0.out.below h).rep HEI.out.wb)
   have CD:=aI (fun (W:World) (h:Below wo.heap.size wo W)=>show Calls Tryz.prog 14 #[.agg #[.int .i64 X.1,.slice A6 p6 c6,.slice B6 q6 d6,.slice C6 r6 f6]] W fun e w'=>e=.returned (.agg (byteVals (Sha.one 9 (Sx.enc X))).toArray)/\Below W.heap.size W w' from pdig_any X _ W (HIN0.out.below h).rep HEI.out.wb (HENVO.out W h).2)
   have hvX:inI X.1:=by
    have:=HEI.out.wb.v
    unfold inI;omega
   have CI:=aI (fun (W:World)=>int_any X.1 W hvX)
   have hel:=Sx.enc_leW (ag 2) HEI.out.wb
   have htk:=Sx.enc_take X
   have hge:=Sx.enc_ge X
   have hv0:0 < (En.int X.1).length:=by unfold En.int;simp
   have HSE:=aI (fun (Y:Sch) (h:Sx.EI Y)=>Sx.same_enc HEI.out h)
   have hsz:(⟨(Sx.enc X).toArray⟩:ByteArray).size<=1000000:=by show (Sx.enc X).toArray.size<=_;rw [List.size_toArray];omega
   have CO:=aI (fun (W:World) (g:Nat) (hB:Blk W g 9 #[.string ⟨(Sx.enc X).toArray⟩]) (h2:KEnv W)=>show Calls Tryz.prog 18 #[.int .i64 9,.slice (some ⟨g,0,none⟩) 1 1] W fun e w'=>e=.returned (.agg (byteVals (Sha.one 9 (Sx.enc X))).toArray)/\Below W.heap.size W w' from of_any 9 ⟨(Sx.enc X).toArray⟩ (some ⟨g,0,none⟩) 1 W (sl_of_blk hB (flat_str (l:=[⟨(Sx.enc X).toArray⟩]) (by intro s hs;rw [List.mem_singleton] at hs;subst hs;omega)) (show 1<=maxLen by decide)) hsz h2)
   obtain ⟨E,hE⟩:=aX (Sx.enc X)
   obtain ⟨V,hV⟩:=aX (En.int X.1)
   rw [hE] at CE CD CO hel htk hge
   rw [hE] at HSE
   rw [hV] at CI htk hge hv0
   obtain ⟨D,hD⟩:=aX ((byteVals (Sha.one 9 E)).toArray)
   have heqd:∀ W:World,(Op.equalIn 10000 38 (.agg D) (.agg D)).run Tryz.prog W=.ok true W:=fun W=>by rw [<-hD];exact eqD_run _ (Sha.one_length _ _) W
   rw [hD] at CD CO
   have CSV:=aI (fun (W:World) (A7:Option Addr) (c7:Nat) (A8:Option Addr) (c8:Nat) (s7:SlAt [] W A7 V) (s8:SlAt [] W A8 V)=>show Calls Tryz.prog 11 #[.slice A7 V.length c7,.slice A8 V.length c8] W fun e w'=>e=.returned (.bool true)/\Below W.heap.size W w' by
    have:=same_any V V A7 A8 c7 c8 W s7 s8 (by omega) (by omega)
    rwa [ac rfl] at this)
   have HEL:=aI hel
   have HTK:=aI htk
   have HGE:=aI hge
   have HV0:=aI hv0
   obtain ⟨n,hn⟩:=aX E.length
   obtain ⟨mv,hmv⟩:=aX V.length
   have HN:=aI hn
   have HMV:=aI hmv
   have hlt1:decide (n < mv)=false:=ad (by omega)
   have hlt2:¬ n < mv:=by omega
   rw [hmv] at CSV
   unfold BytesP at CE CI
   rw [hn] at CE
   rw [hmv] at CI
   clear hin hei hX hE hV hD hel htk hge hv0 hsz hvX hn hmv
   obtain ⟨-,q0,q1,q2,q3⟩:=HIN0.out
   go_wp2_with (first | (go_at_call 12;refine (CE.out _ (Below.refl _ _)).mono ?_;rintro e w2 ⟨v,rfl,hown,hb⟩;have HB2:=aI hb;have HO:=aI hown;clear hb hown q0 q1 q2 q3;obtain ⟨-,q0,q1,q2,q3⟩:=HIN0.out.below HB2.out) | (go_at_call 17;refine (CI.out _).mono ?_;rintro e w3 ⟨v',rfl,hown,hb⟩;have HB3:=aI hb;have HO2:=aI hown;clear hb hown q0 q1 q2 q3))
   obtain ⟨g8,c8,rfl,hc8,hc8m,hs8⟩:=bytes_form (HN.out.symm ▸ HO.out) (by have:=HGE.out;have:=HV0.out;omega)
   obtain ⟨g9,c9,rfl,hc9,hc9m,hs9⟩:=bytes_form (HMV.out.symm ▸ HO2.out) (HV0.out)
   have HBO3:=aI (HB2.out.trans (HB3.out.mono HB2.out.size))
   have HIN:=aI (HIN0.out.below HBO3.out)
   have HS8:=aI (hs8.keep (Chg.of_below HB3.out))
   have HS9:=aI hs9
   have hob:=owns_below HO.out HB3.out
   rw [HN.out] at hob
   have HOB:=aI hob
   clear hob
   rw [HN.out] at hc8
   rw [HMV.out] at hc9
   rw [HN.out,HMV.out]
   have m0:(0:Int)<=(mv:Int):=aa _
   have m1:mv<=n:=by have:=HGE.out;have:=HN.out;have:=HMV.out;omega
   have m2:(mv:Int)<=(n:Int):=by omega
   have m3:(mv:Int)<=(c8:Int):=by omega
   clear hs8 hs9 HO HO2
   have hb1:=below_drewS w3
   apply wp_region_typed (C:=fun w'=>Below w3.heap.size w3 w') (n:=132) (m:=26) (l1:=[_,_,_,_,_,_,_,_,_,_,_,_,_,_,_,_,_,_,_,_,_,_,_,_,_,_]) (l2:=[]);rfl;rfl;kernel_rfl;rfl;kernel_rfl;exact hb1;exact aR
   iterate 21 ((apply aJ;·(intro w' hC hf;have HC:=aI hC;obtain ⟨-,q0,q1,q2,q3⟩:=HIN.out.below HC.out;clear hf hC;go_wp2_with (first | (go_at_call 11;refine (CSV.out _ _ _ _ _ (HTK.out ▸ (HS8.out.keep (Chg.of_below HC.out)).take V.length) (HS9.out.keep (Chg.of_below HC.out))).mono ?_;rintro e w2 ⟨rfl,hb2⟩) | (go_at_call 14;refine (CD.out _ (HBO3.out.trans (HC.out.mono HBO3.out.size))).mono ?_;rintro e w2 ⟨rfl,hb2⟩));apply postT_val rfl (by first | exact Below.refl _ _ | assumption);simp only [valAt,aV];exact rfl));(try simp only [Act.put,aZ]))
   ((apply aJ;·(intro w' hC hf;have hcv:=run_str_own (P:=Tryz.prog) w' 35 9 5 Tryz.underlying35 Tryz.underlying5 Tryz.underlying9 (owns_below HOB.out hC);clear hf hC;go_wp2_with fail;apply postT_val rfl (by first | exact Below.refl _ _ | assumption);simp only [valAt,aV];exact rfl));(try simp only [Act.put,aZ]))
   apply wpT_typed (slBlk_kept 1 9 #[.string ⟨E.toArray⟩])
   ·intro w' hC hf;unfold Gives;clear hf hC;go_wp2_with fail;apply postT_mk rfl (by go_grown);simp only [valAt,aV];exact ⟨_,rfl,Blk.new _ _ _⟩
   intro vsl;(try simp only [Act.put,aZ])
   ((apply aJ;·(intro w' hC hf;have HC:=aI hC;obtain ⟨gs,rfl,hbk⟩:=hf.1 rfl;have HBK:=aI hbk;clear hbk;clear hf hC;go_wp2_with (go_at_call 18;refine (CO.out _ _ HBK.out (HENVO.out _ (HBO3.out.trans (HC.out.mono HBO3.out.size))).2).mono ?_;rintro e w2 ⟨rfl,hb2⟩);apply postT_val rfl (by first | exact Below.refl _ _ | assumption);simp only [valAt,aV];exact rfl));(try simp only [Act.put,aZ]))
   iterate 2 ((apply aJ;·(intro w' hC hf;clear hf hC;go_wp2_with (fail);apply postT_val rfl (by first | exact Below.refl _ _ | assumption);simp only [valAt,aV];exact rfl));(try simp only [Act.put,aZ]))
   apply wpT_done
   intro w5 hC hall
   have HB5:=aI (HBO3.out.trans (hC.mono HBO3.out.size))
   have HIN:=aI (HIN.out.below hC)
   have HS8:=aI (HS8.out.keep (Chg.of_below hC))
   clear hC hall m0 m1 m2 m3 hb1 heqd CO CI CD CSV HOB
   go_wp2_with fail
   clear hlt1 hlt2
   go_loopg [16] 4 (fun r u wr=>∃ j:Nat,j+r=4/\u=.int .i64 j/\Below w5.heap.size w5 wr)
   case atStart=>exact ⟨0,by omega,rfl,Below.refl _ _⟩
   case round =>
    obtain ⟨j,hj4,rfl,hb⟩:=hrel
    obtain ⟨wi,rfl⟩:=aY wr
    have HBI:=aI hb
    have HIN:=aI (HIN.out.below hb)
    have HS8:=aI (HS8.out.keep (Chg.of_below hb))
    have HBW:=aI (HB5.out.trans (hb.mono HB5.out.size))
    clear hb
    by_cases hlt2:j < 4
    ·have j0:(0:Int)<=(j:Int):=aa _
     have j1:(j:Int) < 4:=by omega
     have hjl:j < ls.length:=by rw [HLEN.out];exact hlt2
     obtain ⟨A7,B7,C7,c7,d7,f7,p7,q7,r7,hjn⟩:=sch_elem ((T.out.below HBW.out).fact (.head _)) j hjl
     have hei:=HALL.out _ (List.getElem_mem hjl)
     obtain ⟨Y,hY⟩:=aX (ls[j])
     rw [hY] at hjn hei
     have HJN:=aI hjn
     have HEJ:=aI hei
     have HENVI:=aI (fun (W:World) (h:Below wi.heap.size wi W)=>HENVO.out W (HBW.out.trans (h.mono HBW.out.size)))
     have CS:=aI (fun (W:World) (h:Below wi.heap.size wi W)=>show Calls Tryz.prog 19 #[.agg #[.int .i64 X.1,.slice A6 p6 c6,.slice B6 q6 d6,.slice C6 r6 f6],.agg #[.int .i64 Y.1,.slice A7 p7 c7,.slice B7 q7 d7,.slice C7 r7 f7]] W (BoolP (Sx.sameX X Y) W) from same_schemas X Y [_,_,_,_] [_,_,_,_] W (HIN.out.below h).rep (HJN.out.below h).rep)
     have CEY:=aI (fun (W:World) (h:Below wi.heap.size wi W)=>show Calls Tryz.prog 12 #[.agg #[.int .i64 Y.1,.slice A7 p7 c7,.slice B7 q7 d7,.slice C7 r7 f7]] W (BytesP (Sx.enc Y) W) from penc_any Y _ W (HJN.out.below h).rep HEJ.out.wb)
     have CVX:=aI (fun (W:World) (h:Below wi.heap.size wi W)=>show Calls Tryz.prog 7 #[.agg #[.int .i64 X.1,.slice A6 p6 c6,.slice B6 q6 d6,.slice C6 r6 f6]] W fun e w'=>e=.returned (.int .i64 (Sx.valid X))/\Below W.heap.size W w' from valid_any X _ W (HIN.out.below h).rep (Sx.WB.sz (ag 2) HEI.out.wb) (HENVI.out W h).1)
     have CVY:=aI (fun (W:World) (h:Below wi.heap.size wi W)=>show Calls Tryz.prog 7 #[.agg #[.int .i64 Y.1,.slice A7 p7 c7,.slice B7 q7 d7,.slice C7 r7 f7]] W fun e w'=>e=.returned (.int .i64 (Sx.valid Y))/\Below W.heap.size W w' from valid_any Y _ W (HJN.out.below h).rep (Sx.WB.sz (ag 2) HEJ.out.wb) (HENVI.out W h).1)
     have CPX:=aI (fun (W:World) (h:Below wi.heap.size wi W)=>show Calls Tryz.prog 9 #[.agg #[.int .i64 X.1,.slice A6 p6 c6,.slice B6 q6 d6,.slice C6 r6 f6]] W fun e w'=>e=.returned (.string ⟨(Sx.print X).toArray⟩)/\Below W.heap.size W w' from print_any X _ W (HIN.out.below h).rep (Sx.WB.sz (ag 2) HEI.out.wb) (HENVI.out W h).1)
     have CPY:=aI (fun (W:World) (h:Below wi.heap.size wi W)=>show Calls Tryz.prog 9 #[.agg #[.int .i64 Y.1,.slice A7 p7 c7,.slice B7 q7 d7,.slice C7 r7 f7]] W fun e w'=>e=.returned (.string ⟨(Sx.print Y).toArray⟩)/\Below W.heap.size W w' from print_any Y _ W (HJN.out.below h).rep (Sx.WB.sz (ag 2) HEJ.out.wb) (HENVI.out W h).1)
     have hsm:=HSE.out Y HEJ.out
     have hpe:Sx.valid X=0->Sx.valid Y=0->((⟨(Sx.print X).toArray⟩:ByteArray) == ⟨(Sx.print Y).toArray⟩)=Sx.sameX X Y:=fun a b=>Sx.same_print a b
     have hel2:=Sx.enc_leW (ag 2) HEJ.out.wb
     obtain ⟨sm,hsm0⟩:=aX (Sx.sameX X Y)
     rw [hsm0] at CS hsm hpe
     obtain ⟨F,hF⟩:=aX (Sx.enc Y)
     rw [hF] at CEY hsm hel2
     obtain ⟨vx,hvx⟩:=aX (Sx.valid X)
     obtain ⟨vy,hvy⟩:=aX (Sx.valid Y)
     rw [hvx] at CVX hpe
     rw [hvy] at CVY hpe
     obtain ⟨SX,hSX⟩:∃ E:ByteArray,⟨(Sx.print X).toArray⟩=E:=⟨_,rfl⟩
     obtain ⟨SY,hSY⟩:∃ E:ByteArray,⟨(Sx.print Y).toArray⟩=E:=⟨_,rfl⟩
     rw [hSX] at CPX hpe
     rw [hSY] at CPY hpe
     have CSM:=aI (fun (W:World) (A8:Option Addr) (c8_:Nat) (s7:SlAt [] W (some ⟨g8,0,none⟩) E) (s8:SlAt [] W A8 F)=>show Calls Tryz.prog 11 #[.slice (some ⟨g8,0,none⟩) E.length c8,.slice A8 F.length c8_] W fun e w'=>e=.returned (.bool sm)/\Below W.heap.size W w' by
      have:=same_any E F _ A8 c8 c8_ W s7 s8 (by have:=HEL.out;omega) (by omega)
      rwa [<-hsm] at this)
     rw [HN.out] at CSM
     have hne:(sm != sm)=false:=by cases sm <;> rfl
     have HPE:=aI hpe
     unfold BytesP at CEY
     unfold BoolP at CS
     clear hjn hei hY hsm hpe hel2 hsm0 hF hvx hvy hSX hSY
     go_wp2_with fail
     have hb1:=below_drewS wi
     apply wp_region_typed (C:=fun w'=>Below wi.heap.size wi w') (n:=132) (m:=9) (l1:=[_,_,_,_,_,_,_,_,_]) (l2:=[_]);rfl;rfl;kernel_rfl;rfl;kernel_rfl;exact hb1;exact aR
     iterate 9 ((apply aJ;·(intro w' hC hf;have HC:=aI hC;obtain ⟨-,q0,q1,q2,q3⟩:=HIN.out.below HC.out;obtain ⟨-,p0,p1,p2,p3⟩:=HJN.out.below HC.out;clear hf hC;go_wp2_with ((go_at_call 19;refine (CS.out _ HC.out).mono ?_;rintro e w2 ⟨rfl,hb2⟩));apply postT_val rfl (by first | exact Below.refl _ _ | assumption);simp only [valAt,aV];exact rfl));(try simp only [Act.put,aZ]))
     apply wpT_done
     intro w6 hC hall
     have HB6:=aI hC
     obtain ⟨-,q0,q1,q2,q3⟩:=HJN.out.below hC
     clear hC hall hb1
     go_wp2_with (first | (go_at_call 12;refine (CEY.out _ HB6.out).mono ?_;rintro e w7 ⟨v,rfl,hown,hb⟩;have HB7:=aI hb;have HO:=aI hown;clear hb hown q0 q1 q2 q3;obtain ⟨A9,c9_,rfl⟩:=own_form HO.out;obtain ⟨A10,c10,hv10,-,-,hs10⟩:=rep_bytes ⟨_,HO.out⟩;injection hv10 with hv10 _;injection hv10 with hv10 _ _;subst hv10;have HS10:=aI hs10;clear hs10) | (go_at_call 11;refine (CSM.out _ _ _ (HS8.out.keep (Chg.of_below (HB6.out.trans (HB7.out.mono HB6.out.size)))) HS10.out).mono ?_;rintro e w8 ⟨rfl,hb⟩;have HB8:=aI hb;clear hb))
     have HB9:=aI ((HB6.out.trans (HB7.out.mono HB6.out.size)).trans (HB8.out.mono (HB6.out.trans (HB7.out.mono HB6.out.size)).size))
     have hb1:=below_drewS w8
     obtain ⟨bx,hbx⟩:=aX ((vx == 0))
     obtain ⟨by2,hby⟩:=aX ((vy == 0))
     have hpq:bx=true->by2=true->(SX == SY)=sm:=fun a b=>HPE.out (by rw [a] at hbx;simpa using hbx) (by rw [b] at hby;simpa using hby)
     have HPQ:=aI hpq
     clear hpq
     cases bx <;> cases by2
     case' true.true=>(have hq:(SX == SY)=sm:=HPQ.out rfl rfl;have hq2:(SX.toList == SY.toList)=sm:=(by rw [lists_beq,<-beq_bytes];exact hq);have hne2:(!sm == sm)=false:=(by cases sm <;> rfl))
     all_goals clear HPQ HPE
     ·skip
      apply wp_region_typed (C:=fun w'=>Below w8.heap.size w8 w') (n:=132) (m:=29) (l1:=[_,_,_,_,_,_,_,_,_,_,_,_,_,_,_,_,_,_,_,_,_,_,_,_,_,_,_,_,_]) (l2:=[]);rfl;rfl;kernel_rfl;rfl;kernel_rfl;exact hb1;exact aR
      iterate 29 ((apply aJ;·(intro w' hC hf;have HC:=aI hC;obtain ⟨-,q0,q1,q2,q3⟩:=HIN.out.below (HB9.out.trans (HC.out.mono HB9.out.size));obtain ⟨-,p0,p1,p2,p3⟩:=HJN.out.below (HB9.out.trans (HC.out.mono HB9.out.size));clear hf hC;go_wp2_with (first | (go_at_call 7;(with_reducible refine (CVX.out _ (HB9.out.trans (HC.out.mono HB9.out.size))).mono ?_);rintro e w2 ⟨rfl,hb2⟩) | (go_at_call 7;(with_reducible refine (CVY.out _ (HB9.out.trans (HC.out.mono HB9.out.size))).mono ?_);rintro e w2 ⟨rfl,hb2⟩) | (go_at_call 9;(with_reducible refine (CPX.out _ (HB9.out.trans (HC.out.mono HB9.out.size))).mono ?_);rintro e w2 ⟨rfl,hb2⟩) | (go_at_call 9;(with_reducible refine (CPY.out _ (HB9.out.trans (HC.out.mono HB9.out.size))).mono ?_);rintro e w2 ⟨rfl,hb2⟩));apply postT_val rfl (by first | exact Below.refl _ _ | assumption);simp only [valAt,aV];exact rfl));(try simp only [Act.put,aZ]))
      apply wpT_done
      intro w10 hC hall
      have HB10:=aI (HBI.out.trans ((HB9.out.trans (hC.mono HB9.out.size)).mono HBI.out.size))
      clear hC hall
      go_wp2_with fail
      go_roundg (gk - 1)
      case measure=>omega
      case rel=>exact ⟨j+1,by omega,by go_num,HB10.out⟩
     ·skip
      apply wp_region_typed (C:=fun w'=>Below w8.heap.size w8 w') (n:=132) (m:=29) (l1:=[_,_,_,_,_,_,_,_,_,_,_,_,_,_,_,_,_,_,_,_,_,_,_,_,_,_,_,_,_]) (l2:=[]);rfl;rfl;kernel_rfl;rfl;kernel_rfl;exact hb1;exact aR
      iterate 29 ((apply aJ;·(intro w' hC hf;have HC:=aI hC;obtain ⟨-,q0,q1,q2,q3⟩:=HIN.out.below (HB9.out.trans (HC.out.mono HB9.out.size));obtain ⟨-,p0,p1,p2,p3⟩:=HJN.out.below (HB9.out.trans (HC.out.mono HB9.out.size));clear hf hC;go_wp2_with (first | (go_at_call 7;(with_reducible refine (CVX.out _ (HB9.out.trans (HC.out.mono HB9.out.size))).mono ?_);rintro e w2 ⟨rfl,hb2⟩) | (go_at_call 7;(with_reducible refine (CVY.out _ (HB9.out.trans (HC.out.mono HB9.out.size))).mono ?_);rintro e w2 ⟨rfl,hb2⟩) | (go_at_call 9;(with_reducible refine (CPX.out _ (HB9.out.trans (HC.out.mono HB9.out.size))).mono ?_);rintro e w2 ⟨rfl,hb2⟩) | (go_at_call 9;(with_reducible refine (CPY.out _ (HB9.out.trans (HC.out.mono HB9.out.size))).mono ?_);rintro e w2 ⟨rfl,hb2⟩));apply postT_val rfl (by first | exact Below.refl _ _ | assumption);simp only [valAt,aV];exact rfl));(try simp only [Act.put,aZ]))
      apply wpT_done
      intro w10 hC hall
      have HB10:=aI (HBI.out.trans ((HB9.out.trans (hC.mono HB9.out.size)).mono HBI.out.size))
      clear hC hall
      go_wp2_with fail
      go_roundg (gk - 1)
      case measure=>omega
      case rel=>exact ⟨j+1,by omega,by go_num,HB10.out⟩
     ·skip
      apply wp_region_typed (C:=fun w'=>Below w8.heap.size w8 w') (n:=132) (m:=29) (l1:=[_,_,_,_,_,_,_,_,_,_,_,_,_,_,_,_,_,_,_,_,_,_,_,_,_,_,_,_,_]) (l2:=[]);rfl;rfl;kernel_rfl;rfl;kernel_rfl;exact hb1;exact aR
      iterate 29 ((apply aJ;·(intro w' hC hf;have HC:=aI hC;obtain ⟨-,q0,q1,q2,q3⟩:=HIN.out.below (HB9.out.trans (HC.out.mono HB9.out.size));obtain ⟨-,p0,p1,p2,p3⟩:=HJN.out.below (HB9.out.trans (HC.out.mono HB9.out.size));clear hf hC;go_wp2_with (first | (go_at_call 7;(with_reducible refine (CVX.out _ (HB9.out.trans (HC.out.mono HB9.out.size))).mono ?_);rintro e w2 ⟨rfl,hb2⟩) | (go_at_call 7;(with_reducible refine (CVY.out _ (HB9.out.trans (HC.out.mono HB9.out.size))).mono ?_);rintro e w2 ⟨rfl,hb2⟩) | (go_at_call 9;(with_reducible refine (CPX.out _ (HB9.out.trans (HC.out.mono HB9.out.size))).mono ?_);rintro e w2 ⟨rfl,hb2⟩) | (go_at_call 9;(with_reducible refine (CPY.out _ (HB9.out.trans (HC.out.mono HB9.out.size))).mono ?_);rintro e w2 ⟨rfl,hb2⟩));apply postT_val rfl (by first | exact Below.refl _ _ | assumption);simp only [valAt,aV];exact rfl));(try simp only [Act.put,aZ]))
      apply wpT_done
      intro w10 hC hall
      have HB10:=aI (HBI.out.trans ((HB9.out.trans (hC.mono HB9.out.size)).mono HBI.out.size))
      clear hC hall
      go_wp2_with fail
      go_roundg (gk - 1)
      case measure=>omega
      case rel=>exact ⟨j+1,by omega,by go_num,HB10.out⟩
     ·skip
      apply wp_region_typed (C:=fun w'=>Below w8.heap.size w8 w') (n:=132) (m:=29) (l1:=[_,_,_,_,_,_,_,_,_,_,_,_,_,_,_,_,_,_,_,_,_,_,_,_,_,_,_,_,_]) (l2:=[]);rfl;rfl;kernel_rfl;rfl;kernel_rfl;exact hb1;exact aR
      iterate 29 ((apply aJ;·(intro w' hC hf;have HC:=aI hC;obtain ⟨-,q0,q1,q2,q3⟩:=HIN.out.below (HB9.out.trans (HC.out.mono HB9.out.size));obtain ⟨-,p0,p1,p2,p3⟩:=HJN.out.below (HB9.out.trans (HC.out.mono HB9.out.size));clear hf hC;go_wp2_with (first | (go_at_call 7;(with_reducible refine (CVX.out _ (HB9.out.trans (HC.out.mono HB9.out.size))).mono ?_);rintro e w2 ⟨rfl,hb2⟩) | (go_at_call 7;(with_reducible refine (CVY.out _ (HB9.out.trans (HC.out.mono HB9.out.size))).mono ?_);rintro e w2 ⟨rfl,hb2⟩) | (go_at_call 9;(with_reducible refine (CPX.out _ (HB9.out.trans (HC.out.mono HB9.out.size))).mono ?_);rintro e w2 ⟨rfl,hb2⟩) | (go_at_call 9;(with_reducible refine (CPY.out _ (HB9.out.trans (HC.out.mono HB9.out.size))).mono ?_);rintro e w2 ⟨rfl,hb2⟩));apply postT_val rfl (by first | exact Below.refl _ _ | assumption);simp only [valAt,aV];exact rfl));(try simp only [Act.put,aZ]))
      apply wpT_done
      intro w10 hC hall
      have HB10:=aI (HBI.out.trans ((HB9.out.trans (hC.mono HB9.out.size)).mono HBI.out.size))
      clear hC hall
      go_wp2_with fail
      go_roundg (gk - 1)
      case measure=>omega
      case rel=>exact ⟨j+1,by omega,by go_num,HB10.out⟩
    ·obtain rfl:j=4:=by omega
     go_wp2_with fail
     go_roundg (ok - 1)
     case measure=>omega
     case rel=>exact ⟨k+1,by omega,by go_num,HB.out.trans (HBW.out.mono HB.out.size)⟩
  ·obtain rfl:k=4:=by omega
   have HLV:=aI (fun (W:World) (h:Below W5.heap.size W5 W)=>lives_any W (HENV.out W (T5.out.bl.trans (h.mono T5.out.bl.size))).1)
   go_wp2_with (go_at_call 16;refine (HLV.out _ HB.out).mono ?_;rintro e w2 ⟨rfl,hb2⟩;have HB2:=aI hb2;clear hb2)
   go_ret
   exact ⟨rfl,(T5.out.below HB.out).bl.trans (HB2.out.mono (T5.out.below HB.out).bl.size)⟩
open Go Go.ChangeShapes Go.WideShapes Go.ChangeAt Go.RowKit
theorem own:ownKnob Tryz.prog.godebug=none:=by kernel_rfl
theorem gPowS : Tryz.prog.globalNamed "internal/strconv.uint64pow10" = some 5 := by kernel_rfl
theorem gB64S : Tryz.prog.globalNamed "math/bits.deBruijn64tab" = some 9 := by kernel_rfl
theorem gWordsS : Tryz.prog.globalNamed "diorama/schema.words" = some 0 := by kernel_rfl
theorem tPow:(Tryz.prog.globals[5]?).map (·.type)=some 224:=by kernel_rfl
theorem tWords:(Tryz.prog.globals[0]?).map (·.type)=some 165:=by kernel_rfl
theorem tSyn:(Tryz.prog.globals[3]?).map (·.type)=some 123:=by kernel_rfl
theorem tRng:(Tryz.prog.globals[4]?).map (·.type)=some 123:=by kernel_rfl
theorem rowErr (u : TypeId) (h : Tryz.prog.typeName? 3 u = some "*errors.errorString") : u = 229 :=
 typeName_ptr_named (nm := "errors.errorString") (by rw [show ("*" ++ "errors.errorString" : String) = "*errors.errorString" from by decide]; kernel_rfl) (by kernel_rfl) (by decide) u (by rw [show ("*" ++ "errors.errorString" : String) = "*errors.errorString" from by decide]; exact h)
theorem cells_of_strs {H:Type} {enc:TypeId × Value->H} {P:Program} {w:World} {base:Nat} {sp:Nat->Bool} {held:Bool} {fuel:Nat} {t e:TypeId} {n:Nat} {cs:List Value} {zs:List (List UInt8)} {p:List MemPlace}
  (ht:P.underlying t=some (.array n e)) (he:P.underlying e=some .string) (hce:P.cellsOf e=1) (hct:P.cellsOf t=n)
  (h:DataW.trod enc P w base sp held fuel t cs=some (.agg (zs.map fun z=>.lit (.string z)),p)):cs=zs.map fun z=>Value.string (Sx.ofT z):=by
 cases fuel with
 | zero=>simp [DataW.trod] at h
 | succ fuel =>
  simp only [DataW.trod,ht,hce,hct,Nat.mul_one] at h
  split at h
  ·rename_i hl
   obtain ⟨xs,hm,hx⟩:=Option.map_eq_some_iff.1 h
   have hxs:xs.map (·.1)=zs.map fun z=>(DataW.lit (.string z):DataW H):=by
    have:=congrArg Prod.fst hx
    simpa using this
   have hxl:xs.length=n:=by simpa using Lib.mapM_length hm
   have hzl:zs.length=n:=by
    have:=congrArg List.length hxs
    simp at this
    omega
   apply List.ext_getElem?
   intro i
   by_cases hi:i < n
   ·obtain ⟨b,hb,hf⟩:=Lib.mapM_at hm i i (by simp [hi])
    obtain ⟨z,hc,rfl,_⟩:=DataW.trod_string he hf
    have h1:cs[i]?=some (.string z):=by
     have:=congrArg (·[0]?) hc
     simpa [List.getElem?_take,List.getElem?_drop] using this
    have h2:(xs.map (·.1))[i]?=some (DataW.lit (.string z.data.toList):DataW H):=by simp [hb]
    rw [hxs] at h2
    simp only [List.getElem?_map,Option.map_eq_some_iff,DataW.lit.injEq,Lit.string.injEq] at h2
    obtain ⟨z',hz',h3⟩:=h2
    rw [h1,List.getElem?_map,hz']
    have:Sx.ofT z'=z:=by rw [h3];unfold Sx.ofT;simp
    rw [<-this];rfl
   ·rw [List.getElem?_eq_none (by omega),List.getElem?_eq_none (by simp;omega)]
  ·cases h
theorem size_of_var {P:Program} {w:World} {n:String} {g:Nat} {cs:Array Value} (hg:P.globalNamed n=some g) (h:w.var? P n=some cs):g < w.heap.size:=by
 unfold World.var? at h
 rw [hg] at h
 rcases aj g w.heap.size with h' | h'
 ·exact h'
 ·simp [Array.getElem?_eq_none h'] at h
section
variable {H:Type} {enc:TypeId × Value->H} {P:Program}
theorem post_low {f:Func} {s:ChangeSpec} {apart fresh handsOn again:Bool} {W W':World} {args:Array Value} {v:Value} {ds gs:List (DataW H)} {before:List MemPlace}
  (hW:DataW.Whole enc P f.params.toList s.vars apart W args.toList ds gs before) (hb:Below W.heap.size W W')
  (hres:∀ (b:Nat) (sp:Nat->Bool) (hd:Bool),DataW.TrodAll enc P W' b sp hd f.resultTypes.toList (v.resultList f.resultTypes.size) (s.fn H (ds++gs)).results [])
  (hargs:∀ sp:Nat->Bool,(∀ p∈before,sp p.block=true)->DataW.TrodAll enc P W' 0 sp true f.params.toList args.toList (s.fn H (ds++gs)).args before)
  (hvars:∀ sp:Nat->Bool,DataW.TrodVars enc P W' sp s.vars (s.fn H (ds++gs)).vars [])
  (hok:∀ (j:Nat) (t:TypeId) (r:Value),f.resultTypes[j]?=some t->(v.resultList f.resultTypes.size)[j]?=some r->Value.okWide P W' .any 0 t r) :
  s.post enc P f apart fresh handsOn again W args v W':=by
 have hold:∀ p∈before,(fun b=>decide (b < W.heap.size)) p.block=true:=fun p hp=>ac (hW.lt p hp)
 have hz2:=hW
 obtain ⟨_,_,_,_,_,hz,hn⟩:=hz2
 have hwhole:DataW.TrodAll enc P W' 0 (fun _=>true) true f.params.toList args.toList (s.fn H (ds++gs)).args before:=hargs _ (fun _ _=>rfl)
 refine ⟨ds,gs,before,[],before,[],hW,hres _ _ _,hargs _ hold,hvars _,World.keptBut_mono (fun p hp=>⟨hp,.inr (.inl hp)⟩) (hb.frame (·∈before)),fun _=>?_⟩
 refine ⟨hok,_,_,([]++before)++[],⟨[]++before,[],trodAll_append hwhole (hres _ _ _),hvars _,rfl,?_,?_⟩,?_⟩
 ·intro b off hp
  have hin:MemPlace.cell b off∈before:=by simpa using hp
  rw [hb.frozen (hW.lt _ hin)]
  exact hz b off hin
 ·intro ha
  have:=hn ha
  simpa using this
 ·intro p hp _
  simpa using hp
end
theorem laidOut:laidOutB Tryz.prog=true:=by kernel_rfl
section
variable {H:Type} {enc:TypeId × Value->H} {P:Program}
theorem trodAll_stays (hl:laidOutB P=true) {W W':World} {sp:Nat->Bool}:∀ (ts:List TypeId) (vs:List Value) (ds:List (DataW H)) (ps:List MemPlace),
  (ts.all fun t=>P.readableRec t && decide (t < P.types.size))=true->DataW.TrodAll enc P W 0 (fun _=>true) true ts vs ds ps->(∀ p∈ps,W.sameAt W' p)->(∀ p∈ps,sp p.block=true)->DataW.TrodAll enc P W' 0 sp true ts vs ds ps
 | [],vs,ds,ps,_,h,_,_=>by
  match vs,ds,h with
  | [],[],h=>exact h
 | t::ts,vs,ds,ps,ht,h,hs,hp=>by
  obtain ⟨v,vs',d,ds',p,q,rfl,rfl,rfl,h1,h2⟩:=trodAll_cons h
  simp only [List.all_cons,Bool.and_eq_true,decide_eq_true_eq] at ht
  exact trodAll_cons_mk (WideElems.Trod_stays hl ht.1.1 ht.1.2 h1 (fun x hx=>hs x (List.mem_append_left _ hx)) (fun x hx=>hp x (List.mem_append_left _ hx)))
   (trodAll_stays hl ts vs' ds' q ht.2 h2 (fun x hx=>hs x (List.mem_append_right _ hx)) (fun x hx=>hp x (List.mem_append_right _ hx)))
theorem post_law {f:Func} {s:ChangeSpec} {apart fresh handsOn again:Bool} {W W':World} {args:Array Value} {ds:List (DataW H)} {before:List MemPlace} {tb:TypeId}
  (hl:laidOutB P=true) (hts:(f.params.toList.all fun t=>P.readableRec t && decide (t < P.types.size))=true) (hr:f.resultTypes=#[tb]) (htb:P.underlying tb=some .bool)
  (hW:DataW.Whole enc P f.params.toList s.vars apart W args.toList ds [] before) (hb:Below W.heap.size W W') (hv:s.vars=[])
  (hs:s.fn H ds={ results:=[.lit (.bool true)],args:=ds }):s.post enc P f apart fresh handsOn again W args (.bool true) W':=by
 have hW0:=hW
 obtain ⟨p,q,hA,hV,hpq,hz,hn⟩:=hW
 have hq:q=[]:=by rw [hv] at hV;exact (trodVars_none hV).2
 have hA':DataW.TrodAll enc P W 0 (fun _=>true) true f.params.toList args.toList ds before:=by
  have e:before=p:=by rw [hpq,hq,List.append_nil]
  rw [e];exact hA
 refine post_low hW0 hb ?_ ?_ ?_ (ok_one hr rfl (okWide_bool_mk htb _))
 ·intro b sp hd
  rw [List.append_nil,hs]
  show DataW.TrodAll enc P W' b sp hd f.resultTypes.toList ((Value.bool true).resultList f.resultTypes.size) [.lit (.bool true)] []
  rw [hr]
  exact trodAll_cons_mk (shut_bool htb _) trodAll_mk0
 ·intro sp hsp
  rw [List.append_nil,hs]
  exact trodAll_stays hl _ _ _ _ hts hA' (fun x hx=>hb.same (hW0.lt x hx)) hsp
 ·intro sp
  rw [List.append_nil,hs,hv]
  rfl
end
theorem inI_of_wf {x:Int} (h:(Lit.int .i64 x).wf=true):inI x:=by
 have h2:-9223372036854775808<=x/\x<=9223372036854775807:=by
  simp [Lit.wf,IntKind.min,IntKind.max,IntKind.signed,IntKind.bits] at h
  omega
 exact h2
section
variable {H:Type} {enc:TypeId × Value->H} {P:Program} {W:World} {t e:TypeId} {v:Value} {d:DataW H} {ps:List MemPlace} {b0:Nat}
theorem arg_int (ht:P.underlying t=some (.int .i64)) (hv:Value.okWide P W .any b0 t v) (h:DataW.Trod enc P W 0 (fun _=>true) true t v d ps):∃ a,v=.int .i64 a/\inI a:=by
 obtain ⟨a,rfl,_,_,hw⟩:=open_int ht hv h
 exact ⟨a,rfl,inI_of_wf hw⟩
theorem arg_ints (ht:P.underlying t=some (.slice e)) (he:P.underlying e=some (.int .i64)) (hc:P.cellsOf e=1) (hv:Value.okWide P W .any b0 t v)
  (h:DataW.Trod enc P W 0 (fun _=>true) true t v d ps) (hlt:∀ p∈ps,p.block < W.heap.size):∃ A n c L,v=.slice A n c/\Ints W W.heap.size A n L/\AllI L/\n<=9223372036854775807:=by
 obtain ⟨A,n,c,rfl⟩:=okWide_slice ht hv
 obtain ⟨fuel,hf⟩:=h
 rcases open_ints ht he hc hf with ⟨hcs,_⟩ | ⟨a,len,cap,zs,hcs,_,hl,hm,hz,hx,hcell,hw⟩
 ·simp [Value.cells] at hcs
  obtain ⟨rfl,rfl,rfl⟩:=hcs
  exact ⟨none,0,0,[],rfl,Ints.nil,fun _ h=>(by cases h),by omega⟩
 ·simp [Value.cells] at hcs
  obtain ⟨rfl,rfl,rfl⟩:=hcs
  simp only [Prod.mk.injEq] at hx
  obtain ⟨rfl,rfl⟩:=hx
  simp only [if_true] at hz
  have hL:(zs.take n).length=n:=by rw [List.length_take];omega
  refine ⟨some a,n,c,zs.take n,rfl,⟨by simp [intVals];omega,fun hn=>⟨a,rfl,hlt (.cell a.block a.off) (MemPlace.mem_row.2 ⟨0,by omega,by simp⟩),fun j u hu=>?_⟩⟩,fun x hx=>inI_of_wf (hw x (List.mem_of_mem_take hx)),by unfold maxLen at hm;omega⟩
  have hj:j < n:=by
   have:=(List.getElem?_eq_some_iff.1 hu).1
   simp [intVals] at this;omega
  rw [intVals_get (by omega)] at hu
  obtain rfl:=Option.some.inj hu
  rw [hcell j (by omega)]
  simp [List.getD,hj]
end
theorem ints_sl {W:World} {A:Option Addr} {n:Nat} {L:List Int} (h:Ints W W.heap.size A n L) (hL:AllI L):SlAt [] W A L:=by
 rcases Nat.eq_zero_or_pos n with hn | hn
 ·have:=h.len
  rw [hn] at this
  exact .inl (List.eq_nil_of_length_eq_zero this)
 ·obtain ⟨b,off,rfl,hb,hc⟩:=h.form hn
  refine .inr ⟨b,off,rfl,hb,(fun h=>by cases h),fun i hi=>⟨[.int .i64 L[i]],⟨rfl,hL _ (List.getElem_mem hi)⟩,fun j u hu=>?_⟩⟩
  match j,hu with
  | 0,hu =>
   obtain rfl:=Option.some.inj hu
   have:=hc i hi
   rw [show i*Mem.sz Int+0=i from Nat.mul_one i,this]
   simp [List.getD,List.getElem?_eq_getElem hi]
theorem arg_sl {H:Type} {enc:TypeId × Value->H} {P:Program} {W:World} {t e:TypeId} {v:Value} {d:DataW H} {ps:List MemPlace} {b0:Nat} (ht:P.underlying t=some (.slice e)) (he:P.underlying e=some (.int .i64)) (hc:P.cellsOf e=1) (hv:Value.okWide P W .any b0 t v)
  (h:DataW.Trod enc P W 0 (fun _=>true) true t v d ps) (hlt:∀ p∈ps,p.block < W.heap.size):∃ (A:Option Addr) (c:Nat) (L:List Int),v=.slice A L.length c/\SlAt [] W A L/\L.length<=c/\c<=9223372036854775807:=by
 obtain ⟨A,n,c,L,rfl,hI,hA,hn⟩:=arg_ints ht he hc hv h hlt
 have hb:n<=c/\c<=9223372036854775807:=by
  obtain ⟨fuel,hf⟩:=h
  rcases open_ints ht he hc hf with ⟨hcs,_⟩ | ⟨a,len,cap,zs,hcs,_,hl,hm,_⟩
  ·simp [Value.cells] at hcs
   omega
  ·simp [Value.cells] at hcs
   unfold maxLen at hm
   omega
 exact ⟨A,c,L,by rw [hI.len],ints_sl hI hA,by rw [hI.len];exact hb.1,hb.2⟩
end
section
open Go Go.ChangeShapes Go.WideShapes Go.ChangeAt Go.RowKit
abbrev laidAll:List (String × DataW Unit):=Rows.schemaEqualRow.laid
theorem gHash : Tryz.prog.globalNamed "diorama/hash.constants" = some 1 := by kernel_rfl
theorem tHash:(Tryz.prog.globals[1]?).map (·.type)=some 178:=by kernel_rfl
theorem tab_range {W:World} {name:String} {g:Nat} {zs:List Int} (h:Lib.TabIs Tryz.prog W name .u32 zs) (hg:Tryz.prog.globalNamed name=some g):W.rangeAt g 0 (wv zs):=by
 intro j v hv
 have hj:j < zs.length:=by
  have:=(List.getElem?_eq_some_iff.1 hv).1
  rwa [wv_length] at this
 rw [wv_get hj] at hv
 obtain rfl:=Option.some.inj hv
 rw [Nat.zero_add]
 exact h.cell hg j hj
theorem senv_of_laid {W:World} (hL:laidMetH Tryz.prog laidAll W):SEnv W/\KEnv W:=by
 have h0:laidMet Tryz.prog laidAll W:=hL
 have h:=h0
 have h2:=h.tail
 have hk:=h2.tail
 have h3:=hk.tail
 have h4:=h3.tail
 have h5:=h4.tail
 have h6:=h5.tail
 have h7:=h6.tail
 obtain ⟨a1,s1,hv1,_⟩:=laid_sentinel h5 gRng tRng Tryz.underlying123 rowErr Tryz.underlying229 Tryz.underlying231 rfl rfl Tryz.underlying9 (by kernel_rfl) (by kernel_rfl)
 obtain ⟨a0,s0,hv0,_⟩:=laid_sentinel h6 gSyn tSyn Tryz.underlying123 rowErr Tryz.underlying229 Tryz.underlying231 rfl rfl Tryz.underlying9 (by kernel_rfl) (by kernel_rfl)
 have hT : Lib.TabIs Tryz.prog W "internal/strconv.uint64pow10" .u64 Lib.pow10Tab := Lib.tabIs_of_head gPowS tPow Tryz.underlying224 Tryz.underlying89 (by kernel_rfl) (by kernel_rfl) h3
 have hp:5 < W.heap.size:=by
  unfold Lib.TabIs at hT
  exact size_of_var gPowS hT
 have hKT : Lib.TabIs Tryz.prog W "diorama/hash.constants" .u32 Sha.KK := Lib.tabIs_of_head gHash tHash Tryz.underlying178 Tryz.underlying90 (by kernel_rfl) (by kernel_rfl) hk
 have hKE:KEnv W:=tab_range hKT gHash
 obtain ⟨_,⟨g4,t4,cs,_,_,_,hg4,ht4,hv4,hd,_⟩,_⟩:=h7
 obtain rfl:=Option.some.inj (gWordsS.symm.trans hg4)
 obtain rfl:=Option.some.inj (tWords.symm.trans ht4)
 have hcs:=cells_of_strs (zs:=Sx.wordsL) Tryz.underlying165 Tryz.underlying9 (by kernel_rfl) (by kernel_rfl) hd
 have hs:=size_of_var gSyn hv0
 have hr:=size_of_var gRng hv1
 have hw:=size_of_var gWordsS hv4
 refine ⟨⟨⟨hT,hp⟩,⟨_,_,hv0⟩,⟨_,_,hv1⟩,fun k hk=>?_,?_⟩,hKE⟩
 ·rw [World.var?_cell gWordsS hv4 k,<-Array.getElem?_toList,hcs]
  rw [List.getElem?_map,List.getElem?_eq_getElem (show k < Sx.wordsL.length from hk)]
  unfold wdS
  rw [List.getD_eq_getElem?_getD,List.getElem?_eq_getElem (show k < Sx.wordsL.length from hk)]
  rfl
 ·obtain ⟨_,⟨g5,_,_,_,_,_,hg5,_,hv5,_⟩,_⟩:=h2
  obtain rfl:=Option.some.inj (gB64S.symm.trans hg5)
  first | exact Nat.lt_of_le_of_lt (by decide) (size_of_var gB64S hv5) | exact Nat.lt_of_le_of_lt (by decide) hw | exact Nat.lt_of_le_of_lt (by decide) hs | exact Nat.lt_of_le_of_lt (by decide) hr | exact Nat.lt_of_le_of_lt (by decide) hp
theorem laid_met (os:Os) (args:Array Value):laidMet Tryz.prog laidAll ((World.laidAll Tryz.prog os laidAll).forCall (fun _ _=>0) ⟨#[],args,[]⟩).memory :=
 laidMet_laidAll args (by kernel_rfl) (by kernel_rfl)
end
end Go.Proofs.YtobcnhmhgoccnaaGreatDoor
