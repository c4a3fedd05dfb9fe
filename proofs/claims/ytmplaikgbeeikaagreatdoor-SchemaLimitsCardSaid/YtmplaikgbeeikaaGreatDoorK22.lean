/- Parts of the proof, joined: SxU1, SxU2. -/
import Derived.Test.YtmplaikgbeeikaaGreatDoorK4
import Derived.Test.YtmplaikgbeeikaaGreatDoorK15
import Derived.Test.YtmplaikgbeeikaaGreatDoorK17
set_option linter.unusedVariables false
set_option linter.unusedSimpArgs false
set_option linter.unusedSectionVars false
namespace Go.Proofs.YtmplaikgbeeikaaGreatDoor
open Go Go.RowKit
set_option maxRecDepth 100000 in
set_option maxHeartbeats 4000000 in
theorem rIsPick_any (f:Fld) (us:List Value) (w:World) (h:Mem.rep [] w f us) (hmn:(Sc.wts f).length≤1000000):Calls Tryz.prog 165 #[.agg us.toArray] w (BoolP (Sx.pickB (Sc.words f) (Sc.wts f)) w):=by
 obtain ⟨nm,of_,up,kd,lo,hi,ws,ns⟩:=f
 obtain ⟨A,c,B,d,rfl,s1,s2,a4,a5,a6,a1,a2,a3,b1,b2,e1,e2⟩:=rep_fld h
 have hmn:ns.length≤1000000:=hmn
 have hmw:ws.length≤9223372036854775807:=by have:ws.length≤c:=b1;omega
 show Calls Tryz.prog 165 #[.agg #[.string nm,.string of_,.string up,.int .i64 kd,.int .i64 lo,.int .i64 hi,.slice A ws.length c,.slice B ns.length d]] w (BoolP (Sx.pickB ws ns) w)
 obtain ⟨W1,hW1⟩:∃ X,w.alloc (.cells #[.string nm,.string of_,.string up,.int .i64 kd,.int .i64 lo,.int .i64 hi,.slice A ws.length c,.slice B ns.length d] 52)=X:=⟨_,rfl⟩
 have HB:=aI (show Below w.heap.size w W1 by rw [← hW1];exact (Below.refl w.heap.size w).alloc (Nat.le_refl _) _)
 have hbk:Blk W1 w.heap.size 52 #[.string nm,.string of_,.string up,.int .i64 kd,.int .i64 lo,.int .i64 hi,.slice A ws.length c,.slice B ns.length d]:=by rw [← hW1];exact Blk.new w _ _
 have c6:=hbk.cell 6;have c7:=hbk.cell 7
 simp at c6 c7
 have HW1:=aI hW1
 have HW:=aI rWithin_any
 obtain ⟨nw,hnw⟩:∃ n,ws.length=n:=⟨_,rfl⟩
 obtain ⟨nn,hnn⟩:∃ n,ns.length=n:=⟨_,rfl⟩
 have HNN:=aI hnn
 have HNW:=aI hnw
 have HS:=aI (SlAt.keep (show SlAt [] w B ns from s2) (Chg.of_below HB.out))
 have CA:=aI (rNames_any ws A c W1 (SlAt.keep (show SlAt [] w A ws from s1) (Chg.of_below HB.out)) hmw)
 rw [hnw] at CA c6 HW1
 rw [hnn] at c7 HW1 hmn
 rw [hnw,hnn]
 clear h s1 s2 a1 a2 a3 a4 a5 a6 b1 b2 e1 e2 hbk hW1 hnn hnw hmw
 obtain ⟨N,hN⟩:∃ n,w.heap.size=n:=⟨_,rfl⟩
 go_enter Tryz.func165,Tryz.ntmps165
 go_upto_region 1 with fail
 rw [HW1.out]
 rw [hN] at c6 c7
 try rw [hN]
 go_wp2_with fail
 go_loopg [3,4] nn (fun r s i wr=>∃ k:Nat,k+r=nn∧i=.int .i64 k∧s=.int .i64 ((ns.take k).sum)∧0≤(ns.take k).sum∧(ns.take k).sum≤1048576*k∧wr=W1∧∀ j (hj:j < ns.length),j < k→Sx.within ns[j] 0 Sx.most=true)
 case atStart=>exact ⟨0,by omega,rfl,rfl,by simp,by simp,rfl,fun _ _ h=>by omega⟩
 case round =>
  obtain ⟨k,hk,rfl,rfl,hs0,hs1,rfl,hall⟩:=hrel
  have HA:=aI hall
  clear hall
  obtain ⟨sm,hsm⟩:∃ s,(ns.take k).sum=s:=⟨_,rfl⟩
  rw [hsm] at hs0 hs1 ⊢
  by_cases hlt:k < nn
  ·have hkp:k < ns.length:=by rw [HNN.out];exact hlt
   have k0:(0:Int)≤(k:Int):=Int.natCast_nonneg _
   have k1:(k:Int) < (nn:Int):=by omega
   obtain ⟨b,o,rfl,_,q0,hin⟩:=int_at HS.out k hkp
   have HSM:=aI (sum_take ns k hkp)
   have cv:=HW.out ns[k] 0 1048576
   obtain ⟨bb,hbb⟩:∃ b,Sx.within ns[k] 0 1048576=b:=⟨_,rfl⟩
   rw [hbb] at cv
   have CV:=aI cv
   have HBB:=aI hbb
   have HSE:=aI hsm
   obtain ⟨x,hx⟩:∃ x,ns[k]=x:=⟨_,rfl⟩
   rw [hx] at q0 CV HSM hin
   have HX:=aI hx
   clear cv hbb hsm hx
   cases bb
   ·have HR:=aI (show ns.all (fun n=>Sx.within n 0 Sx.most)=false from all_bad hkp HBB.out)
    go_wp2_with (go_at_call 95;((with_reducible refine (CV.out _).mono ?_));rintro e w2 ⟨rfl,rfl⟩)
    go_ret
    exact ⟨by unfold Sx.pickB;rw [HR.out];rfl,HB.out⟩
   ·have hbd:=within_bd HBB.out
    rw [HX.out] at hbd
    go_wp2_with (go_at_call 95;((with_reducible refine (CV.out _).mono ?_));rintro e w2 ⟨rfl,rfl⟩)
    go_roundg (gk - 1)
    case measure=>omega
    case rel =>
     refine ⟨k+1,by omega,by go_num,?_,?_,?_,rfl,fun q hq hlt=>?_⟩
     ·rw [HSM.out,HSE.out]
     ·rw [HSM.out,HSE.out];omega
     ·rw [HSM.out,HSE.out];omega
     ·rcases Nat.lt_or_ge q k with h' | h'
      ·exact HA.out q hq h'
      ·obtain rfl:q=k:=by omega
       exact HBB.out
  ·have k1:¬ (k:Int) < (nn:Int):=by omega
   have hR:=all_good (b:=fun n=>Sx.within n 0 Sx.most) (l:=ns) fun q hq=>HA.out q hq (by rw [HNN.out] at hq;omega)
   have hsum:ns.sum=sm:=by rw [← hsm,List.take_of_length_le (by rw [HNN.out];omega)]
   have hp:Sx.pickB ws ns=(Sx.within (nw:Int) 1 12 && (decide (nw=nn) && (decide (0 < sm) && ws.all Sx.nm))):=by
    unfold Sx.pickB
    rw [hR,hsum,HNN.out,HNW.out];rfl
   have cw:=HW.out (nw:Int) 1 12
   have ca:=CA.out
   obtain ⟨b1,h1⟩:∃ b,Sx.within (nw:Int) 1 12=b:=⟨_,rfl⟩
   obtain ⟨b2,h2⟩:∃ b,decide (nw=nn)=b:=⟨_,rfl⟩
   obtain ⟨b3,h3⟩:∃ b,decide (0 < sm)=b:=⟨_,rfl⟩
   obtain ⟨b4,h4⟩:∃ b,ws.all Sx.nm=b:=⟨_,rfl⟩
   rw [h1] at cw
   rw [h4] at ca
   rw [h1,h2,h3,h4] at hp
   have HPK:=aI hp
   have h2':((nw:Int) == (nn:Int))=b2:=by
    by_cases h:nw=nn
    ·rw [← h2,h];simp
    ·rw [← h2,decide_eq_false h];exact beq_eq_false_iff_ne.2 (by omega)
   have CW:=aI cw
   have CS:=aI ca
   clear cw ca hp hsum hR hsm h1 h4 hs0 hs1
   cases b1 <;> cases b2 <;> cases b3 <;> (go_wp2_with (first | (go_at_call 95;((with_reducible refine (CW.out _).mono ?_));rintro e w2 ⟨rfl,rfl⟩) | (go_at_call 131;((with_reducible refine (CS.out).mono ?_));rintro e w2 ⟨rfl,rfl⟩));go_ret;exact ⟨by rw [HPK.out];cases b4 <;> rfl,HB.out⟩)
end Go.Proofs.YtmplaikgbeeikaaGreatDoor
namespace Go.Proofs.YtmplaikgbeeikaaGreatDoor
open Go Go.RowKit
theorem noW_pos {a b:Nat} (h:(decide (a=0) && decide (b=0))=false):(0:Int) < (a:Int)+(b:Int):=by
 have h9:¬ (a=0∧b=0):=fun ⟨h1,h2⟩=>by subst h1 h2;exact absurd h (by simp)
 omega
theorem noW_zero {a b:Nat} (h:(decide (a=0) && decide (b=0))=true):a=0∧b=0:=by simpa using h
set_option maxRecDepth 100000 in
set_option maxHeartbeats 8000000 in
theorem rIsField_0 (nm of_ up:ByteArray) (lo hi:Int) (ws:List ByteArray) (ns:List Int) (us:List Value) (w:World) (h:Mem.rep [] w ((nm,of_,up,0,lo,hi,ws,ns):Fld) us) (hww:ws.length≤1000000) (hws:ns.length≤1000000):Calls Tryz.prog 130 #[.agg us.toArray] w (BoolP (Sx.fldB ((nm,of_,up,0,lo,hi,ws,ns):Fld)) w):=by
 have h0:=h
 obtain ⟨A,c,B,d,rfl,s1,s2,a4,a5,a6,a1,a2,a3,b1,b2,e1,e2⟩:=rep_fld h
 have a1:nm.size≤9223372036854775807:=a1
 have a2:of_.size≤9223372036854775807:=a2
 have a3:up.size≤9223372036854775807:=a3
 have CU:=aI (fun w=>show Calls Tryz.prog 69 #[.int .i64 0] w fun e w'=>e=.returned (.tuple #[.bool false,.bool false,.bool true,.bool false,.bool false])∧w=w' from uses_any 0 w)
 have CN:=aI (fun w=>rIsName_any nm w a1)
 obtain ⟨qn,hqn⟩:∃ b,Sx.nm nm=b:=⟨_,rfl⟩
 rw [hqn] at CN
 obtain ⟨qo,hqo⟩:∃ b,Sx.em of_=b:=⟨_,rfl⟩
 obtain ⟨yqo1,yqo2,yqo3⟩:=em_spell of_
 rw [hqo] at yqo1 yqo2 yqo3
 obtain ⟨qu,hqu⟩:∃ b,Sx.em up=b:=⟨_,rfl⟩
 obtain ⟨yqu1,yqu2,yqu3⟩:=em_spell up
 rw [hqu] at yqu1 yqu2 yqu3
 obtain ⟨qh,hqh⟩:∃ b,decide (hi=0)=b:=⟨_,rfl⟩
 obtain ⟨qw,hqw⟩:∃ b,Sx.noW ((nm,of_,up,0,lo,hi,ws,ns):Fld)=b:=⟨_,rfl⟩
 have C1:=aI (rWithin_any lo (-1048576) 1048576)
 obtain ⟨q1,hq1⟩:∃ b,Sx.within lo (-1048576) 1048576=b:=⟨_,rfl⟩
 rw [hq1] at C1
 have HF:=aI (show Sx.fldB ((nm,of_,up,0,lo,hi,ws,ns):Fld)=(qn && (qo && (qu && (qh && (qw && q1))))) by rw [← hq1,← hqh,← hqn,← hqo,← hqu,← hqw];rfl)
 obtain ⟨W1,hW1⟩:∃ X,w.alloc (.cells #[.string nm,.string of_,.string up,.int .i64 0,.int .i64 lo,.int .i64 hi,.slice A ws.length c,.slice B ns.length d] 52)=X:=⟨_,rfl⟩
 have HB:=aI (show Below w.heap.size w W1 by rw [← hW1];exact (Below.refl w.heap.size w).alloc (Nat.le_refl _) _)
 have hbk:Blk W1 w.heap.size 52 #[.string nm,.string of_,.string up,.int .i64 0,.int .i64 lo,.int .i64 hi,.slice A ws.length c,.slice B ns.length d]:=by rw [← hW1];exact Blk.new w _ _
 have c0:=hbk.cell 0;have c1:=hbk.cell 1;have c2:=hbk.cell 2;have c3:=hbk.cell 3;have c4:=hbk.cell 4;have c5:=hbk.cell 5;have c6:=hbk.cell 6;have c7:=hbk.cell 7
 simp at c0 c1 c2 c3 c4 c5 c6 c7
 have HW1:=aI hW1
 show Calls Tryz.prog 130 #[.agg #[.string nm,.string of_,.string up,.int .i64 0,.int .i64 lo,.int .i64 hi,.slice A ws.length c,.slice B ns.length d]] w _
 have HQW:=aI (show (decide (ws.length=0) && decide (ns.length=0))=qw from hqw)
 clear h h0 s1 s2 a1 a2 a3 a4 a5 a6 b1 b2 e1 e2 hbk hW1 hq1 hqn hqo hqu hqw
 generalize Sx.fldB ((nm,of_,up,0,lo,hi,ws,ns):Fld)=fb at *
 obtain ⟨wl,hwl⟩:∃ n,ws.length=n:=⟨_,rfl⟩
 obtain ⟨nl,hnl⟩:∃ n,ns.length=n:=⟨_,rfl⟩
 rw [hwl] at c6 hww HW1
 rw [hnl] at c7 hws HW1
 rw [hwl,hnl] at HQW
 rw [hwl,hnl]
 clear hwl hnl
 obtain ⟨N,hN⟩:∃ n,w.heap.size=n:=⟨_,rfl⟩
 go_enter Tryz.func130,Tryz.ntmps130
 go_upto_region 1 with fail
 rw [HW1.out]
 rw [hN] at c0 c1 c2 c3 c4 c5 c6 c7
 (try rw [hN])
 cases qn
 rotate_left
 cases qo
 rotate_left
 cases qu
 rotate_left
 cases qh
 have zqh:(hi == 0)=false:=beq_eq_false_iff_ne.2 (of_decide_eq_false hqh)
 have yqh:¬ hi=0:=of_decide_eq_false hqh
 clear hqh
 rotate_left
 obtain rfl:hi=0:=of_decide_eq_true hqh
 clear hqh
 cases qw
 have z1:=noW_pos HQW.out
 rotate_left
 obtain ⟨rfl,rfl⟩:=noW_zero HQW.out
 all_goals (go_wp2_with (first | (go_at_call 69;((with_reducible refine (CU.out _).mono ?_));rintro e w2 ⟨rfl,rfl⟩) | (go_at_call 128;((with_reducible refine (CN.out _).mono ?_));rintro e w2 ⟨rfl,rfl⟩) | (go_at_call 95;((with_reducible refine (C1.out _).mono ?_));rintro e w2 ⟨rfl,rfl⟩));go_ret;exact ⟨by rw [HF.out];first | rfl | simp,HB.out⟩)
set_option maxRecDepth 100000 in
set_option maxHeartbeats 8000000 in
theorem rIsField_1 (nm of_ up:ByteArray) (lo hi:Int) (ws:List ByteArray) (ns:List Int) (us:List Value) (w:World) (h:Mem.rep [] w ((nm,of_,up,1,lo,hi,ws,ns):Fld) us) (hww:ws.length≤1000000) (hws:ns.length≤1000000):Calls Tryz.prog 130 #[.agg us.toArray] w (BoolP (Sx.fldB ((nm,of_,up,1,lo,hi,ws,ns):Fld)) w):=by
 have h0:=h
 obtain ⟨A,c,B,d,rfl,s1,s2,a4,a5,a6,a1,a2,a3,b1,b2,e1,e2⟩:=rep_fld h
 have a1:nm.size≤9223372036854775807:=a1
 have a2:of_.size≤9223372036854775807:=a2
 have a3:up.size≤9223372036854775807:=a3
 have CU:=aI (fun w=>show Calls Tryz.prog 69 #[.int .i64 1] w fun e w'=>e=.returned (.tuple #[.bool true,.bool false,.bool true,.bool true,.bool false])∧w=w' from uses_any 1 w)
 have CN:=aI (fun w=>rIsName_any nm w a1)
 obtain ⟨qn,hqn⟩:∃ b,Sx.nm nm=b:=⟨_,rfl⟩
 rw [hqn] at CN
 obtain ⟨qu,hqu⟩:∃ b,Sx.em up=b:=⟨_,rfl⟩
 obtain ⟨yqu1,yqu2,yqu3⟩:=em_spell up
 rw [hqu] at yqu1 yqu2 yqu3
 obtain ⟨qw,hqw⟩:∃ b,Sx.noW ((nm,of_,up,1,lo,hi,ws,ns):Fld)=b:=⟨_,rfl⟩
 have CO:=aI (fun w=>rIsName_any of_ w a2)
 obtain ⟨qf,hqf⟩:∃ b,Sx.nm of_=b:=⟨_,rfl⟩
 rw [hqf] at CO
 have C1:=aI (rSpan_any lo hi 0 65536)
 obtain ⟨q1,hq1⟩:∃ b,Sx.span lo hi 0 65536=b:=⟨_,rfl⟩
 rw [hq1] at C1
 have HF:=aI (show Sx.fldB ((nm,of_,up,1,lo,hi,ws,ns):Fld)=(qn && (qu && (qw && (qf && q1)))) by rw [← hq1,← hqf,← hqn,← hqu,← hqw];rfl)
 obtain ⟨W1,hW1⟩:∃ X,w.alloc (.cells #[.string nm,.string of_,.string up,.int .i64 1,.int .i64 lo,.int .i64 hi,.slice A ws.length c,.slice B ns.length d] 52)=X:=⟨_,rfl⟩
 have HB:=aI (show Below w.heap.size w W1 by rw [← hW1];exact (Below.refl w.heap.size w).alloc (Nat.le_refl _) _)
 have hbk:Blk W1 w.heap.size 52 #[.string nm,.string of_,.string up,.int .i64 1,.int .i64 lo,.int .i64 hi,.slice A ws.length c,.slice B ns.length d]:=by rw [← hW1];exact Blk.new w _ _
 have c0:=hbk.cell 0;have c1:=hbk.cell 1;have c2:=hbk.cell 2;have c3:=hbk.cell 3;have c4:=hbk.cell 4;have c5:=hbk.cell 5;have c6:=hbk.cell 6;have c7:=hbk.cell 7
 simp at c0 c1 c2 c3 c4 c5 c6 c7
 have HW1:=aI hW1
 show Calls Tryz.prog 130 #[.agg #[.string nm,.string of_,.string up,.int .i64 1,.int .i64 lo,.int .i64 hi,.slice A ws.length c,.slice B ns.length d]] w _
 have HQW:=aI (show (decide (ws.length=0) && decide (ns.length=0))=qw from hqw)
 clear h h0 s1 s2 a1 a2 a3 a4 a5 a6 b1 b2 e1 e2 hbk hW1 hq1 hqf hqn hqu hqw
 generalize Sx.fldB ((nm,of_,up,1,lo,hi,ws,ns):Fld)=fb at *
 obtain ⟨wl,hwl⟩:∃ n,ws.length=n:=⟨_,rfl⟩
 obtain ⟨nl,hnl⟩:∃ n,ns.length=n:=⟨_,rfl⟩
 rw [hwl] at c6 hww HW1
 rw [hnl] at c7 hws HW1
 rw [hwl,hnl] at HQW
 rw [hwl,hnl]
 clear hwl hnl
 obtain ⟨N,hN⟩:∃ n,w.heap.size=n:=⟨_,rfl⟩
 go_enter Tryz.func130,Tryz.ntmps130
 go_upto_region 1 with fail
 rw [HW1.out]
 rw [hN] at c0 c1 c2 c3 c4 c5 c6 c7
 (try rw [hN])
 cases qn
 rotate_left
 cases qu
 rotate_left
 cases qw
 have z1:=noW_pos HQW.out
 rotate_left
 obtain ⟨rfl,rfl⟩:=noW_zero HQW.out
 cases qf
 rotate_left
 all_goals (go_wp2_with (first | (go_at_call 69;((with_reducible refine (CU.out _).mono ?_));rintro e w2 ⟨rfl,rfl⟩) | (go_at_call 128;((with_reducible refine (CN.out _).mono ?_));rintro e w2 ⟨rfl,rfl⟩) | (go_at_call 128;((with_reducible refine (CO.out _).mono ?_));rintro e w2 ⟨rfl,rfl⟩) | (go_at_call 129;((with_reducible refine (C1.out _).mono ?_));rintro e w2 ⟨rfl,rfl⟩));go_ret;exact ⟨by rw [HF.out];first | rfl | simp,HB.out⟩)
set_option maxRecDepth 100000 in
set_option maxHeartbeats 8000000 in
theorem rIsField_2 (nm of_ up:ByteArray) (lo hi:Int) (ws:List ByteArray) (ns:List Int) (us:List Value) (w:World) (h:Mem.rep [] w ((nm,of_,up,2,lo,hi,ws,ns):Fld) us) (hww:ws.length≤1000000) (hws:ns.length≤1000000):Calls Tryz.prog 130 #[.agg us.toArray] w (BoolP (Sx.fldB ((nm,of_,up,2,lo,hi,ws,ns):Fld)) w):=by
 have h0:=h
 obtain ⟨A,c,B,d,rfl,s1,s2,a4,a5,a6,a1,a2,a3,b1,b2,e1,e2⟩:=rep_fld h
 have a1:nm.size≤9223372036854775807:=a1
 have a2:of_.size≤9223372036854775807:=a2
 have a3:up.size≤9223372036854775807:=a3
 have CU:=aI (fun w=>show Calls Tryz.prog 69 #[.int .i64 2] w fun e w'=>e=.returned (.tuple #[.bool false,.bool false,.bool true,.bool true,.bool false])∧w=w' from uses_any 2 w)
 have CN:=aI (fun w=>rIsName_any nm w a1)
 obtain ⟨qn,hqn⟩:∃ b,Sx.nm nm=b:=⟨_,rfl⟩
 rw [hqn] at CN
 obtain ⟨qo,hqo⟩:∃ b,Sx.em of_=b:=⟨_,rfl⟩
 obtain ⟨yqo1,yqo2,yqo3⟩:=em_spell of_
 rw [hqo] at yqo1 yqo2 yqo3
 obtain ⟨qu,hqu⟩:∃ b,Sx.em up=b:=⟨_,rfl⟩
 obtain ⟨yqu1,yqu2,yqu3⟩:=em_spell up
 rw [hqu] at yqu1 yqu2 yqu3
 obtain ⟨qw,hqw⟩:∃ b,Sx.noW ((nm,of_,up,2,lo,hi,ws,ns):Fld)=b:=⟨_,rfl⟩
 have C1:=aI (rSpan_any lo hi (-1048576) 1048576)
 obtain ⟨q1,hq1⟩:∃ b,Sx.span lo hi (-1048576) 1048576=b:=⟨_,rfl⟩
 rw [hq1] at C1
 have HF:=aI (show Sx.fldB ((nm,of_,up,2,lo,hi,ws,ns):Fld)=(qn && (qo && (qu && (qw && q1)))) by rw [← hq1,← hqn,← hqo,← hqu,← hqw];rfl)
 obtain ⟨W1,hW1⟩:∃ X,w.alloc (.cells #[.string nm,.string of_,.string up,.int .i64 2,.int .i64 lo,.int .i64 hi,.slice A ws.length c,.slice B ns.length d] 52)=X:=⟨_,rfl⟩
 have HB:=aI (show Below w.heap.size w W1 by rw [← hW1];exact (Below.refl w.heap.size w).alloc (Nat.le_refl _) _)
 have hbk:Blk W1 w.heap.size 52 #[.string nm,.string of_,.string up,.int .i64 2,.int .i64 lo,.int .i64 hi,.slice A ws.length c,.slice B ns.length d]:=by rw [← hW1];exact Blk.new w _ _
 have c0:=hbk.cell 0;have c1:=hbk.cell 1;have c2:=hbk.cell 2;have c3:=hbk.cell 3;have c4:=hbk.cell 4;have c5:=hbk.cell 5;have c6:=hbk.cell 6;have c7:=hbk.cell 7
 simp at c0 c1 c2 c3 c4 c5 c6 c7
 have HW1:=aI hW1
 show Calls Tryz.prog 130 #[.agg #[.string nm,.string of_,.string up,.int .i64 2,.int .i64 lo,.int .i64 hi,.slice A ws.length c,.slice B ns.length d]] w _
 have HQW:=aI (show (decide (ws.length=0) && decide (ns.length=0))=qw from hqw)
 clear h h0 s1 s2 a1 a2 a3 a4 a5 a6 b1 b2 e1 e2 hbk hW1 hq1 hqn hqo hqu hqw
 generalize Sx.fldB ((nm,of_,up,2,lo,hi,ws,ns):Fld)=fb at *
 obtain ⟨wl,hwl⟩:∃ n,ws.length=n:=⟨_,rfl⟩
 obtain ⟨nl,hnl⟩:∃ n,ns.length=n:=⟨_,rfl⟩
 rw [hwl] at c6 hww HW1
 rw [hnl] at c7 hws HW1
 rw [hwl,hnl] at HQW
 rw [hwl,hnl]
 clear hwl hnl
 obtain ⟨N,hN⟩:∃ n,w.heap.size=n:=⟨_,rfl⟩
 go_enter Tryz.func130,Tryz.ntmps130
 go_upto_region 1 with fail
 rw [HW1.out]
 rw [hN] at c0 c1 c2 c3 c4 c5 c6 c7
 (try rw [hN])
 cases qn
 rotate_left
 cases qo
 rotate_left
 cases qu
 rotate_left
 cases qw
 have z1:=noW_pos HQW.out
 rotate_left
 obtain ⟨rfl,rfl⟩:=noW_zero HQW.out
 all_goals (go_wp2_with (first | (go_at_call 69;((with_reducible refine (CU.out _).mono ?_));rintro e w2 ⟨rfl,rfl⟩) | (go_at_call 128;((with_reducible refine (CN.out _).mono ?_));rintro e w2 ⟨rfl,rfl⟩) | (go_at_call 129;((with_reducible refine (C1.out _).mono ?_));rintro e w2 ⟨rfl,rfl⟩));go_ret;exact ⟨by rw [HF.out];first | rfl | simp,HB.out⟩)
set_option maxRecDepth 100000 in
set_option maxHeartbeats 8000000 in
theorem rIsField_3 (nm of_ up:ByteArray) (lo hi:Int) (ws:List ByteArray) (ns:List Int) (us:List Value) (w:World) (h:Mem.rep [] w ((nm,of_,up,3,lo,hi,ws,ns):Fld) us) (hww:ws.length≤1000000) (hws:ns.length≤1000000):Calls Tryz.prog 130 #[.agg us.toArray] w (BoolP (Sx.fldB ((nm,of_,up,3,lo,hi,ws,ns):Fld)) w):=by
 have h0:=h
 obtain ⟨A,c,B,d,rfl,s1,s2,a4,a5,a6,a1,a2,a3,b1,b2,e1,e2⟩:=rep_fld h
 have a1:nm.size≤9223372036854775807:=a1
 have a2:of_.size≤9223372036854775807:=a2
 have a3:up.size≤9223372036854775807:=a3
 have CU:=aI (fun w=>show Calls Tryz.prog 69 #[.int .i64 3] w fun e w'=>e=.returned (.tuple #[.bool false,.bool false,.bool false,.bool false,.bool true])∧w=w' from uses_any 3 w)
 have CN:=aI (fun w=>rIsName_any nm w a1)
 obtain ⟨qn,hqn⟩:∃ b,Sx.nm nm=b:=⟨_,rfl⟩
 rw [hqn] at CN
 obtain ⟨qo,hqo⟩:∃ b,Sx.em of_=b:=⟨_,rfl⟩
 obtain ⟨yqo1,yqo2,yqo3⟩:=em_spell of_
 rw [hqo] at yqo1 yqo2 yqo3
 obtain ⟨qu,hqu⟩:∃ b,Sx.em up=b:=⟨_,rfl⟩
 obtain ⟨yqu1,yqu2,yqu3⟩:=em_spell up
 rw [hqu] at yqu1 yqu2 yqu3
 obtain ⟨ql,hql⟩:∃ b,decide (lo=0)=b:=⟨_,rfl⟩
 obtain ⟨qh,hqh⟩:∃ b,decide (hi=0)=b:=⟨_,rfl⟩
 have C1:=aI (fun (W':World) (hb:Below w.heap.size w W')=>show Calls Tryz.prog 165 #[.agg #[.string nm,.string of_,.string up,.int .i64 3,.int .i64 lo,.int .i64 hi,.slice A ws.length c,.slice B ns.length d]] W' (BoolP (Sx.pickB (Sc.words ((nm,of_,up,3,lo,hi,ws,ns):Fld)) (Sc.wts ((nm,of_,up,3,lo,hi,ws,ns):Fld))) W') from rIsPick_any ((nm,of_,up,3,lo,hi,ws,ns):Fld) _ W' (Mem.keep h0 (Chg.of_below hb)) hws)
 obtain ⟨q1,hq1⟩:∃ b,Sx.pickB (Sc.words ((nm,of_,up,3,lo,hi,ws,ns):Fld)) (Sc.wts ((nm,of_,up,3,lo,hi,ws,ns):Fld))=b:=⟨_,rfl⟩
 rw [hq1] at C1
 have HF:=aI (show Sx.fldB ((nm,of_,up,3,lo,hi,ws,ns):Fld)=(qn && (qo && (qu && (ql && (qh && q1))))) by rw [← hq1,← hqh,← hql,← hqn,← hqo,← hqu];rfl)
 obtain ⟨W1,hW1⟩:∃ X,w.alloc (.cells #[.string nm,.string of_,.string up,.int .i64 3,.int .i64 lo,.int .i64 hi,.slice A ws.length c,.slice B ns.length d] 52)=X:=⟨_,rfl⟩
 have HB:=aI (show Below w.heap.size w W1 by rw [← hW1];exact (Below.refl w.heap.size w).alloc (Nat.le_refl _) _)
 have hbk:Blk W1 w.heap.size 52 #[.string nm,.string of_,.string up,.int .i64 3,.int .i64 lo,.int .i64 hi,.slice A ws.length c,.slice B ns.length d]:=by rw [← hW1];exact Blk.new w _ _
 have c0:=hbk.cell 0;have c1:=hbk.cell 1;have c2:=hbk.cell 2;have c3:=hbk.cell 3;have c4:=hbk.cell 4;have c5:=hbk.cell 5;have c6:=hbk.cell 6;have c7:=hbk.cell 7
 simp at c0 c1 c2 c3 c4 c5 c6 c7
 have HW1:=aI hW1
 show Calls Tryz.prog 130 #[.agg #[.string nm,.string of_,.string up,.int .i64 3,.int .i64 lo,.int .i64 hi,.slice A ws.length c,.slice B ns.length d]] w _
 clear h h0 s1 s2 a1 a2 a3 a4 a5 a6 b1 b2 e1 e2 hbk hW1 hq1 hqn hqo hqu
 generalize Sx.fldB ((nm,of_,up,3,lo,hi,ws,ns):Fld)=fb at *
 obtain ⟨wl,hwl⟩:∃ n,ws.length=n:=⟨_,rfl⟩
 obtain ⟨nl,hnl⟩:∃ n,ns.length=n:=⟨_,rfl⟩
 rw [hwl] at c6 hww HW1
 rw [hnl] at c7 hws HW1
 rw [hwl,hnl] at C1
 rw [hwl,hnl]
 clear hwl hnl
 obtain ⟨N,hN⟩:∃ n,w.heap.size=n:=⟨_,rfl⟩
 go_enter Tryz.func130,Tryz.ntmps130
 go_upto_region 1 with fail
 rw [HW1.out]
 rw [hN] at c0 c1 c2 c3 c4 c5 c6 c7
 (try rw [hN])
 cases qn
 rotate_left
 cases qo
 rotate_left
 cases qu
 rotate_left
 cases ql
 have zql:(lo == 0)=false:=beq_eq_false_iff_ne.2 (of_decide_eq_false hql)
 have yql:¬ lo=0:=of_decide_eq_false hql
 clear hql
 rotate_left
 obtain rfl:lo=0:=of_decide_eq_true hql
 clear hql
 cases qh
 have zqh:(hi == 0)=false:=beq_eq_false_iff_ne.2 (of_decide_eq_false hqh)
 have yqh:¬ hi=0:=of_decide_eq_false hqh
 clear hqh
 rotate_left
 obtain rfl:hi=0:=of_decide_eq_true hqh
 clear hqh
 all_goals (go_wp2_with (first | (go_at_call 69;((with_reducible refine (CU.out _).mono ?_));rintro e w2 ⟨rfl,rfl⟩) | (go_at_call 128;((with_reducible refine (CN.out _).mono ?_));rintro e w2 ⟨rfl,rfl⟩) | (go_at_call 165;((with_reducible refine (C1.out _ HB.out).mono ?_));rintro e w2 ⟨rfl,hb2⟩;replace HB:=aI (HB.out.trans (hb2.mono HB.out.size));clear hb2));go_ret;exact ⟨by rw [HF.out];first | rfl | simp,HB.out⟩)
set_option maxRecDepth 100000 in
set_option maxHeartbeats 8000000 in
theorem rIsField_4 (nm of_ up:ByteArray) (lo hi:Int) (ws:List ByteArray) (ns:List Int) (us:List Value) (w:World) (h:Mem.rep [] w ((nm,of_,up,4,lo,hi,ws,ns):Fld) us) (hww:ws.length≤1000000) (hws:ns.length≤1000000):Calls Tryz.prog 130 #[.agg us.toArray] w (BoolP (Sx.fldB ((nm,of_,up,4,lo,hi,ws,ns):Fld)) w):=by
 have h0:=h
 obtain ⟨A,c,B,d,rfl,s1,s2,a4,a5,a6,a1,a2,a3,b1,b2,e1,e2⟩:=rep_fld h
 have a1:nm.size≤9223372036854775807:=a1
 have a2:of_.size≤9223372036854775807:=a2
 have a3:up.size≤9223372036854775807:=a3
 have CU:=aI (fun w=>show Calls Tryz.prog 69 #[.int .i64 4] w fun e w'=>e=.returned (.tuple #[.bool true,.bool false,.bool true,.bool true,.bool false])∧w=w' from uses_any 4 w)
 have CN:=aI (fun w=>rIsName_any nm w a1)
 obtain ⟨qn,hqn⟩:∃ b,Sx.nm nm=b:=⟨_,rfl⟩
 rw [hqn] at CN
 obtain ⟨qu,hqu⟩:∃ b,Sx.em up=b:=⟨_,rfl⟩
 obtain ⟨yqu1,yqu2,yqu3⟩:=em_spell up
 rw [hqu] at yqu1 yqu2 yqu3
 obtain ⟨qw,hqw⟩:∃ b,Sx.noW ((nm,of_,up,4,lo,hi,ws,ns):Fld)=b:=⟨_,rfl⟩
 have CO:=aI (fun w=>rIsName_any of_ w a2)
 obtain ⟨qf,hqf⟩:∃ b,Sx.nm of_=b:=⟨_,rfl⟩
 rw [hqf] at CO
 obtain ⟨qe,hqe⟩:∃ b,Sx.em of_=b:=⟨_,rfl⟩
 obtain ⟨yqe1,yqe2,yqe3⟩:=em_spell of_
 rw [hqe] at yqe1 yqe2 yqe3
 have C1:=aI (rSpan_any lo hi (-1048576) 1048576)
 obtain ⟨q1,hq1⟩:∃ b,Sx.span lo hi (-1048576) 1048576=b:=⟨_,rfl⟩
 rw [hq1] at C1
 have HF:=aI (show Sx.fldB ((nm,of_,up,4,lo,hi,ws,ns):Fld)=(qn && (qu && (qw && ((qe || qf) && q1)))) by rw [← hq1,← hqe,← hqf,← hqn,← hqu,← hqw];rfl)
 obtain ⟨W1,hW1⟩:∃ X,w.alloc (.cells #[.string nm,.string of_,.string up,.int .i64 4,.int .i64 lo,.int .i64 hi,.slice A ws.length c,.slice B ns.length d] 52)=X:=⟨_,rfl⟩
 have HB:=aI (show Below w.heap.size w W1 by rw [← hW1];exact (Below.refl w.heap.size w).alloc (Nat.le_refl _) _)
 have hbk:Blk W1 w.heap.size 52 #[.string nm,.string of_,.string up,.int .i64 4,.int .i64 lo,.int .i64 hi,.slice A ws.length c,.slice B ns.length d]:=by rw [← hW1];exact Blk.new w _ _
 have c0:=hbk.cell 0;have c1:=hbk.cell 1;have c2:=hbk.cell 2;have c3:=hbk.cell 3;have c4:=hbk.cell 4;have c5:=hbk.cell 5;have c6:=hbk.cell 6;have c7:=hbk.cell 7
 simp at c0 c1 c2 c3 c4 c5 c6 c7
 have HW1:=aI hW1
 show Calls Tryz.prog 130 #[.agg #[.string nm,.string of_,.string up,.int .i64 4,.int .i64 lo,.int .i64 hi,.slice A ws.length c,.slice B ns.length d]] w _
 have HQW:=aI (show (decide (ws.length=0) && decide (ns.length=0))=qw from hqw)
 clear h h0 s1 s2 a1 a2 a3 a4 a5 a6 b1 b2 e1 e2 hbk hW1 hq1 hqe hqf hqn hqu hqw
 generalize Sx.fldB ((nm,of_,up,4,lo,hi,ws,ns):Fld)=fb at *
 obtain ⟨wl,hwl⟩:∃ n,ws.length=n:=⟨_,rfl⟩
 obtain ⟨nl,hnl⟩:∃ n,ns.length=n:=⟨_,rfl⟩
 rw [hwl] at c6 hww HW1
 rw [hnl] at c7 hws HW1
 rw [hwl,hnl] at HQW
 rw [hwl,hnl]
 clear hwl hnl
 obtain ⟨N,hN⟩:∃ n,w.heap.size=n:=⟨_,rfl⟩
 go_enter Tryz.func130,Tryz.ntmps130
 go_upto_region 1 with fail
 rw [HW1.out]
 rw [hN] at c0 c1 c2 c3 c4 c5 c6 c7
 (try rw [hN])
 cases qn
 rotate_left
 cases qu
 rotate_left
 cases qw
 have z1:=noW_pos HQW.out
 rotate_left
 obtain ⟨rfl,rfl⟩:=noW_zero HQW.out
 cases qf
 cases qe
 rotate_left
 all_goals (go_wp2_with (first | (go_at_call 69;((with_reducible refine (CU.out _).mono ?_));rintro e w2 ⟨rfl,rfl⟩) | (go_at_call 128;((with_reducible refine (CN.out _).mono ?_));rintro e w2 ⟨rfl,rfl⟩) | (go_at_call 128;((with_reducible refine (CO.out _).mono ?_));rintro e w2 ⟨rfl,rfl⟩) | (go_at_call 129;((with_reducible refine (C1.out _).mono ?_));rintro e w2 ⟨rfl,rfl⟩));go_ret;exact ⟨by rw [HF.out];first | rfl | simp,HB.out⟩)
set_option maxRecDepth 100000 in
set_option maxHeartbeats 8000000 in
theorem rIsField_5 (nm of_ up:ByteArray) (lo hi:Int) (ws:List ByteArray) (ns:List Int) (us:List Value) (w:World) (h:Mem.rep [] w ((nm,of_,up,5,lo,hi,ws,ns):Fld) us) (hww:ws.length≤1000000) (hws:ns.length≤1000000):Calls Tryz.prog 130 #[.agg us.toArray] w (BoolP (Sx.fldB ((nm,of_,up,5,lo,hi,ws,ns):Fld)) w):=by
 have h0:=h
 obtain ⟨A,c,B,d,rfl,s1,s2,a4,a5,a6,a1,a2,a3,b1,b2,e1,e2⟩:=rep_fld h
 have a1:nm.size≤9223372036854775807:=a1
 have a2:of_.size≤9223372036854775807:=a2
 have a3:up.size≤9223372036854775807:=a3
 have CU:=aI (fun w=>show Calls Tryz.prog 69 #[.int .i64 5] w fun e w'=>e=.returned (.tuple #[.bool true,.bool false,.bool true,.bool true,.bool false])∧w=w' from uses_any 5 w)
 have CN:=aI (fun w=>rIsName_any nm w a1)
 obtain ⟨qn,hqn⟩:∃ b,Sx.nm nm=b:=⟨_,rfl⟩
 rw [hqn] at CN
 obtain ⟨qu,hqu⟩:∃ b,Sx.em up=b:=⟨_,rfl⟩
 obtain ⟨yqu1,yqu2,yqu3⟩:=em_spell up
 rw [hqu] at yqu1 yqu2 yqu3
 obtain ⟨qw,hqw⟩:∃ b,Sx.noW ((nm,of_,up,5,lo,hi,ws,ns):Fld)=b:=⟨_,rfl⟩
 have CO:=aI (fun w=>rIsName_any of_ w a2)
 obtain ⟨qf,hqf⟩:∃ b,Sx.nm of_=b:=⟨_,rfl⟩
 rw [hqf] at CO
 have C1:=aI (rSpan_any lo hi 0 32)
 obtain ⟨q1,hq1⟩:∃ b,Sx.span lo hi 0 32=b:=⟨_,rfl⟩
 rw [hq1] at C1
 have HF:=aI (show Sx.fldB ((nm,of_,up,5,lo,hi,ws,ns):Fld)=(qn && (qu && (qw && (qf && q1)))) by rw [← hq1,← hqf,← hqn,← hqu,← hqw];rfl)
 obtain ⟨W1,hW1⟩:∃ X,w.alloc (.cells #[.string nm,.string of_,.string up,.int .i64 5,.int .i64 lo,.int .i64 hi,.slice A ws.length c,.slice B ns.length d] 52)=X:=⟨_,rfl⟩
 have HB:=aI (show Below w.heap.size w W1 by rw [← hW1];exact (Below.refl w.heap.size w).alloc (Nat.le_refl _) _)
 have hbk:Blk W1 w.heap.size 52 #[.string nm,.string of_,.string up,.int .i64 5,.int .i64 lo,.int .i64 hi,.slice A ws.length c,.slice B ns.length d]:=by rw [← hW1];exact Blk.new w _ _
 have c0:=hbk.cell 0;have c1:=hbk.cell 1;have c2:=hbk.cell 2;have c3:=hbk.cell 3;have c4:=hbk.cell 4;have c5:=hbk.cell 5;have c6:=hbk.cell 6;have c7:=hbk.cell 7
 simp at c0 c1 c2 c3 c4 c5 c6 c7
 have HW1:=aI hW1
 show Calls Tryz.prog 130 #[.agg #[.string nm,.string of_,.string up,.int .i64 5,.int .i64 lo,.int .i64 hi,.slice A ws.length c,.slice B ns.length d]] w _
 have HQW:=aI (show (decide (ws.length=0) && decide (ns.length=0))=qw from hqw)
 clear h h0 s1 s2 a1 a2 a3 a4 a5 a6 b1 b2 e1 e2 hbk hW1 hq1 hqf hqn hqu hqw
 generalize Sx.fldB ((nm,of_,up,5,lo,hi,ws,ns):Fld)=fb at *
 obtain ⟨wl,hwl⟩:∃ n,ws.length=n:=⟨_,rfl⟩
 obtain ⟨nl,hnl⟩:∃ n,ns.length=n:=⟨_,rfl⟩
 rw [hwl] at c6 hww HW1
 rw [hnl] at c7 hws HW1
 rw [hwl,hnl] at HQW
 rw [hwl,hnl]
 clear hwl hnl
 obtain ⟨N,hN⟩:∃ n,w.heap.size=n:=⟨_,rfl⟩
 go_enter Tryz.func130,Tryz.ntmps130
 go_upto_region 1 with fail
 rw [HW1.out]
 rw [hN] at c0 c1 c2 c3 c4 c5 c6 c7
 (try rw [hN])
 cases qn
 rotate_left
 cases qu
 rotate_left
 cases qw
 have z1:=noW_pos HQW.out
 rotate_left
 obtain ⟨rfl,rfl⟩:=noW_zero HQW.out
 cases qf
 rotate_left
 all_goals (go_wp2_with (first | (go_at_call 69;((with_reducible refine (CU.out _).mono ?_));rintro e w2 ⟨rfl,rfl⟩) | (go_at_call 128;((with_reducible refine (CN.out _).mono ?_));rintro e w2 ⟨rfl,rfl⟩) | (go_at_call 128;((with_reducible refine (CO.out _).mono ?_));rintro e w2 ⟨rfl,rfl⟩) | (go_at_call 129;((with_reducible refine (C1.out _).mono ?_));rintro e w2 ⟨rfl,rfl⟩));go_ret;exact ⟨by rw [HF.out];first | rfl | simp,HB.out⟩)
set_option maxRecDepth 100000 in
set_option maxHeartbeats 8000000 in
theorem rIsField_6 (nm of_ up:ByteArray) (lo hi:Int) (ws:List ByteArray) (ns:List Int) (us:List Value) (w:World) (h:Mem.rep [] w ((nm,of_,up,6,lo,hi,ws,ns):Fld) us) (hww:ws.length≤1000000) (hws:ns.length≤1000000):Calls Tryz.prog 130 #[.agg us.toArray] w (BoolP (Sx.fldB ((nm,of_,up,6,lo,hi,ws,ns):Fld)) w):=by
 have h0:=h
 obtain ⟨A,c,B,d,rfl,s1,s2,a4,a5,a6,a1,a2,a3,b1,b2,e1,e2⟩:=rep_fld h
 have a1:nm.size≤9223372036854775807:=a1
 have a2:of_.size≤9223372036854775807:=a2
 have a3:up.size≤9223372036854775807:=a3
 have CU:=aI (fun w=>show Calls Tryz.prog 69 #[.int .i64 6] w fun e w'=>e=.returned (.tuple #[.bool true,.bool false,.bool false,.bool false,.bool false])∧w=w' from uses_any 6 w)
 have CN:=aI (fun w=>rIsName_any nm w a1)
 obtain ⟨qn,hqn⟩:∃ b,Sx.nm nm=b:=⟨_,rfl⟩
 rw [hqn] at CN
 obtain ⟨qu,hqu⟩:∃ b,Sx.em up=b:=⟨_,rfl⟩
 obtain ⟨yqu1,yqu2,yqu3⟩:=em_spell up
 rw [hqu] at yqu1 yqu2 yqu3
 obtain ⟨ql,hql⟩:∃ b,decide (lo=0)=b:=⟨_,rfl⟩
 obtain ⟨qh,hqh⟩:∃ b,decide (hi=0)=b:=⟨_,rfl⟩
 obtain ⟨qw,hqw⟩:∃ b,Sx.noW ((nm,of_,up,6,lo,hi,ws,ns):Fld)=b:=⟨_,rfl⟩
 have CO:=aI (fun w=>rIsName_any of_ w a2)
 obtain ⟨qf,hqf⟩:∃ b,Sx.nm of_=b:=⟨_,rfl⟩
 rw [hqf] at CO
 have HF:=aI (show Sx.fldB ((nm,of_,up,6,lo,hi,ws,ns):Fld)=(qn && (qu && (qw && (ql && (qh && qf))))) by rw [← hqf,← hqh,← hql,← hqn,← hqu,← hqw];rfl)
 obtain ⟨W1,hW1⟩:∃ X,w.alloc (.cells #[.string nm,.string of_,.string up,.int .i64 6,.int .i64 lo,.int .i64 hi,.slice A ws.length c,.slice B ns.length d] 52)=X:=⟨_,rfl⟩
 have HB:=aI (show Below w.heap.size w W1 by rw [← hW1];exact (Below.refl w.heap.size w).alloc (Nat.le_refl _) _)
 have hbk:Blk W1 w.heap.size 52 #[.string nm,.string of_,.string up,.int .i64 6,.int .i64 lo,.int .i64 hi,.slice A ws.length c,.slice B ns.length d]:=by rw [← hW1];exact Blk.new w _ _
 have c0:=hbk.cell 0;have c1:=hbk.cell 1;have c2:=hbk.cell 2;have c3:=hbk.cell 3;have c4:=hbk.cell 4;have c5:=hbk.cell 5;have c6:=hbk.cell 6;have c7:=hbk.cell 7
 simp at c0 c1 c2 c3 c4 c5 c6 c7
 have HW1:=aI hW1
 show Calls Tryz.prog 130 #[.agg #[.string nm,.string of_,.string up,.int .i64 6,.int .i64 lo,.int .i64 hi,.slice A ws.length c,.slice B ns.length d]] w _
 have HQW:=aI (show (decide (ws.length=0) && decide (ns.length=0))=qw from hqw)
 clear h h0 s1 s2 a1 a2 a3 a4 a5 a6 b1 b2 e1 e2 hbk hW1 hqf hqn hqu hqw
 generalize Sx.fldB ((nm,of_,up,6,lo,hi,ws,ns):Fld)=fb at *
 obtain ⟨wl,hwl⟩:∃ n,ws.length=n:=⟨_,rfl⟩
 obtain ⟨nl,hnl⟩:∃ n,ns.length=n:=⟨_,rfl⟩
 rw [hwl] at c6 hww HW1
 rw [hnl] at c7 hws HW1
 rw [hwl,hnl] at HQW
 rw [hwl,hnl]
 clear hwl hnl
 obtain ⟨N,hN⟩:∃ n,w.heap.size=n:=⟨_,rfl⟩
 go_enter Tryz.func130,Tryz.ntmps130
 go_upto_region 1 with fail
 rw [HW1.out]
 rw [hN] at c0 c1 c2 c3 c4 c5 c6 c7
 (try rw [hN])
 cases qn
 rotate_left
 cases qu
 rotate_left
 cases ql
 have zql:(lo == 0)=false:=beq_eq_false_iff_ne.2 (of_decide_eq_false hql)
 have yql:¬ lo=0:=of_decide_eq_false hql
 clear hql
 rotate_left
 obtain rfl:lo=0:=of_decide_eq_true hql
 clear hql
 cases qh
 have zqh:(hi == 0)=false:=beq_eq_false_iff_ne.2 (of_decide_eq_false hqh)
 have yqh:¬ hi=0:=of_decide_eq_false hqh
 clear hqh
 rotate_left
 obtain rfl:hi=0:=of_decide_eq_true hqh
 clear hqh
 cases qw
 have z1:=noW_pos HQW.out
 rotate_left
 obtain ⟨rfl,rfl⟩:=noW_zero HQW.out
 cases qf
 rotate_left
 all_goals (go_wp2_with (first | (go_at_call 69;((with_reducible refine (CU.out _).mono ?_));rintro e w2 ⟨rfl,rfl⟩) | (go_at_call 128;((with_reducible refine (CN.out _).mono ?_));rintro e w2 ⟨rfl,rfl⟩) | (go_at_call 128;((with_reducible refine (CO.out _).mono ?_));rintro e w2 ⟨rfl,rfl⟩));go_ret;exact ⟨by rw [HF.out];first | rfl | simp,HB.out⟩)
set_option maxRecDepth 100000 in
set_option maxHeartbeats 8000000 in
theorem rIsField_7 (nm of_ up:ByteArray) (lo hi:Int) (ws:List ByteArray) (ns:List Int) (us:List Value) (w:World) (h:Mem.rep [] w ((nm,of_,up,7,lo,hi,ws,ns):Fld) us) (hww:ws.length≤1000000) (hws:ns.length≤1000000):Calls Tryz.prog 130 #[.agg us.toArray] w (BoolP (Sx.fldB ((nm,of_,up,7,lo,hi,ws,ns):Fld)) w):=by
 have h0:=h
 obtain ⟨A,c,B,d,rfl,s1,s2,a4,a5,a6,a1,a2,a3,b1,b2,e1,e2⟩:=rep_fld h
 have a1:nm.size≤9223372036854775807:=a1
 have a2:of_.size≤9223372036854775807:=a2
 have a3:up.size≤9223372036854775807:=a3
 have CU:=aI (fun w=>show Calls Tryz.prog 69 #[.int .i64 7] w fun e w'=>e=.returned (.tuple #[.bool true,.bool true,.bool true,.bool true,.bool false])∧w=w' from uses_any 7 w)
 have CN:=aI (fun w=>rIsName_any nm w a1)
 obtain ⟨qn,hqn⟩:∃ b,Sx.nm nm=b:=⟨_,rfl⟩
 rw [hqn] at CN
 obtain ⟨qw,hqw⟩:∃ b,Sx.noW ((nm,of_,up,7,lo,hi,ws,ns):Fld)=b:=⟨_,rfl⟩
 have CO:=aI (fun w=>rIsName_any of_ w a2)
 obtain ⟨qf,hqf⟩:∃ b,Sx.nm of_=b:=⟨_,rfl⟩
 rw [hqf] at CO
 have CP:=aI (fun w=>rIsName_any up w a3)
 obtain ⟨qp,hqp⟩:∃ b,Sx.nm up=b:=⟨_,rfl⟩
 rw [hqp] at CP
 have C1:=aI (rSpan_any lo hi 0 1048576)
 obtain ⟨q1,hq1⟩:∃ b,Sx.span lo hi 0 1048576=b:=⟨_,rfl⟩
 rw [hq1] at C1
 have HF:=aI (show Sx.fldB ((nm,of_,up,7,lo,hi,ws,ns):Fld)=(qn && (qw && (qf && (qp && q1)))) by rw [← hq1,← hqf,← hqn,← hqp,← hqw];rfl)
 obtain ⟨W1,hW1⟩:∃ X,w.alloc (.cells #[.string nm,.string of_,.string up,.int .i64 7,.int .i64 lo,.int .i64 hi,.slice A ws.length c,.slice B ns.length d] 52)=X:=⟨_,rfl⟩
 have HB:=aI (show Below w.heap.size w W1 by rw [← hW1];exact (Below.refl w.heap.size w).alloc (Nat.le_refl _) _)
 have hbk:Blk W1 w.heap.size 52 #[.string nm,.string of_,.string up,.int .i64 7,.int .i64 lo,.int .i64 hi,.slice A ws.length c,.slice B ns.length d]:=by rw [← hW1];exact Blk.new w _ _
 have c0:=hbk.cell 0;have c1:=hbk.cell 1;have c2:=hbk.cell 2;have c3:=hbk.cell 3;have c4:=hbk.cell 4;have c5:=hbk.cell 5;have c6:=hbk.cell 6;have c7:=hbk.cell 7
 simp at c0 c1 c2 c3 c4 c5 c6 c7
 have HW1:=aI hW1
 show Calls Tryz.prog 130 #[.agg #[.string nm,.string of_,.string up,.int .i64 7,.int .i64 lo,.int .i64 hi,.slice A ws.length c,.slice B ns.length d]] w _
 have HQW:=aI (show (decide (ws.length=0) && decide (ns.length=0))=qw from hqw)
 clear h h0 s1 s2 a1 a2 a3 a4 a5 a6 b1 b2 e1 e2 hbk hW1 hq1 hqf hqn hqp hqw
 generalize Sx.fldB ((nm,of_,up,7,lo,hi,ws,ns):Fld)=fb at *
 obtain ⟨wl,hwl⟩:∃ n,ws.length=n:=⟨_,rfl⟩
 obtain ⟨nl,hnl⟩:∃ n,ns.length=n:=⟨_,rfl⟩
 rw [hwl] at c6 hww HW1
 rw [hnl] at c7 hws HW1
 rw [hwl,hnl] at HQW
 rw [hwl,hnl]
 clear hwl hnl
 obtain ⟨N,hN⟩:∃ n,w.heap.size=n:=⟨_,rfl⟩
 go_enter Tryz.func130,Tryz.ntmps130
 go_upto_region 1 with fail
 rw [HW1.out]
 rw [hN] at c0 c1 c2 c3 c4 c5 c6 c7
 (try rw [hN])
 cases qn
 rotate_left
 cases qw
 have z1:=noW_pos HQW.out
 rotate_left
 obtain ⟨rfl,rfl⟩:=noW_zero HQW.out
 cases qf
 rotate_left
 cases qp
 rotate_left
 all_goals (go_wp2_with (first | (go_at_call 69;((with_reducible refine (CU.out _).mono ?_));rintro e w2 ⟨rfl,rfl⟩) | (go_at_call 128;((with_reducible refine (CN.out _).mono ?_));rintro e w2 ⟨rfl,rfl⟩) | (go_at_call 128;((with_reducible refine (CO.out _).mono ?_));rintro e w2 ⟨rfl,rfl⟩) | (go_at_call 128;((with_reducible refine (CP.out _).mono ?_));rintro e w2 ⟨rfl,rfl⟩) | (go_at_call 129;((with_reducible refine (C1.out _).mono ?_));rintro e w2 ⟨rfl,rfl⟩));go_ret;exact ⟨by rw [HF.out];first | rfl | simp,HB.out⟩)
set_option maxRecDepth 100000 in
set_option maxHeartbeats 8000000 in
theorem rIsField_8 (nm of_ up:ByteArray) (lo hi:Int) (ws:List ByteArray) (ns:List Int) (us:List Value) (w:World) (h:Mem.rep [] w ((nm,of_,up,8,lo,hi,ws,ns):Fld) us) (hww:ws.length≤1000000) (hws:ns.length≤1000000):Calls Tryz.prog 130 #[.agg us.toArray] w (BoolP (Sx.fldB ((nm,of_,up,8,lo,hi,ws,ns):Fld)) w):=by
 have h0:=h
 obtain ⟨A,c,B,d,rfl,s1,s2,a4,a5,a6,a1,a2,a3,b1,b2,e1,e2⟩:=rep_fld h
 have a1:nm.size≤9223372036854775807:=a1
 have a2:of_.size≤9223372036854775807:=a2
 have a3:up.size≤9223372036854775807:=a3
 have CU:=aI (fun w=>show Calls Tryz.prog 69 #[.int .i64 8] w fun e w'=>e=.returned (.tuple #[.bool true,.bool true,.bool false,.bool false,.bool false])∧w=w' from uses_any 8 w)
 have CN:=aI (fun w=>rIsName_any nm w a1)
 obtain ⟨qn,hqn⟩:∃ b,Sx.nm nm=b:=⟨_,rfl⟩
 rw [hqn] at CN
 obtain ⟨ql,hql⟩:∃ b,decide (lo=0)=b:=⟨_,rfl⟩
 obtain ⟨qh,hqh⟩:∃ b,decide (hi=0)=b:=⟨_,rfl⟩
 obtain ⟨qw,hqw⟩:∃ b,Sx.noW ((nm,of_,up,8,lo,hi,ws,ns):Fld)=b:=⟨_,rfl⟩
 have CO:=aI (fun w=>rIsName_any of_ w a2)
 obtain ⟨qf,hqf⟩:∃ b,Sx.nm of_=b:=⟨_,rfl⟩
 rw [hqf] at CO
 have CP:=aI (fun w=>rIsName_any up w a3)
 obtain ⟨qp,hqp⟩:∃ b,Sx.nm up=b:=⟨_,rfl⟩
 rw [hqp] at CP
 have HF:=aI (show Sx.fldB ((nm,of_,up,8,lo,hi,ws,ns):Fld)=(qn && (qw && (ql && (qh && (qf && qp))))) by rw [← hqf,← hqh,← hql,← hqn,← hqp,← hqw];rfl)
 obtain ⟨W1,hW1⟩:∃ X,w.alloc (.cells #[.string nm,.string of_,.string up,.int .i64 8,.int .i64 lo,.int .i64 hi,.slice A ws.length c,.slice B ns.length d] 52)=X:=⟨_,rfl⟩
 have HB:=aI (show Below w.heap.size w W1 by rw [← hW1];exact (Below.refl w.heap.size w).alloc (Nat.le_refl _) _)
 have hbk:Blk W1 w.heap.size 52 #[.string nm,.string of_,.string up,.int .i64 8,.int .i64 lo,.int .i64 hi,.slice A ws.length c,.slice B ns.length d]:=by rw [← hW1];exact Blk.new w _ _
 have c0:=hbk.cell 0;have c1:=hbk.cell 1;have c2:=hbk.cell 2;have c3:=hbk.cell 3;have c4:=hbk.cell 4;have c5:=hbk.cell 5;have c6:=hbk.cell 6;have c7:=hbk.cell 7
 simp at c0 c1 c2 c3 c4 c5 c6 c7
 have HW1:=aI hW1
 show Calls Tryz.prog 130 #[.agg #[.string nm,.string of_,.string up,.int .i64 8,.int .i64 lo,.int .i64 hi,.slice A ws.length c,.slice B ns.length d]] w _
 have HQW:=aI (show (decide (ws.length=0) && decide (ns.length=0))=qw from hqw)
 clear h h0 s1 s2 a1 a2 a3 a4 a5 a6 b1 b2 e1 e2 hbk hW1 hqf hqn hqp hqw
 generalize Sx.fldB ((nm,of_,up,8,lo,hi,ws,ns):Fld)=fb at *
 obtain ⟨wl,hwl⟩:∃ n,ws.length=n:=⟨_,rfl⟩
 obtain ⟨nl,hnl⟩:∃ n,ns.length=n:=⟨_,rfl⟩
 rw [hwl] at c6 hww HW1
 rw [hnl] at c7 hws HW1
 rw [hwl,hnl] at HQW
 rw [hwl,hnl]
 clear hwl hnl
 obtain ⟨N,hN⟩:∃ n,w.heap.size=n:=⟨_,rfl⟩
 go_enter Tryz.func130,Tryz.ntmps130
 go_upto_region 1 with fail
 rw [HW1.out]
 rw [hN] at c0 c1 c2 c3 c4 c5 c6 c7
 (try rw [hN])
 cases qn
 rotate_left
 cases ql
 have zql:(lo == 0)=false:=beq_eq_false_iff_ne.2 (of_decide_eq_false hql)
 have yql:¬ lo=0:=of_decide_eq_false hql
 clear hql
 rotate_left
 obtain rfl:lo=0:=of_decide_eq_true hql
 clear hql
 cases qh
 have zqh:(hi == 0)=false:=beq_eq_false_iff_ne.2 (of_decide_eq_false hqh)
 have yqh:¬ hi=0:=of_decide_eq_false hqh
 clear hqh
 rotate_left
 obtain rfl:hi=0:=of_decide_eq_true hqh
 clear hqh
 cases qw
 have z1:=noW_pos HQW.out
 rotate_left
 obtain ⟨rfl,rfl⟩:=noW_zero HQW.out
 cases qf
 rotate_left
 cases qp
 rotate_left
 all_goals (go_wp2_with (first | (go_at_call 69;((with_reducible refine (CU.out _).mono ?_));rintro e w2 ⟨rfl,rfl⟩) | (go_at_call 128;((with_reducible refine (CN.out _).mono ?_));rintro e w2 ⟨rfl,rfl⟩) | (go_at_call 128;((with_reducible refine (CO.out _).mono ?_));rintro e w2 ⟨rfl,rfl⟩) | (go_at_call 128;((with_reducible refine (CP.out _).mono ?_));rintro e w2 ⟨rfl,rfl⟩));go_ret;exact ⟨by rw [HF.out];first | rfl | simp,HB.out⟩)
set_option maxRecDepth 100000 in
set_option maxHeartbeats 8000000 in
theorem rIsField_9 (nm of_ up:ByteArray) (lo hi:Int) (ws:List ByteArray) (ns:List Int) (kd:Int) (hk:∀ j:Nat,j < 9→kd≠(j:Int)) (us:List Value) (w:World) (h:Mem.rep [] w ((nm,of_,up,kd,lo,hi,ws,ns):Fld) us) (hww:ws.length≤1000000) (hws:ns.length≤1000000):Calls Tryz.prog 130 #[.agg us.toArray] w (BoolP (Sx.fldB ((nm,of_,up,kd,lo,hi,ws,ns):Fld)) w):=by
 have h0:=h
 obtain ⟨A,c,B,d,rfl,s1,s2,a4,a5,a6,a1,a2,a3,b1,b2,e1,e2⟩:=rep_fld h
 have a1:nm.size≤9223372036854775807:=a1
 have a2:of_.size≤9223372036854775807:=a2
 have a3:up.size≤9223372036854775807:=a3
 have k0:(kd == 0)=false:=beq_eq_false_iff_ne.2 (hk 0 (by omega))
 have k1:(kd == 1)=false:=beq_eq_false_iff_ne.2 (hk 1 (by omega))
 have k2:(kd == 2)=false:=beq_eq_false_iff_ne.2 (hk 2 (by omega))
 have k3:(kd == 3)=false:=beq_eq_false_iff_ne.2 (hk 3 (by omega))
 have k4:(kd == 4)=false:=beq_eq_false_iff_ne.2 (hk 4 (by omega))
 have k5:(kd == 5)=false:=beq_eq_false_iff_ne.2 (hk 5 (by omega))
 have k6:(kd == 6)=false:=beq_eq_false_iff_ne.2 (hk 6 (by omega))
 have k7:(kd == 7)=false:=beq_eq_false_iff_ne.2 (hk 7 (by omega))
 have k8:(kd == 8)=false:=beq_eq_false_iff_ne.2 (hk 8 (by omega))
 have n0:¬ kd=0:=hk 0 (by omega)
 have n1:¬ kd=1:=hk 1 (by omega)
 have n2:¬ kd=2:=hk 2 (by omega)
 have n3:¬ kd=3:=hk 3 (by omega)
 have n4:¬ kd=4:=hk 4 (by omega)
 have n5:¬ kd=5:=hk 5 (by omega)
 have n6:¬ kd=6:=hk 6 (by omega)
 have n7:¬ kd=7:=hk 7 (by omega)
 have n8:¬ kd=8:=hk 8 (by omega)
 have CU:=aI (fun w=>uses_any kd w)
 rw [show usesK kd=(false,false,false,false,false) by unfold usesK;rw [if_neg n0,if_neg n1,if_neg n2,if_neg n3,if_neg n4,if_neg n5,if_neg n6,if_neg n7,if_neg n8]] at CU
 dsimp only at CU
 have CN:=aI (fun w=>rIsName_any nm w a1)
 obtain ⟨qn,hqn⟩:∃ b,Sx.nm nm=b:=⟨_,rfl⟩
 rw [hqn] at CN
 have HF:=aI (show Sx.fldB ((nm,of_,up,kd,lo,hi,ws,ns):Fld)=false by unfold Sx.fldB;rw [if_neg (show ¬ Sc.kd ((nm,of_,up,kd,lo,hi,ws,ns):Fld)=0 from n0),if_neg (show ¬ Sc.kd ((nm,of_,up,kd,lo,hi,ws,ns):Fld)=1 from n1),if_neg (show ¬ Sc.kd ((nm,of_,up,kd,lo,hi,ws,ns):Fld)=2 from n2),if_neg (show ¬ Sc.kd ((nm,of_,up,kd,lo,hi,ws,ns):Fld)=3 from n3),if_neg (show ¬ Sc.kd ((nm,of_,up,kd,lo,hi,ws,ns):Fld)=4 from n4),if_neg (show ¬ Sc.kd ((nm,of_,up,kd,lo,hi,ws,ns):Fld)=5 from n5),if_neg (show ¬ Sc.kd ((nm,of_,up,kd,lo,hi,ws,ns):Fld)=6 from n6),if_neg (show ¬ Sc.kd ((nm,of_,up,kd,lo,hi,ws,ns):Fld)=7 from n7),if_neg (show ¬ Sc.kd ((nm,of_,up,kd,lo,hi,ws,ns):Fld)=8 from n8),Bool.and_false])
 obtain ⟨W1,hW1⟩:∃ X,w.alloc (.cells #[.string nm,.string of_,.string up,.int .i64 kd,.int .i64 lo,.int .i64 hi,.slice A ws.length c,.slice B ns.length d] 52)=X:=⟨_,rfl⟩
 have HB:=aI (show Below w.heap.size w W1 by rw [← hW1];exact (Below.refl w.heap.size w).alloc (Nat.le_refl _) _)
 have hbk:Blk W1 w.heap.size 52 #[.string nm,.string of_,.string up,.int .i64 kd,.int .i64 lo,.int .i64 hi,.slice A ws.length c,.slice B ns.length d]:=by rw [← hW1];exact Blk.new w _ _
 have c0:=hbk.cell 0;have c1:=hbk.cell 1;have c2:=hbk.cell 2;have c3:=hbk.cell 3;have c4:=hbk.cell 4;have c5:=hbk.cell 5;have c6:=hbk.cell 6;have c7:=hbk.cell 7
 simp at c0 c1 c2 c3 c4 c5 c6 c7
 have HW1:=aI hW1
 show Calls Tryz.prog 130 #[.agg #[.string nm,.string of_,.string up,.int .i64 kd,.int .i64 lo,.int .i64 hi,.slice A ws.length c,.slice B ns.length d]] w _
 have HK9:=aI hk
 clear h h0 s1 s2 a1 a2 a3 a4 a5 a6 b1 b2 e1 e2 hbk hW1 hqn hk
 generalize Sx.fldB ((nm,of_,up,kd,lo,hi,ws,ns):Fld)=fb at *
 obtain ⟨wl,hwl⟩:∃ n,ws.length=n:=⟨_,rfl⟩
 obtain ⟨nl,hnl⟩:∃ n,ns.length=n:=⟨_,rfl⟩
 rw [hwl] at c6 hww HW1
 rw [hnl] at c7 hws HW1
 rw [hwl,hnl]
 clear hwl hnl
 obtain ⟨N,hN⟩:∃ n,w.heap.size=n:=⟨_,rfl⟩
 go_enter Tryz.func130,Tryz.ntmps130
 go_upto_region 1 with fail
 rw [HW1.out]
 rw [hN] at c0 c1 c2 c3 c4 c5 c6 c7
 (try rw [hN])
 by_cases hlt:kd < 0
 ·go_wp2_with (first | (go_at_call 69;((with_reducible refine (CU.out _).mono ?_));rintro e w2 ⟨rfl,rfl⟩) | (go_at_call 128;((with_reducible refine (CN.out _).mono ?_));rintro e w2 ⟨rfl,rfl⟩))
  go_ret
  exact ⟨by rw [HF.out];first | rfl | simp,HB.out⟩
 ·have hge:9≤kd:=Int.not_lt.1 (fun h=>absurd (show kd=((kd.toNat:Nat):Int) by omega) (HK9.out kd.toNat (by omega)))
  go_wp2_with (first | (go_at_call 69;((with_reducible refine (CU.out _).mono ?_));rintro e w2 ⟨rfl,rfl⟩) | (go_at_call 128;((with_reducible refine (CN.out _).mono ?_));rintro e w2 ⟨rfl,rfl⟩))
  go_ret
  exact ⟨by rw [HF.out];first | rfl | simp,HB.out⟩
theorem rIsField_any (f:Fld) (us:List Value) (w:World) (h:Mem.rep [] w f us) (hww:(Sc.words f).length≤1000000) (hws:(Sc.wts f).length≤1000000):Calls Tryz.prog 130 #[.agg us.toArray] w (BoolP (Sx.fldB f) w):=by
 obtain ⟨nm,of_,up,kd,lo,hi,ws,ns⟩:=f
 by_cases hk:∃ j:Nat,j < 9∧kd=(j:Int)
 ·obtain ⟨j,hj,rfl⟩:=hk
  rcases (show j=0∨j=1∨j=2∨j=3∨j=4∨j=5∨j=6∨j=7∨j=8 by omega) with rfl | rfl | rfl | rfl | rfl | rfl | rfl | rfl | rfl
  ·exact rIsField_0 nm of_ up lo hi ws ns us w h hww hws
  ·exact rIsField_1 nm of_ up lo hi ws ns us w h hww hws
  ·exact rIsField_2 nm of_ up lo hi ws ns us w h hww hws
  ·exact rIsField_3 nm of_ up lo hi ws ns us w h hww hws
  ·exact rIsField_4 nm of_ up lo hi ws ns us w h hww hws
  ·exact rIsField_5 nm of_ up lo hi ws ns us w h hww hws
  ·exact rIsField_6 nm of_ up lo hi ws ns us w h hww hws
  ·exact rIsField_7 nm of_ up lo hi ws ns us w h hww hws
  ·exact rIsField_8 nm of_ up lo hi ws ns us w h hww hws
 ·exact rIsField_9 nm of_ up lo hi ws ns kd (fun j hj e=>hk ⟨j,hj,e⟩) us w h hww hws
end Go.Proofs.YtmplaikgbeeikaaGreatDoor
