/- Parts of the proof, joined: SxU1, SxU2, SxU3, SxLaw4, SxLaw7, SxLaw8, SxU4, SxEnc, SxN0, SxN1, SxN2, SxN3, SxN4, SxNc, SyB. -/
import Derived.Test.YtobcnhmhgoccnaaGreatDoorV2
import Derived.Test.YtobcnhmhgoccnaaGreatDoorV13
set_option maxRecDepth 100000
set_option maxHeartbeats 32000000
set_option linter.unusedVariables false
set_option linter.unusedSimpArgs false
set_option linter.unusedSectionVars false
namespace Go.Proofs.YtobcnhmhgoccnaaGreatDoor
open Go Go.RowKit
section
theorem rIsPick_any (f:Fld) (us:List Value) (w:World) (h:Mem.rep [] w f us) (hmn:(Sc.wts f).length<=1000000):Calls Tryz.prog 134 #[.agg us.toArray] w (BoolP (Sx.pickB (Sc.words f) (Sc.wts f)) w):=by
 obtain ⟨nm,of_,up,kd,lo,hi,ws,ns⟩:=f
 obtain ⟨A,c,B,d,rfl,s1,s2,a4,a5,a6,a1,a2,a3,b1,b2,e1,e2⟩:=rep_fld h
 have hmn:ns.length<=1000000:=hmn
 have hmw:ws.length<=9223372036854775807:=by have:ws.length<=c:=b1;omega
 show Calls Tryz.prog 134 #[.agg #[.string nm,.string of_,.string up,.int .i64 kd,.int .i64 lo,.int .i64 hi,.slice A ws.length c,.slice B ns.length d]] w (BoolP (Sx.pickB ws ns) w)
 obtain ⟨W1,hW1,HB,hbk⟩:=aW w #[.string nm,.string of_,.string up,.int .i64 kd,.int .i64 lo,.int .i64 hi,.slice A ws.length c,.slice B ns.length d] 65
 have c6:=hbk.cell 6;have c7:=hbk.cell 7
 simp at c6 c7
 have HW1:=aI hW1
 have HW:=aI rWithin_any
 obtain ⟨nw,hnw⟩:=aX ws.length
 obtain ⟨nn,hnn⟩:=aX ns.length
 have HNN:=aI hnn
 have HNW:=aI hnw
 have HS:=aI (SlAt.keep (show SlAt [] w B ns from s2) (za HB.out))
 have CA:=aI (rNames_any ws A c W1 (SlAt.keep (show SlAt [] w A ws from s1) (za HB.out)) hmw)
 rw [hnw] at CA c6 HW1
 rw [hnn] at c7 HW1 hmn
 rw [hnw,hnn]
 clear h s1 s2 a1 a2 a3 a4 a5 a6 b1 b2 e1 e2 hbk hW1 hnn hnw hmw
 obtain ⟨N,hN⟩:=aX w.heap.size
 go_enter Tryz.func134,Tryz.ntmps134
 go_upto_region 1 with fail
 rw [HW1.out]
 rw [hN] at c6 c7
 (try rw [hN])
 go_wp2_with fail
 go_loopg [3,4] nn (λr s i wr=>∃k:Nat,k+r=nn/\i=.int .i64 k/\s=.int .i64 ((ns.take k).sum)/\0<=(ns.take k).sum/\(ns.take k).sum<=1048576*k/\wr=W1/\∀j (hj:j < ns.length),j < k->Sx.within ns[j] 0 Sx.most=true)
 case atStart=>exact ⟨0,by omega,rfl,rfl,by simp,by simp,rfl,λ_ _ h=>by omega⟩
 case round =>
  obtain ⟨k,hk,rfl,rfl,hs0,hs1,rfl,hall⟩:=hrel
  have HA:=aI hall
  clear hall
  obtain ⟨sm,hsm⟩:=aX ((ns.take k).sum)
  rw [hsm] at hs0 hs1 ⊢
  by_cases hlt:k < nn
  .have hkp:k < ns.length:=by rw [HNN.out];exact hlt
   have k0:(0:Int)<=(k:Int):=aa _
   have k1:(k:Int) < (nn:Int):=by omega
   obtain ⟨b,o,rfl,_,q0,hin⟩:=int_at HS.out k hkp
   have HSM:=aI (sum_take ns k hkp)
   have cv:=HW.out ns[k] 0 1048576
   obtain ⟨bb,hbb⟩:=aX (Sx.within ns[k] 0 1048576)
   rw [hbb] at cv
   have CV:=aI cv
   have HBB:=aI hbb
   have HSE:=aI hsm
   obtain ⟨x,hx⟩:=aX (ns[k])
   rw [hx] at q0 CV HSM hin
   have HX:=aI hx
   clear cv hbb hsm hx
   cases bb
   .have HR:=aI (show ns.all (λn=>Sx.within n 0 Sx.most)=false from all_bad hkp HBB.out)
    go_wp2_with (go_at_call 33;(with_reducible refine aS (CV.out _) ?_))
    go_ret
    exact ⟨by unfold Sx.pickB;rw [HR.out];rfl,HB.out⟩
   .have hbd:=within_bd HBB.out
    rw [HX.out] at hbd
    go_wp2_with (go_at_call 33;(with_reducible refine aS (CV.out _) ?_))
    go_roundg (gk - 1)
    case measure=>omega
    case rel =>
     refine ⟨k+1,by omega,by go_num,?_,?_,?_,rfl,λq hq hlt=>?_⟩
     .rw [HSM.out,HSE.out]
     .rw [HSM.out,HSE.out];omega
     .rw [HSM.out,HSE.out];omega
     .rcases aj q k with h' | h'
      .exact HA.out q hq h'
      .obtain rfl:q=k:=by omega
       exact HBB.out
  .have k1:¬(k:Int) < (nn:Int):=by omega
   have hR:=all_good (b:=λn=>Sx.within n 0 Sx.most) (l:=ns) λq hq=>HA.out q hq (by rw [HNN.out] at hq;omega)
   have hsum:ns.sum=sm:=by rw [<-hsm,List.take_of_length_le (by rw [HNN.out];omega)]
   have hp:Sx.pickB ws ns=(Sx.within (nw:Int) 1 12 && (decide (nw=nn) && (decide (0 < sm) && ws.all Sx.nm))):=by
    unfold Sx.pickB
    rw [hR,hsum,HNN.out,HNW.out];rfl
   have cw:=HW.out (nw:Int) 1 12
   have ca:=CA.out
   obtain ⟨b1,h1⟩:=aX (Sx.within (nw:Int) 1 12)
   obtain ⟨b2,h2⟩:∃b,decide (nw=nn)=b:=⟨_,rfl⟩
   obtain ⟨b3,h3⟩:=aX (decide (0 < sm))
   obtain ⟨b4,h4⟩:=aX (ws.all Sx.nm)
   rw [h1] at cw
   rw [h4] at ca
   rw [h1,h2,h3,h4] at hp
   have HPK:=aI hp
   have h2':((nw:Int) == (nn:Int))=b2:=by
    by_cases h:nw=nn
    .rw [<-h2,h];simp
    .rw [<-h2,ad h];exact beq_eq_false_iff_ne.2 (by omega)
   have CW:=aI cw
   have CS:=aI ca
   clear cw ca hp hsum hR hsm h1 h4 hs0 hs1
   cases b1 <;> cases b2 <;> cases b3 <;> (go_wp2_with (first | (go_at_call 33;(with_reducible refine aS (CW.out _) ?_)) | (go_at_call 93;(with_reducible refine aS (CS.out) ?_)));go_ret;exact ⟨by rw [HPK.out];cases b4 <;> rfl,HB.out⟩)
end
section
theorem noW_pos {a b:Nat} (h:(decide (a=0) && decide (b=0))=false):(0:Int) < (a:Int)+(b:Int):=by
 have h9:¬(a=0/\b=0):=λ⟨h1,h2⟩=>by subst h1 h2;exact zU h (by simp)
 omega
theorem noW_zero {a b:Nat} (h:(decide (a=0) && decide (b=0))=true):a=0/\b=0:=by simpa using h
theorem rIsField_any (f:Fld) (us:List Value) (w:World) (h:Mem.rep [] w f us) (hww:(Sc.words f).length<=1000000) (hws:(Sc.wts f).length<=1000000):Calls Tryz.prog 92 #[.agg us.toArray] w (BoolP (Sx.fldB f) w):=by
 obtain ⟨nm,of_,up,kd,lo,hi,ws,ns⟩:=f
 have h0:=h
 obtain ⟨A,c,B,d,rfl,s1,s2,a4,a5,a6,a1,a2,a3,b1,b2,e1,e2⟩:=rep_fld h
 replace hww:ws.length<=1000000:=hww
 replace hws:ns.length<=1000000:=hws
 have a1:nm.size<=9223372036854775807:=a1
 have a2:of_.size<=9223372036854775807:=a2
 have a3:up.size<=9223372036854775807:=a3
 have CU:=uses_any kd
 have CN:=aI (λw=>rIsName_any nm w a1)
 have CO:=aI (λw=>rIsName_any of_ w a2)
 have CP:=aI (λw=>rIsName_any up w a3)
 have CSP:=aI rSpan_any
 have CWI:=aI rWithin_any
 have CPK:=aI (λ(W':World) (hb:Below w.heap.size w W')=>show Calls Tryz.prog 134 #[.agg #[.string nm,.string of_,.string up,.int .i64 kd,.int .i64 lo,.int .i64 hi,.slice A ws.length c,.slice B ns.length d]] W' (BoolP (Sx.pickB ws ns) W') from rIsPick_any ((nm,of_,up,kd,lo,hi,ws,ns):Fld) _ W' (Mem.keep h0 (za hb)) hws)
 obtain ⟨y1,y2,y3⟩:=em_spell of_
 obtain ⟨x1,x2,x3⟩:=em_spell up
 obtain ⟨fb,hfb⟩:=aX (Sx.fldB ((nm,of_,up,kd,lo,hi,ws,ns):Fld))
 obtain ⟨qn,hqn⟩:=aX (Sx.nm nm)
 obtain ⟨qf,hqf⟩:=aX (Sx.nm of_)
 obtain ⟨qp,hqp⟩:=aX (Sx.nm up)
 obtain ⟨qo,hqo⟩:=aX (Sx.em of_)
 obtain ⟨qu,hqu⟩:=aX (Sx.em up)
 obtain ⟨ql,hql⟩:∃b,decide (lo=0)=b:=⟨_,rfl⟩
 obtain ⟨qh,hqh⟩:∃b,decide (hi=0)=b:=⟨_,rfl⟩
 obtain ⟨qw,hqw⟩:∃b,(decide (ws.length=0) && decide (ns.length=0))=b:=⟨_,rfl⟩
 rw [hqn] at CN
 rw [hqf] at CO
 rw [hqp] at CP
 rw [hqo] at y1 y2 y3
 rw [hqu] at x1 x2 x3
 have HQS:=aI (show Sx.nm nm=qn/\Sx.nm of_=qf/\Sx.nm up=qp/\Sx.em of_=qo/\Sx.em up=qu from ⟨hqn,hqf,hqp,hqo,hqu⟩)
 have HNW:=aI (show Sx.noW ((nm,of_,up,kd,lo,hi,ws,ns):Fld)=qw from hqw)
 have HZL:=aI (λ(e:ql=false)=>(show (lo == 0)=false/\¬lo=0 from ⟨beq_eq_false_iff_ne.2 (of_decide_eq_false (hql.trans e)),of_decide_eq_false (hql.trans e)⟩))
 have HYL:=aI (λ(e:ql=true)=>(of_decide_eq_true (hql.trans e):lo=0))
 have HZH:=aI (λ(e:qh=false)=>(show (hi == 0)=false/\¬hi=0 from ⟨beq_eq_false_iff_ne.2 (of_decide_eq_false (hqh.trans e)),of_decide_eq_false (hqh.trans e)⟩))
 have HYH:=aI (λ(e:qh=true)=>(of_decide_eq_true (hqh.trans e):hi=0))
 rw [hfb]
 have HF:=aI hfb
 obtain ⟨W1,hW1,HB,hbk⟩:=aW w #[.string nm,.string of_,.string up,.int .i64 kd,.int .i64 lo,.int .i64 hi,.slice A ws.length c,.slice B ns.length d] 65
 have HW1:=aI hW1
 show Calls Tryz.prog 92 #[.agg #[.string nm,.string of_,.string up,.int .i64 kd,.int .i64 lo,.int .i64 hi,.slice A ws.length c,.slice B ns.length d]] w _
 clear h h0 s1 s2 a1 a2 a3 a4 a5 a6 b1 b2 e1 e2 hW1 hqn hqf hqp hqo hqu hql hqh hfb
 obtain ⟨pb,hpb⟩:=aX (Sx.pickB ws ns)
 rw [hpb] at CPK
 have HPB:=aI hpb
 obtain ⟨wl,hwl⟩:=aX ws.length
 obtain ⟨nl,hnl⟩:=aX ns.length
 rw [hwl] at hbk hww HW1 CPK hqw ⊢
 rw [hnl] at hbk hws HW1 CPK hqw ⊢
 have HQW:=aI hqw
 clear hwl hnl hpb hqw
 obtain ⟨N,hN⟩:=aX w.heap.size
 have HN:=aI hN
 rw [hN] at hbk
 obtain ⟨c0,c1,c2,c3,c4,c5,c6,c7⟩:=aN8 hbk.cell
 simp at c0 c1 c2 c3 c4 c5 c6 c7
 clear hbk hN
 generalize hU:usesK kd=U at CU
 obtain ⟨bo,bu,bl,bh,bw⟩:=U
 have HU:=aI hU
 replace CU:=aI CU
 clear hU
 go_enter Tryz.func92,Tryz.ntmps92
 go_upto_region 1 with fail
 rw [HW1.out,HN.out]
 by_cases hk:kd=0∨kd=1∨kd=2∨kd=3∨kd=4∨kd=5∨kd=6∨kd=7∨kd=8
 .rcases hk with rfl | rfl | rfl | rfl | rfl | rfl | rfl | rfl | rfl
  all_goals (have hu:=HU.out;unfold usesK at hu;simp only [Int.reduceEq,if_true,if_false] at hu;injection hu with hu1 hu;injection hu with hu2 hu;injection hu with hu3 hu;injection hu with hu4 hu5;subst hu1 hu2 hu3 hu4 hu5;clear HU)
  rotate_right
  focus
   cases qn
   rotate_left
   cases ql
   have zl:=HZL.out rfl
   rotate_left
   obtain rfl:=HYL.out rfl
   cases qh
   have zh:=HZH.out rfl
   rotate_left
   obtain rfl:=HYH.out rfl
   cases qw
   have z1:=noW_pos HQW.out
   rotate_left
   obtain ⟨rfl,rfl⟩:=noW_zero HQW.out
   cases qf
   rotate_left
   cases qp
   rotate_left
  rotate_right
  focus
   cases qn
   rotate_left
   cases qw
   have z1:=noW_pos HQW.out
   rotate_left
   obtain ⟨rfl,rfl⟩:=noW_zero HQW.out
   cases qf
   rotate_left
   cases qp
   rotate_left
  rotate_right
  focus
   cases qn
   rotate_left
   cases qu
   rotate_left
   cases ql
   have zl:=HZL.out rfl
   rotate_left
   obtain rfl:=HYL.out rfl
   cases qh
   have zh:=HZH.out rfl
   rotate_left
   obtain rfl:=HYH.out rfl
   cases qw
   have z1:=noW_pos HQW.out
   rotate_left
   obtain ⟨rfl,rfl⟩:=noW_zero HQW.out
   cases qf
   rotate_left
  rotate_right
  focus
   cases qn
   rotate_left
   cases qu
   rotate_left
   cases qw
   have z1:=noW_pos HQW.out
   rotate_left
   obtain ⟨rfl,rfl⟩:=noW_zero HQW.out
   cases qf
   rotate_left
  rotate_right
  focus
   cases qn
   rotate_left
   cases qu
   rotate_left
   cases qw
   have z1:=noW_pos HQW.out
   rotate_left
   obtain ⟨rfl,rfl⟩:=noW_zero HQW.out
   cases qf
   cases qo
   rotate_left
  rotate_right
  focus
   cases qn
   rotate_left
   cases qo
   rotate_left
   cases qu
   rotate_left
   cases ql
   have zl:=HZL.out rfl
   rotate_left
   obtain rfl:=HYL.out rfl
   cases qh
   have zh:=HZH.out rfl
   rotate_left
   obtain rfl:=HYH.out rfl
  rotate_right
  focus
   cases qn
   rotate_left
   cases qo
   rotate_left
   cases qu
   rotate_left
   cases qw
   have z1:=noW_pos HQW.out
   rotate_left
   obtain ⟨rfl,rfl⟩:=noW_zero HQW.out
  rotate_right
  focus
   cases qn
   rotate_left
   cases qu
   rotate_left
   cases qw
   have z1:=noW_pos HQW.out
   rotate_left
   obtain ⟨rfl,rfl⟩:=noW_zero HQW.out
   cases qf
   rotate_left
  rotate_right
  focus
   cases qn
   rotate_left
   cases qo
   rotate_left
   cases qu
   rotate_left
   cases qh
   have zh:=HZH.out rfl
   rotate_left
   obtain rfl:=HYH.out rfl
   cases qw
   have z1:=noW_pos HQW.out
   rotate_left
   obtain ⟨rfl,rfl⟩:=noW_zero HQW.out
  all_goals (try obtain ⟨zl1,zl2⟩:=zl)
  all_goals (try obtain ⟨zh1,zh2⟩:=zh)
  all_goals (go_wp2_with (first | (go_at_call 133;(with_reducible refine aS (CU.out _) ?_)) | (go_at_call 90;(first | (with_reducible refine (CN.out _).mono ?_) | (with_reducible refine (CO.out _).mono ?_) | (with_reducible refine (CP.out _).mono ?_));rintro e w2 ⟨rfl,rfl⟩) | (go_at_call 91;(with_reducible refine aS (CSP.out _ _ _ _ _) ?_)) | (go_at_call 33;(with_reducible refine aS (CWI.out _ _ _ _) ?_)) | (go_at_call 134;(with_reducible refine (CPK.out _ HB.out).mono ?_);rintro e w2 ⟨rfl,hb2⟩;replace HB:=aT HB hb2;clear hb2));go_ret;(obtain ⟨r1,r2,r3,r4,r5⟩:=HQS.out;exact ⟨by rw [<-HF.out];simp [Sx.fldB,Sx.most,Sc.nm,Sc.of_,Sc.up,Sc.kd,Sc.lo,Sc.hi,Sc.words,Sc.wts,HNW.out,HPB.out, *],HB.out⟩))
 .simp only [not_or] at hk
  obtain ⟨n0,n1,n2,n3,n4,n5,n6,n7,n8⟩:=hk
  have HFF:=aI (show fb=false by rw [<-HF.out];simp [Sx.fldB,Sc.kd,n0,n1,n2,n3,n4,n5,n6,n7,n8])
  by_cases hlt:kd < 0
  .clear n0 n1 n2 n3 n4 n5 n6 n7 n8
   go_wp2_with (first | (go_at_call 133;(with_reducible refine aS (CU.out _) ?_)) | (go_at_call 90;(first | (with_reducible refine (CN.out _).mono ?_) | (with_reducible refine (CO.out _).mono ?_) | (with_reducible refine (CP.out _).mono ?_));rintro e w2 ⟨rfl,rfl⟩) | (go_at_call 91;(with_reducible refine aS (CSP.out _ _ _ _ _) ?_)) | (go_at_call 33;(with_reducible refine aS (CWI.out _ _ _ _) ?_)) | (go_at_call 134;(with_reducible refine (CPK.out _ HB.out).mono ?_);rintro e w2 ⟨rfl,hb2⟩;replace HB:=aT HB hb2;clear hb2))
   go_ret
   exact ⟨by rw [HFF.out];rfl,HB.out⟩
  .have hge:9<=kd:=by omega
   clear n0 n1 n2 n3 n4 n5 n6 n7 n8
   go_wp2_with (first | (go_at_call 133;(with_reducible refine aS (CU.out _) ?_)) | (go_at_call 90;(first | (with_reducible refine (CN.out _).mono ?_) | (with_reducible refine (CO.out _).mono ?_) | (with_reducible refine (CP.out _).mono ?_));rintro e w2 ⟨rfl,rfl⟩) | (go_at_call 91;(with_reducible refine aS (CSP.out _ _ _ _ _) ?_)) | (go_at_call 33;(with_reducible refine aS (CWI.out _ _ _ _) ?_)) | (go_at_call 134;(with_reducible refine (CPK.out _ HB.out).mono ?_);rintro e w2 ⟨rfl,hb2⟩;replace HB:=aT HB hb2;clear hb2))
   go_ret
   exact ⟨by rw [HFF.out];rfl,HB.out⟩
theorem rIsKind_any (x:Knd) (us:List Value) (w:World) (h:Mem.rep [] w x us) (hl:(Sc.flds x).length<=1000000) (hz:∀f∈Sc.flds x,(Sc.words f).length<=1000000/\(Sc.wts f).length<=1000000):Calls Tryz.prog 34 #[.agg us.toArray] w (BoolP (Sx.kndB x) w):=by
 obtain ⟨A,c,rfl,s1,i1,i2,z1,b1,b2⟩:=rep_knd h
 obtain ⟨nm,lo,hi,fs⟩:=x
 have z1:nm.size<=9223372036854775807:=z1
 have hl:fs.length<=1000000:=hl
 have HZ:=aI (show ∀f∈fs,(Sc.words f).length<=1000000/\(Sc.wts f).length<=1000000 from hz)
 have CN:=aI (λw=>rIsName_any nm w z1)
 obtain ⟨q1,hq1⟩:=aX (Sx.nm nm)
 rw [hq1] at CN
 have CS:=aI (rSpan_any lo hi 0 65536)
 obtain ⟨q2,hq2⟩:=aX (Sx.span lo hi 0 65536)
 rw [hq2] at CS
 show Calls Tryz.prog 34 #[.agg #[.string nm,.int .i64 lo,.int .i64 hi,.slice A fs.length c]] w (BoolP (Sx.kndB ((nm,lo,hi,fs):Knd)) w)
 obtain ⟨W1,hW1,HB,hbk⟩:=aW w #[.string nm,.int .i64 lo,.int .i64 hi,.slice A fs.length c] 52
 have HW1:=aI hW1
 have HS:=aI (SlAt.keep (show SlAt [] w A fs from s1) (za HB.out))
 obtain ⟨n,hn⟩:=aX fs.length
 have HN:=aI hn
 have HF:=aI (show Sx.kndB ((nm,lo,hi,fs):Knd)=(q1 && (q2 && (decide (n<=10) && fs.all Sx.fldB))) by rw [<-hq1,<-hq2,<-hn];rfl)
 have HV:=aI rIsField_any
 rw [hn] at hbk HW1 hl
 rw [hn]
 obtain ⟨N,hN⟩:=aX w.heap.size
 rw [hN] at hbk
 have HBK:=aI hbk
 obtain ⟨c0,c1,c2,c3⟩:=aN4 hbk.cell;simp at c0 c1 c2 c3
 clear h s1 i1 i2 z1 b1 b2 hz hq1 hq2 hn hW1 hbk
 generalize Sx.kndB ((nm,lo,hi,fs):Knd)=fb at *
 go_enter Tryz.func34,Tryz.ntmps34
 go_upto_region 1 with fail
 rw [HW1.out]
 (try rw [hN])
 cases q1
 .go_wp2_with (first | (go_at_call 90;(with_reducible refine aS (CN.out _) ?_)) | (go_at_call 91;(with_reducible refine aS (CS.out _) ?_)))
  go_ret
  exact ⟨by rw [HF.out];first | rfl | simp,HB.out⟩
 cases q2
 .go_wp2_with (first | (go_at_call 90;(with_reducible refine aS (CN.out _) ?_)) | (go_at_call 91;(with_reducible refine aS (CS.out _) ?_)))
  go_ret
  exact ⟨by rw [HF.out];first | rfl | simp,HB.out⟩
 by_cases h10:n<=10
 rotate_left
 .have t1:(10:Int) < (n:Int):=by omega
  have HF2:=aI (HF.out.trans (show (true && (true && (decide (n<=10) && fs.all Sx.fldB)))=false by rw [ad h10];rfl))
  clear h10
  go_wp2_with (first | (go_at_call 90;(with_reducible refine aS (CN.out _) ?_)) | (go_at_call 91;(with_reducible refine aS (CS.out _) ?_)))
  go_ret
  exact ⟨by rw [HF2.out];first | done | rfl | simp,HB.out⟩
 .have t1:¬(10:Int) < (n:Int):=by omega
  have t2:(n:Int)<=(10:Int):=by omega
  have HF2:=aI (HF.out.trans (show (true && (true && (decide (n<=10) && fs.all Sx.fldB)))=fs.all Sx.fldB by rw [ac h10];rfl))
  clear h10 HF
  go_wp2_with (first | (go_at_call 90;(with_reducible refine aS (CN.out _) ?_)) | (go_at_call 91;(with_reducible refine aS (CS.out _) ?_)))
  clear t1 t2 c0 c1 c2 c3
  go_loopg [3] n (λr i wr=>∃k:Nat,k+r=n/\i=.int .i64 k/\Below W1.heap.size W1 wr/\∀j (hj:j < fs.length),j < k->Sx.fldB fs[j]=true)
  case atStart=>exact ⟨0,by omega,rfl,zf _ _,λ_ _ h=>by omega⟩
  case round =>
   obtain ⟨k,hk,rfl,hb,hall⟩:=hrel
   obtain ⟨wo,rfl⟩:=aY wr
   have HB2:=aI hb
   have HA:=aI hall
   have hbk:=HBK.out.below hb HBK.out.lt
   obtain ⟨c0,c1,c2,c3⟩:=aN4 hbk.cell;simp at c0 c1 c2 c3
   clear hb hall hbk
   by_cases hlt:k < n
   .have hkp:k < fs.length:=by rw [HN.out];exact hlt
    have k0:(0:Int)<=(k:Int):=aa _
    have k1:(k:Int) < (n:Int):=by omega
    obtain ⟨b,o,us,rfl,_,hr,hc⟩:=(HS.out.keep (za HB2.out)).get k hkp
    have cv:=HV.out fs[k] us wo hr (HZ.out _ (ze hkp)).1 (HZ.out _ (ze hkp)).2
    obtain ⟨x,hx⟩:=aX (fs[k])
    rw [hx] at cv hr
    obtain ⟨A1,cA,B1,dB,rfl,p1,p2,p3,p4,p5,p6,p7,p8,p9,p10,p11,p12⟩:=rep_fld hr
    clear p1 p2 p3 p4 p5 p6 p7 p8 p9 p10 p11 p12
    change Calls Tryz.prog 92 #[.agg #[.string (Sc.nm x),.string (Sc.of_ x),.string (Sc.up x),.int .i64 (Sc.kd x),.int .i64 (Sc.lo x),.int .i64 (Sc.hi x),.slice A1 (Sc.words x).length cA,.slice B1 (Sc.wts x).length dB]] wo _ at cv
    obtain ⟨d0,d1,d2,d3,d4,d5,d6,d7⟩:=aG8 (m:=k*8) hc
    obtain ⟨bb,hbb⟩:=aX (Sx.fldB x)
    rw [hbb] at cv
    have CV:=aI cv
    have HX:=aI hx
    have HBB:=aI hbb
    clear cv hbb hr hc hx
    cases bb
    .have HR:=aI (all_bad (b:=Sx.fldB) hkp (by rw [HX.out];exact HBB.out))
     go_wp2_with (go_at_call 92;(with_reducible refine CV.out.mono ?_);rintro e w2 ⟨rfl,hb2⟩;replace HB2:=aT HB2 hb2;clear hb2)
     go_ret
     exact ⟨by rw [HF2.out,HR.out];first | done | rfl | simp,HB.out.trans (HB2.out.mono HB.out.size)⟩
    .go_wp2_with (go_at_call 92;(with_reducible refine CV.out.mono ?_);rintro e w2 ⟨rfl,hb2⟩;replace HB2:=aT HB2 hb2;clear hb2)
     go_roundg (gk - 1)
     case measure=>omega
     case rel =>
      refine ⟨k+1,by omega,by go_num,HB2.out,λq hq hlt=>?_⟩
      rcases aj q k with h' | h'
      .exact HA.out q hq h'
      .obtain rfl:q=k:=by omega
       rw [HX.out];exact HBB.out
   .have HR:=aI (all_good (b:=Sx.fldB) λq hq=>HA.out q hq (by rw [HN.out] at hq;omega))
    have k1:¬(k:Int) < (n:Int):=by omega
    go_wp2_with fail
    go_ret
    exact ⟨by rw [HF2.out,HR.out];first | done | rfl | simp,HB.out.trans (HB2.out.mono HB.out.size)⟩
theorem rIsLife_any (x:Lif) (us:List Value) (w:World) (h:Mem.rep [] w x us) (hl:x.2.2.length<=1000000):Calls Tryz.prog 35 #[.agg us.toArray] w (BoolP (Sx.lifB x) w):=by
 obtain ⟨A,c,B,d,rfl,s1,s2,z1,b1,b2,e1,e2⟩:=rep_lif h
 obtain ⟨nm,ss,ms⟩:=x
 have z1:nm.size<=9223372036854775807:=z1
 have hl:ms.length<=1000000:=hl
 have hl2:ss.length<=9223372036854775807:=by have:ss.length<=c:=b1;omega
 have CN:=aI (λw=>rIsName_any nm w z1)
 obtain ⟨q1,hq1⟩:=aX (Sx.nm nm)
 rw [hq1] at CN
 have CW:=aI (rWithin_any (ss.length:Int) 1 12)
 obtain ⟨q2,hq2⟩:=aX (Sx.within (ss.length:Int) 1 12)
 rw [hq2] at CW
 show Calls Tryz.prog 35 #[.agg #[.string nm,.slice A ss.length c,.slice B ms.length d]] w (BoolP (Sx.lifB ((nm,ss,ms):Lif)) w)
 obtain ⟨W1,hW1,HB,hbk⟩:=aW w #[.string nm,.slice A ss.length c,.slice B ms.length d] 57
 have HW1:=aI hW1
 have HS:=aI (SlAt.keep (show SlAt [] w B ms from s2) (za HB.out))
 have CM:=aI (rNames_any ss A c W1 (SlAt.keep (show SlAt [] w A ss from s1) (za HB.out)) hl2)
 obtain ⟨q3,hq3⟩:=aX (ss.all Sx.nm)
 rw [hq3] at CM
 obtain ⟨n,hn⟩:=aX ms.length
 obtain ⟨ns,hns⟩:=aX ss.length
 have HN:=aI hn
 have HF:=aI (show Sx.lifB ((nm,ss,ms):Lif)=(q1 && (q2 && (q3 && (decide (n<=32) && ms.all (Sx.mvB ns))))) by rw [<-hq1,<-hq2,<-hq3,<-hn,<-hns];rfl)
 rw [hn] at hbk HW1 hl
 rw [hns] at hbk HW1 hl2 CW CM hq2
 rw [hn,hns]
 obtain ⟨N,hN⟩:=aX w.heap.size
 rw [hN] at hbk
 have HBK:=aI hbk
 have HQ2:=aI hq2
 obtain ⟨c0,c1,c2⟩:=aN3 hbk.cell;simp at c0 c1 c2
 clear h s1 s2 z1 b1 b2 e1 e2 hq1 hq2 hq3 hn hns hW1 hbk
 generalize Sx.lifB ((nm,ss,ms):Lif)=fb at *
 go_enter Tryz.func35,Tryz.ntmps35
 go_upto_region 1 with fail
 rw [HW1.out]
 (try rw [hN])
 cases q1
 .go_wp2_with (first | (go_at_call 90;(with_reducible refine aS (CN.out _) ?_)) | (go_at_call 33;(with_reducible refine aS (CW.out _) ?_)) | (go_at_call 93;(with_reducible refine aS (CM.out) ?_)))
  go_ret
  exact ⟨by rw [HF.out];first | rfl | simp,HB.out⟩
 cases q2
 .go_wp2_with (first | (go_at_call 90;(with_reducible refine aS (CN.out _) ?_)) | (go_at_call 33;(with_reducible refine aS (CW.out _) ?_)) | (go_at_call 93;(with_reducible refine aS (CM.out) ?_)))
  go_ret
  exact ⟨by rw [HF.out];first | rfl | simp,HB.out⟩
 cases q3
 .go_wp2_with (first | (go_at_call 90;(with_reducible refine aS (CN.out _) ?_)) | (go_at_call 33;(with_reducible refine aS (CW.out _) ?_)) | (go_at_call 93;(with_reducible refine aS (CM.out) ?_)))
  go_ret
  exact ⟨by rw [HF.out];first | rfl | simp,HB.out⟩
 by_cases h10:n<=32
 rotate_left
 .have t1:(32:Int) < (n:Int):=by omega
  have HF2:=aI (HF.out.trans (show (true && (true && (true && (decide (n<=32) && ms.all (Sx.mvB ns)))))=false by rw [ad h10];rfl))
  clear h10
  go_wp2_with (first | (go_at_call 90;(with_reducible refine aS (CN.out _) ?_)) | (go_at_call 33;(with_reducible refine aS (CW.out _) ?_)) | (go_at_call 93;(with_reducible refine aS (CM.out) ?_)))
  go_ret
  exact ⟨by rw [HF2.out];first | done | rfl | simp,HB.out⟩
 .have t1:¬(32:Int) < (n:Int):=by omega
  have t2:(n:Int)<=(32:Int):=by omega
  have hns1:=(within_bd HQ2.out)
  have HF2:=aI (HF.out.trans (show (true && (true && (true && (decide (n<=32) && ms.all (Sx.mvB ns)))))=ms.all (Sx.mvB ns) by rw [ac h10];rfl))
  clear h10 HF
  go_wp2_with (first | (go_at_call 90;(with_reducible refine aS (CN.out _) ?_)) | (go_at_call 33;(with_reducible refine aS (CW.out _) ?_)) | (go_at_call 93;(with_reducible refine aS (CM.out) ?_)))
  clear t1 t2 c0 c1 c2
  obtain ⟨n1,hn1⟩:∃z:Int,(ns:Int) - 1=z:=⟨_,rfl⟩
  have hw1:IntKind.i64.wrap ((ns:Int) - 1)=n1:=by rw [<-hn1];exact wrapI (by unfold inI;omega)
  have HN1:=aI hn1
  have HW9:=aI (λa=>rWithin_any a 0 n1)
  clear hn1
  go_loopg [3] n (λr i wr=>∃k:Nat,k+r=n/\i=.int .i64 k/\Below W1.heap.size W1 wr/\∀j (hj:j < ms.length),j < k->Sx.mvB ns ms[j]=true)
  case atStart=>exact ⟨0,by omega,rfl,zf _ _,λ_ _ h=>by omega⟩
  case round =>
   obtain ⟨k,hk,rfl,hb,hall⟩:=hrel
   obtain ⟨wo,rfl⟩:=aY wr
   have HB2:=aI hb
   have HA:=aI hall
   have hbk:=HBK.out.below hb HBK.out.lt
   obtain ⟨c0,c1,c2⟩:=aN3 hbk.cell;simp at c0 c1 c2
   clear hb hall hbk
   by_cases hlt:k < n
   .have hkp:k < ms.length:=by rw [HN.out];exact hlt
    have k0:(0:Int)<=(k:Int):=aa _
    have k1:(k:Int) < (n:Int):=by omega
    obtain ⟨b,o,us,rfl,_,hr,hc⟩:=(HS.out.keep (za HB2.out)).get k hkp
    obtain ⟨⟨ma,mb⟩,hx⟩:∃x,ms[k]=x:=⟨_,rfl⟩
    rw [hx] at hr
    obtain ⟨rfl,p1,p2⟩:=rep_mv hr
    have d0:wo.cell? ⟨b,o+k*2,none⟩=some (.int .i64 ma):=hc 0 _ rfl
    have d1:wo.cell? ⟨b,o+k*2+1,none⟩=some (.int .i64 mb):=hc 1 _ rfl
    have CV:=aI (HW9.out ma)
    have CU:=aI (HW9.out mb)
    have HBB:=aI (show Sx.mvB ns ms[k]=(Sx.within ma 0 n1 && Sx.within mb 0 n1) by rw [hx,<-HN1.out];rfl)
    obtain ⟨r1,hr1⟩:=aX (Sx.within ma 0 n1)
    obtain ⟨r2,hr2⟩:=aX (Sx.within mb 0 n1)
    rw [hr1] at CV
    rw [hr2] at CU
    rw [hr1,hr2] at HBB
    clear hr hc hx p1 p2 hr1 hr2
    go_wp2_with fail
    have CVq:=aI (λn=>Calls.quiet_of_same (n:=n) (w:=wo) ((CV.out (wo.drewN n)).mono λ_ _ h=>⟨h.1,h.2.symm⟩))
    have CUq:=aI (λn=>Calls.quiet_of_same (n:=n) (w:=wo) ((CU.out (wo.drewN n)).mono λ_ _ h=>⟨h.1,h.2.symm⟩))
    clear CV CU
    cases r1
    .have HR:=aI (all_bad (b:=Sx.mvB ns) hkp HBB.out)
     go_quiet ((go_at_call 33;first | with_reducible exact CVq.out _ | with_reducible exact CUq.out _))
     go_wp2_with fail
     go_ret
     exact ⟨by rw [HF2.out,HR.out];first | done | rfl | simp,HB.out.trans (Below.mono (by exact ⟨HB2.out.os,HB2.out.tape,HB2.out.output,HB2.out.size,HB2.out.block⟩) HB.out.size)⟩
    cases r2
    .have HR:=aI (all_bad (b:=Sx.mvB ns) hkp HBB.out)
     go_quiet ((go_at_call 33;first | with_reducible exact CVq.out _ | with_reducible exact CUq.out _))
     go_wp2_with fail
     go_ret
     exact ⟨by rw [HF2.out,HR.out];first | done | rfl | simp,HB.out.trans (Below.mono (by exact ⟨HB2.out.os,HB2.out.tape,HB2.out.output,HB2.out.size,HB2.out.block⟩) HB.out.size)⟩
    .go_quiet ((go_at_call 33;first | with_reducible exact CVq.out _ | with_reducible exact CUq.out _))
     go_wp2_with fail
     go_roundg (gk - 1)
     case measure=>omega
     case rel =>
      refine ⟨k+1,by omega,by go_num,by exact ⟨HB2.out.os,HB2.out.tape,HB2.out.output,HB2.out.size,HB2.out.block⟩,λq hq hlt=>?_⟩
      rcases aj q k with h' | h'
      .exact HA.out q hq h'
      .obtain rfl:q=k:=by omega
       exact HBB.out
   .have HR:=aI (all_good (b:=Sx.mvB ns) λq hq=>HA.out q hq (by rw [HN.out] at hq;omega))
    have k1:¬(k:Int) < (n:Int):=by omega
    go_wp2_with fail
    go_ret
    exact ⟨by rw [HF2.out,HR.out];first | done | rfl | simp,HB.out.trans (HB2.out.mono HB.out.size)⟩
theorem rIsRule_any (x:Rul) (us:List Value) (w:World) (h:Mem.rep [] w x us):Calls Tryz.prog 36 #[.agg us.toArray] w (BoolP (Sx.rulB x) w):=by
 obtain ⟨rfl,a1,a2,a3,a4,a5⟩:=rep_rul h
 obtain ⟨nm,kd,a,b,n⟩:=x
 have a1:nm.size<=9223372036854775807:=a1
 have a2:kd.size<=9223372036854775807:=a2
 have a3:a.size<=9223372036854775807:=a3
 have a4:b.size<=9223372036854775807:=a4
 have CN:=aI (λw=>rIsName_any nm w a1)
 have CK:=aI (λw=>rIsName_any kd w a2)
 have CA:=aI (λw=>rIsName_any a w a3)
 have CB:=aI (λw=>rIsName_any b w a4)
 have CW:=aI (rWithin_any n (-1048576) 1048576)
 obtain ⟨y1,y2,y3⟩:=em_spell a
 obtain ⟨y4,y5,y6⟩:=em_spell b
 obtain ⟨qn,hq1⟩:=aX (Sx.nm nm)
 rw [hq1] at CN
 obtain ⟨qk,hq2⟩:=aX (Sx.nm kd)
 rw [hq2] at CK
 obtain ⟨ea,hq3⟩:=aX (Sx.em a)
 rw [hq3] at y1 y2 y3
 obtain ⟨na,hq4⟩:=aX (Sx.nm a)
 rw [hq4] at CA
 obtain ⟨eb,hq5⟩:=aX (Sx.em b)
 rw [hq5] at y4 y5 y6
 obtain ⟨nb,hq6⟩:=aX (Sx.nm b)
 rw [hq6] at CB
 obtain ⟨qw,hq7⟩:=aX (Sx.within n (-1048576) 1048576)
 rw [hq7] at CW
 have HF:=aI (show Sx.rulB ((nm,kd,a,b,n):Rul)=(qn && (qk && ((ea || na) && ((eb || nb) && (!(ea && eb) && qw))))) by rw [<-hq1,<-hq2,<-hq3,<-hq4,<-hq5,<-hq6,<-hq7];rfl)
 show Calls Tryz.prog 36 #[.agg #[.string nm,.string kd,.string a,.string b,.int .i64 n]] w _
 obtain ⟨W1,hW1,HB,hbk⟩:=aW w #[.string nm,.string kd,.string a,.string b,.int .i64 n] 60
 have HW1:=aI hW1
 obtain ⟨N,hN⟩:=aX w.heap.size
 rw [hN] at hbk
 obtain ⟨c0,c1,c2,c3,c4⟩:=aN5 hbk.cell;simp at c0 c1 c2 c3 c4
 clear h hbk hW1 a1 a2 a3 a4 a5 hq1 hq2 hq3 hq4 hq5 hq6 hq7
 generalize Sx.rulB ((nm,kd,a,b,n):Rul)=fb at *
 go_enter Tryz.func36,Tryz.ntmps36
 go_upto_region 1 with fail
 rw [HW1.out]
 (try rw [hN])
 cases ea <;> cases eb <;> cases na <;> cases nb <;> cases qn <;> cases qk <;> (go_wp2_with (first | (go_at_call 90;(with_reducible refine aS (CA.out _) ?_)) | (go_at_call 90;(with_reducible refine aS (CB.out _) ?_)) | (go_at_call 90;(with_reducible refine aS (CN.out _) ?_)) | (go_at_call 90;(with_reducible refine aS (CK.out _) ?_)) | (go_at_call 33;(with_reducible refine aS (CW.out _) ?_)));go_ret;exact ⟨by rw [HF.out];first | rfl | simp,HB.out⟩)
namespace Sx
structure Loc {α:Type} (p:List Tok->Res α):Prop where
 ok:∀l a m,p l=.ok a m->∃c,l=c++m/\∀d,d <+: m->p (c++d)=.ok a d
 bad:∀l m,p l=.bad m->∃c,l=c++m/\(p c=.bad []∨∃a,p c=.ok a [])
theorem loc_nil {α:Type} {p:List Tok->Res α} (h:Loc p):p []=.bad []∨∃a,p []=.ok a []:=by
 cases hp:p [] with
 | ok a m =>
  obtain ⟨c,e,_⟩:=h.ok [] a m hp
  have:m=[]:=(List.append_eq_nil_iff.1 e.symm).2
  subst this
  exact .inr ⟨a,rfl⟩
 | bad m =>
  obtain ⟨c,e,_⟩:=h.bad [] m hp
  have:m=[]:=(List.append_eq_nil_iff.1 e.symm).2
  subst this
  exact .inl rfl
theorem loc_next (right:Txt->Bool):Loc (next right):=by
 refine ⟨λl a m h=>?_,λl m h=>?_⟩
 .cases l with
  | nil=>cases h
  | cons t l =>
   have h:(if right t.1=true then Res.ok t.1 l else Res.bad (t::l))=.ok a m:=h
   by_cases hr:right t.1=true
   .rw [if_pos hr] at h
    injection h with h1 h2
    subst h1 h2
    refine ⟨[t],rfl,λd _=>?_⟩
    show (if right t.1=true then Res.ok t.1 d else Res.bad (t::d))=_
    rw [if_pos hr]
   .rw [if_neg hr] at h;cases h
 .cases l with
  | nil =>
   have h:Res.bad []=Res.bad m:=h
   injection h with h
   subst h
   exact ⟨[],rfl,.inl rfl⟩
  | cons t l =>
   have h:(if right t.1=true then Res.ok t.1 l else Res.bad (t::l))=.bad m:=h
   by_cases hr:right t.1=true
   .rw [if_pos hr] at h;cases h
   .rw [if_neg hr] at h
    injection h with h
    subst h
    exact ⟨[],rfl,.inl rfl⟩
theorem loc_ret {α:Type} (a:α):Loc (λl=>Res.ok a l) :=
 ⟨λl b m h=>by injection h with h1 h2;subst h1 h2;exact ⟨[],rfl,λd _=>rfl⟩,λl m h=>by cases h⟩
theorem loc_bind {α β:Type} {p:List Tok->Res α} {f:α->List Tok->Res β} (h:Loc p) (k:∀a,Loc (f a)):Loc (λl=>(p l).bind f):=by
 refine ⟨λl b m hb=>?_,λl m hb=>?_⟩
 .have hb:(p l).bind f=.ok b m:=hb
  cases hp:p l with
  | bad l1=>rw [hp] at hb;cases hb
  | ok a l1 =>
   rw [hp] at hb
   have hb:f a l1=.ok b m:=hb
   obtain ⟨c1,e1,g1⟩:=h.ok l a l1 hp
   obtain ⟨c2,e2,g2⟩:=(k a).ok l1 b m hb
   refine ⟨c1++c2,by rw [e1,e2,zo],λd hd=>?_⟩
   show (p (c1++c2++d)).bind f=_
   rw [zo,g1 (c2++d) (by rw [e2];exact (List.prefix_append_right_inj _).2 hd)]
   exact g2 d hd
 .have hb:(p l).bind f=.bad m:=hb
  cases hp:p l with
  | bad l1 =>
   rw [hp] at hb
   have hb:Res.bad l1=(Res.bad m:Res β):=hb
   injection hb with hb
   subst hb
   obtain ⟨c,e,g⟩:=h.bad l l1 hp
   refine ⟨c,e,?_⟩
   rcases g with g | ⟨a,g⟩
   .exact .inl (by show (p c).bind f=_;rw [g];rfl)
   .rcases loc_nil (k a) with g2 | ⟨b,g2⟩
    .exact .inl (by show (p c).bind f=_;rw [g];exact g2)
    .exact .inr ⟨b,by show (p c).bind f=_;rw [g];exact g2⟩
  | ok a l1 =>
   rw [hp] at hb
   have hb:f a l1=.bad m:=hb
   obtain ⟨c1,e1,g1⟩:=h.ok l a l1 hp
   obtain ⟨c2,e2,g2⟩:=(k a).bad l1 m hb
   refine ⟨c1++c2,by rw [e1,e2,zo],?_⟩
   have hc:=g1 c2 (by rw [e2];exact List.prefix_append _ _)
   rcases g2 with g2 | ⟨b,g2⟩
   .exact .inl (by show (p (c1++c2)).bind f=_;rw [hc];exact g2)
   .exact .inr ⟨b,by show (p (c1++c2)).bind f=_;rw [hc];exact g2⟩
def Eats {α:Type} (p:List Tok->Res α):Prop:=∀l a m,p l=.ok a m->m.length < l.length
theorem loc_len {α:Type} {p:List Tok->Res α} (h:Loc p) {l m:List Tok} {a:α} (hp:p l=.ok a m):m.length<=l.length:=by
 obtain ⟨c,e,_⟩:=h.ok l a m hp
 rw [e,aK];omega
theorem eats_next (right:Txt->Bool):Eats (next right):=by
 intro l a m h
 cases l with
 | nil=>cases h
 | cons t l =>
  have h:(if right t.1=true then Res.ok t.1 l else Res.bad (t::l))=.ok a m:=h
  by_cases hr:right t.1=true
  .rw [if_pos hr] at h
   injection h with _ h2
   subst h2
   simp
  .rw [if_neg hr] at h;cases h
theorem eats_bind {α β:Type} {p:List Tok->Res α} {f:α->List Tok->Res β} (h:Eats p) (k:∀a,Loc (f a)):Eats (λl=>(p l).bind f):=by
 intro l b m hb
 have hb:(p l).bind f=.ok b m:=hb
 cases hp:p l with
 | bad l1=>rw [hp] at hb;cases hb
 | ok a l1 =>
  rw [hp] at hb
  have h1:=h l a l1 hp
  have h2:=loc_len (k a) (show f a l1=.ok b m from hb)
  omega
theorem many_loc {α:Type} {begins:Txt->Bool} {read:List Tok->Res α} (h:Loc read) (he:Eats read):∀(n:Nat) (l:List Tok) (fuel:Nat) (acc:List α),l.length=n->l.length<=fuel ->
  (∀xs m,many begins read fuel acc l=.ok xs m->∃c,l=c++m/\∀d,d <+: m->∀F,(c++d).length<=F->many begins read F acc (c++d)=.ok xs d) /\
  (∀m,many begins read fuel acc l=.bad m->∃c,l=c++m/\∀F,c.length<=F->(many begins read F acc c=.bad []∨∃xs,many begins read F acc c=.ok xs [])):=by
 intro n
 induction n using Nat.strongRecOn with
 | _ n ih =>
  intro l fuel acc hn hf
  have mnil:∀F,many begins read F acc []=.ok acc []:=λF=>by cases F <;> rfl
  cases l with
  | nil =>
   rw [mnil]
   refine ⟨λxs m hm=>?_,λm hm=>by cases hm⟩
   injection hm with h1 h2
   subst h1 h2
   refine ⟨[],rfl,λd hd F _=>?_⟩
   rw [List.prefix_nil.1 hd]
   exact mnil F
  | cons t l =>
   obtain ⟨fuel,rfl⟩:∃f,fuel=f+1:=⟨fuel - 1,by simp at hf;omega⟩
   have step:∀F u r,many begins read (F+1) acc (u::r)=if begins u.1=true then (read (u::r)).bind λa l=>many begins read F (acc++[a]) l else .ok acc (u::r):=λ_ _ _=>rfl
   rw [step]
   by_cases hb:begins t.1=true
   .rw [if_pos hb]
    cases hr:read (t::l) with
    | bad l1 =>
     refine ⟨λxs m hm=>(by cases hm),λm hm=>?_⟩
     have hm:Res.bad l1=(Res.bad m:Res (List α)):=hm
     injection hm with hm
     subst hm
     obtain ⟨c,e,g⟩:=h.bad _ _ hr
     refine ⟨c,e,λF hF=>?_⟩
     cases c with
     | nil=>exact .inr ⟨acc,mnil F⟩
     | cons u c =>
      obtain ⟨F,rfl⟩:∃f,F=f+1:=⟨F - 1,by simp at hF;omega⟩
      have hu:u=t:=by rw [zM] at e;injection e with e _;exact e.symm
      rw [step,hu,if_pos hb]
      rw [hu] at g
      rcases g with g | ⟨a,g⟩
      .exact .inl (by rw [g];rfl)
      .refine .inr ⟨acc++[a],?_⟩
       rw [g]
       show many begins read F (acc++[a]) []=_
       cases F <;> rfl
    | ok a l1 =>
     have hlt:=he _ _ _ hr
     obtain ⟨c1,e1,g1⟩:=h.ok _ _ _ hr
     obtain ⟨i1,i2⟩:=ih l1.length (by omega) l1 fuel (acc++[a]) rfl (by simp at hf hlt;omega)
     have c1ne:∃u c',c1=u::c':=by
      cases c1 with
      | nil=>rw [zA] at e1;rw [<-e1] at hlt;omega
      | cons u c'=>exact ⟨u,c',rfl⟩
     obtain ⟨u,c',rfl⟩:=c1ne
     have hu:u=t:=by rw [zM] at e1;injection e1 with e1 _;exact e1.symm
     subst hu
     refine ⟨λxs m hm=>?_,λm hm=>?_⟩
     .obtain ⟨c2,e2,g2⟩:=i1 xs m hm
      refine ⟨u::c'++c2,by rw [e1,e2,zo],λd hd F hF=>?_⟩
      obtain ⟨F,rfl⟩:∃f,F=f+1:=⟨F - 1,by simp at hF;omega⟩
      have hc:=g1 (c2++d) (by rw [e2];exact (List.prefix_append_right_inj _).2 hd)
      rw [zo] at hF ⊢
      rw [zM] at hc hF ⊢
      rw [step,if_pos hb,hc]
      exact g2 d hd F (by simp at hF ⊢;omega)
     .obtain ⟨c2,e2,g2⟩:=i2 m hm
      refine ⟨u::c'++c2,by rw [e1,e2,zo],λF hF=>?_⟩
      obtain ⟨F,rfl⟩:∃f,F=f+1:=⟨F - 1,by simp at hF;omega⟩
      have hc:=g1 c2 (by rw [e2];exact List.prefix_append _ _)
      rw [zM] at hc hF ⊢
      rw [step,if_pos hb,hc]
      exact g2 F (by simp at hF;omega)
   .rw [if_neg hb]
    refine ⟨λxs m hm=>?_,λm hm=>by cases hm⟩
    injection hm with h1 h2
    subst h1 h2
    refine ⟨[],rfl,λd hd F hF=>?_⟩
    rw [zA] at hF ⊢
    cases d with
    | nil=>exact mnil F
    | cons u d =>
     obtain ⟨F,rfl⟩:∃f,F=f+1:=⟨F - 1,by simp at hF;omega⟩
     have hu:u=t:=(List.cons_prefix_cons.1 hd).1
     subst hu
     rw [step,if_neg hb]
theorem loc_many {α:Type} {begins:Txt->Bool} {read:List Tok->Res α} (h:Loc read) (he:Eats read):Loc (λl=>many begins read l.length [] l):=by
 refine ⟨λl a m hm=>?_,λl m hm=>?_⟩
 .obtain ⟨c,e,g⟩:=(many_loc (begins:=begins) h he l.length l l.length [] rfl (ag _)).1 a m hm
  exact ⟨c,e,λd hd=>g d hd _ (ag _)⟩
 .obtain ⟨c,e,g⟩:=(many_loc (begins:=begins) h he l.length l l.length [] rfl (ag _)).2 m hm
  exact ⟨c,e,g _ (ag _)⟩
theorem loc_need (w:Txt):Loc (need w):=loc_bind (loc_next _) (λ_=>loc_ret _)
theorem loc_number:Loc number:=loc_bind (loc_next _) (λ_=>loc_ret _)
theorem loc_count:Loc count:=loc_bind (loc_next _) (λ_=>loc_ret _)
theorem loc_name:Loc name:=loc_next _
theorem loc_names:Loc names:=loc_bind (loc_next _) (λ_=>loc_ret _)
theorem loc_picks:∀(n:Nat) (ws:List ByteArray) (ns:List Int),Loc (picks n ws ns)
 | 0,_,_=>loc_ret _
 | n+1,_,_=>loc_bind loc_name (λ_=>loc_bind loc_number (λ_=>loc_picks n _ _))
theorem loc_states:∀(n:Nat) (ws:List ByteArray),Loc (states n ws)
 | 0,_=>loc_ret _
 | n+1,_=>loc_bind loc_name (λ_=>loc_states n _)
theorem loc_field1 (k:Nat) (nm:ByteArray):Loc (field1 k nm):=by
 unfold field1
 by_cases k0:k=0
 .simp only [if_pos k0];exact loc_bind loc_number (λ_=>loc_ret _)
 simp only [if_neg k0]
 by_cases k3:k=3
 .simp only [if_pos k3];exact loc_bind loc_count (λ_=>loc_bind (loc_picks _ _ _) (λ_=>loc_ret _))
 simp only [if_neg k3]
 by_cases k6:k=6
 .simp only [if_pos k6];exact loc_bind loc_name (λ_=>loc_ret _)
 simp only [if_neg k6]
 by_cases k8:k=8
 .simp only [if_pos k8];exact loc_bind loc_name (λ_=>loc_bind loc_name (λ_=>loc_ret _))
 simp only [if_neg k8]
 by_cases k7:k=7
 .simp only [if_pos k7];exact loc_bind loc_name (λ_=>loc_bind loc_name (λ_=>loc_bind loc_number (λ_=>loc_bind loc_number (λ_=>loc_ret _))))
 simp only [if_neg k7]
 by_cases k2:k=2
 .simp only [if_pos k2];exact loc_bind loc_number (λ_=>loc_bind loc_number (λ_=>loc_ret _))
 simp only [if_neg k2]
 by_cases k4:k=4
 .simp only [if_pos k4];exact loc_bind loc_names (λ_=>loc_bind loc_number (λ_=>loc_bind loc_number (λ_=>loc_ret _)))
 .simp only [if_neg k4];exact loc_bind loc_name (λ_=>loc_bind loc_number (λ_=>loc_bind loc_number (λ_=>loc_ret _)))
theorem field_eq:field=λl=>(next isWord l).bind λt l=>(name l).bind λnm l=>field1 ((wordOf t).getD 0) (ofT nm) l:=by
 funext l
 cases l with
 | nil=>rfl
 | cons t l =>
  show (match wordOf t.1 with
   | none=>Res.bad (t::l)
   | some k=>(name l).bind λnm l=>field1 k (ofT nm) l)=((if isWord t.1=true then Res.ok t.1 l else Res.bad (t::l))).bind _
  unfold isWord
  cases hw:wordOf t.1 with
  | none=>rfl
  | some k =>
   rw [if_pos (show (some k).isSome=true from rfl)]
   show _=(name l).bind λnm l=>field1 ((wordOf t.1).getD 0) (ofT nm) l
   rw [hw];rfl
theorem loc_field:Loc field:=by rw [field_eq];exact loc_bind (loc_next _) (λ_=>loc_bind loc_name (λ_=>loc_field1 _ _))
theorem eats_field:Eats field:=by rw [field_eq];exact eats_bind (eats_next _) (λ_=>loc_bind loc_name (λ_=>loc_field1 _ _))
theorem eats_need (w:Txt):Eats (need w):=eats_bind (eats_next _) (λ_=>loc_ret _)
theorem loc_kind1:∀_:Unit,Loc (λl=>(name l).bind λnm l=>(number l).bind λlo l=>(number l).bind λhi l=>(many isWord field l.length [] l).bind λfs l=>Res.ok ((ofT nm,lo,hi,fs):Knd) l):=λ_ =>
 loc_bind loc_name (λ_=>loc_bind loc_number (λ_=>loc_bind loc_number (λ_=>loc_bind (loc_many loc_field eats_field) (λ_=>loc_ret _))))
theorem loc_kind:Loc kind:=loc_bind (loc_need _) loc_kind1
theorem eats_kind:Eats kind:=eats_bind (eats_need _) loc_kind1
theorem loc_move1:∀_:Unit,Loc (λl=>(number l).bind λa l=>(number l).bind λb l=>Res.ok ((a,b):Int × Int) l):=λ_=>loc_bind loc_number (λ_=>loc_bind loc_number (λ_=>loc_ret _))
theorem loc_move:Loc move:=loc_bind (loc_need _) loc_move1
theorem eats_move:Eats move:=eats_bind (eats_need _) loc_move1
theorem loc_life1:∀_:Unit,Loc (λl=>(name l).bind λnm l=>(count l).bind λn l=>(states n [] l).bind λss l=>(many (λt=>t == sMove) move l.length [] l).bind λms l=>Res.ok ((ofT nm,ss,ms):Lif) l):=λ_ =>
 loc_bind loc_name (λ_=>loc_bind loc_count (λ_=>loc_bind (loc_states _ _) (λ_=>loc_bind (loc_many loc_move eats_move) (λ_=>loc_ret _))))
theorem loc_life:Loc life:=loc_bind (loc_need _) loc_life1
theorem eats_life:Eats life:=eats_bind (eats_need _) loc_life1
theorem loc_rule1:∀_:Unit,Loc (λl=>(name l).bind λnm l=>(name l).bind λk l=>(names l).bind λa l=>(names l).bind λb l=>(number l).bind λn l=>Res.ok ((ofT nm,ofT k,ofT a,ofT b,n):Rul) l):=λ_ =>
 loc_bind loc_name (λ_=>loc_bind loc_name (λ_=>loc_bind loc_names (λ_=>loc_bind loc_names (λ_=>loc_bind loc_number (λ_=>loc_ret _)))))
theorem loc_rule:Loc rule:=loc_bind (loc_need _) loc_rule1
theorem eats_rule:Eats rule:=eats_bind (eats_need _) loc_rule1
end Sx
namespace Sx
theorem bind_ok {α β:Type} {r:Res α} {f:α->List Tok->Res β} {b:β} {m:List Tok} (h:r.bind f=.ok b m):∃a l,r=.ok a l/\f a l=.ok b m:=by
 cases r with
 | ok a l=>exact ⟨a,l,rfl,h⟩
 | bad l=>cases h
theorem next_ok {right:Txt->Bool} {l m:List Tok} {t:Txt} (h:next right l=.ok t m):right t=true/\m.length<=l.length:=by
 cases l with
 | nil=>cases h
 | cons u l =>
  have h:(if right u.1=true then Res.ok u.1 l else .bad (u::l))=.ok t m:=h
  split at h
  .rename_i hr
   injection h with h1 h2
   subst h1 h2
   exact ⟨hr,by simp⟩
  .cases h
theorem many_sz {α:Type} {begins:Txt->Bool} {read:List Tok->Res α} {P:α->Prop} {B:Nat} (hr:∀l a m,l.length<=B->read l=.ok a m->P a/\m.length<=l.length) :
  ∀(f:Nat) (acc:List α) (l:List Tok) (xs:List α) (m:List Tok),l.length<=B->many begins read f acc l=.ok xs m->xs.length<=acc.length+f/\m.length<=l.length/\((∀x∈acc,P x)->∀x∈xs,P x)
 | 0,acc,l,xs,m,_,h=>by
  injection h with h1 h2
  subst h1 h2
  exact ⟨ag _,ag _,λh=>h⟩
 | f+1,acc,[],xs,m,_,h=>by
  injection h with h1 h2
  subst h1 h2
  exact ⟨by omega,ag _,λh=>h⟩
 | f+1,acc,t::r,xs,m,hl,h=>by
  have h:(if begins t.1=true then (read (t::r)).bind λa l=>many begins read f (acc++[a]) l else .ok acc (t::r))=.ok xs m:=h
  split at h
  .obtain ⟨a,l1,h1,h2⟩:=bind_ok h
   obtain ⟨p1,p2⟩:=hr _ _ _ hl h1
   obtain ⟨q1,q2,q3⟩:=many_sz hr f _ _ _ _ (by omega) h2
   rw [aK,List.length_singleton] at q1
   refine ⟨by omega,by omega,λhP=>q3 λx hx=>?_⟩
   rcases zE.1 hx with hx | hx
   .exact hP x hx
   .rw [zg] at hx;subst hx;exact p1
  .injection h with h1 h2
   subst h1 h2
   exact ⟨by omega,ag _,λh=>h⟩
theorem number_ok {l m:List Tok} {n:Int} (h:number l=.ok n m):m.length<=l.length:=loc_len loc_number h
theorem name_ok {l m:List Tok} {t:Txt} (h:name l=.ok t m):t.length<=12/\m.length<=l.length:=by
 obtain ⟨h1,h2⟩:=next_ok h
 unfold nameB at h1
 simp only [zw,zD] at h1
 exact ⟨h1.1.1.2,h2⟩
theorem names_ok {l m:List Tok} {t:Txt} (h:names l=.ok t m):t.length<=12/\m.length<=l.length:=by
 obtain ⟨a,l1,h1,h2⟩:=bind_ok h
 obtain ⟨h3,h4⟩:=next_ok h1
 injection h2 with h5 h6
 subst h5 h6
 refine ⟨?_,h4⟩
 split
 .decide
 .rename_i hn
  rw [Bool.or_eq_true] at h3
  rcases h3 with h3 | h3
  .unfold nameB at h3
   simp only [zw,zD] at h3
   exact h3.1.1.2
  .exact zU h3 hn
theorem count_ok {l m:List Tok} {n:Nat} (h:count l=.ok n m):n<=12/\m.length<=l.length:=by
 obtain ⟨a,l1,h1,h2⟩:=bind_ok h
 obtain ⟨h3,h4⟩:=next_ok h1
 injection h2 with h5 h6
 subst h5 h6
 rw [zw] at h3
 have:=within_of h3.2
 exact ⟨by omega,h4⟩
theorem picks_len:∀(n:Nat) (ws:List ByteArray) (ns:List Int) (l:List Tok) (p:List ByteArray × List Int) (m:List Tok),picks n ws ns l=.ok p m->p.2.length=ns.length+n
 | 0,_,_,_,_,_,h=>by injection h with h1 h2;subst h1;rfl
 | n+1,ws,ns,l,p,m,h=>by
  obtain ⟨w,l1,_,h2⟩:=bind_ok h
  obtain ⟨v,l2,_,h4⟩:=bind_ok h2
  have:=picks_len n _ _ _ _ _ h4
  rw [aK,List.length_singleton] at this
  omega
theorem states_len:∀(n:Nat) (ws:List ByteArray) (l:List Tok) (p:List ByteArray) (m:List Tok),states n ws l=.ok p m->p.length=ws.length+n
 | 0,_,_,_,_,h=>by injection h with h1 h2;subst h1;rfl
 | n+1,ws,l,p,m,h=>by
  obtain ⟨w,l1,_,h2⟩:=bind_ok h
  have:=states_len n _ _ _ _ h2
  rw [aK,List.length_singleton] at this
  omega
theorem field1_ok {k:Nat} {nm:ByteArray} {l m:List Tok} {f:Fld} (h:field1 k nm l=.ok f m):(Sc.wts f).length<=12:=by
 unfold field1 at h
 split at h
 .obtain ⟨_,_,_,h⟩:=bind_ok h
  injection h with h1 h2;subst h1;exact zN _
 split at h
 .obtain ⟨n,l1,h1,h⟩:=bind_ok h
  obtain ⟨p,l2,h2,h⟩:=bind_ok h
  have:=picks_len _ _ _ _ _ _ h2
  have hn:=(count_ok h1).1
  injection h with h3 h4;subst h3
  show p.2.length<=12
  rw [this];simpa using hn
 split at h
 .obtain ⟨_,_,_,h⟩:=bind_ok h
  injection h with h1 h2;subst h1;exact zN _
 split at h
 .obtain ⟨_,_,_,h⟩:=bind_ok h
  obtain ⟨_,_,_,h⟩:=bind_ok h
  injection h with h1 h2;subst h1;exact zN _
 split at h
 .obtain ⟨_,_,_,h⟩:=bind_ok h
  obtain ⟨_,_,_,h⟩:=bind_ok h
  obtain ⟨_,_,_,h⟩:=bind_ok h
  obtain ⟨_,_,_,h⟩:=bind_ok h
  injection h with h1 h2;subst h1;exact zN _
 split at h
 .obtain ⟨_,_,_,h⟩:=bind_ok h
  obtain ⟨_,_,_,h⟩:=bind_ok h
  injection h with h1 h2;subst h1;exact zN _
 .obtain ⟨_,_,_,h⟩:=bind_ok h
  obtain ⟨_,_,_,h⟩:=bind_ok h
  obtain ⟨_,_,_,h⟩:=bind_ok h
  injection h with h1 h2;subst h1;exact zN _
theorem field_ok {l m:List Tok} {f:Fld} (h:field l=.ok f m):(Sc.wts f).length<=12/\m.length<=l.length:=by
 refine ⟨?_,loc_len loc_field h⟩
 rw [field_eq] at h
 obtain ⟨_,_,_,h⟩:=bind_ok h
 obtain ⟨_,_,_,h⟩:=bind_ok h
 exact field1_ok h
theorem kind_ok {B:Nat} {l m:List Tok} {k:Knd} (hl:l.length<=B) (h:kind l=.ok k m):((Sc.flds k).length<=B/\∀f∈Sc.flds k,(Sc.wts f).length<=12)/\m.length<=l.length:=by
 refine ⟨?_,loc_len loc_kind h⟩
 obtain ⟨_,l1,h1,h⟩:=bind_ok h
 obtain ⟨_,l2,h2,h⟩:=bind_ok h
 obtain ⟨_,l3,h3,h⟩:=bind_ok h
 obtain ⟨_,l4,h4,h⟩:=bind_ok h
 obtain ⟨fs,l5,h5,h⟩:=bind_ok h
 have a1:=loc_len (loc_need _) h1
 have a2:=(name_ok h2).2
 have a3:=number_ok h3
 have a4:=number_ok h4
 obtain ⟨q1,_,q3⟩:=many_sz (P:=λf:Fld=>(Sc.wts f).length<=12) (B:=l4.length) (λl a m _ h=>field_ok h) _ _ _ _ _ (ag _) h5
 injection h with h6 h7
 subst h6
 exact ⟨by show fs.length<=B;simp at q1;omega,q3 (λ_ h=>by cases h)⟩
theorem life_ok {B:Nat} {l m:List Tok} {x:Lif} (hl:l.length<=B) (h:life l=.ok x m):(x.2.1.length<=12/\x.2.2.length<=B)/\m.length<=l.length:=by
 refine ⟨?_,loc_len loc_life h⟩
 obtain ⟨_,l1,h1,h⟩:=bind_ok h
 obtain ⟨_,l2,h2,h⟩:=bind_ok h
 obtain ⟨n,l3,h3,h⟩:=bind_ok h
 obtain ⟨ss,l4,h4,h⟩:=bind_ok h
 obtain ⟨ms,l5,h5,h⟩:=bind_ok h
 have a1:=loc_len (loc_need _) h1
 have a2:=(name_ok h2).2
 have a3:=count_ok h3
 have a4:=loc_len (loc_states _ _) h4
 have a5:=states_len _ _ _ _ _ h4
 obtain ⟨q1,_,_⟩:=many_sz (P:=λ_:Int × Int=>True) (B:=l4.length) (λl a m _ h=>⟨trivial,loc_len loc_move h⟩) _ _ _ _ _ (ag _) h5
 injection h with h6 h7
 subst h6
 exact ⟨by show ss.length<=12;simp at a5;omega,by show ms.length<=B;simp at q1;omega⟩
theorem rule_ok {l m:List Tok} {r:Rul} (h:rule l=.ok r m):(r.2.2.1.size<=12/\r.2.2.2.1.size<=12)/\m.length<=l.length:=by
 refine ⟨?_,loc_len loc_rule h⟩
 obtain ⟨_,l1,_,h⟩:=bind_ok h
 obtain ⟨_,l2,_,h⟩:=bind_ok h
 obtain ⟨_,l3,_,h⟩:=bind_ok h
 obtain ⟨a,l4,h4,h⟩:=bind_ok h
 obtain ⟨b,l5,h5,h⟩:=bind_ok h
 obtain ⟨_,l6,_,h⟩:=bind_ok h
 have a4:=(names_ok h4).1
 have a5:=(names_ok h5).1
 injection h with h6 h7
 subst h6
 constructor
 .show (ofT a).size<=12;unfold ofT;simpa [ByteArray.size] using a4
 .show (ofT b).size<=12;unfold ofT;simpa [ByteArray.size] using a5
theorem schema_sz {l m:List Tok} {x:Sch} (hl:l.length<=8192) (h:schema l=.ok x m):Sz x:=by
 obtain ⟨_,l1,h1,h⟩:=bind_ok h
 obtain ⟨_,l2,h2,h⟩:=bind_ok h
 obtain ⟨ks,l3,h3,h⟩:=bind_ok h
 obtain ⟨ls,l4,h4,h⟩:=bind_ok h
 obtain ⟨rs,l5,h5,h⟩:=bind_ok h
 have a1:=loc_len (loc_need _) h1
 have a2:=number_ok h2
 obtain ⟨_,b3,q3⟩:=many_sz (P:=λk:Knd=>(Sc.flds k).length<=8192/\∀f∈Sc.flds k,(Sc.wts f).length<=12) (B:=8192) (λl a m hl h=>kind_ok hl h) _ _ _ _ _ (by omega) h3
 obtain ⟨_,b4,q4⟩:=many_sz (P:=λx:Lif=>x.2.1.length<=12/\x.2.2.length<=8192) (B:=8192) (λl a m hl h=>life_ok hl h) _ _ _ _ _ (by omega) h4
 obtain ⟨_,b5,q5⟩:=many_sz (P:=λr:Rul=>r.2.2.1.size<=12/\r.2.2.2.1.size<=12) (B:=8192) (λl a m hl h=>rule_ok h) _ _ _ _ _ (by omega) h5
 injection h with h6 h7
 subst h6
 refine ⟨λk hk=>?_,λx hx=>?_,λr hr=>?_⟩
 .have:=q3 (λ_ h=>by cases h) k hk
  exact ⟨by omega,λf hf=>by have:=this.2 f hf;omega⟩
 .have:=q4 (λ_ h=>by cases h) x hx
  omega
 .have:=q5 (λ_ h=>by cases h) r hr
  omega
end Sx
namespace Sx
def SzW (x:Sch):Prop:=∀k∈Sc.kinds x,∀f∈Sc.flds k,(Sc.words f).length<=1000000
end Sx
theorem rValid_sch (x:Sch) (us:List Value) (w:World) (h:Mem.rep [] w x us) (hz:Sx.Sz x) (hzw:Sx.SzW x):Calls Tryz.prog 8 #[.agg us.toArray] w λe w'=>e=.returned (.int .i64 (Sx.valid x))/\Below w.heap.size w w':=by
 have h0:=h
 obtain ⟨A,c,B,d,C,e,rfl,s1,s2,s3,a1,b1,b2,b3,b4,b5,b6⟩:=rep_sch h
 have HZK:=aI hz.k
 have HZL:=aI hz.l
 have HZW:=aI hzw
 unfold Sx.SzW at HZW
 obtain ⟨v,kk,ll,rr⟩:=x
 have CSR:=aI (λ(W:World) (hb:Below w.heap.size w W) (hok:Sx.okB ((v,kk,ll,rr):Sch)=true)=>show Calls Tryz.prog 37 #[.agg #[.int .i64 v,.slice A kk.length c,.slice B ll.length d,.slice C rr.length e]] W _ from rsource_any ((v,kk,ll,rr):Sch) _ W (Mem.keep h0 (za hb)) hok)
 obtain ⟨S,hS⟩:=aX (Sx.source ((v,kk,ll,rr):Sch))
 have HV:=aI (show Sx.valid ((v,kk,ll,rr):Sch)=if Sx.okB ((v,kk,ll,rr):Sch)=true then (if 8192 < S.length then 4 else 0) else 1 by unfold Sx.valid;rw [hS])
 have hSl:=aI (show Sx.okB ((v,kk,ll,rr):Sch)=true->S.length<=1000000 from λh=>by rw [<-hS];exact Sx.source_le (Sx.okB_bd h))
 rw [hS] at CSR
 obtain ⟨d9,hd9⟩:∃d:ByteArray,(⟨S.toArray⟩:ByteArray)=d:=⟨_,rfl⟩
 rw [hd9] at CSR
 have hds:d9.size=S.length:=by rw [<-hd9];show S.toArray.size=_;rw [zS]
 have C1:=rWithin_any v 0 1048576
 obtain ⟨q1,h1⟩:=aX (Sx.within v 0 1048576)
 rw [h1] at C1
 replace C1:=aI C1
 show Calls Tryz.prog 8 #[.agg #[.int .i64 v,.slice A kk.length c,.slice B ll.length d,.slice C rr.length e]] w _
 obtain ⟨W1,hW1,HB,hbk⟩:=aW w #[.int .i64 v,.slice A kk.length c,.slice B ll.length d,.slice C rr.length e] 27
 have HW1:=aI hW1
 have SK:=aI (SlAt.keep (show SlAt [] w A kk from s1) (za HB.out))
 have SL:=aI (SlAt.keep (show SlAt [] w B ll from s2) (za HB.out))
 have SR:=aI (SlAt.keep (show SlAt [] w C rr from s3) (za HB.out))
 have cl1:kk.length<=c:=b1
 have cl2:ll.length<=d:=b3
 have cl3:rr.length<=e:=b5
 obtain ⟨nk,hk⟩:=aX kk.length
 obtain ⟨nl,hl⟩:=aX ll.length
 obtain ⟨nr,hr⟩:=aX rr.length
 have HNK:=aI hk;have HNL:=aI hl;have HNR:=aI hr
 have HOK:=aI (show Sx.okB ((v,kk,ll,rr):Sch)=(q1 && (decide (nk<=6) && (decide (nl<=6) && (decide (nr<=16) && (kk.all Sx.kndB && (ll.all Sx.lifB && rr.all Sx.rulB)))))) by rw [<-h1,<-hk,<-hl,<-hr];rfl)
 rw [hk,hl,hr] at hbk HW1 CSR
 rw [hk] at cl1;rw [hl] at cl2;rw [hr] at cl3
 rw [hk,hl,hr]
 obtain ⟨N,hN⟩:=aX w.heap.size
 rw [hN] at hbk
 have HBK:=aI hbk
 obtain ⟨c0,c1,c2,c3⟩:=aN4 hbk.cell;simp at c0 c1 c2 c3
 have HZL2:=aI (show ∀l∈ll,l.2.2.length<=1000000 from λl hl=>(HZL.out l hl).2)
 have HZK2:=aI (show ∀k∈kk,(Sc.flds k).length<=1000000/\∀f∈Sc.flds k,(Sc.words f).length<=1000000/\(Sc.wts f).length<=1000000 from λk hk=>⟨(HZK.out k hk).1,λf hf=>⟨HZW.out k hk f hf,(HZK.out k hk).2 f hf⟩⟩)
 clear h h0 s1 s2 s3 a1 b1 b2 b3 b4 b5 b6 hk hl hr hbk hW1 h1 hS hz hzw hd9 HZL HZK HZW
 obtain ⟨okx,hokx⟩:=aX (Sx.okB ((v,kk,ll,rr):Sch))
 rw [hokx] at HOK CSR HV hSl
 clear hokx
 obtain ⟨vv,hvv⟩:=aX (Sx.valid ((v,kk,ll,rr):Sch))
 rw [hvv] at HV ⊢
 clear hvv
 have HK:=aI rIsKind_any
 have HL:=aI rIsLife_any
 have HR:=aI rIsRule_any
 have V1:=aI (show okx=false->vv=1 from λh=>by rw [HV.out,h];rfl)
 go_enter Tryz.func8,Tryz.ntmps8
 go_upto_region 1 with fail
 rw [HW1.out]
 (try rw [hN])
 cases q1
 .skip
  go_wp2_with (go_at_call 33;(with_reducible refine aS (C1.out _) ?_))
  go_ret
  exact ⟨by rw [V1.out (by rw [HOK.out];simp)];rfl,HB.out⟩
 by_cases gnk:nk<=6
 rotate_left
 .have t1:(6:Int) < (nk:Int):=by omega
  have t2:decide ((6:Int) < (nk:Int))=true:=ac (by omega)
  go_wp2_with (go_at_call 33;(with_reducible refine aS (C1.out _) ?_))
  go_ret
  exact ⟨by rw [V1.out (by rw [HOK.out,ad gnk];simp)];rfl,HB.out⟩
 have t1nk:(nk:Int)<=(6:Int):=by omega
 have t2nk:decide ((6:Int) < (nk:Int))=false:=ad (by omega)
 by_cases gnl:nl<=6
 rotate_left
 .have t1:(6:Int) < (nl:Int):=by omega
  have t2:decide ((6:Int) < (nl:Int))=true:=ac (by omega)
  go_wp2_with (go_at_call 33;(with_reducible refine aS (C1.out _) ?_))
  go_ret
  exact ⟨by rw [V1.out (by rw [HOK.out,ad gnl];simp)];rfl,HB.out⟩
 have t1nl:(nl:Int)<=(6:Int):=by omega
 have t2nl:decide ((6:Int) < (nl:Int))=false:=ad (by omega)
 by_cases gnr:nr<=16
 rotate_left
 .have t1:(16:Int) < (nr:Int):=by omega
  have t2:decide ((16:Int) < (nr:Int))=true:=ac (by omega)
  go_wp2_with (go_at_call 33;(with_reducible refine aS (C1.out _) ?_))
  go_ret
  exact ⟨by rw [V1.out (by rw [HOK.out,ad gnr];simp)];rfl,HB.out⟩
 have t1nr:(nr:Int)<=(16:Int):=by omega
 have t2nr:decide ((16:Int) < (nr:Int))=false:=ad (by omega)
 have HOK2:=aI (HOK.out.trans (show (true && (decide (nk<=6) && (decide (nl<=6) && (decide (nr<=16) && (kk.all Sx.kndB && (ll.all Sx.lifB && rr.all Sx.rulB))))))=(kk.all Sx.kndB && (ll.all Sx.lifB && rr.all Sx.rulB)) by rw [ac gnk,ac gnl,ac gnr];rfl))
 clear HOK
 go_upto_region 4 with (go_at_call 33;(with_reducible refine aS (C1.out _) ?_))
 clear t1nk t2nk t1nl t2nl t1nr t2nr c0 c1 c2 c3
 go_loopg [3] nk (λr i wr=>∃k:Nat,k+r=nk/\i=.int .i64 k/\Below W1.heap.size W1 wr/\∀j (hj:j < kk.length),j < k->Sx.kndB kk[j]=true)
 case atStart=>exact ⟨0,by omega,rfl,zf _ _,λ_ _ h=>by omega⟩
 case round =>
  obtain ⟨k,hk,rfl,hb,hall⟩:=hrel
  obtain ⟨wo,rfl⟩:=aY wr
  obtain ⟨gkK,rfl⟩:=aY gk
  have HBK8:=aI hb
  have HA:=aI hall
  have hbk:=HBK.out.below hb HBK.out.lt
  obtain ⟨c0,c1,c2,c3⟩:=aN4 hbk.cell;simp at c0 c1 c2 c3
  clear hb hall hbk
  by_cases hlt:k < nk
  .have hkp:k < kk.length:=by rw [HNK.out];exact hlt
   have k0:(0:Int)<=(k:Int):=aa _
   have k1:(k:Int) < (nk:Int):=by omega
   obtain ⟨b,o,us,rfl,_,hr,hc⟩:=(SK.out.keep (za HBK8.out)).get k hkp
   have cv:=HK.out kk[k] us wo hr (HZK2.out _ (ze hkp)).1 (HZK2.out _ (ze hkp)).2
   obtain ⟨x,hx⟩:=aX (kk[k])
   rw [hx] at cv hr
   obtain ⟨A1,cA,rfl,p1,p2,p3,p4,p5,p6⟩:=rep_knd hr;clear p1 p2 p3 p4 p5 p6
   change Calls Tryz.prog 34 #[.agg #[.string x.1,.int .i64 x.2.1,.int .i64 x.2.2.1,.slice A1 (Sc.flds x).length cA]] wo _ at cv
   obtain ⟨d0,d1,d2,d3⟩:=aG4 (m:=k*4) hc
   obtain ⟨bb,hbb⟩:=aX (Sx.kndB x)
   rw [hbb] at cv
   have CV:=aI cv
   have HX:=aI hx
   have HBB:=aI hbb
   clear cv hbb hr hc hx
   cases bb
   .have HRK:=aI (all_bad (b:=Sx.kndB) hkp (by rw [HX.out];exact HBB.out))
    go_wp2_with (go_at_call 34;(with_reducible refine CV.out.mono ?_);rintro e w2 ⟨rfl,hb2⟩;replace HBK8:=aT HBK8 hb2;clear hb2)
    go_ret
    exact ⟨by rw [V1.out (by rw [HOK2.out,HRK.out];rfl)];rfl,HB.out.trans (HBK8.out.mono HB.out.size)⟩
   .go_wp2_with (go_at_call 34;(with_reducible refine CV.out.mono ?_);rintro e w2 ⟨rfl,hb2⟩;replace HBK8:=aT HBK8 hb2;clear hb2)
    go_roundg (gkK - 1)
    case measure=>omega
    case rel =>
     refine ⟨k+1,by omega,by go_num,HBK8.out,λq hq hlt=>?_⟩
     rcases aj q k with h' | h'
     .exact HA.out q hq h'
     .obtain rfl:q=k:=by omega
      rw [HX.out];exact HBB.out
  .have HGK:=aI (all_good (b:=Sx.kndB) λq hq=>HA.out q hq (by rw [HNK.out] at hq;omega))
   have k1:¬(k:Int) < (nk:Int):=by omega
   clear HA
   go_upto_region 9 with fail
   clear k1 c0 c1 c2 c3
   go_loopg [4] nl (λr i wr=>∃k:Nat,k+r=nl/\i=.int .i64 k/\Below W1.heap.size W1 wr/\∀j (hj:j < ll.length),j < k->Sx.lifB ll[j]=true)
   case atStart=>exact ⟨0,by omega,rfl,HBK8.out,λ_ _ h=>by omega⟩
   case round =>
    obtain ⟨k,hk,rfl,hb,hall⟩:=hrel
    obtain ⟨wo,rfl⟩:=aY wr
    obtain ⟨gkL,rfl⟩:=aY gk
    have HBL:=aI hb
    have HA:=aI hall
    have hbk:=HBK.out.below hb HBK.out.lt
    obtain ⟨c0,c1,c2,c3⟩:=aN4 hbk.cell;simp at c0 c1 c2 c3
    clear hb hall hbk
    by_cases hlt:k < nl
    .have hkp:k < ll.length:=by rw [HNL.out];exact hlt
     have k0:(0:Int)<=(k:Int):=aa _
     have k1:(k:Int) < (nl:Int):=by omega
     obtain ⟨b,o,us,rfl,_,hr,hc⟩:=(SL.out.keep (za HBL.out)).get k hkp
     have cv:=HL.out ll[k] us wo hr (HZL2.out _ (ze hkp))
     obtain ⟨x,hx⟩:=aX (ll[k])
     rw [hx] at cv hr
     obtain ⟨A1,cA,B1,dB,rfl,p1,p2,p3,p4,p5,p6,p7⟩:=rep_lif hr;clear p1 p2 p3 p4 p5 p6 p7
     change Calls Tryz.prog 35 #[.agg #[.string x.1,.slice A1 x.2.1.length cA,.slice B1 x.2.2.length dB]] wo _ at cv
     obtain ⟨d0,d1,d2⟩:=aG3 (m:=k*3) hc
     obtain ⟨bb,hbb⟩:=aX (Sx.lifB x)
     rw [hbb] at cv
     have CV:=aI cv
     have HX:=aI hx
     have HBB:=aI hbb
     clear cv hbb hr hc hx
     cases bb
     .have HRK:=aI (all_bad (b:=Sx.lifB) hkp (by rw [HX.out];exact HBB.out))
      go_wp2_with (go_at_call 35;(with_reducible refine CV.out.mono ?_);rintro e w2 ⟨rfl,hb2⟩;replace HBL:=aT HBL hb2;clear hb2)
      go_ret
      exact ⟨by rw [V1.out (by rw [HOK2.out,HGK.out,HRK.out];rfl)];rfl,HB.out.trans (HBL.out.mono HB.out.size)⟩
     .go_wp2_with (go_at_call 35;(with_reducible refine CV.out.mono ?_);rintro e w2 ⟨rfl,hb2⟩;replace HBL:=aT HBL hb2;clear hb2)
      go_roundg (gkL - 1)
      case measure=>omega
      case rel =>
       refine ⟨k+1,by omega,by go_num,HBL.out,λq hq hlt=>?_⟩
       rcases aj q k with h' | h'
       .exact HA.out q hq h'
       .obtain rfl:q=k:=by omega
        rw [HX.out];exact HBB.out
    .have HGL:=aI (all_good (b:=Sx.lifB) λq hq=>HA.out q hq (by rw [HNL.out] at hq;omega))
     have k1:¬(k:Int) < (nl:Int):=by omega
     clear HA
     go_upto_region 14 with fail
     clear k1 c0 c1 c2 c3
     go_loopg [5] nr (λr i wr=>∃k:Nat,k+r=nr/\i=.int .i64 k/\Below W1.heap.size W1 wr/\∀j (hj:j < rr.length),j < k->Sx.rulB rr[j]=true)
     case atStart=>exact ⟨0,by omega,rfl,HBL.out,λ_ _ h=>by omega⟩
     case round =>
      obtain ⟨k,hk,rfl,hb,hall⟩:=hrel
      obtain ⟨wo,rfl⟩:=aY wr
      obtain ⟨gkR,rfl⟩:=aY gk
      have HBR:=aI hb
      have HA:=aI hall
      have hbk:=HBK.out.below hb HBK.out.lt
      obtain ⟨c0,c1,c2,c3⟩:=aN4 hbk.cell;simp at c0 c1 c2 c3
      clear hb hall hbk
      by_cases hlt:k < nr
      .have hkp:k < rr.length:=by rw [HNR.out];exact hlt
       have k0:(0:Int)<=(k:Int):=aa _
       have k1:(k:Int) < (nr:Int):=by omega
       obtain ⟨b,o,us,rfl,_,hr,hc⟩:=(SR.out.keep (za HBR.out)).get k hkp
       have cv:=HR.out rr[k] us wo hr
       obtain ⟨x,hx⟩:=aX (rr[k])
       rw [hx] at cv hr
       obtain ⟨rfl,p1,p2,p3,p4,p5⟩:=rep_rul hr;clear p1 p2 p3 p4 p5
       change Calls Tryz.prog 36 #[.agg #[.string x.1,.string x.2.1,.string x.2.2.1,.string x.2.2.2.1,.int .i64 x.2.2.2.2]] wo _ at cv
       obtain ⟨d0,d1,d2,d3,d4⟩:=aG5 (m:=k*5) hc
       obtain ⟨bb,hbb⟩:=aX (Sx.rulB x)
       rw [hbb] at cv
       have CV:=aI cv
       have HX:=aI hx
       have HBB:=aI hbb
       clear cv hbb hr hc hx
       cases bb
       .have HRK:=aI (all_bad (b:=Sx.rulB) hkp (by rw [HX.out];exact HBB.out))
        go_wp2_with (go_at_call 36;(with_reducible refine CV.out.mono ?_);rintro e w2 ⟨rfl,hb2⟩;replace HBR:=aT HBR hb2;clear hb2)
        go_ret
        exact ⟨by rw [V1.out (by rw [HOK2.out,HGK.out,HGL.out,HRK.out];rfl)];rfl,HB.out.trans (HBR.out.mono HB.out.size)⟩
       .go_wp2_with (go_at_call 36;(with_reducible refine CV.out.mono ?_);rintro e w2 ⟨rfl,hb2⟩;replace HBR:=aT HBR hb2;clear hb2)
        go_roundg (gkR - 1)
        case measure=>omega
        case rel =>
         refine ⟨k+1,by omega,by go_num,HBR.out,λq hq hlt=>?_⟩
         rcases aj q k with h' | h'
         .exact HA.out q hq h'
         .obtain rfl:q=k:=by omega
          rw [HX.out];exact HBB.out
      .have HGR:=aI (all_good (b:=Sx.rulB) λq hq=>HA.out q hq (by rw [HNR.out] at hq;omega))
       have k1:¬(k:Int) < (nr:Int):=by omega
       clear HA
       have hok:okx=true:=by rw [HOK2.out,HGK.out,HGL.out,HGR.out];rfl
       have hSl2:=hSl.out hok
       have CS9:=aI (CSR.out wo (HB.out.trans (HBR.out.mono HB.out.size)) hok)
       have HVV:=aI (HV.out.trans (if_pos hok))
       clear hok
       by_cases hl:8192 < S.length
       .have t3:(8192:Int) < (d9.size:Int):=by omega
        have t4:decide (8192 < d9.size)=true:=ac (by omega)
        go_wp2_with (go_at_call 37;(with_reducible refine CS9.out.mono ?_);rintro e w2 ⟨rfl,hb2⟩;have HB9:=aI ((HB.out.trans (HBR.out.mono HB.out.size)).trans (hb2.mono (HB.out.trans (HBR.out.mono HB.out.size)).size));clear hb2)
        go_ret
        exact ⟨by rw [HVV.out,if_pos hl];rfl,HB9.out⟩
       .have t3:(d9.size:Int)<=(8192:Int):=by omega
        have t4:decide (8192 < d9.size)=false:=ad (by omega)
        go_wp2_with (go_at_call 37;(with_reducible refine CS9.out.mono ?_);rintro e w2 ⟨rfl,hb2⟩;have HB9:=aI ((HB.out.trans (HBR.out.mono HB.out.size)).trans (hb2.mono (HB.out.trans (HBR.out.mono HB.out.size)).size));clear hb2)
        go_ret
        exact ⟨by rw [HVV.out,if_neg hl];rfl,HB9.out⟩
namespace Sx
def encB (s:ByteArray):Txt:=En.int s.size++bs s
def encS (l:List ByteArray):Txt:=En.int l.length++(l.map encB).flatten
def encF (f:Fld):Txt:=encS [Sc.nm f,Sc.of_ f,Sc.up f]++En.ints [Sc.kd f,Sc.lo f,Sc.hi f]++encS (Sc.words f)++En.ints (Sc.wts f)
def encK (k:Knd):Txt:=encB k.1++En.ints [k.2.1,k.2.2.1]++En.int (Sc.flds k).length++((Sc.flds k).map encF).flatten
def mvs (l:List (Int × Int)):List Int:=l.flatMap λm=>[m.1,m.2]
def encL (x:Lif):Txt:=encB x.1++encS x.2.1++En.ints (mvs x.2.2)
def encR (r:Rul):Txt:=encS [r.1,r.2.1,r.2.2.1,r.2.2.2.1]++En.int r.2.2.2.2
def enc (x:Sch):Txt:=En.int x.1++En.int (Sc.kinds x).length++((Sc.kinds x).map encK).flatten++En.int x.2.2.1.length++(x.2.2.1.map encL).flatten++En.int x.2.2.2.length++(x.2.2.2.map encR).flatten
end Sx
theorem conv_bytes (s:ByteArray) (w:World):∃W4 c,(convert 9 35 (.string s)).run Tryz.prog w=.ok (.slice (some ⟨w.heap.size,0,none⟩) s.size c) W4/\Below w.heap.size w W4/\Reads W4 W4.heap.size 1 (some ⟨w.heap.size,0,none⟩) s.size (byteVals s.data.toList):=by
 have hcv:=run_bytes_of_string (P:=Tryz.prog) w 9 35 5 s Tryz.underlying9 Tryz.underlying35 Tryz.underlying5
 obtain ⟨cap,hcap⟩:=aX (grownCap w s.size 0 5)
 rw [hcap] at hcv
 have hsz:(w.drew.alloc (.cells (bytesRow s cap) 5 ((bytesRow s cap).size,(bytesRow s cap).size+1))).heap.size=w.heap.size+1:=by
  show (w.heap.push _).size=_
  rw [Array.size_push]
 refine ⟨_,cap,hcv,?_,?_⟩
 .exact (show Below w.heap.size w w.drew from ⟨rfl,rfl,rfl,ag _,λ_ _=>rfl⟩).alloc (ag _) _
 .have hl:s.data.toList.length=s.size:=by rw [Array.length_toList];rfl
  refine ⟨by unfold byteVals;rw [zu,hl,zO],λ_=>⟨_,rfl,by rw [hsz];exact Nat.lt_succ_self _,λj u hu=>?_⟩⟩
  have hj:j < s.size:=by
   have:=(List.getElem?_eq_some_iff.1 hu).1
   unfold byteVals at this;rw [zu,hl] at this;exact this
  have h1:=(cell_of_row (w.drew.alloc (.cells (bytesRow s cap) 5 ((bytesRow s cap).size,(bytesRow s cap).size+1))) w.heap.size j (bytesRow s cap) 5 ((bytesRow s cap).size,(bytesRow s cap).size+1) (heap_alloc_new w.drew _)).trans (bytesRow_at s cap j hj)
  rw [show ((⟨w.heap.size,0,none⟩:Addr).add j)=⟨w.heap.size,j,none⟩ by simp [Addr.add];exact λh=>h.symm]
  refine h1.trans ?_
  rw [<-hu]
  unfold byteVals
  rw [List.getElem?_map,zp (by omega)]
  rfl
theorem rBytes_any (s:ByteArray) (w:World) (hs:s.size<=1000000):Calls Tryz.prog 51 #[.string s] w (BytesP (Sx.encB s) w):=by
 obtain ⟨i0,hi,hz0,hz1,hz2⟩:=zq infoU8
 have T0:=aI (held0 w [] (λ_ h=>by cases h))
 have CI:=aI (rInt_any (s.size:Int) w (by unfold inI;omega))
 have HCV:=aI (conv_bytes s)
 have hl:s.data.toList.length=s.size:=by rw [Vm.strLn]
 have hil:=En.int_le (s.size:Int)
 obtain ⟨m,hm⟩:=aX ((En.int (s.size:Int)).length)
 have HEQ:=aI (show En.int (s.size:Int)++s.data.toList=Sx.encB s by rfl)
 have HLE:=aI (show m+s.size=(Sx.encB s).length by rw [<-HEQ.out,aK,hm,hl])
 unfold BytesP at CI
 rw [hm] at CI hil
 clear hm hl
 go_enter Tryz.func51,Tryz.ntmps51
 go_wp2_with (first | (go_at_call 50;go_loud ((with_reducible refine CI.out.mono ?_);rintro e w1 ⟨v,rfl,hown,hb⟩;obtain ⟨M1,h1,_⟩:=T0.out.take hb hown;have T:=aI h1;clear h1 hown hb;obtain ⟨W4,cp,hcv,hb4,hrd⟩:=HCV.out w1;replace T:=aI (T.out.below hb4);have HR:=aI hrd;clear hb4 hrd)) | (at_builtin;go_loud (refine wpList_append_row (by rfl) _ _ 35 (by rfl) 5 i0 _ 1 1 Tryz.underlying35 hi hz0 hz1 hz2 rfl (by decide) T.out (by rfl) _ _ s.size _ (byteVals s.data.toList) (by rfl) HR.out (byteVals_one _) (by unfold maxLen;omega) (by omega) ?_;intro v5 w5 M5 h5 _;rw [<-byteVals_append,HEQ.out,HLE.out] at h5;replace T:=aI h5;clear h5)))
 go_ret
 exact ⟨_,rfl,T.out.own,T.out.h.bl⟩
namespace Sx
def accS (l:List ByteArray) (k:Nat):Txt:=En.int l.length++((l.take k).map encB).flatten
theorem encB_le {s:ByteArray} {b:Nat} (h:s.size<=b):(encB s).length<=b+9:=by
 unfold encB bs
 have:=En.int_le (s.size:Int)
 rw [aK,Vm.strLn];omega
theorem accS_le {l:List ByteArray} {b:Nat} (h:∀s∈l,s.size<=b):∀k,(accS l k).length<=(b+9)*(k+1):=by
 intro k
 have h1:∀m:List ByteArray,(∀s∈m,s.size<=b)->(m.map encB).flatten.length<=(b+9)*m.length:=by
  intro m hm
  induction m with
  | nil=>simp
  | cons s m ih =>
   have h2:=encB_le (hm s (.head _))
   have h3:=ih λt ht=>hm t (.tail _ ht)
   rw [List.map_cons,List.flatten_cons,aK,zm,Nat.mul_succ];omega
 have h2:=h1 (l.take k) λs hs=>h s (List.mem_of_mem_take hs)
 have h3:(b+9)*(l.take k).length<=(b+9)*k:=Nat.mul_le_mul_left _ (by rw [zI];omega)
 have h4:=En.int_le (l.length:Int)
 unfold accS
 rw [aK,Nat.mul_succ];omega
theorem accS_snoc (l:List ByteArray) (k:Nat) (h:k < l.length):accS l k++encB l[k]=accS l (k+1):=by
 unfold accS;rw [take_snoc' l k h,zY,List.flatten_append,zo];simp
theorem accS_all (l:List ByteArray):accS l l.length=encS l:=by unfold accS encS;rw [List.take_length]
theorem accS_zero (l:List ByteArray):accS l 0=En.int l.length:=by unfold accS;simp
end Sx
theorem rStrings_any (l:List ByteArray) (A:Option Addr) (c:Nat) (w:World) (hl:SlAt [] w A l) (hm:l.length<=1000) (hs:∀s∈l,s.size<=100000):Calls Tryz.prog 53 #[.slice A l.length c] w (BytesP (Sx.encS l) w):=by
 obtain ⟨i0,hi,hz0,hz1,hz2⟩:=zq infoU8
 obtain ⟨n,hn⟩:=aX l.length
 rw [hn]
 rw [hn] at hm
 have T0:=aI ((held0 w [] (λ_ h=>by cases h)).add (keeps_sl A l) hl)
 have HN:=aI hn
 have CI:=aI (rInt_any (n:Int) w (by unfold inI;omega))
 have HZ:=aI (show En.int (n:Int)=Sx.accS l 0 by rw [Sx.accS_zero,hn])
 have HEND:=aI (show Sx.accS l n=Sx.encS l by rw [<-hn];exact Sx.accS_all l)
 have HS:=aI hs
 clear hl hn hs
 go_enter Tryz.func53,Tryz.ntmps53
 go_wp2_with (go_at_call 50;(with_reducible refine CI.out.mono ?_);rintro e w1 ⟨v,rfl,hown,hb⟩;obtain ⟨M1,h1,_⟩:=T0.out.take hb hown;have T:=aI h1;clear h1 hown hb)
 rw [HZ.out] at T
 go_loopg [3,4] n (λr v i wr=>∃(k:Nat) (M:List Nat),k+r=n/\i=.int .i64 k/\HRow w [] M [] [λM W=>SlAt M W A l] 5 1 v (Sx.accS l k).length (byteVals (Sx.accS l k)) wr)
 case atStart=>exact ⟨0,_,by omega,rfl,T.out⟩
 case round =>
  obtain ⟨k,M,hk,rfl,hH⟩:=hrel
  obtain ⟨wo,rfl⟩:=aY wr
  replace T:=aI hH
  clear hH
  by_cases hlt:k < n
  .have hkl:k < l.length:=by rw [HN.out];exact hlt
   have k0:(0:Int)<=(k:Int):=aa _
   have k1:(k:Int) < (n:Int):=by omega
   obtain ⟨b,o,rfl,_,c0,_⟩:=str_at (T.out.h.fact (.head _)) k hkl
   have HSN:=aI (Sx.accS_snoc l k hkl)
   have hle:=Sx.accS_le HS.out k
   have hsz:=HS.out _ (ze hkl)
   obtain ⟨x,hxx⟩:=aX (l[k])
   rw [hxx] at c0 hsz HSN
   have CX:=aI (rBytes_any x wo (by omega))
   have hxl:=Sx.encB_le hsz
   obtain ⟨na,hna⟩:=aX ((Sx.accS l k).length)
   obtain ⟨nb,hnb⟩:=aX ((Sx.encB x).length)
   rw [hna] at hle T
   rw [hnb] at hxl
   have HNL:=aI (show na+nb=(Sx.accS l (k+1)).length by rw [<-HSN.out,aK,hna,hnb])
   unfold BytesP at CX
   rw [hnb] at CX
   have hle2:na<=200000000:=by
    have:(100000+9)*(k+1)<=(100000+9)*1000:=Nat.mul_le_mul_left _ (by omega)
    omega
   clear hna hnb hxx hle
   go_wp2_with (first | (go_at_call 51;(with_reducible refine CX.out.mono ?_);rintro e w1 ⟨v,rfl,hown,hb⟩;obtain ⟨Ab,cb,rfl⟩:=zP hown;replace T:=aI (T.out.below hb);have HR:=aI (reads_own hown);clear hown hb) | (at_builtin;refine wpList_append_row (by rfl) _ _ 35 (by rfl) 5 i0 _ 1 1 Tryz.underlying35 hi hz0 hz1 hz2 rfl (by decide) T.out (by rfl) _ _ nb _ (byteVals (Sx.encB x)) (by rfl) HR.out (byteVals_one _) (by unfold maxLen;omega) (by omega) ?_;intro v5 w5 M5 h5 _;rw [<-byteVals_append,HSN.out,HNL.out] at h5;replace T:=aI h5;clear h5))
   go_roundg (gk - 1)
   case measure=>omega
   case rel=>exact ⟨k+1,_,by omega,by go_num,T.out⟩
  .have hkn:k=n:=by omega
   subst hkn
   rw [HEND.out] at T
   go_wp2_with fail
   go_ret
   exact ⟨_,rfl,T.out.own,T.out.h.bl⟩
structure EG (g:Nat) (te:TypeId) (n8:Nat) (us:List Value) (W W':World):Prop where
 os:W'.os=W.os
 tape:W'.tape=W.tape
 output:W'.output=W.output
 size:W.heap.size<=W'.heap.size
 old:∀k,k < W.heap.size->k≠g->W'.heap[k]?=W.heap[k]?
 late:∀cur,Blk W g te cur->∃cur',Blk W' g te cur'/\Late n8 us cur cur'
section
variable {g:Nat} {te:TypeId} {n8:Nat} {us:List Value} {W W' W'':World}
theorem EG.refl (g:Nat) (te:TypeId) (n8:Nat) (us:List Value) (W:World):EG g te n8 us W W:=⟨rfl,rfl,rfl,ag _,λ_ _ _=>rfl,λcur h=>⟨cur,h,Late.refl _ _ _⟩⟩
theorem EG.trans (h:EG g te n8 us W W') (k:EG g te n8 us W' W''):EG g te n8 us W W'' :=
 ⟨k.os.trans h.os,k.tape.trans h.tape,k.output.trans h.output,ah h.size k.size,λi hi hg=>(k.old i (qr hi h.size) hg).trans (h.old i hi hg),λcur hb=>by
  obtain ⟨c1,h1,h2⟩:=h.late cur hb
  obtain ⟨c2,h3,h4⟩:=k.late c1 h1
  exact ⟨c2,h3,h2.trans h4⟩⟩
theorem EG.below (h:Below W.heap.size W W'):EG g te n8 us W W':=⟨h.os,h.tape,h.output,h.size,λk hk _=>h.block k hk,λcur hb=>⟨cur,(h.block g hb.lt).trans hb,Late.refl _ _ _⟩⟩
@[reducible] def earlyGrow (g:Nat) (te:TypeId) (n8:Nat) (us:List Value):Grow:=⟨EG g te n8 us,EG.refl g te n8 us,EG.trans,EG.below⟩
theorem EG.chg (h:EG g te n8 us W W'):Chg [g] W W':=⟨h.os,h.tape,h.output,h.size,λk hk hg=>h.old k hk (by simpa using hg)⟩
theorem EG.blk (h:EG g te n8 us W W') {N:Nat} {t:TypeId} {cs:Array Value} (hb:Blk W N t cs) (hN:N≠g):Blk W' N t cs:=(h.old N hb.lt hN).trans hb
def RowE (B0 g:Nat) (te:TypeId) (size n:Nat) (xs:List Value) (v:Value) (w:World):Prop:=∃g' cap cur,v=.slice (some ⟨g',0,none⟩) n cap/\(g'=g∨B0<=g')/\Blk w g' te cur/\n<=cap/\cap<=maxLen/\cur.size=cap*size/\cur.toList.take (n*size)=xs
theorem rowE_kept {B0 size n:Nat} {xs:List Value} (hx:∀j u,n8<=j->xs[j]?=some u->us[j - n8]?=some u):@RG.Kept (earlyGrow g te n8 us) (RowE B0 g te size n xs):=by
 rintro v w w' ⟨g',cap,cur,h1,h2,h3,h4,h5,h6,h7⟩ hr
 have hr:EG g te n8 us w w':=hr
 by_cases hg:g'=g
 .subst hg
  obtain ⟨c2,e3,e4⟩:=hr.late cur h3
  refine ⟨g',cap,c2,h1,h2,e3,h4,h5,e4.1.trans h6,?_⟩
  rw [<-h7]
  refine List.ext_getElem? λj=>?_
  rw [List.getElem?_take,List.getElem?_take]
  split
  .rename_i hj
   rw [Array.getElem?_toList,Array.getElem?_toList]
   rcases e4.2 j with e | ⟨e,u,f1,f2⟩
   .exact e
   .have hlt:j < cur.size:=by have:=(Array.getElem?_eq_some_iff.1 f2).1;have:=e4.1;omega
    have hxj:xs[j]?=some cur[j]:=by
     rw [<-h7,List.getElem?_take,if_pos hj,Array.getElem?_toList];simp [hlt]
    have:=hx j _ e hxj
    rw [f1] at this
    injection this with this
    rw [f2,this];simp [hlt]
  .rfl
 .exact ⟨g',cap,cur,h1,h2,hr.blk h3 hg,h4,h5,h6,h7⟩
theorem RowE.owns {B0 base size n:Nat} {xs:List Value} {v:Value} {w:World} (h:RowE B0 g te size n xs v w) (hl:xs.length=n*size) (h1:base<=g) (h2:base<=B0):w.ownsRow base te size v n xs:=by
 obtain ⟨g',cap,cur,k1,k2,k3,k4,k5,k6,k7⟩:=h
 exact ⟨hl,.inr ⟨g',cap,cur,k1,by omega,k3,k4,k5,k6,k7⟩⟩
theorem Held.early {w:World} {G M:List Nat} {bx:List Box} {L:List (List Nat->World->Prop)} {v:Value} (h:Held w G M bx L W) (hv:RowOk w M bx v) (hg:v.ownBlock=some g) (hc:EG g te n8 us W W'):Held w G M bx L W':=by
 obtain ⟨g1,g2,g3⟩:=hv g hg
 have hch:Chg M W W':=hc.chg.mono λk hk=>.inl (by obtain rfl:=zg.1 hk;exact g1)
 have hs:=h.bl.size
 refine ⟨⟨hc.os.trans h.bl.os,hc.tape.trans h.bl.tape,hc.output.trans h.bl.output,ah hs hc.size,λk hk=>(hc.old k (by omega) (by omega)).trans (h.bl.block k hk)⟩,λk hk=>qr (h.mb k hk) hc.size,h.gm,λx hx=>⟨(h.bs x hx).1,(h.bs x hx).2.1,hc.blk (h.bs x hx).2.2 (g3 x hx)⟩,h.nd,λP hP=>⟨(h.all P hP).1,(h.all P hP).1.1 _ _ _ (h.all P hP).2 hch⟩⟩
theorem HRow.early {w:World} {G M:List Nat} {bx:List Box} {L:List (List Nat->World->Prop)} {size n n':Nat} {v v':Value} {xs xs':List Value} (T:HRow w G M bx L te size v n xs W) (hg:v.ownBlock=some g) (hc:EG g te n8 us W W') (hr:RowE W.heap.size g te size n' xs' v' W') (hl:xs'.length=n'*size):∃M',HRow w G M' bx L te size v' n' xs' W':=by
 have hH:=T.h.early T.ok hg hc
 obtain ⟨g1,g2,g3⟩:=T.ok g hg
 have hs:=T.h.bl.size
 have ho:=hr.owns hl g2 hs
 obtain ⟨g',cap,cur,rfl,k2,k3,k4,k5,k6,k7⟩:=hr
 by_cases hgg:g'=g
 .subst hgg
  exact ⟨M,hH,λk hk=>T.ok k (by rw [hg];exact hk),ho⟩
 .have hB:W.heap.size<=g':=by omega
  refine ⟨g'::M,⟨hH.bl,λk hk=>?_,λk hk=>.tail _ (T.h.gm k hk),λx hx=>⟨.tail _ (hH.bs x hx).1,(hH.bs x hx).2⟩,hH.nd,λP hP=>⟨(T.h.all P hP).1,?_⟩⟩,λk hk=>?_,ho⟩
  .rcases aL hk with rfl | hk
   .exact k3.lt
   .exact hH.mb k hk
  .refine (T.h.all P hP).1.1 _ _ _ ((T.h.all P hP).1.2 M (g'::M) _ (T.h.all P hP).2 λk hk=>?_) (hc.chg.mono λk hk=>.inl ?_)
   .rcases aL hk with rfl | hk
    .exact .inr hB
    .exact .inl hk
   .obtain rfl:=zg.1 hk
    exact .tail _ g1
  .have hk':g'=k:=Option.some.inj hk
   rw [<-hk']
   exact ⟨.head _,by omega,λx hx=>by have:=(T.h.bs x hx).2.2.lt;omega⟩
variable {P:Program}
theorem wpList_append_early {ops:Array Oper} {rest:List Oper} {o:Oper} {a:Act} {Q:Exit->Act->World->Prop} {w:World} (hgd:o.guard=none) (s x:Operand) (tt:TypeId)
  (ho:o.op=.call { callee:=.builtin .append,args:=#[s,x],argTypes:=#[tt,tt] })
  (i:TypeInfo) (z:Value) (size bytes:Nat) (ht:P.underlying tt=some (.slice te)) (hi:P.info? te=some i) (hz:i.zero=some z)
  (hsize:i.size=size) (hby:i.bytes=bytes) (hzs:z.cells.size=size) (hsz:0 < size)
  {B0 cap n:Nat} {cur:Array Value} {xs:List Value} (hs:a.eval s=.slice (some ⟨g,0,none⟩) n cap) (h3:Blk w g te cur) (_h4:n<=cap) (h5:cap<=maxLen) (h6:cur.size=cap*size) (h7:cur.toList.take (n*size)=xs) (hxs:xs.length=n*size)
  {B:Nat} {ad:Addr} {m c:Nat} (hx:a.eval x=.slice (some ad) m c) (hr:Reads w B size (some ad) m us) (hm0:0 < m) (h1:∀u∈us,u.oneCell'=true)
  (hn8:n8=n*size) (hB:B0<=w.heap.size)
  (h63:n+m<=maxLen) (hbytes:(n+m)*bytes<=140737488355328)
  (h:∀v' w',RowE B0 g te size (n+m) (xs++us) v' w'->EG g te n8 us w w'->wpList P ops Q rest (a.put o.dst v') w'):wpList P ops Q (o::rest) a w:=by
 subst hn8
 obtain ⟨hm,hcs⟩:=hr
 obtain ⟨ad',had,_,hlit⟩:=hcs hm0
 obtain rfl:=Option.some.inj had
 have hcell:∀j u,xs[j]?=some u->w.cell? ⟨g,0+j,none⟩=some u:=λj u hu=>by
  rw [zG,h3.cell]
  have hj:=(List.getElem?_eq_some_iff.1 hu).1
  rw [<-h7,List.getElem?_take,if_pos (by omega),Array.getElem?_toList] at hu
  exact hu
 refine wpList_append_arg w hgd s x tt ho te i z size bytes ht hi hz hsize hby hzs hsz g 0 n cap xs hs hxs hcell ad m c us hx hm hlit h1 (λhr j hj=>?_) h63 hbytes (λhr=>?_) (λhr v' w' k1 k2=>?_)
 .rw [h3.cell,h3.frozen]
  refine ⟨?_,rfl⟩
  have:(n+m)*size<=cap*size:=Nat.mul_le_mul_right _ hr
  rw [Nat.add_mul] at this
  have hlt:0+n*size+j < cur.size:=by omega
  simp
  omega
 .have hsp:(n+m)*size<=cap*size:=Nat.mul_le_mul_right _ hr
  rw [Nat.add_mul] at hsp
  obtain ⟨cs',b1,b2,b3,b4⟩:=blk_setCells us (0+n*size) w cur h3
  obtain ⟨z1,z2⟩:=setCells_sizes g us (0+n*size) w
  rw [zG] at b1 b3 b4 z1 z2 ⊢
  refine h _ _ ⟨g,cap,cs',rfl,.inl rfl,b1,hr,h5,b2.trans h6,?_⟩ ⟨World.os_setCells ..,z2,World.output_setCells ..,by rw [z1];exact ag _,λk hk hg=>World.heap_setCells_other w g _ us hk hg,λc hc=>⟨cs',b1,?_⟩⟩
  .refine List.ext_getElem? λj=>?_
   rw [List.getElem?_take]
   by_cases hj:j < (n+m)*size
   .rw [if_pos hj,Array.getElem?_toList]
    rw [Nat.add_mul] at hj
    by_cases hjn:j < n*size
    .rw [b3 j (.inl hjn),zX (by omega),<-h7,List.getElem?_take,if_pos hjn,Array.getElem?_toList]
    .rw [zL (by omega),hxs]
     have:=b4 (j - n*size) (by omega) (by omega)
     rw [show n*size+(j - n*size)=j by omega] at this
     exact this
   .rw [if_neg hj,List.getElem?_eq_none]
    rw [aK,hxs,hm,<-Nat.add_mul];omega
  .have hcc:c=cur:=by
    have:=hc.symm.trans h3
    injection this with this
    injection this
   subst hcc
   refine ⟨b2,λj=>?_⟩
   by_cases hjn:j < n*size
   .exact .inl (b3 j (.inl hjn))
   .by_cases hjm:j < n*size+us.length
    .by_cases hjc:j < c.size
     .right
      have:=b4 (j - n*size) (by omega) (by omega)
      rw [show n*size+(j - n*size)=j by omega] at this
      refine ⟨by omega,us[j - n*size]'(by omega),zp (by omega),?_⟩
      rw [this,zp (by omega)]
     .left
      rw [zV (by omega),zV (by omega)]
    .exact .inl (b3 j (.inr (by omega)))
 .have hbl:Below w.heap.size w w':=⟨k2.os,k2.tape,k2.output,k2.size,λk hk=>k2.block k hk (by simp)⟩
  rcases k1.2 with ⟨h0,_⟩ | ⟨g',cap',cur',e1,e2,e3,e4,e5,e6,e7⟩
  .omega
  .exact h v' w' ⟨g',cap',cur',e1,.inr (ah hB e2),e3,e4,e5,e6,e7⟩ (EG.below hbl)
end
section
variable {g B0:Nat} {te:TypeId} {n8:Nat} {us:List Value}
theorem rowN_keptE {te':TypeId} {size n:Nat} {xs:List Value} (hg:g < B0):@RG.Kept (earlyGrow g te n8 us) (RowN B0 te' size n xs):=by
 rintro v w w' ⟨g',cap,cur,h1,h2,h3,h4⟩ hr
 have hr:EG g te n8 us w w':=hr
 exact ⟨g',cap,cur,h1,h2,hr.blk h3 (by omega),h4⟩
theorem blkN_kept {t:TypeId} {cs:Array Value} {k:Nat} (hg:g < B0):@RG.Kept (earlyGrow g te n8 us) (λv w=>∃N,v=.slice (some ⟨N,0,none⟩) k k/\B0<=N/\Blk w N t cs):=by
 rintro v w w' ⟨N,h1,h2,h3⟩ hr
 have hr:EG g te n8 us w w':=hr
 exact ⟨N,h1,h2,hr.blk h3 (by omega)⟩
theorem HRow.rowE {w W W':World} {G M:List Nat} {bx:List Box} {L:List (List Nat->World->Prop)} {n c:Nat} {xs:List Value} (T:HRow w G M bx L te 1 (.slice (some ⟨g,0,none⟩) n c) n xs W) (hn:0 < n) (hc:EG g te n us W W'):∃cur,Blk W' g te cur/\n<=c/\c<=maxLen/\cur.size=c*1/\cur.toList.take (n*1)=xs:=by
 have hl:xs.length=n:=by have:=T.own.1;omega
 rcases T.own.2 with ⟨h0,_⟩ | ⟨g',cap,cur,e1,e2,e3,e4,e5,e6,e7⟩
 .omega
 .injection e1 with k1 k2 k3
  injection k1 with k1
  injection k1 with k1
  subst k1 k3
  have hk:=@rowE_kept g te n us W.heap.size 1 n xs (λj u h1 h2=>by have:=(List.getElem?_eq_some_iff.1 h2).1;omega) _ W W' ⟨g,c,cur,rfl,.inl rfl,e3,e4,e5,e6,e7⟩ hc
  obtain ⟨g2,cap2,cur2,f1,f2,f3,f4,f5,f6,f7⟩:=hk
  injection f1 with k1 k2 k3
  injection k1 with k1
  injection k1 with k1
  subst k1 k3
  exact ⟨cur2,f3,f4,f5,f6,f7⟩
theorem HRow.gLt {w W:World} {G M:List Nat} {bx:List Box} {L:List (List Nat->World->Prop)} {size n c:Nat} {xs:List Value} (T:HRow w G M bx L te size (.slice (some ⟨g,0,none⟩) n c) n xs W):g < W.heap.size:=T.h.mb g (T.ok g rfl).1
end
namespace Sx
theorem encS_le {l:List ByteArray} {b:Nat} (h:∀s∈l,s.size<=b):(encS l).length<=(b+9)*(l.length+1):=by
 rw [<-accS_all];exact accS_le h _
theorem ints_le (l:List Int):(En.ints l).length<=9*(l.length+1):=by
 rw [<-accI_all];exact accI_le l _
theorem flat_le2 {α β:Type} (f:α->List β) (c:Nat) {l:List α} (h:∀a∈l,(f a).length<=c):((l.map f).flatten).length<=l.length*c:=by
 have:=flat_le f c h
 rwa [List.flatMap_def] at this
theorem mvs_len (l:List (Int × Int)):(mvs l).length=2*l.length:=by
 unfold mvs
 induction l with
 | nil=>rfl
 | cons a l ih=>rw [zR,aK,ih];simp;omega
end Sx
theorem keeps_cell (b o:Nat) (v:Value):Keeps (λM W=>b∉M/\W.cell? ⟨b,o,none⟩=some v) :=
 ⟨λ_ _ _ h hc=>⟨h.1,hc.cell h.1 h.2⟩,λ_ _ _ h hs=>⟨λhm=>(hs b hm).elim h.1 λhl=>by have:=zc _ _ h.2;simp only at this;omega,h.2⟩⟩
section
variable {w W W':World} {G M:List Nat} {bx:List Box} {L:List (List Nat->World->Prop)}
theorem HRow2.hr {e1 e2:TypeId} {s1 s2 n1 n2:Nat} {v1 v2:Value} {xs1 xs2:List Value} (h:HRow2 w G M bx L e1 s1 v1 n1 xs1 e2 s2 v2 n2 xs2 W) (hne:e1≠e2):HR w G M bx [⟨e2,s2,v2,n2,xs2⟩,⟨e1,s1,v1,n1,xs1⟩] L W:=by
 refine ⟨h.r1.h,λr hr=>?_,λr hr=>?_,List.pairwise_cons.2 ⟨λs hs=>?_,List.pairwise_cons.2 ⟨λ_ hs=>(by cases hs),List.Pairwise.nil⟩⟩⟩
 .rcases aL hr with rfl | hr
  .exact h.k2
  .obtain rfl:=zg.1 hr
   exact h.r1.ok
 .rcases aL hr with rfl | hr
  .exact h.o2
  .obtain rfl:=zg.1 hr
   exact h.r1.own
 .obtain rfl:=zg.1 hs
  intro g hg he
  have hg:v2.ownBlock=some g:=hg
  have he:v1.ownBlock=some g:=he
  rcases h.apart hne with h0 | h0
  .rw [h0] at hg;cases hg
  .exact h0 (hg.trans he.symm)
theorem HRow2.freeze2 {α:Type} [Mem α] {l:List α} {e1 e2:TypeId} {s1 s2 n1 n2:Nat} {v1 v2:Value} {xs1 xs2:List Value} (h:HRow2 w G M bx L e1 s1 v1 n1 xs1 e2 s2 v2 n2 xs2 W) (hne:e1≠e2) (hs:s2=Mem.sz α) (hn:n2=l.length) (hf:Flat M W l xs2) (hG:∀g∈G,g < w.heap.size) :
  ∃A c M',v2=.slice A l.length c/\HRow w G M' bx ((λM W=>SlAt M W A l)::L) e1 s1 v1 n1 xs1 W:=by
 obtain ⟨A,c,M',k1,_,_,k2,_,_⟩:=(h.hr hne).freeze hs hn hf hG
 exact ⟨A,c,M',k1,k2.h,k2.ok _ (.head _),k2.own _ (.head _)⟩
end
theorem mvs_take (l:List (Int × Int)) (j:Nat) (hj:j < l.length):Sx.mvs (l.take (j+1))=Sx.mvs (l.take j)++[l[j].1,l[j].2]:=by
 rw [List.take_succ_eq_append_getElem hj]
 unfold Sx.mvs
 rw [List.flatMap_append]
 rfl
namespace Sx
structure FW (n:Nat) (f:Fld):Prop where
 nm:(Sc.nm f).size<=16
 of_:(Sc.of_ f).size<=16
 up:(Sc.up f).size<=16
 lo:-1100000 - (n:Int)<=Sc.lo f/\Sc.lo f<=1100000+(n:Int)
 hi:-1100000 - (n:Int)<=Sc.hi f/\Sc.hi f<=1100000+(n:Int)
 ws:(Sc.words f).length<=12+n
 ns:(Sc.wts f).length<=12+n
 w:∀s∈Sc.words f,s.size<=16
 kd:-20<=Sc.kd f/\Sc.kd f<=20
structure KW (q:Nat) (k:Knd):Prop where
 nm:k.1.size<=16
 lo:-1100000<=k.2.1/\k.2.1<=1100000
 hi:-1100000<=k.2.2.1/\k.2.2.1<=1100000
 n:(Sc.flds k).length<=10
 f:∀f∈Sc.flds k,FW q f
structure LW (q:Nat) (x:Lif):Prop where
 nm:x.1.size<=16
 n:x.2.1.length<=12+q
 s:∀s∈x.2.1,s.size<=16
 m:x.2.2.length<=32+q
 v:∀m∈x.2.2,-20<=m.1/\m.1<=20/\-20<=m.2/\m.2<=20
structure RW (r:Rul):Prop where
 nm:r.1.size<=16
 k:r.2.1.size<=16
 a:r.2.2.1.size<=16
 b:r.2.2.2.1.size<=16
 n:-1100000<=r.2.2.2.2/\r.2.2.2.2<=1100000
structure WB (n:Nat) (x:Sch):Prop where
 v:-1100000 - (n:Int)<=x.1/\x.1<=1100000+(n:Int)
 nk:(Sc.kinds x).length<=6
 nl:x.2.2.1.length<=6
 nr:x.2.2.2.length<=16+n
 k:∀k∈Sc.kinds x,KW n k
 l:∀l∈x.2.2.1,LW n l
 r:∀r∈x.2.2.2,RW r
section
variable {n m:Nat} (h:n<=m)
include h
theorem FW.more {f:Fld} (x:FW n f):FW m f:=⟨x.nm,x.of_,x.up,by have:=x.lo;omega,by have:=x.hi;omega,by have:=x.ws;omega,by have:=x.ns;omega,x.w,x.kd⟩
theorem KW.more {k:Knd} (x:KW n k):KW m k:=⟨x.nm,x.lo,x.hi,x.n,λf hf=>(x.f f hf).more h⟩
theorem LW.more {l:Lif} (x:LW n l):LW m l:=⟨x.nm,by have:=x.n;omega,x.s,by have:=x.m;omega,x.v⟩
theorem WB.more {s:Sch} (x:WB n s):WB m s:=⟨by have:=x.v;omega,x.nk,x.nl,by have:=x.nr;omega,λk hk=>(x.k k hk).more h,λl hl=>(x.l l hl).more h,x.r⟩
end
theorem FB.wb {f:Fld} (h:FB f):FW 0 f:=⟨by have:=h.nm;omega,by have:=h.of_;omega,by have:=h.up;omega,by have:=h.lo;omega,by have:=h.hi;omega,by have:=h.ws;omega,by have:=h.ws;have:=h.ns;omega,λs hs=>by have:=h.w s hs;omega,by obtain ⟨k,h1,h2⟩:=h.kd;omega⟩
theorem KB.wb {k:Knd} (h:KB k):KW 0 k:=⟨by have:=h.nm;omega,by have:=h.lo;omega,by have:=h.hi;omega,h.n,λf hf=>(fldB_bd (h.f f hf)).wb⟩
theorem LB.wb {x:Lif} (h:LB x):LW 0 x:=⟨by have:=h.nm;omega,by have:=h.n;omega,λs hs=>by have:=h.s s hs;omega,by have:=h.m;omega,λm hm=>by have:=h.v m hm;omega⟩
theorem RB.wb {r:Rul} (h:RB r):RW r:=⟨by have:=h.nm;omega,by have:=h.k;omega,by have:=h.a;omega,by have:=h.b;omega,by have:=h.n;omega⟩
theorem OB.wb {x:Sch} (h:OB x):WB 0 x:=⟨by have:=h.v;omega,h.nk,h.nl,by have:=h.nr;omega,λk hk=>(h.k k hk).wb,λl hl=>(h.l l hl).wb,λr hr=>(h.r r hr).wb⟩
theorem WB.none_:WB 0 noSch:=⟨by decide,by decide,by decide,by decide,λ_ h=>(by cases h),λ_ h=>(by cases h),λ_ h=>(by cases h)⟩
section
variable {n:Nat} (hn:n<=2) {x:Sch} (h:WB n x)
include hn h
theorem WB.sz:Sz x:=by
 refine ⟨λk hk=>⟨by have:=(h.k k hk).n;omega,λf hf=>by have:=((h.k k hk).f f hf).ns;omega⟩,λl hl=>⟨by have:=(h.l l hl).n;omega,by have:=(h.l l hl).m;omega⟩,λr hr=>by have:=(h.r r hr).a;have:=(h.r r hr).b;omega⟩
theorem WB.szW:SzW x:=λk hk f hf=>by have:=((h.k k hk).f f hf).ws;omega
end
section
variable {n:Nat} {v:Int} {x:Sch} {i:Nat} (h:WB n x)
include h
theorem WB.ver (hv:-1100000 - ((n+1:Nat):Int)<=v/\v<=1100000+((n+1:Nat):Int)):WB (n+1) ((v,Sc.kinds x,x.2.2.1,x.2.2.2):Sch):=by
 have h':=h.more (Nat.le_succ n)
 exact ⟨hv,h'.nk,h'.nl,h'.nr,h'.k,h'.l,h'.r⟩
theorem WB.setK {k:Knd} (hv:x.1=v) (hk:KW (n+1) k):WB (n+1) ((v,(Sc.kinds x).set i k,x.2.2.1,x.2.2.2):Sch):=by
 have h':=h.more (Nat.le_succ n)
 refine ⟨hv ▸ h'.v,by show ((Sc.kinds x).set i k).length<=6;rw [List.length_set];exact h'.nk,h'.nl,h'.nr,λk' hk'=>?_,h'.l,h'.r⟩
 rcases List.mem_or_eq_of_mem_set hk' with hk' | rfl
 .exact h'.k k' hk'
 .exact hk
theorem WB.setL {l:Lif} (hv:x.1=v) (hl:LW (n+1) l):WB (n+1) ((v,Sc.kinds x,x.2.2.1.set i l,x.2.2.2):Sch):=by
 have h':=h.more (Nat.le_succ n)
 refine ⟨hv ▸ h'.v,h'.nk,by show (x.2.2.1.set i l).length<=6;rw [List.length_set];exact h'.nl,h'.nr,h'.k,λl' hl'=>?_,h'.r⟩
 rcases List.mem_or_eq_of_mem_set hl' with hl' | rfl
 .exact h'.l l' hl'
 .exact hl
theorem WB.addR {r:Rul} (hv:x.1=v) (hr:RW r):WB (n+1) ((v,Sc.kinds x,x.2.2.1,x.2.2.2++[r]):Sch):=by
 have h':=h.more (Nat.le_succ n)
 refine ⟨hv ▸ h'.v,h'.nk,h'.nl,by show (x.2.2.2++[r]).length<=_;rw [aK];have:=h.nr;simp only [zm,qt];omega,h'.k,h'.l,λr' hr'=>?_⟩
 rcases zE.1 hr' with hr' | hr'
 .exact h'.r r' hr'
 .rw [zg.1 hr'];exact hr
end
theorem encF_leW {f:Fld} {n:Nat} (hn:n<=2) (h:FW n f):(encF f).length<=700:=by
 have h1:=encS_le (l:=[Sc.nm f,Sc.of_ f,Sc.up f]) (b:=16) (by
  intro s hs
  simp only [zB,zr,zQ] at hs
  have:=h.nm;have:=h.of_;have:=h.up
  rcases hs with rfl | rfl | rfl <;> assumption)
 have h2:=ints_le [Sc.kd f,Sc.lo f,Sc.hi f]
 have h3:=encS_le h.w
 have h4:=ints_le (Sc.wts f)
 have h5:=h.ws;have h6:=h.ns
 have h7:(16+9)*((Sc.words f).length+1)<=375:=by omega
 unfold encF
 simp only [aK,zm,qt] at *
 omega
theorem encK_leW {k:Knd} {n:Nat} (hn:n<=2) (h:KW n k):(encK k).length<=7100:=by
 have h1:=encB_le h.nm
 have h2:=ints_le [k.2.1,k.2.2.1]
 have h3:=En.int_le ((Sc.flds k).length:Int)
 have h4:=flat_le2 encF 700 (l:=Sc.flds k) λf hf=>encF_leW hn (h.f f hf)
 have h5:=h.n
 unfold encK
 simp only [aK,zm,qt] at *
 omega
theorem encL_leW {x:Lif} {n:Nat} (hn:n<=2) (h:LW n x):(encL x).length<=1100:=by
 have h1:=encB_le h.nm
 have h2:=encS_le h.s
 have h3:=ints_le (mvs x.2.2)
 have h4:=h.n;have h5:=h.m
 rw [mvs_len] at h3
 unfold encL
 simp only [aK] at *
 omega
theorem encR_leW {r:Rul} (h:RW r):(encR r).length<=140:=by
 have h1:=encS_le (l:=[r.1,r.2.1,r.2.2.1,r.2.2.2.1]) (b:=16) (by
  intro s hs
  simp only [zB,zr,zQ] at hs
  have:=h.nm;have:=h.k;have:=h.a;have:=h.b
  rcases hs with rfl | rfl | rfl | rfl <;> assumption)
 have h2:=En.int_le r.2.2.2.2
 unfold encR
 simp only [aK,zm,qt] at *
 omega
theorem enc_leW {x:Sch} {n:Nat} (hn:n<=2) (h:WB n x):(enc x).length<=60000:=by
 have h1:=En.int_le x.1
 have h2:=En.int_le ((Sc.kinds x).length:Int)
 have h3:=flat_le2 encK 7100 (l:=Sc.kinds x) λk hk=>encK_leW hn (h.k k hk)
 have h4:=En.int_le (x.2.2.1.length:Int)
 have h5:=flat_le2 encL 1100 (l:=x.2.2.1) λk hk=>encL_leW hn (h.l k hk)
 have h6:=En.int_le (x.2.2.2.length:Int)
 have h7:=flat_le2 encR 140 (l:=x.2.2.2) λk hk=>encR_leW (h.r k hk)
 have h8:=h.nk;have h9:=h.nl;have h10:=h.nr
 unfold enc
 simp only [aK]
 omega
end Sx
end
end Go.Proofs.YtobcnhmhgoccnaaGreatDoor
