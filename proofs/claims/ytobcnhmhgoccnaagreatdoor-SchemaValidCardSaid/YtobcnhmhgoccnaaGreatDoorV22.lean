/- Parts of the proof, joined: SySo, SxGen. -/
import Derived.Test.YtobcnhmhgoccnaaGreatDoorV21
set_option maxRecDepth 100000
set_option maxHeartbeats 16000000
set_option linter.unusedVariables false
set_option linter.unusedSimpArgs false
set_option linter.unusedSectionVars false
namespace Go.Proofs.YtobcnhmhgoccnaaGreatDoor
open Go Go.RowKit
section
theorem spoilt_0 {cb:Nat} (hcb:cb<=1) (x:Sch) (us:List Value) (w:World) (h:Mem.rep [] w x us) (OB:Sx.WB cb x) (at_ how by_:Int) (h1:inI at_) (h2:inI how) (h3:inI by_) (z:Int) (hz:z=0∨z=1∨z=2∨z=3) (hz8:around how 8=z):Calls Tryz.prog 6 #[.agg us.toArray,.int .i64 at_,.int .i64 how,.int .i64 by_] w (SpP cb w):=by
 obtain ⟨A,c,B,d,C,e,rfl,s1,s2,s3,a1,b1,b2,b3,b4,b5,b6⟩:=rep_sch h
 have HOB:=aI OB
 have hx0:=OB.v
 have hnk:=OB.nk;have hnl:=OB.nl;have hnr:=OB.nr
 obtain ⟨nk,hk⟩:=aX ((Sc.kinds x).length)
 obtain ⟨nl,hl⟩:=aX x.2.2.1.length
 obtain ⟨nr,hr⟩:=aX x.2.2.2.length
 have HNK:=aI hk;have HNL:=aI hl;have HNR:=aI hr
 rw [hk] at hnk;rw [hl] at hnl;rw [hr] at hnr
 obtain ⟨v,hv⟩:=aX x.1
 have HV:=aI hv
 rw [hv] at hx0
 have CH:=aI (λW=>around_any how 8 W h2.1 h2.2)
 rw [hz8] at CH
 obtain ⟨kk,hkk⟩:∃n:Nat,around at_ nk=n:=⟨(around at_ nk).toNat,by have:=around_nn at_ nk;omega⟩
 have CK:=aI (λW=>around_any at_ nk W h1.1 h1.2)
 rw [hkk] at CK
 have CB:=aI (λ(k:Int) W=>around_any by_ k W h3.1 h3.2)
 have HTQ:=aI (λ(n q:Int) (hn:inI n) (hq:1<=q)=>show wrap64 (n.tdiv q)=n.tdiv q from by have:=tdiv_in n q hn.1 hn.2 hq;unfold wrap64;omega)
 have HBD:=aI (λ(n:Int) k (hk:1<=k)=>around_bd n k hk)
 have T:=aI ((((HR.start ((((held0 w [] (λ_ h=>by cases h)).add (keeps_sl C x.2.2.2) s3).add (keeps_sl B x.2.2.1) s2).add (keeps_sl A (Sc.kinds x)) s1)).new #[.int .i64 v,.slice A nk c,.slice B nl d,.slice C nr e] 27 rfl).new #[.int .i64 0,.slice none 0 0,.slice none 0 0,.slice none 0 0] 27 rfl).bswap)
 show Calls Tryz.prog 6 #[.agg #[.int .i64 x.1,.slice A (Sc.kinds x).length c,.slice B x.2.2.1.length d,.slice C x.2.2.2.length e],.int .i64 at_,.int .i64 how,.int .i64 by_] w _
 rw [hk,hl,hr,hv]
 clear h s1 s2 s3 a1 b1 b2 b3 b4 b5 b6 hk hl hr hv OB hz8 hkk h1 h2 h3
 go_enter Tryz.func6,Tryz.ntmps6
 go_upto_region 1 with fail
 have hN1:(w.alloc (.cells #[.int .i64 v,.slice A nk c,.slice B nl d,.slice C nr e] 27)).heap.size=w.heap.size+1:=by simp
 rw [hN1] at T
 clear hN1
 generalize (w.alloc (.cells #[.int .i64 v,.slice A nk c,.slice B nl d,.slice C nr e] 27)).alloc (.cells #[.int .i64 0,.slice none 0 0,.slice none 0 0,.slice none 0 0] 27)=W2 at T ⊢
 generalize w.heap.size+1=N1 at T ⊢
 generalize w.heap.size=N0 at T ⊢
 obtain ⟨M3,h3,-⟩:=T.out.take ((zf _ _).alloc (ag _) (.cells #[] 52)) (World.ownsRow_lit (base:=W2.heap.size) (size:=4) (e:=52) W2 #[] 0 (ag _) (by decide) rfl)
 obtain ⟨xsK,hrd,hfl⟩:=(h3.fact (.head _)).reads
 rw [HNK.out] at hrd
 have T3:=aI (h3.add (keeps_flat _ xsK) hfl)
 have HRD:=aI hrd;have HON:=aI hfl.one
 clear h3 hrd hfl T
 have q:=T3.out.box (.head _);have z1:=q.cell 1;(simp at z1);clear q
 obtain ⟨i0,hj,hz0,hz1,hz2⟩:=zq infoKnd
 go_upto_region 2 with (at_builtin;refine wpList_append_rowsB (by rfl) _ _ 23 (by rfl) 52 i0 _ 4 56 Tryz.underlying23 hj hz0 hz1 hz2 rfl (by decide) T3.out (by rfl) _ _ nk c xsK (by rfl) HRD.out HON.out (by unfold maxLen;omega) (by omega) ?_;intro v4 W4 MA h4 hob;simp only [zG,zA] at h4;clear z1;replace T3:=aI h4;clear h4 HRD HON;obtain ⟨A1,c1,rfl⟩:=T3.out.form (.head _);have HS1:=aI (some_of (T3.out.own _ (.head _)) (hob.imp id id));clear hob;have q:=T3.out.box (.head _);have z1:=q.cell 1;have f1:=q.frozen 1;(simp at z1);clear q)
 have h4:=T3.out.set0 1 (.slice A1 nk c1)
 (simp only [aB,aF,aG] at h4)
 have TA:=aI h4
 clear T3 h4 z1 f1 hj hz0 hz1 hz2
 generalize W4.setCell ⟨N0,1,none⟩ (.slice A1 nk c1)=WA at TA ⊢
 obtain ⟨M3,h3,-⟩:=TA.out.take ((zf _ _).alloc (ag _) (.cells #[] 57)) (World.ownsRow_lit (base:=WA.heap.size) (size:=3) (e:=57) WA #[] 0 (ag _) (by decide) rfl)
 obtain ⟨xsL,hrd,hfl⟩:=(h3.fact (.tail _ (.tail _ (.head _)))).reads
 rw [HNL.out] at hrd
 have T3:=aI (h3.add (keeps_flat _ xsL) hfl)
 have HRD:=aI hrd;have HON:=aI hfl.one
 clear h3 hrd hfl TA
 have q:=T3.out.box (.head _);have z2:=q.cell 2;(simp at z2);clear q
 obtain ⟨i0,hj,hz0,hz1,hz2⟩:=zq infoLif
 go_upto_region 3 with (at_builtin;refine wpList_append_rowsB (by rfl) _ _ 24 (by rfl) 57 i0 _ 3 64 Tryz.underlying24 hj hz0 hz1 hz2 rfl (by decide) T3.out (by rfl) _ _ nl d xsL (by rfl) HRD.out HON.out (by unfold maxLen;omega) (by omega) ?_;intro v4 W4 MB h4 hob;simp only [zG,zA] at h4;clear z2;replace T3:=aI h4;clear h4 HRD HON;obtain ⟨A2,c2,rfl⟩:=T3.out.form (.head _);have HS2:=aI (some_of (T3.out.own _ (.head _)) (hob.imp id id));clear hob;have q:=T3.out.box (.head _);have z2:=q.cell 2;have f2:=q.frozen 2;(simp at z2);clear q)
 have h4:=T3.out.set0 2 (.slice A2 nl c2)
 (simp only [aB,aF,aG] at h4)
 have TB:=aI h4
 clear T3 h4 z2 f2 hj hz0 hz1 hz2
 generalize W4.setCell ⟨N0,2,none⟩ (.slice A2 nl c2)=WB at TB ⊢
 obtain ⟨M3,h3,-⟩:=TB.out.take ((zf _ _).alloc (ag _) (.cells #[] 60)) (World.ownsRow_lit (base:=WB.heap.size) (size:=5) (e:=60) WB #[] 0 (ag _) (by decide) rfl)
 obtain ⟨xsR,hrd,hfl⟩:=(h3.fact (.tail _ (.tail _ (.tail _ (.tail _ (.head _)))))).reads
 rw [HNR.out] at hrd
 have T3:=aI (h3.add (keeps_flat _ xsR) hfl)
 have HRD:=aI hrd;have HON:=aI hfl.one
 clear h3 hrd hfl TB
 have q:=T3.out.box (.head _);have z3:=q.cell 3;(simp at z3);clear q
 obtain ⟨i0,hj,hz0,hz1,hz2⟩:=zq infoRul
 go_upto_region 4 with (at_builtin;refine wpList_append_rowsB (by rfl) _ _ 25 (by rfl) 60 i0 _ 5 72 Tryz.underlying25 hj hz0 hz1 hz2 rfl (by decide) T3.out (by rfl) _ _ nr e xsR (by rfl) HRD.out HON.out (by unfold maxLen;omega) (by omega) ?_;intro v4 W4 MC h4 hob;simp only [zG,zA] at h4;clear z3;replace T3:=aI h4;clear h4 HRD HON;obtain ⟨A3,c3,rfl⟩:=T3.out.form (.head _);have HS3:=aI (some_of (T3.out.own _ (.head _)) (hob.imp id id));clear hob;have q:=T3.out.box (.head _);have z3:=q.cell 3;have f3:=q.frozen 3;(simp at z3);clear q)
 have h4:=T3.out.set0 3 (.slice A3 nr c3)
 (simp only [aB,aF,aG] at h4)
 have TC:=aI h4
 clear T3 h4 z3 f3 hj hz0 hz1 hz2
 generalize W4.setCell ⟨N0,3,none⟩ (.slice A3 nr c3)=WC at TC ⊢
 have q:=TC.out.box (.head _);have z1:=q.cell 1;(simp at z1);clear q
 rcases hz with rfl | rfl | rfl | rfl
 .have hr:=HBD.out by_ 4 (by omega)
  have CR:=aI (CB.out 4)
  obtain ⟨rn,hre⟩:∃n:Nat,around by_ 4=n:=⟨(around by_ 4).toNat,by omega⟩
  rw [hre] at CR hr
  have hr0:(0:Int)<=(rn:Int):=by omega
  have hr1:(rn:Int) < 4:=by omega
  clear hre
  obtain ⟨u,hu,hu1,hu2⟩:=soV_at v (cb:Int) (by omega) hx0 rn (by omega)
  have HU:=aI hu
  clear hu hr
  go_upto_region 13 with (first | (go_at_call 23;(with_reducible refine aS (CK.out _) ?_)) | (go_at_call 23;(with_reducible refine aS (CH.out _) ?_)))
  clear z1
  apply zy (C:=λw'=>HR w [] MC [(N0,27,#[.int .i64 v,.slice A1 nk c1,.slice A2 nl c2,.slice A3 nr c3]),(N1,27,#[.int .i64 0,.slice none 0 0,.slice none 0 0,.slice none 0 0])] [⟨60,5,.slice A3 nr c3,nr,xsR⟩,⟨57,3,.slice A2 nl c2,nl,xsL⟩,⟨52,4,.slice A1 nk c1,nk,xsK⟩] [λM W=>Flat M W x.2.2.2 xsR,λM W=>Flat M W x.2.2.1 xsL,λM W=>Flat M W (Sc.kinds x) xsK,λM W=>SlAt M W A (Sc.kinds x),λM W=>SlAt M W B x.2.2.1,λM W=>SlAt M W C x.2.2.2] w') (n:=215) (m:=9) (l1:=[_,_,_,_,_,_,_,_,_]) (l2:=[_]);rfl;rfl;kernel_rfl;rfl;kernel_rfl;exact TC.out.drew;exact λu u' h hb=>(by first | exact h.below hb | exact h.trans (hb.mono h.size))
  (apply aJ;·(intro w' hC hf;clear hf hC;go_wp2_with (fail);apply aO;simp only [zC];exact rfl));(try simp only [zn])
  (apply aJ;·(intro w' hC hf;have q:=hC.box (.head _);have z0:=q.cell 0;(simp at z0);clear q;clear hf hC;go_wp2_with (fail);apply aO;simp only [zC];exact rfl));(try simp only [zn])
  (apply aJ;·(intro w' hC hf;clear hf hC;go_wp2_with (fail);apply aO;simp only [zC];exact rfl));(try simp only [zn])
  apply zF (slBlk_kept 4 3 #[.int .i64 (v+1),.int .i64 (-1),.int .i64 1048576,.int .i64 1048577])
  .intro w' hC hf;unfold Gives;clear hf hC;go_wp2_with fail;apply zJ rfl (by go_grown);simp only [zC];exact ⟨_,rfl,zj _ _ _⟩
  intro vsl;(try simp only [zn])
  (apply aJ;·(intro w' hC hf;clear hf hC;go_wp2_with (fail);apply aO;simp only [zC];exact rfl));(try simp only [zn])
  (apply aJ;·(intro w' hC hf;clear hf hC;go_wp2_with ((go_at_call 23;(with_reducible refine aS (CR.out _) ?_)));apply aO;simp only [zC];exact rfl));(try simp only [zn])
  apply zF (atCell_kept (.int .i64 u))
  .intro w' hC hf;unfold Gives;obtain ⟨N,rfl,hB⟩:=hf.1 rfl
   have qx:w'.cell? ⟨N,rn,none⟩=some (.int .i64 u):=(hB.cell rn).trans HU.out
   clear hf hC hB;go_wp2_with fail
   refine zJ rfl (zf _ _) ?_;simp only [zC];exact ⟨⟨N,rn,none⟩,by first | rfl | simp [Addr.add],qx⟩
  intro vp;(try simp only [zn])
  (apply aJ;·(intro w' hC hf;obtain ⟨pa,rfl,hpa⟩:=hf.1 rfl;clear hf hC;go_wp2_with (fail);apply aO;simp only [zC];exact rfl));(try simp only [zn])
  (apply aJ;·(intro w' hC hf;clear hf hC;go_wp2_with (fail);apply aO;simp only [zC];exact rfl));(try simp only [zn])
  apply wpT_done
  intro w4 hC hall
  have T3:=aI hC
  clear TC hC hall
  have q:=T3.out.box (.head _);have z0:=q.cell 0;have f0:=q.frozen 0;(simp at z0);clear q
  go_upto_region 31 with fail
  clear z0 f0
  have T2:=aI (show HR w [] MC [(N0,27,#[.int .i64 u,.slice A1 nk c1,.slice A2 nl c2,.slice A3 nr c3]),(N1,27,#[.int .i64 0,.slice none 0 0,.slice none 0 0,.slice none 0 0])] [⟨60,5,.slice A3 nr c3,nr,xsR⟩,⟨57,3,.slice A2 nl c2,nl,xsL⟩,⟨52,4,.slice A1 nk c1,nk,xsK⟩] [λM W=>Flat M W x.2.2.2 xsR,λM W=>Flat M W x.2.2.1 xsL,λM W=>Flat M W (Sc.kinds x) xsK,λM W=>SlAt M W A (Sc.kinds x),λM W=>SlAt M W B x.2.2.1,λM W=>SlAt M W C x.2.2.2] (w4.setCell ⟨N0,0,none⟩ (.int .i64 u)) from T3.out.set0 0 _)
  clear T3
  generalize w4.setCell ⟨N0,0,none⟩ (.int .i64 u)=W4 at T2 ⊢
  have q:=T2.out.box (.head _);obtain ⟨q0,q1,q2,q3⟩:=aN4 q.cell;simp at q0 q1 q2 q3;clear q
  have p:=T2.out.box (.tail _ (.head _));obtain ⟨f0,f1,f2,f3⟩:=aN4 p.frozen;obtain ⟨p0,p1,p2,p3⟩:=aN4 p.cell;simp at p0 p1 p2 p3;clear p
  go_cut [] from 9 (λw'=>SPC cb w N1 w')
  case first =>
   go_wp2_with fail
   go_meet
   case rel=>exact spo_end T2.out (T2.out.fact (.head _)) (T2.out.fact (.tail _ (.head _))) (T2.out.fact (.tail _ (.tail _ (.head _)))) (HNR.out) (HNL.out) (HNK.out) (by unfold inI;omega) (HOB.out.ver (by omega))
  case rest =>
   obtain ⟨y9,v9,A9,nk9,c9,B9,nl9,d9,C9,nr9,e9,q,hr9,hz9,hb9⟩:=hcut
   clear q0 q1 q2 q3
   obtain ⟨q0,q1,q2,q3⟩:=aN4 q.cell;simp at q0 q1 q2 q3;clear q
   rename_i hK
   apply hK
   refine wp_ret ?_
   (try simp only [Exit.inBlock,Exit.then])
   refine zi (v:=.agg #[.int .i64 v9,.slice A9 nk9 c9,.slice B9 nl9 d9,.slice C9 nr9 e9]) ?_ rfl ?_
   .simp [results,Tryz.results6,go_sem,q0,q1,q2,q3]
    try rfl
   .exact ⟨y9,_,rfl,hr9,hz9,hb9⟩
 .have k0:(0:Int)<=(kk:Int):=aa _
  by_cases hlt:kk < nk
  .have k1:(kk:Int) < (nk:Int):=by omega
   have hr:=HBD.out by_ 4 (by omega)
   have CR:=aI (CB.out 4)
   obtain ⟨rn,hre⟩:∃n:Nat,around by_ 4=n:=⟨(around by_ 4).toNat,by omega⟩
   rw [hre] at CR hr
   have hr0:(0:Int)<=(rn:Int):=by omega
   have hr1:(rn:Int) < 4:=by omega
   clear hre
   obtain ⟨u,hu,hub⟩:=soN_at rn (by omega)
   have HU:=aI hu
   clear hu hr
   go_upto_region 16 with (first | (go_at_call 23;(with_reducible refine aS (CK.out _) ?_)) | (go_at_call 23;(with_reducible refine aS (CH.out _) ?_)))
   clear z1
   have TK:=aI (TC.out.perm (List.perm_append_comm (l₁:=[_,_]) (l₂:=[_])))
   obtain ⟨gK,rfl⟩:=TK.out.rform (.head _) (by omega)
   apply zy (C:=λw'=>HR w [] MC [(N0,27,#[.int .i64 v,.slice (some ⟨gK,0,none⟩) nk c1,.slice A2 nl c2,.slice A3 nr c3]),(N1,27,#[.int .i64 0,.slice none 0 0,.slice none 0 0,.slice none 0 0])] [⟨52,4,.slice (some ⟨gK,0,none⟩) nk c1,nk,xsK⟩,⟨60,5,.slice A3 nr c3,nr,xsR⟩,⟨57,3,.slice A2 nl c2,nl,xsL⟩] [λM W=>Flat M W x.2.2.2 xsR,λM W=>Flat M W x.2.2.1 xsL,λM W=>Flat M W (Sc.kinds x) xsK,λM W=>SlAt M W A (Sc.kinds x),λM W=>SlAt M W B x.2.2.1,λM W=>SlAt M W C x.2.2.2] w') (n:=215) (m:=10) (l1:=[_,_,_,_,_,_,_,_,_,_]) (l2:=[_]);rfl;rfl;kernel_rfl;rfl;kernel_rfl;exact TK.out.drew;exact λu u' h hb=>(by first | exact h.below hb | exact h.trans (hb.mono h.size))
   (apply aJ;·(intro w' hC hf;clear hf hC;go_wp2_with (fail);apply aO;simp only [zC];exact rfl));(try simp only [zn])
   (apply aJ;·(intro w' hC hf;have q:=hC.box (.head _);have z1:=q.cell 1;(simp at z1);clear q;clear hf hC;go_wp2_with (fail);apply aO;simp only [zC];exact rfl));(try simp only [zn])
   (apply aJ;·(intro w' hC hf;clear hf hC;go_wp2_with (fail);apply aO;simp only [zC];exact rfl));(try simp only [zn])
   apply zF (slBlk_kept 4 9 #[.string ⟨#[112,101,114,115,111,110]⟩,.string ⟨#[]⟩,.string ⟨#[111,116,104,101,114]⟩,.string ⟨#[97,32,98]⟩])
   .intro w' hC hf;unfold Gives;clear hf hC;go_wp2_with fail;apply zJ rfl (by go_grown);simp only [zC];exact ⟨_,rfl,zj _ _ _⟩
   intro vsl;(try simp only [zn])
   (apply aJ;·(intro w' hC hf;clear hf hC;go_wp2_with (fail);apply aO;simp only [zC];exact rfl));(try simp only [zn])
   (apply aJ;·(intro w' hC hf;clear hf hC;go_wp2_with ((go_at_call 23;(with_reducible refine aS (CR.out _) ?_)));apply aO;simp only [zC];exact rfl));(try simp only [zn])
   apply zF (atCell_kept (.string u))
   .intro w' hC hf;unfold Gives;obtain ⟨N,rfl,hB⟩:=hf.1 rfl
    have qx:w'.cell? ⟨N,rn,none⟩=some (.string u):=(hB.cell rn).trans HU.out
    clear hf hC hB;go_wp2_with fail
    refine zJ rfl (zf _ _) ?_;simp only [zC];exact ⟨⟨N,rn,none⟩,by first | rfl | simp [Addr.add],qx⟩
   intro vp;(try simp only [zn])
   (apply aJ;·(intro w' hC hf;obtain ⟨pa,rfl,hpa⟩:=hf.1 rfl;clear hf hC;go_wp2_with (fail);apply aO;simp only [zC];exact rfl));(try simp only [zn])
   iterate 2 ((apply aJ;·(intro w' hC hf;clear hf hC;go_wp2_with (fail);apply aO;simp only [zC];exact rfl));(try simp only [zn]))
   apply wpT_done
   intro w4 hC hall
   have T3:=aI hC
   clear TC TK hC hall
   have hkp:kk < (Sc.kinds x).length:=by rw [HNK.out];exact hlt
   obtain ⟨ue,hue,hxe⟩:=Flat.get (T3.out.fact (.tail _ (.tail _ (.head _)))) kk hkp
   obtain ⟨Ae,ce,rfl,_⟩:=rep_knd hue
   have y0:=T3.out.rcell (.head _) (by omega) (hxe 0 _ rfl)
   have g0:=T3.out.rfroz (.head _) (by omega) (kk*4+0)
   (rw [show Mem.sz Knd=4 from rfl] at y0);(try simp only [zW] at y0 g0)
   clear hue hxe
   go_upto_region 31 with fail
   clear y0 g0
   have T5:=aI ((T3.out.setRow (.string u) (k:=kk*4+0) (by omega)).perm (List.perm_append_comm (l₁:=[_]) (l₂:=[_,_])))
   (try simp only [zW] at T5)
   clear T3
   generalize w4.setCell ⟨gK,kk*4,none⟩ (.string u)=W4 at T5 ⊢
   have T2:=aI (show HR w [] MC [(N0,27,#[.int .i64 v,.slice (some ⟨gK,0,none⟩) nk c1,.slice A2 nl c2,.slice A3 nr c3]),(N1,27,#[.int .i64 0,.slice none 0 0,.slice none 0 0,.slice none 0 0])] [⟨60,5,.slice A3 nr c3,nr,xsR⟩,⟨57,3,.slice A2 nl c2,nl,xsL⟩,⟨52,4,.slice (some ⟨gK,0,none⟩) nk c1,nk,xsK.set (kk*4+0) (.string u)⟩] [λM W=>Flat M W x.2.2.2 xsR,λM W=>Flat M W x.2.2.1 xsL,λM W=>Flat M W (Sc.kinds x) xsK,λM W=>SlAt M W A (Sc.kinds x),λM W=>SlAt M W B x.2.2.1,λM W=>SlAt M W C x.2.2.2] W4 from T5.out)
   clear T5
   obtain ⟨kd,hkd⟩:=aX ((Sc.kinds x)[kk])
   have HFK:=aI (show Flat MC W4 ((Sc.kinds x).set kk (u,kd.2.1,kd.2.2.1,kd.2.2.2)) (xsK.set (kk*4+0) (.string u)) from Flat.setAt (T2.out.fact (.tail _ (.tail _ (.head _)))) kk hkp 0 (by decide) (λus h=>by rw [hkd] at h;exact knd_set0 (hub) h))
   have HKD:=aI (show kd∈Sc.kinds x from hkd ▸ ze hkp)
   clear hkd
   have q:=T2.out.box (.head _);obtain ⟨q0,q1,q2,q3⟩:=aN4 q.cell;simp at q0 q1 q2 q3;clear q
   have p:=T2.out.box (.tail _ (.head _));obtain ⟨f0,f1,f2,f3⟩:=aN4 p.frozen;obtain ⟨p0,p1,p2,p3⟩:=aN4 p.cell;simp at p0 p1 p2 p3;clear p
   go_cut [] from 9 (λw'=>SPC cb w N1 w')
   case first =>
    go_wp2_with fail
    go_meet
    case rel=>exact spo_end T2.out (T2.out.fact (.head _)) (T2.out.fact (.tail _ (.head _))) (HFK.out) (HNR.out) (HNL.out) (by rw [List.length_set];exact HNK.out) (by unfold inI;omega) (HOB.out.setK HV.out ⟨hub,(HOB.out.k kd HKD.out).lo,(HOB.out.k kd HKD.out).hi,(HOB.out.k kd HKD.out).n,((HOB.out.k kd HKD.out).more (Nat.le_succ _)).f⟩)
   case rest =>
    obtain ⟨y9,v9,A9,nk9,c9,B9,nl9,d9,C9,nr9,e9,q,hr9,hz9,hb9⟩:=hcut
    clear q0 q1 q2 q3
    obtain ⟨q0,q1,q2,q3⟩:=aN4 q.cell;simp at q0 q1 q2 q3;clear q
    rename_i hK
    apply hK
    refine wp_ret ?_
    (try simp only [Exit.inBlock,Exit.then])
    refine zi (v:=.agg #[.int .i64 v9,.slice A9 nk9 c9,.slice B9 nl9 d9,.slice C9 nr9 e9]) ?_ rfl ?_
    .simp [results,Tryz.results6,go_sem,q0,q1,q2,q3]
     try rfl
    .exact ⟨y9,_,rfl,hr9,hz9,hb9⟩
  .have k1:¬(kk:Int) < (nk:Int):=by omega
   go_upto_region 31 with (first | (go_at_call 23;(with_reducible refine aS (CK.out _) ?_)) | (go_at_call 23;(with_reducible refine aS (CH.out _) ?_)))
   clear z1
   have q:=TC.out.box (.head _);obtain ⟨q0,q1,q2,q3⟩:=aN4 q.cell;simp at q0 q1 q2 q3;clear q
   have p:=TC.out.box (.tail _ (.head _));obtain ⟨f0,f1,f2,f3⟩:=aN4 p.frozen;obtain ⟨p0,p1,p2,p3⟩:=aN4 p.cell;simp at p0 p1 p2 p3;clear p
   go_cut [] from 9 (λw'=>SPC cb w N1 w')
   case first =>
    go_wp2_with fail
    go_meet
    case rel=>exact spo_end TC.out (TC.out.fact (.head _)) (TC.out.fact (.tail _ (.head _))) (TC.out.fact (.tail _ (.tail _ (.head _)))) (HNR.out) (HNL.out) (HNK.out) (by unfold inI;omega) (HOB.out.ver (by omega))
   case rest =>
    obtain ⟨y9,v9,A9,nk9,c9,B9,nl9,d9,C9,nr9,e9,q,hr9,hz9,hb9⟩:=hcut
    clear q0 q1 q2 q3
    obtain ⟨q0,q1,q2,q3⟩:=aN4 q.cell;simp at q0 q1 q2 q3;clear q
    rename_i hK
    apply hK
    refine wp_ret ?_
    (try simp only [Exit.inBlock,Exit.then])
    refine zi (v:=.agg #[.int .i64 v9,.slice A9 nk9 c9,.slice B9 nl9 d9,.slice C9 nr9 e9]) ?_ rfl ?_
    .simp [results,Tryz.results6,go_sem,q0,q1,q2,q3]
     try rfl
    .exact ⟨y9,_,rfl,hr9,hz9,hb9⟩
 .have k0:(0:Int)<=(kk:Int):=aa _
  by_cases hlt:kk < nk
  .have k1:(kk:Int) < (nk:Int):=by omega
   have hr:=HBD.out by_ 4 (by omega)
   have CR:=aI (CB.out 4)
   obtain ⟨rn,hre⟩:∃n:Nat,around by_ 4=n:=⟨(around by_ 4).toNat,by omega⟩
   rw [hre] at CR hr
   have hr0:(0:Int)<=(rn:Int):=by omega
   have hr1:(rn:Int) < 4:=by omega
   clear hre
   obtain ⟨u,hu,hu1,hu2⟩:=soLo_at rn (by omega)
   have HU:=aI hu
   clear hu hr
   go_upto_region 19 with (first | (go_at_call 23;(with_reducible refine aS (CK.out _) ?_)) | (go_at_call 23;(with_reducible refine aS (CH.out _) ?_)))
   clear z1
   have TK:=aI (TC.out.perm (List.perm_append_comm (l₁:=[_,_]) (l₂:=[_])))
   obtain ⟨gK,rfl⟩:=TK.out.rform (.head _) (by omega)
   apply zy (C:=λw'=>HR w [] MC [(N0,27,#[.int .i64 v,.slice (some ⟨gK,0,none⟩) nk c1,.slice A2 nl c2,.slice A3 nr c3]),(N1,27,#[.int .i64 0,.slice none 0 0,.slice none 0 0,.slice none 0 0])] [⟨52,4,.slice (some ⟨gK,0,none⟩) nk c1,nk,xsK⟩,⟨60,5,.slice A3 nr c3,nr,xsR⟩,⟨57,3,.slice A2 nl c2,nl,xsL⟩] [λM W=>Flat M W x.2.2.2 xsR,λM W=>Flat M W x.2.2.1 xsL,λM W=>Flat M W (Sc.kinds x) xsK,λM W=>SlAt M W A (Sc.kinds x),λM W=>SlAt M W B x.2.2.1,λM W=>SlAt M W C x.2.2.2] w') (n:=215) (m:=10) (l1:=[_,_,_,_,_,_,_,_,_,_]) (l2:=[_]);rfl;rfl;kernel_rfl;rfl;kernel_rfl;exact TK.out.drew;exact λu u' h hb=>(by first | exact h.below hb | exact h.trans (hb.mono h.size))
   (apply aJ;·(intro w' hC hf;clear hf hC;go_wp2_with (fail);apply aO;simp only [zC];exact rfl));(try simp only [zn])
   (apply aJ;·(intro w' hC hf;have q:=hC.box (.head _);have z1:=q.cell 1;(simp at z1);clear q;clear hf hC;go_wp2_with (fail);apply aO;simp only [zC];exact rfl));(try simp only [zn])
   (apply aJ;·(intro w' hC hf;clear hf hC;go_wp2_with (fail);apply aO;simp only [zC];exact rfl));(try simp only [zn])
   apply zF (slBlk_kept 4 3 #[.int .i64 0,.int .i64 5,.int .i64 (-1),.int .i64 65537])
   .intro w' hC hf;unfold Gives;clear hf hC;go_wp2_with fail;apply zJ rfl (by go_grown);simp only [zC];exact ⟨_,rfl,zj _ _ _⟩
   intro vsl;(try simp only [zn])
   (apply aJ;·(intro w' hC hf;clear hf hC;go_wp2_with (fail);apply aO;simp only [zC];exact rfl));(try simp only [zn])
   (apply aJ;·(intro w' hC hf;clear hf hC;go_wp2_with ((go_at_call 23;(with_reducible refine aS (CR.out _) ?_)));apply aO;simp only [zC];exact rfl));(try simp only [zn])
   apply zF (atCell_kept (.int .i64 u))
   .intro w' hC hf;unfold Gives;obtain ⟨N,rfl,hB⟩:=hf.1 rfl
    have qx:w'.cell? ⟨N,rn,none⟩=some (.int .i64 u):=(hB.cell rn).trans HU.out
    clear hf hC hB;go_wp2_with fail
    refine zJ rfl (zf _ _) ?_;simp only [zC];exact ⟨⟨N,rn,none⟩,by first | rfl | simp [Addr.add],qx⟩
   intro vp;(try simp only [zn])
   (apply aJ;·(intro w' hC hf;obtain ⟨pa,rfl,hpa⟩:=hf.1 rfl;clear hf hC;go_wp2_with (fail);apply aO;simp only [zC];exact rfl));(try simp only [zn])
   iterate 2 ((apply aJ;·(intro w' hC hf;clear hf hC;go_wp2_with (fail);apply aO;simp only [zC];exact rfl));(try simp only [zn]))
   apply wpT_done
   intro w4 hC hall
   have T3:=aI hC
   clear TC TK hC hall
   have hkp:kk < (Sc.kinds x).length:=by rw [HNK.out];exact hlt
   obtain ⟨ue,hue,hxe⟩:=Flat.get (T3.out.fact (.tail _ (.tail _ (.head _)))) kk hkp
   obtain ⟨Ae,ce,rfl,_⟩:=rep_knd hue
   have y1:=T3.out.rcell (.head _) (by omega) (hxe 1 _ rfl)
   have g1:=T3.out.rfroz (.head _) (by omega) (kk*4+1)
   (rw [show Mem.sz Knd=4 from rfl] at y1);(try simp only [zW] at y1 g1)
   clear hue hxe
   go_upto_region 31 with fail
   clear y1 g1
   have T5:=aI ((T3.out.setRow (.int .i64 u) (k:=kk*4+1) (by omega)).perm (List.perm_append_comm (l₁:=[_]) (l₂:=[_,_])))
   (try simp only [zW] at T5)
   clear T3
   generalize w4.setCell ⟨gK,kk*4+1,none⟩ (.int .i64 u)=W4 at T5 ⊢
   have T2:=aI (show HR w [] MC [(N0,27,#[.int .i64 v,.slice (some ⟨gK,0,none⟩) nk c1,.slice A2 nl c2,.slice A3 nr c3]),(N1,27,#[.int .i64 0,.slice none 0 0,.slice none 0 0,.slice none 0 0])] [⟨60,5,.slice A3 nr c3,nr,xsR⟩,⟨57,3,.slice A2 nl c2,nl,xsL⟩,⟨52,4,.slice (some ⟨gK,0,none⟩) nk c1,nk,xsK.set (kk*4+1) (.int .i64 u)⟩] [λM W=>Flat M W x.2.2.2 xsR,λM W=>Flat M W x.2.2.1 xsL,λM W=>Flat M W (Sc.kinds x) xsK,λM W=>SlAt M W A (Sc.kinds x),λM W=>SlAt M W B x.2.2.1,λM W=>SlAt M W C x.2.2.2] W4 from T5.out)
   clear T5
   obtain ⟨kd,hkd⟩:=aX ((Sc.kinds x)[kk])
   have HFK:=aI (show Flat MC W4 ((Sc.kinds x).set kk (kd.1,u,kd.2.2.1,kd.2.2.2)) (xsK.set (kk*4+1) (.int .i64 u)) from Flat.setAt (T2.out.fact (.tail _ (.tail _ (.head _)))) kk hkp 1 (by decide) (λus h=>by rw [hkd] at h;exact knd_set1 (by unfold inI;omega) h))
   have HKD:=aI (show kd∈Sc.kinds x from hkd ▸ ze hkp)
   clear hkd
   have q:=T2.out.box (.head _);obtain ⟨q0,q1,q2,q3⟩:=aN4 q.cell;simp at q0 q1 q2 q3;clear q
   have p:=T2.out.box (.tail _ (.head _));obtain ⟨f0,f1,f2,f3⟩:=aN4 p.frozen;obtain ⟨p0,p1,p2,p3⟩:=aN4 p.cell;simp at p0 p1 p2 p3;clear p
   go_cut [] from 9 (λw'=>SPC cb w N1 w')
   case first =>
    go_wp2_with fail
    go_meet
    case rel=>exact spo_end T2.out (T2.out.fact (.head _)) (T2.out.fact (.tail _ (.head _))) (HFK.out) (HNR.out) (HNL.out) (by rw [List.length_set];exact HNK.out) (by unfold inI;omega) (HOB.out.setK HV.out ⟨(HOB.out.k kd HKD.out).nm,⟨hu1,hu2⟩,(HOB.out.k kd HKD.out).hi,(HOB.out.k kd HKD.out).n,((HOB.out.k kd HKD.out).more (Nat.le_succ _)).f⟩)
   case rest =>
    obtain ⟨y9,v9,A9,nk9,c9,B9,nl9,d9,C9,nr9,e9,q,hr9,hz9,hb9⟩:=hcut
    clear q0 q1 q2 q3
    obtain ⟨q0,q1,q2,q3⟩:=aN4 q.cell;simp at q0 q1 q2 q3;clear q
    rename_i hK
    apply hK
    refine wp_ret ?_
    (try simp only [Exit.inBlock,Exit.then])
    refine zi (v:=.agg #[.int .i64 v9,.slice A9 nk9 c9,.slice B9 nl9 d9,.slice C9 nr9 e9]) ?_ rfl ?_
    .simp [results,Tryz.results6,go_sem,q0,q1,q2,q3]
     try rfl
    .exact ⟨y9,_,rfl,hr9,hz9,hb9⟩
  .have k1:¬(kk:Int) < (nk:Int):=by omega
   go_upto_region 31 with (first | (go_at_call 23;(with_reducible refine aS (CK.out _) ?_)) | (go_at_call 23;(with_reducible refine aS (CH.out _) ?_)))
   clear z1
   have q:=TC.out.box (.head _);obtain ⟨q0,q1,q2,q3⟩:=aN4 q.cell;simp at q0 q1 q2 q3;clear q
   have p:=TC.out.box (.tail _ (.head _));obtain ⟨f0,f1,f2,f3⟩:=aN4 p.frozen;obtain ⟨p0,p1,p2,p3⟩:=aN4 p.cell;simp at p0 p1 p2 p3;clear p
   go_cut [] from 9 (λw'=>SPC cb w N1 w')
   case first =>
    go_wp2_with fail
    go_meet
    case rel=>exact spo_end TC.out (TC.out.fact (.head _)) (TC.out.fact (.tail _ (.head _))) (TC.out.fact (.tail _ (.tail _ (.head _)))) (HNR.out) (HNL.out) (HNK.out) (by unfold inI;omega) (HOB.out.ver (by omega))
   case rest =>
    obtain ⟨y9,v9,A9,nk9,c9,B9,nl9,d9,C9,nr9,e9,q,hr9,hz9,hb9⟩:=hcut
    clear q0 q1 q2 q3
    obtain ⟨q0,q1,q2,q3⟩:=aN4 q.cell;simp at q0 q1 q2 q3;clear q
    rename_i hK
    apply hK
    refine wp_ret ?_
    (try simp only [Exit.inBlock,Exit.then])
    refine zi (v:=.agg #[.int .i64 v9,.slice A9 nk9 c9,.slice B9 nl9 d9,.slice C9 nr9 e9]) ?_ rfl ?_
    .simp [results,Tryz.results6,go_sem,q0,q1,q2,q3]
     try rfl
    .exact ⟨y9,_,rfl,hr9,hz9,hb9⟩
 .have k0:(0:Int)<=(kk:Int):=aa _
  by_cases hlt:kk < nk
  .have k1:(kk:Int) < (nk:Int):=by omega
   have hr:=HBD.out by_ 4 (by omega)
   have CR:=aI (CB.out 4)
   obtain ⟨rn,hre⟩:∃n:Nat,around by_ 4=n:=⟨(around by_ 4).toNat,by omega⟩
   rw [hre] at CR hr
   have hr0:(0:Int)<=(rn:Int):=by omega
   have hr1:(rn:Int) < 4:=by omega
   clear hre
   obtain ⟨u,hu,hu1,hu2⟩:=soHi_at rn (by omega)
   have HU:=aI hu
   clear hu hr
   go_upto_region 22 with (first | (go_at_call 23;(with_reducible refine aS (CK.out _) ?_)) | (go_at_call 23;(with_reducible refine aS (CH.out _) ?_)))
   clear z1
   have TK:=aI (TC.out.perm (List.perm_append_comm (l₁:=[_,_]) (l₂:=[_])))
   obtain ⟨gK,rfl⟩:=TK.out.rform (.head _) (by omega)
   apply zy (C:=λw'=>HR w [] MC [(N0,27,#[.int .i64 v,.slice (some ⟨gK,0,none⟩) nk c1,.slice A2 nl c2,.slice A3 nr c3]),(N1,27,#[.int .i64 0,.slice none 0 0,.slice none 0 0,.slice none 0 0])] [⟨52,4,.slice (some ⟨gK,0,none⟩) nk c1,nk,xsK⟩,⟨60,5,.slice A3 nr c3,nr,xsR⟩,⟨57,3,.slice A2 nl c2,nl,xsL⟩] [λM W=>Flat M W x.2.2.2 xsR,λM W=>Flat M W x.2.2.1 xsL,λM W=>Flat M W (Sc.kinds x) xsK,λM W=>SlAt M W A (Sc.kinds x),λM W=>SlAt M W B x.2.2.1,λM W=>SlAt M W C x.2.2.2] w') (n:=215) (m:=10) (l1:=[_,_,_,_,_,_,_,_,_,_]) (l2:=[_]);rfl;rfl;kernel_rfl;rfl;kernel_rfl;exact TK.out.drew;exact λu u' h hb=>(by first | exact h.below hb | exact h.trans (hb.mono h.size))
   (apply aJ;·(intro w' hC hf;clear hf hC;go_wp2_with (fail);apply aO;simp only [zC];exact rfl));(try simp only [zn])
   (apply aJ;·(intro w' hC hf;have q:=hC.box (.head _);have z1:=q.cell 1;(simp at z1);clear q;clear hf hC;go_wp2_with (fail);apply aO;simp only [zC];exact rfl));(try simp only [zn])
   (apply aJ;·(intro w' hC hf;clear hf hC;go_wp2_with (fail);apply aO;simp only [zC];exact rfl));(try simp only [zn])
   apply zF (slBlk_kept 4 3 #[.int .i64 0,.int .i64 5,.int .i64 65536,.int .i64 65537])
   .intro w' hC hf;unfold Gives;clear hf hC;go_wp2_with fail;apply zJ rfl (by go_grown);simp only [zC];exact ⟨_,rfl,zj _ _ _⟩
   intro vsl;(try simp only [zn])
   (apply aJ;·(intro w' hC hf;clear hf hC;go_wp2_with (fail);apply aO;simp only [zC];exact rfl));(try simp only [zn])
   (apply aJ;·(intro w' hC hf;clear hf hC;go_wp2_with ((go_at_call 23;(with_reducible refine aS (CR.out _) ?_)));apply aO;simp only [zC];exact rfl));(try simp only [zn])
   apply zF (atCell_kept (.int .i64 u))
   .intro w' hC hf;unfold Gives;obtain ⟨N,rfl,hB⟩:=hf.1 rfl
    have qx:w'.cell? ⟨N,rn,none⟩=some (.int .i64 u):=(hB.cell rn).trans HU.out
    clear hf hC hB;go_wp2_with fail
    refine zJ rfl (zf _ _) ?_;simp only [zC];exact ⟨⟨N,rn,none⟩,by first | rfl | simp [Addr.add],qx⟩
   intro vp;(try simp only [zn])
   (apply aJ;·(intro w' hC hf;obtain ⟨pa,rfl,hpa⟩:=hf.1 rfl;clear hf hC;go_wp2_with (fail);apply aO;simp only [zC];exact rfl));(try simp only [zn])
   iterate 2 ((apply aJ;·(intro w' hC hf;clear hf hC;go_wp2_with (fail);apply aO;simp only [zC];exact rfl));(try simp only [zn]))
   apply wpT_done
   intro w4 hC hall
   have T3:=aI hC
   clear TC TK hC hall
   have hkp:kk < (Sc.kinds x).length:=by rw [HNK.out];exact hlt
   obtain ⟨ue,hue,hxe⟩:=Flat.get (T3.out.fact (.tail _ (.tail _ (.head _)))) kk hkp
   obtain ⟨Ae,ce,rfl,_⟩:=rep_knd hue
   have y2:=T3.out.rcell (.head _) (by omega) (hxe 2 _ rfl)
   have g2:=T3.out.rfroz (.head _) (by omega) (kk*4+2)
   (rw [show Mem.sz Knd=4 from rfl] at y2);(try simp only [zW] at y2 g2)
   clear hue hxe
   go_upto_region 31 with fail
   clear y2 g2
   have T5:=aI ((T3.out.setRow (.int .i64 u) (k:=kk*4+2) (by omega)).perm (List.perm_append_comm (l₁:=[_]) (l₂:=[_,_])))
   (try simp only [zW] at T5)
   clear T3
   generalize w4.setCell ⟨gK,kk*4+2,none⟩ (.int .i64 u)=W4 at T5 ⊢
   have T2:=aI (show HR w [] MC [(N0,27,#[.int .i64 v,.slice (some ⟨gK,0,none⟩) nk c1,.slice A2 nl c2,.slice A3 nr c3]),(N1,27,#[.int .i64 0,.slice none 0 0,.slice none 0 0,.slice none 0 0])] [⟨60,5,.slice A3 nr c3,nr,xsR⟩,⟨57,3,.slice A2 nl c2,nl,xsL⟩,⟨52,4,.slice (some ⟨gK,0,none⟩) nk c1,nk,xsK.set (kk*4+2) (.int .i64 u)⟩] [λM W=>Flat M W x.2.2.2 xsR,λM W=>Flat M W x.2.2.1 xsL,λM W=>Flat M W (Sc.kinds x) xsK,λM W=>SlAt M W A (Sc.kinds x),λM W=>SlAt M W B x.2.2.1,λM W=>SlAt M W C x.2.2.2] W4 from T5.out)
   clear T5
   obtain ⟨kd,hkd⟩:=aX ((Sc.kinds x)[kk])
   have HFK:=aI (show Flat MC W4 ((Sc.kinds x).set kk (kd.1,kd.2.1,u,kd.2.2.2)) (xsK.set (kk*4+2) (.int .i64 u)) from Flat.setAt (T2.out.fact (.tail _ (.tail _ (.head _)))) kk hkp 2 (by decide) (λus h=>by rw [hkd] at h;exact knd_set2 (by unfold inI;omega) h))
   have HKD:=aI (show kd∈Sc.kinds x from hkd ▸ ze hkp)
   clear hkd
   have q:=T2.out.box (.head _);obtain ⟨q0,q1,q2,q3⟩:=aN4 q.cell;simp at q0 q1 q2 q3;clear q
   have p:=T2.out.box (.tail _ (.head _));obtain ⟨f0,f1,f2,f3⟩:=aN4 p.frozen;obtain ⟨p0,p1,p2,p3⟩:=aN4 p.cell;simp at p0 p1 p2 p3;clear p
   go_cut [] from 9 (λw'=>SPC cb w N1 w')
   case first =>
    go_wp2_with fail
    go_meet
    case rel=>exact spo_end T2.out (T2.out.fact (.head _)) (T2.out.fact (.tail _ (.head _))) (HFK.out) (HNR.out) (HNL.out) (by rw [List.length_set];exact HNK.out) (by unfold inI;omega) (HOB.out.setK HV.out ⟨(HOB.out.k kd HKD.out).nm,(HOB.out.k kd HKD.out).lo,⟨hu1,hu2⟩,(HOB.out.k kd HKD.out).n,((HOB.out.k kd HKD.out).more (Nat.le_succ _)).f⟩)
   case rest =>
    obtain ⟨y9,v9,A9,nk9,c9,B9,nl9,d9,C9,nr9,e9,q,hr9,hz9,hb9⟩:=hcut
    clear q0 q1 q2 q3
    obtain ⟨q0,q1,q2,q3⟩:=aN4 q.cell;simp at q0 q1 q2 q3;clear q
    rename_i hK
    apply hK
    refine wp_ret ?_
    (try simp only [Exit.inBlock,Exit.then])
    refine zi (v:=.agg #[.int .i64 v9,.slice A9 nk9 c9,.slice B9 nl9 d9,.slice C9 nr9 e9]) ?_ rfl ?_
    .simp [results,Tryz.results6,go_sem,q0,q1,q2,q3]
     try rfl
    .exact ⟨y9,_,rfl,hr9,hz9,hb9⟩
  .have k1:¬(kk:Int) < (nk:Int):=by omega
   go_upto_region 31 with (first | (go_at_call 23;(with_reducible refine aS (CK.out _) ?_)) | (go_at_call 23;(with_reducible refine aS (CH.out _) ?_)))
   clear z1
   have q:=TC.out.box (.head _);obtain ⟨q0,q1,q2,q3⟩:=aN4 q.cell;simp at q0 q1 q2 q3;clear q
   have p:=TC.out.box (.tail _ (.head _));obtain ⟨f0,f1,f2,f3⟩:=aN4 p.frozen;obtain ⟨p0,p1,p2,p3⟩:=aN4 p.cell;simp at p0 p1 p2 p3;clear p
   go_cut [] from 9 (λw'=>SPC cb w N1 w')
   case first =>
    go_wp2_with fail
    go_meet
    case rel=>exact spo_end TC.out (TC.out.fact (.head _)) (TC.out.fact (.tail _ (.head _))) (TC.out.fact (.tail _ (.tail _ (.head _)))) (HNR.out) (HNL.out) (HNK.out) (by unfold inI;omega) (HOB.out.ver (by omega))
   case rest =>
    obtain ⟨y9,v9,A9,nk9,c9,B9,nl9,d9,C9,nr9,e9,q,hr9,hz9,hb9⟩:=hcut
    clear q0 q1 q2 q3
    obtain ⟨q0,q1,q2,q3⟩:=aN4 q.cell;simp at q0 q1 q2 q3;clear q
    rename_i hK
    apply hK
    refine wp_ret ?_
    (try simp only [Exit.inBlock,Exit.then])
    refine zi (v:=.agg #[.int .i64 v9,.slice A9 nk9 c9,.slice B9 nl9 d9,.slice C9 nr9 e9]) ?_ rfl ?_
    .simp [results,Tryz.results6,go_sem,q0,q1,q2,q3]
     try rfl
    .exact ⟨y9,_,rfl,hr9,hz9,hb9⟩
theorem spoilt_1 {cb:Nat} (hcb:cb<=1) (x:Sch) (us:List Value) (w:World) (h:Mem.rep [] w x us) (OB:Sx.WB cb x) (at_ how by_:Int) (h1:inI at_) (h2:inI how) (h3:inI by_) (z:Int) (hz:z=4∨z=5) (hz8:around how 8=z):Calls Tryz.prog 6 #[.agg us.toArray,.int .i64 at_,.int .i64 how,.int .i64 by_] w (SpP cb w):=by
 obtain ⟨A,c,B,d,C,e,rfl,s1,s2,s3,a1,b1,b2,b3,b4,b5,b6⟩:=rep_sch h
 have HOB:=aI OB
 have hx0:=OB.v
 have hnk:=OB.nk;have hnl:=OB.nl;have hnr:=OB.nr
 obtain ⟨nk,hk⟩:=aX ((Sc.kinds x).length)
 obtain ⟨nl,hl⟩:=aX x.2.2.1.length
 obtain ⟨nr,hr⟩:=aX x.2.2.2.length
 have HNK:=aI hk;have HNL:=aI hl;have HNR:=aI hr
 rw [hk] at hnk;rw [hl] at hnl;rw [hr] at hnr
 obtain ⟨v,hv⟩:=aX x.1
 have HV:=aI hv
 rw [hv] at hx0
 have CH:=aI (λW=>around_any how 8 W h2.1 h2.2)
 rw [hz8] at CH
 obtain ⟨kk,hkk⟩:∃n:Nat,around at_ nk=n:=⟨(around at_ nk).toNat,by have:=around_nn at_ nk;omega⟩
 have CK:=aI (λW=>around_any at_ nk W h1.1 h1.2)
 rw [hkk] at CK
 have CB:=aI (λ(k:Int) W=>around_any by_ k W h3.1 h3.2)
 have CBQ:=aI (λ(q k:Int) (hq:1<=q) W=>around_any (by_.tdiv q) k W (tdiv_in by_ q h3.1 h3.2 hq).1 (tdiv_in by_ q h3.1 h3.2 hq).2)
 have HTQ:=aI (λ(n q:Int) (hn:inI n) (hq:1<=q)=>show wrap64 (n.tdiv q)=n.tdiv q from by have:=tdiv_in n q hn.1 hn.2 hq;unfold wrap64;omega)
 have HI1:=aI h1;have HI3:=aI h3
 have HBD:=aI (λ(n:Int) k (hk:1<=k)=>around_bd n k hk)
 have T:=aI ((((HR.start ((((held0 w [] (λ_ h=>by cases h)).add (keeps_sl C x.2.2.2) s3).add (keeps_sl B x.2.2.1) s2).add (keeps_sl A (Sc.kinds x)) s1)).new #[.int .i64 v,.slice A nk c,.slice B nl d,.slice C nr e] 27 rfl).new #[.int .i64 0,.slice none 0 0,.slice none 0 0,.slice none 0 0] 27 rfl).bswap)
 show Calls Tryz.prog 6 #[.agg #[.int .i64 x.1,.slice A (Sc.kinds x).length c,.slice B x.2.2.1.length d,.slice C x.2.2.2.length e],.int .i64 at_,.int .i64 how,.int .i64 by_] w _
 rw [hk,hl,hr,hv]
 clear h s1 s2 s3 a1 b1 b2 b3 b4 b5 b6 hk hl hr hv OB hz8 hkk h1 h2 h3
 go_enter Tryz.func6,Tryz.ntmps6
 go_upto_region 1 with fail
 have hN1:(w.alloc (.cells #[.int .i64 v,.slice A nk c,.slice B nl d,.slice C nr e] 27)).heap.size=w.heap.size+1:=by simp
 rw [hN1] at T
 clear hN1
 generalize (w.alloc (.cells #[.int .i64 v,.slice A nk c,.slice B nl d,.slice C nr e] 27)).alloc (.cells #[.int .i64 0,.slice none 0 0,.slice none 0 0,.slice none 0 0] 27)=W2 at T ⊢
 generalize w.heap.size+1=N1 at T ⊢
 generalize w.heap.size=N0 at T ⊢
 obtain ⟨M3,h3,-⟩:=T.out.take ((zf _ _).alloc (ag _) (.cells #[] 52)) (World.ownsRow_lit (base:=W2.heap.size) (size:=4) (e:=52) W2 #[] 0 (ag _) (by decide) rfl)
 obtain ⟨xsK,hrd,hfl⟩:=(h3.fact (.head _)).reads
 rw [HNK.out] at hrd
 have T3:=aI (h3.add (keeps_flat _ xsK) hfl)
 have HRD:=aI hrd;have HON:=aI hfl.one
 clear h3 hrd hfl T
 have q:=T3.out.box (.head _);have z1:=q.cell 1;(simp at z1);clear q
 obtain ⟨i0,hj,hz0,hz1,hz2⟩:=zq infoKnd
 go_upto_region 2 with (at_builtin;refine wpList_append_rowsB (by rfl) _ _ 23 (by rfl) 52 i0 _ 4 56 Tryz.underlying23 hj hz0 hz1 hz2 rfl (by decide) T3.out (by rfl) _ _ nk c xsK (by rfl) HRD.out HON.out (by unfold maxLen;omega) (by omega) ?_;intro v4 W4 MA h4 hob;simp only [zG,zA] at h4;clear z1;replace T3:=aI h4;clear h4 HRD HON;obtain ⟨A1,c1,rfl⟩:=T3.out.form (.head _);have HS1:=aI (some_of (T3.out.own _ (.head _)) (hob.imp id id));clear hob;have q:=T3.out.box (.head _);have z1:=q.cell 1;have f1:=q.frozen 1;(simp at z1);clear q)
 have h4:=T3.out.set0 1 (.slice A1 nk c1)
 (simp only [aB,aF,aG] at h4)
 have TA:=aI h4
 clear T3 h4 z1 f1 hj hz0 hz1 hz2
 generalize W4.setCell ⟨N0,1,none⟩ (.slice A1 nk c1)=WA at TA ⊢
 obtain ⟨M3,h3,-⟩:=TA.out.take ((zf _ _).alloc (ag _) (.cells #[] 57)) (World.ownsRow_lit (base:=WA.heap.size) (size:=3) (e:=57) WA #[] 0 (ag _) (by decide) rfl)
 obtain ⟨xsL,hrd,hfl⟩:=(h3.fact (.tail _ (.tail _ (.head _)))).reads
 rw [HNL.out] at hrd
 have T3:=aI (h3.add (keeps_flat _ xsL) hfl)
 have HRD:=aI hrd;have HON:=aI hfl.one
 clear h3 hrd hfl TA
 have q:=T3.out.box (.head _);have z2:=q.cell 2;(simp at z2);clear q
 obtain ⟨i0,hj,hz0,hz1,hz2⟩:=zq infoLif
 go_upto_region 3 with (at_builtin;refine wpList_append_rowsB (by rfl) _ _ 24 (by rfl) 57 i0 _ 3 64 Tryz.underlying24 hj hz0 hz1 hz2 rfl (by decide) T3.out (by rfl) _ _ nl d xsL (by rfl) HRD.out HON.out (by unfold maxLen;omega) (by omega) ?_;intro v4 W4 MB h4 hob;simp only [zG,zA] at h4;clear z2;replace T3:=aI h4;clear h4 HRD HON;obtain ⟨A2,c2,rfl⟩:=T3.out.form (.head _);have HS2:=aI (some_of (T3.out.own _ (.head _)) (hob.imp id id));clear hob;have q:=T3.out.box (.head _);have z2:=q.cell 2;have f2:=q.frozen 2;(simp at z2);clear q)
 have h4:=T3.out.set0 2 (.slice A2 nl c2)
 (simp only [aB,aF,aG] at h4)
 have TB:=aI h4
 clear T3 h4 z2 f2 hj hz0 hz1 hz2
 generalize W4.setCell ⟨N0,2,none⟩ (.slice A2 nl c2)=WB at TB ⊢
 obtain ⟨M3,h3,-⟩:=TB.out.take ((zf _ _).alloc (ag _) (.cells #[] 60)) (World.ownsRow_lit (base:=WB.heap.size) (size:=5) (e:=60) WB #[] 0 (ag _) (by decide) rfl)
 obtain ⟨xsR,hrd,hfl⟩:=(h3.fact (.tail _ (.tail _ (.tail _ (.tail _ (.head _)))))).reads
 rw [HNR.out] at hrd
 have T3:=aI (h3.add (keeps_flat _ xsR) hfl)
 have HRD:=aI hrd;have HON:=aI hfl.one
 clear h3 hrd hfl TB
 have q:=T3.out.box (.head _);have z3:=q.cell 3;(simp at z3);clear q
 obtain ⟨i0,hj,hz0,hz1,hz2⟩:=zq infoRul
 go_upto_region 4 with (at_builtin;refine wpList_append_rowsB (by rfl) _ _ 25 (by rfl) 60 i0 _ 5 72 Tryz.underlying25 hj hz0 hz1 hz2 rfl (by decide) T3.out (by rfl) _ _ nr e xsR (by rfl) HRD.out HON.out (by unfold maxLen;omega) (by omega) ?_;intro v4 W4 MC h4 hob;simp only [zG,zA] at h4;clear z3;replace T3:=aI h4;clear h4 HRD HON;obtain ⟨A3,c3,rfl⟩:=T3.out.form (.head _);have HS3:=aI (some_of (T3.out.own _ (.head _)) (hob.imp id id));clear hob;have q:=T3.out.box (.head _);have z3:=q.cell 3;have f3:=q.frozen 3;(simp at z3);clear q)
 have h4:=T3.out.set0 3 (.slice A3 nr c3)
 (simp only [aB,aF,aG] at h4)
 have TC:=aI h4
 clear T3 h4 z3 f3 hj hz0 hz1 hz2
 generalize W4.setCell ⟨N0,3,none⟩ (.slice A3 nr c3)=WC at TC ⊢
 have q:=TC.out.box (.head _);have z1:=q.cell 1;(simp at z1);clear q
 rcases hz with rfl | rfl
 .have q:=TC.out.box (.head _);have z2:=q.cell 2;(simp at z2);clear q
  by_cases hlt:0 < nl
  .have k1:(0:Int) < (nl:Int):=by omega
   have hra:=HBD.out by_ 6 (by omega)
   have CRa:=aI (CB.out 6)
   obtain ⟨rna,hre⟩:∃n:Nat,around by_ 6=n:=⟨(around by_ 6).toNat,by omega⟩
   rw [hre] at CRa hra
   have hra0:(0:Int)<=(rna:Int):=by omega
   have hra1:(rna:Int) < 6:=by omega
   clear hre hra
   have hrb:=HBD.out (by_.tdiv 6) 6 (by omega)
   have CRb:=aI (CBQ.out 6 6 (by omega))
   obtain ⟨rnb,hre⟩:∃n:Nat,around (by_.tdiv 6) 6=n:=⟨(around (by_.tdiv 6) 6).toNat,by omega⟩
   rw [hre] at CRb hrb
   have hrb0:(0:Int)<=(rnb:Int):=by omega
   have hrb1:(rnb:Int) < 6:=by omega
   clear hre hrb
   have e1:=HTQ.out by_ 6 HI3.out (by omega)
   obtain ⟨b6,e2⟩:=aX (by_.tdiv 6)
   have eq6:wrap64 (by_.tdiv 6)=b6:=e1.trans e2
   rw [e2] at CRb
   clear e1 e2
   go_upto_region 25 with (first | (go_at_call 23;(with_reducible refine aS (CK.out _) ?_)) | (go_at_call 23;(with_reducible refine aS (CH.out _) ?_)))
   clear z1
   obtain ⟨A3',c3',M1,e1,kR1,kR2,TQ,-,-⟩:=TC.out.freeze (l:=x.2.2.2) rfl HNR.out.symm (TC.out.fact (.head _)) (λ_ h=>by cases h)
   have TP:=TQ.rswap
   obtain ⟨A1',c1',M2,e2,kK1,kK2,TS,-,-⟩:=TP.freeze (l:=Sc.kinds x) rfl HNK.out.symm (TP.fact (.tail _ (.tail _ (.tail _ (.head _))))) (λ_ h=>by cases h)
   injection e1 with e11 e12 e13
   injection e2 with e21 e22 e23
   subst e11 e13 e21 e23
   clear e12 e22
   rw [HNR.out] at kR1;rw [HNK.out] at kK1
   obtain ⟨gL,rfl⟩:=HS2.out
   have HKR1:=aI kR1;have HKK1:=aI kK1
   clear TC TP TQ HS1 HS2 HS3 kR1 kK1
   have hlp:0 < x.2.2.1.length:=by rw [HNL.out];exact hlt
   obtain ⟨ul,hul,hxl⟩:=Flat.get (TS.fact (.tail _ (.tail _ (.tail _ (.head _))))) 0 hlp
   obtain ⟨As,cs,Bm,cm,rfl,ss,sm,-,kc1,kc2,kc3,kc4⟩:=rep_lif hul
   obtain ⟨lf,hlf⟩:=aX (x.2.2.1[0])
   rw [hlf] at hxl ss sm
   have HX2:=aI (show xsL[2]?=_ from hxl 2 _ rfl)
   have HLF:=aI hlf
   have HLM:=aI (show lf∈x.2.2.1 from hlf ▸ ze hlp)
   clear hul hxl hlf kc1 kc2 kc3 kc4
   have HLB:=aI (HOB.out.l lf HLM.out)
   obtain ⟨ns,hns⟩:=aX lf.2.2.length
   have HNS:=aI hns
   rw [hns] at HX2
   have hnsb:ns<=32+cb:=by rw [<-hns];have h1:=HLB.out.n;have h2:=HLB.out.m;omega
   clear hns
   obtain ⟨xsS,hrd,hfl⟩:=(sm).reads
   rw [HNS.out] at hrd
   have T5:=aI ((TS.add (keeps_sl Bm lf.2.2) sm).add (keeps_flat _ xsS) hfl)
   have HRD:=aI hrd;have HON:=aI hfl.one;have HLX:=aI (show xsS.length=ns*2 from by have:=hfl.len;rw [HNS.out] at this;exact this)
   clear TS hrd hfl ss sm
   obtain ⟨i0,hj,hz0,hz1,hz2⟩:=zq infoMv
   go_wp2_with fail
   letI:Grow:=nrGrow WC.heap.size 58 (ns*2) (mvV ((rna:Int) - 1) ((rnb:Int) - 1))
   apply zx (C:=λw'=>NR WC.heap.size 58 (ns*2) (mvV ((rna:Int) - 1) ((rnb:Int) - 1)) WC w') (n:=215) (m:=21) (l1:=[_,_,_,_,_,_,_,_,_,_,_,_,_,_,_,_,_,_,_,_,_]) (l2:=[_]);rfl;rfl;kernel_rfl;rfl;kernel_rfl;exact NR.below ⟨rfl,rfl,rfl,ag _,λ_ _=>rfl⟩;exact λu u' h hb=>h.trans hb
   (apply aHx;·(intro w' hC hf;clear hf hC;go_wp2_with (fail);apply aBx;simp only [zC];exact rfl));(try simp only [zn])
   (apply aHx;·(intro w' hC hf;have hbw:=NR.bel hC (ag _);have q:=(T5.out.below hbw).box (.head _);have z2:=q.cell 2;(simp at z2);clear q;clear hf hC;go_wp2_with (fail);apply aBx;simp only [zC];exact rfl));(try simp only [zn])
   apply zb (T:=λv w=>∃N,v=.slice (some ⟨N,0,none⟩) 0 0/\WC.heap.size<=N/\Blk w N 58 #[]) nilN_kept
   .intro w' hC hf;unfold RG.Gives;have hs:=aI (NR.size hC);clear hf hC
    go_wp2_with fail
    refine zd rfl (NR.below (by go_grown)) ?_;simp only [zC];exact ⟨_,rfl,hs.out,zj _ _ _⟩
   intro vn;(try simp only [zn])
   (apply aHx;·(intro w' hC hf;clear hf hC;go_wp2_with (fail);apply aBx;simp only [zC];exact rfl));(try simp only [zn])
   (apply aHx;·(intro w' hC hf;have hbw:=NR.bel hC (ag _);have q:=(T5.out.below hbw).box (.head _);have z2:=q.cell 2;(simp at z2);clear q;clear hf hC;go_wp2_with (fail);apply aBx;simp only [zC];exact rfl));(try simp only [zn])
   iterate 2 ((apply aHx;·(intro w' hC hf;clear hf hC;go_wp2_with (fail);apply aBx;simp only [zC];exact rfl));(try simp only [zn]))
   (apply aHx;·(intro w' hC hf;have hbw:=NR.bel hC (ag _);have y2:=(T5.out.below hbw).rcell (.head _) (by omega) HX2.out;clear hf hC;go_wp2_with (fail);apply aBx;simp only [zC];exact rfl));(try simp only [zn])
   apply zb (T:=RowN WC.heap.size 58 2 ns xsS) (rowN_keptN (λj u h1 h2=>by have:=(List.getElem?_eq_some_iff.1 h2).1;rw [HLX.out] at this;omega))
   .intro w' hC hf;unfold RG.Gives;obtain ⟨N,rfl,hN,hB⟩:=hf.1 rfl;clear hf
    refine wpList_append_fresh (B0:=WC.heap.size) (te:=58) (by rfl) _ _ 55 (by rfl) i0 _ 2 16 Tryz.underlying55 hj hz0 hz1 hz2 rfl (by decide) (nilN_row hN hB) ⟨N,rfl⟩ (by rfl) (A:=Bm) (m:=ns) (c:=cm) (by rfl) (HRD.out.below (NR.bel hC (ag _))) HON.out (NR.size hC) (by unfold maxLen;omega) (by omega) ?_
    intro v' w2 k1 k2
    refine zd rfl (NR.below k2) ?_;simp only [RG.valAt,aA];exact k1
   intro vr;(try simp only [zn])
   (apply aHx;·(intro w' hC hf;clear hf hC;go_wp2_with (fail);apply aBx;simp only [zC];exact rfl));(try simp only [zn])
   (apply aHx;·(intro w' hC hf;clear hf hC;go_wp2_with ((go_at_call 23;(with_reducible refine aS (CRa.out _) ?_)));apply aBx;simp only [zC];exact rfl));(try simp only [zn])
   iterate 3 ((apply aHx;·(intro w' hC hf;clear hf hC;go_wp2_with (fail);apply aBx;simp only [zC];exact rfl));(try simp only [zn]))
   (apply aHx;·(intro w' hC hf;clear hf hC;go_wp2_with ((go_at_call 23;(with_reducible refine aS (CRb.out _) ?_)));apply aBx;simp only [zC];exact rfl));(try simp only [zn])
   iterate 2 ((apply aHx;·(intro w' hC hf;clear hf hC;go_wp2_with (fail);apply aBx;simp only [zC];exact rfl));(try simp only [zn]))
   apply zb (T:=λv w=>∃N,v=.slice (some ⟨N,0,none⟩) 1 1/\WC.heap.size<=N/\∀j u,(mvV ((rna:Int) - 1) ((rnb:Int) - 1))[j]?=some u->w.cell? ⟨N,j,none⟩=some u) (sliN_kept (self_late rfl))
   .intro w' hC hf;unfold RG.Gives;have hs:=aI (NR.size hC);clear hf hC
    go_wp2_with fail
    refine zd rfl (NR.below (by go_grown)) ?_;simp only [zC];exact ⟨_,rfl,hs.out,λj u hu=>by rw [(zj _ _ _).cell j];simpa [mvV] using hu⟩
   intro vl;(try simp only [zn])
   apply zb (T:=RowN WC.heap.size 58 2 (ns+1) (xsS++(mvV ((rna:Int) - 1) ((rnb:Int) - 1)))) (rowN_keptN (λj u h1 h2=>by rw [zL (by rw [HLX.out];exact h1),HLX.out] at h2;exact h2))
   .intro w' hC hf;unfold RG.Gives;obtain ⟨N,rfl,hN,hB⟩:=hf.1 rfl;have hrow:=hf.2.1 rfl;clear hf
    obtain ⟨g2,cap2,cur2,rfl,hr2⟩:=hrow
    refine wpList_append_lateN (B0:=WC.heap.size) (te:=58) (n8:=ns*2) (us:=(mvV ((rna:Int) - 1) ((rnb:Int) - 1))) (by rfl) _ _ 55 (by rfl) i0 _ 2 16 Tryz.underlying55 hj hz0 hz1 hz2 rfl (by decide) (n:=ns) (xs:=xsS) ⟨g2,cap2,cur2,rfl,hr2⟩ (by rfl) HLX.out (by rfl) (reads_sli (m:=1) rfl (by first | (simp;done) | simp [mvV]) hB) (by decide) (mvV_one _ _) rfl (NR.size hC) (by unfold maxLen;omega) (by omega) ?_
    intro v' w2 k1 k2
    refine zd rfl k2 ?_;simp only [RG.valAt,aA];exact k1
   intro v211;(try simp only [zn])
   iterate 2 ((apply aHx;·(intro w' hC hf;clear hf hC;go_wp2_with (fail);apply aBx;simp only [zC];exact rfl));(try simp only [zn]))
   apply RG.wpT_done
   intro w6 hC hall
   have hro:=RowN.owns hall.1 (by rw [aK,HLX.out,Nat.add_mul];rfl)
   obtain ⟨M6,T6,-⟩:=T5.out.take (NR.bel hC (ag _)) hro
   clear hC hall hro
   obtain ⟨A6,c6,rfl⟩:=T6.form (.head _)
   obtain ⟨A8,c8,M8,he,hk1,hk2,T8,-,-⟩:=T6.freeze (l:=lf.2.2++[((rna:Int) - 1,(rnb:Int) - 1)]) rfl (by rw [aK,HNS.out];rfl) ((T6.fact (.head _)).append (Flat.single ⟨[_],_,rfl,⟨rfl,by unfold inI;omega⟩,⟨rfl,by unfold inI;omega⟩⟩)) (λ_ h=>by cases h)
   injection he with e1 e2 e3
   subst e1 e3
   have HNS1:=aI e2.symm
   rw [<-e2] at hk1
   clear T6 e2 T5 hj hz0 hz1 hz2 eq6
   have T3:=aI T8
   clear T8
   have y2:=T3.out.rcell (.head _) (by omega) HX2.out
   have g2:=T3.out.rfroz (.head _) (by omega) 2
   go_upto_region 31 with fail
   clear y2 g2
   have T4:=T3.out.setRow (.slice A6 (ns+1) c6) (k:=2) (by omega)
   clear T3
   generalize w6.setCell ⟨gL,2,none⟩ (.slice A6 (ns+1) c6)=W7 at T4 ⊢
   have HFL:=aI (show Flat M8 W7 (x.2.2.1.set 0 (lf.1,lf.2.1,lf.2.2++[((rna:Int) - 1,(rnb:Int) - 1)])) (xsL.set 2 (.slice A6 (ns+1) c6)) from Flat.setAt (T4.fact (.tail _ (.tail _ (.tail _ (.tail _ (.tail _ (.tail _ (.head _)))))))) 0 hlp 2 (by decide) (λus h=>by rw [HLF.out] at h;exact lif_set2 HNS1.out hk1 hk2 (T4.fact (.head _)) h))
   obtain ⟨A9,c9,M9,he,hl1,hl2,T9,-,-⟩:=T4.freeze (l:=x.2.2.1.set 0 (lf.1,lf.2.1,lf.2.2++[((rna:Int) - 1,(rnb:Int) - 1)])) rfl (by rw [List.length_set,HNL.out]) HFL.out (λ_ h=>by cases h)
   injection he with e1 e2 e3
   subst e1 e3
   rw [<-e2] at hl1
   clear T4 e2
   have T2:=aI T9
   clear T9
   have q:=T2.out.box (.head _);obtain ⟨q0,q1,q2,q3⟩:=aN4 q.cell;simp at q0 q1 q2 q3;clear q
   have p:=T2.out.box (.tail _ (.head _));obtain ⟨f0,f1,f2,f3⟩:=aN4 p.frozen;obtain ⟨p0,p1,p2,p3⟩:=aN4 p.cell;simp at p0 p1 p2 p3;clear p
   go_cut [] from 9 (λw'=>SPC cb w N1 w')
   case first =>
    go_wp2_with fail
    go_meet
    case rel=>exact spc_mk T2.out (sch_rep (by unfold inI;omega) HNK.out (by rw [List.length_set];exact HNL.out) HNR.out HKK1.out kK2 hl1 hl2 HKR1.out kR2 (T2.out.fact (.tail _ (.tail _ (.tail _ (.tail _ (.head _)))))) (T2.out.fact (.head _)) (T2.out.fact (.tail _ (.tail _ (.tail _ (.tail _ (.tail _ (.head _)))))))) (HOB.out.setL HV.out ⟨HLB.out.nm,by have:=HLB.out.n;show lf.2.1.length<=_;omega,HLB.out.s,by show (lf.2.2++[((rna:Int) - 1,(rnb:Int) - 1)]).length<=_;rw [HNS1.out];omega,λm hm=>by
      rcases zE.1 hm with hm | hm
      .exact HLB.out.v m hm
      .rw [zg.1 hm];show -20<=(rna:Int) - 1/\(rna:Int) - 1<=20/\-20<=(rnb:Int) - 1/\(rnb:Int) - 1<=20;omega⟩)
   case rest =>
    obtain ⟨y9,v9,A9,nk9,c9,B9,nl9,d9,C9,nr9,e9,q,hr9,hz9,hb9⟩:=hcut
    clear q0 q1 q2 q3
    obtain ⟨q0,q1,q2,q3⟩:=aN4 q.cell;simp at q0 q1 q2 q3;clear q
    rename_i hK
    apply hK
    refine wp_ret ?_
    (try simp only [Exit.inBlock,Exit.then])
    refine zi (v:=.agg #[.int .i64 v9,.slice A9 nk9 c9,.slice B9 nl9 d9,.slice C9 nr9 e9]) ?_ rfl ?_
    .simp [results,Tryz.results6,go_sem,q0,q1,q2,q3]
     try rfl
    .exact ⟨y9,_,rfl,hr9,hz9,hb9⟩
  .have k1:¬((0:Int) < (nl:Int)):=by omega
   go_upto_region 31 with (first | (go_at_call 23;(with_reducible refine aS (CK.out _) ?_)) | (go_at_call 23;(with_reducible refine aS (CH.out _) ?_)))
   clear z1
   have q:=TC.out.box (.head _);obtain ⟨q0,q1,q2,q3⟩:=aN4 q.cell;simp at q0 q1 q2 q3;clear q
   have p:=TC.out.box (.tail _ (.head _));obtain ⟨f0,f1,f2,f3⟩:=aN4 p.frozen;obtain ⟨p0,p1,p2,p3⟩:=aN4 p.cell;simp at p0 p1 p2 p3;clear p
   go_cut [] from 9 (λw'=>SPC cb w N1 w')
   case first =>
    go_wp2_with fail
    go_meet
    case rel=>exact spo_end TC.out (TC.out.fact (.head _)) (TC.out.fact (.tail _ (.head _))) (TC.out.fact (.tail _ (.tail _ (.head _)))) (HNR.out) (HNL.out) (HNK.out) (by unfold inI;omega) (HOB.out.ver (by omega))
   case rest =>
    obtain ⟨y9,v9,A9,nk9,c9,B9,nl9,d9,C9,nr9,e9,q,hr9,hz9,hb9⟩:=hcut
    clear q0 q1 q2 q3
    obtain ⟨q0,q1,q2,q3⟩:=aN4 q.cell;simp at q0 q1 q2 q3;clear q
    rename_i hK
    apply hK
    refine wp_ret ?_
    (try simp only [Exit.inBlock,Exit.then])
    refine zi (v:=.agg #[.int .i64 v9,.slice A9 nk9 c9,.slice B9 nl9 d9,.slice C9 nr9 e9]) ?_ rfl ?_
    .simp [results,Tryz.results6,go_sem,q0,q1,q2,q3]
     try rfl
    .exact ⟨y9,_,rfl,hr9,hz9,hb9⟩
 .have hra:=HBD.out by_ 4 (by omega)
  have CRa:=aI (CB.out 4)
  obtain ⟨rna,hre⟩:∃n:Nat,around by_ 4=n:=⟨(around by_ 4).toNat,by omega⟩
  rw [hre] at CRa hra
  have hra0:(0:Int)<=(rna:Int):=by omega
  have hra1:(rna:Int) < 4:=by omega
  clear hre hra
  have hrb:=HBD.out (by_.tdiv 4) 5 (by omega)
  have CRb:=aI (CBQ.out 4 5 (by omega))
  obtain ⟨rnb,hre⟩:∃n:Nat,around (by_.tdiv 4) 5=n:=⟨(around (by_.tdiv 4) 5).toNat,by omega⟩
  rw [hre] at CRb hrb
  have hrb0:(0:Int)<=(rnb:Int):=by omega
  have hrb1:(rnb:Int) < 5:=by omega
  clear hre hrb
  have e1:=HTQ.out by_ 4 HI3.out (by omega)
  obtain ⟨b4,e2⟩:=aX (by_.tdiv 4)
  have eq4:wrap64 (by_.tdiv 4)=b4:=e1.trans e2
  rw [e2] at CRb
  clear e1 e2
  have hrc:=HBD.out (by_.tdiv 20) 5 (by omega)
  have CRc:=aI (CBQ.out 20 5 (by omega))
  obtain ⟨rnc,hre⟩:∃n:Nat,around (by_.tdiv 20) 5=n:=⟨(around (by_.tdiv 20) 5).toNat,by omega⟩
  rw [hre] at CRc hrc
  have hrc0:(0:Int)<=(rnc:Int):=by omega
  have hrc1:(rnc:Int) < 5:=by omega
  clear hre hrc
  have e1:=HTQ.out by_ 20 HI3.out (by omega)
  obtain ⟨b20,e2⟩:=aX (by_.tdiv 20)
  have eq20:wrap64 (by_.tdiv 20)=b20:=e1.trans e2
  rw [e2] at CRc
  clear e1 e2
  have hrd:=HBD.out by_ 50 (by omega)
  have CRd:=aI (CB.out 50)
  obtain ⟨rnd,hre⟩:∃n:Nat,around by_ 50=n:=⟨(around by_ 50).toNat,by omega⟩
  rw [hre] at CRd hrd
  have hrd0:(0:Int)<=(rnd:Int):=by omega
  have hrd1:(rnd:Int) < 50:=by omega
  clear hre hrd
  obtain ⟨ua,hua,hba⟩:=soKd_at rna (by omega)
  have HUa:=aI hua
  clear hua
  obtain ⟨ub,hub,hbb⟩:=soA_at rnb (by omega)
  have HUb:=aI hub
  clear hub
  obtain ⟨uc,huc,hbc⟩:=soB_at rnc (by omega)
  have HUc:=aI huc
  clear huc
  go_upto_region 27 with (first | (go_at_call 23;(with_reducible refine aS (CK.out _) ?_)) | (go_at_call 23;(with_reducible refine aS (CH.out _) ?_)))
  clear z1
  have TP:=TC.out.perm (List.perm_append_comm (l₁:=[_]) (l₂:=[_,_]))
  obtain ⟨A2',c2',M1,e1,kL1,kL2,TQ,-,-⟩:=TP.freeze (l:=x.2.2.1) rfl HNL.out.symm (TP.fact (.tail _ (.head _))) (λ_ h=>by cases h)
  obtain ⟨A1',c1',M2,e2,kK1,kK2,TS,-,-⟩:=TQ.freeze (l:=Sc.kinds x) rfl HNK.out.symm (TQ.fact (.tail _ (.tail _ (.tail _ (.head _))))) (λ_ h=>by cases h)
  injection e1 with e11 e12 e13
  injection e2 with e21 e22 e23
  subst e11 e13 e21 e23
  clear e12 e22
  rw [HNL.out] at kL1;rw [HNK.out] at kK1
  obtain ⟨gR,rfl⟩:=HS3.out
  have T5:=aI TS.row
  have HKL1:=aI kL1;have HKK1:=aI kK1
  clear TC TP TQ TS HS1 HS2 HS3 kL1 kK1
  have HLX:=aI T5.out.own.1
  have HGL:=aI (T5.out.h.mb _ (T5.out.ok gR rfl).1)
  obtain ⟨i0,hj,hz0,hz1,hz2⟩:=zq infoRul
  go_wp2_with fail
  letI:Grow:=earlyGrow gR 60 (nr*5) (ruleV ua ub uc ((rnd:Int) - 20))
  apply zx (C:=λw'=>EG gR 60 (nr*5) (ruleV ua ub uc ((rnd:Int) - 20)) WC w') (n:=215) (m:=26) (l1:=[_,_,_,_,_,_,_,_,_,_,_,_,_,_,_,_,_,_,_,_,_,_,_,_,_,_]) (l2:=[_]);rfl;rfl;kernel_rfl;rfl;kernel_rfl;exact EG.below ⟨rfl,rfl,rfl,ag _,λ_ _=>rfl⟩;exact λu u' h hb=>h.trans hb
  (apply aHx;·(intro w' hC hf;clear hf hC;go_wp2_with (fail);apply aBx;simp only [zC];exact rfl));(try simp only [zn])
  (apply aHx;·(intro w' hC hf;have q:=(T5.out.h.early T5.out.ok rfl hC).box (.head _);have z3:=q.cell 3;(simp at z3);clear q;clear hf hC;go_wp2_with (fail);apply aBx;simp only [zC];exact rfl));(try simp only [zn])
  apply zb (T:=λv w=>∃N,v=.slice (some ⟨N,0,none⟩) 4 4/\WC.heap.size<=N/\Blk w N 9 #[.string ⟨#[112,101,114,115,111,110]⟩,.string ⟨#[111,114,100,101,114]⟩,.string ⟨#[110,111,110,101]⟩,.string ⟨#[]⟩]) (blkN_kept HGL.out)
  .intro w' hC hf;unfold RG.Gives;have hs:=aI (EG.size hC);clear hf hC
   go_wp2_with fail
   refine zd rfl (EG.below (by go_grown)) ?_;simp only [zC];exact ⟨_,rfl,hs.out,zj _ _ _⟩
  intro vb1;(try simp only [zn])
  (apply aHx;·(intro w' hC hf;clear hf hC;go_wp2_with (fail);apply aBx;simp only [zC];exact rfl));(try simp only [zn])
  (apply aHx;·(intro w' hC hf;clear hf hC;go_wp2_with ((go_at_call 23;(with_reducible refine aS (CRa.out _) ?_)));apply aBx;simp only [zC];exact rfl));(try simp only [zn])
  apply zb (T:=λv w=>∃N,v=.pointer (some ⟨N,rna,none⟩)/\WC.heap.size<=N/\w.cell? ⟨N,rna,none⟩=some (.string ua)) (ptrN_keptE HGL.out)
  .intro w' hC hf;unfold RG.Gives;obtain ⟨N,rfl,hN,hB⟩:=hf.1 rfl
   have qx:w'.cell? ⟨N,rna,none⟩=some (.string ua):=(hB.cell rna).trans HUa.out
   clear hf hC hB;go_wp2_with fail
   refine zd rfl (Grow.refl _) ?_;simp only [zC];exact ⟨N,by first | rfl | simp [Addr.add],hN,qx⟩
  intro vp1;(try simp only [zn])
  (apply aHx;·(intro w' hC hf;obtain ⟨pa,rfl,_,hpa⟩:=hf.1 rfl;clear hf hC;go_wp2_with (fail);apply aBx;simp only [zC];exact rfl));(try simp only [zn])
  apply zb (T:=λv w=>∃N,v=.slice (some ⟨N,0,none⟩) 5 5/\WC.heap.size<=N/\Blk w N 9 #[.string ⟨#[115,105,122,101]⟩,.string ⟨#[108,111,119]⟩,.string ⟨#[]⟩,.string ⟨#[105,100]⟩,.string ⟨#[98,111,114,110]⟩]) (blkN_kept HGL.out)
  .intro w' hC hf;unfold RG.Gives;have hs:=aI (EG.size hC);clear hf hC
   go_wp2_with fail
   refine zd rfl (EG.below (by go_grown)) ?_;simp only [zC];exact ⟨_,rfl,hs.out,zj _ _ _⟩
  intro vb2;(try simp only [zn])
  iterate 2 ((apply aHx;·(intro w' hC hf;clear hf hC;go_wp2_with (fail);apply aBx;simp only [zC];exact rfl));(try simp only [zn]))
  (apply aHx;·(intro w' hC hf;clear hf hC;go_wp2_with ((go_at_call 23;(with_reducible refine aS (CRb.out _) ?_)));apply aBx;simp only [zC];exact rfl));(try simp only [zn])
  apply zb (T:=λv w=>∃N,v=.pointer (some ⟨N,rnb,none⟩)/\WC.heap.size<=N/\w.cell? ⟨N,rnb,none⟩=some (.string ub)) (ptrN_keptE HGL.out)
  .intro w' hC hf;unfold RG.Gives;obtain ⟨N,rfl,hN,hB⟩:=hf.1 rfl
   have qx:w'.cell? ⟨N,rnb,none⟩=some (.string ub):=(hB.cell rnb).trans HUb.out
   clear hf hC hB;go_wp2_with fail
   refine zd rfl (Grow.refl _) ?_;simp only [zC];exact ⟨N,by first | rfl | simp [Addr.add],hN,qx⟩
  intro vp2;(try simp only [zn])
  (apply aHx;·(intro w' hC hf;obtain ⟨pa,rfl,_,hpa⟩:=hf.1 rfl;clear hf hC;go_wp2_with (fail);apply aBx;simp only [zC];exact rfl));(try simp only [zn])
  apply zb (T:=λv w=>∃N,v=.slice (some ⟨N,0,none⟩) 5 5/\WC.heap.size<=N/\Blk w N 9 #[.string ⟨#[104,105,103,104]⟩,.string ⟨#[]⟩,.string ⟨#[115,105,122,101]⟩,.string ⟨#[108,101,102,116]⟩,.string ⟨#[116,97,103]⟩]) (blkN_kept HGL.out)
  .intro w' hC hf;unfold RG.Gives;have hs:=aI (EG.size hC);clear hf hC
   go_wp2_with fail
   refine zd rfl (EG.below (by go_grown)) ?_;simp only [zC];exact ⟨_,rfl,hs.out,zj _ _ _⟩
  intro vb3;(try simp only [zn])
  iterate 2 ((apply aHx;·(intro w' hC hf;clear hf hC;go_wp2_with (fail);apply aBx;simp only [zC];exact rfl));(try simp only [zn]))
  (apply aHx;·(intro w' hC hf;clear hf hC;go_wp2_with ((go_at_call 23;(with_reducible refine aS (CRc.out _) ?_)));apply aBx;simp only [zC];exact rfl));(try simp only [zn])
  apply zb (T:=λv w=>∃N,v=.pointer (some ⟨N,rnc,none⟩)/\WC.heap.size<=N/\w.cell? ⟨N,rnc,none⟩=some (.string uc)) (ptrN_keptE HGL.out)
  .intro w' hC hf;unfold RG.Gives;obtain ⟨N,rfl,hN,hB⟩:=hf.1 rfl
   have qx:w'.cell? ⟨N,rnc,none⟩=some (.string uc):=(hB.cell rnc).trans HUc.out
   clear hf hC hB;go_wp2_with fail
   refine zd rfl (Grow.refl _) ?_;simp only [zC];exact ⟨N,by first | rfl | simp [Addr.add],hN,qx⟩
  intro vp3;(try simp only [zn])
  (apply aHx;·(intro w' hC hf;obtain ⟨pa,rfl,_,hpa⟩:=hf.1 rfl;clear hf hC;go_wp2_with (fail);apply aBx;simp only [zC];exact rfl));(try simp only [zn])
  (apply aHx;·(intro w' hC hf;clear hf hC;go_wp2_with (fail);apply aBx;simp only [zC];exact rfl));(try simp only [zn])
  (apply aHx;·(intro w' hC hf;clear hf hC;go_wp2_with ((go_at_call 23;(with_reducible refine aS (CRd.out _) ?_)));apply aBx;simp only [zC];exact rfl));(try simp only [zn])
  iterate 2 ((apply aHx;·(intro w' hC hf;clear hf hC;go_wp2_with (fail);apply aBx;simp only [zC];exact rfl));(try simp only [zn]))
  apply zb (T:=λv w=>∃N,v=.slice (some ⟨N,0,none⟩) 1 1/\WC.heap.size<=N/\Blk w N 60 #[.string ⟨#[102,117,114,116,104,101,114]⟩,.string ua,.string ub,.string uc,.int .i64 ((rnd:Int) - 20)]) (blkN_kept HGL.out)
  .intro w' hC hf;unfold RG.Gives;have hs:=aI (EG.size hC);clear hf hC
   go_wp2_with fail
   refine zd rfl (EG.below (by go_grown)) ?_;simp only [zC];exact ⟨_,rfl,hs.out,zj _ _ _⟩
  intro vb4;(try simp only [zn])
  apply zb (T:=RowE WC.heap.size gR 60 5 (nr+1) (xsR++(ruleV ua ub uc ((rnd:Int) - 20)))) (rowE_kept (λj u h1 h2=>by rw [zL (by rw [HLX.out];exact h1),HLX.out] at h2;exact h2))
  .intro w' hC hf;unfold RG.Gives;obtain ⟨N,rfl,hN,hB⟩:=hf.1 rfl;clear hf
   obtain ⟨cur3,q1,q2,q3,q4,q5⟩:=T5.out.rowE5 hC
   refine wpList_append_early (g:=gR) (te:=60) (n8:=nr*5) (us:=(ruleV ua ub uc ((rnd:Int) - 20))) (B0:=WC.heap.size) (cap:=c3) (n:=nr) (cur:=cur3) (xs:=xsR) (by rfl) _ _ 25 (by rfl) i0 _ 5 72 Tryz.underlying25 hj hz0 hz1 hz2 rfl (by decide) (by rfl) q1 q2 q3 q4 q5 HLX.out (by rfl) (reads_blk hB rfl) (by decide) (ruleV_one _ _ _ _) rfl (EG.size hC) (by unfold maxLen;omega) (by omega) ?_
   intro v' w2 k1 k2
   refine zd rfl k2 ?_;simp only [RG.valAt,aA];exact k1
  intro v188;(try simp only [zn])
  (apply aHx;·(intro w' hC hf;clear hf hC;go_wp2_with (fail);apply aBx;simp only [zC];exact rfl));(try simp only [zn])
  apply RG.wpT_done
  intro w6 hC hall
  obtain ⟨M6,hT6⟩:=HRow.early T5.out rfl hC hall.1 (by rw [aK,HLX.out,Nat.add_mul];rfl)
  clear hC hall
  obtain ⟨A6,c6,rfl⟩:=zP hT6.own
  have T6:=aI hT6.hr
  clear hT6 hj hz0 hz1 hz2 eq4 eq20 T5
  have q:=T6.out.box (.head _);have z3:=q.cell 3;have f3:=q.frozen 3;(simp at z3);clear q
  go_upto_region 31 with fail
  have h4:=T6.out.set0 3 (.slice A6 (nr+1) c6)
  (simp only [aB,aF,aG] at h4)
  clear T6 z3 f3
  generalize w6.setCell ⟨N0,3,none⟩ (.slice A6 (nr+1) c6)=W7 at h4 ⊢
  obtain ⟨A8,c8,M8,he,hk1,hk2,T8,-,-⟩:=h4.freeze (l:=x.2.2.2++[(⟨#[102,117,114,116,104,101,114]⟩,ua,ub,uc,(rnd:Int) - 20)]) rfl (by rw [aK,HNR.out];rfl) ((h4.fact (.tail _ (.tail _ (.head _)))).append (Flat.single (rul_rep (by decide) (by omega) (by omega) (by omega) (by unfold inI;omega)))) (λ_ h=>by cases h)
  injection he with e1 e2 e3
  subst e1 e3
  have HNR1:=aI e2.symm
  rw [<-e2] at hk1
  clear h4 e2
  have T2:=aI T8
  clear T8
  have q:=T2.out.box (.head _);obtain ⟨q0,q1,q2,q3⟩:=aN4 q.cell;simp at q0 q1 q2 q3;clear q
  have p:=T2.out.box (.tail _ (.head _));obtain ⟨f0,f1,f2,f3⟩:=aN4 p.frozen;obtain ⟨p0,p1,p2,p3⟩:=aN4 p.cell;simp at p0 p1 p2 p3;clear p
  go_cut [] from 9 (λw'=>SPC cb w N1 w')
  case first =>
   go_wp2_with fail
   go_meet
   case rel=>exact spc_mk T2.out (sch_rep (by unfold inI;omega) HNK.out HNL.out HNR1.out HKK1.out kK2 HKL1.out kL2 hk1 hk2 (T2.out.fact (.tail _ (.head _))) (T2.out.fact (.tail _ (.tail _ (.head _)))) (T2.out.fact (.head _))) (HOB.out.addR HV.out ⟨by show (⟨#[102,117,114,116,104,101,114]⟩:ByteArray).size<=16;decide,hba,hbb,hbc,by show -1100000<=(rnd:Int) - 20/\(rnd:Int) - 20<=1100000;omega⟩)
  case rest =>
   obtain ⟨y9,v9,A9,nk9,c9,B9,nl9,d9,C9,nr9,e9,q,hr9,hz9,hb9⟩:=hcut
   clear q0 q1 q2 q3
   obtain ⟨q0,q1,q2,q3⟩:=aN4 q.cell;simp at q0 q1 q2 q3;clear q
   rename_i hK
   apply hK
   refine wp_ret ?_
   (try simp only [Exit.inBlock,Exit.then])
   refine zi (v:=.agg #[.int .i64 v9,.slice A9 nk9 c9,.slice B9 nl9 d9,.slice C9 nr9 e9]) ?_ rfl ?_
   .simp [results,Tryz.results6,go_sem,q0,q1,q2,q3]
    try rfl
   .exact ⟨y9,_,rfl,hr9,hz9,hb9⟩
theorem spoilt_2 {cb:Nat} (hcb:cb<=1) (x:Sch) (us:List Value) (w:World) (h:Mem.rep [] w x us) (OB:Sx.WB cb x) (at_ how by_:Int) (h1:inI at_) (h2:inI how) (h3:inI by_) (z:Int) (hz:z=6∨z=7) (hz8:around how 8=z):Calls Tryz.prog 6 #[.agg us.toArray,.int .i64 at_,.int .i64 how,.int .i64 by_] w (SpP cb w):=by
 obtain ⟨A,c,B,d,C,e,rfl,s1,s2,s3,a1,b1,b2,b3,b4,b5,b6⟩:=rep_sch h
 have HOB:=aI OB
 have hx0:=OB.v
 have hnk:=OB.nk;have hnl:=OB.nl;have hnr:=OB.nr
 obtain ⟨nk,hk⟩:=aX ((Sc.kinds x).length)
 obtain ⟨nl,hl⟩:=aX x.2.2.1.length
 obtain ⟨nr,hr⟩:=aX x.2.2.2.length
 have HNK:=aI hk;have HNL:=aI hl;have HNR:=aI hr
 rw [hk] at hnk;rw [hl] at hnl;rw [hr] at hnr
 obtain ⟨v,hv⟩:=aX x.1
 have HV:=aI hv
 rw [hv] at hx0
 have CH:=aI (λW=>around_any how 8 W h2.1 h2.2)
 rw [hz8] at CH
 obtain ⟨kk,hkk⟩:∃n:Nat,around at_ nk=n:=⟨(around at_ nk).toNat,by have:=around_nn at_ nk;omega⟩
 have CK:=aI (λW=>around_any at_ nk W h1.1 h1.2)
 rw [hkk] at CK
 have CB:=aI (λ(k:Int) W=>around_any by_ k W h3.1 h3.2)
 have CA3:=aI (λ(k:Int) W=>around_any (at_.tdiv 3) k W (tdiv_in at_ 3 h1.1 h1.2 (by omega)).1 (tdiv_in at_ 3 h1.1 h1.2 (by omega)).2)
 have HTQ:=aI (λ(n q:Int) (hn:inI n) (hq:1<=q)=>show wrap64 (n.tdiv q)=n.tdiv q from by have:=tdiv_in n q hn.1 hn.2 hq;unfold wrap64;omega)
 have HI1:=aI h1;have HI2:=aI h2;have HI3:=aI h3
 have HBD:=aI (λ(n:Int) k (hk:1<=k)=>around_bd n k hk)
 have T:=aI ((((HR.start ((((held0 w [] (λ_ h=>by cases h)).add (keeps_sl C x.2.2.2) s3).add (keeps_sl B x.2.2.1) s2).add (keeps_sl A (Sc.kinds x)) s1)).new #[.int .i64 v,.slice A nk c,.slice B nl d,.slice C nr e] 27 rfl).new #[.int .i64 0,.slice none 0 0,.slice none 0 0,.slice none 0 0] 27 rfl).bswap)
 show Calls Tryz.prog 6 #[.agg #[.int .i64 x.1,.slice A (Sc.kinds x).length c,.slice B x.2.2.1.length d,.slice C x.2.2.2.length e],.int .i64 at_,.int .i64 how,.int .i64 by_] w _
 rw [hk,hl,hr,hv]
 clear h s1 s2 s3 a1 b1 b2 b3 b4 b5 b6 hk hl hr hv OB hz8 hkk h1 h2 h3
 go_enter Tryz.func6,Tryz.ntmps6
 go_upto_region 1 with fail
 have hN1:(w.alloc (.cells #[.int .i64 v,.slice A nk c,.slice B nl d,.slice C nr e] 27)).heap.size=w.heap.size+1:=by simp
 rw [hN1] at T
 clear hN1
 generalize (w.alloc (.cells #[.int .i64 v,.slice A nk c,.slice B nl d,.slice C nr e] 27)).alloc (.cells #[.int .i64 0,.slice none 0 0,.slice none 0 0,.slice none 0 0] 27)=W2 at T ⊢
 generalize w.heap.size+1=N1 at T ⊢
 generalize w.heap.size=N0 at T ⊢
 obtain ⟨M3,h3,-⟩:=T.out.take ((zf _ _).alloc (ag _) (.cells #[] 52)) (World.ownsRow_lit (base:=W2.heap.size) (size:=4) (e:=52) W2 #[] 0 (ag _) (by decide) rfl)
 obtain ⟨xsK,hrd,hfl⟩:=(h3.fact (.head _)).reads
 rw [HNK.out] at hrd
 have T3:=aI (h3.add (keeps_flat _ xsK) hfl)
 have HRD:=aI hrd;have HON:=aI hfl.one
 clear h3 hrd hfl T
 have q:=T3.out.box (.head _);have z1:=q.cell 1;(simp at z1);clear q
 obtain ⟨i0,hj,hz0,hz1,hz2⟩:=zq infoKnd
 go_upto_region 2 with (at_builtin;refine wpList_append_rowsB (by rfl) _ _ 23 (by rfl) 52 i0 _ 4 56 Tryz.underlying23 hj hz0 hz1 hz2 rfl (by decide) T3.out (by rfl) _ _ nk c xsK (by rfl) HRD.out HON.out (by unfold maxLen;omega) (by omega) ?_;intro v4 W4 MA h4 hob;simp only [zG,zA] at h4;clear z1;replace T3:=aI h4;clear h4 HRD HON;obtain ⟨A1,c1,rfl⟩:=T3.out.form (.head _);have HS1:=aI (some_of (T3.out.own _ (.head _)) (hob.imp id id));clear hob;have q:=T3.out.box (.head _);have z1:=q.cell 1;have f1:=q.frozen 1;(simp at z1);clear q)
 have h4:=T3.out.set0 1 (.slice A1 nk c1)
 (simp only [aB,aF,aG] at h4)
 have TA:=aI h4
 clear T3 h4 z1 f1 hj hz0 hz1 hz2
 generalize W4.setCell ⟨N0,1,none⟩ (.slice A1 nk c1)=WA at TA ⊢
 obtain ⟨M3,h3,-⟩:=TA.out.take ((zf _ _).alloc (ag _) (.cells #[] 57)) (World.ownsRow_lit (base:=WA.heap.size) (size:=3) (e:=57) WA #[] 0 (ag _) (by decide) rfl)
 obtain ⟨xsL,hrd,hfl⟩:=(h3.fact (.tail _ (.tail _ (.head _)))).reads
 rw [HNL.out] at hrd
 have T3:=aI (h3.add (keeps_flat _ xsL) hfl)
 have HRD:=aI hrd;have HON:=aI hfl.one
 clear h3 hrd hfl TA
 have q:=T3.out.box (.head _);have z2:=q.cell 2;(simp at z2);clear q
 obtain ⟨i0,hj,hz0,hz1,hz2⟩:=zq infoLif
 go_upto_region 3 with (at_builtin;refine wpList_append_rowsB (by rfl) _ _ 24 (by rfl) 57 i0 _ 3 64 Tryz.underlying24 hj hz0 hz1 hz2 rfl (by decide) T3.out (by rfl) _ _ nl d xsL (by rfl) HRD.out HON.out (by unfold maxLen;omega) (by omega) ?_;intro v4 W4 MB h4 hob;simp only [zG,zA] at h4;clear z2;replace T3:=aI h4;clear h4 HRD HON;obtain ⟨A2,c2,rfl⟩:=T3.out.form (.head _);have HS2:=aI (some_of (T3.out.own _ (.head _)) (hob.imp id id));clear hob;have q:=T3.out.box (.head _);have z2:=q.cell 2;have f2:=q.frozen 2;(simp at z2);clear q)
 have h4:=T3.out.set0 2 (.slice A2 nl c2)
 (simp only [aB,aF,aG] at h4)
 have TB:=aI h4
 clear T3 h4 z2 f2 hj hz0 hz1 hz2
 generalize W4.setCell ⟨N0,2,none⟩ (.slice A2 nl c2)=WB at TB ⊢
 obtain ⟨M3,h3,-⟩:=TB.out.take ((zf _ _).alloc (ag _) (.cells #[] 60)) (World.ownsRow_lit (base:=WB.heap.size) (size:=5) (e:=60) WB #[] 0 (ag _) (by decide) rfl)
 obtain ⟨xsR,hrd,hfl⟩:=(h3.fact (.tail _ (.tail _ (.tail _ (.tail _ (.head _)))))).reads
 rw [HNR.out] at hrd
 have T3:=aI (h3.add (keeps_flat _ xsR) hfl)
 have HRD:=aI hrd;have HON:=aI hfl.one
 clear h3 hrd hfl TB
 have q:=T3.out.box (.head _);have z3:=q.cell 3;(simp at z3);clear q
 obtain ⟨i0,hj,hz0,hz1,hz2⟩:=zq infoRul
 go_upto_region 4 with (at_builtin;refine wpList_append_rowsB (by rfl) _ _ 25 (by rfl) 60 i0 _ 5 72 Tryz.underlying25 hj hz0 hz1 hz2 rfl (by decide) T3.out (by rfl) _ _ nr e xsR (by rfl) HRD.out HON.out (by unfold maxLen;omega) (by omega) ?_;intro v4 W4 MC h4 hob;simp only [zG,zA] at h4;clear z3;replace T3:=aI h4;clear h4 HRD HON;obtain ⟨A3,c3,rfl⟩:=T3.out.form (.head _);have HS3:=aI (some_of (T3.out.own _ (.head _)) (hob.imp id id));clear hob;have q:=T3.out.box (.head _);have z3:=q.cell 3;have f3:=q.frozen 3;(simp at z3);clear q)
 have h4:=T3.out.set0 3 (.slice A3 nr c3)
 (simp only [aB,aF,aG] at h4)
 have TC:=aI h4
 clear T3 h4 z3 f3 hj hz0 hz1 hz2
 generalize W4.setCell ⟨N0,3,none⟩ (.slice A3 nr c3)=WC at TC ⊢
 have q:=TC.out.box (.head _);have z1:=q.cell 1;(simp at z1);clear q
 rcases hz with rfl | rfl
 .have q:=TC.out.box (.head _);have z2:=q.cell 2;(simp at z2);clear q
  by_cases hlt:0 < nl
  .have k1:(0:Int) < (nl:Int):=by omega
   have hra:=HBD.out by_ 3 (by omega)
   have CRa:=aI (CB.out 3)
   obtain ⟨rna,hre⟩:∃n:Nat,around by_ 3=n:=⟨(around by_ 3).toNat,by omega⟩
   rw [hre] at CRa hra
   have hra0:(0:Int)<=(rna:Int):=by omega
   have hra1:(rna:Int) < 3:=by omega
   clear hre hra
   obtain ⟨ua,hua,hba⟩:=soS_at rna (by omega)
   have HUa:=aI hua
   clear hua
   go_upto_region 30 with (first | (go_at_call 23;(with_reducible refine aS (CK.out _) ?_)) | (go_at_call 23;(with_reducible refine aS (CH.out _) ?_)))
   clear z1
   obtain ⟨A3',c3',M1,e1,kR1,kR2,TQ,-,-⟩:=TC.out.freeze (l:=x.2.2.2) rfl HNR.out.symm (TC.out.fact (.head _)) (λ_ h=>by cases h)
   have TP:=TQ.rswap
   obtain ⟨A1',c1',M2,e2,kK1,kK2,TS,-,-⟩:=TP.freeze (l:=Sc.kinds x) rfl HNK.out.symm (TP.fact (.tail _ (.tail _ (.tail _ (.head _))))) (λ_ h=>by cases h)
   injection e1 with e11 e12 e13
   injection e2 with e21 e22 e23
   subst e11 e13 e21 e23
   clear e12 e22
   rw [HNR.out] at kR1;rw [HNK.out] at kK1
   obtain ⟨gL,rfl⟩:=HS2.out
   have HKR1:=aI kR1;have HKK1:=aI kK1
   clear TC TP TQ HS1 HS2 HS3 kR1 kK1
   have hlp:0 < x.2.2.1.length:=by rw [HNL.out];exact hlt
   obtain ⟨ul,hul,hxl⟩:=Flat.get (TS.fact (.tail _ (.tail _ (.tail _ (.head _))))) 0 hlp
   obtain ⟨As,cs,Bm,cm,rfl,ss,sm,-,kc1,kc2,kc3,kc4⟩:=rep_lif hul
   obtain ⟨lf,hlf⟩:=aX (x.2.2.1[0])
   rw [hlf] at hxl ss sm
   have HX1:=aI (show xsL[1]?=_ from hxl 1 _ rfl)
   have HLF:=aI hlf
   have HLM:=aI (show lf∈x.2.2.1 from hlf ▸ ze hlp)
   clear hul hxl hlf kc1 kc2 kc3 kc4
   have HLB:=aI (HOB.out.l lf HLM.out)
   obtain ⟨ns,hns⟩:=aX lf.2.1.length
   have HNS:=aI hns
   rw [hns] at HX1
   have hnsb:ns<=32+cb:=by rw [<-hns];have h1:=HLB.out.n;have h2:=HLB.out.m;omega
   clear hns
   obtain ⟨xsS,hrd,hfl⟩:=(ss).reads
   rw [HNS.out] at hrd
   have T5:=aI ((TS.add (keeps_sl As lf.2.1) ss).add (keeps_flat _ xsS) hfl)
   have HRD:=aI hrd;have HON:=aI hfl.one;have HLX:=aI (show xsS.length=ns*1 from by have:=hfl.len;rw [HNS.out] at this;exact this)
   clear TS hrd hfl ss sm
   obtain ⟨i0,hj,hz0,hz1,hz2⟩:=zq infoStrS
   go_wp2_with fail
   letI:Grow:=nrGrow WC.heap.size 9 (ns*1) [Value.string ua]
   apply zx (C:=λw'=>NR WC.heap.size 9 (ns*1) [Value.string ua] WC w') (n:=215) (m:=18) (l1:=[_,_,_,_,_,_,_,_,_,_,_,_,_,_,_,_,_,_]) (l2:=[_]);rfl;rfl;kernel_rfl;rfl;kernel_rfl;exact NR.below ⟨rfl,rfl,rfl,ag _,λ_ _=>rfl⟩;exact λu u' h hb=>h.trans hb
   (apply aHx;·(intro w' hC hf;clear hf hC;go_wp2_with (fail);apply aBx;simp only [zC];exact rfl));(try simp only [zn])
   (apply aHx;·(intro w' hC hf;have hbw:=NR.bel hC (ag _);have q:=(T5.out.below hbw).box (.head _);have z2:=q.cell 2;(simp at z2);clear q;clear hf hC;go_wp2_with (fail);apply aBx;simp only [zC];exact rfl));(try simp only [zn])
   apply zb (T:=λv w=>∃N,v=.slice (some ⟨N,0,none⟩) 0 0/\WC.heap.size<=N/\Blk w N 9 #[]) nilN_kept
   .intro w' hC hf;unfold RG.Gives;have hs:=aI (NR.size hC);clear hf hC
    go_wp2_with fail
    refine zd rfl (NR.below (by go_grown)) ?_;simp only [zC];exact ⟨_,rfl,hs.out,zj _ _ _⟩
   intro vn;(try simp only [zn])
   (apply aHx;·(intro w' hC hf;clear hf hC;go_wp2_with (fail);apply aBx;simp only [zC];exact rfl));(try simp only [zn])
   (apply aHx;·(intro w' hC hf;have hbw:=NR.bel hC (ag _);have q:=(T5.out.below hbw).box (.head _);have z2:=q.cell 2;(simp at z2);clear q;clear hf hC;go_wp2_with (fail);apply aBx;simp only [zC];exact rfl));(try simp only [zn])
   iterate 2 ((apply aHx;·(intro w' hC hf;clear hf hC;go_wp2_with (fail);apply aBx;simp only [zC];exact rfl));(try simp only [zn]))
   (apply aHx;·(intro w' hC hf;have hbw:=NR.bel hC (ag _);have y1:=(T5.out.below hbw).rcell (.head _) (by omega) HX1.out;clear hf hC;go_wp2_with (fail);apply aBx;simp only [zC];exact rfl));(try simp only [zn])
   apply zb (T:=RowN WC.heap.size 9 1 ns xsS) (rowN_keptN (λj u h1 h2=>by have:=(List.getElem?_eq_some_iff.1 h2).1;rw [HLX.out] at this;omega))
   .intro w' hC hf;unfold RG.Gives;obtain ⟨N,rfl,hN,hB⟩:=hf.1 rfl;clear hf
    refine wpList_append_fresh (B0:=WC.heap.size) (te:=9) (by rfl) _ _ 54 (by rfl) i0 _ 1 16 Tryz.underlying54 hj hz0 hz1 hz2 rfl (by decide) (nilN_row hN hB) ⟨N,rfl⟩ (by rfl) (A:=As) (m:=ns) (c:=cs) (by rfl) (HRD.out.below (NR.bel hC (ag _))) HON.out (NR.size hC) (by unfold maxLen;omega) (by omega) ?_
    intro v' w2 k1 k2
    refine zd rfl (NR.below k2) ?_;simp only [RG.valAt,aA];exact k1
   intro vr;(try simp only [zn])
   apply zb (T:=λv w=>∃N,v=.slice (some ⟨N,0,none⟩) 3 3/\WC.heap.size<=N/\∀j u,pickF rna (.string ua) j=some u->w.cell? ⟨N,j,none⟩=some u) (sliN_kept pick_late)
   .intro w' hC hf;unfold RG.Gives;have hs:=aI (NR.size hC);clear hf hC
    go_wp2_with fail
    refine zd rfl (NR.below (by go_grown)) ?_;simp only [zC];exact ⟨_,rfl,hs.out,λj u hu=>by obtain ⟨h1,h2⟩:=pickF_some hu;rw [h1,h2];exact ((zj _ _ _).cell rna).trans HUa.out⟩
   intro vb;(try simp only [zn])
   (apply aHx;·(intro w' hC hf;clear hf hC;go_wp2_with (fail);apply aBx;simp only [zC];exact rfl));(try simp only [zn])
   (apply aHx;·(intro w' hC hf;clear hf hC;go_wp2_with ((go_at_call 23;(with_reducible refine aS (CRa.out _) ?_)));apply aBx;simp only [zC];exact rfl));(try simp only [zn])
   apply zb (T:=λv w=>∃N,v=.pointer (some ⟨N,rna,none⟩)/\w.cell? ⟨N,rna,none⟩=some (.string ua)) (ptrN_keptN one_late)
   .intro w' hC hf;unfold RG.Gives;obtain ⟨N,rfl,hN,hB⟩:=hf.1 rfl
    have qx:w'.cell? ⟨N,rna,none⟩=some (.string ua):=hB rna _ (by unfold pickF;rw [if_pos rfl])
    clear hf hC hB;go_wp2_with fail
    refine zd rfl (Grow.refl _) ?_;simp only [zC];exact ⟨N,by first | rfl | simp [Addr.add],qx⟩
   intro vp;(try simp only [zn])
   (apply aHx;·(intro w' hC hf;obtain ⟨pa,rfl,hpa⟩:=hf.1 rfl;clear hf hC;go_wp2_with (fail);apply aBx;simp only [zC];exact rfl));(try simp only [zn])
   apply zb (T:=λv w=>∃N,v=.slice (some ⟨N,0,none⟩) 1 1/\WC.heap.size<=N/\∀j u,[Value.string ua][j]?=some u->w.cell? ⟨N,j,none⟩=some u) (sliN_kept (self_late rfl))
   .intro w' hC hf;unfold RG.Gives;have hs:=aI (NR.size hC);clear hf hC
    go_wp2_with fail
    refine zd rfl (NR.below (by go_grown)) ?_;simp only [zC];exact ⟨_,rfl,hs.out,λj u hu=>by rw [(zj _ _ _).cell j];simpa using hu⟩
   intro vl;(try simp only [zn])
   apply zb (T:=RowN WC.heap.size 9 1 (ns+1) (xsS++[Value.string ua])) (rowN_keptN (λj u h1 h2=>by rw [zL (by rw [HLX.out];exact h1),HLX.out] at h2;exact h2))
   .intro w' hC hf;unfold RG.Gives;obtain ⟨N,rfl,hN,hB⟩:=hf.1 rfl;have hrow:=hf.2.2.2.1 rfl;clear hf
    obtain ⟨g2,cap2,cur2,rfl,hr2⟩:=hrow
    refine wpList_append_lateN (B0:=WC.heap.size) (te:=9) (n8:=ns*1) (us:=[Value.string ua]) (by rfl) _ _ 54 (by rfl) i0 _ 1 16 Tryz.underlying54 hj hz0 hz1 hz2 rfl (by decide) (n:=ns) (xs:=xsS) ⟨g2,cap2,cur2,rfl,hr2⟩ (by rfl) HLX.out (by rfl) (reads_sli (m:=1) rfl (by first | (simp;done) | simp [mvV]) hB) (by decide) (one_one ua) rfl (NR.size hC) (by unfold maxLen;omega) (by omega) ?_
    intro v' w2 k1 k2
    refine zd rfl k2 ?_;simp only [RG.valAt,aA];exact k1
   intro v211;(try simp only [zn])
   iterate 2 ((apply aHx;·(intro w' hC hf;clear hf hC;go_wp2_with (fail);apply aBx;simp only [zC];exact rfl));(try simp only [zn]))
   apply RG.wpT_done
   intro w6 hC hall
   have hro:=RowN.owns hall.1 (by rw [aK,HLX.out,Nat.add_mul];rfl)
   obtain ⟨M6,T6,-⟩:=T5.out.take (NR.bel hC (ag _)) hro
   clear hC hall hro
   obtain ⟨A6,c6,rfl⟩:=T6.form (.head _)
   obtain ⟨A8,c8,M8,he,hk1,hk2,T8,-,-⟩:=T6.freeze (l:=lf.2.1++[ua]) rfl (by rw [aK,HNS.out];rfl) ((T6.fact (.head _)).append (Flat.single ⟨rfl,by show ua.size<=9223372036854775807;omega⟩)) (λ_ h=>by cases h)
   injection he with e1 e2 e3
   subst e1 e3
   have HNS1:=aI e2.symm
   rw [<-e2] at hk1
   clear T6 e2 T5 hj hz0 hz1 hz2
   have T3:=aI T8
   clear T8
   have y1:=T3.out.rcell (.head _) (by omega) HX1.out
   have g1:=T3.out.rfroz (.head _) (by omega) 1
   go_upto_region 31 with fail
   clear y1 g1
   have T4:=T3.out.setRow (.slice A6 (ns+1) c6) (k:=1) (by omega)
   clear T3
   generalize w6.setCell ⟨gL,1,none⟩ (.slice A6 (ns+1) c6)=W7 at T4 ⊢
   have HFL:=aI (show Flat M8 W7 (x.2.2.1.set 0 (lf.1,lf.2.1++[ua],lf.2.2)) (xsL.set 1 (.slice A6 (ns+1) c6)) from Flat.setAt (T4.fact (.tail _ (.tail _ (.tail _ (.tail _ (.tail _ (.tail _ (.head _)))))))) 0 hlp 1 (by decide) (λus h=>by rw [HLF.out] at h;exact lif_set1 HNS1.out hk1 hk2 (T4.fact (.head _)) h))
   obtain ⟨A9,c9,M9,he,hl1,hl2,T9,-,-⟩:=T4.freeze (l:=x.2.2.1.set 0 (lf.1,lf.2.1++[ua],lf.2.2)) rfl (by rw [List.length_set,HNL.out]) HFL.out (λ_ h=>by cases h)
   injection he with e1 e2 e3
   subst e1 e3
   rw [<-e2] at hl1
   clear T4 e2
   have T2:=aI T9
   clear T9
   have q:=T2.out.box (.head _);obtain ⟨q0,q1,q2,q3⟩:=aN4 q.cell;simp at q0 q1 q2 q3;clear q
   have p:=T2.out.box (.tail _ (.head _));obtain ⟨f0,f1,f2,f3⟩:=aN4 p.frozen;obtain ⟨p0,p1,p2,p3⟩:=aN4 p.cell;simp at p0 p1 p2 p3;clear p
   go_cut [] from 9 (λw'=>SPC cb w N1 w')
   case first =>
    go_wp2_with fail
    go_meet
    case rel=>exact spc_mk T2.out (sch_rep (by unfold inI;omega) HNK.out (by rw [List.length_set];exact HNL.out) HNR.out HKK1.out kK2 hl1 hl2 HKR1.out kR2 (T2.out.fact (.tail _ (.tail _ (.tail _ (.tail _ (.head _)))))) (T2.out.fact (.head _)) (T2.out.fact (.tail _ (.tail _ (.tail _ (.tail _ (.tail _ (.head _)))))))) (HOB.out.setL HV.out ⟨HLB.out.nm,by show (lf.2.1++[ua]).length<=_;have:=HLB.out.n;rw [aK];simp only [zm,qt];omega,λs hs=>by
      rcases zE.1 hs with hs | hs
      .exact HLB.out.s s hs
      .rw [zg.1 hs];exact hba,by have:=HLB.out.m;show lf.2.2.length<=_;omega,HLB.out.v⟩)
   case rest =>
    obtain ⟨y9,v9,A9,nk9,c9,B9,nl9,d9,C9,nr9,e9,q,hr9,hz9,hb9⟩:=hcut
    clear q0 q1 q2 q3
    obtain ⟨q0,q1,q2,q3⟩:=aN4 q.cell;simp at q0 q1 q2 q3;clear q
    rename_i hK
    apply hK
    refine wp_ret ?_
    (try simp only [Exit.inBlock,Exit.then])
    refine zi (v:=.agg #[.int .i64 v9,.slice A9 nk9 c9,.slice B9 nl9 d9,.slice C9 nr9 e9]) ?_ rfl ?_
    .simp [results,Tryz.results6,go_sem,q0,q1,q2,q3]
     try rfl
    .exact ⟨y9,_,rfl,hr9,hz9,hb9⟩
  .have k1:¬((0:Int) < (nl:Int)):=by omega
   go_upto_region 31 with (first | (go_at_call 23;(with_reducible refine aS (CK.out _) ?_)) | (go_at_call 23;(with_reducible refine aS (CH.out _) ?_)))
   clear z1
   have q:=TC.out.box (.head _);obtain ⟨q0,q1,q2,q3⟩:=aN4 q.cell;simp at q0 q1 q2 q3;clear q
   have p:=TC.out.box (.tail _ (.head _));obtain ⟨f0,f1,f2,f3⟩:=aN4 p.frozen;obtain ⟨p0,p1,p2,p3⟩:=aN4 p.cell;simp at p0 p1 p2 p3;clear p
   go_cut [] from 9 (λw'=>SPC cb w N1 w')
   case first =>
    go_wp2_with fail
    go_meet
    case rel=>exact spo_end TC.out (TC.out.fact (.head _)) (TC.out.fact (.tail _ (.head _))) (TC.out.fact (.tail _ (.tail _ (.head _)))) (HNR.out) (HNL.out) (HNK.out) (by unfold inI;omega) (HOB.out.ver (by omega))
   case rest =>
    obtain ⟨y9,v9,A9,nk9,c9,B9,nl9,d9,C9,nr9,e9,q,hr9,hz9,hb9⟩:=hcut
    clear q0 q1 q2 q3
    obtain ⟨q0,q1,q2,q3⟩:=aN4 q.cell;simp at q0 q1 q2 q3;clear q
    rename_i hK
    apply hK
    refine wp_ret ?_
    (try simp only [Exit.inBlock,Exit.then])
    refine zi (v:=.agg #[.int .i64 v9,.slice A9 nk9 c9,.slice B9 nl9 d9,.slice C9 nr9 e9]) ?_ rfl ?_
    .simp [results,Tryz.results6,go_sem,q0,q1,q2,q3]
     try rfl
    .exact ⟨y9,_,rfl,hr9,hz9,hb9⟩
 .have k0:(0:Int)<=(kk:Int):=aa _
  by_cases hlt:kk < nk
  .have k1:(kk:Int) < (nk:Int):=by omega
   go_upto_region 7 with (first | (go_at_call 23;(with_reducible refine aS (CK.out _) ?_)) | (go_at_call 23;(with_reducible refine aS (CH.out _) ?_)))
   clear z1
   have TK:=aI (TC.out.perm (List.perm_append_comm (l₁:=[_,_]) (l₂:=[_])))
   obtain ⟨gK,rfl⟩:=TK.out.rform (.head _) (by omega)
   have hkp:kk < (Sc.kinds x).length:=by rw [HNK.out];exact hlt
   obtain ⟨ue,hue,hxe⟩:=Flat.get (TK.out.fact (.tail _ (.tail _ (.head _)))) kk hkp
   obtain ⟨Af,cf,rfl,hsf,-⟩:=rep_knd hue
   have HX3:=aI (show xsK[kk*4+3]?=_ from hxe 3 _ rfl)
   clear hue hxe
   obtain ⟨kd,hkd⟩:=aX ((Sc.kinds x)[kk])
   rw [hkd] at HX3 hsf
   have HKE:=aI hkd
   have HKB:=aI (HOB.out.k kd (hkd ▸ ze hkp))
   clear hkd
   obtain ⟨nf,hnf⟩:=aX ((Sc.flds kd).length)
   have HNF:=aI hnf
   rw [hnf] at HX3
   have hnfb:nf<=10:=by rw [<-hnf];exact HKB.out.n
   clear hnf
   obtain ⟨M3,h3,-⟩:=(TK.out.add (keeps_sl Af (Sc.flds kd)) hsf).take ((zf _ _).alloc (ag _) (.cells #[] 65)) (World.ownsRow_lit (base:=WC.heap.size) (size:=8) (e:=65) WC #[] 0 (ag _) (by decide) rfl)
   obtain ⟨xsF,hrd,hfl⟩:=(h3.fact (.head _)).reads
   rw [HNF.out] at hrd
   have T3:=aI (h3.add (keeps_flat _ xsF) hfl)
   have HRD:=aI hrd;have HON:=aI hfl.one
   clear h3 hrd hfl TC TK hsf
   have z1:=(T3.out.box (.head _)).cell 1;(simp at z1)
   have y3:=T3.out.rcell (.tail _ (.head _)) (by omega) HX3.out
   obtain ⟨i0,hj,hz0,hz1,hz2⟩:=zq infoFld
   have CJ:=aI (CA3.out (nf:Int))
   obtain ⟨jj,hjj⟩:∃n:Nat,around (at_.tdiv 3) nf=n:=⟨(around (at_.tdiv 3) nf).toNat,by have:=around_nn (at_.tdiv 3) nf;omega⟩
   rw [hjj] at CJ
   have e3:=HTQ.out at_ 3 HI1.out (by omega)
   obtain ⟨a3,ha3⟩:=aX (at_.tdiv 3)
   have e4:wrap64 (at_.tdiv 3)=a3:=e3.trans ha3
   rw [ha3] at CJ
   clear hjj e3 ha3
   go_upto_region 8 with (at_builtin;refine wpList_append_rows (by rfl) _ _ 50 (by rfl) 65 i0 _ 8 120 Tryz.underlying50 hj hz0 hz1 hz2 rfl (by decide) T3.out (by rfl) _ _ nf cf xsF (by rfl) HRD.out HON.out (by unfold maxLen;omega) (by omega) ?_;intro v4 W4 M5 h4 _;simp only [zG,zA] at h4;clear z1 y3;replace T3:=aI h4;clear h4 HRD HON;obtain ⟨A5,c5,rfl⟩:=T3.out.form (.head _))
   clear hj hz0 hz1 hz2
   by_cases hlj:jj < nf
   .have j0:(0:Int)<=(jj:Int):=aa _
    have j1:(jj:Int) < (nf:Int):=by omega
    have hjp:jj < (Sc.flds kd).length:=by rw [HNF.out];exact hlj
    obtain ⟨gF,rfl⟩:=T3.out.rform (.head _) (by omega)
    obtain ⟨uf,huf,hxf⟩:=Flat.get (T3.out.fact (.head _)) jj hjp
    obtain ⟨fd,hfd⟩:=aX ((Sc.flds kd)[jj])
    rw [hfd] at huf
    have HFB:=aI (HKB.out.f fd (hfd ▸ ze hjp))
    clear hfd
    obtain ⟨Aw,cw,Bw,dw,rfl,-⟩:=rep_fld huf
    (rw [show Mem.sz Fld=8 from rfl] at hxf)
    have y0:W4.cell? ⟨gF,jj*8,none⟩=_:=T3.out.rcell (.head _) (by omega) (hxf 0 _ rfl);have y1:W4.cell? ⟨gF,jj*8+1,none⟩=_:=T3.out.rcell (.head _) (by omega) (hxf 1 _ rfl);have y2:W4.cell? ⟨gF,jj*8+2,none⟩=_:=T3.out.rcell (.head _) (by omega) (hxf 2 _ rfl);have y3:W4.cell? ⟨gF,jj*8+3,none⟩=_:=T3.out.rcell (.head _) (by omega) (hxf 3 _ rfl);have y4:W4.cell? ⟨gF,jj*8+4,none⟩=_:=T3.out.rcell (.head _) (by omega) (hxf 4 _ rfl);have y5:W4.cell? ⟨gF,jj*8+5,none⟩=_:=T3.out.rcell (.head _) (by omega) (hxf 5 _ rfl);have y6:W4.cell? ⟨gF,jj*8+6,none⟩=_:=T3.out.rcell (.head _) (by omega) (hxf 6 _ rfl);have y7:W4.cell? ⟨gF,jj*8+7,none⟩=_:=T3.out.rcell (.head _) (by omega) (hxf 7 _ rfl)
    have HXF:=aI hxf
    clear hxf
    have e5:=HTQ.out how 8 HI2.out (by omega)
    have h8i:=tdiv_in how 8 HI2.out.1 HI2.out.2 (by omega)
    obtain ⟨h8,hh8⟩:=aX (how.tdiv 8)
    have e6:wrap64 (how.tdiv 8)=h8:=e5.trans hh8
    rw [hh8] at h8i
    have CSF:=aI (sfield_open hcb fd _ M5 W4 T3.out.h.mb huf HFB.out h8 by_ h8i HI3.out)
    clear e5 hh8 huf h8i
    go_upto_region 11 with (first | (go_at_call 23;(with_reducible refine aS (CJ.out _) ?_)) | (go_at_call 24;refine CSF.out.mono ?_;rintro e W6 ⟨f9,n9,o9,p9,k9,l9,h9,A9,w9,c9,B9,x9,d9,rfl,hr9,hl9,hb9⟩;replace T3:=aI ((T3.out.below hb9).add (keeps_rep f9 [.string n9,.string o9,.string p9,.int .i64 k9,.int .i64 l9,.int .i64 h9,.slice A9 w9 c9,.slice B9 x9 d9]) hr9);have HL9:=aI hl9;clear y0 y1 y2 y3 y4 y5 y6 y7 hr9 hl9 hb9 CSF;have y0:W6.cell? ⟨gF,jj*8,none⟩=_:=T3.out.rcell (.head _) (by omega) (HXF.out 0 _ rfl);have g0:=T3.out.rfroz (.head _) (by omega) (jj*8);have y1:W6.cell? ⟨gF,jj*8+1,none⟩=_:=T3.out.rcell (.head _) (by omega) (HXF.out 1 _ rfl);have g1:=T3.out.rfroz (.head _) (by omega) (jj*8+1);have y2:W6.cell? ⟨gF,jj*8+2,none⟩=_:=T3.out.rcell (.head _) (by omega) (HXF.out 2 _ rfl);have g2:=T3.out.rfroz (.head _) (by omega) (jj*8+2);have y3:W6.cell? ⟨gF,jj*8+3,none⟩=_:=T3.out.rcell (.head _) (by omega) (HXF.out 3 _ rfl);have g3:=T3.out.rfroz (.head _) (by omega) (jj*8+3);have y4:W6.cell? ⟨gF,jj*8+4,none⟩=_:=T3.out.rcell (.head _) (by omega) (HXF.out 4 _ rfl);have g4:=T3.out.rfroz (.head _) (by omega) (jj*8+4);have y5:W6.cell? ⟨gF,jj*8+5,none⟩=_:=T3.out.rcell (.head _) (by omega) (HXF.out 5 _ rfl);have g5:=T3.out.rfroz (.head _) (by omega) (jj*8+5);have y6:W6.cell? ⟨gF,jj*8+6,none⟩=_:=T3.out.rcell (.head _) (by omega) (HXF.out 6 _ rfl);have g6:=T3.out.rfroz (.head _) (by omega) (jj*8+6);have y7:W6.cell? ⟨gF,jj*8+7,none⟩=_:=T3.out.rcell (.head _) (by omega) (HXF.out 7 _ rfl);have g7:=T3.out.rfroz (.head _) (by omega) (jj*8+7)))
    clear y0 y1 y2 y3 y4 y5 y6 y7 g0 g1 g2 g3 g4 g5 g6 g7 e4 e6
    have T6:=aI ((((((((T3.out.setRow (.string n9) (k:=jj*8) (by omega)).setRow (.string o9) (k:=jj*8+1) (by omega)).setRow (.string p9) (k:=jj*8+2) (by omega)).setRow (.int .i64 k9) (k:=jj*8+3) (by omega)).setRow (.int .i64 l9) (k:=jj*8+4) (by omega)).setRow (.int .i64 h9) (k:=jj*8+5) (by omega)).setRow (.slice A9 w9 c9) (k:=jj*8+6) (by omega)).setRow (.slice B9 x9 d9) (k:=jj*8+7) (by omega))
    clear T3
    generalize ((((((((W6.setCell ⟨gF,jj*8,none⟩ (.string n9)).setCell ⟨gF,jj*8+1,none⟩ (.string o9)).setCell ⟨gF,jj*8+2,none⟩ (.string p9)).setCell ⟨gF,jj*8+3,none⟩ (.int .i64 k9)).setCell ⟨gF,jj*8+4,none⟩ (.int .i64 l9)).setCell ⟨gF,jj*8+5,none⟩ (.int .i64 h9)).setCell ⟨gF,jj*8+6,none⟩ (.slice A9 w9 c9)).setCell ⟨gF,jj*8+7,none⟩ (.slice B9 x9 d9))=W8 at T6 ⊢
    have T8:=T6
    clear T6
    obtain ⟨A7,c7,M7,he,hk1,hk2,T9,hMs,-⟩:=T8.out.freeze (l:=((Sc.flds kd).set jj f9)) rfl (by rw [List.length_set];exact HNF.out.symm) (Flat.put (T8.out.fact (.tail _ (.head _))) jj hjp (T8.out.fact (.head _))) (λ_ h=>by cases h)
    injection he with e1 e2 e3
    subst e1 e3
    rw [<-e2] at hk1
    clear e2 T8
    have T3:=aI T9
    clear T9
    have hxe3:=HX3.out
    have z1:=(T3.out.box (.head _)).cell 1;(simp at z1)
    have y3:=T3.out.rcell (.head _) (by omega) hxe3
    have g3:=T3.out.rfroz (.head _) (by omega) (kk*4+3)
    clear hxe3
    go_upto_region 31 with fail
    clear y3 g3 z1
    have T5:=aI ((T3.out.setRow (.slice (some ⟨gF,0,none⟩) nf c5) (k:=kk*4+3) (by omega)).perm (List.perm_append_comm (l₁:=[_]) (l₂:=[_,_])))
    clear T3
    generalize W8.setCell ⟨gK,kk*4+3,none⟩ (.slice (some ⟨gF,0,none⟩) nf c5)=W9 at T5 ⊢
    have HFK:=aI (show Flat M7 W9 ((Sc.kinds x).set kk (kd.1,kd.2.1,kd.2.2.1,((Sc.flds kd).set jj f9))) (xsK.set (kk*4+3) (.slice (some ⟨gF,0,none⟩) nf c5)) from Flat.setAt (T5.out.fact (.tail _ (.tail _ (.tail _ (.tail _ (.tail _ (.tail _ (.head _)))))))) kk hkp 3 (by decide) (λus h=>by rw [HKE.out] at h;exact knd_set3 (by rw [List.length_set];exact HNF.out) hk1 hk2 (T5.out.fact (.head _)) h))
    have HFR:=aI (show Flat M7 W9 x.2.2.2 xsR from T5.out.fact (.tail _ (.tail _ (.tail _ (.tail _ (.head _))))))
    have HFL:=aI (show Flat M7 W9 x.2.2.1 xsL from T5.out.fact (.tail _ (.tail _ (.tail _ (.tail _ (.tail _ (.head _)))))))
    have T2:=aI (show HR w [] M7 [(N0,27,#[.int .i64 v,.slice (some ⟨gK,0,none⟩) nk c1,.slice A2 nl c2,.slice A3 nr c3]),(N1,27,#[.int .i64 0,.slice none 0 0,.slice none 0 0,.slice none 0 0])] [⟨60,5,.slice A3 nr c3,nr,xsR⟩,⟨57,3,.slice A2 nl c2,nl,xsL⟩,⟨52,4,.slice (some ⟨gK,0,none⟩) nk c1,nk,xsK.set (kk*4+3) (.slice (some ⟨gF,0,none⟩) nf c5)⟩] _ W9 from T5.out)
    clear T5
    have q:=T2.out.box (.head _);obtain ⟨q0,q1,q2,q3⟩:=aN4 q.cell;simp at q0 q1 q2 q3;clear q
    have p:=T2.out.box (.tail _ (.head _));obtain ⟨f0,f1,f2,f3⟩:=aN4 p.frozen;obtain ⟨p0,p1,p2,p3⟩:=aN4 p.cell;simp at p0 p1 p2 p3;clear p
    go_cut [] from 9 (λw'=>SPC cb w N1 w')
    case first =>
     go_wp2_with fail
     go_meet
     case rel=>exact spo_end T2.out (HFR.out) (HFL.out) (HFK.out) (HNR.out) (HNL.out) (by rw [List.length_set];exact HNK.out) (by unfold inI;omega) (HOB.out.setK HV.out ⟨HKB.out.nm,HKB.out.lo,HKB.out.hi,by show ((Sc.flds kd).set jj f9).length<=_;rw [List.length_set];exact HKB.out.n,λf hf=>(List.mem_or_eq_of_mem_set hf).elim (λh=>(HKB.out.f f h).more (Nat.le_succ _)) (λe=>by rw [e];exact HL9.out)⟩)
    case rest =>
     obtain ⟨y9,v9,A9,nk9,c9,B9,nl9,d9,C9,nr9,e9,q,hr9,hz9,hb9⟩:=hcut
     clear q0 q1 q2 q3
     obtain ⟨q0,q1,q2,q3⟩:=aN4 q.cell;simp at q0 q1 q2 q3;clear q
     rename_i hK
     apply hK
     refine wp_ret ?_
     (try simp only [Exit.inBlock,Exit.then])
     refine zi (v:=.agg #[.int .i64 v9,.slice A9 nk9 c9,.slice B9 nl9 d9,.slice C9 nr9 e9]) ?_ rfl ?_
     .simp [results,Tryz.results6,go_sem,q0,q1,q2,q3]
      try rfl
     .exact ⟨y9,_,rfl,hr9,hz9,hb9⟩
   .have j1:¬(jj:Int) < (nf:Int):=by omega
    go_upto_region 11 with (first | (go_at_call 23;(with_reducible refine aS (CJ.out _) ?_)))
    clear e4
    have T8:=T3
    clear T3
    obtain ⟨A7,c7,M7,he,hk1,hk2,T9,hMs,-⟩:=T8.out.freeze (l:=(Sc.flds kd)) rfl (HNF.out.symm) (T8.out.fact (.head _)) (λ_ h=>by cases h)
    injection he with e1 e2 e3
    subst e1 e3
    rw [<-e2] at hk1
    clear e2 T8
    have T3:=aI T9
    clear T9
    have hxe3:=HX3.out
    have z1:=(T3.out.box (.head _)).cell 1;(simp at z1)
    have y3:=T3.out.rcell (.head _) (by omega) hxe3
    have g3:=T3.out.rfroz (.head _) (by omega) (kk*4+3)
    clear hxe3
    go_upto_region 31 with fail
    clear y3 g3 z1
    have T5:=aI ((T3.out.setRow (.slice A5 nf c5) (k:=kk*4+3) (by omega)).perm (List.perm_append_comm (l₁:=[_]) (l₂:=[_,_])))
    clear T3
    generalize W4.setCell ⟨gK,kk*4+3,none⟩ (.slice A5 nf c5)=W9 at T5 ⊢
    have HFK:=aI (show Flat M7 W9 ((Sc.kinds x).set kk (kd.1,kd.2.1,kd.2.2.1,(Sc.flds kd))) (xsK.set (kk*4+3) (.slice A5 nf c5)) from Flat.setAt (T5.out.fact (.tail _ (.tail _ (.tail _ (.tail _ (.tail _ (.head _))))))) kk hkp 3 (by decide) (λus h=>by rw [HKE.out] at h;exact knd_set3 (HNF.out) hk1 hk2 (T5.out.fact (.head _)) h))
    have HFR:=aI (show Flat M7 W9 x.2.2.2 xsR from T5.out.fact (.tail _ (.tail _ (.tail _ (.head _)))))
    have HFL:=aI (show Flat M7 W9 x.2.2.1 xsL from T5.out.fact (.tail _ (.tail _ (.tail _ (.tail _ (.head _))))))
    have T2:=aI (show HR w [] M7 [(N0,27,#[.int .i64 v,.slice (some ⟨gK,0,none⟩) nk c1,.slice A2 nl c2,.slice A3 nr c3]),(N1,27,#[.int .i64 0,.slice none 0 0,.slice none 0 0,.slice none 0 0])] [⟨60,5,.slice A3 nr c3,nr,xsR⟩,⟨57,3,.slice A2 nl c2,nl,xsL⟩,⟨52,4,.slice (some ⟨gK,0,none⟩) nk c1,nk,xsK.set (kk*4+3) (.slice A5 nf c5)⟩] _ W9 from T5.out)
    clear T5
    have q:=T2.out.box (.head _);obtain ⟨q0,q1,q2,q3⟩:=aN4 q.cell;simp at q0 q1 q2 q3;clear q
    have p:=T2.out.box (.tail _ (.head _));obtain ⟨f0,f1,f2,f3⟩:=aN4 p.frozen;obtain ⟨p0,p1,p2,p3⟩:=aN4 p.cell;simp at p0 p1 p2 p3;clear p
    go_cut [] from 9 (λw'=>SPC cb w N1 w')
    case first =>
     go_wp2_with fail
     go_meet
     case rel=>exact spo_end T2.out (HFR.out) (HFL.out) (HFK.out) (HNR.out) (HNL.out) (by rw [List.length_set];exact HNK.out) (by unfold inI;omega) (HOB.out.setK HV.out (HKB.out.more (Nat.le_succ cb)))
    case rest =>
     obtain ⟨y9,v9,A9,nk9,c9,B9,nl9,d9,C9,nr9,e9,q,hr9,hz9,hb9⟩:=hcut
     clear q0 q1 q2 q3
     obtain ⟨q0,q1,q2,q3⟩:=aN4 q.cell;simp at q0 q1 q2 q3;clear q
     rename_i hK
     apply hK
     refine wp_ret ?_
     (try simp only [Exit.inBlock,Exit.then])
     refine zi (v:=.agg #[.int .i64 v9,.slice A9 nk9 c9,.slice B9 nl9 d9,.slice C9 nr9 e9]) ?_ rfl ?_
     .simp [results,Tryz.results6,go_sem,q0,q1,q2,q3]
      try rfl
     .exact ⟨y9,_,rfl,hr9,hz9,hb9⟩
  .have k1:¬(kk:Int) < (nk:Int):=by omega
   go_upto_region 31 with (first | (go_at_call 23;(with_reducible refine aS (CK.out _) ?_)) | (go_at_call 23;(with_reducible refine aS (CH.out _) ?_)))
   clear z1
   have q:=TC.out.box (.head _);obtain ⟨q0,q1,q2,q3⟩:=aN4 q.cell;simp at q0 q1 q2 q3;clear q
   have p:=TC.out.box (.tail _ (.head _));obtain ⟨f0,f1,f2,f3⟩:=aN4 p.frozen;obtain ⟨p0,p1,p2,p3⟩:=aN4 p.cell;simp at p0 p1 p2 p3;clear p
   go_cut [] from 9 (λw'=>SPC cb w N1 w')
   case first =>
    go_wp2_with fail
    go_meet
    case rel=>exact spo_end TC.out (TC.out.fact (.head _)) (TC.out.fact (.tail _ (.head _))) (TC.out.fact (.tail _ (.tail _ (.head _)))) (HNR.out) (HNL.out) (HNK.out) (by unfold inI;omega) (HOB.out.ver (by omega))
   case rest =>
    obtain ⟨y9,v9,A9,nk9,c9,B9,nl9,d9,C9,nr9,e9,q,hr9,hz9,hb9⟩:=hcut
    clear q0 q1 q2 q3
    obtain ⟨q0,q1,q2,q3⟩:=aN4 q.cell;simp at q0 q1 q2 q3;clear q
    rename_i hK
    apply hK
    refine wp_ret ?_
    (try simp only [Exit.inBlock,Exit.then])
    refine zi (v:=.agg #[.int .i64 v9,.slice A9 nk9 c9,.slice B9 nl9 d9,.slice C9 nr9 e9]) ?_ rfl ?_
    .simp [results,Tryz.results6,go_sem,q0,q1,q2,q3]
     try rfl
    .exact ⟨y9,_,rfl,hr9,hz9,hb9⟩
theorem spoilt_any {cb:Nat} (hcb:cb<=1) (x:Sch) (us:List Value) (w:World) (h:Mem.rep [] w x us) (OB:Sx.WB cb x) (at_ how by_:Int) (h1:inI at_) (h2:inI how) (h3:inI by_):Calls Tryz.prog 6 #[.agg us.toArray,.int .i64 at_,.int .i64 how,.int .i64 by_] w (SpP cb w):=by
 have hh:=around_bd how 8 (by omega)
 rcases (show around how 8=0∨around how 8=1∨around how 8=2∨around how 8=3∨around how 8=4∨around how 8=5∨around how 8=6∨around how 8=7 by omega) with hz | hz | hz | hz | hz | hz | hz | hz
 .exact spoilt_0 hcb x us w h OB at_ how by_ h1 h2 h3 0 (by decide) hz
 .exact spoilt_0 hcb x us w h OB at_ how by_ h1 h2 h3 1 (by decide) hz
 .exact spoilt_0 hcb x us w h OB at_ how by_ h1 h2 h3 2 (by decide) hz
 .exact spoilt_0 hcb x us w h OB at_ how by_ h1 h2 h3 3 (by decide) hz
 .exact spoilt_1 hcb x us w h OB at_ how by_ h1 h2 h3 4 (by decide) hz
 .exact spoilt_1 hcb x us w h OB at_ how by_ h1 h2 h3 5 (by decide) hz
 .exact spoilt_2 hcb x us w h OB at_ how by_ h1 h2 h3 6 (by decide) hz
 .exact spoilt_2 hcb x us w h OB at_ how by_ h1 h2 h3 7 (by decide) hz
end
section
namespace Sg
def FG (f:Fld):Prop:=Sx.fldB f=true/\(Sc.words f).length<=3
theorem fldB0 {n:ByteArray} {lo:Int} (h:Sx.nm n=true) (hl:-1048576<=lo/\lo<=1048576):FG (n,be,be,0,lo,0,[],[]):=by
 refine ⟨?_,zN _⟩
 show (Sx.nm n && (true && (true && (true && (true && (decide (-1048576<=lo) && decide (lo<=1048576)))))))=true
 rw [h,ac hl.1,ac hl.2];rfl
theorem fldB1 {n o:ByteArray} {lo hi:Int} (h:Sx.nm n=true) (ho:Sx.nm o=true) (h1:0<=lo) (h2:lo<=hi) (h3:hi<=65536):FG (n,o,be,1,lo,hi,[],[]):=by
 refine ⟨?_,zN _⟩
 show (Sx.nm n && (true && (true && (Sx.nm o && (decide (0<=lo) && (decide (lo<=hi) && decide (hi<=65536)))))))=true
 rw [h,ho,ac h1,ac h2,ac h3];rfl
theorem fldB2 {n:ByteArray} {lo hi:Int} (h:Sx.nm n=true) (h1:-1048576<=lo) (h2:lo<=hi) (h3:hi<=1048576):FG (n,be,be,2,lo,hi,[],[]):=by
 refine ⟨?_,zN _⟩
 show (Sx.nm n && (true && (true && (true && (decide (-1048576<=lo) && (decide (lo<=hi) && decide (hi<=1048576)))))))=true
 rw [h,ac h1,ac h2,ac h3];rfl
theorem fldB4 {n o:ByteArray} {lo hi:Int} (h:Sx.nm n=true) (ho:(Sx.em o || Sx.nm o)=true) (h1:-1048576<=lo) (h2:lo<=hi) (h3:hi<=1048576):FG (n,o,be,4,lo,hi,[],[]):=by
 refine ⟨?_,zN _⟩
 show (Sx.nm n && (true && (true && ((Sx.em o || Sx.nm o) && (decide (-1048576<=lo) && (decide (lo<=hi) && decide (hi<=1048576)))))))=true
 rw [h,ho,ac h1,ac h2,ac h3];rfl
theorem fldB5 {n o:ByteArray} {lo hi:Int} (h:Sx.nm n=true) (ho:Sx.nm o=true) (h1:0<=lo) (h2:lo<=hi) (h3:hi<=32):FG (n,o,be,5,lo,hi,[],[]):=by
 refine ⟨?_,zN _⟩
 show (Sx.nm n && (true && (true && (Sx.nm o && (decide (0<=lo) && (decide (lo<=hi) && decide (hi<=32)))))))=true
 rw [h,ho,ac h1,ac h2,ac h3];rfl
theorem fldB6 {n o:ByteArray} (h:Sx.nm n=true) (ho:Sx.nm o=true):FG (n,o,be,6,0,0,[],[]):=by
 refine ⟨?_,zN _⟩
 show (Sx.nm n && (true && (true && (true && (true && Sx.nm o)))))=true
 rw [h,ho];rfl
theorem fldB7 {n o u:ByteArray} {lo hi:Int} (h:Sx.nm n=true) (ho:Sx.nm o=true) (hu:Sx.nm u=true) (h1:0<=lo) (h2:lo<=hi) (h3:hi<=1048576):FG (n,o,u,7,lo,hi,[],[]):=by
 refine ⟨?_,zN _⟩
 show (Sx.nm n && (true && (Sx.nm o && (Sx.nm u && (decide (0<=lo) && (decide (lo<=hi) && decide (hi<=1048576)))))))=true
 rw [h,ho,hu,ac h1,ac h2,ac h3];rfl
theorem fldB8 {n o u:ByteArray} (h:Sx.nm n=true) (ho:Sx.nm o=true) (hu:Sx.nm u=true):FG (n,o,u,8,0,0,[],[]):=by
 refine ⟨?_,zN _⟩
 show (Sx.nm n && (true && (true && (true && (Sx.nm o && Sx.nm u)))))=true
 rw [h,ho,hu];rfl
theorem fldB3 {n:ByteArray} {ws:List ByteArray} {ns:List Int} (h:Sx.nm n=true) (h1:1<=ws.length) (h2:ws.length<=3) (h3:ws.length=ns.length) (h4:∀x∈ns,0<=x/\x<=4) (h5:0 < ns.sum) (h6:ws.all Sx.nm=true):FG (n,be,be,3,0,0,ws,ns):=by
 refine ⟨?_,h2⟩
 show (Sx.nm n && (true && (true && (true && (true && Sx.pickB ws ns)))))=true
 have h7:Sx.pickB ws ns=true:=by
  unfold Sx.pickB Sx.within Sx.most
  simp only [zw,zD,List.all_eq_true]
  refine ⟨λx hx=>?_,by omega,h3,h5,List.all_eq_true.1 h6⟩
  have:=h4 x hx
  omega
 rw [h,h7];rfl
theorem Plain.fg {fs:List Fld} (h:Plain fs):∀f∈fs,FG f:=by
 cases h with
 | none=>intro f hf;cases hf
 | size lo d _ _ _ _=>intro f hf;simp only [zg] at hf;subst hf;exact fldB2 (by decide) (by omega) (by omega) (by omega)
 | tag k ws h1 h2 h3 h4 h5 =>
  intro f hf;simp only [zg] at hf;subst hf
  have hl:(colors.take k).length=k:=by rw [zI];exact Nat.min_eq_left h2
  exact fldB3 (by decide) (by omega) (by omega) (by omega) h4 (by omega) (by rcases (show k=1∨k=2∨k=3 by omega) with rfl | rfl | rfl <;> decide)
 | born lo d lo2 d2 _ _ _ _ _ _ _ _ =>
  intro f hf
  simp only [zB,zr,zQ] at hf
  rcases hf with rfl | rfl
  .exact fldB4 (by decide) (by decide) (by omega) (by omega) (by omega)
  .exact fldB4 (by decide) (by decide) (by omega) (by omega) (by omega)
 | state lo d _ _ _ _=>intro f hf;simp only [zg] at hf;subst hf;exact fldB5 (by decide) (by decide) (by omega) (by omega) (by omega)
 | low a b c d _ _ _ _ _ _ _ _ =>
  intro f hf
  simp only [zB,zr,zQ] at hf
  rcases hf with rfl | rfl
  .exact fldB2 (by decide) (by omega) (by omega) (by omega)
  .exact fldB2 (by decide) (by omega) (by omega) (by omega)
structure KG (k:Knd):Prop where
 nm:Sx.nm k.1=true
 lo:0<=k.2.1
 le:k.2.1<=k.2.2.1
 fs:∀f∈Sc.flds k,FG f
theorem FG.nm {f:Fld} (h:FG f):Sx.nm (Sc.nm f)=true:=by
 have:=h.1
 unfold Sx.fldB at this
 exact (Bool.and_eq_true_iff.1 this).1
theorem Same.fg {k:Knd} {fs:List Fld} (h:Same k fs) (hk:KG k):∀f∈fs,FG f:=by
 cases h with
 | none=>intro f hf;cases hf
 | some c h _=>intro f hf;simp only [zg] at hf;subst hf;exact fldB8 (by decide) (hk.fs _ (ze h)).nm (by decide)
theorem KG.total {k:Knd} {nm:ByteArray} (h:KG k) (hn:Sx.nm nm=true):KG (setF k (Sc.flds k++[totalF nm])):=by
 refine ⟨h.nm,h.lo,h.le,λf hf=>?_⟩
 rcases zE.1 (show f∈Sc.flds k++[totalF nm] from hf) with hf | hf
 .exact h.fs f hf
 .simp only [zg] at hf;subst hf;exact fldB6 (by decide) hn
theorem Part.fg {nm:ByteArray} {ks:List Knd} {tq:Nat} {h:tq < ks.length} {fs:List Fld} {ks':List Knd} (hp:Part nm ks tq h fs ks') (hn:Sx.nm nm=true) (hk:∀k∈ks,KG k):(∀k∈ks',KG k)/\∀f∈fs,FG f:=by
 cases hp with
 | none=>exact ⟨hk,λf hf=>by cases hf⟩
 | some lo d _ _ _ _ hx =>
  refine ⟨λk hkm=>?_,λf hf=>?_⟩
  .rcases List.mem_or_eq_of_mem_set hkm with hkm | rfl
   .exact hk k hkm
   .exact (hk _ (ze h)).total hn
  .simp only [zg] at hf;subst hf;exact fldB7 (by decide) (by decide) (by decide) (by omega) (by omega) (by omega)
theorem Body.fg {nm:ByteArray} {ks:List Knd} {fs:List Fld} {ks':List Knd} (h:Body nm ks fs ks') (hn:Sx.nm nm=true) (hk:∀k∈ks,KG k):(∀k∈ks',KG k)/\∀f∈fs,FG f:=by
 cases h with
 | nil lo hlo =>
  have:=okLo_bd' hlo
  refine ⟨hk,λf hf=>?_⟩
  simp only [zg] at hf;subst hf;exact fldB0 (by decide) (by omega)
 | cons _ tq h lo flo hi same part _ hlo _ _ _ _ hs hp =>
  have:=okLo_bd' hlo
  obtain ⟨p1,p2⟩:=hp.fg hn hk
  have hkt:=hk _ (ze h)
  refine ⟨p1,λf hf=>?_⟩
  simp only [zE,zB,zr,zQ] at hf
  rcases hf with ((rfl | rfl) | hf) | hf
  .exact fldB0 (by decide) (by omega)
  .exact fldB1 (by decide) hkt.nm (by omega) (by omega) (by omega)
  .exact hs.fg hkt f hf
  .exact p2 f hf
theorem Kind.kg {ks:List Knd} {k:Knd} {ks':List Knd} (h:Kind ks k ks') (hk:∀k∈ks,KG k) (hn:ks.length<=2):∀x∈ks'++[k],KG x:=by
 obtain ⟨h1,h2,h3,h4,h5,hf⟩:=h
 have hnm:Sx.nm k.1=true:=by
  rw [h1]
  rcases (show ks.length=0∨ks.length=1∨ks.length=2 by omega) with h | h | h <;> rw [h] <;> decide
 generalize hfs:Sc.flds k=fl at hf
 cases hf with
 | mk fs ks' by_ first second hb hby hp hs =>
  obtain ⟨b1,b2⟩:=hb.fg hnm hk
  intro x hx
  rcases zE.1 hx with hx | hx
  .exact b1 x hx
  .simp only [zg] at hx
   subst hx
   refine ⟨hnm,h2,h4,λf hf=>?_⟩
   rw [hfs] at hf
   simp only [zE] at hf
   rcases hf with ((hf | hf) | hf) | hf
   .exact b2 f hf
   .rcases hby with rfl | ⟨_,k0,hk0,rfl⟩
    .cases hf
    .simp only [zg] at hf
     subst hf
     exact fldB1 (by decide) (b1 k0 (List.mem_of_getElem? hk0)).nm (by decide) (by decide) (by decide)
   .exact hp.fg f hf
   .rcases hs with rfl | ⟨hs,_⟩
    .cases hf
    .exact hs.fg f hf
theorem Kinds.kg {ks:List Knd} (h:Kinds ks):ks.length<=3->∀k∈ks,KG k:=by
 induction h with
 | nil=>intro _ k hk;cases hk
 | snoc ks k ks' h hk ih =>
  intro hl
  have h3:=hk.klen
  rw [aK,List.length_singleton] at hl
  exact hk.kg (ih (by omega)) (by omega)
theorem KG.kndB {k:Knd} (h:KG k) (hk:KOk k):Sx.kndB k=true:=by
 unfold Sx.kndB Sx.span
 have hl:(Sc.flds k).length<=10:=by rcases hk.len with h | ⟨h,_⟩ <;> omega
 have hh:=hk.hi
 have h1:=h.lo
 have h2:=h.le
 simp only [zw,zD,List.all_eq_true]
 exact ⟨h.nm,⟨by omega,by omega,by omega⟩,hl,λf hf=>(h.fs f hf).1⟩
theorem Life.lifB {x:Lif} (h:Life x):Sx.lifB x=true/\x.2.1.length<=4/\x.2.2.length<=5:=by
 cases h with
 | mk m a b h1 h2 ha hb =>
  rcases (show m=2∨m=3∨m=4 by omega) with rfl | rfl | rfl <;> rcases ha with rfl | rfl <;> rcases hb with rfl | rfl <;> decide
theorem nm_snoc {p:ByteArray} {s:ByteArray} (hs:1<=s.size) (hp:p.size<=5) (hpn:Sx.nm p=true) (hsn:Sx.nm s=true):Sx.nm (p++s.extract 0 1)=true:=by
 obtain ⟨c,hc⟩:∃c,(s.extract 0 1).data.toList=[c]/\Sx.alnumB c=true:=by
  have hne:0 < s.data.toList.length:=by rw [strLen];exact hs
  refine ⟨s.data.toList[0],?_,?_⟩
  .rw [ByteArray.data_extract,Array.toList_extract,List.extract_eq_take_drop]
   generalize s.data.toList=l at hne
   cases l with
   | nil=>cases hne
   | cons a l=>rfl
  .unfold Sx.nm Sx.nameB at hsn
   simp only [zw,List.all_eq_true] at hsn
   exact hsn.2 _ (ze hne)
 unfold Sx.nm Sx.nameB at hpn ⊢
 simp only [zw,zD,List.all_eq_true] at hpn ⊢
 obtain ⟨⟨⟨a1,a2⟩,a3⟩,a4⟩:=hpn
 have hl:(p++s.extract 0 1).data.toList=p.data.toList++[c]:=by rw [<-hc.1];simp
 rw [hl]
 have hps:p.data.toList.length=p.size:=strLen p
 refine ⟨⟨⟨by rw [aK];omega,by rw [aK,hps];simp;omega⟩,?_⟩,λx hx=>?_⟩
 .cases hd:p.data.toList with
  | nil=>rw [hd] at a1;simp at a1
  | cons u l=>rw [hd] at a3;exact a3
 .rcases zE.1 hx with hx | hx
  .exact a4 x hx
  .rw [zg] at hx;subst hx;exact hc.2
theorem Rule.rulB {k:Knd} {r:Rul} (h:Rule k r true) (hk:KG k) (ho:KOk k):Sx.rulB r=true:=by
 have mk:∀(p a b:ByteArray) (n:Int),p.size<=5->Sx.nm p=true->(Sx.em a || Sx.nm a)=true->(Sx.em b || Sx.nm b)=true->(!(Sx.em a && Sx.em b))=true->-1048576<=n->n<=1048576->Sx.rulB (p++k.1.extract 0 1,k.1,a,b,n)=true:=by
  intro p a b n hp hpn ha hb hab h1 h2
  show (Sx.nm (p++k.1.extract 0 1) && (Sx.nm k.1 && ((Sx.em a || Sx.nm a) && ((Sx.em b || Sx.nm b) && (!(Sx.em a && Sx.em b) && (decide (-1048576<=n) && decide (n<=1048576)))))))=true
  rw [nm_snoc ho.n1 hp hpn hk.nm,hk.nm,ha,hb,hab,ac h1,ac h2];rfl
 generalize hb:true=tt at h
 cases h with
 | none=>cases hb
 | low z _ _ _=>exact mk _ _ _ _ (by decide) (by decide) (by decide) (by decide) (by decide) (by omega) (by omega)
 | most i hi z _ _ _ =>
  have:=ho.bd _ (ze hi)
  unfold FBd at this
  exact mk _ _ _ _ (by decide) (by decide) (by decide) (by decide) (by decide) (by omega) (by omega)
 | least i hi z _ _ _ =>
  have:=ho.bd _ (ze hi)
  unfold FBd at this
  exact mk _ _ _ _ (by decide) (by decide) (by decide) (by decide) (by decide) (by omega) (by omega)
theorem Rules.rulB {ks:List Knd} {i:Nat} {rs:List Rul} (h:Rules ks i rs) (hk:∀k∈ks,KG k/\KOk k):rs.length<=2/\∀r∈rs,Sx.rulB r=true:=by
 induction h with
 | nil=>exact ⟨zN _,λr hr=>by cases hr⟩
 | step i hi rs r b _ hl hr ih =>
  obtain ⟨i1,i2⟩:=ih
  cases b with
  | false=>exact ⟨i1,i2⟩
  | true =>
   refine ⟨by rw [if_pos rfl,aK,List.length_singleton];omega,λx hx=>?_⟩
   rw [if_pos rfl] at hx
   rcases zE.1 hx with hx | hx
   .exact i2 x hx
   .rw [zg] at hx;subst hx
    exact hr.rulB (hk _ (ze hi)).1 (hk _ (ze hi)).2
theorem fld_few {f:Fld} (h:FG f):(Sx.fldT f).length<=9:=by
 have hb:=Sx.fldB_bd h.1
 have hp:=(Sx.picks_short _ _ hb.w hb.n).1
 have hw:=h.2
 unfold Sx.fldT
 split
 .exact zv rfl
 split
 .exact zv rfl
 split
 .simp only [zm];omega
 split
 .exact zv rfl
 split
 .exact zv rfl
 split
 .exact zv rfl
 .exact zv rfl
theorem Schema.valid {x:Sch} (h:Schema x):Sx.valid x=0:=by
 cases h with
 | mk ver ks lf i rs v0 v3 k1 k3 hks hlf hrs _ =>
  have hkg:=hks.kg k3
  have hko:=hks.ok k3
  obtain ⟨l1,l2,l3⟩:=hlf.lifB
  obtain ⟨r1,r2⟩:=hrs.rulB λk hk=>⟨hkg k hk,hko k hk⟩
  have hok:Sx.okB (ver,ks,[lf],rs)=true:=by
   show (Sx.within ver 0 1048576 && (decide (ks.length<=6) && (true && (decide (rs.length<=16) && (ks.all Sx.kndB && ((Sx.lifB lf && true) && rs.all Sx.rulB))))))=true
   have e1:Sx.within ver 0 1048576=true:=by unfold Sx.within;rw [ac v0,ac (by omega)];rfl
   rw [e1,ac (show ks.length<=6 by omega),ac (show rs.length<=16 by omega),List.all_eq_true.2 λk hk=>(hkg k hk).kndB (hko k hk),l1,List.all_eq_true.2 r2]
   rfl
  have hob:=Sx.okB_bd hok
  have hsh:=(Sx.linesL_short hob).2
  have hlen:∀l∈Sx.linesL (ver,ks,[lf],rs),(Sx.lineT l).length<=118:=by
   intro l hl
   have h1:=Sx.lineT_le (hsh l hl).2
   have h2:l.length<=9:=by
    rcases aL hl with rfl | hl
    .exact zv rfl
    rcases zE.1 hl with hl | hl
    .obtain ⟨k,hk,hl⟩:=List.mem_flatMap.1 hl
     rcases aL hl with rfl | hl
     .exact zv rfl
     .obtain ⟨f,hf,rfl⟩:=List.mem_map.1 hl
      exact fld_few ((hkg k hk).fs f hf)
    rcases zE.1 hl with hl | hl
    .obtain ⟨k,hk,hl8⟩:=List.mem_flatMap.1 hl
     clear hl
     obtain rfl:k=lf:=zg.1 hk
     rcases aL hl8 with rfl | hl
     .simp only [zm,zu];omega
     .obtain ⟨m,hm,rfl⟩:=List.mem_map.1 hl
      exact zv rfl
    .obtain ⟨r,hr,rfl⟩:=List.mem_map.1 hl
     exact zv rfl
   omega
  have hn:(Sx.linesL (ver,ks,[lf],rs)).length<=60:=by
   have h1:=Sx.flat_le Sx.kndL 11 λk hk=>(Sx.kndL_short (hob.k k hk)).1
   show (_++(([lf].flatMap Sx.lifL)++rs.map Sx.rulL):List (List Sx.Txt)).length+1<=60
   rw [aK,aK,zu]
   have h2:([lf].flatMap Sx.lifL).length<=6:=by
    rw [zR,zZ,zK]
    show (lf.2.2.map _).length+1<=6
    rw [zu];omega
   have h1:((Sc.kinds (ver,ks,[lf],rs)).flatMap Sx.kndL).length<=ks.length*11:=h1
   omega
  have hs:=Sx.flat_le Sx.lineT 118 hlen
  have:(Sx.linesL (ver,ks,[lf],rs)).length*118<=60*118:=Nat.mul_le_mul_right _ hn
  unfold Sx.valid
  rw [if_pos hok,if_neg (by show ¬ 8192 < ((Sx.linesL (ver,ks,[lf],rs)).flatMap Sx.lineT).length;omega)]
end Sg
end
end Go.Proofs.YtobcnhmhgoccnaaGreatDoor
