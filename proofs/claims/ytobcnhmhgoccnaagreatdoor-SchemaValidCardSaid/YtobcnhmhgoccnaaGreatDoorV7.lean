/- Parts of the proof, joined: W36. -/
import Derived.Test.YtobcnhmhgoccnaaGreatDoorV5
import Derived.Test.YtobcnhmhgoccnaaGreatDoorV6
set_option maxHeartbeats 100000000
set_option linter.unusedVariables false
set_option linter.unusedSimpArgs false
set_option linter.unusedSectionVars false
namespace Go.Proofs.YtobcnhmhgoccnaaGreatDoor
open Go Go.RowKit
set_option maxRecDepth 1000000 in
theorem gkind_any {K:MkK} {M:List Nat} {bx:List Box} {rs:List Rw} {L:List (List Nat->World->Prop)} {W:World} {ks:List Knd} {n:Nat} {kv:Value} {kxs:List Value} (h:MkH K M bx (⟨52,4,kv,n,kxs⟩::rs) ((λM W=>Flat M W ks kxs)::L) W) (hn:n=ks.length) (hn2:n<=2) (hne:∀k∈ks,1<=(Sc.flds k).length/\(Sc.flds k).length<=20):Calls Tryz.prog 21 #[K.p,kv] W (KindP K bx rs L ks n kv):=by
 obtain ⟨A0,c0,rfl⟩:=h.form
 have H:=Lib.hid (h.new #[.string ⟨#[]⟩,.int .i64 0,.int .i64 0,.slice none 0 0] 52 rfl)
 have HN:=Lib.hid hn
 have HNE:=Lib.hid hne
 clear h hn hne
 go_enter Tryz.func21,Tryz.ntmps21
 go_wp2_with fail
 have H1:=Lib.hid (H.out.made (N:=W.heap.size+1) #[.int .i64 0,.int .i64 1,.int .i64 2,.int .i64 4,.int .i64 1,.int .i64 2] 3 (by simp))
 clear H
 generalize hW2:((W.alloc _).alloc _)=W2 at H1 ⊢
 generalize W.heap.size=rb at H1 ⊢
 clear hW2
 go_at_call 20
 refine (H1.out.take _ (by omega) (by omega)).mono ?_
 rintro e w1 ⟨z,rfl,z1,z2,hr⟩
 obtain ⟨z,rfl⟩:∃z':Nat,z=z':=⟨z.toNat,by omega⟩
 replace H1:=Lib.hid (H1.out.turn hr);clear hr
 obtain ⟨lo,lo0,lo4,hlo⟩:=los_at z (by omega)
 have q:=(H1.out.fact (.head _)).2.cell z
 rw [hlo] at q
 clear hlo W2
 have z3:(z:Int) < 6:=by omega
 go_wp2_with fail
 go_cut [7] from 14 (λv7 w'=>∃hi:Int,lo<=hi/\hi<=lo+4/\KSt K bx rs L rb n (.slice A0 n c0) v7 (Sg.kname n) lo hi [] ks w')
 case first =>
  rename_i J_ K_ hJ_ hM_
  obtain ⟨wo,rfl⟩:=aY w1
  have H:=Lib.hid (H1.out.less (L':=(λM W=>Flat M W ks kxs)::L) (λP hP=>.tail _ hP))
  clear H1 q
  letI:Grow:=K.grow
  exact kmn_0 (_W:=wo) (by kernel_rfl) hn2 z1 z2 lo0 lo4 z3 H hJ_ hM_
 case rest =>
  obtain ⟨hi,hi1,hi2,hk⟩:=hcut
  clear H1 q z1 z2 z3 w1
  obtain ⟨nm,hnm⟩:=aX (Sg.kname n)
  have HNM0:=Lib.hid (show nm.size<=9223372036854775807 by rw [<-hnm];rcases (show n=0∨n=1∨n=2 by omega) with rfl | rfl | rfl <;> decide)
  rw [hnm] at hk
  go_wp2_with fail
  go_cut [] from 14 (λw'=>∃x:Int,Sg.okLo x/\KSt K bx rs L rb n (.slice A0 n c0) u7 nm lo hi [Sg.idF x] ks w')
  case first =>
   rename_i J_ K_ hJ_ hM_
   obtain ⟨wo,rfl⟩:=aY wc
   obtain ⟨M1,kb,fv,fxs,kxs,rfl,HK⟩:=hk
   have H:=Lib.hid HK
   clear HK
   letI:Grow:=K.grow
   exact kmn_1 (_M:=[]) (_W:=W) (by kernel_rfl) hn2 lo0 lo4 hi1 hi2 hnm H hJ_ hM_
  case rest =>
   obtain ⟨x,hx,hk⟩:=hcut
   have HX:=Lib.hid hx
   clear hx
   go_upto_if 43 with fail
   go_cut [] from 14 (λw'=>∃fs ks',Sg.Body nm ks fs ks'/\KSt K bx rs L rb n (.slice A0 n c0) u7 nm lo hi fs ks' w')
   case first =>
    rename_i J_ K_ hJ_ hM_
    by_cases hn0:0 < n
    .exact kind_up (ac (by omega)) hn2 HN HNE HNM0 lo0 lo4 hi1 hi2 HX hn0 hk hJ_ hM_
    .obtain rfl:n=0:=by omega
     obtain rfl:ks=[]:=zT (by rw [<-HN.out])
     go_wp2_with fail
     go_meet
     case rel=>exact ⟨_,_,.nil x HX.out,hk⟩
   case rest =>
    obtain ⟨fs,ks',hbody,hk⟩:=hcut
    have HBD:=Lib.hid hbody
    obtain ⟨hfl1,hfl2,hkl⟩:=hbody.len
    have HFL:=Lib.hid hfl2
    have HKL:=Lib.hid (hkl.trans HN.out.symm)
    clear hbody hfl1 hfl2 hkl
    go_upto_region 18 with fail
    go_cut [142] from 14 (λv142 w'=>∃b:Bool,v142=.bool b/\(b=true->2<=n)/\KSt K bx rs L rb n (.slice A0 n c0) u7 nm lo hi fs ks' w')
    case first =>
     rename_i J_ K_ hJ_ hM_
     obtain ⟨M1,kb,fv,fxs,kxs,rfl,HK⟩:=hk
     have H:=Lib.hid HK
     clear HK
     by_cases hn1:1 < n
     .have t1:decide ((1:Int) < (n:Int))=true:=ac (by omega)
      go_wp2_with (go_at_call 20;refine (H.out.take 3 (by omega) (by omega)).mono ?_;rintro e w4 ⟨v,rfl,v1,v2,hr⟩;replace H:=Lib.hid (H.out.turn hr);clear hr)
      go_meet
      case rel=>exact ⟨_,rfl,λ_=>(by omega),_,kb,fv,fxs,kxs,rfl,H.out⟩
     .have t1:decide ((1:Int) < (n:Int))=false:=qv (by omega)
      go_wp2_with fail
      go_meet
      case rel=>exact ⟨_,rfl,λh=>(by cases h),_,kb,fv,fxs,kxs,rfl,H.out⟩
    case rest =>
     obtain ⟨b,rfl,hb,hk⟩:=hcut
     go_upto_if 142 with fail
     go_cut [] from 14 (λw'=>∃by_,Sg.By ks ks' by_/\KSt K bx rs L rb n (.slice A0 n c0) u7 nm lo hi (fs++by_) ks' w')
     case first =>
      rename_i J_ K_ hJ_ hM_
      cases b
      .go_wp2_with fail
       go_meet
       case rel=>exact ⟨[],.inl rfl,by rw [zK];exact hk⟩
      .have hn1:=hb rfl
       have hn0:0 < n:=by omega
       obtain ⟨M1,kb,fv,fxs,kxs,rfl,HK⟩:=hk
       obtain ⟨g,rfl⟩:=HK.rform (.tail _ (.head _)) hn0
       have hzk:0 < ks'.length:=by rw [HKL.out];exact hn0
       obtain ⟨B,cB,g0,g1,g2,g3,s1,s2,s3,s4⟩:=flat_knd (HK.fact (.tail _ (.head _))) 0 hzk
       obtain ⟨nmo,hnmo⟩:=aX (ks'[0].1)
       rw [hnmo] at g0 s4
       have HNM:=Lib.hid hnmo
       have HQ0:=Lib.hid g0
       have H:=Lib.hid HK
       clear HK hnmo g0 g1 g2 g3 s1 s2 s3
       go_wp2_with fail
       obtain ⟨wo,rfl⟩:=aY wc
       letI:Grow:=K.grow
       exact kmn_2 (_M:=[]) (_W:=W) (by kernel_rfl) hn2 HN lo0 lo4 hi1 hi2 hnm HFL hn1 hn0 hzk s4 HNM HQ0 hb H hJ_ hM_
     case rest =>
      obtain ⟨by_,hby,hk⟩:=hcut
      have HBY:=Lib.hid hby
      obtain ⟨fs3,hfs3⟩:=aX (fs++by_)
      have HFS3:=Lib.hid hfs3
      have HFL3:=Lib.hid (show fs3.length<=5 by rw [<-hfs3,List.length_append];have:=HFL.out;rcases hby with rfl | ⟨_,_,_,rfl⟩ <;> simp <;> omega)
      rw [hfs3] at hk
      clear hby hb hfs3
      obtain ⟨M1,kb,fv,fxs,kxs,rfl,HK⟩:=hk
      have H:=Lib.hid HK
      clear HK
      go_upto_region 21 with (go_at_call 71;refine (gplain_any H.out).mono ?_;rintro e w2 ⟨A1,first,c1,M2,rfl,pc1,pc2,hpl,HP⟩)
      clear H
      obtain ⟨xs1,hr1,hx1⟩:=(HP.fact (.head _)).reads
      have H1:=Lib.hid ((HP.add (keeps_flat first xs1) hx1).fswap.tail)
      have HR1:=Lib.hid hr1
      have HPL:=Lib.hid hpl
      have hml:=hpl.len
      have hm3:=HFL3.out
      obtain ⟨m0,hm0⟩:=aX first.length
      rw [hm0] at HR1 hml
      have HM0:=Lib.hid hm0
      have q:=HP.box (.head _);have q3:=q.cell 3;(simp at q3);clear q
      clear HP hr1 hx1 hpl hm0
      rw [HM0.out]
      go_cut [] from 12 (λw'=>KSt K bx rs L rb n (.slice A0 n c0) (.pointer (some ⟨kb,0,none⟩)) nm lo hi (fs3++first) ks' w')
      case first =>
       rename_i J_ K_ hJ_ hM_
       go_wp2_with (at_builtin;obtain ⟨i0,hI,hz0,hz1,hz2⟩:=zq infoFld;refine wpList_append_mk (by rfl) _ _ 50 (by rfl) 65 i0 _ 8 120 Tryz.underlying50 hI hz0 hz1 hz2 rfl (by decide) H1.out (by rfl) _ A1 m0 c1 xs1 (by rfl) HR1.out (H1.out.fact (.head _)).one (by unfold maxLen;omega) (by omega) ?_;intro v5 w5 M5 h5 _;obtain ⟨A5,c5,rfl⟩:=h5.form;have hq:=h5.box (.head _);have f3:=hq.frozen 3;have q3:=hq.cell 3;(simp at q3);clear hq;have T5:=Lib.hid (h5.tail.putF (news:=first) (h5.fact (.head _)));clear h5 hI hz0 hz1 hz2)
       go_meet
       case rel=>exact KSt.mk1 T5.out HM0.out
      case rest =>
       clear H1 HR1 q3 pc1 pc2
       clear w2
       obtain ⟨fs4,hfs4⟩:=aX (fs3++first)
       have HFS4:=Lib.hid hfs4
       have HFL4:=Lib.hid (show fs4.length<=7 by rw [<-hfs4,List.length_append];have:=HPL.out.len;omega)
       rw [hfs4] at hcut
       clear hfs4
       obtain ⟨M1,kb',fv,fxs,kxs,e1,HK⟩:=hcut
       obtain rfl:kb=kb':=by injection e1 with e1;injection e1 with e1;injection e1
       clear e1
       have H:=Lib.hid HK
       clear HK
       go_wp2_with fail
       go_at_call 20
       refine (H.out.take 2 (by omega) (by omega)).mono ?_
       rintro e w3 ⟨v,rfl,v1,v2,hr⟩
       replace H:=Lib.hid (H.out.turn hr);clear hr
       go_upto_if 162 with fail
       go_cut [] from 12 (λw'=>∃second,Sg.Sec fs4 second/\KSt K bx rs L rb n (.slice A0 n c0) (.pointer (some ⟨kb,0,none⟩)) nm lo hi (fs4++second) ks' w')
       case first=>as_aux_lemma =>
        rename_i J_ K_ hJ_ hM_
        by_cases hv:v=0
        .subst hv
         go_upto_region 24 with (go_at_call 71;refine (gplain_any H.out).mono ?_;rintro e w2 ⟨A1,second,c1,M2,rfl,pc1,pc2,hpl,HP⟩)
         clear H
         have HPL2:=Lib.hid hpl
         have hml2:=hpl.len
         obtain ⟨m2,hm2⟩:=aX second.length
         rw [hm2] at hml2 pc1
         have HM2:=Lib.hid hm2
         have H:=Lib.hid HP
         clear HP hpl hm2
         rw [HM2.out]
         go_cut [177] from 14 (λv177 w'=>∃b:Bool,v177=.bool b/\(b=true->∃f r,second=f::r/\Sc.ix (Sc.named (Sc.nm f)) fs4 < 0)/\∃M,MkH K M ((kb,52,#[.string nm,.int .i64 lo,.int .i64 hi,fv])::(rb,52,#[.string ⟨#[]⟩,.int .i64 0,.int .i64 0,.slice none 0 0])::bx) (⟨65,8,fv,fs4.length,fxs⟩::⟨52,4,.slice A0 n c0,n,kxs⟩::rs) ((λM W=>SlAt M W A1 second)::(λM W=>Flat M W fs4 fxs)::(λM W=>Flat M W ks' kxs)::L) w')
         case first =>
          rename_i J_ K_ hJ_ hM_
          cases second with
          | nil =>
           obtain rfl:0=m2:=HM2.out
           go_wp2_with fail
           go_quiet (fail)
           go_wp2_with fail
           go_meet
           case rel=>exact ⟨_,rfl,λh=>(by cases h),_,by first | exact H.out.drewN _ | exact H.out.drew | exact H.out⟩
          | cons f r =>
           obtain rfl:r.length+1=m2:=HM2.out
           have t1:decide ((0:Int) < ((r.length+1:Nat):Int))=true:=ac (by omega)
           obtain ⟨b1,o1,_,_,_,_,rfl,_,_,_⟩:=fld_at (H.out.fact (.head _)) 0 (by simp)
           obtain ⟨A4,c4,rfl,_,_,_⟩:=H.out.rowSl (α:=Fld) (.head _) (H.out.fact (.tail _ (.head _)))
           obtain ⟨nmf,hnmf⟩:=aX (Sc.nm f)
           have HNF:=Lib.hid hnmf
           obtain ⟨x4,hx4⟩:=aX (Sc.ix (Sc.named nmf) fs4)
           have HX4:=Lib.hid hx4
           clear hnmf hx4
           obtain ⟨wo,rfl⟩:=aY w2
           letI:Grow:=K.grow
           exact kmn_3 (_M:=[]) (_W:=W) (_b:=true) (by kernel_rfl) hn2 lo0 lo4 hi1 hi2 hnm hm3 hml HFL4 v1 v2 pc2 pc1 hml2 t1 HNF HX4 H hJ_ hM_
         case rest =>
          obtain ⟨b,rfl,hb,M4,HP⟩:=hcut
          clear H
          cases b
          .go_wp2_with fail
           go_meet
           case rel=>exact ⟨[],.inl rfl,by rw [zK];exact ⟨_,kb,fv,fxs,kxs,rfl,HP.tail⟩⟩
          .obtain ⟨f,r,hfr,hix⟩:=hb rfl
           have HIX:=Lib.hid hix
           have HFR:=Lib.hid hfr
           clear hb hfr hix
           obtain ⟨xs1,hr1,hx1⟩:=(HP.fact (.head _)).reads
           have H1:=Lib.hid ((HP.add (keeps_flat second xs1) hx1).fswap.tail)
           have hm4:=HFL4.out
           rw [HM2.out] at hr1
           have HR1:=Lib.hid hr1
           have q:=HP.box (.head _);have q3:=q.cell 3;(simp at q3);clear q
           clear HP hr1 hx1
           go_wp2_with (at_builtin;obtain ⟨i0,hI,hz0,hz1,hz2⟩:=zq infoFld;refine wpList_append_mk (by rfl) _ _ 50 (by rfl) 65 i0 _ 8 120 Tryz.underlying50 hI hz0 hz1 hz2 rfl (by decide) H1.out (by rfl) _ A1 m2 c1 xs1 (by rfl) HR1.out (H1.out.fact (.head _)).one (by unfold maxLen;omega) (by omega) ?_;intro v5 w5 M5 h5 _;obtain ⟨A5,c5,rfl⟩:=h5.form;have hq:=h5.box (.head _);have f3:=hq.frozen 3;have q3:=hq.cell 3;(simp at q3);clear hq;have T5:=Lib.hid (h5.tail.putF (news:=second) (h5.fact (.head _)));clear h5 hI hz0 hz1 hz2)
           go_meet
           case rel=>exact ⟨second,.inr ⟨HPL2.out,f,r,HFR.out,HIX.out⟩,KSt.mk1 T5.out HM2.out⟩
        .have t1:(v == 0)=false:=by rw [beq_eq_false_iff_ne];exact hv
         go_wp2_with fail
         go_meet
         case rel=>exact ⟨[],.inl rfl,by rw [zK];exact ⟨_,kb,fv,fxs,kxs,rfl,H.out⟩⟩
       case rest =>
        obtain ⟨second,hsec,hk⟩:=hcut
        have HSEC:=Lib.hid hsec
        clear H hsec
        obtain ⟨M1,kb',fv,fxs,kxs,e1,HK⟩:=hk
        obtain rfl:kb=kb':=by injection e1 with e1;injection e1 with e1;injection e1
        clear e1
        obtain ⟨A,c,M5,rfl,c1',c2',H5,_⟩:=HK.freeze (α:=Fld) rfl rfl (HK.fact (.head _))
        obtain ⟨m,hm⟩:=aX ((fs4++second).length)
        rw [hm] at H5 c1'
        have HM:=Lib.hid hm
        have H:=Lib.hid H5
        clear HK H5 hm
        go_upto_region 26 with fail
        go_cut [] from 12 (λw'=>∃M,MkH K M ((rb,52,#[.string nm,.int .i64 lo,.int .i64 hi,.slice A m c])::bx) (⟨52,4,.slice A0 n c0,n,kxs⟩::rs) ((λM W=>SlAt M W A (fs4++second))::(λM W=>Flat M W ks' kxs)::L) w')
        case first =>
         rename_i J_ K_ hJ_ hM_
         have q:=H.out.box (.head _);obtain ⟨q0,q1,q2,q3⟩:=aN4 q.cell;(simp at q0 q1 q2 q3);clear q
         have q:=H.out.box (.tail _ (.head _));obtain ⟨r0,r1,r2,r3⟩:=aN4 q.cell;(simp at r0 r1 r2 r3);obtain ⟨f0,f1,f2,f3⟩:=aN4 q.frozen;clear q
         go_wp2_with fail
         go_meet
         case rel =>
          have T:=((((H.out.swap.set0 0 (.string nm)).set0 1 (.int .i64 lo)).set0 2 (.int .i64 hi)).set0 3 (.slice A m c))
          exact ⟨_,(T.swap.unbox).fswap.tail⟩
        case rest =>
         obtain ⟨M6,H6⟩:=hcut
         clear H
         have q:=H6.box (.head _);obtain ⟨q0,q1,q2,q3⟩:=aN4 q.cell;(simp at q0 q1 q2 q3);clear q
         have H7:=Lib.hid H6.unbox
         clear H6
         rename_i hK
         apply hK
         refine wp_ret ?_
         refine zi (v:=.agg #[.string nm,.int .i64 lo,.int .i64 hi,.slice A m c]) ?_ rfl ?_
         .simp [results,Tryz.results21,go_sem,q0,q1,q2,q3]
          try rfl
         .have hs:=HSEC.out
          have hb:=HBY.out
          have hp:=HPL.out
          have hbd:=HBD.out
          have hf:Sg.Fields nm ks (fs4++second) ks':=by
           have:=Sg.Fields.mk (nm:=nm) (ks:=ks) fs ks' by_ first second hbd hb hp (by rw [HFS3.out,HFS4.out];exact hs)
           rw [HFS3.out,HFS4.out] at this
           exact this
          refine ⟨(nm,lo,hi,fs4++second),ks',A,c,kxs,_,by show _=Ending.returned (.agg #[.string nm,.int .i64 lo,.int .i64 hi,.slice A (fs4++second).length c]);rw [HM.out],by show (fs4++second).length<=c;rw [HM.out];exact c1',c2',⟨?_,lo0,lo4,hi1,hi2,hf⟩,H7.out⟩
          show nm=_
          rw [<-HN.out];exact hnm.symm
end Go.Proofs.YtobcnhmhgoccnaaGreatDoor
