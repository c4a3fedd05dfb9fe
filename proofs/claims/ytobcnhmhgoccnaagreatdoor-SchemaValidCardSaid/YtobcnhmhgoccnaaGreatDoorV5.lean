/- Parts of the proof, joined: W36a. -/
import Derived.Test.YtobcnhmhgoccnaaGreatDoorV4
set_option maxHeartbeats 100000000
set_option linter.unusedVariables false
set_option linter.unusedSimpArgs false
set_option linter.unusedSectionVars false
namespace Go.Proofs.YtobcnhmhgoccnaaGreatDoor
open Go Go.RowKit
set_option maxRecDepth 1000000 in
theorem kind_up {bx:List Box} {rs:List Rw} {L:List (List Nat->World->Prop)} {K:MkK} {ks:List Knd} {n rb c0:Nat} {A0:Option Addr} {nm:ByteArray} {lo hi x:Int} {wc:World} {u7 yF yA qd vR vJ yj yC yx yG yr yY qa yM vS yy ys vV yV yK yk yh yO yH yW vK qf yZ yU yb vW qk yf vZ ye qh vI qb yX yo ym qg qj yv yg yq yB qi yL yi yQ yn yt yT ya yP yp yR vL vN yd yS qc ql yc vP vG vH yN vX vQ yJ qe vM yI yl yD yE vY vU yu yz vT yw vO uE uP vy uH vk uk vq vr uV ua uS uK ut uJ ur vt vF uu vv ul vA uQ uU ui vs uM uD vE uF uT uY vd uZ uG uq ud vf uL uN uW vp ub uA vx uo vu us va vC vB up uO vl uc vw vg uI uX ux uh uv ve vi vc uR vh uB un uf vz vb um uC vD uj ue vo uy uz uw vn vj vm ug:Value} {J K':Act->World->Prop} {Q':Exit->Act->World->Prop} {t:Bool}
  (ht:t=true) (hn2:n<=2) (HN:Hid (n=ks.length)) (HNE:Hid (∀k∈ks,1<=(Sc.flds k).length/\(Sc.flds k).length<=20)) (HNM0:Hid (nm.size<=9223372036854775807)) (lo0:0<=lo) (lo4:lo<=4) (hi1:lo<=hi) (hi2:hi<=lo+4) (HX:Hid (Sg.okLo x)) (hn0:0 < n)
  (hk:KSt K bx rs L rb n (.slice A0 n c0) u7 nm lo hi [Sg.idF x] ks wc)
  (hJ:∀(a':Act) (w':World),(∃u8 u9 qo qp yF yA qd vR vJ yj yC yx yG yr yY qa yM vS yy ys vV yV yK yk yh yO yH yW vK qf yZ yU qn qm yb vW qk yf vZ ye qh vI qb yX yo ym qg qj yv yg yq yB qi yL yi yQ yn yt yT ya yP yp yR vL vN yd yS qc ql yc vP vG vH yN vX vQ yJ qe vM yI yl yD yE vY vU yu yz vT yw vO uE uP vy uH vk uk vq vr uV ua uS uK ut uJ ur vt vF uu vv ul vA uQ uU ui vs uM uD vE uF uT uY vd uZ uG uq ud vf uL uN uW vp ub uA vx uo vu us va vC vB up uO vl uc vw vg uI uX ux uh uv ve vi vc uR vh uB un uf vz vb um uC vD uj ue vo uy uz uw vn vj vm ug,(∃fs ks',Sg.Body nm ks fs ks'/\KSt K bx rs L rb n (.slice A0 n c0) u7 nm lo hi fs ks' w')/\a'=⟨(K.p::.slice A0 n c0::undef::undef::.pointer (some ⟨rb,0,none⟩)::.int .i64 n::.int .i64 lo::u7::u8::u9::qo::qp::undef::undef::yF::yA::qd::vR::vJ::yj::yC::yx::yG::yr::yY::qa::yM::vS::yy::ys::vV::yV::yK::yk::yh::yO::yH::yW::vK::qf::yZ::yU::qn::qm::yb::vW::qk::yf::vZ::ye::qh::vI::qb::yX::yo::ym::qg::qj::yv::yg::yq::yB::qi::yL::yi::yQ::yn::yt::yT::ya::yP::yp::yR::vL::vN::yd::yS::qc::ql::yc::vP::vG::vH::yN::vX::vQ::yJ::qe::vM::yI::yl::yD::yE::vY::vU::yu::yz::vT::yw::vO::uE::uP::vy::uH::vk::uk::vq::vr::uV::ua::uS::uK::ut::uJ::ur::vt::vF::uu::vv::ul::vA::uQ::uU::ui::vs::uM::uD::vE::uF::uT::uY::vd::uZ::uG::uq::ud::vf::uL::uN::uW::vp::ub::uA::vx::uo::vu::us::va::vC::vB::up::uO::vl::uc::vw::vg::uI::uX::ux::uh::uv::ve::vi::vc::uR::vh::uB::un::uf::vz::vb::um::uC::vD::uj::ue::vo::uy::uz::uw::vn::vj::vm::ug::[]).toArray,[]⟩)->J a' w')
  (hM:∀(a':Act) (w':World),Met J a' w'->K' a' w') :
  Code.wp Tryz.prog upCode (Exit.then K' Q') ⟨(K.p::.slice A0 n c0::undef::undef::.pointer (some ⟨rb,0,none⟩)::.int .i64 n::.int .i64 lo::u7::undef::undef::undef::undef::undef::undef::yF::yA::qd::vR::vJ::yj::yC::yx::yG::yr::yY::qa::yM::vS::yy::ys::vV::yV::yK::yk::yh::yO::yH::yW::vK::qf::yZ::yU::.int .i64 n::.bool t::yb::vW::qk::yf::vZ::ye::qh::vI::qb::yX::yo::ym::qg::qj::yv::yg::yq::yB::qi::yL::yi::yQ::yn::yt::yT::ya::yP::yp::yR::vL::vN::yd::yS::qc::ql::yc::vP::vG::vH::yN::vX::vQ::yJ::qe::vM::yI::yl::yD::yE::vY::vU::yu::yz::vT::yw::vO::uE::uP::vy::uH::vk::uk::vq::vr::uV::ua::uS::uK::ut::uJ::ur::vt::vF::uu::vv::ul::vA::uQ::uU::ui::vs::uM::uD::vE::uF::uT::uY::vd::uZ::uG::uq::ud::vf::uL::uN::uW::vp::ub::uA::vx::uo::vu::us::va::vC::vB::up::uO::vl::uc::vw::vg::uI::uX::ux::uh::uv::ve::vi::vc::uR::vh::uB::un::uf::vz::vb::um::uC::vD::uj::ue::vo::uy::uz::uw::vn::vj::vm::ug::[]).toArray,[]⟩ wc:=by
 subst ht
 conv=>arg 2;whnf
 obtain ⟨M1,kb,fv,fxs,kxs,rfl,HK⟩:=hk
 obtain ⟨g,rfl⟩:=HK.rform (.tail _ (.head _)) hn0
 have H:=aI HK
 clear HK
 go_wp2_with fail
 go_at_call 20
 refine (H.out.take n (by omega) (by omega)).mono ?_
 rintro e w3 ⟨v,rfl,v1,v2,hr⟩
 obtain ⟨z,rfl⟩:∃z':Nat,v=z':=⟨v.toNat,by omega⟩
 replace H:=aI (H.out.turn hr);clear hr
 have hzk:z < ks.length:=by rw [<-HN.out];omega
 obtain ⟨B,cB,g0,g1,g2,g3,s1,s2,s3,s4⟩:=flat_knd (H.out.fact (.tail _ (.head _))) z hzk
 obtain ⟨k,hkz⟩:=aX (ks[z])
 rw [hkz] at g0 g1 g2 g3 s1 s2 s4
 have HKZ:=aI hkz
 obtain ⟨nmo,hnmo⟩:=aX k.1
 rw [hnmo] at g0 s4
 have HQ0:=aI g0
 clear hkz g0 g1 g2 g3 s1 s2 s3
 go_wp2_with fail
 go_cut [9] from 14 (λv9 w'=>∃hi2:Int,2<=hi2/\hi2<=8/\KSt2 K bx rs L rb n (.slice (some ⟨g,0,none⟩) n c0) (.pointer (some ⟨kb,0,none⟩)) nm lo hi [Sg.idF x] ks v9 nmo 0 hi2 w')
 case first =>
  rename_i J_ K_ hJ_ hM_
  obtain ⟨wo,rfl⟩:=aY w3
  letI:Grow:=K.grow
  exact kup_0 (by kernel_rfl) hn2 lo0 lo4 hi1 hi2 hn0 v1 v2 hzk s4 hnmo HQ0 H hJ_ hM_
 case rest =>
  obtain ⟨hi2',h21,h22,hk2⟩:=hcut
  try clear hk
  clear H HQ0 v1 v2
  clear w3
  obtain ⟨M2,kb',fb,fv,fxs,kxs,e1,rfl,HK⟩:=hk2
  obtain rfl:kb=kb':=by injection e1 with e1;injection e1 with e1;injection e1
  clear e1
  have H:=aI HK
  clear HK
  go_wp2_with fail
  go_at_call 20
  refine (H.out.take 5 (by omega) (by omega)).mono ?_
  rintro e w3 ⟨v,rfl,v1,v2,hr⟩
  replace H:=aI (H.out.turn hr);clear hr
  go_upto_if 60 with fail
  go_cut [] from 14 (λw'=>∃flo:Int,0<=flo/\flo<=1/\KSt2 K bx rs L rb n (.slice (some ⟨g,0,none⟩) n c0) (.pointer (some ⟨kb,0,none⟩)) nm lo hi [Sg.idF x] ks (.pointer (some ⟨fb,0,none⟩)) nmo flo hi2' w')
  case first =>
   rename_i J_ K_ hJ_ hM_
   by_cases hv:v=0
   .subst hv
    have q:=H.out.box (.head _);have f4:=q.frozen 4;have q4:=q.cell 4;(simp at q4);clear q
    go_wp2_with fail
    go_meet
    case rel=>exact ⟨1,by omega,by omega,_,kb,fb,fv,fxs,kxs,rfl,rfl,H.out.set0 4 (.int .i64 1)⟩
   .have t1:(v == 0)=false:=by rw [beq_eq_false_iff_ne];exact hv
    go_wp2_with fail
    go_meet
    case rel=>exact ⟨0,by omega,by omega,_,kb,fb,fv,fxs,kxs,rfl,rfl,H.out⟩
  case rest =>
   obtain ⟨flo,hf1,hf2,hk2⟩:=hcut
   clear H v1 v2
   clear w3
   obtain ⟨M2,kb',fb',fv,fxs,kxs,e1,e2,HK⟩:=hk2
   obtain rfl:kb=kb':=by injection e1 with e1;injection e1 with e1;injection e1
   obtain rfl:fb=fb':=by injection e2 with e2;injection e2 with e2;injection e2
   clear e1 e2
   have H:=aI HK
   clear HK
   go_upto_region 10 with fail
   go_cut [] from 14 (λw'=>KSt K bx rs L rb n (.slice (some ⟨g,0,none⟩) n c0) (.pointer (some ⟨kb,0,none⟩)) nm lo hi ([Sg.idF x]++[Sg.ofF nmo flo hi2']) ks w')
   case first =>
    rename_i J_ K_ hJ_ hM_
    have q:=H.out.box (.head _);obtain ⟨q0,q1,q2,q3,q4,q5,q6,q7⟩:=aN8 q.cell;(simp at q0 q1 q2 q3 q4 q5 q6 q7);clear q
    have q:=H.out.box (.tail _ (.head _));have r3:=q.cell 3;(simp at r3);clear q
    go_wp2_with (at_builtin;obtain ⟨i0,hI,hz0,hz1,hz2⟩:=zq infoFld;have hfl:([Sg.idF x]:List Fld).length<=8:=(by simp);refine wpList_append_mk (by rfl) _ _ 50 (by rfl) 65 i0 _ 8 120 Tryz.underlying50 hI hz0 hz1 hz2 rfl (by decide) (H.out.swap.below (aP _ _)) (by rfl) _ _ 1 1 [.string Sg.bof,.string nmo,.string Sg.be,.int .i64 1,.int .i64 flo,.int .i64 hi2',.slice none 0 0,.slice none 0 0] (by rfl) (reads_blk (zj _ _ _) rfl) (by simp [Value.oneCell']) (by unfold maxLen;omega) (by omega) ?_;intro v5 w5 M5 h5 _;obtain ⟨A5,c5,rfl⟩:=h5.form;have hq:=h5.box (.head _);have f3:=hq.frozen 3;have q3:=hq.cell 3;(simp at q3);clear hq;have T5:=aI (h5.putF (news:=[Sg.ofF nmo flo hi2']) (Flat.single (fld_mk (by decide) s4 (by decide) (by unfold inI;omega) (by unfold inI;omega) (by unfold inI;omega) rep_nil rep_nil)));clear h5 hI hz0 hz1 hz2 hfl)
    go_meet
    case rel=>exact KSt.mk1 T5.out.swap.unbox rfl
   case rest =>
    have HB:=aI (show 0<=flo/\flo<=1/\2<=hi2'/\hi2'<=8 from ⟨hf1,hf2,h21,h22⟩)
    clear H
    obtain ⟨fs,hfs⟩:=aX ([Sg.idF x]++[Sg.ofF nmo flo hi2'])
    have HFS:=aI hfs
    have HFL:=aI (show fs.length<=2 by rw [<-hfs];simp)
    rw [hfs] at hcut
    clear hfs hf1 hf2 h21 h22
    obtain ⟨M2,kb',fv,fxs,kxs,e1,HK⟩:=hcut
    obtain rfl:kb=kb':=by injection e1 with e1;injection e1 with e1;injection e1
    clear e1
    obtain ⟨B,cB,g0,g1,g2,g3,s1,s2,s3,_⟩:=flat_knd (HK.fact (.tail _ (.head _))) z hzk
    rw [HKZ.out] at g0 g1 g2 g3 s1 s2
    rw [hnmo] at g0
    have q0:=HK.rcell (.tail _ (.head _)) hn0 g0
    have q1:=HK.rcell (.tail _ (.head _)) hn0 g1
    have q2:=HK.rcell (.tail _ (.head _)) hn0 g2
    have q3:=HK.rcell (.tail _ (.head _)) hn0 g3
    obtain ⟨len,hlen⟩:=aX ((Sc.flds k).length)
    have s5:(Sc.flds k).length<=9223372036854775807:=by omega
    have CC:=λw' (hb:Below wc.heap.size wc w')=>copied_any (Sc.flds k) B cB nmo k.2.1 k.2.2.1 w' (s1.keep (za hb)) s5
    rw [hlen] at q3 CC
    obtain ⟨c,hc⟩:=aX (Sc.ix Sc.copyable (Sc.flds k))
    rw [hc] at CC
    have HC:=aI hc
    have HLEN:=aI hlen
    have C2:=aI CC
    have H:=aI HK
    have c1:=(Sc.ix_bd Sc.copyable (Sc.flds k)).1
    rw [hc] at c1
    clear HK hc hlen CC g0 g1 g2 g3 s1 s2 s3 s5
    have k1:(z:Int) < (n:Int):=by have:=HN.out;omega
    have k0:(0:Int)<=(z:Int):=by omega
    generalize k.2.1=y1 at *
    generalize k.2.2.1=y2 at *
    go_upto_region 12 with (go_at_call 69;(with_reducible refine (C2.out _ (zf _ _)).mono ?_);rintro e w3 ⟨rfl,hb⟩;replace H:=aI (H.out.below hb);clear hb)
    go_cut [79] from 14 (λv79 w'=>∃b:Bool,v79=.bool b/\(b=true->0<=c)/\KSt K bx rs L rb n (.slice (some ⟨g,0,none⟩) n c0) (.pointer (some ⟨kb,0,none⟩)) nm lo hi fs ks w')
    case first =>
     rename_i J_ K_ hJ_ hM_
     clear C2 q0 q1 q2 q3
     by_cases hc0:0<=c
     .go_wp2_with (go_at_call 20;refine (H.out.take 2 (by omega) (by omega)).mono ?_;rintro e w3 ⟨v,rfl,v1,v2,hr⟩;replace H:=aI (H.out.turn hr);clear hr)
      go_meet
      case rel=>exact ⟨_,rfl,λ_=>hc0,_,kb,fv,fxs,kxs,rfl,H.out⟩
     .have t1:decide (0<=c)=false:=ad hc0
      go_wp2_with fail
      go_meet
      case rel=>exact ⟨_,rfl,λh=>(by cases h),_,kb,fv,fxs,kxs,rfl,H.out⟩
    case rest =>
     obtain ⟨b,rfl,hb,hk2⟩:=hcut
     clear H C2 q0 q1 q2 q3
     clear w3
     go_upto_if 79 with fail
     go_cut [] from 14 (λw'=>∃same,Sg.Same k same/\KSt K bx rs L rb n (.slice (some ⟨g,0,none⟩) n c0) (.pointer (some ⟨kb,0,none⟩)) nm lo hi (fs++same) ks w')
     case first =>
      rename_i J_ K_ hJ_ hM_
      cases b
      .go_wp2_with fail
       go_meet
       case rel=>exact ⟨[],.none,by rw [zK];exact hk2⟩
      .have hc0:=hb rfl
       obtain ⟨ci,hci,hcc,hcp⟩:=Sc.ix_get (p:=Sc.copyable) (l:=Sc.flds k) (by rw [HC.out];exact hc0)
       rw [HC.out] at hcc
       subst hcc
       go_wp2_with fail
       obtain ⟨wo,rfl⟩:=aY wc
       obtain ⟨M3,kb',fv,fxs,kxs,e1,HK⟩:=hk2
       obtain rfl:kb=kb':=by injection e1 with e1;injection e1 with e1;injection e1
       clear e1
       obtain ⟨B,cB,g0,g1,g2,g3,s1,s2,s3,_⟩:=flat_knd (HK.fact (.tail _ (.head _))) z hzk
       rw [HKZ.out] at g3 s1
       rw [HLEN.out] at g3
       obtain ⟨b0,o0,_,_,_,_,rfl,_,_,_,_,_,_,_,_,_,_,_,_,_,_,s6⟩:=fld_at s1 ci hci
       have HQ3:=aI g3
       have H:=aI (HK.add (keeps_sl _ _) s1)
       have HCP:=aI hcp
       have hcl:ci < len:=by rw [<-HLEN.out];exact hci
       have k2:(ci:Int) < (len:Int):=by omega
       obtain ⟨nm2,hnm2⟩:=aX (Sc.nm (Sc.flds k)[ci])
       rw [hnm2] at s6
       have HN2:=aI hnm2
       clear HK g0 g1 g2 g3 s1 s2 s3 hcp hnm2
       letI:Grow:=K.grow
       exact kup_1 (by kernel_rfl) hn2 lo0 lo4 hi1 hi2 hn0 hzk s4 hnmo HFL k1 k0 hci c1 hc0 hb HQ3 H HCP hcl k2 s6 HN2 hJ_ hM_
     case rest =>
      obtain ⟨same,hsame,hk2⟩:=hcut
      clear hb
      obtain ⟨fs2,hfs2⟩:=aX (fs++same)
      have HFS2:=aI hfs2
      have HFL2:=aI (show fs2.length<=3 by rw [<-hfs2,aK];have:=HFL.out;have:=hsame.len;omega)
      rw [hfs2] at hk2
      have HSAME:=aI hsame
      clear hfs2 hsame
      go_upto_region 14 with fail
      go_cut [106] from 14 (λv106 w'=>∃b:Bool,v106=.bool b/\(b=true->Sc.ix (Sc.named Sg.btotal) (Sc.flds k) < 0)/\KSt K bx rs L rb n (.slice (some ⟨g,0,none⟩) n c0) (.pointer (some ⟨kb,0,none⟩)) nm lo hi fs2 ks w')
      case first =>
       rename_i J_ K_ hJ_ hM_
       obtain ⟨M3,kb',fv,fxs,kxs,e1,HK⟩:=hk2
       obtain rfl:kb=kb':=by injection e1 with e1;injection e1 with e1;injection e1
       clear e1
       obtain ⟨B,cB,g0,g1,g2,g3,s1,s2,s3,_⟩:=flat_knd (HK.fact (.tail _ (.head _))) z hzk
       rw [HKZ.out] at g3 s1 s2
       have CC:=has_any (Sc.flds k) B cB Sg.btotal wc s1 (by omega)
       rw [HLEN.out] at g3 CC
       have q3:=HK.rcell (.tail _ (.head _)) hn0 g3
       obtain ⟨r,hr⟩:=aX (Sc.ix (Sc.named Sg.btotal) (Sc.flds k))
       rw [hr] at CC
       have HRR:=aI hr
       have C2:=aI CC
       have H:=aI HK
       clear HK CC g0 g1 g2 g3 s1 s2 s3
       by_cases hr0:r < 0
       .go_wp2_with (first | (go_at_call 70;(refine C2.out.mono ?_);rintro e w3 ⟨rfl,hb⟩;replace H:=aI (H.out.below hb);clear hb) | (go_at_call 20;refine (H.out.take 3 (by omega) (by omega)).mono ?_;rintro e w4 ⟨v,rfl,v1,v2,hr⟩;replace H:=aI (H.out.turn hr);clear hr))
        go_meet
        case rel=>exact ⟨_,rfl,λ_=>(by rw [HRR.out];exact hr0),_,kb,fv,fxs,kxs,rfl,H.out⟩
       .have t1:decide (r < 0)=false:=ad hr0
        go_wp2_with (go_at_call 70;(refine C2.out.mono ?_);rintro e w3 ⟨rfl,hb⟩;replace H:=aI (H.out.below hb);clear hb)
        go_meet
        case rel=>exact ⟨_,rfl,λh=>(by cases h),_,kb,fv,fxs,kxs,rfl,H.out⟩
      case rest =>
       obtain ⟨b,rfl,hb,hk2⟩:=hcut
       go_upto_if 106 with fail
       go_cut [] from 14 (λw'=>∃part ks',Sg.Part nm ks z hzk part ks'/\KSt K bx rs L rb n (.slice (some ⟨g,0,none⟩) n c0) (.pointer (some ⟨kb,0,none⟩)) nm lo hi (fs2++part) ks' w')
       case first =>
        rename_i J_ K_ hJ_ hM_
        cases b
        .go_wp2_with fail
         go_meet
         case rel=>exact ⟨[],ks,.none,by rw [zK];exact hk2⟩
        .have HR0:=aI (hb rfl)
         clear hb
         obtain ⟨M3,kb',fv,fxs,kxs,e1,HK⟩:=hk2
         obtain rfl:kb=kb':=by injection e1 with e1;injection e1 with e1;injection e1
         clear e1
         have H:=aI HK
         clear HK
         go_wp2_with fail
         go_at_call 20
         refine (H.out.take 3 (by omega) (by omega)).mono ?_
         rintro e w3 ⟨v,rfl,v1,v2,hr⟩
         obtain ⟨ls,rfl⟩:∃z':Nat,v=z':=⟨v.toNat,by omega⟩
         replace H:=aI (H.out.turn hr);clear hr
         go_upto_region 16 with fail
         go_cut [] from 14 (λw'=>∃d:Nat,d < 8/\KSt K bx rs L rb n (.slice (some ⟨g,0,none⟩) n c0) (.pointer (some ⟨kb,0,none⟩)) nm lo hi (fs2++[Sg.partF ls (ls+d)]) ks w')
         case first =>
          rename_i J_ K_ hJ_ hM_
          obtain ⟨wo,rfl⟩:=aY w3
          letI:Grow:=K.grow
          exact kup_2 (by kernel_rfl) hn2 lo0 lo4 hi1 hi2 hn0 hzk s4 hnmo c1 k1 k0 HFL2 v1 v2 H hJ_ hM_
         case rest =>
          obtain ⟨d,hd,hk2⟩:=hcut
          clear H
          clear w3
          go_wp2_with fail
          obtain ⟨wo,rfl⟩:=aY wc
          obtain ⟨fs5,hfs5⟩:=aX (fs2++[Sg.partF ls (ls+d)])
          have HFS5:=aI hfs5
          rw [hfs5] at hk2
          clear hfs5
          obtain ⟨M3,kb',fv,fxs,kxs,e1,HK⟩:=hk2
          obtain rfl:kb=kb':=by injection e1 with e1;injection e1 with e1;injection e1
          clear e1
          obtain ⟨B,cB,g0,g1,g2,g3,s1,s2,s3,_⟩:=flat_knd (HK.fact (.tail _ (.head _))) z hzk
          rw [HKZ.out] at g3 s1 s2
          have hl1:=HNE.out k (by rw [<-HKZ.out];exact ze hzk)
          obtain ⟨b0,o0,xs0,rfl,hxl,hxf,hxc⟩:=s1.reads_on (by omega)
          rw [HLEN.out] at g3 s2 hl1 hxl
          have HQ3:=aI g3
          have HXC:=aI hxc
          have HXF:=aI hxf
          have HXL:=aI (show xs0.length=len*8 from hxl)
          have H:=aI HK
          clear HK g0 g1 g2 g3 s1 s3 hxc hxf hxl
          obtain ⟨i0,hI,hz0,hz1,hz2⟩:=zq infoFld
          have HI:=aI (show _/\_/\_/\_ from ⟨hI,hz0,hz1,hz2⟩)
          clear hI hz0 hz1 hz2
          have hb0:=H.out.gmLt
          letI:Grow:=lateGrow K.gm 48 K.sl wo.heap.size 65 (len*8) (totC nm)
          exact kup_3 (by kernel_rfl) hn2 HN HNM0 lo0 lo4 hi1 hi2 hn0 hzk HKZ s4 hnmo HLEN c1 k1 k0 HR0 v1 v2 hd HFS5 s2 hl1 HQ3 HXC HXF HXL H HI hb0 hJ_ hM_
       case rest =>
        obtain ⟨part,ks',hpart,hk2⟩:=hcut
        have HP:=aI hpart
        clear hpart hb
        go_wp2_with fail
        go_meet
        case rel =>
         refine ⟨fs2++part,ks',?_,hk2⟩
         have hb1:=HB.out
         have hs1:=HSAME.out
         have hx1:=HX.out
         have:=Sg.Body.cons (nm:=nm) ks z hzk x flo hi2' same part ks' hx1 hb1.1 hb1.2.1 hb1.2.2.1 hb1.2.2.2 (by rw [HKZ.out];exact hs1) HP.out
         rw [HKZ.out,hnmo] at this
         have e:[Sg.idF x,Sg.ofF nmo flo hi2']=fs:=HFS.out
         rw [e,HFS2.out] at this
         exact this
end Go.Proofs.YtobcnhmhgoccnaaGreatDoor
