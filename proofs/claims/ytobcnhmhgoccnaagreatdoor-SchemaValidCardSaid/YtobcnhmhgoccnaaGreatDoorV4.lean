/- Parts of the proof, joined: W36p. -/
import Derived.Test.YtobcnhmhgoccnaaGreatDoorV3
set_option maxRecDepth 1000000
set_option maxHeartbeats 100000000
set_option linter.unusedVariables false
set_option linter.unusedSimpArgs false
set_option linter.unusedSectionVars false
namespace Go.Proofs.YtobcnhmhgoccnaaGreatDoor
open Go Go.RowKit
section
noncomputable def kup_0_code:Code:=((Tryz.f21.body.bind (regAt 7)).getD .skip)
theorem kup_0 {bx:List Box} {rs:List Rw} {L:List (List Nat->World->Prop)} {K:MkK} {ks:List Knd} {n:Nat} {rb:Nat} {c0:Nat} {nm:ByteArray} {lo:Int} {hi:Int} {x:Int} {yD yy qb vQ vJ yh yA yv yE yp yW yY yK vS yw yq vV yT yI yi yf yL yF yU vK qd yX yS yd vY yc qf vI yZ yV ym yk qe qh yt ye yo yz qg yJ yg yO yl yr yR vZ yN yn yP vL vN yb yQ qa qi ya vP vG vH yM vW vR yH qc vM yG yj yB yC vX vU ys yx vT yu vO uE uP vy uH vk uk vq vr uV ua uS uK ut uJ ur vt vF uu vv ul vA uQ uU ui vs uM uD vE uF uT uY vd uZ uG uq ud vf uL uN uW vp ub uA vx uo vu us va vC vB up uO vl uc vw vg uI uX ux uh uv ve vi vc uR vh uB un uf vz vb um uC vD uj ue vo uy uz uw vn vj vm ug:Value} {M1:List Nat} {kb:Nat} {fv:Value} {fxs:List Value} {kxs:List Value} {g:Nat} {z:Nat} {k:Knd} {nmo:ByteArray} {wo:World}  {J_ K_:Act->World->Prop} {Q_:Exit->Act->World->Prop} {cd_:Code} (hcd_:cd_=kup_0_code) (_hn2:n<=2) (_lo0:(0:Int)<=lo) (_lo4:lo<=(4:Int)) (_hi1:lo<=hi) (_hi2:hi<=lo+(4:Int)) (hn0:0 < n) (v1:(0:Int)<=(↑z:Int)) (v2:(↑z:Int) < (↑n:Int)) (_hzk:z < ks.length) (_s4:nmo.size<=9223372036854775807) (_hnmo:k.fst=nmo) (HQ0:Hid (kxs[z*4]?=some (Value.string nmo))) (H: Hid (MkH K M1 ((kb,(52:TypeId),#[Value.string nm,Value.int IntKind.i64 lo,Value.int IntKind.i64 hi,fv])::(rb,(52:TypeId),#[Value.string { data:=#[] },Value.int IntKind.i64 (0:Int),Value.int IntKind.i64 (0:Int),Value.slice none 0 0])::bx) ({ e:=(65:TypeId),size:=8,v:=fv,n:=[Sg.idF x].length,xs:=fxs }::{ e:=(52:TypeId),size:=4,v:=Value.slice (some (Addr.mk (g) (0) none)) n c0,n:=n,xs:=kxs }::rs) ((λM W=>Flat M W [Sg.idF x] fxs)::(λM W=>Flat M W ks kxs)::L) wo))
  (hJ_:∀(a':Act) (w':World),(∃u9 yD yy qb vQ vJ yh yA yv yE yp yW yY yK vS yw yq vV yT yI yi yf yL yF yU vK qd yX yS ql qj qm qk qn yd vY yc qf vI yZ yV ym yk qe qh yt ye yo yz qg yJ yg yO yl yr yR vZ yN yn yP vL vN yb yQ qa qi ya vP vG vH yM vW vR yH qc vM yG yj yB yC vX vU ys yx vT yu vO uE uP vy uH vk uk vq vr uV ua uS uK ut uJ ur vt vF uu vv ul vA uQ uU ui vs uM uD vE uF uT uY vd uZ uG uq ud vf uL uN uW vp ub uA vx uo vu us va vC vB up uO vl uc vw vg uI uX ux uh uv ve vi vc uR vh uB un uf vz vb um uC vD uj ue vo uy uz uw vn vj vm ug,((∃hi2,(2:Int)<=hi2/\hi2<=(8:Int)/\KSt2 K bx rs L rb n (Value.slice (some (Addr.mk (g) (0) none)) n c0) (Value.pointer (some (Addr.mk (kb) (0) none))) nm lo hi [Sg.idF x] ks u9 nmo (0:Int) hi2 w'))/\a'=⟨(K.p::(Value.slice (some (Addr.mk (g) (0) none)) n c0)::undef::undef::(Value.pointer (some (Addr.mk (rb) (0) none)))::(Value.int IntKind.i64 (↑n:Int))::(Value.int IntKind.i64 lo)::(Value.pointer (some (Addr.mk (kb) (0) none)))::(Value.int IntKind.i64 (↑z:Int))::u9::undef::undef::undef::undef::yD::yy::qb::vQ::vJ::yh::yA::yv::yE::yp::yW::yY::yK::vS::yw::yq::vV::yT::yI::yi::yf::yL::yF::yU::vK::qd::yX::yS::ql::qj::qm::qk::qn::yd::vY::yc::qf::vI::yZ::yV::ym::yk::qe::qh::yt::ye::yo::yz::qg::yJ::yg::yO::yl::yr::yR::vZ::yN::yn::yP::vL::vN::yb::yQ::qa::qi::ya::vP::vG::vH::yM::vW::vR::yH::qc::vM::yG::yj::yB::yC::vX::vU::ys::yx::vT::yu::vO::uE::uP::vy::uH::vk::uk::vq::vr::uV::ua::uS::uK::ut::uJ::ur::vt::vF::uu::vv::ul::vA::uQ::uU::ui::vs::uM::uD::vE::uF::uT::uY::vd::uZ::uG::uq::ud::vf::uL::uN::uW::vp::ub::uA::vx::uo::vu::us::va::vC::vB::up::uO::vl::uc::vw::vg::uI::uX::ux::uh::uv::ve::vi::vc::uR::vh::uB::un::uf::vz::vb::um::uC::vD::uj::ue::vo::uy::uz::uw::vn::vj::vm::ug::[]).toArray,[]⟩)->J_ a' w') (hM_:∀(a':Act) (w':World),Met J_ a' w'->K_ a' w') :
  Code.wp Tryz.prog cd_ (Exit.then K_ Q_) ⟨(K.p::(Value.slice (some (Addr.mk (g) (0) none)) n c0)::undef::undef::(Value.pointer (some (Addr.mk (rb) (0) none)))::(Value.int IntKind.i64 (↑n:Int))::(Value.int IntKind.i64 lo)::(Value.pointer (some (Addr.mk (kb) (0) none)))::(Value.int IntKind.i64 (↑z:Int))::undef::undef::undef::undef::undef::yD::yy::qb::vQ::vJ::yh::yA::yv::yE::yp::yW::yY::yK::vS::yw::yq::vV::yT::yI::yi::yf::yL::yF::yU::vK::qd::yX::yS::(Value.int IntKind.i64 (↑n:Int))::(Value.bool true)::K.p::(Value.int IntKind.i64 (↑n:Int))::(Value.int IntKind.i64 (↑z:Int))::yd::vY::yc::qf::vI::yZ::yV::ym::yk::qe::qh::yt::ye::yo::yz::qg::yJ::yg::yO::yl::yr::yR::vZ::yN::yn::yP::vL::vN::yb::yQ::qa::qi::ya::vP::vG::vH::yM::vW::vR::yH::qc::vM::yG::yj::yB::yC::vX::vU::ys::yx::vT::yu::vO::uE::uP::vy::uH::vk::uk::vq::vr::uV::ua::uS::uK::ut::uJ::ur::vt::vF::uu::vv::ul::vA::uQ::uU::ui::vs::uM::uD::vE::uF::uT::uY::vd::uZ::uG::uq::ud::vf::uL::uN::uW::vp::ub::uA::vx::uo::vu::us::va::vC::vB::up::uO::vl::uc::vw::vg::uI::uX::ux::uh::uv::ve::vi::vc::uR::vh::uB::un::uf::vz::vb::um::uC::vD::uj::ue::vo::uy::uz::uw::vn::vj::vm::ug::[]).toArray,[]⟩ wo:=by
 subst hcd_
 conv=>arg 2;whnf
 letI:Grow:=K.grow
 apply zx (C:=λw'=>K.R wo w') (n:=184) (m:=12) (l1:=[_,_,_,_,_,_,_,_,_,_,_,_]) (l2:=[_]);rfl;rfl;kernel_rfl;rfl;kernel_rfl;exact K.drew wo;exact λu u' h hb=>h.trans hb
 iterate 2 ((apply aHx;·(intro w' hC hf;clear hf hC;go_wp2_with (fail);apply aBx;simp only [zC];exact rfl));(try simp only [zn]))
 (apply aHx;·(intro w' hC hf;have k1:(z:Int) < (n:Int):=(by omega);clear hf hC;go_wp2_with (fail);apply aBx;simp only [zC];exact rfl));(try simp only [zn])
 (apply aHx;·(intro w' hC hf;clear hf hC;go_wp2_with (fail);apply aBx;simp only [zC];exact rfl));(try simp only [zn])
 (apply aHx;·(intro w' hC hf;have q:=(H.out.turn hC).rcell (.tail _ (.head _)) hn0 HQ0.out;clear hf hC;go_wp2_with (fail);apply aBx;simp only [zC];exact rfl));(try simp only [zn])
 apply zb (litT_kept K wo.heap.size 4 3 (λcs=>cs=#[.int .i64 4,.int .i64 3,.int .i64 8,.int .i64 2]) H.out.gmLt)
 .intro w' hC hf;unfold RG.Gives;clear hf
  have hs:=aI (K.size hC)
  clear hC
  go_wp2_with fail
  refine zd rfl (K.grown (by go_grown)) ?_;simp only [zC]
  exact ⟨_,_,rfl,rfl,hs.out,zj _ _ _⟩
 intro v52;(try simp only [zn])
 (apply aHx;·(intro w' hC hf;clear hf hC;go_wp2_with (fail);apply aBx;simp only [zC];exact rfl));(try simp only [zn])
 apply zb (T:=λv _=>∃z:Nat,v=.int .i64 (z:Int)/\z < 4) (λv w w' h _=>h)
 .intro w' hC hf;unfold RG.Gives;clear hf
  go_wp2_with fail
  go_at_call 20
  refine ((H.out.turn hC).take 4 (by omega) (by omega)).mono ?_
  rintro e w3 ⟨v,rfl,v1,v2,hr⟩
  obtain ⟨z,rfl⟩:∃z':Nat,v=z':=⟨v.toNat,by omega⟩
  go_wp2_with fail
  refine zd rfl hr ?_;simp only [zC];exact ⟨z,rfl,by omega⟩
 intro v54;(try simp only [zn])
 apply zb (T:=PtrT wo.heap.size 3 (λcs i=>∃x:Int,cs[i]?=some (.int .i64 x)/\2<=x/\x<=8)) (ptrT_kept K _ _ _ H.out.gmLt)
 .intro w' hC hf;unfold RG.Gives;obtain ⟨z,rfl,z1⟩:=hf.1 rfl;obtain ⟨cs,N,rfl,rfl,hge,hblk⟩:=hf.2.1 rfl;clear hf
  have k1:(z:Int) < 4:=by omega
  go_wp2_with fail
  refine zd rfl (Grow.refl _) ?_;simp only [zC];exact ⟨_,N,z,by first | rfl | simp [Addr.add],(by obtain ⟨x,h1,h2,h3⟩:=his_at z z1;exact ⟨x,h3,h1,h2⟩),hge,hblk⟩
 intro v55;(try simp only [zn])
 apply zb (T:=λv _=>∃x:Int,v=.int .i64 x/\2<=x/\x<=8) (λv w w' h _=>h)
 .intro w' hC hf;unfold RG.Gives;obtain ⟨cs,N,i,rfl,⟨x,hx,hok⟩,hge,hblk⟩:=hf.1 rfl;have q:=hblk.cell i;rw [hx] at q;clear hC;clear hf
  go_wp2_with fail
  refine zd rfl (Grow.refl _) ?_;simp only [zC];exact ⟨x,rfl,hok⟩
 intro v56;(try simp only [zn])
 apply zb (T:=λv _=>∃x:Int,v=.agg #[.string Sg.bof,.string nmo,.string Sg.be,.int .i64 1,.int .i64 0,.int .i64 x,.slice none 0 0,.slice none 0 0]/\2<=x/\x<=8) (λv w w' h _=>h)
 .intro w' hC hf;unfold RG.Gives;obtain ⟨x,rfl,hok⟩:=hf.1 rfl;clear hC;clear hf
  go_wp2_with fail
  refine zd rfl (Grow.refl _) ?_;simp only [zC];exact ⟨x,rfl,hok⟩
 intro v57;(try simp only [zn])
 apply zb (ptrT_kept K wo.heap.size 65 (λcs i=>cs=#[.string ⟨#[]⟩,.string ⟨#[]⟩,.string ⟨#[]⟩,.int .i64 0,.int .i64 0,.int .i64 0,.slice none 0 0,.slice none 0 0]/\i=0) H.out.gmLt)
 .intro w' hC hf;unfold RG.Gives;clear hf
  have hs:=aI (K.size hC)
  clear hC
  go_wp2_with fail
  refine zd rfl (K.grown (by go_grown)) ?_;simp only [zC]
  exact ⟨_,_,0,rfl,⟨rfl,rfl⟩,hs.out,zj _ _ _⟩
 intro v9;(try simp only [zn])
 apply RG.wpT_done
 intro w4 hC hall
 obtain ⟨cs,fb,i,rfl,⟨rfl,rfl⟩,hge,hblk⟩:=hall.1
 obtain ⟨x2,rfl,x3,x4⟩:=hall.2.1
 have T:=aI (H.out.adopt hC hge hblk)
 have q:=hblk;obtain ⟨f0,f1,f2,f3,f4,f5,f6,f7⟩:=aN8 q.frozen;obtain ⟨q0,q1,q2,q3,q4,q5,q6,q7⟩:=aN8 q.cell;(simp at q0 q1 q2 q3 q4 q5 q6 q7);clear q
 clear hall hC hge hblk
 go_wp2_with fail
 go_meet
 case rel =>
  have T1:=(((((((T.out.set0 0 (.string Sg.bof)).set0 1 (.string nmo)).set0 2 (.string Sg.be)).set0 3 (.int .i64 1)).set0 4 (.int .i64 0)).set0 5 (.int .i64 x2)).set0 6 (.slice none 0 0)).set0 7 (.slice none 0 0)
  exact ⟨x2,x3,x4,_,kb,fb,fv,fxs,kxs,rfl,rfl,T1⟩
end
section
noncomputable def kup_1_code:Code:=((Tryz.f21.body.bind (regAt 13)).getD .skip)
theorem kup_1 {bx:List Box} {rs:List Rw} {L:List (List Nat->World->Prop)} {K:MkK} {ks:List Knd} {n:Nat} {rb:Nat} {c0:Nat} {nm:ByteArray} {lo:Int} {hi:Int} {kb:Nat} {g:Nat} {z:Nat} {k:Knd} {nmo:ByteArray} {fb:Nat} {fs:List Fld} {len:Nat} {yG yB qe vS vK yk yD yy yH ys yZ qb yN vT yz yt vW yW yL yl yi yO yI yX vL qg qa yV vZ vH yd vX ql yg yb yf qi vJ qc yY yp yn qh qk yw yh yr yC qj yM yj yR yo yu yU yc yQ yq yS vM vO ye yT qd qm vQ vG vI yP vY vR yK qf vN yJ ym yE yF ya vV yv yA vU yx vP uE uP vy uH vk uk vq vr uV ua uS uK ut uJ ur vt vF uu vv ul vA uQ uU ui vs uM uD vE uF uT uY vd uZ uG uq ud vf uL uN uW vp ub uA vx uo vu us va vC vB up uO vl uc vw vg uI uX ux uh uv ve vi vc uR vh uB un uf vz vb um uC vD uj ue vo uy uz uw vn vj vm ug:Value} {ci:Nat} {wo:World} {M3:List Nat} {fv:Value} {fxs:List Value} {kxs:List Value} {cB:Nat} {b0:Nat} {o0:Nat} {nm2:ByteArray}  {J_ K_:Act->World->Prop} {Q_:Exit->Act->World->Prop} {cd_:Code} (hcd_:cd_=kup_1_code) (_hn2:n<=2) (_lo0:(0:Int)<=lo) (_lo4:lo<=(4:Int)) (_hi1:lo<=hi) (_hi2:hi<=lo+(4:Int)) (hn0:0 < n) (_hzk:z < ks.length) (_s4:nmo.size<=9223372036854775807) (_hnmo:k.fst=nmo) (HFL:Hid (fs.length<=2)) (k1:(↑z:Int) < (↑n:Int)) (k0:(0:Int)<=(↑z:Int)) (hci:ci < (Sc.flds k).length) (_c1:(-1:Int)<=(↑ci:Int)) (hc0:(0:Int)<=(↑ci:Int)) (_hb:True->(0:Int)<=(↑ci:Int)) (HQ3:Hid (kxs[z*4+3]?=some (Value.slice (some (Addr.mk (b0) (o0) none)) len cB))) (H: Hid (MkH K M3 ((kb,(52:TypeId),#[Value.string nm,Value.int IntKind.i64 lo,Value.int IntKind.i64 hi,fv])::(rb,(52:TypeId),#[Value.string { data:=#[] },Value.int IntKind.i64 (0:Int),Value.int IntKind.i64 (0:Int),Value.slice none 0 0])::bx) ({ e:=(65:TypeId),size:=8,v:=fv,n:=fs.length,xs:=fxs }::{ e:=(52:TypeId),size:=4,v:=Value.slice (some (Addr.mk (g) (0) none)) n c0,n:=n,xs:=kxs }::rs) ((λM W=>SlAt M W (some (Addr.mk (b0) (o0) none)) (Sc.flds k))::(λM W=>Flat M W fs fxs)::(λM W=>Flat M W ks kxs)::L) wo)) (HCP:Hid (Sc.copyable (Sc.flds k)[ci]=true)) (_hcl:ci < len) (k2:(↑ci:Int) < (↑len:Int)) (s6:nm2.size<=9223372036854775807) (HN2:Hid (Sc.nm (Sc.flds k)[ci]=nm2))
  (hJ_:∀(a':Act) (w':World),(∃yG yB qe vS vK yk yD yy yH ys yZ qb yN vT yz yt vW yW yL yl yi yO yI yX vL qg qa yV vZ vH yd vX ql yg yb yf qi vJ qc yY yp yn qh qk yw yh yr yC qj yM yj yR yo yu yU yc yQ yq yS vM vO ye yT qd qm qn vQ vG vI yP vY vR yK qf vN yJ ym yE yF ya vV yv yA vU yx vP uE uP vy uH vk uk vq vr uV ua uS uK ut uJ ur vt vF uu vv ul vA uQ uU ui vs uM uD vE uF uT uY vd uZ uG uq ud vf uL uN uW vp ub uA vx uo vu us va vC vB up uO vl uc vw vg uI uX ux uh uv ve vi vc uR vh uB un uf vz vb um uC vD uj ue vo uy uz uw vn vj vm ug,((∃same,Sg.Same k same/\KSt K bx rs L rb n (Value.slice (some (Addr.mk (g) (0) none)) n c0) (Value.pointer (some (Addr.mk (kb) (0) none))) nm lo hi (fs++same) ks w'))/\a'=⟨(K.p::(Value.slice (some (Addr.mk (g) (0) none)) n c0)::undef::undef::(Value.pointer (some (Addr.mk (rb) (0) none)))::(Value.int IntKind.i64 (↑n:Int))::(Value.int IntKind.i64 lo)::(Value.pointer (some (Addr.mk (kb) (0) none)))::(Value.int IntKind.i64 (↑z:Int))::(Value.pointer (some (Addr.mk (fb) (0) none)))::(Value.int IntKind.i64 (↑ci:Int))::undef::undef::undef::yG::yB::qe::vS::vK::yk::yD::yy::yH::ys::yZ::qb::yN::vT::yz::yt::vW::yW::yL::yl::yi::yO::yI::yX::vL::qg::qa::yV::vZ::vH::yd::vX::ql::yg::yb::yf::qi::vJ::qc::yY::yp::yn::qh::qk::yw::yh::yr::yC::qj::yM::yj::yR::yo::yu::yU::yc::yQ::yq::yS::vM::vO::ye::yT::qd::qm::qn::vQ::vG::vI::yP::vY::vR::yK::qf::vN::yJ::ym::yE::yF::ya::vV::yv::yA::vU::yx::vP::uE::uP::vy::uH::vk::uk::vq::vr::uV::ua::uS::uK::ut::uJ::ur::vt::vF::uu::vv::ul::vA::uQ::uU::ui::vs::uM::uD::vE::uF::uT::uY::vd::uZ::uG::uq::ud::vf::uL::uN::uW::vp::ub::uA::vx::uo::vu::us::va::vC::vB::up::uO::vl::uc::vw::vg::uI::uX::ux::uh::uv::ve::vi::vc::uR::vh::uB::un::uf::vz::vb::um::uC::vD::uj::ue::vo::uy::uz::uw::vn::vj::vm::ug::[]).toArray,[]⟩)->J_ a' w') (hM_:∀(a':Act) (w':World),Met J_ a' w'->K_ a' w') :
  Code.wp Tryz.prog cd_ (Exit.then K_ Q_) ⟨(K.p::(Value.slice (some (Addr.mk (g) (0) none)) n c0)::undef::undef::(Value.pointer (some (Addr.mk (rb) (0) none)))::(Value.int IntKind.i64 (↑n:Int))::(Value.int IntKind.i64 lo)::(Value.pointer (some (Addr.mk (kb) (0) none)))::(Value.int IntKind.i64 (↑z:Int))::(Value.pointer (some (Addr.mk (fb) (0) none)))::(Value.int IntKind.i64 (↑ci:Int))::undef::undef::undef::yG::yB::qe::vS::vK::yk::yD::yy::yH::ys::yZ::qb::yN::vT::yz::yt::vW::yW::yL::yl::yi::yO::yI::yX::vL::qg::qa::yV::vZ::vH::yd::vX::ql::yg::yb::yf::qi::vJ::qc::yY::yp::yn::qh::qk::yw::yh::yr::yC::qj::yM::yj::yR::yo::yu::yU::yc::yQ::yq::yS::vM::vO::ye::yT::qd::qm::(Value.bool true)::vQ::vG::vI::yP::vY::vR::yK::qf::vN::yJ::ym::yE::yF::ya::vV::yv::yA::vU::yx::vP::uE::uP::vy::uH::vk::uk::vq::vr::uV::ua::uS::uK::ut::uJ::ur::vt::vF::uu::vv::ul::vA::uQ::uU::ui::vs::uM::uD::vE::uF::uT::uY::vd::uZ::uG::uq::ud::vf::uL::uN::uW::vp::ub::uA::vx::uo::vu::us::va::vC::vB::up::uO::vl::uc::vw::vg::uI::uX::ux::uh::uv::ve::vi::vc::uR::vh::uB::un::uf::vz::vb::um::uC::vD::uj::ue::vo::uy::uz::uw::vn::vj::vm::ug::[]).toArray,[]⟩ wo:=by
 subst hcd_
 conv=>arg 2;whnf
 letI:Grow:=K.grow
 apply zx (C:=λw'=>K.R wo w') (n:=184) (m:=13) (l1:=[_,_,_,_,_,_,_,_,_,_,_,_,_]) (l2:=[_,_,_]);rfl;rfl;kernel_rfl;rfl;kernel_rfl;exact K.drew wo;exact λu u' h hb=>h.trans hb
 (apply aHx;·(intro w' hC hf;clear hf hC;go_wp2_with (fail);apply aBx;simp only [zC];exact rfl));(try simp only [zn])
 (apply aHx;·(intro w' hC hf;have q:=(H.out.turn hC).box (.head _);have q3:=q.cell 3;(simp at q3);clear q;clear hf hC;go_wp2_with (fail);apply aBx;simp only [zC];exact rfl));(try simp only [zn])
 iterate 4 ((apply aHx;·(intro w' hC hf;clear hf hC;go_wp2_with (fail);apply aBx;simp only [zC];exact rfl));(try simp only [zn]))
 (apply aHx;·(intro w' hC hf;have q:=(H.out.turn hC).rcell (.tail _ (.head _)) hn0 HQ3.out;clear hf hC;go_wp2_with (fail);apply aBx;simp only [zC];exact rfl));(try simp only [zn])
 iterate 3 ((apply aHx;·(intro w' hC hf;clear hf hC;go_wp2_with (fail);apply aBx;simp only [zC];exact rfl));(try simp only [zn]))
 (apply aHx;·(intro w' hC hf;obtain ⟨b',o',_,_,_,_,hbo,_,q,_⟩:=fld_at ((H.out.turn hC).fact (.head _)) ci hci;rw [HN2.out] at q;(injection hbo with hbo;injection hbo with hb1 hb2;subst hb1;subst hb2);clear hf hC;go_wp2_with (fail);apply aBx;simp only [zC];exact rfl));(try simp only [zn])
 (apply aHx;·(intro w' hC hf;clear hf hC;go_wp2_with (fail);apply aBx;simp only [zC];exact rfl));(try simp only [zn])
 apply zb (litT_kept K wo.heap.size 1 65 (λcs=>cs=#[.string Sg.bsame,.string nm2,.string Sg.bof,.int .i64 8,.int .i64 0,.int .i64 0,.slice none 0 0,.slice none 0 0]) H.out.gmLt)
 .intro w' hC hf;unfold RG.Gives;clear hf
  have hs:=aI (K.size hC)
  clear hC
  go_wp2_with fail
  refine zd rfl (K.grown (by go_grown)) ?_;simp only [zC]
  exact ⟨_,_,rfl,rfl,hs.out,zj _ _ _⟩
 intro v92;(try simp only [zn])
 apply RG.wpT_done
 intro w4 hC hall
 obtain ⟨cs,N2,rfl,rfl,hge,hblk⟩:=hall.1
 have T:=aI (H.out.turn hC)
 clear hall hC H this
 have hfl:(fs:List Fld).length<=8:=by have:=HFL.out;omega
 obtain ⟨i0,hI,hz0,hz1,hz2⟩:=zq infoFld
 refine wpList_append_mk (by rfl) _ _ 50 (by rfl) 65 i0 _ 8 120 Tryz.underlying50 hI hz0 hz1 hz2 rfl (by decide) T.out (by rfl) _ _ 1 1 [.string Sg.bsame,.string nm2,.string Sg.bof,.int .i64 8,.int .i64 0,.int .i64 0,.slice none 0 0,.slice none 0 0] (by rfl) (reads_blk hblk rfl) (by simp [Value.oneCell']) (by unfold maxLen;omega) (by omega) ?_
 intro v5 w5 M5 h5 _
 obtain ⟨A5,c5,rfl⟩:=h5.form
 have hq:=h5.box (.head _);have f3:=hq.frozen 3;have q3:=hq.cell 3;(simp at q3);clear hq
 have T5:=aI (h5.fswap.putF (news:=[Sg.sameF nm2]) (Flat.single (fld_mk (by decide) s6 (by decide) (by unfold inI;omega) (by unfold inI;omega) (by unfold inI;omega) rep_nil rep_nil)))
 clear h5 hI hz0 hz1 hz2 hblk T hfl
 go_wp2_with fail
 go_meet
 case rel =>
  refine ⟨[Sg.sameF nm2],?_,KSt.mk1 T5.out.fswap.tail rfl⟩
  have:=Sg.Same.some (k:=k) ci hci HCP.out
  rw [HN2.out] at this
  exact this
noncomputable def kup_2_code:Code:=((Tryz.f21.body.bind (regAt 16)).getD .skip)
theorem kup_2 {bx:List Box} {rs:List Rw} {L:List (List Nat->World->Prop)} {K:MkK} {ks:List Knd} {n:Nat} {rb:Nat} {c0:Nat} {nm:ByteArray} {lo:Int} {hi:Int} {kb:Nat} {g:Nat} {z:Nat} {k:Knd} {nmo:ByteArray} {fb:Nat} {c:Int} {fs2:List Fld} {yF yA qf vP vH yi yC yw yG yq qa qc yM vQ yx yr vT yX yK yj yg yO yH yY vI qh qb yW vW vE ya vU qm ye vY yd qj vG qd yZ yn yl qi ql yu yf yp yB qk yL yh yQ ym ys yV vZ yP yo yS vJ vL yc yU qe qn yb vN vD vF yN vV vO yJ qg vK yI yk yD yE vX vS yt yy vR yv vM uE uP vv uH vj uk ua uS uK ut uJ ur vq vC uu vs ul vx uQ uU ui vp uM uD vB uF uT uX vc uY uG uq ud ve uL uN uV vo ub uA vu uo vr us uZ vz vy up uO vk uc vt vf uI uW ux uh uv vd vh vb uR vg uB un uf vw va um uC vA uj ue vn uy uz uw vm vi vl ug:Value} {M3:List Nat} {fv:Value} {fxs:List Value} {kxs:List Value} {ls:Nat} {wo:World}  {J_ K_:Act->World->Prop} {Q_:Exit->Act->World->Prop} {cd_:Code} (hcd_:cd_=kup_2_code) (_hn2:n<=2) (_lo0:(0:Int)<=lo) (_lo4:lo<=(4:Int)) (_hi1:lo<=hi) (_hi2:hi<=lo+(4:Int)) (_hn0:0 < n) (_hzk:z < ks.length) (_s4:nmo.size<=9223372036854775807) (_hnmo:k.fst=nmo) (_c1:(-1:Int)<=c) (_k1:(↑z:Int) < (↑n:Int)) (_k0:(0:Int)<=(↑z:Int)) (HFL2:Hid (fs2.length<=3)) (v1:(0:Int)<=(↑ls:Int)) (v2:(↑ls:Int) < (3:Int)) (H: Hid (MkH K M3 ((kb,(52:TypeId),#[Value.string nm,Value.int IntKind.i64 lo,Value.int IntKind.i64 hi,fv])::(rb,(52:TypeId),#[Value.string { data:=#[] },Value.int IntKind.i64 (0:Int),Value.int IntKind.i64 (0:Int),Value.slice none 0 0])::bx) ({ e:=(65:TypeId),size:=8,v:=fv,n:=fs2.length,xs:=fxs }::{ e:=(52:TypeId),size:=4,v:=Value.slice (some (Addr.mk (g) (0) none)) n c0,n:=n,xs:=kxs }::rs) ((λM W=>Flat M W fs2 fxs)::(λM W=>Flat M W ks kxs)::L) wo))
  (hJ_:∀(a':Act) (w':World),(∃yF yA qf vP vH yi yC yw yG yq qa qc yM vQ yx yr vT yX yK yj yg yO yH yY vI qh qb yW vW vE ya vU qm ye vY yd qj vG qd yZ yn yl qi ql yu yf yp yB qk yL yh yQ ym ys yV vZ yP yo yS vJ vL yc yU qe qn yb vN vD vF yN vV vO yJ qg vK yI yk yD yE vX vS yt yy vR yv vM uE uP vv uH vj uk yR yT yz ua uS uK ut uJ ur vq vC uu vs ul vx uQ uU ui vp uM uD vB uF uT uX vc uY uG uq ud ve uL uN uV vo ub uA vu uo vr us uZ vz vy up uO vk uc vt vf uI uW ux uh uv vd vh vb uR vg uB un uf vw va um uC vA uj ue vn uy uz uw vm vi vl ug,((∃d:Nat,d < 8/\KSt K bx rs L rb n (Value.slice (some (Addr.mk (g) (0) none)) n c0) (Value.pointer (some (Addr.mk (kb) (0) none))) nm lo hi (fs2++[Sg.partF (↑ls:Int) ((↑ls:Int)+(↑d:Int))]) ks w'))/\a'=⟨(K.p::(Value.slice (some (Addr.mk (g) (0) none)) n c0)::undef::undef::(Value.pointer (some (Addr.mk (rb) (0) none)))::(Value.int IntKind.i64 (↑n:Int))::(Value.int IntKind.i64 lo)::(Value.pointer (some (Addr.mk (kb) (0) none)))::(Value.int IntKind.i64 (↑z:Int))::(Value.pointer (some (Addr.mk (fb) (0) none)))::(Value.int IntKind.i64 c)::(Value.int IntKind.i64 (↑ls:Int))::undef::undef::yF::yA::qf::vP::vH::yi::yC::yw::yG::yq::qa::qc::yM::vQ::yx::yr::vT::yX::yK::yj::yg::yO::yH::yY::vI::qh::qb::yW::vW::vE::ya::vU::qm::ye::vY::yd::qj::vG::qd::yZ::yn::yl::qi::ql::yu::yf::yp::yB::qk::yL::yh::yQ::ym::ys::yV::vZ::yP::yo::yS::vJ::vL::yc::yU::qe::qn::yb::vN::vD::vF::yN::vV::vO::yJ::qg::vK::yI::yk::yD::yE::vX::vS::yt::yy::vR::yv::vM::uE::uP::vv::uH::vj::uk::yR::yT::yz::ua::uS::uK::ut::uJ::ur::vq::vC::uu::vs::ul::vx::uQ::uU::ui::vp::uM::uD::vB::uF::uT::uX::vc::uY::uG::uq::ud::ve::uL::uN::uV::vo::ub::uA::vu::uo::vr::us::uZ::vz::vy::up::uO::vk::uc::vt::vf::uI::uW::ux::uh::uv::vd::vh::vb::uR::vg::uB::un::uf::vw::va::um::uC::vA::uj::ue::vn::uy::uz::uw::vm::vi::vl::ug::[]).toArray,[]⟩)->J_ a' w') (hM_:∀(a':Act) (w':World),Met J_ a' w'->K_ a' w') :
  Code.wp Tryz.prog cd_ (Exit.then K_ Q_) ⟨(K.p::(Value.slice (some (Addr.mk (g) (0) none)) n c0)::undef::undef::(Value.pointer (some (Addr.mk (rb) (0) none)))::(Value.int IntKind.i64 (↑n:Int))::(Value.int IntKind.i64 lo)::(Value.pointer (some (Addr.mk (kb) (0) none)))::(Value.int IntKind.i64 (↑z:Int))::(Value.pointer (some (Addr.mk (fb) (0) none)))::(Value.int IntKind.i64 c)::(Value.int IntKind.i64 (↑ls:Int))::undef::undef::yF::yA::qf::vP::vH::yi::yC::yw::yG::yq::qa::qc::yM::vQ::yx::yr::vT::yX::yK::yj::yg::yO::yH::yY::vI::qh::qb::yW::vW::vE::ya::vU::qm::ye::vY::yd::qj::vG::qd::yZ::yn::yl::qi::ql::yu::yf::yp::yB::qk::yL::yh::yQ::ym::ys::yV::vZ::yP::yo::yS::vJ::vL::yc::yU::qe::qn::yb::vN::vD::vF::yN::vV::vO::yJ::qg::vK::yI::yk::yD::yE::vX::vS::yt::yy::vR::yv::vM::uE::uP::vv::uH::vj::uk::(Value.bool true)::K.p::(Value.int IntKind.i64 (↑ls:Int))::ua::uS::uK::ut::uJ::ur::vq::vC::uu::vs::ul::vx::uQ::uU::ui::vp::uM::uD::vB::uF::uT::uX::vc::uY::uG::uq::ud::ve::uL::uN::uV::vo::ub::uA::vu::uo::vr::us::uZ::vz::vy::up::uO::vk::uc::vt::vf::uI::uW::ux::uh::uv::vd::vh::vb::uR::vg::uB::un::uf::vw::va::um::uC::vA::uj::ue::vn::uy::uz::uw::vm::vi::vl::ug::[]).toArray,[]⟩ wo:=by
 subst hcd_
 conv=>arg 2;whnf
 letI:Grow:=K.grow
 apply zx (C:=λw'=>K.R wo w') (n:=184) (m:=9) (l1:=[_,_,_,_,_,_,_,_,_]) (l2:=[_,_,_]);rfl;rfl;kernel_rfl;rfl;kernel_rfl;exact K.drew wo;exact λu u' h hb=>h.trans hb
 iterate 2 ((apply aHx;·(intro w' hC hf;have q:=(H.out.turn hC).box (.head _);have q3:=q.cell 3;(simp at q3);clear q;clear hf hC;go_wp2_with (fail);apply aBx;simp only [zC];exact rfl));(try simp only [zn]))
 iterate 3 ((apply aHx;·(intro w' hC hf;clear hf hC;go_wp2_with (fail);apply aBx;simp only [zC];exact rfl));(try simp only [zn]))
 apply zb (T:=λv _=>∃z:Nat,v=.int .i64 (z:Int)/\z < 8) (λv w w' h _=>h)
 .intro w' hC hf;unfold RG.Gives;clear hf
  go_wp2_with fail
  go_at_call 20
  refine ((H.out.turn hC).take 8 (by omega) (by omega)).mono ?_
  rintro e w3 ⟨v,rfl,v1,v2,hr⟩
  obtain ⟨z,rfl⟩:∃z':Nat,v=z':=⟨v.toNat,by omega⟩
  go_wp2_with fail
  refine zd rfl hr ?_;simp only [zC];exact ⟨z,rfl,by omega⟩
 intro v114;(try simp only [zn])
 apply zb (T:=λv _=>∃d:Nat,v=.int .i64 (ls+d)/\d < 8) (λv w w' h _=>h)
 .intro w' hC hf;unfold RG.Gives;obtain ⟨d,rfl,d1⟩:=hf.1 rfl;clear hC;clear hf
  go_wp2_with fail
  refine zd rfl (Grow.refl _) ?_;simp only [zC];exact ⟨d,rfl,d1⟩
 intro v115;(try simp only [zn])
 apply zb (T:=λv _=>∃d:Nat,v=.agg #[.string Sg.bpart,.string Sg.btotal,.string Sg.bof,.int .i64 7,.int .i64 ls,.int .i64 (ls+d),.slice none 0 0,.slice none 0 0]/\d < 8) (λv w w' h _=>h)
 .intro w' hC hf;unfold RG.Gives;obtain ⟨d,rfl,d1⟩:=hf.1 rfl;clear hC;clear hf
  go_wp2_with fail
  refine zd rfl (Grow.refl _) ?_;simp only [zC];exact ⟨d,rfl,d1⟩
 intro v116;(try simp only [zn])
 apply zb (litT_kept K wo.heap.size 1 65 (λcs=>∃d:Nat,cs=#[.string Sg.bpart,.string Sg.btotal,.string Sg.bof,.int .i64 7,.int .i64 ls,.int .i64 (ls+d),.slice none 0 0,.slice none 0 0]/\d < 8) H.out.gmLt)
 .intro w' hC hf;unfold RG.Gives;obtain ⟨d,rfl,d1⟩:=hf.1 rfl;clear hf
  have hs:=aI (K.size hC)
  clear hC
  go_wp2_with fail
  refine zd rfl (K.grown (by go_grown)) ?_;simp only [zC]
  exact ⟨_,_,rfl,⟨d,rfl,d1⟩,hs.out,zj _ _ _⟩
 intro v117;(try simp only [zn])
 apply RG.wpT_done
 intro w4 hC hall
 obtain ⟨cs,N2,rfl,⟨d,rfl,hd8⟩,hge,hblk⟩:=hall.1
 have T:=aI (H.out.turn hC)
 clear hall hC H this
 have hfl:(fs2:List Fld).length<=8:=by have:=HFL2.out;omega
 obtain ⟨i0,hI,hz0,hz1,hz2⟩:=zq infoFld
 refine wpList_append_mk (by rfl) _ _ 50 (by rfl) 65 i0 _ 8 120 Tryz.underlying50 hI hz0 hz1 hz2 rfl (by decide) T.out (by rfl) _ _ 1 1 [.string Sg.bpart,.string Sg.btotal,.string Sg.bof,.int .i64 7,.int .i64 ls,.int .i64 (ls+d),.slice none 0 0,.slice none 0 0] (by rfl) (reads_blk hblk rfl) (by simp [Value.oneCell']) (by unfold maxLen;omega) (by omega) ?_
 intro v5 w5 M5 h5 _
 obtain ⟨A5,c5,rfl⟩:=h5.form
 have hq:=h5.box (.head _);have f3:=hq.frozen 3;have q3:=hq.cell 3;(simp at q3);clear hq
 have T5:=aI (h5.putF (news:=[Sg.partF ls (ls+d)]) (Flat.single (fld_mk (by decide) (by decide) (by decide) (by unfold inI;omega) (by unfold inI;omega) (by unfold inI;omega) rep_nil rep_nil)))
 clear h5 hI hz0 hz1 hz2 hblk T hfl
 go_wp2_with fail
 go_meet
 case rel=>exact ⟨d,hd8,KSt.mk1 T5.out rfl⟩
noncomputable def kup_3_code:Code:=((Tryz.f21.body.bind (regAt 17)).getD .skip)
theorem kup_3 {bx:List Box} {rs:List Rw} {L:List (List Nat->World->Prop)} {K:MkK} {ks:List Knd} {n:Nat} {rb:Nat} {c0:Nat} {nm:ByteArray} {lo:Int} {hi:Int} {kb:Nat} {g:Nat} {z:Nat} {k:Knd} {nmo:ByteArray} {fb:Nat} {len:Nat} {c:Int} {fs2:List Fld} {ls:Nat} {yI yD qg vT vL ym yF yA yJ yu qb qd yP vU yB yv vX yY yN yn yk yR yK yZ vM qi qc yX ya vI ye vY qn yi yc yh qk vK qe qa yr yp qj qm yy yj yt yE ql yO yl yT yq yw yW yd yS ys yU vN vP yg yV qf qo yf vR vH vJ yQ vZ vS yM qh vO yL yo yG yH yb vW yx yC vV yz vQ uF uQ vz uI vl uk vr vs uW ua uT uL uu uK ur vu vG uv vw ul vB uR uV ui vt uN uE vF uG uU uZ ve va uH uq ud vg uM uO uX vq ub uB vy uo vv ut vb vD vC up uP vm uc vx vh uJ uY uy uh uw vf vj vd uS vi uC un uf vA vc um uD vE uj ue vp uz uA ux vo vk vn ug:Value} {d:Nat} {wo:World} {fs5:List Fld} {M3:List Nat} {fv:Value} {fxs:List Value} {kxs:List Value} {cB:Nat} {b0:Nat} {o0:Nat} {xs0:List Value} {i0:TypeInfo}  {J_ K_:Act->World->Prop} {Q_:Exit->Act->World->Prop} {cd_:Code} (hcd_:cd_=kup_3_code) (_hn2:n<=2) (HN:Hid (n=ks.length)) (HNM0:Hid (nm.size<=9223372036854775807)) (_lo0:(0:Int)<=lo) (_lo4:lo<=(4:Int)) (_hi1:lo<=hi) (_hi2:hi<=lo+(4:Int)) (hn0:0 < n) (hzk:z < ks.length) (HKZ:Hid (ks[z]=k)) (_s4:nmo.size<=9223372036854775807) (_hnmo:k.fst=nmo) (HLEN:Hid ((Sc.flds k).length=len)) (_c1:(-1:Int)<=c) (k1:(↑z:Int) < (↑n:Int)) (k0:(0:Int)<=(↑z:Int)) (HR0:Hid (Sc.ix (Sc.named Sg.btotal) (Sc.flds k) < (0:Int))) (v1:(0:Int)<=(↑ls:Int)) (v2:(↑ls:Int) < (3:Int)) (hd:d < 8) (HFS5:Hid (fs2++[Sg.partF (↑ls:Int) ((↑ls:Int)+(↑d:Int))]=fs5)) (_s2:len<=cB) (hl1:1<=len/\len<=20) (HQ3:Hid (kxs[z*4+3]?=some (Value.slice (some (Addr.mk (b0) (o0) none)) len cB))) (HXC: Hid (∀(w':World),Chg M3 wo w'->∀(j:Nat) (u:Value),xs0[j]?=some u->w'.cell? ((Addr.mk (b0) (o0) none).add j)=some u)) (HXF:Hid (Flat M3 wo (Sc.flds k) xs0)) (HXL:Hid (xs0.length=len*8)) (H: Hid (MkH K M3 ((kb,(52:TypeId),#[Value.string nm,Value.int IntKind.i64 lo,Value.int IntKind.i64 hi,fv])::(rb,(52:TypeId),#[Value.string { data:=#[] },Value.int IntKind.i64 (0:Int),Value.int IntKind.i64 (0:Int),Value.slice none 0 0])::bx) ({ e:=(65:TypeId),size:=8,v:=fv,n:=fs5.length,xs:=fxs }::{ e:=(52:TypeId),size:=4,v:=Value.slice (some (Addr.mk (g) (0) none)) n c0,n:=n,xs:=kxs }::rs) ((λM W=>Flat M W fs5 fxs)::(λM W=>Flat M W ks kxs)::L) wo)) (HI: Hid (Tryz.prog.info? (65:TypeId)=some i0/\i0.zero=some (Value.agg #[Value.string { data:=#[] },Value.string { data:=#[] },Value.string { data:=#[] },Value.int IntKind.i64 (0:Int),Value.int IntKind.i64 (0:Int),Value.int IntKind.i64 (0:Int),Value.slice none 0 0,Value.slice none 0 0])/\i0.size=8/\i0.bytes=120)) (hb0:K.gm < wo.heap.size)
  (hJ_:∀(a':Act) (w':World),(∃qp yI yD qg vT vL ym yF yA yJ yu qb qd yP vU yB yv vX yY yN yn yk yR yK yZ vM qi qc yX ya vI ye vY qn yi yc yh qk vK qe qa yr yp qj qm yy yj yt yE ql yO yl yT yq yw yW yd yS ys yU vN vP yg yV qf qo yf vR vH vJ yQ vZ vS yM qh vO yL yo yG yH yb vW yx yC vV yz vQ uF uQ vz uI vl uk vr vs uW ua uT uL uu uK ur vu vG uv vw ul vB uR uV ui vt uN uE vF uG uU uZ ve va uH uq ud vg uM uO uX vq ub uB vy uo vv ut vb vD vC up uP vm uc vx vh uJ uY uy uh uw vf vj vd uS vi uC un uf vA vc um uD vE uj ue vp uz uA ux vo vk vn ug,((∃part ks',Sg.Part nm ks z hzk part ks'/\KSt K bx rs L rb n (Value.slice (some (Addr.mk (g) (0) none)) n c0) (Value.pointer (some (Addr.mk (kb) (0) none))) nm lo hi (fs2++part) ks' w'))/\a'=⟨(K.p::(Value.slice (some (Addr.mk (g) (0) none)) n c0)::undef::undef::(Value.pointer (some (Addr.mk (rb) (0) none)))::(Value.int IntKind.i64 (↑n:Int))::(Value.int IntKind.i64 lo)::(Value.pointer (some (Addr.mk (kb) (0) none)))::(Value.int IntKind.i64 (↑z:Int))::(Value.pointer (some (Addr.mk (fb) (0) none)))::(Value.int IntKind.i64 c)::qp::undef::undef::yI::yD::qg::vT::vL::ym::yF::yA::yJ::yu::qb::qd::yP::vU::yB::yv::vX::yY::yN::yn::yk::yR::yK::yZ::vM::qi::qc::yX::ya::vI::ye::vY::qn::yi::yc::yh::qk::vK::qe::qa::yr::yp::qj::qm::yy::yj::yt::yE::ql::yO::yl::yT::yq::yw::yW::yd::yS::ys::yU::vN::vP::yg::yV::qf::qo::yf::vR::vH::vJ::yQ::vZ::vS::yM::qh::vO::yL::yo::yG::yH::yb::vW::yx::yC::vV::yz::vQ::uF::uQ::vz::uI::vl::uk::vr::vs::uW::ua::uT::uL::uu::uK::ur::vu::vG::uv::vw::ul::vB::uR::uV::ui::vt::uN::uE::vF::uG::uU::uZ::ve::va::uH::uq::ud::vg::uM::uO::uX::vq::ub::uB::vy::uo::vv::ut::vb::vD::vC::up::uP::vm::uc::vx::vh::uJ::uY::uy::uh::uw::vf::vj::vd::uS::vi::uC::un::uf::vA::vc::um::uD::vE::uj::ue::vp::uz::uA::ux::vo::vk::vn::ug::[]).toArray,[]⟩)->J_ a' w') (hM_:∀(a':Act) (w':World),Met J_ a' w'->K_ a' w') :
  Code.wp Tryz.prog cd_ (Exit.then K_ Q_) ⟨(K.p::(Value.slice (some (Addr.mk (g) (0) none)) n c0)::undef::undef::(Value.pointer (some (Addr.mk (rb) (0) none)))::(Value.int IntKind.i64 (↑n:Int))::(Value.int IntKind.i64 lo)::(Value.pointer (some (Addr.mk (kb) (0) none)))::(Value.int IntKind.i64 (↑z:Int))::(Value.pointer (some (Addr.mk (fb) (0) none)))::(Value.int IntKind.i64 c)::(Value.int IntKind.i64 (↑ls:Int))::undef::undef::yI::yD::qg::vT::vL::ym::yF::yA::yJ::yu::qb::qd::yP::vU::yB::yv::vX::yY::yN::yn::yk::yR::yK::yZ::vM::qi::qc::yX::ya::vI::ye::vY::qn::yi::yc::yh::qk::vK::qe::qa::yr::yp::qj::qm::yy::yj::yt::yE::ql::yO::yl::yT::yq::yw::yW::yd::yS::ys::yU::vN::vP::yg::yV::qf::qo::yf::vR::vH::vJ::yQ::vZ::vS::yM::qh::vO::yL::yo::yG::yH::yb::vW::yx::yC::vV::yz::vQ::uF::uQ::vz::uI::vl::uk::vr::vs::uW::ua::uT::uL::uu::uK::ur::vu::vG::uv::vw::ul::vB::uR::uV::ui::vt::uN::uE::vF::uG::uU::uZ::ve::va::uH::uq::ud::vg::uM::uO::uX::vq::ub::uB::vy::uo::vv::ut::vb::vD::vC::up::uP::vm::uc::vx::vh::uJ::uY::uy::uh::uw::vf::vj::vd::uS::vi::uC::un::uf::vA::vc::um::uD::vE::uj::ue::vp::uz::uA::ux::vo::vk::vn::ug::[]).toArray,[]⟩ wo:=by
 subst hcd_
 conv=>arg 2;whnf
 letI:Grow:=lateGrow K.gm (48:TypeId) K.sl wo.heap.size (65:TypeId) (len*8) (totC nm)
 apply zx (C:=λw'=>LR K.gm 48 K.sl wo.heap.size 65 (len*8) (totC nm) wo w') (n:=184) (m:=16) (l1:=[_,_,_,_,_,_,_,_,_,_,_,_,_,_,_,_]) (l2:=[_]);rfl;rfl;kernel_rfl;rfl;kernel_rfl;exact LR.of_mk (K.drew wo);exact λu u' h hb=>h.trans hb
 iterate 2 ((apply aHx;·(intro w' hC hf;clear hf hC;go_wp2_with (fail);apply aBx;simp only [zC];exact rfl));(try simp only [zn]))
 apply zb (T:=λv _=>∃N:Nat,v=.slice (some ⟨N,0,none⟩) 0 0) (λv w w' h _=>h)
 .intro w' hC hf;unfold RG.Gives;clear hf hC
  go_wp2_with fail
  refine zd rfl (LR.below (by go_grown)) ?_;simp only [zC];exact ⟨_,rfl⟩
 intro v122;(try simp only [zn])
 iterate 2 ((apply aHx;·(intro w' hC hf;clear hf hC;go_wp2_with (fail);apply aBx;simp only [zC];exact rfl));(try simp only [zn]))
 (apply aHx;·(intro w' hC hf;have k1:(z:Int) < (n:Int):=(by have:=HN.out;omega);clear hf hC;go_wp2_with (fail);apply aBx;simp only [zC];exact rfl));(try simp only [zn])
 (apply aHx;·(intro w' hC hf;clear hf hC;go_wp2_with (fail);apply aBx;simp only [zC];exact rfl));(try simp only [zn])
 (apply aHx;·(intro w' hC hf;have q:=(H.out.turn (LR.mk_ hC (ag _))).rcell (.tail _ (.head _)) hn0 HQ3.out;clear hf hC;go_wp2_with (fail);apply aBx;simp only [zC];exact rfl));(try simp only [zn])
 apply zb (T:=RowN wo.heap.size 65 8 len xs0) (rowN_kept hb0 (λj u h1 h2=>by have:=(List.getElem?_eq_some_iff.1 h2).1;have:=HXL.out;omega))
 .intro w' hC hf;unfold RG.Gives;obtain ⟨N,rfl⟩:=hf.1 rfl;clear hf
  obtain ⟨hI,hz0,hz1,hz2⟩:=HI.out
  have hone:∀u∈xs0,u.oneCell'=true:=HXF.out.one
  refine wpList_append_grows w' (by rfl) _ _ 50 (by rfl) 65 i0 _ 8 120 Tryz.underlying50 hI hz0 hz1 hz2 rfl (by decide) (some ⟨N,0,none⟩) 0 0 [] (by rfl) (λh=>by cases h) rfl (λb hb j u hu=>by simp at hu) ⟨b0,o0,none⟩ len cB xs0 (by rfl) HXL.out (HXC.out w' (H.out.chg (LR.mk_ hC (ag _)))) hone (by omega) (by unfold maxLen;omega) (by omega) ?_
  intro v' w2 k1 k2
  have hbl:Below w'.heap.size w' w2:=⟨k2.os,k2.tape,k2.output,k2.size,λk hk=>k2.block k hk (by simp)⟩
  have hsz:=LR.size hC
  rw [zG,zA] at k1
  refine zd rfl (LR.below hbl) ?_;simp only [RG.valAt,aA];exact RowN.of_owns k1 (by omega) hsz
 intro v128;(try simp only [zn])
 (apply aHx;·(intro w' hC hf;clear hf hC;go_wp2_with (fail);apply aBx;simp only [zC];exact rfl));(try simp only [zn])
 (apply aHx;·(intro w' hC hf;have q:=(H.out.turn (LR.mk_ hC (ag _))).box (.head _);have q0:=q.cell 0;(simp at q0);clear q;clear hf hC;go_wp2_with (fail);apply aBx;simp only [zC];exact rfl));(try simp only [zn])
 (apply aHx;·(intro w' hC hf;clear hf hC;go_wp2_with (fail);apply aBx;simp only [zC];exact rfl));(try simp only [zn])
 apply zb (T:=λv w=>∃N,v=.slice (some ⟨N,0,none⟩) 1 1/\wo.heap.size<=N/\Blk w N 65 (totC nm).toArray) (totLit_kept hb0 (by show 8<=_;omega))
 .intro w' hC hf;unfold RG.Gives;clear hf
  have hs:=aI (LR.size hC)
  clear hC
  go_wp2_with fail
  refine zd rfl (LR.below (by go_grown)) ?_;simp only [zC]
  exact ⟨_,rfl,hs.out,zj _ _ _⟩
 intro v132;(try simp only [zn])
 apply zb (T:=RowN wo.heap.size 65 8 (len+1) (xs0++totC nm)) (rowN_kept hb0 (λj u h1 h2=>by rw [zL (by rw [HXL.out];exact h1),HXL.out] at h2;exact h2))
 .intro w' hC hf;unfold RG.Gives;obtain ⟨N,rfl,hN,hblk⟩:=hf.1 rfl;have hrow:=hf.2.1 rfl;clear hf
  obtain ⟨hI,hz0,hz1,hz2⟩:=HI.out
  have hsz:=LR.size hC
  refine wpList_append_late (gm:=K.gm) (t:=48) (sl:=K.sl) (B0:=wo.heap.size) (n8:=len*8) (us:=totC nm) (by rfl) _ _ 50 (by rfl) i0 _ 8 120 Tryz.underlying50 hI hz0 hz1 hz2 rfl (by decide) hrow HXL.out (by omega) (by rfl) (by rfl) hblk rfl rfl (by simp [totC,Value.oneCell']) rfl hb0 hsz (by unfold maxLen;omega) (by omega) ?_
  intro v' w2 k1 k2
  refine zd rfl k2 ?_;simp only [RG.valAt,aA];exact k1
 intro v133;(try simp only [zn])
 (apply aHx;·(intro w' hC hf;have k1:(z:Int) < (n:Int):=(by have:=HN.out;omega);clear hf hC;go_wp2_with (fail);apply aBx;simp only [zC];exact rfl));(try simp only [zn])
 (apply aHx;·(intro w' hC hf;clear hf hC;go_wp2_with (fail);apply aBx;simp only [zC];exact rfl));(try simp only [zn])
 apply RG.wpT_done
 intro w4 hC hall
 obtain ⟨g13,cap13,cur13,rfl,hg13,hb13,hc13,hm13,hsz13,hcur⟩:=hall.1
 have hT:=H.out.turn (LR.mk_ hC (ag _))
 have hch:=H.out.chg (LR.mk_ hC (ag _))
 have hnM:g13∉M3:=λhm=>by have:=H.out.mb _ hm;omega
 have hfl:Flat M3 w4 (Sc.flds k++[Sg.totalF nm]) (xs0++totC nm):=(HXF.out.keep hch).append (Flat.single (fld_mk (by decide) HNM0.out (by decide) (by unfold inI;omega) (by unfold inI;omega) (by unfold inI;omega) rep_nil rep_nil))
 have hsl:SlAt M3 w4 (some ⟨g13,0,none⟩) (Sc.flds k++[Sg.totalF nm]):=SlAt.of_cells hfl hb13.lt hnM λj u hu=>by
  rw [hb13.cell]
  have hj:=(List.getElem?_eq_some_iff.1 hu).1
  rw [<-hcur,List.getElem?_take] at hu
  split at hu
  .rw [Array.getElem?_toList] at hu;exact hu
  .cases hu
 have f3:=hT.rfroz (.tail _ (.head _)) hn0 (z*4+3)
 have q3:=hT.rcell (.tail _ (.head _)) hn0 HQ3.out
 have T:=aI (hT.add (keeps_sl _ _) hsl)
 have HC13:=aI (show len+1<=cap13/\cap13<=maxLen from ⟨hc13,hm13⟩)
 clear hall hC H hT hch hnM hfl hsl hb13 hcur hsz13 hg13 hc13 hm13 hb0 this HI HXF HXC HXL
 go_wp2_with fail
 go_meet
 case rel =>
  refine ⟨[Sg.partF ls (ls+d)],ks.set z (Sg.setF k (Sc.flds k++[Sg.totalF nm])),?_,?_⟩
  .have:=Sg.Part.some (nm:=nm) (ks:=ks) (tq:=z) (h:=hzk) ls d (by omega) (by omega) (by omega) (by omega) (by rw [HKZ.out];exact HR0.out)
   rw [HKZ.out] at this
   exact this
  .rw [HFS5.out]
   have T3:=((T.out.perm (List.Perm.swap _ _ _)).setRow (.slice (some ⟨g13,0,none⟩) (len+1) cap13) (k:=z*4+3) (by omega)).perm (List.Perm.swap _ _ _)
   have hrep:Rep M3 _ (Sc.flds k++[Sg.totalF nm]) (.slice (some ⟨g13,0,none⟩) (len+1) cap13):=⟨_,cap13,by rw [aK,HLEN.out];rfl,by rw [aK,HLEN.out];exact HC13.out.1,by have:=HC13.out.2;unfold maxLen at this;omega,T3.fact (.head _)⟩
   have hk':=flat_setF (T3.fact (.tail _ (.tail _ (.head _)))) z hzk hrep
   rw [HKZ.out] at hk'
   exact ⟨_,kb,fv,fxs,_,rfl,(T3.add (keeps_flat _ _) hk').fswap.tail.fswap.drop3⟩
end
end Go.Proofs.YtobcnhmhgoccnaaGreatDoor
