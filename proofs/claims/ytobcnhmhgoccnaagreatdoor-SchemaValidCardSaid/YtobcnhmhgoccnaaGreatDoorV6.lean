/- Parts of the proof, joined: W36q. -/
import Derived.Test.YtobcnhmhgoccnaaGreatDoorV3
set_option maxRecDepth 1000000
set_option maxHeartbeats 100000000
set_option linter.unusedVariables false
set_option linter.unusedSimpArgs false
set_option linter.unusedSectionVars false
namespace Go.Proofs.YtobcnhmhgoccnaaGreatDoor
open Go Go.RowKit
section
noncomputable def kmn_0_code:Code:=((Tryz.f21.body.bind (regAt 3)).getD .skip)
theorem kmn_0 {K:MkK} {M:List Nat} {bx:List Box} {rs:List Rw} {L:List (List Nat->World->Prop)} {_W:World} {ks:List Knd} {n:Nat} {kxs:List Value} {A0:Option Addr} {c0:Nat} {rb:Nat} {z:Nat} {lo:Int} {wo:World}  {J_ K_:Act->World->Prop} {Q_:Exit->Act->World->Prop} {cd_:Code} (hcd_:cd_=kmn_0_code) (hn2:n<=2) (_z1:(0:Int)<=(↑z:Int)) (_z2:(↑z:Int) < (6:Int)) (lo0:(0:Int)<=lo) (lo4:lo<=(4:Int)) (_z3:(↑z:Int) < (6:Int)) (H: Hid (MkH K (rb::M) ((rb,(52:TypeId),#[Value.string { data:=#[] },Value.int IntKind.i64 (0:Int),Value.int IntKind.i64 (0:Int),Value.slice none 0 0])::bx) ({ e:=(52:TypeId),size:=4,v:=Value.slice A0 n c0,n:=n,xs:=kxs }::rs) ((λM W=>Flat M W ks kxs)::L) wo))
  (hJ_:∀(a':Act) (w':World),(∃u7 yH yC qf vS vK yl yE yz yI yt qa qc yO vT yA yu vW yX yM ym yj yQ yJ yY vL qh qb yW vZ vH yd vX qm yh yb yg qj vJ qd yZ yq yo qi ql yx yi ys yD qk yN yk yS yp yv yV yc yR yr yT vM vO yf yU qe qn ye vQ vG vI yP vY vR yL qg vN yK yn yF yG ya vV yw yB vU yy vP uE uP vy uH vk uk vq vr uV ua uS uK ut uJ ur vt vF uu vv ul vA uQ uU ui vs uM uD vE uF uT uY vd uZ uG uq ud vf uL uN uW vp ub uA vx uo vu us va vC vB up uO vl uc vw vg uI uX ux uh uv ve vi vc uR vh uB un uf vz vb um uC vD uj ue vo uy uz uw vn vj vm ug,((∃hi,lo<=hi/\hi<=lo+(4:Int)/\KSt K bx rs L rb n (Value.slice A0 n c0) u7 (Sg.kname n) lo hi [] ks w'))/\a'=⟨(K.p::(Value.slice A0 n c0)::undef::undef::(Value.pointer (some (Addr.mk (rb) (0) none)))::(Value.int IntKind.i64 (↑n:Int))::(Value.int IntKind.i64 lo)::u7::undef::undef::undef::undef::undef::undef::yH::yC::qf::vS::vK::yl::yE::yz::yI::yt::qa::qc::yO::vT::yA::yu::vW::yX::yM::ym::yj::yQ::yJ::yY::vL::qh::qb::yW::vZ::vH::yd::vX::qm::yh::yb::yg::qj::vJ::qd::yZ::yq::yo::qi::ql::yx::yi::ys::yD::qk::yN::yk::yS::yp::yv::yV::yc::yR::yr::yT::vM::vO::yf::yU::qe::qn::ye::vQ::vG::vI::yP::vY::vR::yL::qg::vN::yK::yn::yF::yG::ya::vV::yw::yB::vU::yy::vP::uE::uP::vy::uH::vk::uk::vq::vr::uV::ua::uS::uK::ut::uJ::ur::vt::vF::uu::vv::ul::vA::uQ::uU::ui::vs::uM::uD::vE::uF::uT::uY::vd::uZ::uG::uq::ud::vf::uL::uN::uW::vp::ub::uA::vx::uo::vu::us::va::vC::vB::up::uO::vl::uc::vw::vg::uI::uX::ux::uh::uv::ve::vi::vc::uR::vh::uB::un::uf::vz::vb::um::uC::vD::uj::ue::vo::uy::uz::uw::vn::vj::vm::ug::[]).toArray,[]⟩)->J_ a' w') (hM_:∀(a':Act) (w':World),Met J_ a' w'->K_ a' w') :
  Code.wp Tryz.prog cd_ (Exit.then K_ Q_) ⟨(K.p::(Value.slice A0 n c0)::undef::undef::(Value.pointer (some (Addr.mk (rb) (0) none)))::(Value.int IntKind.i64 (↑n:Int))::(Value.int IntKind.i64 lo)::undef::undef::undef::undef::undef::undef::undef::(Value.slice A0 n c0)::(Value.int IntKind.i64 (↑n:Int))::(Value.slice (some (Addr.mk (rb+1) (0) none)) 6 6)::K.p::(Value.int IntKind.i64 (↑z:Int))::(Value.pointer (some (Addr.mk (rb+1) (z) none)))::(Value.int IntKind.i64 lo)::undef::undef::undef::undef::undef::undef::undef::undef::undef::undef::undef::undef::undef::undef::undef::undef::undef::undef::undef::undef::undef::undef::undef::undef::undef::undef::undef::undef::undef::undef::undef::undef::undef::undef::undef::undef::undef::undef::undef::undef::undef::undef::undef::undef::undef::undef::undef::undef::undef::undef::undef::undef::undef::undef::undef::undef::undef::undef::undef::undef::undef::undef::undef::undef::undef::undef::undef::undef::undef::undef::undef::undef::undef::undef::undef::undef::undef::undef::undef::undef::undef::undef::undef::undef::undef::undef::undef::undef::undef::undef::undef::undef::undef::undef::undef::undef::undef::undef::undef::undef::undef::undef::undef::undef::undef::undef::undef::undef::undef::undef::undef::undef::undef::undef::undef::undef::undef::undef::undef::undef::undef::undef::undef::undef::undef::undef::undef::undef::undef::undef::undef::undef::undef::undef::undef::undef::undef::undef::undef::undef::undef::undef::undef::undef::undef::undef::undef::undef::undef::undef::undef::undef::undef::undef::undef::undef::undef::undef::undef::undef::undef::undef::undef::[]).toArray,[]⟩ wo:=by
 subst hcd_
 conv=>arg 2;whnf
 letI:Grow:=K.grow
 apply zx (C:=λw'=>K.R wo w') (n:=184) (m:=11) (l1:=[_,_,_,_,_,_,_,_,_,_,_]) (l2:=[_]);rfl;rfl;kernel_rfl;rfl;kernel_rfl;exact K.drew wo;exact λu u' h hb=>h.trans hb
 apply zb (litT_kept K wo.heap.size 3 9 (λcs=>cs=#[.string ⟨#[112,101,114,115,111,110]⟩,.string ⟨#[111,114,100,101,114]⟩,.string ⟨#[105,116,101,109]⟩]) H.out.gmLt)
 .intro w' hC hf;unfold RG.Gives;clear hf
  have hs:=aI (K.size hC)
  clear hC
  go_wp2_with fail
  refine zd rfl (K.grown (by go_grown)) ?_;simp only [zC]
  exact ⟨_,_,rfl,rfl,hs.out,zj _ _ _⟩
 intro v21;(try simp only [zn])
 (apply aHx;·(intro w' hC hf;clear hf hC;go_wp2_with (fail);apply aBx;simp only [zC];exact rfl));(try simp only [zn])
 apply zb (T:=PtrT wo.heap.size 9 (λcs i=>cs[i]?=some (.string (Sg.kname n)))) (ptrT_kept K _ _ _ H.out.gmLt)
 .intro w' hC hf;unfold RG.Gives;obtain ⟨cs,N,rfl,rfl,hge,hblk⟩:=hf.1 rfl;clear hf
  have k1:(n:Int) < 3:=by omega
  go_wp2_with fail
  refine zd rfl (Grow.refl _) ?_;simp only [zC];exact ⟨_,N,n,by first | rfl | simp [Addr.add],names_at n hn2,hge,hblk⟩
 intro v23;(try simp only [zn])
 (apply aHx;·(intro w' hC hf;obtain ⟨cs,N,i,rfl,hq,hge,hblk⟩:=hf.1 rfl;have q:=hblk.cell i;rw [hq] at q;clear hge hblk hq;clear hf hC;go_wp2_with (fail);apply aBx;simp only [zC];exact rfl));(try simp only [zn])
 iterate 3 ((apply aHx;·(intro w' hC hf;clear hf hC;go_wp2_with (fail);apply aBx;simp only [zC];exact rfl));(try simp only [zn]))
 apply zb (T:=λv _=>∃z:Nat,v=.int .i64 (z:Int)/\z < 5) (λv w w' h _=>h)
 .intro w' hC hf;unfold RG.Gives;clear hf
  go_wp2_with fail
  go_at_call 20
  refine ((H.out.turn hC).take 5 (by omega) (by omega)).mono ?_
  rintro e w3 ⟨v,rfl,v1,v2,hr⟩
  obtain ⟨z,rfl⟩:∃z':Nat,v=z':=⟨v.toNat,by omega⟩
  go_wp2_with fail
  refine zd rfl hr ?_;simp only [zC];exact ⟨z,rfl,by omega⟩
 intro v28;(try simp only [zn])
 apply zb (T:=λv _=>∃z:Nat,v=.int .i64 (lo+z)/\z < 5) (λv w w' h _=>h)
 .intro w' hC hf;unfold RG.Gives;obtain ⟨z,rfl,z1⟩:=hf.1 rfl;clear hC;clear hf
  go_wp2_with fail
  refine zd rfl (Grow.refl _) ?_;simp only [zC];exact ⟨z,rfl,z1⟩
 intro v29;(try simp only [zn])
 apply zb (T:=λv _=>∃z:Nat,v=.agg #[.string (Sg.kname n),.int .i64 lo,.int .i64 (lo+z),.slice none 0 0]/\z < 5) (λv w w' h _=>h)
 .intro w' hC hf;unfold RG.Gives;obtain ⟨z,rfl,z1⟩:=hf.1 rfl;clear hC;clear hf
  go_wp2_with fail
  refine zd rfl (Grow.refl _) ?_;simp only [zC];exact ⟨z,rfl,z1⟩
 intro v30;(try simp only [zn])
 apply zb (ptrT_kept K wo.heap.size 52 (λcs i=>cs=#[.string ⟨#[]⟩,.int .i64 0,.int .i64 0,.slice none 0 0]/\i=0) H.out.gmLt)
 .intro w' hC hf;unfold RG.Gives;clear hf
  have hs:=aI (K.size hC)
  clear hC
  go_wp2_with fail
  refine zd rfl (K.grown (by go_grown)) ?_;simp only [zC]
  exact ⟨_,_,0,rfl,⟨rfl,rfl⟩,hs.out,zj _ _ _⟩
 intro v7;(try simp only [zn])
 apply RG.wpT_done
 intro w4 hC hall
 obtain ⟨cs,kb,i,rfl,⟨rfl,rfl⟩,hge,hblk⟩:=hall.1
 obtain ⟨d,rfl,d1⟩:=hall.2.1
 have T:=aI (H.out.adopt hC hge hblk)
 have q:=hblk;obtain ⟨f0,f1,f2,f3⟩:=aN4 q.frozen;obtain ⟨q0,q1,q2,q3⟩:=aN4 q.cell;(simp at q0 q1 q2 q3);clear q
 clear hall hC hge hblk
 go_wp2_with fail
 go_meet
 case rel =>
  have T1:=((((T.out.set0 0 (.string (Sg.kname n))).set0 1 (.int .i64 lo)).set0 2 (.int .i64 (lo+d))).set0 3 (.slice none 0 0)).push 65 8
  have T2:=T1.add (keeps_flat ([]:List Fld) []) rfl
  exact ⟨lo+d,by omega,by omega,_,kb,.slice none 0 0,[],kxs,rfl,T2⟩
end
section
noncomputable def kmn_1_code:Code:=((Tryz.f21.body.bind (regAt 4)).getD .skip)
theorem kmn_1 {K:MkK} {_M:List Nat} {bx:List Box} {rs:List Rw} {L:List (List Nat->World->Prop)} {_W:World} {ks:List Knd} {n:Nat} {A0:Option Addr} {c0:Nat} {rb:Nat} {lo:Int} {yH yC qf vS vK yl yE yz yI yt qa qc yO vT yA yu vW yX yM ym yj yQ yJ yY vL qh qb yW vZ vH yd vX qm yh yb yg qj vJ qd yZ yq yo qi ql yx yi ys yD qk yN yk yS yp yv yV yc yR yr yT vM vO yf yU qe qn ye vQ vG vI yP vY vR yL qg vN yK yn yF yG ya vV yw yB vU yy vP uE uP vy uH vk uk vq vr uV ua uS uK ut uJ ur vt vF uu vv ul vA uQ uU ui vs uM uD vE uF uT uY vd uZ uG uq ud vf uL uN uW vp ub uA vx uo vu us va vC vB up uO vl uc vw vg uI uX ux uh uv ve vi vc uR vh uB un uf vz vb um uC vD uj ue vo uy uz uw vn vj vm ug:Value} {hi:Int} {nm:ByteArray} {wo:World} {M1:List Nat} {kb:Nat} {fv:Value} {fxs:List Value} {kxs:List Value}  {J_ K_:Act->World->Prop} {Q_:Exit->Act->World->Prop} {cd_:Code} (hcd_:cd_=kmn_1_code) (_hn2:n<=2) (_lo0:(0:Int)<=lo) (_lo4:lo<=(4:Int)) (_hi1:lo<=hi) (_hi2:hi<=lo+(4:Int)) (_hnm:Sg.kname n=nm) (H: Hid (MkH K M1 ((kb,(52:TypeId),#[Value.string nm,Value.int IntKind.i64 lo,Value.int IntKind.i64 hi,fv])::(rb,(52:TypeId),#[Value.string { data:=#[] },Value.int IntKind.i64 (0:Int),Value.int IntKind.i64 (0:Int),Value.slice none 0 0])::bx) ({ e:=(65:TypeId),size:=8,v:=fv,n:=([]:List Fld).length,xs:=fxs }::{ e:=(52:TypeId),size:=4,v:=Value.slice A0 n c0,n:=n,xs:=kxs }::rs) ((λM W=>Flat M W ([]:List Fld) fxs)::(λM W=>Flat M W ks kxs)::L) wo))
  (hJ_:∀(a':Act) (w':World),(∃yH yC qf vS vK yl yE yz yI yt qa qc yO vT yA yu vW yX yM ym yj yQ yJ yY vL qh qb yW vZ vH yd vX qm yh yb yg qj vJ qd yZ yq yo qi ql yx yi ys yD qk yN yk yS yp yv yV yc yR yr yT vM vO yf yU qe qn ye vQ vG vI yP vY vR yL qg vN yK yn yF yG ya vV yw yB vU yy vP uE uP vy uH vk uk vq vr uV ua uS uK ut uJ ur vt vF uu vv ul vA uQ uU ui vs uM uD vE uF uT uY vd uZ uG uq ud vf uL uN uW vp ub uA vx uo vu us va vC vB up uO vl uc vw vg uI uX ux uh uv ve vi vc uR vh uB un uf vz vb um uC vD uj ue vo uy uz uw vn vj vm ug,((∃x,Sg.okLo x/\KSt K bx rs L rb n (Value.slice A0 n c0) (Value.pointer (some (Addr.mk (kb) (0) none))) nm lo hi [Sg.idF x] ks w'))/\a'=⟨(K.p::(Value.slice A0 n c0)::undef::undef::(Value.pointer (some (Addr.mk (rb) (0) none)))::(Value.int IntKind.i64 (↑n:Int))::(Value.int IntKind.i64 lo)::(Value.pointer (some (Addr.mk (kb) (0) none)))::undef::undef::undef::undef::undef::undef::yH::yC::qf::vS::vK::yl::yE::yz::yI::yt::qa::qc::yO::vT::yA::yu::vW::yX::yM::ym::yj::yQ::yJ::yY::vL::qh::qb::yW::vZ::vH::yd::vX::qm::yh::yb::yg::qj::vJ::qd::yZ::yq::yo::qi::ql::yx::yi::ys::yD::qk::yN::yk::yS::yp::yv::yV::yc::yR::yr::yT::vM::vO::yf::yU::qe::qn::ye::vQ::vG::vI::yP::vY::vR::yL::qg::vN::yK::yn::yF::yG::ya::vV::yw::yB::vU::yy::vP::uE::uP::vy::uH::vk::uk::vq::vr::uV::ua::uS::uK::ut::uJ::ur::vt::vF::uu::vv::ul::vA::uQ::uU::ui::vs::uM::uD::vE::uF::uT::uY::vd::uZ::uG::uq::ud::vf::uL::uN::uW::vp::ub::uA::vx::uo::vu::us::va::vC::vB::up::uO::vl::uc::vw::vg::uI::uX::ux::uh::uv::ve::vi::vc::uR::vh::uB::un::uf::vz::vb::um::uC::vD::uj::ue::vo::uy::uz::uw::vn::vj::vm::ug::[]).toArray,[]⟩)->J_ a' w') (hM_:∀(a':Act) (w':World),Met J_ a' w'->K_ a' w') :
  Code.wp Tryz.prog cd_ (Exit.then K_ Q_) ⟨(K.p::(Value.slice A0 n c0)::undef::undef::(Value.pointer (some (Addr.mk (rb) (0) none)))::(Value.int IntKind.i64 (↑n:Int))::(Value.int IntKind.i64 lo)::(Value.pointer (some (Addr.mk (kb) (0) none)))::undef::undef::undef::undef::undef::undef::yH::yC::qf::vS::vK::yl::yE::yz::yI::yt::qa::qc::yO::vT::yA::yu::vW::yX::yM::ym::yj::yQ::yJ::yY::vL::qh::qb::yW::vZ::vH::yd::vX::qm::yh::yb::yg::qj::vJ::qd::yZ::yq::yo::qi::ql::yx::yi::ys::yD::qk::yN::yk::yS::yp::yv::yV::yc::yR::yr::yT::vM::vO::yf::yU::qe::qn::ye::vQ::vG::vI::yP::vY::vR::yL::qg::vN::yK::yn::yF::yG::ya::vV::yw::yB::vU::yy::vP::uE::uP::vy::uH::vk::uk::vq::vr::uV::ua::uS::uK::ut::uJ::ur::vt::vF::uu::vv::ul::vA::uQ::uU::ui::vs::uM::uD::vE::uF::uT::uY::vd::uZ::uG::uq::ud::vf::uL::uN::uW::vp::ub::uA::vx::uo::vu::us::va::vC::vB::up::uO::vl::uc::vw::vg::uI::uX::ux::uh::uv::ve::vi::vc::uR::vh::uB::un::uf::vz::vb::um::uC::vD::uj::ue::vo::uy::uz::uw::vn::vj::vm::ug::[]).toArray,[]⟩ wo:=by
 subst hcd_
 conv=>arg 2;whnf
 letI:Grow:=K.grow
 apply zx (C:=λw'=>K.R wo w') (n:=184) (m:=9) (l1:=[_,_,_,_,_,_,_,_,_]) (l2:=[_,_,_]);rfl;rfl;kernel_rfl;rfl;kernel_rfl;exact K.drew wo;exact λu u' h hb=>h.trans hb
 iterate 2 ((apply aHx;·(intro w' hC hf;have q:=(H.out.turn hC).box (.head _);have q0:=q.cell 0;have q3:=q.cell 3;(simp at q0 q3);clear q;clear hf hC;go_wp2_with (fail);apply aBx;simp only [zC];exact rfl));(try simp only [zn]))
 apply zb (litT_kept K wo.heap.size 4 3 (λcs=>cs=#[.int .i64 0,.int .i64 1,.int .i64 100,.int .i64 (-3)]) H.out.gmLt)
 .intro w' hC hf;unfold RG.Gives;clear hf
  have hs:=aI (K.size hC)
  clear hC
  go_wp2_with fail
  refine zd rfl (K.grown (by go_grown)) ?_;simp only [zC]
  exact ⟨_,_,rfl,rfl,hs.out,zj _ _ _⟩
 intro v33;(try simp only [zn])
 (apply aHx;·(intro w' hC hf;clear hf hC;go_wp2_with (fail);apply aBx;simp only [zC];exact rfl));(try simp only [zn])
 apply zb (T:=λv _=>∃z:Nat,v=.int .i64 (z:Int)/\z < 4) (λv w w' h _=>h)
 .intro w' hC hf;unfold RG.Gives;clear hf
  go_wp2_with fail
  go_at_call 20
  refine ((H.out.turn hC).take 4 (by omega) (by omega)).mono ?_
  rintro e w3 ⟨v,rfl,v1,v2,hr⟩
  obtain ⟨z,rfl⟩:∃z':Nat,v=z':=⟨v.toNat,by omega⟩
  go_wp2_with fail
  refine zd rfl hr ?_;simp only [zC];exact ⟨z,rfl,by omega⟩
 intro v35;(try simp only [zn])
 apply zb (T:=PtrT wo.heap.size 3 (λcs i=>∃x:Int,cs[i]?=some (.int .i64 x)/\Sg.okLo x)) (ptrT_kept K _ _ _ H.out.gmLt)
 .intro w' hC hf;unfold RG.Gives;obtain ⟨z,rfl,z1⟩:=hf.1 rfl;obtain ⟨cs,N,rfl,rfl,hge,hblk⟩:=hf.2.1 rfl;clear hf
  have k1:(z:Int) < 4:=by omega
  go_wp2_with fail
  refine zd rfl (Grow.refl _) ?_;simp only [zC];exact ⟨_,N,z,by first | rfl | simp [Addr.add],(by obtain ⟨x,h1,h2⟩:=ids_at z z1;exact ⟨x,h2,h1⟩),hge,hblk⟩
 intro v36;(try simp only [zn])
 apply zb (T:=λv _=>∃x:Int,v=.int .i64 x/\Sg.okLo x) (λv w w' h _=>h)
 .intro w' hC hf;unfold RG.Gives;obtain ⟨cs,N,i,rfl,⟨x,hx,hok⟩,hge,hblk⟩:=hf.1 rfl;have q:=hblk.cell i;rw [hx] at q;clear hC;clear hf
  go_wp2_with fail
  refine zd rfl (Grow.refl _) ?_;simp only [zC];exact ⟨x,rfl,hok⟩
 intro v37;(try simp only [zn])
 apply zb (T:=λv _=>∃x:Int,v=.agg #[.string Sg.bid,.string Sg.be,.string Sg.be,.int .i64 0,.int .i64 x,.int .i64 0,.slice none 0 0,.slice none 0 0]/\Sg.okLo x) (λv w w' h _=>h)
 .intro w' hC hf;unfold RG.Gives;obtain ⟨x,rfl,hok⟩:=hf.1 rfl;clear hC;clear hf
  go_wp2_with fail
  refine zd rfl (Grow.refl _) ?_;simp only [zC];exact ⟨x,rfl,hok⟩
 intro v38;(try simp only [zn])
 apply zb (litT_kept K wo.heap.size 1 65 (λcs=>∃x:Int,cs=#[.string Sg.bid,.string Sg.be,.string Sg.be,.int .i64 0,.int .i64 x,.int .i64 0,.slice none 0 0,.slice none 0 0]/\Sg.okLo x) H.out.gmLt)
 .intro w' hC hf;unfold RG.Gives;obtain ⟨x,rfl,hok⟩:=hf.1 rfl;clear hf
  have hs:=aI (K.size hC)
  clear hC
  go_wp2_with fail
  refine zd rfl (K.grown (by go_grown)) ?_;simp only [zC]
  exact ⟨_,_,rfl,⟨x,rfl,hok⟩,hs.out,zj _ _ _⟩
 intro v39;(try simp only [zn])
 apply RG.wpT_done
 intro w4 hC hall
 obtain ⟨cs,N2,rfl,⟨x,rfl,hok⟩,hge,hblk⟩:=hall.1
 have T:=aI (H.out.turn hC)
 have HX:=aI hok
 obtain ⟨x1,x2⟩:=okLo_bd hok
 clear hall hC H this hok
 have hfl:([]:List Fld).length<=8:=(by simp)
 obtain ⟨i0,hI,hz0,hz1,hz2⟩:=zq infoFld
 refine wpList_append_mk (by rfl) _ _ 50 (by rfl) 65 i0 _ 8 120 Tryz.underlying50 hI hz0 hz1 hz2 rfl (by decide) T.out (by rfl) _ _ 1 1 [.string Sg.bid,.string Sg.be,.string Sg.be,.int .i64 0,.int .i64 x,.int .i64 0,.slice none 0 0,.slice none 0 0] (by rfl) (reads_blk hblk rfl) (by simp [Value.oneCell']) (by unfold maxLen;omega) (by omega) ?_
 intro v5 w5 M5 h5 _
 obtain ⟨A5,c5,rfl⟩:=h5.form
 have hq:=h5.box (.head _);have f3:=hq.frozen 3;have q3:=hq.cell 3;(simp at q3);clear hq
 have T5:=aI (h5.putF (news:=[Sg.idF x]) (Flat.single (fld_mk (by decide) (by decide) (by decide) (by unfold inI;omega) (by unfold inI;omega) (by unfold inI;omega) rep_nil rep_nil)))
 clear h5 hI hz0 hz1 hz2 hblk T hfl
 go_wp2_with fail
 go_meet
 case rel=>exact ⟨x,HX.out,KSt.mk1 T5.out rfl⟩
noncomputable def kmn_2_code:Code:=((Tryz.f21.body.bind (regAt 19)).getD .skip)
theorem kmn_2 {K:MkK} {_M:List Nat} {bx:List Box} {rs:List Rw} {L:List (List Nat->World->Prop)} {_W:World} {ks:List Knd} {n:Nat} {c0:Nat} {rb:Nat} {lo:Int} {hi:Int} {nm:ByteArray} {u8 u9 qo qp:Value} {fs:List Fld} {ks':List Knd} {yH yC qf vR vJ yl yE yz yI yt qa qc yO vS yA yu vV yX yL ym yj yQ yJ yY vK qh qb yW vY vG yc vW qm yg ya yf qj vI qd yZ yq yo qi ql yx yi ys yD qk yN yk yS yp yv yV yb yR yr yT vL vN ye yU qe qn yd vP vF vH yP vX vQ yM qg vM yK yn yF yG vZ vU yw yB vT yy vO uD uO vx uG vj uk vp vq uU ua uR uJ ut uI ur vs vE uu vu ul vz uP uT ui vr uL uC vD uE uS uX vc uY uF uq ud ve uK uM uV vo ub vw uo vt us uZ vB vA up uN vk uc vv vf uH uW ux uh uv vd vh vb uQ vg uA un uf vy va um uB vC uj ue vn uy uz uw vm vi vl ug:Value} {M1:List Nat} {kb:Nat} {fv:Value} {fxs:List Value} {kxs:List Value} {g:Nat} {nmo:ByteArray} {wo:World}  {J_ K_:Act->World->Prop} {Q_:Exit->Act->World->Prop} {cd_:Code} (hcd_:cd_=kmn_2_code) (hn2:n<=2) (HN:Hid (n=ks.length)) (_lo0:(0:Int)<=lo) (_lo4:lo<=(4:Int)) (_hi1:lo<=hi) (_hi2:hi<=lo+(4:Int)) (_hnm:Sg.kname n=nm) (HFL:Hid (fs.length<=4)) (hn1:2<=n) (hn0:0 < n) (hzk:0 < ks'.length) (s4:nmo.size<=9223372036854775807) (HNM:Hid (ks'[0].fst=nmo)) (HQ0:Hid (kxs[0*4]?=some (Value.string nmo))) (_hb:True->2<=n) (H: Hid (MkH K M1 ((kb,(52:TypeId),#[Value.string nm,Value.int IntKind.i64 lo,Value.int IntKind.i64 hi,fv])::(rb,(52:TypeId),#[Value.string { data:=#[] },Value.int IntKind.i64 (0:Int),Value.int IntKind.i64 (0:Int),Value.slice none 0 0])::bx) ({ e:=(65:TypeId),size:=8,v:=fv,n:=fs.length,xs:=fxs }::{ e:=(52:TypeId),size:=4,v:=Value.slice (some (Addr.mk (g) (0) none)) n c0,n:=n,xs:=kxs }::rs) ((λM W=>Flat M W fs fxs)::(λM W=>Flat M W ks' kxs)::L) wo))
  (hJ_:∀(a':Act) (w':World),(∃yH yC qf vR vJ yl yE yz yI yt qa qc yO vS yA yu vV yX yL ym yj yQ yJ yY vK qh qb yW vY vG yc vW qm yg ya yf qj vI qd yZ yq yo qi ql yx yi ys yD qk yN yk yS yp yv yV yb yR yr yT vL vN ye yU qe qn yd vP vF vH yP vX vQ yM qg vM yK yn yF yG vZ vU yw yB vT yy vO uD uO vx uG vj uk vp vq uU ua uR uJ ut uI ur vs vE uu vu ul vz uP uT ui vr uL uC vD uE uS uX vc uY uF uq ud ve uK uM uV vo ub yh vw uo vt us uZ vB vA up uN vk uc vv vf uH uW ux uh uv vd vh vb uQ vg uA un uf vy va um uB vC uj ue vn uy uz uw vm vi vl ug,((∃by_,Sg.By ks ks' by_/\KSt K bx rs L rb n (Value.slice (some (Addr.mk (g) (0) none)) n c0) (Value.pointer (some (Addr.mk (kb) (0) none))) nm lo hi (fs++by_) ks' w'))/\a'=⟨(K.p::(Value.slice (some (Addr.mk (g) (0) none)) n c0)::undef::undef::(Value.pointer (some (Addr.mk (rb) (0) none)))::(Value.int IntKind.i64 (↑n:Int))::(Value.int IntKind.i64 lo)::(Value.pointer (some (Addr.mk (kb) (0) none)))::u8::u9::qo::qp::undef::undef::yH::yC::qf::vR::vJ::yl::yE::yz::yI::yt::qa::qc::yO::vS::yA::yu::vV::yX::yL::ym::yj::yQ::yJ::yY::vK::qh::qb::yW::vY::vG::yc::vW::qm::yg::ya::yf::qj::vI::qd::yZ::yq::yo::qi::ql::yx::yi::ys::yD::qk::yN::yk::yS::yp::yv::yV::yb::yR::yr::yT::vL::vN::ye::yU::qe::qn::yd::vP::vF::vH::yP::vX::vQ::yM::qg::vM::yK::yn::yF::yG::vZ::vU::yw::yB::vT::yy::vO::uD::uO::vx::uG::vj::uk::vp::vq::uU::ua::uR::uJ::ut::uI::ur::vs::vE::uu::vu::ul::vz::uP::uT::ui::vr::uL::uC::vD::uE::uS::uX::vc::uY::uF::uq::ud::ve::uK::uM::uV::vo::ub::yh::vw::uo::vt::us::uZ::vB::vA::up::uN::vk::uc::vv::vf::uH::uW::ux::uh::uv::vd::vh::vb::uQ::vg::uA::un::uf::vy::va::um::uB::vC::uj::ue::vn::uy::uz::uw::vm::vi::vl::ug::[]).toArray,[]⟩)->J_ a' w') (hM_:∀(a':Act) (w':World),Met J_ a' w'->K_ a' w') :
  Code.wp Tryz.prog cd_ (Exit.then K_ Q_) ⟨(K.p::(Value.slice (some (Addr.mk (g) (0) none)) n c0)::undef::undef::(Value.pointer (some (Addr.mk (rb) (0) none)))::(Value.int IntKind.i64 (↑n:Int))::(Value.int IntKind.i64 lo)::(Value.pointer (some (Addr.mk (kb) (0) none)))::u8::u9::qo::qp::undef::undef::yH::yC::qf::vR::vJ::yl::yE::yz::yI::yt::qa::qc::yO::vS::yA::yu::vV::yX::yL::ym::yj::yQ::yJ::yY::vK::qh::qb::yW::vY::vG::yc::vW::qm::yg::ya::yf::qj::vI::qd::yZ::yq::yo::qi::ql::yx::yi::ys::yD::qk::yN::yk::yS::yp::yv::yV::yb::yR::yr::yT::vL::vN::ye::yU::qe::qn::yd::vP::vF::vH::yP::vX::vQ::yM::qg::vM::yK::yn::yF::yG::vZ::vU::yw::yB::vT::yy::vO::uD::uO::vx::uG::vj::uk::vp::vq::uU::ua::uR::uJ::ut::uI::ur::vs::vE::uu::vu::ul::vz::uP::uT::ui::vr::uL::uC::vD::uE::uS::uX::vc::uY::uF::uq::ud::ve::uK::uM::uV::vo::ub::(Value.bool true)::vw::uo::vt::us::uZ::vB::vA::up::uN::vk::uc::vv::vf::uH::uW::ux::uh::uv::vd::vh::vb::uQ::vg::uA::un::uf::vy::va::um::uB::vC::uj::ue::vn::uy::uz::uw::vm::vi::vl::ug::[]).toArray,[]⟩ wo:=by
 subst hcd_
 conv=>arg 2;whnf
 letI:Grow:=K.grow
 apply zx (C:=λw'=>K.R wo w') (n:=184) (m:=8) (l1:=[_,_,_,_,_,_,_,_]) (l2:=[_,_,_]);rfl;rfl;kernel_rfl;rfl;kernel_rfl;exact K.drew wo;exact λu u' h hb=>h.trans hb
 iterate 2 ((apply aHx;·(intro w' hC hf;have q:=(H.out.turn hC).box (.head _);have q3:=q.cell 3;(simp at q3);clear q;clear hf hC;go_wp2_with (fail);apply aBx;simp only [zC];exact rfl));(try simp only [zn]))
 iterate 3 ((apply aHx;·(intro w' hC hf;clear hf hC;go_wp2_with (fail);apply aBx;simp only [zC];exact rfl));(try simp only [zn]))
 (apply aHx;·(intro w' hC hf;have q:=(H.out.turn hC).rcell (.tail _ (.head _)) hn0 HQ0.out;(try simp at q);clear hf hC;go_wp2_with (fail);apply aBx;simp only [zC];exact rfl));(try simp only [zn])
 (apply aHx;·(intro w' hC hf;clear hf hC;go_wp2_with (fail);apply aBx;simp only [zC];exact rfl));(try simp only [zn])
 apply zb (litT_kept K wo.heap.size 1 65 (λcs=>cs=#[.string Sg.bby,.string nmo,.string Sg.be,.int .i64 1,.int .i64 0,.int .i64 8,.slice none 0 0,.slice none 0 0]) H.out.gmLt)
 .intro w' hC hf;unfold RG.Gives;clear hf
  have hs:=aI (K.size hC)
  clear hC
  go_wp2_with fail
  refine zd rfl (K.grown (by go_grown)) ?_;simp only [zC]
  exact ⟨_,_,rfl,rfl,hs.out,zj _ _ _⟩
 intro v150;(try simp only [zn])
 apply RG.wpT_done
 intro w4 hC hall
 obtain ⟨cs,N2,rfl,rfl,hge,hblk⟩:=hall.1
 have T:=aI (H.out.turn hC)
 clear hall hC H this
 have hfl:(fs:List Fld).length<=8:=by have:=HFL.out;omega
 obtain ⟨i0,hI,hz0,hz1,hz2⟩:=zq infoFld
 refine wpList_append_mk (by rfl) _ _ 50 (by rfl) 65 i0 _ 8 120 Tryz.underlying50 hI hz0 hz1 hz2 rfl (by decide) T.out (by rfl) _ _ 1 1 [.string Sg.bby,.string nmo,.string Sg.be,.int .i64 1,.int .i64 0,.int .i64 8,.slice none 0 0,.slice none 0 0] (by rfl) (reads_blk hblk rfl) (by simp [Value.oneCell']) (by unfold maxLen;omega) (by omega) ?_
 intro v5 w5 M5 h5 _
 obtain ⟨A5,c5,rfl⟩:=h5.form
 have hq:=h5.box (.head _);have f3:=hq.frozen 3;have q3:=hq.cell 3;(simp at q3);clear hq
 have T5:=aI (h5.putF (news:=[Sg.byF nmo]) (Flat.single (fld_mk (by decide) s4 (by decide) (by unfold inI;omega) (by unfold inI;omega) (by unfold inI;omega) rep_nil rep_nil)))
 clear h5 hI hz0 hz1 hz2 hblk T hfl
 go_wp2_with fail
 go_meet
 case rel =>
  refine ⟨[Sg.byF nmo],.inr ⟨?_,ks'[0],zp hzk,by rw [HNM.out]⟩,KSt.mk1 T5.out rfl⟩
  have:=HN.out
  omega
noncomputable def kmn_3_code:Code:=((Tryz.f21.body.bind (regAt 24)).getD .skip)
theorem kmn_3 {K:MkK} {_M:List Nat} {bx:List Box} {rs:List Rw} {L:List (List Nat->World->Prop)} {_W:World} {n:Nat} {A0:Option Addr} {c0:Nat} {rb:Nat} {lo:Int} {hi:Int} {nm:ByteArray} {u8 u9 qo qp:Value} {ks':List Knd} {_b:Bool} {fs3:List Fld} {kb:Nat} {m0:Nat} {qq yE yz qf vN vF yh yB yv yG yp qa qc yO vO yw yq vR yX yJ yi yf yQ yH yY vG qh qb yW vU vC vY vS qm yd vW yc qj vE qd yZ ym yk qi ql yt ye yo yA qk yM yg yS yl yr yV vX yR yn yT vH vJ yb yU qe qn vZ vL vB vD yP vT vM yK qg vI yI yj yC yD vV vQ ys yx vP yu vK uD uO vt uG vf ul vl vm uT ub uQ uJ uu uI us vo vA uv vq um vv uP uS uj vn uL uC vz uE uR uW va uX uF ur ue vb uK uM uU vk uc uz vs up vp ut uY vx vw uq uN vg ud vr vc uH uV ux ui vd uA uo ug vu uZ un uB vy uk uf vj ua uy uw vi ve vh uh:Value} {fs4:List Fld} {fxs:List Value} {kxs:List Value} {c1:Nat} {M2:List Nat} {f:Fld} {r:List Fld} {b1:Nat} {o1:Nat} {A4:Option Addr} {c4:Nat} {nmf:ByteArray} {x4:Int} {wo:World}  {J_ K_:Act->World->Prop} {Q_:Exit->Act->World->Prop} {cd_:Code} (hcd_:cd_=kmn_3_code) (_hn2:n<=2) (_lo0:(0:Int)<=lo) (_lo4:lo<=(4:Int)) (_hi1:lo<=hi) (_hi2:hi<=lo+(4:Int)) (_hnm:Sg.kname n=nm) (_hm3:fs3.length<=5) (_hml:m0<=2) (HFL4:Hid (fs4.length<=7)) (_v1:(0:Int)<=(0:Int)) (_v2:(0:Int) < (2:Int)) (_pc2:c1<=9223372036854775807) (_pc1:r.length+1<=c1) (_hml2:r.length+1<=2) (_t1:decide ((0:Int) < (↑(r.length+1):Int))=true) (HNF:Hid (Sc.nm f=nmf)) (HX4:Hid (Sc.ix (Sc.named nmf) fs4=x4)) (H: Hid (MkH K M2 ((kb,(52:TypeId),#[Value.string nm,Value.int IntKind.i64 lo,Value.int IntKind.i64 hi,Value.slice A4 fs4.length c4])::(rb,(52:TypeId),#[Value.string { data:=#[] },Value.int IntKind.i64 (0:Int),Value.int IntKind.i64 (0:Int),Value.slice none 0 0])::bx) ({ e:=(65:TypeId),size:=8,v:=Value.slice A4 fs4.length c4,n:=fs4.length,xs:=fxs }::{ e:=(52:TypeId),size:=4,v:=Value.slice A0 n c0,n:=n,xs:=kxs }::rs) ((λM W=>SlAt M W (some (Addr.mk (b1) (o1) none)) (f::r))::(λM W=>Flat M W fs4 fxs)::(λM W=>Flat M W ks' kxs)::L) wo))
  (hJ_:∀(a':Act) (w':World),(∃yE yz qf vN vF yh yB yv yG yp qa qc yO vO yw yq vR yX yJ yi yf yQ yH yY vG qh qb yW vU vC vY vS qm yd vW yc qj vE qd yZ ym yk qi ql yt ye yo yA qk yM yg yS yl yr yV vX yR yn yT vH vJ yb yU qe qn vZ vL vB vD yP vT vM yK qg vI yI yj yC yD vV vQ ys yx vP yu vK uD uO vt uG vf ul vl vm uT ub uQ uJ uu uI us vo vA uv vq um vv uP uS uj vn uL uC vz uE uR uW va uX uF ur ue vb uK uM uU vk uc uz vs up vp ut uY vx vw uq uN vg ud vr vc uH uV ux ui ya yL yN yF yy vd uA uo ug vu uZ un uB vy uk uf vj ua uy uw vi ve vh uh,((∃b,ua=Value.bool b/\(b=true->∃f_1 r_1,f::r=f_1::r_1/\Sc.ix (Sc.named (Sc.nm f_1)) fs4 < (0:Int))/\∃M,MkH K M ((kb,(52:TypeId),#[Value.string nm,Value.int IntKind.i64 lo,Value.int IntKind.i64 hi,Value.slice A4 fs4.length c4])::(rb,(52:TypeId),#[Value.string { data:=#[] },Value.int IntKind.i64 (0:Int),Value.int IntKind.i64 (0:Int),Value.slice none 0 0])::bx) ({ e:=(65:TypeId),size:=8,v:=Value.slice A4 fs4.length c4,n:=fs4.length,xs:=fxs }::{ e:=(52:TypeId),size:=4,v:=Value.slice A0 n c0,n:=n,xs:=kxs }::rs) ((λM W=>SlAt M W (some (Addr.mk (b1) (o1) none)) (f::r))::(λM W=>Flat M W fs4 fxs)::(λM W=>Flat M W ks' kxs)::L) w'))/\a'=⟨(K.p::(Value.slice A0 n c0)::undef::undef::(Value.pointer (some (Addr.mk (rb) (0) none)))::(Value.int IntKind.i64 (↑n:Int))::(Value.int IntKind.i64 lo)::(Value.pointer (some (Addr.mk (kb) (0) none)))::u8::u9::qo::qp::qq::(Value.slice (some (Addr.mk (b1) (o1) none)) (r.length+1) c1)::yE::yz::qf::vN::vF::yh::yB::yv::yG::yp::qa::qc::yO::vO::yw::yq::vR::yX::yJ::yi::yf::yQ::yH::yY::vG::qh::qb::yW::vU::vC::vY::vS::qm::yd::vW::yc::qj::vE::qd::yZ::ym::yk::qi::ql::yt::ye::yo::yA::qk::yM::yg::yS::yl::yr::yV::vX::yR::yn::yT::vH::vJ::yb::yU::qe::qn::vZ::vL::vB::vD::yP::vT::vM::yK::qg::vI::yI::yj::yC::yD::vV::vQ::ys::yx::vP::yu::vK::uD::uO::vt::uG::vf::ul::vl::vm::uT::ub::uQ::uJ::uu::uI::us::vo::vA::uv::vq::um::vv::uP::uS::uj::vn::uL::uC::vz::uE::uR::uW::va::uX::uF::ur::ue::vb::uK::uM::uU::vk::uc::uz::vs::up::vp::ut::uY::vx::vw::uq::uN::vg::ud::vr::vc::uH::uV::ux::ui::ya::yL::yN::yF::yy::vd::uA::uo::ug::vu::uZ::un::uB::vy::uk::uf::vj::ua::uy::uw::vi::ve::vh::uh::[]).toArray,[]⟩)->J_ a' w') (hM_:∀(a':Act) (w':World),Met J_ a' w'->K_ a' w') :
  Code.wp Tryz.prog cd_ (Exit.then K_ Q_) ⟨(K.p::(Value.slice A0 n c0)::undef::undef::(Value.pointer (some (Addr.mk (rb) (0) none)))::(Value.int IntKind.i64 (↑n:Int))::(Value.int IntKind.i64 lo)::(Value.pointer (some (Addr.mk (kb) (0) none)))::u8::u9::qo::qp::qq::(Value.slice (some (Addr.mk (b1) (o1) none)) (r.length+1) c1)::yE::yz::qf::vN::vF::yh::yB::yv::yG::yp::qa::qc::yO::vO::yw::yq::vR::yX::yJ::yi::yf::yQ::yH::yY::vG::qh::qb::yW::vU::vC::vY::vS::qm::yd::vW::yc::qj::vE::qd::yZ::ym::yk::qi::ql::yt::ye::yo::yA::qk::yM::yg::yS::yl::yr::yV::vX::yR::yn::yT::vH::vJ::yb::yU::qe::qn::vZ::vL::vB::vD::yP::vT::vM::yK::qg::vI::yI::yj::yC::yD::vV::vQ::ys::yx::vP::yu::vK::uD::uO::vt::uG::vf::ul::vl::vm::uT::ub::uQ::uJ::uu::uI::us::vo::vA::uv::vq::um::vv::uP::uS::uj::vn::uL::uC::vz::uE::uR::uW::va::uX::uF::ur::ue::vb::uK::uM::uU::vk::uc::uz::vs::up::vp::ut::uY::vx::vw::uq::uN::vg::ud::vr::vc::uH::uV::ux::ui::K.p::(Value.int IntKind.i64 (0:Int))::(Value.bool true)::K.p::(Value.slice (some (Addr.mk (b1) (o1) none)) (r.length+1) c1)::vd::uA::uo::ug::vu::uZ::un::uB::vy::uk::uf::vj::ua::uy::uw::vi::ve::vh::uh::[]).toArray,[]⟩ wo:=by
 subst hcd_
 conv=>arg 2;whnf
 letI:Grow:=K.grow
 apply zx (C:=λw'=>K.R wo w') (n:=184) (m:=13) (l1:=[_,_,_,_,_,_,_,_,_,_,_,_,_]) (l2:=[]);rfl;rfl;kernel_rfl;rfl;kernel_rfl;exact K.drew wo;exact λu u' h hb=>h.trans hb
 iterate 5 ((apply aHx;·(intro w' hC hf;clear hf hC;go_wp2_with (fail);apply aBx;simp only [zC];exact rfl));(try simp only [zn]))
 (apply aHx;·(intro w' hC hf;have q:=(H.out.turn hC).box (.head _);have q3:=q.cell 3;(simp at q3);clear q;clear hf hC;go_wp2_with (fail);apply aBx;simp only [zC];exact rfl));(try simp only [zn])
 iterate 3 ((apply aHx;·(intro w' hC hf;clear hf hC;go_wp2_with (fail);apply aBx;simp only [zC];exact rfl));(try simp only [zn]))
 (apply aHx;·(intro w' hC hf;obtain ⟨b',o',_,_,_,_,hbo,_,q,_⟩:=fld_at ((H.out.turn hC).fact (.head _)) 0 (by simp);(simp only [List.getElem_cons_zero] at q);rw [HNF.out] at q;(injection hbo with hbo;injection hbo with hb1 hb2;subst hb1;subst hb2);(try simp at q);clear hf hC;go_wp2_with (fail);apply aBx;simp only [zC];exact rfl));(try simp only [zn])
 apply RG.wpT_exact (c:=.int .i64 x4)
 .intro w' hC hf;unfold RG.Gives;clear hf
  obtain ⟨A4',c4',e4,_,_,hs4⟩:=(H.out.turn hC).rowSl (α:=Fld) (.head _) ((H.out.turn hC).fact (.tail _ (.head _)))
  obtain rfl:A4=A4':=by injection e4
  have hm4:=HFL4.out
  have CC:=has_any fs4 A4 c4 nmf w' hs4 (by omega)
  rw [HX4.out] at CC
  clear hs4 e4
  go_wp2_with (go_at_call 70;(with_reducible refine CC.mono ?_);rintro e w3 ⟨rfl,hb⟩)
  apply RG.postT_val rfl (K.grown hb);simp only [zC]
 (try simp only [zn])
 iterate 2 ((apply aHx;·(intro w' hC hf;clear hf hC;go_wp2_with (fail);apply aBx;simp only [zC];exact rfl));(try simp only [zn]))
 apply RG.wpT_done
 intro w4 hC hall
 have T:=aI (H.out.turn hC)
 clear hall hC H
 go_wp2_with fail
 go_meet
 case rel=>exact ⟨_,rfl,λh=>⟨f,r,rfl,by rw [HNF.out,HX4.out];exact of_decide_eq_true h⟩,_,T.out⟩
end
end Go.Proofs.YtobcnhmhgoccnaaGreatDoor
