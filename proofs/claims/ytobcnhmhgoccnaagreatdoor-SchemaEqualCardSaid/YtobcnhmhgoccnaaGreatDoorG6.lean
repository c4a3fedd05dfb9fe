/- Parts of the proof, joined: W36q. -/
import Derived.Test.YtobcnhmhgoccnaaGreatDoorG3
set_option maxRecDepth 1000000
set_option maxHeartbeats 100000000
set_option linter.unusedVariables false
set_option linter.unusedSimpArgs false
set_option linter.unusedSectionVars false
namespace Go.Proofs.YtobcnhmhgoccnaaGreatDoor
open Go Go.RowKit
section
noncomputable def kmn_0_code:Code:=((Tryz.f21.body.bind (regAt 3)).getD .skip)
theorem kmn_0 {K:MkK} {M:List Nat} {bx:List Box} {rs:List Rw} {L:List (List Nat->World->Prop)} {_W:World} {ks:List Knd} {n:Nat} {kxs:List Value} {A0:Option Addr} {c0:Nat} {rb:Nat} {z:Nat} {lo:Int} {wo:World}  {J_ K_:Act->World->Prop} {Q_:Exit->Act->World->Prop} {cd_:Code} (hcd_:cd_=kmn_0_code) (hn2:n<=2) (_z1:(0:Int)<=(↑z:Int)) (_z2:(↑z:Int) < (6:Int)) (lo0:(0:Int)<=lo) (lo4:lo<=(4:Int)) (_z3:(↑z:Int) < (6:Int)) (H: Hid (MkH K (rb::M) ((rb,(52:TypeId),#[Value.string { data:=#[] },Value.int IntKind.i64 (0:Int),Value.int IntKind.i64 (0:Int),Value.slice none 0 0])::bx) ({ e:=(52:TypeId),size:=4,v:=Value.slice A0 n c0,n:=n,xs:=kxs }::rs) ((fun M W=>Flat M W ks kxs)::L) wo))
  (hJ_:∀ (a':Act) (w':World),(∃ u7 yD yE vI vL vJ qc yQ vX yV vP qn yZ vK yi yj qe yb yN yA yL yM yI ya yf yT vQ yv yy yH vO vM vY vU yt yo yl yd vT vS yg vZ ye vR qi qh vG yk yW vW yG qa qd qb yh yJ yp yX yB qk yU yS ql yu yY yP qf ys qm yR vH yF qg yC yw yx yc yK yr ym qj yn yz vV vN yq yO uc vF uk uZ uI uF ui vo ub vd uO ud vh vs uy vi uV vE uN uJ vv uA ue uE vk uH uo ua uM ul vr ut uK ug uT vz up vA uz vm vf vg vq vy uD vD um uU vj uq uB uv va vB uW uY un us vw vt uu vl uS ve vb vp uf ur vu ux uj vx vC uh uw vn uQ uX vc uL uP uR uG uC,((∃ hi,lo<=hi/\hi<=lo+(4:Int)/\KSt K bx rs L rb n (Value.slice A0 n c0) u7 (Sg.kname n) lo hi [] ks w'))/\a'=⟨(K.p::(Value.slice A0 n c0)::undef::undef::(Value.pointer (some (Addr.mk (rb) (0) none)))::(Value.int IntKind.i64 (↑n:Int))::(Value.int IntKind.i64 lo)::u7::undef::undef::undef::undef::undef::undef::yD::yE::vI::vL::vJ::qc::yQ::vX::yV::vP::qn::yZ::vK::yi::yj::qe::yb::yN::yA::yL::yM::yI::ya::yf::yT::vQ::yv::yy::yH::vO::vM::vY::vU::yt::yo::yl::yd::vT::vS::yg::vZ::ye::vR::qi::qh::vG::yk::yW::vW::yG::qa::qd::qb::yh::yJ::yp::yX::yB::qk::yU::yS::ql::yu::yY::yP::qf::ys::qm::yR::vH::yF::qg::yC::yw::yx::yc::yK::yr::ym::qj::yn::yz::vV::vN::yq::yO::uc::vF::uk::uZ::uI::uF::ui::vo::ub::vd::uO::ud::vh::vs::uy::vi::uV::vE::uN::uJ::vv::uA::ue::uE::vk::uH::uo::ua::uM::ul::vr::ut::uK::ug::uT::vz::up::vA::uz::vm::vf::vg::vq::vy::uD::vD::um::uU::vj::uq::uB::uv::va::vB::uW::uY::un::us::vw::vt::uu::vl::uS::ve::vb::vp::uf::ur::vu::ux::uj::vx::vC::uh::uw::vn::uQ::uX::vc::uL::uP::uR::uG::uC::[]).toArray,[]⟩)->J_ a' w') (hM_:∀ (a':Act) (w':World),Met J_ a' w'->K_ a' w') :
  Code.wp Tryz.prog cd_ (Exit.then K_ Q_) ⟨(K.p::(Value.slice A0 n c0)::undef::undef::(Value.pointer (some (Addr.mk (rb) (0) none)))::(Value.int IntKind.i64 (↑n:Int))::(Value.int IntKind.i64 lo)::undef::undef::undef::undef::undef::undef::undef::(Value.slice A0 n c0)::(Value.int IntKind.i64 (↑n:Int))::(Value.slice (some (Addr.mk (rb+1) (0) none)) 6 6)::K.p::(Value.int IntKind.i64 (↑z:Int))::(Value.pointer (some (Addr.mk (rb+1) (z) none)))::(Value.int IntKind.i64 lo)::undef::undef::undef::undef::undef::undef::undef::undef::undef::undef::undef::undef::undef::undef::undef::undef::undef::undef::undef::undef::undef::undef::undef::undef::undef::undef::undef::undef::undef::undef::undef::undef::undef::undef::undef::undef::undef::undef::undef::undef::undef::undef::undef::undef::undef::undef::undef::undef::undef::undef::undef::undef::undef::undef::undef::undef::undef::undef::undef::undef::undef::undef::undef::undef::undef::undef::undef::undef::undef::undef::undef::undef::undef::undef::undef::undef::undef::undef::undef::undef::undef::undef::undef::undef::undef::undef::undef::undef::undef::undef::undef::undef::undef::undef::undef::undef::undef::undef::undef::undef::undef::undef::undef::undef::undef::undef::undef::undef::undef::undef::undef::undef::undef::undef::undef::undef::undef::undef::undef::undef::undef::undef::undef::undef::undef::undef::undef::undef::undef::undef::undef::undef::undef::undef::undef::undef::undef::undef::undef::undef::undef::undef::undef::undef::undef::undef::undef::undef::undef::undef::undef::undef::undef::undef::undef::undef::undef::undef::undef::undef::undef::undef::undef::[]).toArray,[]⟩ wo:=by
 subst hcd_
 conv=>arg 2;whnf
 letI:Grow:=K.grow
 apply RG.wp_region_typed (C:=fun w'=>K.R wo w') (n:=184) (m:=11) (l1:=[_,_,_,_,_,_,_,_,_,_,_]) (l2:=[_]);rfl;rfl;kernel_rfl;rfl;kernel_rfl;exact K.drew wo;exact fun u u' h hb=>h.trans hb
 apply RG.wpT_typed (litT_kept K wo.heap.size 3 9 (fun cs=>cs=#[.string ⟨#[112,101,114,115,111,110]⟩,.string ⟨#[111,114,100,101,114]⟩,.string ⟨#[105,116,101,109]⟩]) H.out.gmLt)
 ·intro w' hC hf;unfold RG.Gives;clear hf
  have hs:=aI (K.size hC)
  clear hC
  go_wp2_with fail
  refine RG.postT_mk rfl (K.grown (by go_grown)) ?_;simp only [RG.valAt,aV]
  exact ⟨_,_,rfl,rfl,hs.out,Blk.new _ _ _⟩
 intro v21;(try simp only [Act.put,aZ])
 (apply aHx;·(intro w' hC hf;clear hf hC;go_wp2_with (fail);apply aBx;simp only [RG.valAt,aV];exact rfl));(try simp only [Act.put,aZ])
 apply RG.wpT_typed (T:=PtrT wo.heap.size 9 (fun cs i=>cs[i]?=some (.string (Sg.kname n)))) (ptrT_kept K _ _ _ H.out.gmLt)
 ·intro w' hC hf;unfold RG.Gives;obtain ⟨cs,N,rfl,rfl,hge,hblk⟩:=hf.1 rfl;clear hf
  have k1:(n:Int) < 3:=by omega
  go_wp2_with fail
  refine RG.postT_mk rfl (Grow.refl _) ?_;simp only [RG.valAt,aV];exact ⟨_,N,n,by first | rfl | simp [Addr.add],names_at n hn2,hge,hblk⟩
 intro v23;(try simp only [Act.put,aZ])
 (apply aHx;·(intro w' hC hf;obtain ⟨cs,N,i,rfl,hq,hge,hblk⟩:=hf.1 rfl;have q:=hblk.cell i;rw [hq] at q;clear hge hblk hq;clear hf hC;go_wp2_with (fail);apply aBx;simp only [RG.valAt,aV];exact rfl));(try simp only [Act.put,aZ])
 iterate 3 ((apply aHx;·(intro w' hC hf;clear hf hC;go_wp2_with (fail);apply aBx;simp only [RG.valAt,aV];exact rfl));(try simp only [Act.put,aZ]))
 apply RG.wpT_typed (T:=fun v _=>∃ z:Nat,v=.int .i64 (z:Int)/\z < 5) (fun v w w' h _=>h)
 ·intro w' hC hf;unfold RG.Gives;clear hf
  go_wp2_with fail
  go_at_call 20
  refine ((H.out.turn hC).take 5 (by omega) (by omega)).mono ?_
  rintro e w3 ⟨v,rfl,v1,v2,hr⟩
  obtain ⟨z,rfl⟩:∃ z':Nat,v=z':=⟨v.toNat,by omega⟩
  go_wp2_with fail
  refine RG.postT_mk rfl hr ?_;simp only [RG.valAt,aV];exact ⟨z,rfl,by omega⟩
 intro v28;(try simp only [Act.put,aZ])
 apply RG.wpT_typed (T:=fun v _=>∃ z:Nat,v=.int .i64 (lo+z)/\z < 5) (fun v w w' h _=>h)
 ·intro w' hC hf;unfold RG.Gives;obtain ⟨z,rfl,z1⟩:=hf.1 rfl;clear hC;clear hf
  go_wp2_with fail
  refine RG.postT_mk rfl (Grow.refl _) ?_;simp only [RG.valAt,aV];exact ⟨z,rfl,z1⟩
 intro v29;(try simp only [Act.put,aZ])
 apply RG.wpT_typed (T:=fun v _=>∃ z:Nat,v=.agg #[.string (Sg.kname n),.int .i64 lo,.int .i64 (lo+z),.slice none 0 0]/\z < 5) (fun v w w' h _=>h)
 ·intro w' hC hf;unfold RG.Gives;obtain ⟨z,rfl,z1⟩:=hf.1 rfl;clear hC;clear hf
  go_wp2_with fail
  refine RG.postT_mk rfl (Grow.refl _) ?_;simp only [RG.valAt,aV];exact ⟨z,rfl,z1⟩
 intro v30;(try simp only [Act.put,aZ])
 apply RG.wpT_typed (ptrT_kept K wo.heap.size 52 (fun cs i=>cs=#[.string ⟨#[]⟩,.int .i64 0,.int .i64 0,.slice none 0 0]/\i=0) H.out.gmLt)
 ·intro w' hC hf;unfold RG.Gives;clear hf
  have hs:=aI (K.size hC)
  clear hC
  go_wp2_with fail
  refine RG.postT_mk rfl (K.grown (by go_grown)) ?_;simp only [RG.valAt,aV]
  exact ⟨_,_,0,rfl,⟨rfl,rfl⟩,hs.out,Blk.new _ _ _⟩
 intro v7;(try simp only [Act.put,aZ])
 apply RG.wpT_done
 intro w4 hC hall
 obtain ⟨cs,kb,i,rfl,⟨rfl,rfl⟩,hge,hblk⟩:=hall.1
 obtain ⟨d,rfl,d1⟩:=hall.2.1
 have T:=aI (H.out.adopt hC hge hblk)
 have q:=hblk;obtain ⟨f0,f1,f2,f3⟩:=aN4 q.frozen;obtain ⟨q0,q1,q2,q3⟩:=aN4 q.cell;(simp at q0 q1 q2 q3);clear q
 clear hall hC hge hblk
 go_wp2_with fail
 go_meet
 case rel =>
  have T1:=((((T.out.set0 0 (.string (Sg.kname n))).set0 1 (.int .i64 lo)).set0 2 (.int .i64 (lo+d))).set0 3 (.slice none 0 0)).push 65 8
  have T2:=T1.add (keeps_flat ([]:List Fld) []) rfl
  exact ⟨lo+d,by omega,by omega,_,kb,.slice none 0 0,[],kxs,rfl,T2⟩
end
section
noncomputable def kmn_1_code:Code:=((Tryz.f21.body.bind (regAt 4)).getD .skip)
theorem kmn_1 {K:MkK} {_M:List Nat} {bx:List Box} {rs:List Rw} {L:List (List Nat->World->Prop)} {_W:World} {ks:List Knd} {n:Nat} {A0:Option Addr} {c0:Nat} {rb:Nat} {lo:Int} {yD yE vI vL vJ qc yQ vX yV vP qn yZ vK yi yj qe yb yN yA yL yM yI ya yf yT vQ yv yy yH vO vM vY vU yt yo yl yd vT vS yg vZ ye vR qi qh vG yk yW vW yG qa qd qb yh yJ yp yX yB qk yU yS ql yu yY yP qf ys qm yR vH yF qg yC yw yx yc yK yr ym qj yn yz vV vN yq yO uc vF uk uZ uI uF ui vo ub vd uO ud vh vs uy vi uV vE uN uJ vv uA ue uE vk uH uo ua uM ul vr ut uK ug uT vz up vA uz vm vf vg vq vy uD vD um uU vj uq uB uv va vB uW uY un us vw vt uu vl uS ve vb vp uf ur vu ux uj vx vC uh uw vn uQ uX vc uL uP uR uG uC:Value} {hi:Int} {nm:ByteArray} {wo:World} {M1:List Nat} {kb:Nat} {fv:Value} {fxs:List Value} {kxs:List Value}  {J_ K_:Act->World->Prop} {Q_:Exit->Act->World->Prop} {cd_:Code} (hcd_:cd_=kmn_1_code) (_hn2:n<=2) (_lo0:(0:Int)<=lo) (_lo4:lo<=(4:Int)) (_hi1:lo<=hi) (_hi2:hi<=lo+(4:Int)) (_hnm:Sg.kname n=nm) (H: Hid (MkH K M1 ((kb,(52:TypeId),#[Value.string nm,Value.int IntKind.i64 lo,Value.int IntKind.i64 hi,fv])::(rb,(52:TypeId),#[Value.string { data:=#[] },Value.int IntKind.i64 (0:Int),Value.int IntKind.i64 (0:Int),Value.slice none 0 0])::bx) ({ e:=(65:TypeId),size:=8,v:=fv,n:=([]:List Fld).length,xs:=fxs }::{ e:=(52:TypeId),size:=4,v:=Value.slice A0 n c0,n:=n,xs:=kxs }::rs) ((fun M W=>Flat M W ([]:List Fld) fxs)::(fun M W=>Flat M W ks kxs)::L) wo))
  (hJ_:∀ (a':Act) (w':World),(∃ yD yE vI vL vJ qc yQ vX yV vP qn yZ vK yi yj qe yb yN yA yL yM yI ya yf yT vQ yv yy yH vO vM vY vU yt yo yl yd vT vS yg vZ ye vR qi qh vG yk yW vW yG qa qd qb yh yJ yp yX yB qk yU yS ql yu yY yP qf ys qm yR vH yF qg yC yw yx yc yK yr ym qj yn yz vV vN yq yO uc vF uk uZ uI uF ui vo ub vd uO ud vh vs uy vi uV vE uN uJ vv uA ue uE vk uH uo ua uM ul vr ut uK ug uT vz up vA uz vm vf vg vq vy uD vD um uU vj uq uB uv va vB uW uY un us vw vt uu vl uS ve vb vp uf ur vu ux uj vx vC uh uw vn uQ uX vc uL uP uR uG uC,((∃ x,Sg.okLo x/\KSt K bx rs L rb n (Value.slice A0 n c0) (Value.pointer (some (Addr.mk (kb) (0) none))) nm lo hi [Sg.idF x] ks w'))/\a'=⟨(K.p::(Value.slice A0 n c0)::undef::undef::(Value.pointer (some (Addr.mk (rb) (0) none)))::(Value.int IntKind.i64 (↑n:Int))::(Value.int IntKind.i64 lo)::(Value.pointer (some (Addr.mk (kb) (0) none)))::undef::undef::undef::undef::undef::undef::yD::yE::vI::vL::vJ::qc::yQ::vX::yV::vP::qn::yZ::vK::yi::yj::qe::yb::yN::yA::yL::yM::yI::ya::yf::yT::vQ::yv::yy::yH::vO::vM::vY::vU::yt::yo::yl::yd::vT::vS::yg::vZ::ye::vR::qi::qh::vG::yk::yW::vW::yG::qa::qd::qb::yh::yJ::yp::yX::yB::qk::yU::yS::ql::yu::yY::yP::qf::ys::qm::yR::vH::yF::qg::yC::yw::yx::yc::yK::yr::ym::qj::yn::yz::vV::vN::yq::yO::uc::vF::uk::uZ::uI::uF::ui::vo::ub::vd::uO::ud::vh::vs::uy::vi::uV::vE::uN::uJ::vv::uA::ue::uE::vk::uH::uo::ua::uM::ul::vr::ut::uK::ug::uT::vz::up::vA::uz::vm::vf::vg::vq::vy::uD::vD::um::uU::vj::uq::uB::uv::va::vB::uW::uY::un::us::vw::vt::uu::vl::uS::ve::vb::vp::uf::ur::vu::ux::uj::vx::vC::uh::uw::vn::uQ::uX::vc::uL::uP::uR::uG::uC::[]).toArray,[]⟩)->J_ a' w') (hM_:∀ (a':Act) (w':World),Met J_ a' w'->K_ a' w') :
  Code.wp Tryz.prog cd_ (Exit.then K_ Q_) ⟨(K.p::(Value.slice A0 n c0)::undef::undef::(Value.pointer (some (Addr.mk (rb) (0) none)))::(Value.int IntKind.i64 (↑n:Int))::(Value.int IntKind.i64 lo)::(Value.pointer (some (Addr.mk (kb) (0) none)))::undef::undef::undef::undef::undef::undef::yD::yE::vI::vL::vJ::qc::yQ::vX::yV::vP::qn::yZ::vK::yi::yj::qe::yb::yN::yA::yL::yM::yI::ya::yf::yT::vQ::yv::yy::yH::vO::vM::vY::vU::yt::yo::yl::yd::vT::vS::yg::vZ::ye::vR::qi::qh::vG::yk::yW::vW::yG::qa::qd::qb::yh::yJ::yp::yX::yB::qk::yU::yS::ql::yu::yY::yP::qf::ys::qm::yR::vH::yF::qg::yC::yw::yx::yc::yK::yr::ym::qj::yn::yz::vV::vN::yq::yO::uc::vF::uk::uZ::uI::uF::ui::vo::ub::vd::uO::ud::vh::vs::uy::vi::uV::vE::uN::uJ::vv::uA::ue::uE::vk::uH::uo::ua::uM::ul::vr::ut::uK::ug::uT::vz::up::vA::uz::vm::vf::vg::vq::vy::uD::vD::um::uU::vj::uq::uB::uv::va::vB::uW::uY::un::us::vw::vt::uu::vl::uS::ve::vb::vp::uf::ur::vu::ux::uj::vx::vC::uh::uw::vn::uQ::uX::vc::uL::uP::uR::uG::uC::[]).toArray,[]⟩ wo:=by
 subst hcd_
 conv=>arg 2;whnf
 letI:Grow:=K.grow
 apply RG.wp_region_typed (C:=fun w'=>K.R wo w') (n:=184) (m:=9) (l1:=[_,_,_,_,_,_,_,_,_]) (l2:=[_,_,_]);rfl;rfl;kernel_rfl;rfl;kernel_rfl;exact K.drew wo;exact fun u u' h hb=>h.trans hb
 iterate 2 ((apply aHx;·(intro w' hC hf;have q:=(H.out.turn hC).box (.head _);have q0:=q.cell 0;have q3:=q.cell 3;(simp at q0 q3);clear q;clear hf hC;go_wp2_with (fail);apply aBx;simp only [RG.valAt,aV];exact rfl));(try simp only [Act.put,aZ]))
 apply RG.wpT_typed (litT_kept K wo.heap.size 4 3 (fun cs=>cs=#[.int .i64 0,.int .i64 1,.int .i64 100,.int .i64 (-3)]) H.out.gmLt)
 ·intro w' hC hf;unfold RG.Gives;clear hf
  have hs:=aI (K.size hC)
  clear hC
  go_wp2_with fail
  refine RG.postT_mk rfl (K.grown (by go_grown)) ?_;simp only [RG.valAt,aV]
  exact ⟨_,_,rfl,rfl,hs.out,Blk.new _ _ _⟩
 intro v33;(try simp only [Act.put,aZ])
 (apply aHx;·(intro w' hC hf;clear hf hC;go_wp2_with (fail);apply aBx;simp only [RG.valAt,aV];exact rfl));(try simp only [Act.put,aZ])
 apply RG.wpT_typed (T:=fun v _=>∃ z:Nat,v=.int .i64 (z:Int)/\z < 4) (fun v w w' h _=>h)
 ·intro w' hC hf;unfold RG.Gives;clear hf
  go_wp2_with fail
  go_at_call 20
  refine ((H.out.turn hC).take 4 (by omega) (by omega)).mono ?_
  rintro e w3 ⟨v,rfl,v1,v2,hr⟩
  obtain ⟨z,rfl⟩:∃ z':Nat,v=z':=⟨v.toNat,by omega⟩
  go_wp2_with fail
  refine RG.postT_mk rfl hr ?_;simp only [RG.valAt,aV];exact ⟨z,rfl,by omega⟩
 intro v35;(try simp only [Act.put,aZ])
 apply RG.wpT_typed (T:=PtrT wo.heap.size 3 (fun cs i=>∃ x:Int,cs[i]?=some (.int .i64 x)/\Sg.okLo x)) (ptrT_kept K _ _ _ H.out.gmLt)
 ·intro w' hC hf;unfold RG.Gives;obtain ⟨z,rfl,z1⟩:=hf.1 rfl;obtain ⟨cs,N,rfl,rfl,hge,hblk⟩:=hf.2.1 rfl;clear hf
  have k1:(z:Int) < 4:=by omega
  go_wp2_with fail
  refine RG.postT_mk rfl (Grow.refl _) ?_;simp only [RG.valAt,aV];exact ⟨_,N,z,by first | rfl | simp [Addr.add],(by obtain ⟨x,h1,h2⟩:=ids_at z z1;exact ⟨x,h2,h1⟩),hge,hblk⟩
 intro v36;(try simp only [Act.put,aZ])
 apply RG.wpT_typed (T:=fun v _=>∃ x:Int,v=.int .i64 x/\Sg.okLo x) (fun v w w' h _=>h)
 ·intro w' hC hf;unfold RG.Gives;obtain ⟨cs,N,i,rfl,⟨x,hx,hok⟩,hge,hblk⟩:=hf.1 rfl;have q:=hblk.cell i;rw [hx] at q;clear hC;clear hf
  go_wp2_with fail
  refine RG.postT_mk rfl (Grow.refl _) ?_;simp only [RG.valAt,aV];exact ⟨x,rfl,hok⟩
 intro v37;(try simp only [Act.put,aZ])
 apply RG.wpT_typed (T:=fun v _=>∃ x:Int,v=.agg #[.string Sg.bid,.string Sg.be,.string Sg.be,.int .i64 0,.int .i64 x,.int .i64 0,.slice none 0 0,.slice none 0 0]/\Sg.okLo x) (fun v w w' h _=>h)
 ·intro w' hC hf;unfold RG.Gives;obtain ⟨x,rfl,hok⟩:=hf.1 rfl;clear hC;clear hf
  go_wp2_with fail
  refine RG.postT_mk rfl (Grow.refl _) ?_;simp only [RG.valAt,aV];exact ⟨x,rfl,hok⟩
 intro v38;(try simp only [Act.put,aZ])
 apply RG.wpT_typed (litT_kept K wo.heap.size 1 65 (fun cs=>∃ x:Int,cs=#[.string Sg.bid,.string Sg.be,.string Sg.be,.int .i64 0,.int .i64 x,.int .i64 0,.slice none 0 0,.slice none 0 0]/\Sg.okLo x) H.out.gmLt)
 ·intro w' hC hf;unfold RG.Gives;obtain ⟨x,rfl,hok⟩:=hf.1 rfl;clear hf
  have hs:=aI (K.size hC)
  clear hC
  go_wp2_with fail
  refine RG.postT_mk rfl (K.grown (by go_grown)) ?_;simp only [RG.valAt,aV]
  exact ⟨_,_,rfl,⟨x,rfl,hok⟩,hs.out,Blk.new _ _ _⟩
 intro v39;(try simp only [Act.put,aZ])
 apply RG.wpT_done
 intro w4 hC hall
 obtain ⟨cs,N2,rfl,⟨x,rfl,hok⟩,hge,hblk⟩:=hall.1
 have T:=aI (H.out.turn hC)
 have HX:=aI hok
 obtain ⟨x1,x2⟩:=okLo_bd hok
 clear hall hC H this hok
 have hfl:([]:List Fld).length<=8:=(by simp)
 obtain ⟨i0,hI,hz0,hz1,hz2⟩:=info_parts infoFld
 refine wpList_append_mk (by rfl) _ _ 50 (by rfl) 65 i0 _ 8 120 Tryz.underlying50 hI hz0 hz1 hz2 rfl (by decide) T.out (by rfl) _ _ 1 1 [.string Sg.bid,.string Sg.be,.string Sg.be,.int .i64 0,.int .i64 x,.int .i64 0,.slice none 0 0,.slice none 0 0] (by rfl) (reads_blk hblk rfl) (by simp [Value.oneCell']) (by unfold maxLen;omega) (by omega) ?_
 intro v5 w5 M5 h5 _
 obtain ⟨A5,c5,rfl⟩:=h5.form
 have hq:=h5.box (.head _);have f3:=hq.frozen 3;have q3:=hq.cell 3;(simp at q3);clear hq
 have T5:=aI (h5.putF (news:=[Sg.idF x]) (Flat.single (fld_mk (by decide) (by decide) (by decide) (by unfold inI;omega) (by unfold inI;omega) (by unfold inI;omega) rep_nil rep_nil)))
 clear h5 hI hz0 hz1 hz2 hblk T hfl
 go_wp2_with fail
 go_meet
 case rel=>exact ⟨x,HX.out,KSt.mk1 T5.out rfl⟩
noncomputable def kmn_2_code:Code:=((Tryz.f21.body.bind (regAt 19)).getD .skip)
theorem kmn_2 {K:MkK} {_M:List Nat} {bx:List Box} {rs:List Rw} {L:List (List Nat->World->Prop)} {_W:World} {ks:List Knd} {n:Nat} {c0:Nat} {rb:Nat} {lo:Int} {hi:Int} {nm:ByteArray} {u8 u9 qo qp:Value} {fs:List Fld} {ks':List Knd} {yC yD vH vK vI qc yP vW yU vO qn yZ vJ yh yi qe ya yM yz yK yL yH vZ ye yS vP yu yx yG vN vL vX vT ys yn yk yc vS vR yf vY yd vQ qi qh vF yj yV vV yF qa qd qb yg yI yo yW yA qk yT yR ql yt yY yO qf yr qm yQ vG yE qg yB yv yw yb yJ yq yl qj ym yy vU vM yp yN uc vE uk uZ uI uF ui vo ub vd uO ud vh vr uy vi uV vD uN uJ vu uA ue uE vk uH uo ua uM ul vq ut uK ug uT vy up vz uz vm vf vg vx uD vC um uU vj uq uB uv va vA uW uY un us vv vs uu vl uS ve vb vp uf ur vt ux uj vw vB uh uw vn uQ uX vc uL uP uR uG uC:Value} {M1:List Nat} {kb:Nat} {fv:Value} {fxs:List Value} {kxs:List Value} {g:Nat} {nmo:ByteArray} {wo:World}  {J_ K_:Act->World->Prop} {Q_:Exit->Act->World->Prop} {cd_:Code} (hcd_:cd_=kmn_2_code) (hn2:n<=2) (HN:Hid (n=ks.length)) (_lo0:(0:Int)<=lo) (_lo4:lo<=(4:Int)) (_hi1:lo<=hi) (_hi2:hi<=lo+(4:Int)) (_hnm:Sg.kname n=nm) (HFL:Hid (fs.length<=4)) (hn1:2<=n) (hn0:0 < n) (hzk:0 < ks'.length) (s4:nmo.size<=9223372036854775807) (HNM:Hid (ks'[0].fst=nmo)) (HQ0:Hid (kxs[0*4]?=some (Value.string nmo))) (_hb:True->2<=n) (H: Hid (MkH K M1 ((kb,(52:TypeId),#[Value.string nm,Value.int IntKind.i64 lo,Value.int IntKind.i64 hi,fv])::(rb,(52:TypeId),#[Value.string { data:=#[] },Value.int IntKind.i64 (0:Int),Value.int IntKind.i64 (0:Int),Value.slice none 0 0])::bx) ({ e:=(65:TypeId),size:=8,v:=fv,n:=fs.length,xs:=fxs }::{ e:=(52:TypeId),size:=4,v:=Value.slice (some (Addr.mk (g) (0) none)) n c0,n:=n,xs:=kxs }::rs) ((fun M W=>Flat M W fs fxs)::(fun M W=>Flat M W ks' kxs)::L) wo))
  (hJ_:∀ (a':Act) (w':World),(∃ yC yD vH vK vI qc yP vW yU vO qn yZ vJ yh yi qe ya yM yz yK yL yH vZ ye yS vP yu yx yG vN vL vX vT ys yn yk yc vS vR yf vY yd vQ qi qh vF yj yV vV yF qa qd qb yg yI yo yW yA qk yT yR ql yt yY yO qf yr qm yQ vG yE qg yB yv yw yb yJ yq yl qj ym yy vU vM yp yN uc vE uk uZ uI uF ui vo ub vd uO ud vh vr uy vi uV vD uN uJ vu uA ue uE vk uH uo ua uM ul vq ut uK ug uT vy up vz uz vm vf vg yX vx uD vC um uU vj uq uB uv va vA uW uY un us vv vs uu vl uS ve vb vp uf ur vt ux uj vw vB uh uw vn uQ uX vc uL uP uR uG uC,((∃ by_,Sg.By ks ks' by_/\KSt K bx rs L rb n (Value.slice (some (Addr.mk (g) (0) none)) n c0) (Value.pointer (some (Addr.mk (kb) (0) none))) nm lo hi (fs++by_) ks' w'))/\a'=⟨(K.p::(Value.slice (some (Addr.mk (g) (0) none)) n c0)::undef::undef::(Value.pointer (some (Addr.mk (rb) (0) none)))::(Value.int IntKind.i64 (↑n:Int))::(Value.int IntKind.i64 lo)::(Value.pointer (some (Addr.mk (kb) (0) none)))::u8::u9::qo::qp::undef::undef::yC::yD::vH::vK::vI::qc::yP::vW::yU::vO::qn::yZ::vJ::yh::yi::qe::ya::yM::yz::yK::yL::yH::vZ::ye::yS::vP::yu::yx::yG::vN::vL::vX::vT::ys::yn::yk::yc::vS::vR::yf::vY::yd::vQ::qi::qh::vF::yj::yV::vV::yF::qa::qd::qb::yg::yI::yo::yW::yA::qk::yT::yR::ql::yt::yY::yO::qf::yr::qm::yQ::vG::yE::qg::yB::yv::yw::yb::yJ::yq::yl::qj::ym::yy::vU::vM::yp::yN::uc::vE::uk::uZ::uI::uF::ui::vo::ub::vd::uO::ud::vh::vr::uy::vi::uV::vD::uN::uJ::vu::uA::ue::uE::vk::uH::uo::ua::uM::ul::vq::ut::uK::ug::uT::vy::up::vz::uz::vm::vf::vg::yX::vx::uD::vC::um::uU::vj::uq::uB::uv::va::vA::uW::uY::un::us::vv::vs::uu::vl::uS::ve::vb::vp::uf::ur::vt::ux::uj::vw::vB::uh::uw::vn::uQ::uX::vc::uL::uP::uR::uG::uC::[]).toArray,[]⟩)->J_ a' w') (hM_:∀ (a':Act) (w':World),Met J_ a' w'->K_ a' w') :
  Code.wp Tryz.prog cd_ (Exit.then K_ Q_) ⟨(K.p::(Value.slice (some (Addr.mk (g) (0) none)) n c0)::undef::undef::(Value.pointer (some (Addr.mk (rb) (0) none)))::(Value.int IntKind.i64 (↑n:Int))::(Value.int IntKind.i64 lo)::(Value.pointer (some (Addr.mk (kb) (0) none)))::u8::u9::qo::qp::undef::undef::yC::yD::vH::vK::vI::qc::yP::vW::yU::vO::qn::yZ::vJ::yh::yi::qe::ya::yM::yz::yK::yL::yH::vZ::ye::yS::vP::yu::yx::yG::vN::vL::vX::vT::ys::yn::yk::yc::vS::vR::yf::vY::yd::vQ::qi::qh::vF::yj::yV::vV::yF::qa::qd::qb::yg::yI::yo::yW::yA::qk::yT::yR::ql::yt::yY::yO::qf::yr::qm::yQ::vG::yE::qg::yB::yv::yw::yb::yJ::yq::yl::qj::ym::yy::vU::vM::yp::yN::uc::vE::uk::uZ::uI::uF::ui::vo::ub::vd::uO::ud::vh::vr::uy::vi::uV::vD::uN::uJ::vu::uA::ue::uE::vk::uH::uo::ua::uM::ul::vq::ut::uK::ug::uT::vy::up::vz::uz::vm::vf::vg::(Value.bool true)::vx::uD::vC::um::uU::vj::uq::uB::uv::va::vA::uW::uY::un::us::vv::vs::uu::vl::uS::ve::vb::vp::uf::ur::vt::ux::uj::vw::vB::uh::uw::vn::uQ::uX::vc::uL::uP::uR::uG::uC::[]).toArray,[]⟩ wo:=by
 subst hcd_
 conv=>arg 2;whnf
 letI:Grow:=K.grow
 apply RG.wp_region_typed (C:=fun w'=>K.R wo w') (n:=184) (m:=8) (l1:=[_,_,_,_,_,_,_,_]) (l2:=[_,_,_]);rfl;rfl;kernel_rfl;rfl;kernel_rfl;exact K.drew wo;exact fun u u' h hb=>h.trans hb
 iterate 2 ((apply aHx;·(intro w' hC hf;have q:=(H.out.turn hC).box (.head _);have q3:=q.cell 3;(simp at q3);clear q;clear hf hC;go_wp2_with (fail);apply aBx;simp only [RG.valAt,aV];exact rfl));(try simp only [Act.put,aZ]))
 iterate 3 ((apply aHx;·(intro w' hC hf;clear hf hC;go_wp2_with (fail);apply aBx;simp only [RG.valAt,aV];exact rfl));(try simp only [Act.put,aZ]))
 (apply aHx;·(intro w' hC hf;have q:=(H.out.turn hC).rcell (.tail _ (.head _)) hn0 HQ0.out;(try simp at q);clear hf hC;go_wp2_with (fail);apply aBx;simp only [RG.valAt,aV];exact rfl));(try simp only [Act.put,aZ])
 (apply aHx;·(intro w' hC hf;clear hf hC;go_wp2_with (fail);apply aBx;simp only [RG.valAt,aV];exact rfl));(try simp only [Act.put,aZ])
 apply RG.wpT_typed (litT_kept K wo.heap.size 1 65 (fun cs=>cs=#[.string Sg.bby,.string nmo,.string Sg.be,.int .i64 1,.int .i64 0,.int .i64 8,.slice none 0 0,.slice none 0 0]) H.out.gmLt)
 ·intro w' hC hf;unfold RG.Gives;clear hf
  have hs:=aI (K.size hC)
  clear hC
  go_wp2_with fail
  refine RG.postT_mk rfl (K.grown (by go_grown)) ?_;simp only [RG.valAt,aV]
  exact ⟨_,_,rfl,rfl,hs.out,Blk.new _ _ _⟩
 intro v150;(try simp only [Act.put,aZ])
 apply RG.wpT_done
 intro w4 hC hall
 obtain ⟨cs,N2,rfl,rfl,hge,hblk⟩:=hall.1
 have T:=aI (H.out.turn hC)
 clear hall hC H this
 have hfl:(fs:List Fld).length<=8:=by have:=HFL.out;omega
 obtain ⟨i0,hI,hz0,hz1,hz2⟩:=info_parts infoFld
 refine wpList_append_mk (by rfl) _ _ 50 (by rfl) 65 i0 _ 8 120 Tryz.underlying50 hI hz0 hz1 hz2 rfl (by decide) T.out (by rfl) _ _ 1 1 [.string Sg.bby,.string nmo,.string Sg.be,.int .i64 1,.int .i64 0,.int .i64 8,.slice none 0 0,.slice none 0 0] (by rfl) (reads_blk hblk rfl) (by simp [Value.oneCell']) (by unfold maxLen;omega) (by omega) ?_
 intro v5 w5 M5 h5 _
 obtain ⟨A5,c5,rfl⟩:=h5.form
 have hq:=h5.box (.head _);have f3:=hq.frozen 3;have q3:=hq.cell 3;(simp at q3);clear hq
 have T5:=aI (h5.putF (news:=[Sg.byF nmo]) (Flat.single (fld_mk (by decide) s4 (by decide) (by unfold inI;omega) (by unfold inI;omega) (by unfold inI;omega) rep_nil rep_nil)))
 clear h5 hI hz0 hz1 hz2 hblk T hfl
 go_wp2_with fail
 go_meet
 case rel =>
  refine ⟨[Sg.byF nmo],.inr ⟨?_,ks'[0],List.getElem?_eq_getElem hzk,by rw [HNM.out]⟩,KSt.mk1 T5.out rfl⟩
  have:=HN.out
  omega
noncomputable def kmn_3_code:Code:=((Tryz.f21.body.bind (regAt 24)).getD .skip)
theorem kmn_3 {K:MkK} {_M:List Nat} {bx:List Box} {rs:List Rw} {L:List (List Nat->World->Prop)} {_W:World} {n:Nat} {A0:Option Addr} {c0:Nat} {rb:Nat} {lo:Int} {hi:Int} {nm:ByteArray} {u8 u9 qo qq:Value} {ks':List Knd} {_b:Bool} {fs3:List Fld} {kb:Nat} {m0:Nat} {qp yA yB vD vG vE qc yP vS yU vK qn yZ vF yd yf qe vW yM yx yJ yK yF vV ya yS vL yr yv yE vJ vH vT vP yp yk yh vY vO vN yb vU vZ vM qi qh vB yg yW vR yD qa qd qb yc yG yl yX yy qk yT yR ql yq yY yO qf yo qm yQ vC yC qg yz ys yu vX yH yn yi qj yj yw vQ vI ym yN ud vA ul uX uI uF uj vj uc va uO ue vd vn uy ve uU vz uN uJ vq uA uf uE vg uH up ub uM um vm uu uK uh uS vu uq vv uz vh vb vc vl vt uD vy un uT vf ur uB uv uY vw uV uW uo ut vr vo vk ug us vp ux uk vs vx ui uw vi uQ ua uZ uL uP uR uG uC:Value} {fs4:List Fld} {fxs:List Value} {kxs:List Value} {c1:Nat} {M2:List Nat} {f:Fld} {r:List Fld} {b1:Nat} {o1:Nat} {A4:Option Addr} {c4:Nat} {nmf:ByteArray} {x4:Int} {wo:World}  {J_ K_:Act->World->Prop} {Q_:Exit->Act->World->Prop} {cd_:Code} (hcd_:cd_=kmn_3_code) (_hn2:n<=2) (_lo0:(0:Int)<=lo) (_lo4:lo<=(4:Int)) (_hi1:lo<=hi) (_hi2:hi<=lo+(4:Int)) (_hnm:Sg.kname n=nm) (_hm3:fs3.length<=5) (_hml:m0<=2) (HFL4:Hid (fs4.length<=7)) (_v1:(0:Int)<=(0:Int)) (_v2:(0:Int) < (2:Int)) (_pc2:c1<=9223372036854775807) (_pc1:r.length+1<=c1) (_hml2:r.length+1<=2) (_t1:decide ((0:Int) < (↑(r.length+1):Int))=true) (HNF:Hid (Sc.nm f=nmf)) (HX4:Hid (Sc.ix (Sc.named nmf) fs4=x4)) (H: Hid (MkH K M2 ((kb,(52:TypeId),#[Value.string nm,Value.int IntKind.i64 lo,Value.int IntKind.i64 hi,Value.slice A4 fs4.length c4])::(rb,(52:TypeId),#[Value.string { data:=#[] },Value.int IntKind.i64 (0:Int),Value.int IntKind.i64 (0:Int),Value.slice none 0 0])::bx) ({ e:=(65:TypeId),size:=8,v:=Value.slice A4 fs4.length c4,n:=fs4.length,xs:=fxs }::{ e:=(52:TypeId),size:=4,v:=Value.slice A0 n c0,n:=n,xs:=kxs }::rs) ((fun M W=>SlAt M W (some (Addr.mk (b1) (o1) none)) (f::r))::(fun M W=>Flat M W fs4 fxs)::(fun M W=>Flat M W ks' kxs)::L) wo))
  (hJ_:∀ (a':Act) (w':World),(∃ yA yB vD vG vE qc yP vS yU vK qn yZ vF yd yf qe vW yM yx yJ yK yF vV ya yS vL yr yv yE vJ vH vT vP yp yk yh vY vO vN yb vU vZ vM qi qh vB yg yW vR yD qa qd qb yc yG yl yX yy qk yT yR ql yq yY yO qf yo qm yQ vC yC qg yz ys yu vX yH yn yi qj yj yw vQ vI ym yN ud vA ul uX uI uF uj vj uc va uO ue vd vn uy ve uU vz uN uJ vq uA uf uE vg uH up ub uM um vm uu uK uh uS vu uq vv uz vh vb vc vl vt uD vy un uT vf ur uB uv uY vw uV uW uo ut vr vo ye yV yt yL yI vk ug us vp ux uk vs vx ui uw vi uQ ua uZ uL uP uR uG uC,((∃ b,ua=Value.bool b/\(b=true->∃ f_1 r_1,f::r=f_1::r_1/\Sc.ix (Sc.named (Sc.nm f_1)) fs4 < (0:Int))/\∃ M,MkH K M ((kb,(52:TypeId),#[Value.string nm,Value.int IntKind.i64 lo,Value.int IntKind.i64 hi,Value.slice A4 fs4.length c4])::(rb,(52:TypeId),#[Value.string { data:=#[] },Value.int IntKind.i64 (0:Int),Value.int IntKind.i64 (0:Int),Value.slice none 0 0])::bx) ({ e:=(65:TypeId),size:=8,v:=Value.slice A4 fs4.length c4,n:=fs4.length,xs:=fxs }::{ e:=(52:TypeId),size:=4,v:=Value.slice A0 n c0,n:=n,xs:=kxs }::rs) ((fun M W=>SlAt M W (some (Addr.mk (b1) (o1) none)) (f::r))::(fun M W=>Flat M W fs4 fxs)::(fun M W=>Flat M W ks' kxs)::L) w'))/\a'=⟨(K.p::(Value.slice A0 n c0)::undef::undef::(Value.pointer (some (Addr.mk (rb) (0) none)))::(Value.int IntKind.i64 (↑n:Int))::(Value.int IntKind.i64 lo)::(Value.pointer (some (Addr.mk (kb) (0) none)))::u8::u9::qo::qq::qp::(Value.slice (some (Addr.mk (b1) (o1) none)) (r.length+1) c1)::yA::yB::vD::vG::vE::qc::yP::vS::yU::vK::qn::yZ::vF::yd::yf::qe::vW::yM::yx::yJ::yK::yF::vV::ya::yS::vL::yr::yv::yE::vJ::vH::vT::vP::yp::yk::yh::vY::vO::vN::yb::vU::vZ::vM::qi::qh::vB::yg::yW::vR::yD::qa::qd::qb::yc::yG::yl::yX::yy::qk::yT::yR::ql::yq::yY::yO::qf::yo::qm::yQ::vC::yC::qg::yz::ys::yu::vX::yH::yn::yi::qj::yj::yw::vQ::vI::ym::yN::ud::vA::ul::uX::uI::uF::uj::vj::uc::va::uO::ue::vd::vn::uy::ve::uU::vz::uN::uJ::vq::uA::uf::uE::vg::uH::up::ub::uM::um::vm::uu::uK::uh::uS::vu::uq::vv::uz::vh::vb::vc::vl::vt::uD::vy::un::uT::vf::ur::uB::uv::uY::vw::uV::uW::uo::ut::vr::vo::ye::yV::yt::yL::yI::vk::ug::us::vp::ux::uk::vs::vx::ui::uw::vi::uQ::ua::uZ::uL::uP::uR::uG::uC::[]).toArray,[]⟩)->J_ a' w') (hM_:∀ (a':Act) (w':World),Met J_ a' w'->K_ a' w') :
  Code.wp Tryz.prog cd_ (Exit.then K_ Q_) ⟨(K.p::(Value.slice A0 n c0)::undef::undef::(Value.pointer (some (Addr.mk (rb) (0) none)))::(Value.int IntKind.i64 (↑n:Int))::(Value.int IntKind.i64 lo)::(Value.pointer (some (Addr.mk (kb) (0) none)))::u8::u9::qo::qq::qp::(Value.slice (some (Addr.mk (b1) (o1) none)) (r.length+1) c1)::yA::yB::vD::vG::vE::qc::yP::vS::yU::vK::qn::yZ::vF::yd::yf::qe::vW::yM::yx::yJ::yK::yF::vV::ya::yS::vL::yr::yv::yE::vJ::vH::vT::vP::yp::yk::yh::vY::vO::vN::yb::vU::vZ::vM::qi::qh::vB::yg::yW::vR::yD::qa::qd::qb::yc::yG::yl::yX::yy::qk::yT::yR::ql::yq::yY::yO::qf::yo::qm::yQ::vC::yC::qg::yz::ys::yu::vX::yH::yn::yi::qj::yj::yw::vQ::vI::ym::yN::ud::vA::ul::uX::uI::uF::uj::vj::uc::va::uO::ue::vd::vn::uy::ve::uU::vz::uN::uJ::vq::uA::uf::uE::vg::uH::up::ub::uM::um::vm::uu::uK::uh::uS::vu::uq::vv::uz::vh::vb::vc::vl::vt::uD::vy::un::uT::vf::ur::uB::uv::uY::vw::uV::uW::uo::ut::vr::vo::K.p::(Value.int IntKind.i64 (0:Int))::(Value.bool true)::K.p::(Value.slice (some (Addr.mk (b1) (o1) none)) (r.length+1) c1)::vk::ug::us::vp::ux::uk::vs::vx::ui::uw::vi::uQ::ua::uZ::uL::uP::uR::uG::uC::[]).toArray,[]⟩ wo:=by
 subst hcd_
 conv=>arg 2;whnf
 letI:Grow:=K.grow
 apply RG.wp_region_typed (C:=fun w'=>K.R wo w') (n:=184) (m:=13) (l1:=[_,_,_,_,_,_,_,_,_,_,_,_,_]) (l2:=[]);rfl;rfl;kernel_rfl;rfl;kernel_rfl;exact K.drew wo;exact fun u u' h hb=>h.trans hb
 iterate 5 ((apply aHx;·(intro w' hC hf;clear hf hC;go_wp2_with (fail);apply aBx;simp only [RG.valAt,aV];exact rfl));(try simp only [Act.put,aZ]))
 (apply aHx;·(intro w' hC hf;have q:=(H.out.turn hC).box (.head _);have q3:=q.cell 3;(simp at q3);clear q;clear hf hC;go_wp2_with (fail);apply aBx;simp only [RG.valAt,aV];exact rfl));(try simp only [Act.put,aZ])
 iterate 3 ((apply aHx;·(intro w' hC hf;clear hf hC;go_wp2_with (fail);apply aBx;simp only [RG.valAt,aV];exact rfl));(try simp only [Act.put,aZ]))
 (apply aHx;·(intro w' hC hf;obtain ⟨b',o',_,_,_,_,hbo,_,q,_⟩:=fld_at ((H.out.turn hC).fact (.head _)) 0 (by simp);(simp only [List.getElem_cons_zero] at q);rw [HNF.out] at q;(injection hbo with hbo;injection hbo with hb1 hb2;subst hb1;subst hb2);(try simp at q);clear hf hC;go_wp2_with (fail);apply aBx;simp only [RG.valAt,aV];exact rfl));(try simp only [Act.put,aZ])
 apply RG.wpT_exact (c:=.int .i64 x4)
 ·intro w' hC hf;unfold RG.Gives;clear hf
  obtain ⟨A4',c4',e4,_,_,hs4⟩:=(H.out.turn hC).rowSl (α:=Fld) (.head _) ((H.out.turn hC).fact (.tail _ (.head _)))
  obtain rfl:A4=A4':=by injection e4
  have hm4:=HFL4.out
  have CC:=has_any fs4 A4 c4 nmf w' hs4 (by omega)
  rw [HX4.out] at CC
  clear hs4 e4
  go_wp2_with (go_at_call 70;(with_reducible refine CC.mono ?_);rintro e w3 ⟨rfl,hb⟩)
  apply RG.postT_val rfl (K.grown hb);simp only [RG.valAt,aV]
 (try simp only [Act.put,aZ])
 iterate 2 ((apply aHx;·(intro w' hC hf;clear hf hC;go_wp2_with (fail);apply aBx;simp only [RG.valAt,aV];exact rfl));(try simp only [Act.put,aZ]))
 apply RG.wpT_done
 intro w4 hC hall
 have T:=aI (H.out.turn hC)
 clear hall hC H
 go_wp2_with fail
 go_meet
 case rel=>exact ⟨_,rfl,fun h=>⟨f,r,rfl,by rw [HNF.out,HX4.out];exact of_decide_eq_true h⟩,_,T.out⟩
end
end Go.Proofs.YtobcnhmhgoccnaaGreatDoor
