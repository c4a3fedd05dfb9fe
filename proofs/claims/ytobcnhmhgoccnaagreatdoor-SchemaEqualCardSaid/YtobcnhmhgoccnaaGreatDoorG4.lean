/- Parts of the proof, joined: W36p. -/
import Derived.Test.YtobcnhmhgoccnaaGreatDoorG3
set_option maxRecDepth 1000000
set_option maxHeartbeats 100000000
set_option linter.unusedVariables false
set_option linter.unusedSimpArgs false
set_option linter.unusedSectionVars false
namespace Go.Proofs.YtobcnhmhgoccnaaGreatDoor
open Go Go.RowKit
section
noncomputable def kup_0_code:Code:=((Tryz.f21.body.bind (regAt 7)).getD .skip)
theorem kup_0 {bx:List Box} {rs:List Rw} {L:List (List Nat->World->Prop)} {K:MkK} {ks:List Knd} {n:Nat} {rb:Nat} {c0:Nat} {nm:ByteArray} {lo:Int} {hi:Int} {x:Int} {yz yA vI vL vJ yX yL vU yQ vN qi yU vK ye yf yZ vX yI yw yG yH yD vW yb yO vO yr yu yp yk yh vZ vR vQ yc vV ya vP qd qc vG yg yR vT yC yV yY yW yd yE yl yS yx qf yP yN qg yq yT yK qa yo qh yM vH yB qb yy ys yt vY yF yn yi qe yj yv vS vM ym yJ uc vF uk uZ uI uF ui vo ub vd uO ud vh vs uy vi uV vE uN uJ vv uA ue uE vk uH uo ua uM ul vr ut uK ug uT vz up vA uz vm vf vg vq vy uD vD um uU vj uq uB uv va vB uW uY un us vw vt uu vl uS ve vb vp uf ur vu ux uj vx vC uh uw vn uQ uX vc uL uP uR uG uC:Value} {M1:List Nat} {kb:Nat} {fv:Value} {fxs:List Value} {kxs:List Value} {g:Nat} {z:Nat} {k:Knd} {nmo:ByteArray} {wo:World}  {J_ K_:Act->World->Prop} {Q_:Exit->Act->World->Prop} {cd_:Code} (hcd_:cd_=kup_0_code) (_hn2:n<=2) (_lo0:(0:Int)<=lo) (_lo4:lo<=(4:Int)) (_hi1:lo<=hi) (_hi2:hi<=lo+(4:Int)) (hn0:0 < n) (v1:(0:Int)<=(↑z:Int)) (v2:(↑z:Int) < (↑n:Int)) (_hzk:z < ks.length) (_s4:nmo.size<=9223372036854775807) (_hnmo:k.fst=nmo) (HQ0:Hid (kxs[z*4]?=some (Value.string nmo))) (H: Hid (MkH K M1 ((kb,(52:TypeId),#[Value.string nm,Value.int IntKind.i64 lo,Value.int IntKind.i64 hi,fv])::(rb,(52:TypeId),#[Value.string { data:=#[] },Value.int IntKind.i64 (0:Int),Value.int IntKind.i64 (0:Int),Value.slice none 0 0])::bx) ({ e:=(65:TypeId),size:=8,v:=fv,n:=[Sg.idF x].length,xs:=fxs }::{ e:=(52:TypeId),size:=4,v:=Value.slice (some (Addr.mk (g) (0) none)) n c0,n:=n,xs:=kxs }::rs) ((fun M W=>Flat M W [Sg.idF x] fxs)::(fun M W=>Flat M W ks kxs)::L) wo))
  (hJ_:∀ (a':Act) (w':World),(∃ u9 yz yA vI vL vJ yX yL vU yQ vN qi yU vK ye yf yZ vX yI yw yG yH yD vW yb yO vO yr yu qn qk qj qm ql yp yk yh vZ vR vQ yc vV ya vP qd qc vG yg yR vT yC yV yY yW yd yE yl yS yx qf yP yN qg yq yT yK qa yo qh yM vH yB qb yy ys yt vY yF yn yi qe yj yv vS vM ym yJ uc vF uk uZ uI uF ui vo ub vd uO ud vh vs uy vi uV vE uN uJ vv uA ue uE vk uH uo ua uM ul vr ut uK ug uT vz up vA uz vm vf vg vq vy uD vD um uU vj uq uB uv va vB uW uY un us vw vt uu vl uS ve vb vp uf ur vu ux uj vx vC uh uw vn uQ uX vc uL uP uR uG uC,((∃ hi2,(2:Int)<=hi2/\hi2<=(8:Int)/\KSt2 K bx rs L rb n (Value.slice (some (Addr.mk (g) (0) none)) n c0) (Value.pointer (some (Addr.mk (kb) (0) none))) nm lo hi [Sg.idF x] ks u9 nmo (0:Int) hi2 w'))/\a'=⟨(K.p::(Value.slice (some (Addr.mk (g) (0) none)) n c0)::undef::undef::(Value.pointer (some (Addr.mk (rb) (0) none)))::(Value.int IntKind.i64 (↑n:Int))::(Value.int IntKind.i64 lo)::(Value.pointer (some (Addr.mk (kb) (0) none)))::(Value.int IntKind.i64 (↑z:Int))::u9::undef::undef::undef::undef::yz::yA::vI::vL::vJ::yX::yL::vU::yQ::vN::qi::yU::vK::ye::yf::yZ::vX::yI::yw::yG::yH::yD::vW::yb::yO::vO::yr::yu::qn::qk::qj::qm::ql::yp::yk::yh::vZ::vR::vQ::yc::vV::ya::vP::qd::qc::vG::yg::yR::vT::yC::yV::yY::yW::yd::yE::yl::yS::yx::qf::yP::yN::qg::yq::yT::yK::qa::yo::qh::yM::vH::yB::qb::yy::ys::yt::vY::yF::yn::yi::qe::yj::yv::vS::vM::ym::yJ::uc::vF::uk::uZ::uI::uF::ui::vo::ub::vd::uO::ud::vh::vs::uy::vi::uV::vE::uN::uJ::vv::uA::ue::uE::vk::uH::uo::ua::uM::ul::vr::ut::uK::ug::uT::vz::up::vA::uz::vm::vf::vg::vq::vy::uD::vD::um::uU::vj::uq::uB::uv::va::vB::uW::uY::un::us::vw::vt::uu::vl::uS::ve::vb::vp::uf::ur::vu::ux::uj::vx::vC::uh::uw::vn::uQ::uX::vc::uL::uP::uR::uG::uC::[]).toArray,[]⟩)->J_ a' w') (hM_:∀ (a':Act) (w':World),Met J_ a' w'->K_ a' w') :
  Code.wp Tryz.prog cd_ (Exit.then K_ Q_) ⟨(K.p::(Value.slice (some (Addr.mk (g) (0) none)) n c0)::undef::undef::(Value.pointer (some (Addr.mk (rb) (0) none)))::(Value.int IntKind.i64 (↑n:Int))::(Value.int IntKind.i64 lo)::(Value.pointer (some (Addr.mk (kb) (0) none)))::(Value.int IntKind.i64 (↑z:Int))::undef::undef::undef::undef::undef::yz::yA::vI::vL::vJ::yX::yL::vU::yQ::vN::qi::yU::vK::ye::yf::yZ::vX::yI::yw::yG::yH::yD::vW::yb::yO::vO::yr::yu::(Value.int IntKind.i64 (↑n:Int))::(Value.bool true)::K.p::(Value.int IntKind.i64 (↑n:Int))::(Value.int IntKind.i64 (↑z:Int))::yp::yk::yh::vZ::vR::vQ::yc::vV::ya::vP::qd::qc::vG::yg::yR::vT::yC::yV::yY::yW::yd::yE::yl::yS::yx::qf::yP::yN::qg::yq::yT::yK::qa::yo::qh::yM::vH::yB::qb::yy::ys::yt::vY::yF::yn::yi::qe::yj::yv::vS::vM::ym::yJ::uc::vF::uk::uZ::uI::uF::ui::vo::ub::vd::uO::ud::vh::vs::uy::vi::uV::vE::uN::uJ::vv::uA::ue::uE::vk::uH::uo::ua::uM::ul::vr::ut::uK::ug::uT::vz::up::vA::uz::vm::vf::vg::vq::vy::uD::vD::um::uU::vj::uq::uB::uv::va::vB::uW::uY::un::us::vw::vt::uu::vl::uS::ve::vb::vp::uf::ur::vu::ux::uj::vx::vC::uh::uw::vn::uQ::uX::vc::uL::uP::uR::uG::uC::[]).toArray,[]⟩ wo:=by
 subst hcd_
 conv=>arg 2;whnf
 letI:Grow:=K.grow
 apply RG.wp_region_typed (C:=fun w'=>K.R wo w') (n:=184) (m:=12) (l1:=[_,_,_,_,_,_,_,_,_,_,_,_]) (l2:=[_]);rfl;rfl;kernel_rfl;rfl;kernel_rfl;exact K.drew wo;exact fun u u' h hb=>h.trans hb
 iterate 2 ((apply aHx;·(intro w' hC hf;clear hf hC;go_wp2_with (fail);apply aBx;simp only [RG.valAt,aV];exact rfl));(try simp only [Act.put,aZ]))
 (apply aHx;·(intro w' hC hf;have k1:(z:Int) < (n:Int):=(by omega);clear hf hC;go_wp2_with (fail);apply aBx;simp only [RG.valAt,aV];exact rfl));(try simp only [Act.put,aZ])
 (apply aHx;·(intro w' hC hf;clear hf hC;go_wp2_with (fail);apply aBx;simp only [RG.valAt,aV];exact rfl));(try simp only [Act.put,aZ])
 (apply aHx;·(intro w' hC hf;have q:=(H.out.turn hC).rcell (.tail _ (.head _)) hn0 HQ0.out;clear hf hC;go_wp2_with (fail);apply aBx;simp only [RG.valAt,aV];exact rfl));(try simp only [Act.put,aZ])
 apply RG.wpT_typed (litT_kept K wo.heap.size 4 3 (fun cs=>cs=#[.int .i64 4,.int .i64 3,.int .i64 8,.int .i64 2]) H.out.gmLt)
 ·intro w' hC hf;unfold RG.Gives;clear hf
  have hs:=aI (K.size hC)
  clear hC
  go_wp2_with fail
  refine RG.postT_mk rfl (K.grown (by go_grown)) ?_;simp only [RG.valAt,aV]
  exact ⟨_,_,rfl,rfl,hs.out,Blk.new _ _ _⟩
 intro v52;(try simp only [Act.put,aZ])
 (apply aHx;·(intro w' hC hf;clear hf hC;go_wp2_with (fail);apply aBx;simp only [RG.valAt,aV];exact rfl));(try simp only [Act.put,aZ])
 apply RG.wpT_typed (T:=fun v _=>∃ z:Nat,v=.int .i64 (z:Int)/\z < 4) (fun v w w' h _=>h)
 ·intro w' hC hf;unfold RG.Gives;clear hf
  go_wp2_with fail
  go_at_call 20
  refine ((H.out.turn hC).take 4 (by omega) (by omega)).mono ?_
  rintro e w3 ⟨v,rfl,v1,v2,hr⟩
  obtain ⟨z,rfl⟩:∃ z':Nat,v=z':=⟨v.toNat,by omega⟩
  go_wp2_with fail
  refine RG.postT_mk rfl hr ?_;simp only [RG.valAt,aV];exact ⟨z,rfl,by omega⟩
 intro v54;(try simp only [Act.put,aZ])
 apply RG.wpT_typed (T:=PtrT wo.heap.size 3 (fun cs i=>∃ x:Int,cs[i]?=some (.int .i64 x)/\2<=x/\x<=8)) (ptrT_kept K _ _ _ H.out.gmLt)
 ·intro w' hC hf;unfold RG.Gives;obtain ⟨z,rfl,z1⟩:=hf.1 rfl;obtain ⟨cs,N,rfl,rfl,hge,hblk⟩:=hf.2.1 rfl;clear hf
  have k1:(z:Int) < 4:=by omega
  go_wp2_with fail
  refine RG.postT_mk rfl (Grow.refl _) ?_;simp only [RG.valAt,aV];exact ⟨_,N,z,by first | rfl | simp [Addr.add],(by obtain ⟨x,h1,h2,h3⟩:=his_at z z1;exact ⟨x,h3,h1,h2⟩),hge,hblk⟩
 intro v55;(try simp only [Act.put,aZ])
 apply RG.wpT_typed (T:=fun v _=>∃ x:Int,v=.int .i64 x/\2<=x/\x<=8) (fun v w w' h _=>h)
 ·intro w' hC hf;unfold RG.Gives;obtain ⟨cs,N,i,rfl,⟨x,hx,hok⟩,hge,hblk⟩:=hf.1 rfl;have q:=hblk.cell i;rw [hx] at q;clear hC;clear hf
  go_wp2_with fail
  refine RG.postT_mk rfl (Grow.refl _) ?_;simp only [RG.valAt,aV];exact ⟨x,rfl,hok⟩
 intro v56;(try simp only [Act.put,aZ])
 apply RG.wpT_typed (T:=fun v _=>∃ x:Int,v=.agg #[.string Sg.bof,.string nmo,.string Sg.be,.int .i64 1,.int .i64 0,.int .i64 x,.slice none 0 0,.slice none 0 0]/\2<=x/\x<=8) (fun v w w' h _=>h)
 ·intro w' hC hf;unfold RG.Gives;obtain ⟨x,rfl,hok⟩:=hf.1 rfl;clear hC;clear hf
  go_wp2_with fail
  refine RG.postT_mk rfl (Grow.refl _) ?_;simp only [RG.valAt,aV];exact ⟨x,rfl,hok⟩
 intro v57;(try simp only [Act.put,aZ])
 apply RG.wpT_typed (ptrT_kept K wo.heap.size 65 (fun cs i=>cs=#[.string ⟨#[]⟩,.string ⟨#[]⟩,.string ⟨#[]⟩,.int .i64 0,.int .i64 0,.int .i64 0,.slice none 0 0,.slice none 0 0]/\i=0) H.out.gmLt)
 ·intro w' hC hf;unfold RG.Gives;clear hf
  have hs:=aI (K.size hC)
  clear hC
  go_wp2_with fail
  refine RG.postT_mk rfl (K.grown (by go_grown)) ?_;simp only [RG.valAt,aV]
  exact ⟨_,_,0,rfl,⟨rfl,rfl⟩,hs.out,Blk.new _ _ _⟩
 intro v9;(try simp only [Act.put,aZ])
 apply RG.wpT_done
 intro w4 hC hall
 obtain ⟨cs,fb,i,rfl,⟨rfl,rfl⟩,hge,hblk⟩:=hall.1
 obtain ⟨x2,rfl,x3,x4⟩:=hall.2.1
 have T:=aI (H.out.adopt hC hge hblk)
 have q:=hblk;obtain ⟨f0,f1,f2,f3,f4,f5,f6,f7⟩:=aN8 q.frozen;obtain ⟨q0,q1,q2,q3,q4,q5,q6,q7⟩:=aN8 q.cell;(simp at q0 q1 q2 q3 q4 q5 q6 q7);clear q
 clear hall hC hge hblk
 go_wp2_with fail
 go_meet
 case rel =>
  have T1:=(((((((T.out.set0 0 (.string Sg.bof)).set0 1 (.string nmo)).set0 2 (.string Sg.be)).set0 3 (.int .i64 1)).set0 4 (.int .i64 0)).set0 5 (.int .i64 x2)).set0 6 (.slice none 0 0)).set0 7 (.slice none 0 0)
  exact ⟨x2,x3,x4,_,kb,fb,fv,fxs,kxs,rfl,rfl,T1⟩
end
section
noncomputable def kup_1_code:Code:=((Tryz.f21.body.bind (regAt 13)).getD .skip)
theorem kup_1 {bx:List Box} {rs:List Rw} {L:List (List Nat->World->Prop)} {K:MkK} {ks:List Knd} {n:Nat} {rb:Nat} {c0:Nat} {nm:ByteArray} {lo:Int} {hi:Int} {kb:Nat} {g:Nat} {z:Nat} {k:Knd} {nmo:ByteArray} {fb:Nat} {fs:List Fld} {len:Nat} {yD yE vI vL vJ qc yQ vX yV vP qm yZ vK yi yj qe yb yN yA yL yM yI ya yf yT vQ yv yy yH vO vM vY vU yt yo yl yd vT vS yg vZ ye vR qh qg vG yk yW vW yG qa qd qb yh yJ yp yX yB qj yU yS qk yu yY yP ys ql yR vH yF qf yC yw yx yc yK yr ym qi yn yz vV vN yq yO uc vF uk uZ uI uF ui vo ub vd uO ud vh vs uy vi uV vE uN uJ vv uA ue uE vk uH uo ua uM ul vr ut uK ug uT vz up vA uz vm vf vg vq vy uD vD um uU vj uq uB uv va vB uW uY un us vw vt uu vl uS ve vb vp uf ur vu ux uj vx vC uh uw vn uQ uX vc uL uP uR uG uC:Value} {ci:Nat} {wo:World} {M3:List Nat} {fv:Value} {fxs:List Value} {kxs:List Value} {cB:Nat} {b0:Nat} {o0:Nat} {nm2:ByteArray}  {J_ K_:Act->World->Prop} {Q_:Exit->Act->World->Prop} {cd_:Code} (hcd_:cd_=kup_1_code) (_hn2:n<=2) (_lo0:(0:Int)<=lo) (_lo4:lo<=(4:Int)) (_hi1:lo<=hi) (_hi2:hi<=lo+(4:Int)) (hn0:0 < n) (_hzk:z < ks.length) (_s4:nmo.size<=9223372036854775807) (_hnmo:k.fst=nmo) (HFL:Hid (fs.length<=2)) (k1:(↑z:Int) < (↑n:Int)) (k0:(0:Int)<=(↑z:Int)) (hci:ci < (Sc.flds k).length) (_c1:(-1:Int)<=(↑ci:Int)) (hc0:(0:Int)<=(↑ci:Int)) (_hb:True->(0:Int)<=(↑ci:Int)) (HQ3:Hid (kxs[z*4+3]?=some (Value.slice (some (Addr.mk (b0) (o0) none)) len cB))) (H: Hid (MkH K M3 ((kb,(52:TypeId),#[Value.string nm,Value.int IntKind.i64 lo,Value.int IntKind.i64 hi,fv])::(rb,(52:TypeId),#[Value.string { data:=#[] },Value.int IntKind.i64 (0:Int),Value.int IntKind.i64 (0:Int),Value.slice none 0 0])::bx) ({ e:=(65:TypeId),size:=8,v:=fv,n:=fs.length,xs:=fxs }::{ e:=(52:TypeId),size:=4,v:=Value.slice (some (Addr.mk (g) (0) none)) n c0,n:=n,xs:=kxs }::rs) ((fun M W=>SlAt M W (some (Addr.mk (b0) (o0) none)) (Sc.flds k))::(fun M W=>Flat M W fs fxs)::(fun M W=>Flat M W ks kxs)::L) wo)) (HCP:Hid (Sc.copyable (Sc.flds k)[ci]=true)) (_hcl:ci < len) (k2:(↑ci:Int) < (↑len:Int)) (s6:nm2.size<=9223372036854775807) (HN2:Hid (Sc.nm (Sc.flds k)[ci]=nm2))
  (hJ_:∀ (a':Act) (w':World),(∃ yD yE vI vL vJ qc yQ vX yV vP qm yZ vK yi yj qe yb yN yA yL yM yI ya yf yT vQ yv yy yH vO vM vY vU yt yo yl yd vT vS yg vZ ye vR qh qg vG yk yW vW yG qa qd qb yh yJ yp yX yB qj yU yS qk yu yY yP qn ys ql yR vH yF qf yC yw yx yc yK yr ym qi yn yz vV vN yq yO uc vF uk uZ uI uF ui vo ub vd uO ud vh vs uy vi uV vE uN uJ vv uA ue uE vk uH uo ua uM ul vr ut uK ug uT vz up vA uz vm vf vg vq vy uD vD um uU vj uq uB uv va vB uW uY un us vw vt uu vl uS ve vb vp uf ur vu ux uj vx vC uh uw vn uQ uX vc uL uP uR uG uC,((∃ same,Sg.Same k same/\KSt K bx rs L rb n (Value.slice (some (Addr.mk (g) (0) none)) n c0) (Value.pointer (some (Addr.mk (kb) (0) none))) nm lo hi (fs++same) ks w'))/\a'=⟨(K.p::(Value.slice (some (Addr.mk (g) (0) none)) n c0)::undef::undef::(Value.pointer (some (Addr.mk (rb) (0) none)))::(Value.int IntKind.i64 (↑n:Int))::(Value.int IntKind.i64 lo)::(Value.pointer (some (Addr.mk (kb) (0) none)))::(Value.int IntKind.i64 (↑z:Int))::(Value.pointer (some (Addr.mk (fb) (0) none)))::(Value.int IntKind.i64 (↑ci:Int))::undef::undef::undef::yD::yE::vI::vL::vJ::qc::yQ::vX::yV::vP::qm::yZ::vK::yi::yj::qe::yb::yN::yA::yL::yM::yI::ya::yf::yT::vQ::yv::yy::yH::vO::vM::vY::vU::yt::yo::yl::yd::vT::vS::yg::vZ::ye::vR::qh::qg::vG::yk::yW::vW::yG::qa::qd::qb::yh::yJ::yp::yX::yB::qj::yU::yS::qk::yu::yY::yP::qn::ys::ql::yR::vH::yF::qf::yC::yw::yx::yc::yK::yr::ym::qi::yn::yz::vV::vN::yq::yO::uc::vF::uk::uZ::uI::uF::ui::vo::ub::vd::uO::ud::vh::vs::uy::vi::uV::vE::uN::uJ::vv::uA::ue::uE::vk::uH::uo::ua::uM::ul::vr::ut::uK::ug::uT::vz::up::vA::uz::vm::vf::vg::vq::vy::uD::vD::um::uU::vj::uq::uB::uv::va::vB::uW::uY::un::us::vw::vt::uu::vl::uS::ve::vb::vp::uf::ur::vu::ux::uj::vx::vC::uh::uw::vn::uQ::uX::vc::uL::uP::uR::uG::uC::[]).toArray,[]⟩)->J_ a' w') (hM_:∀ (a':Act) (w':World),Met J_ a' w'->K_ a' w') :
  Code.wp Tryz.prog cd_ (Exit.then K_ Q_) ⟨(K.p::(Value.slice (some (Addr.mk (g) (0) none)) n c0)::undef::undef::(Value.pointer (some (Addr.mk (rb) (0) none)))::(Value.int IntKind.i64 (↑n:Int))::(Value.int IntKind.i64 lo)::(Value.pointer (some (Addr.mk (kb) (0) none)))::(Value.int IntKind.i64 (↑z:Int))::(Value.pointer (some (Addr.mk (fb) (0) none)))::(Value.int IntKind.i64 (↑ci:Int))::undef::undef::undef::yD::yE::vI::vL::vJ::qc::yQ::vX::yV::vP::qm::yZ::vK::yi::yj::qe::yb::yN::yA::yL::yM::yI::ya::yf::yT::vQ::yv::yy::yH::vO::vM::vY::vU::yt::yo::yl::yd::vT::vS::yg::vZ::ye::vR::qh::qg::vG::yk::yW::vW::yG::qa::qd::qb::yh::yJ::yp::yX::yB::qj::yU::yS::qk::yu::yY::yP::(Value.bool true)::ys::ql::yR::vH::yF::qf::yC::yw::yx::yc::yK::yr::ym::qi::yn::yz::vV::vN::yq::yO::uc::vF::uk::uZ::uI::uF::ui::vo::ub::vd::uO::ud::vh::vs::uy::vi::uV::vE::uN::uJ::vv::uA::ue::uE::vk::uH::uo::ua::uM::ul::vr::ut::uK::ug::uT::vz::up::vA::uz::vm::vf::vg::vq::vy::uD::vD::um::uU::vj::uq::uB::uv::va::vB::uW::uY::un::us::vw::vt::uu::vl::uS::ve::vb::vp::uf::ur::vu::ux::uj::vx::vC::uh::uw::vn::uQ::uX::vc::uL::uP::uR::uG::uC::[]).toArray,[]⟩ wo:=by
 subst hcd_
 conv=>arg 2;whnf
 letI:Grow:=K.grow
 apply RG.wp_region_typed (C:=fun w'=>K.R wo w') (n:=184) (m:=13) (l1:=[_,_,_,_,_,_,_,_,_,_,_,_,_]) (l2:=[_,_,_]);rfl;rfl;kernel_rfl;rfl;kernel_rfl;exact K.drew wo;exact fun u u' h hb=>h.trans hb
 (apply aHx;·(intro w' hC hf;clear hf hC;go_wp2_with (fail);apply aBx;simp only [RG.valAt,aV];exact rfl));(try simp only [Act.put,aZ])
 (apply aHx;·(intro w' hC hf;have q:=(H.out.turn hC).box (.head _);have q3:=q.cell 3;(simp at q3);clear q;clear hf hC;go_wp2_with (fail);apply aBx;simp only [RG.valAt,aV];exact rfl));(try simp only [Act.put,aZ])
 iterate 4 ((apply aHx;·(intro w' hC hf;clear hf hC;go_wp2_with (fail);apply aBx;simp only [RG.valAt,aV];exact rfl));(try simp only [Act.put,aZ]))
 (apply aHx;·(intro w' hC hf;have q:=(H.out.turn hC).rcell (.tail _ (.head _)) hn0 HQ3.out;clear hf hC;go_wp2_with (fail);apply aBx;simp only [RG.valAt,aV];exact rfl));(try simp only [Act.put,aZ])
 iterate 3 ((apply aHx;·(intro w' hC hf;clear hf hC;go_wp2_with (fail);apply aBx;simp only [RG.valAt,aV];exact rfl));(try simp only [Act.put,aZ]))
 (apply aHx;·(intro w' hC hf;obtain ⟨b',o',_,_,_,_,hbo,_,q,_⟩:=fld_at ((H.out.turn hC).fact (.head _)) ci hci;rw [HN2.out] at q;(injection hbo with hbo;injection hbo with hb1 hb2;subst hb1;subst hb2);clear hf hC;go_wp2_with (fail);apply aBx;simp only [RG.valAt,aV];exact rfl));(try simp only [Act.put,aZ])
 (apply aHx;·(intro w' hC hf;clear hf hC;go_wp2_with (fail);apply aBx;simp only [RG.valAt,aV];exact rfl));(try simp only [Act.put,aZ])
 apply RG.wpT_typed (litT_kept K wo.heap.size 1 65 (fun cs=>cs=#[.string Sg.bsame,.string nm2,.string Sg.bof,.int .i64 8,.int .i64 0,.int .i64 0,.slice none 0 0,.slice none 0 0]) H.out.gmLt)
 ·intro w' hC hf;unfold RG.Gives;clear hf
  have hs:=aI (K.size hC)
  clear hC
  go_wp2_with fail
  refine RG.postT_mk rfl (K.grown (by go_grown)) ?_;simp only [RG.valAt,aV]
  exact ⟨_,_,rfl,rfl,hs.out,Blk.new _ _ _⟩
 intro v92;(try simp only [Act.put,aZ])
 apply RG.wpT_done
 intro w4 hC hall
 obtain ⟨cs,N2,rfl,rfl,hge,hblk⟩:=hall.1
 have T:=aI (H.out.turn hC)
 clear hall hC H this
 have hfl:(fs:List Fld).length<=8:=by have:=HFL.out;omega
 obtain ⟨i0,hI,hz0,hz1,hz2⟩:=info_parts infoFld
 refine wpList_append_mk (by rfl) _ _ 50 (by rfl) 65 i0 _ 8 120 Tryz.underlying50 hI hz0 hz1 hz2 rfl (by decide) T.out (by rfl) _ _ 1 1 [.string Sg.bsame,.string nm2,.string Sg.bof,.int .i64 8,.int .i64 0,.int .i64 0,.slice none 0 0,.slice none 0 0] (by rfl) (reads_blk hblk rfl) (by simp [Value.oneCell']) (by unfold maxLen;omega) (by omega) ?_
 intro v5 w5 M5 h5 _
 obtain ⟨A5,c5,rfl⟩:=h5.form
 have hq:=h5.box (.head _);have f3:=hq.frozen 3;have q3:=hq.cell 3;(simp at q3);clear hq
 have T5:=aI (h5.fswap.putF (news:=[Sg.sameF nm2]) (Flat.single (fld_mk (by decide) s6 (by decide) (by unfold inI;omega) (by unfold inI;omega) (by unfold inI;omega) rep_nil rep_nil)))
 clear h5 hI hz0 hz1 hz2 hblk T hfl
 go_wp2_with fail
 go_meet
 case rel =>
  refine ⟨[Sg.sameF nm2],?_,KSt.mk1 T5.out.fswap.tail rfl⟩
  have:=Sg.Same.some (k:=k) ci hci HCP.out
  rw [HN2.out] at this
  exact this
noncomputable def kup_2_code:Code:=((Tryz.f21.body.bind (regAt 16)).getD .skip)
theorem kup_2 {bx:List Box} {rs:List Rw} {L:List (List Nat->World->Prop)} {K:MkK} {ks:List Knd} {n:Nat} {rb:Nat} {c0:Nat} {nm:ByteArray} {lo:Int} {hi:Int} {kb:Nat} {g:Nat} {z:Nat} {k:Knd} {nmo:ByteArray} {fb:Nat} {c:Int} {fs2:List Fld} {yC yD vF vJ vG qc yP vW yU vN qn yZ vI yh yi qe ya yM yz yK yL yH vZ ye yS vO yu yx yG vM vK vX vT ys yn yk yc vR vQ yf vY yd vP qi qh vD yj yV vV yF qa qd qb yg yI yo yX yA qk yT yR ql yt yY yO qf yr qm yQ vE yE qg yB yv yw yb yJ yq yl qj ym yy vU vL yp yN ub vC ui uX uG uD vb uM uc vf vp uw vg uT vB uL uH vs uy ud uC vi uF um ua uK uj vo ur uI uf uR vw un vx ux vk vd ve vn vv uB vA uk uS vh uo uz ut uY vy uU uW ul uq vt vq us vj uQ vc uZ vm ue up vr uv uh vu vz ug uu vl uO uV va uJ uN uP uE uA:Value} {M3:List Nat} {fv:Value} {fxs:List Value} {kxs:List Value} {ls:Nat} {wo:World}  {J_ K_:Act->World->Prop} {Q_:Exit->Act->World->Prop} {cd_:Code} (hcd_:cd_=kup_2_code) (_hn2:n<=2) (_lo0:(0:Int)<=lo) (_lo4:lo<=(4:Int)) (_hi1:lo<=hi) (_hi2:hi<=lo+(4:Int)) (_hn0:0 < n) (_hzk:z < ks.length) (_s4:nmo.size<=9223372036854775807) (_hnmo:k.fst=nmo) (_c1:(-1:Int)<=c) (_k1:(↑z:Int) < (↑n:Int)) (_k0:(0:Int)<=(↑z:Int)) (HFL2:Hid (fs2.length<=3)) (v1:(0:Int)<=(↑ls:Int)) (v2:(↑ls:Int) < (3:Int)) (H: Hid (MkH K M3 ((kb,(52:TypeId),#[Value.string nm,Value.int IntKind.i64 lo,Value.int IntKind.i64 hi,fv])::(rb,(52:TypeId),#[Value.string { data:=#[] },Value.int IntKind.i64 (0:Int),Value.int IntKind.i64 (0:Int),Value.slice none 0 0])::bx) ({ e:=(65:TypeId),size:=8,v:=fv,n:=fs2.length,xs:=fxs }::{ e:=(52:TypeId),size:=4,v:=Value.slice (some (Addr.mk (g) (0) none)) n c0,n:=n,xs:=kxs }::rs) ((fun M W=>Flat M W fs2 fxs)::(fun M W=>Flat M W ks kxs)::L) wo))
  (hJ_:∀ (a':Act) (w':World),(∃ yC yD vF vJ vG qc yP vW yU vN qn yZ vI yh yi qe ya yM yz yK yL yH vZ ye yS vO yu yx yG vM vK vX vT ys yn yk yc vR vQ yf vY yd vP qi qh vD yj yV vV yF qa qd qb yg yI yo yX yA qk yT yR ql yt yY yO qf yr qm yQ vE yE qg yB yv yw yb yJ yq yl qj ym yy vU vL yp yN ub vC ui uX uG uD vS yW vH vb uM uc vf vp uw vg uT vB uL uH vs uy ud uC vi uF um ua uK uj vo ur uI uf uR vw un vx ux vk vd ve vn vv uB vA uk uS vh uo uz ut uY vy uU uW ul uq vt vq us vj uQ vc uZ vm ue up vr uv uh vu vz ug uu vl uO uV va uJ uN uP uE uA,((∃ d:Nat,d < 8/\KSt K bx rs L rb n (Value.slice (some (Addr.mk (g) (0) none)) n c0) (Value.pointer (some (Addr.mk (kb) (0) none))) nm lo hi (fs2++[Sg.partF (↑ls:Int) ((↑ls:Int)+(↑d:Int))]) ks w'))/\a'=⟨(K.p::(Value.slice (some (Addr.mk (g) (0) none)) n c0)::undef::undef::(Value.pointer (some (Addr.mk (rb) (0) none)))::(Value.int IntKind.i64 (↑n:Int))::(Value.int IntKind.i64 lo)::(Value.pointer (some (Addr.mk (kb) (0) none)))::(Value.int IntKind.i64 (↑z:Int))::(Value.pointer (some (Addr.mk (fb) (0) none)))::(Value.int IntKind.i64 c)::(Value.int IntKind.i64 (↑ls:Int))::undef::undef::yC::yD::vF::vJ::vG::qc::yP::vW::yU::vN::qn::yZ::vI::yh::yi::qe::ya::yM::yz::yK::yL::yH::vZ::ye::yS::vO::yu::yx::yG::vM::vK::vX::vT::ys::yn::yk::yc::vR::vQ::yf::vY::yd::vP::qi::qh::vD::yj::yV::vV::yF::qa::qd::qb::yg::yI::yo::yX::yA::qk::yT::yR::ql::yt::yY::yO::qf::yr::qm::yQ::vE::yE::qg::yB::yv::yw::yb::yJ::yq::yl::qj::ym::yy::vU::vL::yp::yN::ub::vC::ui::uX::uG::uD::vS::yW::vH::vb::uM::uc::vf::vp::uw::vg::uT::vB::uL::uH::vs::uy::ud::uC::vi::uF::um::ua::uK::uj::vo::ur::uI::uf::uR::vw::un::vx::ux::vk::vd::ve::vn::vv::uB::vA::uk::uS::vh::uo::uz::ut::uY::vy::uU::uW::ul::uq::vt::vq::us::vj::uQ::vc::uZ::vm::ue::up::vr::uv::uh::vu::vz::ug::uu::vl::uO::uV::va::uJ::uN::uP::uE::uA::[]).toArray,[]⟩)->J_ a' w') (hM_:∀ (a':Act) (w':World),Met J_ a' w'->K_ a' w') :
  Code.wp Tryz.prog cd_ (Exit.then K_ Q_) ⟨(K.p::(Value.slice (some (Addr.mk (g) (0) none)) n c0)::undef::undef::(Value.pointer (some (Addr.mk (rb) (0) none)))::(Value.int IntKind.i64 (↑n:Int))::(Value.int IntKind.i64 lo)::(Value.pointer (some (Addr.mk (kb) (0) none)))::(Value.int IntKind.i64 (↑z:Int))::(Value.pointer (some (Addr.mk (fb) (0) none)))::(Value.int IntKind.i64 c)::(Value.int IntKind.i64 (↑ls:Int))::undef::undef::yC::yD::vF::vJ::vG::qc::yP::vW::yU::vN::qn::yZ::vI::yh::yi::qe::ya::yM::yz::yK::yL::yH::vZ::ye::yS::vO::yu::yx::yG::vM::vK::vX::vT::ys::yn::yk::yc::vR::vQ::yf::vY::yd::vP::qi::qh::vD::yj::yV::vV::yF::qa::qd::qb::yg::yI::yo::yX::yA::qk::yT::yR::ql::yt::yY::yO::qf::yr::qm::yQ::vE::yE::qg::yB::yv::yw::yb::yJ::yq::yl::qj::ym::yy::vU::vL::yp::yN::ub::vC::ui::uX::uG::uD::(Value.bool true)::K.p::(Value.int IntKind.i64 (↑ls:Int))::vb::uM::uc::vf::vp::uw::vg::uT::vB::uL::uH::vs::uy::ud::uC::vi::uF::um::ua::uK::uj::vo::ur::uI::uf::uR::vw::un::vx::ux::vk::vd::ve::vn::vv::uB::vA::uk::uS::vh::uo::uz::ut::uY::vy::uU::uW::ul::uq::vt::vq::us::vj::uQ::vc::uZ::vm::ue::up::vr::uv::uh::vu::vz::ug::uu::vl::uO::uV::va::uJ::uN::uP::uE::uA::[]).toArray,[]⟩ wo:=by
 subst hcd_
 conv=>arg 2;whnf
 letI:Grow:=K.grow
 apply RG.wp_region_typed (C:=fun w'=>K.R wo w') (n:=184) (m:=9) (l1:=[_,_,_,_,_,_,_,_,_]) (l2:=[_,_,_]);rfl;rfl;kernel_rfl;rfl;kernel_rfl;exact K.drew wo;exact fun u u' h hb=>h.trans hb
 iterate 2 ((apply aHx;·(intro w' hC hf;have q:=(H.out.turn hC).box (.head _);have q3:=q.cell 3;(simp at q3);clear q;clear hf hC;go_wp2_with (fail);apply aBx;simp only [RG.valAt,aV];exact rfl));(try simp only [Act.put,aZ]))
 iterate 3 ((apply aHx;·(intro w' hC hf;clear hf hC;go_wp2_with (fail);apply aBx;simp only [RG.valAt,aV];exact rfl));(try simp only [Act.put,aZ]))
 apply RG.wpT_typed (T:=fun v _=>∃ z:Nat,v=.int .i64 (z:Int)/\z < 8) (fun v w w' h _=>h)
 ·intro w' hC hf;unfold RG.Gives;clear hf
  go_wp2_with fail
  go_at_call 20
  refine ((H.out.turn hC).take 8 (by omega) (by omega)).mono ?_
  rintro e w3 ⟨v,rfl,v1,v2,hr⟩
  obtain ⟨z,rfl⟩:∃ z':Nat,v=z':=⟨v.toNat,by omega⟩
  go_wp2_with fail
  refine RG.postT_mk rfl hr ?_;simp only [RG.valAt,aV];exact ⟨z,rfl,by omega⟩
 intro v114;(try simp only [Act.put,aZ])
 apply RG.wpT_typed (T:=fun v _=>∃ d:Nat,v=.int .i64 (ls+d)/\d < 8) (fun v w w' h _=>h)
 ·intro w' hC hf;unfold RG.Gives;obtain ⟨d,rfl,d1⟩:=hf.1 rfl;clear hC;clear hf
  go_wp2_with fail
  refine RG.postT_mk rfl (Grow.refl _) ?_;simp only [RG.valAt,aV];exact ⟨d,rfl,d1⟩
 intro v115;(try simp only [Act.put,aZ])
 apply RG.wpT_typed (T:=fun v _=>∃ d:Nat,v=.agg #[.string Sg.bpart,.string Sg.btotal,.string Sg.bof,.int .i64 7,.int .i64 ls,.int .i64 (ls+d),.slice none 0 0,.slice none 0 0]/\d < 8) (fun v w w' h _=>h)
 ·intro w' hC hf;unfold RG.Gives;obtain ⟨d,rfl,d1⟩:=hf.1 rfl;clear hC;clear hf
  go_wp2_with fail
  refine RG.postT_mk rfl (Grow.refl _) ?_;simp only [RG.valAt,aV];exact ⟨d,rfl,d1⟩
 intro v116;(try simp only [Act.put,aZ])
 apply RG.wpT_typed (litT_kept K wo.heap.size 1 65 (fun cs=>∃ d:Nat,cs=#[.string Sg.bpart,.string Sg.btotal,.string Sg.bof,.int .i64 7,.int .i64 ls,.int .i64 (ls+d),.slice none 0 0,.slice none 0 0]/\d < 8) H.out.gmLt)
 ·intro w' hC hf;unfold RG.Gives;obtain ⟨d,rfl,d1⟩:=hf.1 rfl;clear hf
  have hs:=aI (K.size hC)
  clear hC
  go_wp2_with fail
  refine RG.postT_mk rfl (K.grown (by go_grown)) ?_;simp only [RG.valAt,aV]
  exact ⟨_,_,rfl,⟨d,rfl,d1⟩,hs.out,Blk.new _ _ _⟩
 intro v117;(try simp only [Act.put,aZ])
 apply RG.wpT_done
 intro w4 hC hall
 obtain ⟨cs,N2,rfl,⟨d,rfl,hd8⟩,hge,hblk⟩:=hall.1
 have T:=aI (H.out.turn hC)
 clear hall hC H this
 have hfl:(fs2:List Fld).length<=8:=by have:=HFL2.out;omega
 obtain ⟨i0,hI,hz0,hz1,hz2⟩:=info_parts infoFld
 refine wpList_append_mk (by rfl) _ _ 50 (by rfl) 65 i0 _ 8 120 Tryz.underlying50 hI hz0 hz1 hz2 rfl (by decide) T.out (by rfl) _ _ 1 1 [.string Sg.bpart,.string Sg.btotal,.string Sg.bof,.int .i64 7,.int .i64 ls,.int .i64 (ls+d),.slice none 0 0,.slice none 0 0] (by rfl) (reads_blk hblk rfl) (by simp [Value.oneCell']) (by unfold maxLen;omega) (by omega) ?_
 intro v5 w5 M5 h5 _
 obtain ⟨A5,c5,rfl⟩:=h5.form
 have hq:=h5.box (.head _);have f3:=hq.frozen 3;have q3:=hq.cell 3;(simp at q3);clear hq
 have T5:=aI (h5.putF (news:=[Sg.partF ls (ls+d)]) (Flat.single (fld_mk (by decide) (by decide) (by decide) (by unfold inI;omega) (by unfold inI;omega) (by unfold inI;omega) rep_nil rep_nil)))
 clear h5 hI hz0 hz1 hz2 hblk T hfl
 go_wp2_with fail
 go_meet
 case rel=>exact ⟨d,hd8,KSt.mk1 T5.out rfl⟩
noncomputable def kup_3_code:Code:=((Tryz.f21.body.bind (regAt 17)).getD .skip)
theorem kup_3 {bx:List Box} {rs:List Rw} {L:List (List Nat->World->Prop)} {K:MkK} {ks:List Knd} {n:Nat} {rb:Nat} {c0:Nat} {nm:ByteArray} {lo:Int} {hi:Int} {kb:Nat} {g:Nat} {z:Nat} {k:Knd} {nmo:ByteArray} {fb:Nat} {len:Nat} {c:Int} {fs2:List Fld} {ls:Nat} {yE yF vJ vM vK qd yR vY yW vQ qo qa vL yj yk qf yc yO yB yM yN yJ yb yg yU vR yw yz yI vP vN vZ vV yu yp ym ye vU vT yh ya yf vS qj qi vH yl yX vX yH qb qe qc yi yK yq yY yC ql yV yT qm yv yZ yQ qg yt qn yS vI yG qh yD yx yy yd yL ys yn qk yo yA vW vO yr yP uc vG uk va uJ uG ui vp ub ve uP ud vi vt uz vj uW vF uO uK vw uB ue uF vl uI uo ua uN ul vs uu uL ug uU vA up vB uA vn vg vh vr vz uE vE um uV vk uq uC uw vb vC uX uZ un ut vx vu uv vm uT vf vc vq uf ur vv uy uj vy vD uh ux vo uR uY vd uM uQ uS uH uD:Value} {d:Nat} {wo:World} {fs5:List Fld} {M3:List Nat} {fv:Value} {fxs:List Value} {kxs:List Value} {cB:Nat} {b0:Nat} {o0:Nat} {xs0:List Value} {i0:TypeInfo}  {J_ K_:Act->World->Prop} {Q_:Exit->Act->World->Prop} {cd_:Code} (hcd_:cd_=kup_3_code) (_hn2:n<=2) (HN:Hid (n=ks.length)) (HNM0:Hid (nm.size<=9223372036854775807)) (_lo0:(0:Int)<=lo) (_lo4:lo<=(4:Int)) (_hi1:lo<=hi) (_hi2:hi<=lo+(4:Int)) (hn0:0 < n) (hzk:z < ks.length) (HKZ:Hid (ks[z]=k)) (_s4:nmo.size<=9223372036854775807) (_hnmo:k.fst=nmo) (HLEN:Hid ((Sc.flds k).length=len)) (_c1:(-1:Int)<=c) (k1:(↑z:Int) < (↑n:Int)) (k0:(0:Int)<=(↑z:Int)) (HR0:Hid (Sc.ix (Sc.named Sg.btotal) (Sc.flds k) < (0:Int))) (v1:(0:Int)<=(↑ls:Int)) (v2:(↑ls:Int) < (3:Int)) (hd:d < 8) (HFS5:Hid (fs2++[Sg.partF (↑ls:Int) ((↑ls:Int)+(↑d:Int))]=fs5)) (_s2:len<=cB) (hl1:1<=len/\len<=20) (HQ3:Hid (kxs[z*4+3]?=some (Value.slice (some (Addr.mk (b0) (o0) none)) len cB))) (HXC: Hid (∀ (w':World),Chg M3 wo w'->∀ (j:Nat) (u:Value),xs0[j]?=some u->w'.cell? ((Addr.mk (b0) (o0) none).add j)=some u)) (HXF:Hid (Flat M3 wo (Sc.flds k) xs0)) (HXL:Hid (xs0.length=len*8)) (H: Hid (MkH K M3 ((kb,(52:TypeId),#[Value.string nm,Value.int IntKind.i64 lo,Value.int IntKind.i64 hi,fv])::(rb,(52:TypeId),#[Value.string { data:=#[] },Value.int IntKind.i64 (0:Int),Value.int IntKind.i64 (0:Int),Value.slice none 0 0])::bx) ({ e:=(65:TypeId),size:=8,v:=fv,n:=fs5.length,xs:=fxs }::{ e:=(52:TypeId),size:=4,v:=Value.slice (some (Addr.mk (g) (0) none)) n c0,n:=n,xs:=kxs }::rs) ((fun M W=>Flat M W fs5 fxs)::(fun M W=>Flat M W ks kxs)::L) wo)) (HI: Hid (Tryz.prog.info? (65:TypeId)=some i0/\i0.zero=some (Value.agg #[Value.string { data:=#[] },Value.string { data:=#[] },Value.string { data:=#[] },Value.int IntKind.i64 (0:Int),Value.int IntKind.i64 (0:Int),Value.int IntKind.i64 (0:Int),Value.slice none 0 0,Value.slice none 0 0])/\i0.size=8/\i0.bytes=120)) (hb0:K.gm < wo.heap.size)
  (hJ_:∀ (a':Act) (w':World),(∃ qp yE yF vJ vM vK qd yR vY yW vQ qo qa vL yj yk qf yc yO yB yM yN yJ yb yg yU vR yw yz yI vP vN vZ vV yu yp ym ye vU vT yh ya yf vS qj qi vH yl yX vX yH qb qe qc yi yK yq yY yC ql yV yT qm yv yZ yQ qg yt qn yS vI yG qh yD yx yy yd yL ys yn qk yo yA vW vO yr yP uc vG uk va uJ uG ui vp ub ve uP ud vi vt uz vj uW vF uO uK vw uB ue uF vl uI uo ua uN ul vs uu uL ug uU vA up vB uA vn vg vh vr vz uE vE um uV vk uq uC uw vb vC uX uZ un ut vx vu uv vm uT vf vc vq uf ur vv uy uj vy vD uh ux vo uR uY vd uM uQ uS uH uD,((∃ part ks',Sg.Part nm ks z hzk part ks'/\KSt K bx rs L rb n (Value.slice (some (Addr.mk (g) (0) none)) n c0) (Value.pointer (some (Addr.mk (kb) (0) none))) nm lo hi (fs2++part) ks' w'))/\a'=⟨(K.p::(Value.slice (some (Addr.mk (g) (0) none)) n c0)::undef::undef::(Value.pointer (some (Addr.mk (rb) (0) none)))::(Value.int IntKind.i64 (↑n:Int))::(Value.int IntKind.i64 lo)::(Value.pointer (some (Addr.mk (kb) (0) none)))::(Value.int IntKind.i64 (↑z:Int))::(Value.pointer (some (Addr.mk (fb) (0) none)))::(Value.int IntKind.i64 c)::qp::undef::undef::yE::yF::vJ::vM::vK::qd::yR::vY::yW::vQ::qo::qa::vL::yj::yk::qf::yc::yO::yB::yM::yN::yJ::yb::yg::yU::vR::yw::yz::yI::vP::vN::vZ::vV::yu::yp::ym::ye::vU::vT::yh::ya::yf::vS::qj::qi::vH::yl::yX::vX::yH::qb::qe::qc::yi::yK::yq::yY::yC::ql::yV::yT::qm::yv::yZ::yQ::qg::yt::qn::yS::vI::yG::qh::yD::yx::yy::yd::yL::ys::yn::qk::yo::yA::vW::vO::yr::yP::uc::vG::uk::va::uJ::uG::ui::vp::ub::ve::uP::ud::vi::vt::uz::vj::uW::vF::uO::uK::vw::uB::ue::uF::vl::uI::uo::ua::uN::ul::vs::uu::uL::ug::uU::vA::up::vB::uA::vn::vg::vh::vr::vz::uE::vE::um::uV::vk::uq::uC::uw::vb::vC::uX::uZ::un::ut::vx::vu::uv::vm::uT::vf::vc::vq::uf::ur::vv::uy::uj::vy::vD::uh::ux::vo::uR::uY::vd::uM::uQ::uS::uH::uD::[]).toArray,[]⟩)->J_ a' w') (hM_:∀ (a':Act) (w':World),Met J_ a' w'->K_ a' w') :
  Code.wp Tryz.prog cd_ (Exit.then K_ Q_) ⟨(K.p::(Value.slice (some (Addr.mk (g) (0) none)) n c0)::undef::undef::(Value.pointer (some (Addr.mk (rb) (0) none)))::(Value.int IntKind.i64 (↑n:Int))::(Value.int IntKind.i64 lo)::(Value.pointer (some (Addr.mk (kb) (0) none)))::(Value.int IntKind.i64 (↑z:Int))::(Value.pointer (some (Addr.mk (fb) (0) none)))::(Value.int IntKind.i64 c)::(Value.int IntKind.i64 (↑ls:Int))::undef::undef::yE::yF::vJ::vM::vK::qd::yR::vY::yW::vQ::qo::qa::vL::yj::yk::qf::yc::yO::yB::yM::yN::yJ::yb::yg::yU::vR::yw::yz::yI::vP::vN::vZ::vV::yu::yp::ym::ye::vU::vT::yh::ya::yf::vS::qj::qi::vH::yl::yX::vX::yH::qb::qe::qc::yi::yK::yq::yY::yC::ql::yV::yT::qm::yv::yZ::yQ::qg::yt::qn::yS::vI::yG::qh::yD::yx::yy::yd::yL::ys::yn::qk::yo::yA::vW::vO::yr::yP::uc::vG::uk::va::uJ::uG::ui::vp::ub::ve::uP::ud::vi::vt::uz::vj::uW::vF::uO::uK::vw::uB::ue::uF::vl::uI::uo::ua::uN::ul::vs::uu::uL::ug::uU::vA::up::vB::uA::vn::vg::vh::vr::vz::uE::vE::um::uV::vk::uq::uC::uw::vb::vC::uX::uZ::un::ut::vx::vu::uv::vm::uT::vf::vc::vq::uf::ur::vv::uy::uj::vy::vD::uh::ux::vo::uR::uY::vd::uM::uQ::uS::uH::uD::[]).toArray,[]⟩ wo:=by
 subst hcd_
 conv=>arg 2;whnf
 letI:Grow:=lateGrow K.gm (48:TypeId) K.sl wo.heap.size (65:TypeId) (len*8) (totC nm)
 apply RG.wp_region_typed (C:=fun w'=>LR K.gm 48 K.sl wo.heap.size 65 (len*8) (totC nm) wo w') (n:=184) (m:=16) (l1:=[_,_,_,_,_,_,_,_,_,_,_,_,_,_,_,_]) (l2:=[_]);rfl;rfl;kernel_rfl;rfl;kernel_rfl;exact LR.of_mk (K.drew wo);exact fun u u' h hb=>h.trans hb
 iterate 2 ((apply aHx;·(intro w' hC hf;clear hf hC;go_wp2_with (fail);apply aBx;simp only [RG.valAt,aV];exact rfl));(try simp only [Act.put,aZ]))
 apply RG.wpT_typed (T:=fun v _=>∃ N:Nat,v=.slice (some ⟨N,0,none⟩) 0 0) (fun v w w' h _=>h)
 ·intro w' hC hf;unfold RG.Gives;clear hf hC
  go_wp2_with fail
  refine RG.postT_mk rfl (LR.below (by go_grown)) ?_;simp only [RG.valAt,aV];exact ⟨_,rfl⟩
 intro v122;(try simp only [Act.put,aZ])
 iterate 2 ((apply aHx;·(intro w' hC hf;clear hf hC;go_wp2_with (fail);apply aBx;simp only [RG.valAt,aV];exact rfl));(try simp only [Act.put,aZ]))
 (apply aHx;·(intro w' hC hf;have k1:(z:Int) < (n:Int):=(by have:=HN.out;omega);clear hf hC;go_wp2_with (fail);apply aBx;simp only [RG.valAt,aV];exact rfl));(try simp only [Act.put,aZ])
 (apply aHx;·(intro w' hC hf;clear hf hC;go_wp2_with (fail);apply aBx;simp only [RG.valAt,aV];exact rfl));(try simp only [Act.put,aZ])
 (apply aHx;·(intro w' hC hf;have q:=(H.out.turn (LR.mk_ hC (ag _))).rcell (.tail _ (.head _)) hn0 HQ3.out;clear hf hC;go_wp2_with (fail);apply aBx;simp only [RG.valAt,aV];exact rfl));(try simp only [Act.put,aZ])
 apply RG.wpT_typed (T:=RowN wo.heap.size 65 8 len xs0) (rowN_kept hb0 (fun j u h1 h2=>by have:=(List.getElem?_eq_some_iff.1 h2).1;have:=HXL.out;omega))
 ·intro w' hC hf;unfold RG.Gives;obtain ⟨N,rfl⟩:=hf.1 rfl;clear hf
  obtain ⟨hI,hz0,hz1,hz2⟩:=HI.out
  have hone:∀ u∈xs0,u.oneCell'=true:=HXF.out.one
  refine wpList_append_grows w' (by rfl) _ _ 50 (by rfl) 65 i0 _ 8 120 Tryz.underlying50 hI hz0 hz1 hz2 rfl (by decide) (some ⟨N,0,none⟩) 0 0 [] (by rfl) (fun h=>by cases h) rfl (fun b hb j u hu=>by simp at hu) ⟨b0,o0,none⟩ len cB xs0 (by rfl) HXL.out (HXC.out w' (H.out.chg (LR.mk_ hC (ag _)))) hone (by omega) (by unfold maxLen;omega) (by omega) ?_
  intro v' w2 k1 k2
  have hbl:Below w'.heap.size w' w2:=⟨k2.os,k2.tape,k2.output,k2.size,fun k hk=>k2.block k hk (by simp)⟩
  have hsz:=LR.size hC
  rw [Nat.zero_add,List.nil_append] at k1
  refine RG.postT_mk rfl (LR.below hbl) ?_;simp only [RG.valAt,aA];exact RowN.of_owns k1 (by omega) hsz
 intro v128;(try simp only [Act.put,aZ])
 (apply aHx;·(intro w' hC hf;clear hf hC;go_wp2_with (fail);apply aBx;simp only [RG.valAt,aV];exact rfl));(try simp only [Act.put,aZ])
 (apply aHx;·(intro w' hC hf;have q:=(H.out.turn (LR.mk_ hC (ag _))).box (.head _);have q0:=q.cell 0;(simp at q0);clear q;clear hf hC;go_wp2_with (fail);apply aBx;simp only [RG.valAt,aV];exact rfl));(try simp only [Act.put,aZ])
 (apply aHx;·(intro w' hC hf;clear hf hC;go_wp2_with (fail);apply aBx;simp only [RG.valAt,aV];exact rfl));(try simp only [Act.put,aZ])
 apply RG.wpT_typed (T:=fun v w=>∃ N,v=.slice (some ⟨N,0,none⟩) 1 1/\wo.heap.size<=N/\Blk w N 65 (totC nm).toArray) (totLit_kept hb0 (by show 8<=_;omega))
 ·intro w' hC hf;unfold RG.Gives;clear hf
  have hs:=aI (LR.size hC)
  clear hC
  go_wp2_with fail
  refine RG.postT_mk rfl (LR.below (by go_grown)) ?_;simp only [RG.valAt,aV]
  exact ⟨_,rfl,hs.out,Blk.new _ _ _⟩
 intro v132;(try simp only [Act.put,aZ])
 apply RG.wpT_typed (T:=RowN wo.heap.size 65 8 (len+1) (xs0++totC nm)) (rowN_kept hb0 (fun j u h1 h2=>by rw [List.getElem?_append_right (by rw [HXL.out];exact h1),HXL.out] at h2;exact h2))
 ·intro w' hC hf;unfold RG.Gives;obtain ⟨N,rfl,hN,hblk⟩:=hf.1 rfl;have hrow:=hf.2.1 rfl;clear hf
  obtain ⟨hI,hz0,hz1,hz2⟩:=HI.out
  have hsz:=LR.size hC
  refine wpList_append_late (gm:=K.gm) (t:=48) (sl:=K.sl) (B0:=wo.heap.size) (n8:=len*8) (us:=totC nm) (by rfl) _ _ 50 (by rfl) i0 _ 8 120 Tryz.underlying50 hI hz0 hz1 hz2 rfl (by decide) hrow HXL.out (by omega) (by rfl) (by rfl) hblk rfl rfl (by simp [totC,Value.oneCell']) rfl hb0 hsz (by unfold maxLen;omega) (by omega) ?_
  intro v' w2 k1 k2
  refine RG.postT_mk rfl k2 ?_;simp only [RG.valAt,aA];exact k1
 intro v133;(try simp only [Act.put,aZ])
 (apply aHx;·(intro w' hC hf;have k1:(z:Int) < (n:Int):=(by have:=HN.out;omega);clear hf hC;go_wp2_with (fail);apply aBx;simp only [RG.valAt,aV];exact rfl));(try simp only [Act.put,aZ])
 (apply aHx;·(intro w' hC hf;clear hf hC;go_wp2_with (fail);apply aBx;simp only [RG.valAt,aV];exact rfl));(try simp only [Act.put,aZ])
 apply RG.wpT_done
 intro w4 hC hall
 obtain ⟨g13,cap13,cur13,rfl,hg13,hb13,hc13,hm13,hsz13,hcur⟩:=hall.1
 have hT:=H.out.turn (LR.mk_ hC (ag _))
 have hch:=H.out.chg (LR.mk_ hC (ag _))
 have hnM:g13∉M3:=fun hm=>by have:=H.out.mb _ hm;omega
 have hfl:Flat M3 w4 (Sc.flds k++[Sg.totalF nm]) (xs0++totC nm):=(HXF.out.keep hch).append (Flat.single (fld_mk (by decide) HNM0.out (by decide) (by unfold inI;omega) (by unfold inI;omega) (by unfold inI;omega) rep_nil rep_nil))
 have hsl:SlAt M3 w4 (some ⟨g13,0,none⟩) (Sc.flds k++[Sg.totalF nm]):=SlAt.of_cells hfl hb13.lt hnM fun j u hu=>by
  rw [hb13.cell]
  have hj:=(List.getElem?_eq_some_iff.1 hu).1
  rw [<-hcur,List.getElem?_take] at hu
  split at hu
  ·rw [Array.getElem?_toList] at hu;exact hu
  ·cases hu
 have f3:=hT.rfroz (.tail _ (.head _)) hn0 (z*4+3)
 have q3:=hT.rcell (.tail _ (.head _)) hn0 HQ3.out
 have T:=aI (hT.add (keeps_sl _ _) hsl)
 have HC13:=aI (show len+1<=cap13/\cap13<=maxLen from ⟨hc13,hm13⟩)
 clear hall hC H hT hch hnM hfl hsl hb13 hcur hsz13 hg13 hc13 hm13 hb0 this HI HXF HXC HXL
 go_wp2_with fail
 go_meet
 case rel =>
  refine ⟨[Sg.partF ls (ls+d)],ks.set z (Sg.setF k (Sc.flds k++[Sg.totalF nm])),?_,?_⟩
  ·have:=Sg.Part.some (nm:=nm) (ks:=ks) (tq:=z) (h:=hzk) ls d (by omega) (by omega) (by omega) (by omega) (by rw [HKZ.out];exact HR0.out)
   rw [HKZ.out] at this
   exact this
  ·rw [HFS5.out]
   have T3:=((T.out.perm (List.Perm.swap _ _ _)).setRow (.slice (some ⟨g13,0,none⟩) (len+1) cap13) (k:=z*4+3) (by omega)).perm (List.Perm.swap _ _ _)
   have hrep:Rep M3 _ (Sc.flds k++[Sg.totalF nm]) (.slice (some ⟨g13,0,none⟩) (len+1) cap13):=⟨_,cap13,by rw [aK,HLEN.out];rfl,by rw [aK,HLEN.out];exact HC13.out.1,by have:=HC13.out.2;unfold maxLen at this;omega,T3.fact (.head _)⟩
   have hk':=flat_setF (T3.fact (.tail _ (.tail _ (.head _)))) z hzk hrep
   rw [HKZ.out] at hk'
   exact ⟨_,kb,fv,fxs,_,rfl,(T3.add (keeps_flat _ _) hk').fswap.tail.fswap.drop3⟩
end
end Go.Proofs.YtobcnhmhgoccnaaGreatDoor
