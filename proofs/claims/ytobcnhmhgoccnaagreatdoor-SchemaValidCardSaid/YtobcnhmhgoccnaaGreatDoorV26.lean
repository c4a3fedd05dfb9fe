/- Parts of the proof, joined: W39r, W39. -/
import Derived.Test.YtobcnhmhgoccnaaGreatDoorV21
set_option maxHeartbeats 100000000
set_option linter.unusedVariables false
set_option linter.unusedSimpArgs false
set_option linter.unusedSectionVars false
namespace Go.Proofs.YtobcnhmhgoccnaaGreatDoor
open Go Go.RowKit
section
def blkAt (t:Nat):Code->Option Code
 | .cond _ a b=>match blkAt t a with
  | some c=>some c
  | none=>blkAt t b
 | .seq a b=>match blkAt t a with
  | some c=>some c
  | none=>blkAt t b
 | .loop c=>blkAt t c
 | .block k c=>if k=t then some (.block k c) else blkAt t c
 | .scope c=>blkAt t c
 | _=>none
noncomputable def schAt (t:Nat):Code:=((Tryz.f5.body.bind (blkAt t)).getD .skip)
set_option maxRecDepth 1000000 in
theorem sch_rules {K:MkK} {xb rb nk n c:Nat} {A:Option Addr} {ver:Int} {ks:List Knd} {lf:Lif} {wc:World} {u6 u7 u8 u9 va vv vq vT uF ux uY vs vn vw vh vO vQ vC uG vo vi uJ vL vA uZ uW vE vx vM uy vV vP vK uM uu uQ uK ya uU uO uT vX uw vR vN ve vc vW vZ vl uV vg vr vY vB uX vG vd vj vJ uP vF vf vH uz uB uS vI vS yb uR uD ut uv vD uL uE vz vU uA vy vb vt vu uN uI vk vp uH vm uC uf uj ur ug um ub un uo ul ua uk ui ud uh uc up us ue uq:Value} {J K':Act->World->Prop} {Q':Exit->Act->World->Prop}
  (HKS:Hid (Sg.Kinds ks)) (HKL:Hid (ks.length=nk)) (hk3:nk<=3) (hst:RSt K xb rb ver ks lf [] wc)
  (hJ:∀(a':Act) (w':World),(∃yc yd ye va vv vq vT uF ux uY vs vn vw vh vO vQ vC uG vo vi uJ vL vA uZ uW vE vx vM uy vV vP vK uM uu uQ uK ya uU uO uT vX uw vR vN ve vc vW vZ vl uV vg vr vY vB uX vG vd vj vJ uP vF vf vH uz uB uS vI vS yb uR uD ut uv vD uL uE vz vU uA vy vb vt vu uN uI vk vp uH vm uC uf uj ur ug um ub un uo ul ua uk ui ud uh uc up us ue uq,(∃i rls,Sg.Rules ks i rls/\(i=ks.length∨rls.length=2)/\RSt K xb rb ver ks lf rls w')/\a'=⟨(.slice A n c::undef::.pointer (some ⟨rb,0,none⟩)::K.p::.pointer (some ⟨xb,0,none⟩)::.int .i64 nk::u6::u7::u8::u9::yc::yd::ye::va::vv::vq::vT::uF::ux::uY::vs::vn::vw::vh::vO::vQ::vC::uG::vo::vi::uJ::vL::vA::uZ::uW::vE::vx::vM::uy::vV::vP::vK::uM::uu::uQ::uK::ya::uU::uO::uT::vX::uw::vR::vN::ve::vc::vW::vZ::vl::uV::vg::vr::vY::vB::uX::vG::vd::vj::vJ::uP::vF::vf::vH::uz::uB::uS::vI::vS::yb::uR::uD::ut::uv::vD::uL::uE::vz::vU::uA::vy::vb::vt::vu::uN::uI::vk::vp::uH::vm::uC::uf::uj::ur::ug::um::ub::un::uo::ul::ua::uk::ui::ud::uh::uc::up::us::ue::uq::[]).toArray,[]⟩)->J a' w')
  (hM:∀(a':Act) (w':World),Met J a' w'->K' a' w') :
  Code.wp Tryz.prog (schAt 4) (Exit.then K' Q') ⟨(.slice A n c::undef::.pointer (some ⟨rb,0,none⟩)::K.p::.pointer (some ⟨xb,0,none⟩)::.int .i64 nk::u6::u7::u8::u9::.int .i64 0::undef::undef::va::vv::vq::vT::uF::ux::uY::vs::vn::vw::vh::vO::vQ::vC::uG::vo::vi::uJ::vL::vA::uZ::uW::vE::vx::vM::uy::vV::vP::vK::uM::uu::uQ::uK::ya::uU::uO::uT::vX::uw::vR::vN::ve::vc::vW::vZ::vl::uV::vg::vr::vY::vB::uX::vG::vd::vj::vJ::uP::vF::vf::vH::uz::uB::uS::vI::vS::yb::uR::uD::ut::uv::vD::uL::uE::vz::vU::uA::vy::vb::vt::vu::uN::uI::vk::vp::uH::vm::uC::uf::uj::ur::ug::um::ub::un::uo::ul::ua::uk::ui::ud::uh::uc::up::us::ue::uq::[]).toArray,[]⟩ wc:=by
 conv=>arg 2;whnf
 obtain ⟨M5,kv,kxs,lv,lxs,rv,rxs,HT⟩:=hst
 have H:=aI HT
 clear HT
 go_wp2_with fail
 go_loopg [10] nk (λr i wr=>∃(j:Nat) (rls:List Rul),j+r=nk/\i=.int .i64 j/\rls.length<=2/\Sg.Rules ks j rls/\RSt K xb rb ver ks lf rls wr)
 case atStart=>exact ⟨0,[],by omega,rfl,by simp,.nil,_,kv,kxs,lv,lxs,rv,rxs,H.out⟩
 case round =>
  obtain ⟨j,rls,hj,rfl,hrl,hrules,M5,kv,kxs,lv,lxs,rv,rxs,HT⟩:=hrel
  clear H
  have HRU:=aI hrules
  clear hrules
  obtain ⟨wo,rfl⟩:=aY wr
  obtain ⟨Ar,cr,rfl⟩:=HT.form
  have q:=HT.box (.head _);have q1:=q.cell 1;have q3:=q.cell 3;(simp at q1 q3);clear q
  obtain ⟨nr,hnr⟩:=aX rls.length
  have HT':=HT
  rw [hnr] at HT' q3 hrl
  have HNR:=aI hnr
  have H:=aI HT
  have H':=aI HT'
  clear HT HT' hnr
  by_cases hlt:j < nk
  .by_cases hr2:nr < 2
   .have hjk:j < ks.length:=by rw [HKL.out];exact hlt
    have hok:=HKS.out.ok (by have:=HKL.out;omega) _ (ze hjk)
    have hk0:0 < ks.length:=by omega
    obtain ⟨Ak,ck,rfl⟩:=H'.out.vform (.tail _ (.tail _ (.head _)))
    obtain ⟨g,rfl⟩:=H'.out.rform (.tail _ (.tail _ (.head _))) hk0
    obtain ⟨B,cB,g0,g1,g2,g3,s1,s2,s3,_⟩:=flat_knd (H'.out.fact (.tail _ (.tail _ (.head _)))) j hjk
    have y0:=H'.out.rcell (.tail _ (.tail _ (.head _))) hk0 g0
    have y1:=H'.out.rcell (.tail _ (.tail _ (.head _))) hk0 g1
    have y2:=H'.out.rcell (.tail _ (.tail _ (.head _))) hk0 g2
    have y3:=H'.out.rcell (.tail _ (.tail _ (.head _))) hk0 g3
    obtain ⟨k,hk⟩:=aX (ks[j])
    rw [hk] at y0 y1 y2 y3 s1 s2 hok
    have HK:=aI hk
    have HOK:=aI hok
    have CR:=aI (grule_any H'.out s1 (by rcases hok.len with h | h <;> omega) hok.n1 hok.n2 hok.bd (c:=cB))
    clear g0 g1 g2 g3 s1 s2 s3 hok hk H
    rw [HKL.out] at q1
    have k1:(j:Int) < (nk:Int):=by omega
    have k2:(nr:Int) < 2:=by omega
    go_upto_region 23 with (go_at_call 22;(refine CR.out.mono ?_);rintro e w6 ⟨r,b,M6,rfl,hrule,HP⟩;unfold rulCells;have H2:=aI HP;have HRL:=aI hrule;clear HP hrule)
    have H3:=aI (H2.out.new #[.string r.1,.string r.2.1,.string r.2.2.1,.string r.2.2.2.1,.int .i64 r.2.2.2.2] 60 rfl)
    clear H2 CR y0 y1 y2 y3 q1 q3
    generalize hW6:w6.alloc _=W6 at H3 ⊢
    generalize w6.heap.size=lb6 at H3 ⊢
    clear hW6
    have q:=H3.out.box (.head _);obtain ⟨z0,z1,z2,z3,z4⟩:=aN5 q.cell;(simp at z0 z1 z2 z3 z4);clear q
    have q:=H3.out.box (.tail _ (.head _));have q3:=q.cell 3;(simp at q3);clear q
    have HRS:=aI (Sg.Rules.step j hjk rls r b HRU.out (by rw [HNR.out];exact hr2) (by rw [HK.out];exact HRL.out))
    go_upto_if 111 with fail
    cases b
    .go_wp2_with fail
     go_roundg (gk - 1)
     case measure=>omega
     case rel =>
      have hru2:Sg.Rules ks (j+1) rls:=by have h:=HRS.out;simpa using h
      refine ⟨j+1,rls,by omega,by go_num,by rw [HNR.out];exact hrl,hru2,lb6::M6,.slice (some ⟨g,0,none⟩) ks.length ck,kxs,lv,lxs,.slice Ar nr cr,rxs,?_⟩
      rw [HNR.out]
      exact H3.out.unbox
    .go_wp2_with (at_builtin;obtain ⟨i0,hI,hz0,hz1,hz2⟩:=zq infoRul;refine wpList_append_mk (by rfl) _ _ 25 (by rfl) 60 i0 _ 5 72 Tryz.underlying25 hI hz0 hz1 hz2 rfl (by decide) (H3.out.below (aP _ _)) (by rfl) _ _ 1 1 (rulCells r).toList (by rfl) (reads_blk (zj _ _ _) rfl) (by simp [rulCells,Value.oneCell']) (by unfold maxLen;omega) (by omega) ?_;intro v7 w7 M7 h7 _;obtain ⟨A7,c7,rfl⟩:=h7.form;have q:=h7.box (.tail _ (.head _));have s3:=q.cell 3;(simp at s3);have f3:=q.frozen 3;clear q;have T3:=aI h7;clear h7 hI hz0 hz1 hz2)
     have T4:=(T3.out.swap.set0 3 (.slice A7 (nr+1) c7)).swap.unbox
     have T5:=aI ((T4.add (keeps_flat (rls++[r]) (rxs++(rulCells r).toList)) ((T4.fact (.head _)).append (Flat.single (rule_rep HRL.out HOK.out)))).fswap.tail)
     clear T3 T4 H3
     go_roundg (gk - 1)
     case measure=>omega
     case rel =>
      have hru2:Sg.Rules ks (j+1) (rls++[r]):=by have h:=HRS.out;simpa using h
      refine ⟨j+1,rls++[r],by omega,by go_num,by rw [aK,HNR.out];show nr+1<=2;omega,hru2,M7,.slice (some ⟨g,0,none⟩) ks.length ck,kxs,lv,lxs,.slice A7 (nr+1) c7,rxs++(rulCells r).toList,?_⟩
      rw [aK,HNR.out]
      exact T5.out
   .obtain rfl:nr=2:=by omega
    have k1:(j:Int) < (nk:Int):=by omega
    go_wp2_with fail
    go_meet
    case rel=>exact ⟨j,rls,HRU.out,.inr HNR.out,_,kv,kxs,lv,lxs,_,rxs,H.out⟩
  .obtain rfl:j=nk:=by omega
   have k1:¬(j:Int) < (j:Int):=by omega
   go_wp2_with fail
   go_meet
   case rel=>exact ⟨j,rls,HRU.out,.inl HKL.out.symm,_,kv,kxs,lv,lxs,_,rxs,H.out⟩
end
section
def SchemaP (w:World) (e:Ending) (w':World):Prop:=∃x v,e=.returned v/\Sg.Schema x/\RepS [] w' x v/\Below w.heap.size w w'
set_option maxRecDepth 100000 in
theorem gschema_any (l:List Int) (A:Option Addr) (c:Nat) (w:World) (hs:SlAt [] w A l) (hc:l.length<=c) (hm:c<=9223372036854775807):Calls Tryz.prog 5 #[.slice A l.length c] w (SchemaP w):=by
 obtain ⟨K,hK⟩:∃K:MkK,K=⟨w,[],w.heap.size+1,A,l.take 200,c⟩:=⟨_,rfl⟩
 have hlt:(l.take 200).length=min 200 l.length:=zI
 have h0:=((held0 w [] (λ_ h=>by cases h)).add (keeps_sl A (l.take 200)) (hs.take 200)).new #[.int .i64 0,.slice none 0 0,.slice none 0 0,.slice none 0 0] 27 rfl
 have h1:=h0.new (N:=w.heap.size+1) #[.slice A (l.take 200).length c,.int .i64 0] 48 (by simp)
 obtain ⟨W1,hW1⟩:=aX ((w.alloc (.cells #[.int .i64 0,.slice none 0 0,.slice none 0 0,.slice none 0 0] 27)).alloc (.cells #[.slice A (l.take 200).length c,.int .i64 0] 48))
 rw [hW1] at h1
 have H0:=aI (show MkH K ((w.heap.size+1)::w.heap.size::[]) [(w.heap.size,27,#[.int .i64 0,.slice none 0 0,.slice none 0 0,.slice none 0 0])] [] [] W1 by
  subst hK
  exact ⟨by show (l.take 200).length<=_;omega,λ_ h=>(by cases h),0,by unfold inI;omega,HR.start h1⟩)
 have hp:K.p=.pointer (some ⟨w.heap.size+1,0,none⟩):=by rw [hK];rfl
 have HKW:=aI (show K.w=w/\K.G=[] by rw [hK];exact ⟨rfl,rfl⟩)
 obtain ⟨n,hn⟩:=aX l.length
 obtain ⟨n',hn'⟩:∃m,(l.take 200).length=m:=⟨_,rfl⟩
 rw [hn] at hc hlt ⊢
 rw [hn'] at hlt
 rw [hn'] at hW1
 clear hK h0 h1 hs hn hn'
 go_enter Tryz.func5,Tryz.ntmps5
 go_upto_region 1 with fail
 go_cut [3] from 13 (λv3 w'=>v3=K.p/\∃M,MkH K M [(w.heap.size,27,#[.int .i64 0,.slice none 0 0,.slice none 0 0,.slice none 0 0])] [] [] w')
 case first =>
  have HP:=aI hp
  have HW:=aI hW1
  clear hp hW1
  by_cases hn2:n<=200
  .obtain rfl:n'=n:=by omega
   clear hlt
   have t1:(n':Int)<=(c:Int):=by omega
   have t2:(n':Int)<=200:=by omega
   go_wp2_with fail
   go_meet
   case rel=>exact ⟨HP.out.symm,_,by (try rw [show (min (n':Int) 200).toNat=n' by omega]);rw [HW.out];exact H0.out⟩
  .obtain rfl:n'=200:=by omega
   clear hlt
   have t1:(200:Int)<=(c:Int):=by omega
   have t2:¬(n:Int)<=200:=by omega
   have t3:(200:Int) < (n:Int):=by omega
   go_wp2_with fail
   go_meet
   case rel=>exact ⟨HP.out.symm,_,by (try rw [show (min (n:Int) 200).toNat=200 by omega]);rw [HW.out];exact H0.out⟩
 case rest =>
 obtain ⟨rfl,M0,HM0⟩:=hcut
 have H0':=aI HM0
 clear hW1 hp hlt HM0 H0
 have H0:=H0'
 clear H0'
 clear W1
 generalize w.heap.size=rb at H0 ⊢
 go_wp2_with fail
 go_at_call 20
 refine (H0.out.take 4 (by omega) (by omega)).mono ?_
 rintro e w1 ⟨ver,rfl,v1,v2,hr⟩
 replace H0:=aI (H0.out.turn hr);clear hr
 have H:=aI (H0.out.new #[.int .i64 ver,.slice none 0 0,.slice none 0 0,.slice none 0 0] 27 rfl)
 clear H0
 go_wp2_with fail
 generalize hW2:w1.alloc _=W2 at H ⊢
 generalize w1.heap.size=xb at H ⊢
 clear hW2
 go_at_call 20
 refine (H.out.take 3 (by omega) (by omega)).mono ?_
 rintro e w3 ⟨nz,rfl,nz1,nz2,hr⟩
 obtain ⟨nk,hnk⟩:∃m:Nat,1+nz=m:=⟨(1+nz).toNat,by omega⟩
 replace H:=aI ((H.out.turn hr).push 52 4);clear hr
 have hk3:nk<=3:=by omega
 have hk1:1<=nk:=by omega
 clear nz1 nz2
 go_upto_block 0 with fail
 go_cut [] from 13 (λw'=>∃ks,Sg.Kinds ks/\ks.length=nk/\SSt K xb rb ver ks w')
 case first =>
  go_wp2_with fail
  go_loopg [6] nk (λr i wr=>∃(j:Nat) (ks:List Knd),j+r=nk/\i=.int .i64 j/\ks.length=j/\Sg.Kinds ks/\SSt K xb rb ver ks wr)
  case atStart=>exact ⟨0,[],by omega,rfl,rfl,.nil,_,_,[],H.out.add (keeps_flat [] []) rfl⟩
  case round =>
   obtain ⟨j,ks,hj,rfl,hl,hks,hst⟩:=hrel
   clear H
   clear w3
   obtain ⟨wo,rfl⟩:=aY wr
   have HKS:=aI hks
   have HLN:=aI hl
   clear hks
   by_cases hlt:j < nk
   .have k1:(j:Int) < (nk:Int):=by omega
    obtain ⟨M1,kv,kxs,HT⟩:=hst
    rw [hl] at HT
    obtain ⟨Ak,ck,rfl⟩:=HT.form
    have hok:=HKS.out.ok (by omega)
    have HOK:=aI hok
    have HNE:=aI (show ∀k∈ks,1<=(Sc.flds k).length/\(Sc.flds k).length<=20 from λk hk=>⟨(hok k hk).len1,by rcases (hok k hk).len with h | h <;> omega⟩)
    have q:=HT.box (.head _);have q1:=q.cell 1;(simp at q1);clear q
    have T:=aI HT
    clear HT hok hl
    go_wp2_with fail
    go_region_law (first | (obtain ⟨i0,hI,hz0,hz1,hz2⟩:=zq infoKnd;refine step_append_mk (by rfl) _ _ 23 (by rfl) 52 i0 _ 4 56 Tryz.underlying23 hI hz0 hz1 hz2 rfl (by decide) (T2.out.below (aP _ _)) (by rfl) _ _ 1 1 (kndCells k A1 c1) (by rfl) (reads_blk (zj _ _ _) rfl) (by simp [kndCells,Value.oneCell']) (by unfold maxLen;omega) (by omega) ?_;intro v7 w7 M7 h7 _;obtain ⟨A7,c7,rfl⟩:=h7.form;have q:=h7.box (.head _);have q1:=q.cell 1;(simp at q1);have f1:=q.frozen 1;clear q;have T3:=aI h7;clear h7 hI hz0 hz1 hz2) | (go_simp;go_at_call 21;refine (gkind_any T.out.drew HLN.out.symm (by omega) HNE.out).mono ?_;rintro e w5 ⟨k,ks',A1,c1,kxs',M5,rfl,kc1,kc2,hkind,HP⟩;have q:=HP.box (.head _);have q1:=q.cell 1;(simp at q1);clear q;have T2:=aI HP;have HKI:=aI hkind;have q1b:∀o,(w5.alloc o).cell? ⟨xb,1,none⟩=some (.slice Ak j ck):=(λo=>by have q:=(HP.below ((zf _ _).alloc (ag _) o)).box (.head _);have q:=q.cell 1;simpa using q);clear HP hkind))
    all_goals
     have T4:=T3.out.set0 1 (.slice A7 (j+1) c7)
     have hkok:=(HKI.out.ok HOK.out (by have:=HLN.out;omega)).1 k (by simp)
     have hlen:(ks'++[k]).length=j+1:=by rw [aK,HKI.out.klen,HLN.out];rfl
     have T5:=aI ((T4.add (keeps_flat (ks'++[k]) (kxs'++kndCells k A1 c1)) ((T4.fact (.tail _ (.head _))).append (Flat.single (KOk.knd hkok (T4.fact (.head _)) kc1 kc2 (by have:=HKI.out.lo4;omega) (by have:=HKI.out.lo0;have:=HKI.out.hi0;omega))))).less (L':=[λM W=>Flat M W (ks'++[k]) (kxs'++kndCells k A1 c1)]) (λP hP=>by rw [zg] at hP;subst hP;exact .head _))
     have HL:=aI hlen
     clear T T2 T3 T4 hkok hlen q1b
     go_wp2_with fail
     go_roundg (gk - 1)
     case measure=>omega
     case rel =>
      refine ⟨j+1,ks'++[k],by omega,by go_num,HL.out,.snoc _ _ _ HKS.out HKI.out,M7,.slice A7 (j+1) c7,kxs'++kndCells k A1 c1,?_⟩
      rw [HL.out]
      exact T5.out
   .obtain rfl:j=nk:=by omega
    go_wp2_with fail
    go_meet
    case rel=>exact ⟨ks,HKS.out,HLN.out,hst⟩
 case rest =>
  obtain ⟨ks,hks,hkl,M1,kv,kxs,HT⟩:=hcut
  have HKS:=aI hks
  have HKL:=aI hkl
  clear H hks hkl
  clear w3
  have H:=aI HT
  clear HT
  go_wp2_with fail
  have H1:=aI ((H.out.below ((zf _ _).alloc (ag _) (.cells #[.string ⟨#[110,101,119]⟩,.string ⟨#[111,112,101,110]⟩,.string ⟨#[100,111,110,101]⟩,.string ⟨#[115,104,117,116]⟩] 9))).lit (l:=Sg.states) (zj _ _ _) (λhm=>by have:=H.out.mb _ hm;omega) flat_states)
  clear H
  generalize hW3:wc.alloc _=W3 at H1 ⊢
  generalize wc.heap.size=N at H1 ⊢
  clear hW3
  go_at_call 20
  refine (H1.out.take 3 (by omega) (by omega)).mono ?_
  rintro e w5 ⟨mz,rfl,mz1,mz2,hr⟩
  obtain ⟨m,hm⟩:∃m:Nat,2+mz=m:=⟨(2+mz).toNat,by omega⟩
  replace H1:=aI (H1.out.turn hr);clear hr
  have hm2:2<=m:=by omega
  have hm4:m<=4:=by omega
  have t1:(m:Int)<=4:=by omega
  have H:=aI ((H1.out.new #[.string ⟨#[108,105,102,101]⟩,.slice (some ⟨N,0,none⟩) m 4,.slice none 0 0] 57 rfl).push 58 2)
  clear mz1 mz2 H1
  go_upto_block 2 with fail
  generalize hW4:w5.alloc _=W4 at H ⊢
  generalize w5.heap.size=lb at H ⊢
  clear hW4
  replace H:=aI (H.out.recell (cs':=#[.string Sg.blife,.slice (some ⟨N,0,none⟩) m 4,.slice none 0 0]) rfl)
  go_cut [] from 13 (λw'=>LSt K xb rb lb N m ver ks (Sg.steps (m - 1)) w')
  case first =>
   go_wp2_with fail
   go_loopg [9] (m - 1) (λr i wr=>∃j:Nat,j+r=m - 1/\i=.int .i64 j/\LSt K xb rb lb N m ver ks (Sg.steps j) wr)
   case atStart=>exact ⟨0,by omega,rfl,_,kv,kxs,_,[],(H.out.add (keeps_flat ([]:List (Int × Int)) []) rfl)⟩
   case round =>
    obtain ⟨j,hj,rfl,M5,kv,kxs,mv,mxs,HT⟩:=hrel
    clear H
    obtain ⟨wo,rfl⟩:=aY wr
    rw [steps_len] at HT
    obtain ⟨Ak,ck,rfl⟩:=HT.form
    have q:=HT.box (.head _);have q2:=q.cell 2;(simp at q2);clear q
    have T:=aI HT
    by_cases hlt:j < m - 1
    .have k1:(j:Int)+1 < (m:Int):=by omega
     clear HT
     go_wp2_with (at_builtin;obtain ⟨i0,hI,hz0,hz1,hz2⟩:=zq infoMv;refine wpList_append_mk (by rfl) _ _ 55 (by rfl) 58 i0 _ 2 16 Tryz.underlying55 hI hz0 hz1 hz2 rfl (by decide) (T.out.below (aP _ _)) (by rfl) _ _ 1 1 [.int .i64 (j:Int),.int .i64 ((j:Int)+1)] (by rfl) (reads_blk (zj _ _ _) rfl) (by simp [Value.oneCell']) (by unfold maxLen;omega) (by omega) ?_;intro v7 w7 M7 h7 _;obtain ⟨A7,c7,rfl⟩:=h7.form;have q:=h7.box (.head _);have q2:=q.cell 2;(simp at q2);have f2:=q.frozen 2;clear q;have T3:=aI h7;clear h7 hI hz0 hz1 hz2)
     have T4:=T3.out.set0 2 (.slice A7 (j+1) c7)
     have T5:=aI ((T4.add (keeps_flat (Sg.steps (j+1)) (mxs++[.int .i64 (j:Int),.int .i64 ((j:Int)+1)])) (by rw [<-steps_snoc];exact (T4.fact (.head _)).append (Flat.single ⟨[_],_,rfl,⟨rfl,by unfold inI;omega⟩,⟨rfl,by unfold inI;omega⟩⟩))).fswap.tail)
     clear T T3 T4
     go_roundg (gk - 1)
     case measure=>omega
     case rel =>
      refine ⟨j+1,by omega,by go_num,M7,kv,kxs,.slice A7 (j+1) c7,mxs++[.int .i64 (j:Int),.int .i64 ((j:Int)+1)],?_⟩
      rw [steps_len]
      exact T5.out
    .obtain rfl:j=m - 1:=by omega
     have k1:¬(((m - 1:Nat):Int))+1 < (m:Int):=by omega
     go_wp2_with fail
     go_meet
     case rel=>exact ⟨M5,kv,kxs,_,mxs,by rw [steps_len];exact HT⟩
  case rest =>
   obtain ⟨M5,kv,kxs,mv,mxs,HT⟩:=hcut
   have H:=aI HT
   clear HT
   go_wp2_with fail
   go_at_call 20
   refine (H.out.take 2 (by omega) (by omega)).mono ?_
   rintro e w6 ⟨v,rfl,v1,v2,hr⟩
   replace H:=aI (H.out.turn hr);clear hr
   go_upto_if 65 with fail
   go_cut [] from 13 (λw'=>∃a,(a=[]∨a=[(1,0)])/\LSt K xb rb lb N m ver ks (Sg.steps (m - 1)++a) w')
   case first =>
    by_cases hv:v=0
    .subst hv
     obtain ⟨Ak,ck,rfl⟩:=H.out.form
     have q:=H.out.box (.head _);have q2:=q.cell 2;(simp at q2);clear q
     have hl:(Sg.steps (m - 1)).length<=5:=by rw [steps_len];omega
     go_wp2_with (at_builtin;obtain ⟨i0,hI,hz0,hz1,hz2⟩:=zq infoMv;refine wpList_append_mk (by rfl) _ _ 55 (by rfl) 58 i0 _ 2 16 Tryz.underlying55 hI hz0 hz1 hz2 rfl (by decide) (H.out.below (aP _ _)) (by rfl) _ _ 1 1 [.int .i64 1,.int .i64 0] (by rfl) (reads_blk (zj _ _ _) rfl) (by simp [Value.oneCell']) (by unfold maxLen;omega) (by omega) ?_;intro v7 w7 M7 h7 _;obtain ⟨A7,c7,rfl⟩:=h7.form;have q:=h7.box (.head _);have q2:=q.cell 2;(simp at q2);have f2:=q.frozen 2;clear q;have T3:=aI h7;clear h7 hI hz0 hz1 hz2)
     go_meet
     case rel=>exact ⟨_,.inr rfl,LSt.mk1 T3.out (Flat.single ⟨[_],_,rfl,⟨rfl,by unfold inI;omega⟩,⟨rfl,by unfold inI;omega⟩⟩)⟩
    .have t1:(v == 0)=false:=by rw [beq_eq_false_iff_ne];exact hv
     go_wp2_with fail
     go_meet
     case rel=>exact ⟨[],.inl rfl,_,kv,kxs,mv,mxs,by rw [zK];exact H.out⟩
   case rest =>
    obtain ⟨ma,hma,hst⟩:=hcut
    have HMA:=aI hma
    clear hma H v1 v2
    clear w6
    obtain ⟨mvs,hmvs⟩:=aX (Sg.steps (m - 1)++ma)
    have HMV:=aI hmvs
    have HML:=aI (show mvs.length<=4 by rw [<-hmvs,aK,steps_len];rcases HMA.out with rfl | rfl <;> simp <;> omega)
    rw [hmvs] at hst
    clear hmvs
    obtain ⟨M5,kv,kxs,mv,mxs,HT⟩:=hst
    have H:=aI HT
    clear HT
    go_wp2_with fail
    go_at_call 20
    refine (H.out.take 3 (by omega) (by omega)).mono ?_
    rintro e w6 ⟨v,rfl,v1,v2,hr⟩
    replace H:=aI (H.out.turn hr);clear hr
    go_upto_if 74 with fail
    go_cut [] from 13 (λw'=>∃a,(a=[]∨a=[(0,(m:Int) - 1)])/\LSt K xb rb lb N m ver ks (mvs++a) w')
    case first =>
     by_cases hv:v=0
     .subst hv
      obtain ⟨Ak,ck,rfl⟩:=H.out.form
      have q:=H.out.box (.head _);have q2:=q.cell 2;(simp at q2);clear q
      have hl:(mvs).length<=5:=by have:=HML.out;omega
      go_wp2_with (at_builtin;obtain ⟨i0,hI,hz0,hz1,hz2⟩:=zq infoMv;refine wpList_append_mk (by rfl) _ _ 55 (by rfl) 58 i0 _ 2 16 Tryz.underlying55 hI hz0 hz1 hz2 rfl (by decide) (H.out.below (aP _ _)) (by rfl) _ _ 1 1 [.int .i64 0,.int .i64 ((m:Int) - 1)] (by rfl) (reads_blk (zj _ _ _) rfl) (by simp [Value.oneCell']) (by unfold maxLen;omega) (by omega) ?_;intro v7 w7 M7 h7 _;obtain ⟨A7,c7,rfl⟩:=h7.form;have q:=h7.box (.head _);have q2:=q.cell 2;(simp at q2);have f2:=q.frozen 2;clear q;have T3:=aI h7;clear h7 hI hz0 hz1 hz2)
      go_meet
      case rel=>exact ⟨_,.inr rfl,LSt.mk1 T3.out (Flat.single ⟨[_],_,rfl,⟨rfl,by unfold inI;omega⟩,⟨rfl,by unfold inI;omega⟩⟩)⟩
     .have t1:(v == 0)=false:=by rw [beq_eq_false_iff_ne];exact hv
      go_wp2_with fail
      go_meet
      case rel=>exact ⟨[],.inl rfl,_,kv,kxs,mv,mxs,by rw [zK];exact H.out⟩
    case rest =>
     obtain ⟨mb,hmb,M5,kv,kxs,mv,mxs,HT⟩:=hcut
     have HMB:=aI hmb
     clear hmb H v1 v2
     clear w6
     obtain ⟨mvs2,hmvs2⟩:=aX (mvs++mb)
     have HMV2:=aI hmvs2
     rw [hmvs2] at HT
     clear hmvs2
     obtain ⟨A2,c2,M6,rfl,e1,e2,HF,_⟩:=HT.freeze (α:=Int × Int) rfl rfl (HT.fact (.head _))
     obtain ⟨ln,hln⟩:=aX mvs2.length
     rw [hln] at HF e1
     have HLN:=aI hln
     have H:=aI (HF.push 57 3)
     clear HT HF hln
     go_upto_region 18 with fail
     go_cut [] from 13 (λw'=>RSt K xb rb ver ks (Sg.blife,Sg.states.take m,mvs2) [] w')
     case first =>
      have q:=H.out.box (.head _);obtain ⟨q0,q1,q2⟩:=aN3 q.cell;(simp at q0 q1 q2);clear q
      have q:=H.out.box (.tail _ (.head _));have r2:=q.cell 2;(simp at r2);clear q
      go_wp2_with (at_builtin;obtain ⟨i0,hI,hz0,hz1,hz2⟩:=zq infoLif;refine wpList_append_mk (by rfl) _ _ 24 (by rfl) 57 i0 _ 3 64 Tryz.underlying24 hI hz0 hz1 hz2 rfl (by decide) (H.out.below (aP _ _)) (by rfl) _ _ 1 1 [.string Sg.blife,.slice (some ⟨N,0,none⟩) m 4,.slice A2 ln c2] (by rfl) (reads_blk (zj _ _ _) rfl) (by simp [Value.oneCell']) (by unfold maxLen;omega) (by omega) ?_;intro v7 w7 M7 h7 _;obtain ⟨A7,c7,rfl⟩:=h7.form;have q:=h7.box (.tail _ (.head _));have s2:=q.cell 2;(simp at s2);have f2:=q.frozen 2;clear q;have T3:=aI h7;clear h7 hI hz0 hz1 hz2)
      go_meet
      case rel =>
       have T4:=(((T3.out.swap.set0 2 (.slice A7 1 c7)).swap.unbox).push 60 5)
       have T5:=(T4.add (keeps_flat [((Sg.blife,Sg.states.take m,mvs2):Lif)] [.string Sg.blife,.slice (some ⟨N,0,none⟩) m 4,.slice A2 ln c2]) (Flat.single (lif_rep (T4.fact (.tail _ (.tail _ (.head _)))) hm4 (T4.fact (.head _)) HLN.out.symm e1 e2))).add (keeps_flat ([]:List Rul) []) rfl
       refine ⟨M7,kv,kxs,.slice A7 1 c7,_,.slice none 0 0,[],T5.less λP hP=>?_⟩
       simp only [zB,zr,zQ] at hP
       rcases hP with rfl | rfl | rfl
       .exact .head _
       .exact .tail _ (.head _)
       .exact .tail _ (.tail _ (.tail _ (.tail _ (.tail _ (.head _)))))
     case rest =>
      have HLIF:=aI (show Sg.Life (Sg.blife,Sg.states.take m,mvs2) by
       have:=Sg.Life.mk m ma mb hm2 hm4 HMA.out HMB.out
       rw [HMV.out,HMV2.out] at this
       exact this)
      obtain ⟨lf,hlf⟩:∃x:Lif,(Sg.blife,Sg.states.take m,mvs2)=x:=⟨_,rfl⟩
      rw [hlf] at hcut HLIF
      clear H e1 e2 hlf HMB HMV2 HLN HMA HMV HML
      obtain ⟨M5,kv,kxs,lv,lxs,rv,rxs,HT⟩:=hcut
      have H:=aI HT
      clear HT
      go_upto_block 4 with fail
      go_cut [] from 13 (λw'=>∃i rls,Sg.Rules ks i rls/\(i=ks.length∨rls.length=2)/\RSt K xb rb ver ks lf rls w')
      case first =>
       exact sch_rules HKS HKL hk3 ⟨M5,kv,kxs,lv,lxs,rv,rxs,H.out⟩ ‹_› ‹_›
      case rest =>
       clear H
       obtain ⟨ir,rls,hrules,hend,M7,kv,kxs,lv,lxs,rv,rxs,HT⟩:=hcut
       have HRU:=aI hrules
       have HEN:=aI hend
       clear hrules hend
       obtain ⟨Ar,cr,M8,rfl,r1,r2,HT2,_⟩:=HT.freeze (α:=Rul) rfl rfl (HT.fact (.head _))
       obtain ⟨Al,cl,M9,el,l1,l2,HT3,_⟩:=HT2.freeze (α:=Lif) (l:=[lf]) rfl rfl (HT2.fact (.tail _ (.tail _ (.head _))))
       subst el
       obtain ⟨Ak,ck,M10,rfl,a1,a2,HT4,_⟩:=HT3.freeze (α:=Knd) rfl rfl (HT3.fact (.tail _ (.tail _ (.tail _ (.tail _ (.head _))))))
       have H4:=aI (HT4.less (L':=[λM W=>SlAt M W Ak ks,λM W=>SlAt M W Al [lf],λM W=>SlAt M W Ar rls]) (λP hP=>by
        simp only [zB,zr,zQ] at hP
        rcases hP with rfl | rfl | rfl
        .exact .head _
        .exact .tail _ (.head _)
        .exact .tail _ (.tail _ (.head _))))
       have HC:=aI (show (rls.length<=cr/\cr<=9223372036854775807)/\([lf].length<=cl/\cl<=9223372036854775807)/\(ks.length<=ck/\ck<=9223372036854775807) from ⟨⟨r1,r2⟩,⟨l1,l2⟩,⟨a1,a2⟩⟩)
       clear HT HT2 HT3 HT4 r1 r2 l1 l2 a1 a2
       obtain ⟨nr,hnr⟩:=aX rls.length
       obtain ⟨nl,hnl⟩:=aX ([lf].length)
       obtain ⟨nq,hnq⟩:=aX ks.length
       rw [hnr,hnl,hnq] at H4
       have HNR:=aI hnr
       have HNL:=aI hnl
       have HNQ:=aI hnq
       clear hnr hnl hnq
       go_upto_region 25 with fail
       go_cut [] from 13 (λw'=>∃M,MkH K M [(rb,27,#[.int .i64 ver,.slice Ak nq ck,.slice Al nl cl,.slice Ar nr cr])] [] [λM W=>SlAt M W Ak ks,λM W=>SlAt M W Al [lf],λM W=>SlAt M W Ar rls] w')
       case first =>
        have q:=H4.out.box (.head _);obtain ⟨q0,q1,q2,q3⟩:=aN4 q.cell;(simp at q0 q1 q2 q3);clear q
        have q:=H4.out.box (.tail _ (.head _));obtain ⟨r0,r1,r2,r3⟩:=aN4 q.cell;(simp at r0 r1 r2 r3);obtain ⟨f0,f1,f2,f3⟩:=aN4 q.frozen;clear q
        go_wp2_with fail
        go_meet
        case rel =>
         have T:=((((H4.out.swap.set0 0 (.int .i64 ver)).set0 1 (.slice Ak nq ck)).set0 2 (.slice Al nl cl)).set0 3 (.slice Ar nr cr))
         exact ⟨_,T.swap.unbox⟩
       case rest =>
        obtain ⟨M11,H6⟩:=hcut
        clear H4
        have q:=H6.box (.head _);obtain ⟨q0,q1,q2,q3⟩:=aN4 q.cell;(simp at q0 q1 q2 q3);clear q
        have H7:=aI H6
        clear H6
        rename_i hK
        apply hK
        refine wp_ret ?_
        refine zi (v:=.agg #[.int .i64 ver,.slice Ak nq ck,.slice Al nl cl,.slice Ar nr cr]) ?_ rfl ?_
        .simp [results,Tryz.results5,go_sem,q0,q1,q2,q3]
         try rfl
        .refine ⟨(ver,ks,[lf],rls),_,rfl,Sg.Schema.mk ver ks lf ir rls v1 (by omega) (by rw [HKL.out];exact hk1) (by rw [HKL.out];exact hk3) HKS.out HLIF.out HRU.out HEN.out,⟨_,rfl,[_],_,rfl,⟨rfl,by unfold inI;omega⟩,[_],_,rfl,⟨Ak,ck,by rw [<-HNQ.out],HC.out.2.2.1,HC.out.2.2.2,(H7.out.fact (.head _)).sub λg hg=>nomatch hg⟩,[_],_,rfl,⟨Al,cl,by rw [<-HNL.out],HC.out.2.1.1,HC.out.2.1.2,(H7.out.fact (.tail _ (.head _))).sub λg hg=>nomatch hg⟩,⟨Ar,cr,by rw [<-HNR.out],HC.out.1.1,HC.out.1.2,(H7.out.fact (.tail _ (.tail _ (.head _)))).sub λg hg=>nomatch hg⟩⟩,?_⟩
         obtain ⟨jj,hjj,HRR⟩:=H7.out.it
         have hbl:=HRR.h.bl
         rw [HKW.out.1] at hbl
         exact hbl
end
end Go.Proofs.YtobcnhmhgoccnaaGreatDoor
