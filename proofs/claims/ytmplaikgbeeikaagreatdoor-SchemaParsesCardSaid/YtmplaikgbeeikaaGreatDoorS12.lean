/- Parts of the proof, joined: W39r, W39, W47, W48. -/
import Derived.Test.YtmplaikgbeeikaaGreatDoorS7
set_option maxHeartbeats 100000000
set_option linter.unusedVariables false
set_option linter.unusedSimpArgs false
set_option linter.unusedSectionVars false
namespace Go.Proofs.YtmplaikgbeeikaaGreatDoor
open Go Go.RowKit
section
def blkAt (t:Nat):Code->Option Code
 | .cond _ a b=>match blkAt t a with
  | some c=>some c
  | none=>blkAt t b
 | .seq a b=>match blkAt t a with
  | some c=>some c
  | none=>blkAt t b
 | .loop c=>blkAt t c
 | .block k c=>if k=t then some (.block k c) else blkAt t c
 | .scope c=>blkAt t c
 | _=>none
noncomputable def schAt (t:Nat):Code:=((Tryz.f9.body.bind (blkAt t)).getD .skip)
set_option maxRecDepth 1000000 in
theorem sch_rules {K:MkK} {xb rb nk n c:Nat} {A:Option Addr} {ver:Int} {ks:List Knd} {lf:Lif} {wc:World} {u6 u7 u8 u9 u13 u14 u15 u16 u17 u18 u19 u20 u21 u22 u23 u24 u25 u26 u27 u28 u29 u30 u31 u32 u33 u34 u35 u36 u37 u38 u39 u40 u41 u42 u43 u44 u45 u46 u47 u48 u49 u50 u51 u52 u53 u54 u55 u56 u57 u58 u59 u60 u61 u62 u63 u64 u65 u66 u67 u68 u69 u70 u71 u72 u73 u74 u75 u76 u77 u78 u79 u80 u81 u82 u83 u84 u85 u86 u87 u88 u89 u90 u91 u92 u93 u94 u95 u96 u97 u98 u99 u100 u101 u102 u103 u104 u105 u106 u107 u108 u109 u110 u111 u112 u113 u114 u115 u116 u117 u118:Value} {J K':Act->World->Prop} {Q':Exit->Act->World->Prop}
  (HKS:Hid (Sg.Kinds ks)) (HKL:Hid (ks.length=nk)) (hk3:nk<=3) (hst:RSt K xb rb ver ks lf [] wc)
  (hJ:∀ (a':Act) (w':World),(∃ u10 u11 u12 u13 u14 u15 u16 u17 u18 u19 u20 u21 u22 u23 u24 u25 u26 u27 u28 u29 u30 u31 u32 u33 u34 u35 u36 u37 u38 u39 u40 u41 u42 u43 u44 u45 u46 u47 u48 u49 u50 u51 u52 u53 u54 u55 u56 u57 u58 u59 u60 u61 u62 u63 u64 u65 u66 u67 u68 u69 u70 u71 u72 u73 u74 u75 u76 u77 u78 u79 u80 u81 u82 u83 u84 u85 u86 u87 u88 u89 u90 u91 u92 u93 u94 u95 u96 u97 u98 u99 u100 u101 u102 u103 u104 u105 u106 u107 u108 u109 u110 u111 u112 u113 u114 u115 u116 u117 u118,(∃ i rls,Sg.Rules ks i rls/\(i=ks.length∨rls.length=2)/\RSt K xb rb ver ks lf rls w')/\a'=⟨(.slice A n c::undef::.pointer (some ⟨rb,0,none⟩)::K.p::.pointer (some ⟨xb,0,none⟩)::.int .i64 nk::u6::u7::u8::u9::u10::u11::u12::u13::u14::u15::u16::u17::u18::u19::u20::u21::u22::u23::u24::u25::u26::u27::u28::u29::u30::u31::u32::u33::u34::u35::u36::u37::u38::u39::u40::u41::u42::u43::u44::u45::u46::u47::u48::u49::u50::u51::u52::u53::u54::u55::u56::u57::u58::u59::u60::u61::u62::u63::u64::u65::u66::u67::u68::u69::u70::u71::u72::u73::u74::u75::u76::u77::u78::u79::u80::u81::u82::u83::u84::u85::u86::u87::u88::u89::u90::u91::u92::u93::u94::u95::u96::u97::u98::u99::u100::u101::u102::u103::u104::u105::u106::u107::u108::u109::u110::u111::u112::u113::u114::u115::u116::u117::u118::[]).toArray,[]⟩)->J a' w')
  (hM:∀ (a':Act) (w':World),Met J a' w'->K' a' w') :
  Code.wp Tryz.prog (schAt 4) (Exit.then K' Q') ⟨(.slice A n c::undef::.pointer (some ⟨rb,0,none⟩)::K.p::.pointer (some ⟨xb,0,none⟩)::.int .i64 nk::u6::u7::u8::u9::.int .i64 0::undef::undef::u13::u14::u15::u16::u17::u18::u19::u20::u21::u22::u23::u24::u25::u26::u27::u28::u29::u30::u31::u32::u33::u34::u35::u36::u37::u38::u39::u40::u41::u42::u43::u44::u45::u46::u47::u48::u49::u50::u51::u52::u53::u54::u55::u56::u57::u58::u59::u60::u61::u62::u63::u64::u65::u66::u67::u68::u69::u70::u71::u72::u73::u74::u75::u76::u77::u78::u79::u80::u81::u82::u83::u84::u85::u86::u87::u88::u89::u90::u91::u92::u93::u94::u95::u96::u97::u98::u99::u100::u101::u102::u103::u104::u105::u106::u107::u108::u109::u110::u111::u112::u113::u114::u115::u116::u117::u118::[]).toArray,[]⟩ wc:=by
 conv=>arg 2;whnf
 obtain ⟨M5,kv,kxs,lv,lxs,rv,rxs,HT⟩:=hst
 have H:=aI HT
 clear HT
 go_wp2_with fail
 go_loopg [10] nk (fun r i wr=>∃ (j:Nat) (rls:List Rul),j+r=nk/\i=.int .i64 j/\rls.length<=2/\Sg.Rules ks j rls/\RSt K xb rb ver ks lf rls wr)
 case atStart=>exact ⟨0,[],by omega,rfl,by simp,.nil,_,kv,kxs,lv,lxs,rv,rxs,H.out⟩
 case round =>
  obtain ⟨j,rls,hj,rfl,hrl,hrules,M5,kv,kxs,lv,lxs,rv,rxs,HT⟩:=hrel
  clear H
  have HRU:=aI hrules
  clear hrules
  obtain ⟨wo,rfl⟩:=aY wr
  obtain ⟨Ar,cr,rfl⟩:=HT.form
  have q:=HT.box (.head _);have q1:=q.cell 1;have q3:=q.cell 3;(simp at q1 q3);clear q
  obtain ⟨nr,hnr⟩:=aX rls.length
  have HT':=HT
  rw [hnr] at HT' q3 hrl
  have HNR:=aI hnr
  have H:=aI HT
  have H':=aI HT'
  clear HT HT' hnr
  by_cases hlt:j < nk
  ·by_cases hr2:nr < 2
   ·have hjk:j < ks.length:=by rw [HKL.out];exact hlt
    have hok:=HKS.out.ok (by have:=HKL.out;omega) _ (List.getElem_mem hjk)
    have hk0:0 < ks.length:=by omega
    obtain ⟨Ak,ck,rfl⟩:=H'.out.vform (.tail _ (.tail _ (.head _)))
    obtain ⟨g,rfl⟩:=H'.out.rform (.tail _ (.tail _ (.head _))) hk0
    obtain ⟨B,cB,g0,g1,g2,g3,s1,s2,s3,_⟩:=flat_knd (H'.out.fact (.tail _ (.tail _ (.head _)))) j hjk
    have y0:=H'.out.rcell (.tail _ (.tail _ (.head _))) hk0 g0
    have y1:=H'.out.rcell (.tail _ (.tail _ (.head _))) hk0 g1
    have y2:=H'.out.rcell (.tail _ (.tail _ (.head _))) hk0 g2
    have y3:=H'.out.rcell (.tail _ (.tail _ (.head _))) hk0 g3
    obtain ⟨k,hk⟩:=aX (ks[j])
    rw [hk] at y0 y1 y2 y3 s1 s2 hok
    have HK:=aI hk
    have HOK:=aI hok
    have CR:=aI (grule_any H'.out s1 (by rcases hok.len with h | h <;> omega) hok.n1 hok.n2 hok.bd (c:=cB))
    clear g0 g1 g2 g3 s1 s2 s3 hok hk H
    rw [HKL.out] at q1
    have k1:(j:Int) < (nk:Int):=by omega
    have k2:(nr:Int) < 2:=by omega
    go_upto_region 23 with (go_at_call 28;(refine CR.out.mono ?_);rintro e w6 ⟨r,b,M6,rfl,hrule,HP⟩;unfold rulCells;have H2:=aI HP;have HRL:=aI hrule;clear HP hrule)
    have H3:=aI (H2.out.new #[.string r.1,.string r.2.1,.string r.2.2.1,.string r.2.2.2.1,.int .i64 r.2.2.2.2] 58 rfl)
    clear H2 CR y0 y1 y2 y3 q1 q3
    generalize hW6:w6.alloc _=W6 at H3 ⊢
    generalize w6.heap.size=lb6 at H3 ⊢
    clear hW6
    have q:=H3.out.box (.head _);obtain ⟨z0,z1,z2,z3,z4⟩:=aN5 q.cell;(simp at z0 z1 z2 z3 z4);clear q
    have q:=H3.out.box (.tail _ (.head _));have q3:=q.cell 3;(simp at q3);clear q
    have HRS:=aI (Sg.Rules.step j hjk rls r b HRU.out (by rw [HNR.out];exact hr2) (by rw [HK.out];exact HRL.out))
    go_upto_if 111 with fail
    cases b
    ·go_wp2_with fail
     go_roundg (gk - 1)
     case measure=>omega
     case rel =>
      have hru2:Sg.Rules ks (j+1) rls:=by have h:=HRS.out;simpa using h
      refine ⟨j+1,rls,by omega,by go_num,by rw [HNR.out];exact hrl,hru2,lb6::M6,.slice (some ⟨g,0,none⟩) ks.length ck,kxs,lv,lxs,.slice Ar nr cr,rxs,?_⟩
      rw [HNR.out]
      exact H3.out.unbox
    ·go_wp2_with (at_builtin;obtain ⟨i0,hI,hz0,hz1,hz2⟩:=info_parts infoRul;refine wpList_append_mk (by rfl) _ _ 26 (by rfl) 58 i0 _ 5 72 Tryz.underlying26 hI hz0 hz1 hz2 rfl (by decide) (H3.out.below (aP _ _)) (by rfl) _ _ 1 1 (rulCells r).toList (by rfl) (reads_blk (Blk.new _ _ _) rfl) (by simp [rulCells,Value.oneCell']) (by unfold maxLen;omega) (by omega) ?_;intro v7 w7 M7 h7 _;obtain ⟨A7,c7,rfl⟩:=h7.form;have q:=h7.box (.tail _ (.head _));have s3:=q.cell 3;(simp at s3);have f3:=q.frozen 3;clear q;have T3:=aI h7;clear h7 hI hz0 hz1 hz2)
     have T4:=(T3.out.swap.set0 3 (.slice A7 (nr+1) c7)).swap.unbox
     have T5:=aI ((T4.add (keeps_flat (rls++[r]) (rxs++(rulCells r).toList)) ((T4.fact (.head _)).append (Flat.single (rule_rep HRL.out HOK.out)))).fswap.tail)
     clear T3 T4 H3
     go_roundg (gk - 1)
     case measure=>omega
     case rel =>
      have hru2:Sg.Rules ks (j+1) (rls++[r]):=by have h:=HRS.out;simpa using h
      refine ⟨j+1,rls++[r],by omega,by go_num,by rw [aK,HNR.out];show nr+1<=2;omega,hru2,M7,.slice (some ⟨g,0,none⟩) ks.length ck,kxs,lv,lxs,.slice A7 (nr+1) c7,rxs++(rulCells r).toList,?_⟩
      rw [aK,HNR.out]
      exact T5.out
   ·obtain rfl:nr=2:=by omega
    have k1:(j:Int) < (nk:Int):=by omega
    go_wp2_with fail
    go_meet
    case rel=>exact ⟨j,rls,HRU.out,.inr HNR.out,_,kv,kxs,lv,lxs,_,rxs,H.out⟩
  ·obtain rfl:j=nk:=by omega
   have k1:¬ (j:Int) < (j:Int):=by omega
   go_wp2_with fail
   go_meet
   case rel=>exact ⟨j,rls,HRU.out,.inl HKL.out.symm,_,kv,kxs,lv,lxs,_,rxs,H.out⟩
end
section
def SchemaP (w:World) (e:Ending) (w':World):Prop:=∃ x v,e=.returned v/\Sg.Schema x/\RepS [] w' x v/\Below w.heap.size w w'
set_option maxRecDepth 100000 in
theorem gschema_any (l:List Int) (A:Option Addr) (c:Nat) (w:World) (hs:SlAt [] w A l) (hc:l.length<=c) (hm:c<=9223372036854775807):Calls Tryz.prog 9 #[.slice A l.length c] w (SchemaP w):=by
 obtain ⟨K,hK⟩:∃ K:MkK,K=⟨w,[],w.heap.size+1,A,l.take 200,c⟩:=⟨_,rfl⟩
 have hlt:(l.take 200).length=min 200 l.length:=List.length_take
 have h0:=((held0 w [] (fun _ h=>by cases h)).add (keeps_sl A (l.take 200)) (hs.take 200)).new #[.int .i64 0,.slice none 0 0,.slice none 0 0,.slice none 0 0] 28 rfl
 have h1:=h0.new (N:=w.heap.size+1) #[.slice A (l.take 200).length c,.int .i64 0] 62 (by simp)
 obtain ⟨W1,hW1⟩:=aX ((w.alloc (.cells #[.int .i64 0,.slice none 0 0,.slice none 0 0,.slice none 0 0] 28)).alloc (.cells #[.slice A (l.take 200).length c,.int .i64 0] 62))
 rw [hW1] at h1
 have H0:=aI (show MkH K ((w.heap.size+1)::w.heap.size::[]) [(w.heap.size,28,#[.int .i64 0,.slice none 0 0,.slice none 0 0,.slice none 0 0])] [] [] W1 by
  subst hK
  exact ⟨by show (l.take 200).length<=_;omega,fun _ h=>(by cases h),0,by unfold inI;omega,HR.start h1⟩)
 have hp:K.p=.pointer (some ⟨w.heap.size+1,0,none⟩):=by rw [hK];rfl
 have HKW:=aI (show K.w=w/\K.G=[] by rw [hK];exact ⟨rfl,rfl⟩)
 obtain ⟨n,hn⟩:=aX l.length
 obtain ⟨n',hn'⟩:∃ m,(l.take 200).length=m:=⟨_,rfl⟩
 rw [hn] at hc hlt ⊢
 rw [hn'] at hlt
 rw [hn'] at hW1
 clear hK h0 h1 hs hn hn'
 go_enter Tryz.func9,Tryz.ntmps9
 go_upto_region 1 with fail
 go_cut [3] from 13 (fun v3 w'=>v3=K.p/\∃ M,MkH K M [(w.heap.size,28,#[.int .i64 0,.slice none 0 0,.slice none 0 0,.slice none 0 0])] [] [] w')
 case first =>
  have HP:=aI hp
  have HW:=aI hW1
  clear hp hW1
  by_cases hn2:n<=200
  ·obtain rfl:n'=n:=by omega
   clear hlt
   have t1:(n':Int)<=(c:Int):=by omega
   have t2:(n':Int)<=200:=by omega
   go_wp2_with fail
   go_meet
   case rel=>exact ⟨HP.out.symm,_,by (try rw [show (min (n':Int) 200).toNat=n' by omega]);rw [HW.out];exact H0.out⟩
  ·obtain rfl:n'=200:=by omega
   clear hlt
   have t1:(200:Int)<=(c:Int):=by omega
   have t2:¬ (n:Int)<=200:=by omega
   have t3:(200:Int) < (n:Int):=by omega
   go_wp2_with fail
   go_meet
   case rel=>exact ⟨HP.out.symm,_,by (try rw [show (min (n:Int) 200).toNat=200 by omega]);rw [HW.out];exact H0.out⟩
 case rest =>
 obtain ⟨rfl,M0,HM0⟩:=hcut
 have H0':=aI HM0
 clear hW1 hp hlt HM0 H0
 have H0:=H0'
 clear H0'
 clear W1
 generalize w.heap.size=rb at H0 ⊢
 go_wp2_with fail
 go_at_call 26
 refine (H0.out.take 4 (by omega) (by omega)).mono ?_
 rintro e w1 ⟨ver,rfl,v1,v2,hr⟩
 replace H0:=aI (H0.out.turn hr);clear hr
 have H:=aI (H0.out.new #[.int .i64 ver,.slice none 0 0,.slice none 0 0,.slice none 0 0] 28 rfl)
 clear H0
 go_wp2_with fail
 generalize hW2:w1.alloc _=W2 at H ⊢
 generalize w1.heap.size=xb at H ⊢
 clear hW2
 go_at_call 26
 refine (H.out.take 3 (by omega) (by omega)).mono ?_
 rintro e w3 ⟨nz,rfl,nz1,nz2,hr⟩
 obtain ⟨nk,hnk⟩:∃ m:Nat,1+nz=m:=⟨(1+nz).toNat,by omega⟩
 replace H:=aI ((H.out.turn hr).push 49 4);clear hr
 have hk3:nk<=3:=by omega
 have hk1:1<=nk:=by omega
 clear nz1 nz2
 go_upto_block 0 with fail
 go_cut [] from 13 (fun w'=>∃ ks,Sg.Kinds ks/\ks.length=nk/\SSt K xb rb ver ks w')
 case first =>
  go_wp2_with fail
  go_loopg [6] nk (fun r i wr=>∃ (j:Nat) (ks:List Knd),j+r=nk/\i=.int .i64 j/\ks.length=j/\Sg.Kinds ks/\SSt K xb rb ver ks wr)
  case atStart=>exact ⟨0,[],by omega,rfl,rfl,.nil,_,_,[],H.out.add (keeps_flat [] []) rfl⟩
  case round =>
   obtain ⟨j,ks,hj,rfl,hl,hks,hst⟩:=hrel
   clear H
   clear w3
   obtain ⟨wo,rfl⟩:=aY wr
   have HKS:=aI hks
   have HLN:=aI hl
   clear hks
   by_cases hlt:j < nk
   ·have k1:(j:Int) < (nk:Int):=by omega
    obtain ⟨M1,kv,kxs,HT⟩:=hst
    rw [hl] at HT
    obtain ⟨Ak,ck,rfl⟩:=HT.form
    have hok:=HKS.out.ok (by omega)
    have HOK:=aI hok
    have HNE:=aI (show ∀ k∈ks,1<=(Sc.flds k).length/\(Sc.flds k).length<=20 from fun k hk=>⟨(hok k hk).len1,by rcases (hok k hk).len with h | h <;> omega⟩)
    have q:=HT.box (.head _);have q1:=q.cell 1;(simp at q1);clear q
    have T:=aI HT
    clear HT hok hl
    go_wp2_with fail
    go_region_law (first | (obtain ⟨i0,hI,hz0,hz1,hz2⟩:=info_parts infoKnd;refine step_append_mk (by rfl) _ _ 24 (by rfl) 49 i0 _ 4 56 Tryz.underlying24 hI hz0 hz1 hz2 rfl (by decide) (T2.out.below (aP _ _)) (by rfl) _ _ 1 1 (kndCells k A1 c1) (by rfl) (reads_blk (Blk.new _ _ _) rfl) (by simp [kndCells,Value.oneCell']) (by unfold maxLen;omega) (by omega) ?_;intro v7 w7 M7 h7 _;obtain ⟨A7,c7,rfl⟩:=h7.form;have q:=h7.box (.head _);have q1:=q.cell 1;(simp at q1);have f1:=q.frozen 1;clear q;have T3:=aI h7;clear h7 hI hz0 hz1 hz2) | (go_simp;go_at_call 27;refine (gkind_any T.out.drew HLN.out.symm (by omega) HNE.out).mono ?_;rintro e w5 ⟨k,ks',A1,c1,kxs',M5,rfl,kc1,kc2,hkind,HP⟩;have q:=HP.box (.head _);have q1:=q.cell 1;(simp at q1);clear q;have T2:=aI HP;have HKI:=aI hkind;have q1b:∀ o,(w5.alloc o).cell? ⟨xb,1,none⟩=some (.slice Ak j ck):=(fun o=>by have q:=(HP.below ((Below.refl _ _).alloc (ag _) o)).box (.head _);have q:=q.cell 1;simpa using q);clear HP hkind))
    all_goals
     have T4:=T3.out.set0 1 (.slice A7 (j+1) c7)
     have hkok:=(HKI.out.ok HOK.out (by have:=HLN.out;omega)).1 k (by simp)
     have hlen:(ks'++[k]).length=j+1:=by rw [aK,HKI.out.klen,HLN.out];rfl
     have T5:=aI ((T4.add (keeps_flat (ks'++[k]) (kxs'++kndCells k A1 c1)) ((T4.fact (.tail _ (.head _))).append (Flat.single (KOk.knd hkok (T4.fact (.head _)) kc1 kc2 (by have:=HKI.out.lo4;omega) (by have:=HKI.out.lo0;have:=HKI.out.hi0;omega))))).less (L':=[fun M W=>Flat M W (ks'++[k]) (kxs'++kndCells k A1 c1)]) (fun P hP=>by rw [List.mem_singleton] at hP;subst hP;exact .head _))
     have HL:=aI hlen
     clear T T2 T3 T4 hkok hlen q1b
     go_wp2_with fail
     go_roundg (gk - 1)
     case measure=>omega
     case rel =>
      refine ⟨j+1,ks'++[k],by omega,by go_num,HL.out,.snoc _ _ _ HKS.out HKI.out,M7,.slice A7 (j+1) c7,kxs'++kndCells k A1 c1,?_⟩
      rw [HL.out]
      exact T5.out
   ·obtain rfl:j=nk:=by omega
    go_wp2_with fail
    go_meet
    case rel=>exact ⟨ks,HKS.out,HLN.out,hst⟩
 case rest =>
  obtain ⟨ks,hks,hkl,M1,kv,kxs,HT⟩:=hcut
  have HKS:=aI hks
  have HKL:=aI hkl
  clear H hks hkl
  clear w3
  have H:=aI HT
  clear HT
  go_wp2_with fail
  have H1:=aI ((H.out.below ((Below.refl _ _).alloc (ag _) (.cells #[.string ⟨#[110,101,119]⟩,.string ⟨#[111,112,101,110]⟩,.string ⟨#[100,111,110,101]⟩,.string ⟨#[115,104,117,116]⟩] 9))).lit (l:=Sg.states) (Blk.new _ _ _) (fun hm=>by have:=H.out.mb _ hm;omega) flat_states)
  clear H
  generalize hW3:wc.alloc _=W3 at H1 ⊢
  generalize wc.heap.size=N at H1 ⊢
  clear hW3
  go_at_call 26
  refine (H1.out.take 3 (by omega) (by omega)).mono ?_
  rintro e w5 ⟨mz,rfl,mz1,mz2,hr⟩
  obtain ⟨m,hm⟩:∃ m:Nat,2+mz=m:=⟨(2+mz).toNat,by omega⟩
  replace H1:=aI (H1.out.turn hr);clear hr
  have hm2:2<=m:=by omega
  have hm4:m<=4:=by omega
  have t1:(m:Int)<=4:=by omega
  have H:=aI ((H1.out.new #[.string ⟨#[108,105,102,101]⟩,.slice (some ⟨N,0,none⟩) m 4,.slice none 0 0] 55 rfl).push 56 2)
  clear mz1 mz2 H1
  go_upto_block 2 with fail
  generalize hW4:w5.alloc _=W4 at H ⊢
  generalize w5.heap.size=lb at H ⊢
  clear hW4
  replace H:=aI (H.out.recell (cs':=#[.string Sg.blife,.slice (some ⟨N,0,none⟩) m 4,.slice none 0 0]) rfl)
  go_cut [] from 13 (fun w'=>LSt K xb rb lb N m ver ks (Sg.steps (m - 1)) w')
  case first =>
   go_wp2_with fail
   go_loopg [9] (m - 1) (fun r i wr=>∃ j:Nat,j+r=m - 1/\i=.int .i64 j/\LSt K xb rb lb N m ver ks (Sg.steps j) wr)
   case atStart=>exact ⟨0,by omega,rfl,_,kv,kxs,_,[],(H.out.add (keeps_flat ([]:List (Int × Int)) []) rfl)⟩
   case round =>
    obtain ⟨j,hj,rfl,M5,kv,kxs,mv,mxs,HT⟩:=hrel
    clear H
    obtain ⟨wo,rfl⟩:=aY wr
    rw [steps_len] at HT
    obtain ⟨Ak,ck,rfl⟩:=HT.form
    have q:=HT.box (.head _);have q2:=q.cell 2;(simp at q2);clear q
    have T:=aI HT
    by_cases hlt:j < m - 1
    ·have k1:(j:Int)+1 < (m:Int):=by omega
     clear HT
     go_wp2_with (at_builtin;obtain ⟨i0,hI,hz0,hz1,hz2⟩:=info_parts infoMv;refine wpList_append_mk (by rfl) _ _ 53 (by rfl) 56 i0 _ 2 16 Tryz.underlying53 hI hz0 hz1 hz2 rfl (by decide) (T.out.below (aP _ _)) (by rfl) _ _ 1 1 [.int .i64 (j:Int),.int .i64 ((j:Int)+1)] (by rfl) (reads_blk (Blk.new _ _ _) rfl) (by simp [Value.oneCell']) (by unfold maxLen;omega) (by omega) ?_;intro v7 w7 M7 h7 _;obtain ⟨A7,c7,rfl⟩:=h7.form;have q:=h7.box (.head _);have q2:=q.cell 2;(simp at q2);have f2:=q.frozen 2;clear q;have T3:=aI h7;clear h7 hI hz0 hz1 hz2)
     have T4:=T3.out.set0 2 (.slice A7 (j+1) c7)
     have T5:=aI ((T4.add (keeps_flat (Sg.steps (j+1)) (mxs++[.int .i64 (j:Int),.int .i64 ((j:Int)+1)])) (by rw [<-steps_snoc];exact (T4.fact (.head _)).append (Flat.single ⟨[_],_,rfl,⟨rfl,by unfold inI;omega⟩,⟨rfl,by unfold inI;omega⟩⟩))).fswap.tail)
     clear T T3 T4
     go_roundg (gk - 1)
     case measure=>omega
     case rel =>
      refine ⟨j+1,by omega,by go_num,M7,kv,kxs,.slice A7 (j+1) c7,mxs++[.int .i64 (j:Int),.int .i64 ((j:Int)+1)],?_⟩
      rw [steps_len]
      exact T5.out
    ·obtain rfl:j=m - 1:=by omega
     have k1:¬ (((m - 1:Nat):Int))+1 < (m:Int):=by omega
     go_wp2_with fail
     go_meet
     case rel=>exact ⟨M5,kv,kxs,_,mxs,by rw [steps_len];exact HT⟩
  case rest =>
   obtain ⟨M5,kv,kxs,mv,mxs,HT⟩:=hcut
   have H:=aI HT
   clear HT
   go_wp2_with fail
   go_at_call 26
   refine (H.out.take 2 (by omega) (by omega)).mono ?_
   rintro e w6 ⟨v,rfl,v1,v2,hr⟩
   replace H:=aI (H.out.turn hr);clear hr
   go_upto_if 65 with fail
   go_cut [] from 13 (fun w'=>∃ a,(a=[]∨a=[(1,0)])/\LSt K xb rb lb N m ver ks (Sg.steps (m - 1)++a) w')
   case first =>
    by_cases hv:v=0
    ·subst hv
     obtain ⟨Ak,ck,rfl⟩:=H.out.form
     have q:=H.out.box (.head _);have q2:=q.cell 2;(simp at q2);clear q
     have hl:(Sg.steps (m - 1)).length<=5:=by rw [steps_len];omega
     go_wp2_with (at_builtin;obtain ⟨i0,hI,hz0,hz1,hz2⟩:=info_parts infoMv;refine wpList_append_mk (by rfl) _ _ 53 (by rfl) 56 i0 _ 2 16 Tryz.underlying53 hI hz0 hz1 hz2 rfl (by decide) (H.out.below (aP _ _)) (by rfl) _ _ 1 1 [.int .i64 1,.int .i64 0] (by rfl) (reads_blk (Blk.new _ _ _) rfl) (by simp [Value.oneCell']) (by unfold maxLen;omega) (by omega) ?_;intro v7 w7 M7 h7 _;obtain ⟨A7,c7,rfl⟩:=h7.form;have q:=h7.box (.head _);have q2:=q.cell 2;(simp at q2);have f2:=q.frozen 2;clear q;have T3:=aI h7;clear h7 hI hz0 hz1 hz2)
     go_meet
     case rel=>exact ⟨_,.inr rfl,LSt.mk1 T3.out (Flat.single ⟨[_],_,rfl,⟨rfl,by unfold inI;omega⟩,⟨rfl,by unfold inI;omega⟩⟩)⟩
    ·have t1:(v == 0)=false:=by rw [beq_eq_false_iff_ne];exact hv
     go_wp2_with fail
     go_meet
     case rel=>exact ⟨[],.inl rfl,_,kv,kxs,mv,mxs,by rw [List.append_nil];exact H.out⟩
   case rest =>
    obtain ⟨ma,hma,hst⟩:=hcut
    have HMA:=aI hma
    clear hma H v1 v2
    clear w6
    obtain ⟨mvs,hmvs⟩:=aX (Sg.steps (m - 1)++ma)
    have HMV:=aI hmvs
    have HML:=aI (show mvs.length<=4 by rw [<-hmvs,aK,steps_len];rcases HMA.out with rfl | rfl <;> simp <;> omega)
    rw [hmvs] at hst
    clear hmvs
    obtain ⟨M5,kv,kxs,mv,mxs,HT⟩:=hst
    have H:=aI HT
    clear HT
    go_wp2_with fail
    go_at_call 26
    refine (H.out.take 3 (by omega) (by omega)).mono ?_
    rintro e w6 ⟨v,rfl,v1,v2,hr⟩
    replace H:=aI (H.out.turn hr);clear hr
    go_upto_if 74 with fail
    go_cut [] from 13 (fun w'=>∃ a,(a=[]∨a=[(0,(m:Int) - 1)])/\LSt K xb rb lb N m ver ks (mvs++a) w')
    case first =>
     by_cases hv:v=0
     ·subst hv
      obtain ⟨Ak,ck,rfl⟩:=H.out.form
      have q:=H.out.box (.head _);have q2:=q.cell 2;(simp at q2);clear q
      have hl:(mvs).length<=5:=by have:=HML.out;omega
      go_wp2_with (at_builtin;obtain ⟨i0,hI,hz0,hz1,hz2⟩:=info_parts infoMv;refine wpList_append_mk (by rfl) _ _ 53 (by rfl) 56 i0 _ 2 16 Tryz.underlying53 hI hz0 hz1 hz2 rfl (by decide) (H.out.below (aP _ _)) (by rfl) _ _ 1 1 [.int .i64 0,.int .i64 ((m:Int) - 1)] (by rfl) (reads_blk (Blk.new _ _ _) rfl) (by simp [Value.oneCell']) (by unfold maxLen;omega) (by omega) ?_;intro v7 w7 M7 h7 _;obtain ⟨A7,c7,rfl⟩:=h7.form;have q:=h7.box (.head _);have q2:=q.cell 2;(simp at q2);have f2:=q.frozen 2;clear q;have T3:=aI h7;clear h7 hI hz0 hz1 hz2)
      go_meet
      case rel=>exact ⟨_,.inr rfl,LSt.mk1 T3.out (Flat.single ⟨[_],_,rfl,⟨rfl,by unfold inI;omega⟩,⟨rfl,by unfold inI;omega⟩⟩)⟩
     ·have t1:(v == 0)=false:=by rw [beq_eq_false_iff_ne];exact hv
      go_wp2_with fail
      go_meet
      case rel=>exact ⟨[],.inl rfl,_,kv,kxs,mv,mxs,by rw [List.append_nil];exact H.out⟩
    case rest =>
     obtain ⟨mb,hmb,M5,kv,kxs,mv,mxs,HT⟩:=hcut
     have HMB:=aI hmb
     clear hmb H v1 v2
     clear w6
     obtain ⟨mvs2,hmvs2⟩:=aX (mvs++mb)
     have HMV2:=aI hmvs2
     rw [hmvs2] at HT
     clear hmvs2
     obtain ⟨A2,c2,M6,rfl,e1,e2,HF,_⟩:=HT.freeze (α:=Int × Int) rfl rfl (HT.fact (.head _))
     obtain ⟨ln,hln⟩:=aX mvs2.length
     rw [hln] at HF e1
     have HLN:=aI hln
     have H:=aI (HF.push 55 3)
     clear HT HF hln
     go_upto_region 18 with fail
     go_cut [] from 13 (fun w'=>RSt K xb rb ver ks (Sg.blife,Sg.states.take m,mvs2) [] w')
     case first =>
      have q:=H.out.box (.head _);obtain ⟨q0,q1,q2⟩:=aN3 q.cell;(simp at q0 q1 q2);clear q
      have q:=H.out.box (.tail _ (.head _));have r2:=q.cell 2;(simp at r2);clear q
      go_wp2_with (at_builtin;obtain ⟨i0,hI,hz0,hz1,hz2⟩:=info_parts infoLif;refine wpList_append_mk (by rfl) _ _ 25 (by rfl) 55 i0 _ 3 64 Tryz.underlying25 hI hz0 hz1 hz2 rfl (by decide) (H.out.below (aP _ _)) (by rfl) _ _ 1 1 [.string Sg.blife,.slice (some ⟨N,0,none⟩) m 4,.slice A2 ln c2] (by rfl) (reads_blk (Blk.new _ _ _) rfl) (by simp [Value.oneCell']) (by unfold maxLen;omega) (by omega) ?_;intro v7 w7 M7 h7 _;obtain ⟨A7,c7,rfl⟩:=h7.form;have q:=h7.box (.tail _ (.head _));have s2:=q.cell 2;(simp at s2);have f2:=q.frozen 2;clear q;have T3:=aI h7;clear h7 hI hz0 hz1 hz2)
      go_meet
      case rel =>
       have T4:=(((T3.out.swap.set0 2 (.slice A7 1 c7)).swap.unbox).push 58 5)
       have T5:=(T4.add (keeps_flat [((Sg.blife,Sg.states.take m,mvs2):Lif)] [.string Sg.blife,.slice (some ⟨N,0,none⟩) m 4,.slice A2 ln c2]) (Flat.single (lif_rep (T4.fact (.tail _ (.tail _ (.head _)))) hm4 (T4.fact (.head _)) HLN.out.symm e1 e2))).add (keeps_flat ([]:List Rul) []) rfl
       refine ⟨M7,kv,kxs,.slice A7 1 c7,_,.slice none 0 0,[],T5.less fun P hP=>?_⟩
       simp only [List.mem_cons,List.not_mem_nil,or_false] at hP
       rcases hP with rfl | rfl | rfl
       ·exact .head _
       ·exact .tail _ (.head _)
       ·exact .tail _ (.tail _ (.tail _ (.tail _ (.tail _ (.head _)))))
     case rest =>
      have HLIF:=aI (show Sg.Life (Sg.blife,Sg.states.take m,mvs2) by
       have:=Sg.Life.mk m ma mb hm2 hm4 HMA.out HMB.out
       rw [HMV.out,HMV2.out] at this
       exact this)
      obtain ⟨lf,hlf⟩:∃ x:Lif,(Sg.blife,Sg.states.take m,mvs2)=x:=⟨_,rfl⟩
      rw [hlf] at hcut HLIF
      clear H e1 e2 hlf HMB HMV2 HLN HMA HMV HML
      obtain ⟨M5,kv,kxs,lv,lxs,rv,rxs,HT⟩:=hcut
      have H:=aI HT
      clear HT
      go_upto_block 4 with fail
      go_cut [] from 13 (fun w'=>∃ i rls,Sg.Rules ks i rls/\(i=ks.length∨rls.length=2)/\RSt K xb rb ver ks lf rls w')
      case first =>
       exact sch_rules HKS HKL hk3 ⟨M5,kv,kxs,lv,lxs,rv,rxs,H.out⟩ ‹_› ‹_›
      case rest =>
       clear H
       obtain ⟨ir,rls,hrules,hend,M7,kv,kxs,lv,lxs,rv,rxs,HT⟩:=hcut
       have HRU:=aI hrules
       have HEN:=aI hend
       clear hrules hend
       obtain ⟨Ar,cr,M8,rfl,r1,r2,HT2,_⟩:=HT.freeze (α:=Rul) rfl rfl (HT.fact (.head _))
       obtain ⟨Al,cl,M9,el,l1,l2,HT3,_⟩:=HT2.freeze (α:=Lif) (l:=[lf]) rfl rfl (HT2.fact (.tail _ (.tail _ (.head _))))
       subst el
       obtain ⟨Ak,ck,M10,rfl,a1,a2,HT4,_⟩:=HT3.freeze (α:=Knd) rfl rfl (HT3.fact (.tail _ (.tail _ (.tail _ (.tail _ (.head _))))))
       have H4:=aI (HT4.less (L':=[fun M W=>SlAt M W Ak ks,fun M W=>SlAt M W Al [lf],fun M W=>SlAt M W Ar rls]) (fun P hP=>by
        simp only [List.mem_cons,List.not_mem_nil,or_false] at hP
        rcases hP with rfl | rfl | rfl
        ·exact .head _
        ·exact .tail _ (.head _)
        ·exact .tail _ (.tail _ (.head _))))
       have HC:=aI (show (rls.length<=cr/\cr<=9223372036854775807)/\([lf].length<=cl/\cl<=9223372036854775807)/\(ks.length<=ck/\ck<=9223372036854775807) from ⟨⟨r1,r2⟩,⟨l1,l2⟩,⟨a1,a2⟩⟩)
       clear HT HT2 HT3 HT4 r1 r2 l1 l2 a1 a2
       obtain ⟨nr,hnr⟩:=aX rls.length
       obtain ⟨nl,hnl⟩:=aX ([lf].length)
       obtain ⟨nq,hnq⟩:=aX ks.length
       rw [hnr,hnl,hnq] at H4
       have HNR:=aI hnr
       have HNL:=aI hnl
       have HNQ:=aI hnq
       clear hnr hnl hnq
       go_upto_region 25 with fail
       go_cut [] from 13 (fun w'=>∃ M,MkH K M [(rb,28,#[.int .i64 ver,.slice Ak nq ck,.slice Al nl cl,.slice Ar nr cr])] [] [fun M W=>SlAt M W Ak ks,fun M W=>SlAt M W Al [lf],fun M W=>SlAt M W Ar rls] w')
       case first =>
        have q:=H4.out.box (.head _);obtain ⟨q0,q1,q2,q3⟩:=aN4 q.cell;(simp at q0 q1 q2 q3);clear q
        have q:=H4.out.box (.tail _ (.head _));obtain ⟨r0,r1,r2,r3⟩:=aN4 q.cell;(simp at r0 r1 r2 r3);obtain ⟨f0,f1,f2,f3⟩:=aN4 q.frozen;clear q
        go_wp2_with fail
        go_meet
        case rel =>
         have T:=((((H4.out.swap.set0 0 (.int .i64 ver)).set0 1 (.slice Ak nq ck)).set0 2 (.slice Al nl cl)).set0 3 (.slice Ar nr cr))
         exact ⟨_,T.swap.unbox⟩
       case rest =>
        obtain ⟨M11,H6⟩:=hcut
        clear H4
        have q:=H6.box (.head _);obtain ⟨q0,q1,q2,q3⟩:=aN4 q.cell;(simp at q0 q1 q2 q3);clear q
        have H7:=aI H6
        clear H6
        rename_i hK
        apply hK
        refine wp_ret ?_
        refine bodyPost_ret (v:=.agg #[.int .i64 ver,.slice Ak nq ck,.slice Al nl cl,.slice Ar nr cr]) ?_ rfl ?_
        ·simp [results,Tryz.results9,go_sem,q0,q1,q2,q3]
         try rfl
        ·refine ⟨(ver,ks,[lf],rls),_,rfl,Sg.Schema.mk ver ks lf ir rls v1 (by omega) (by rw [HKL.out];exact hk1) (by rw [HKL.out];exact hk3) HKS.out HLIF.out HRU.out HEN.out,⟨_,rfl,[_],_,rfl,⟨rfl,by unfold inI;omega⟩,[_],_,rfl,⟨Ak,ck,by rw [<-HNQ.out],HC.out.2.2.1,HC.out.2.2.2,(H7.out.fact (.head _)).sub fun g hg=>nomatch hg⟩,[_],_,rfl,⟨Al,cl,by rw [<-HNL.out],HC.out.2.1.1,HC.out.2.1.2,(H7.out.fact (.tail _ (.head _))).sub fun g hg=>nomatch hg⟩,⟨Ar,cr,by rw [<-HNR.out],HC.out.1.1,HC.out.1.2,(H7.out.fact (.tail _ (.tail _ (.head _)))).sub fun g hg=>nomatch hg⟩⟩,?_⟩
         obtain ⟨jj,hjj,HRR⟩:=H7.out.it
         have hbl:=HRR.h.bl
         rw [HKW.out.1] at hbl
         exact hbl
def StrP (b:Nat) (w:World) (e:Ending) (w':World):Prop:=∃ t,e=.returned (.string t)/\t.size<=b/\Below w.heap.size w w'
theorem tok_at {G:List Nat} {w:World} {A:Option Addr} {l:List Tk} (h:SlAt G w A (l.map tokI)) (k:Nat) (hk:k < l.length):∃ b o,A=some ⟨b,o,none⟩/\w.cell? ⟨b,o+k*2,none⟩=some (.int .i64 (l[k].1:Int))/\w.cell? ⟨b,o+k*2+1,none⟩=some (.int .i64 (l[k].2:Int)):=by
 obtain ⟨b,o,us,hA,_,hr,hc⟩:=h.get k (by simpa using hk)
 obtain ⟨u1,t1,rfl,⟨rfl,_⟩,⟨rfl,_⟩⟩:=hr
 have c0:=hc 0 _ rfl
 have c1:=hc 1 _ rfl
 simp only [List.getElem_map,tokI] at c0 c1
 exact ⟨b,o,hA,c0,c1⟩
def StrT (n:Nat) (v:Value) (_:World):Prop:=∃ u:ByteArray,v=.string u/\u.size<=n
theorem strT_kept (n:Nat):Kept (StrT n):=fun _ _ _ h _=>h
def AtStr (n:Nat) (v:Value) (w:World):Prop:=∃ a u,v=.pointer (some a)/\w.cell? a=some (.string u)/\u.size<=n
theorem atStr_kept (n:Nat):Kept (AtStr n):=fun _ _ _ ⟨a,u,h1,h2,h3⟩ hb=>⟨a,u,h1,(hb.cell (World.block_lt_of_cell? _ _ h2)).trans h2,h3⟩
theorem blanks_at (z:Nat) (h:z < 3):∃ u:ByteArray,(#[Value.string ⟨#[32]⟩,.string ⟨#[10]⟩,.string ⟨#[32,32,10,32]⟩]:Array Value)[z]?=some (.string u)/\u.size<=4:=by
 rcases (show z=0∨z=1∨z=2 by omega) with rfl | rfl | rfl
 ·exact ⟨_,rfl,by decide⟩
 ·exact ⟨_,rfl,by decide⟩
 ·exact ⟨_,rfl,by decide⟩
set_option maxRecDepth 100000 in
theorem spaced_any (s:ByteArray) (l:List Int) (A:Option Addr) (c:Nat) (w:World) (hs:s.size<=1000000) (hl:SlAt [] w A l) (hm:l.length<=9223372036854775807) :
  Calls Tryz.prog 10 #[.string s,.slice A l.length c] w (StrP (s.size*(s.size+4)) w):=by
 have CS:=aI (fun W=>scan_any s W (by omega))
 unfold ScanP at CS
 have HAT:=aI (fun (i m:Int) (W:World) (h:SlAt [] W A l)=>at_some A c l i m W h hm)
 obtain ⟨n,hn⟩:=aX l.length
 rw [hn] at HAT
 obtain ⟨toks,htk⟩:=aX ((Vm.scan s.data.toList (s.data.toList.length+1) 0).1)
 obtain ⟨en,hen⟩:=aX ((Vm.scan s.data.toList (s.data.toList.length+1) 0).2)
 rw [htk,hen,Vm.strLn] at CS
 obtain ⟨m,hmz⟩:=aX s.size
 obtain ⟨nt,hnt⟩:=aX toks.length
 rw [hmz] at CS hs
 rw [hnt] at CS
 have HM:=aI hmz
 have HNT:=aI hnt
 have HL:=aI hl
 rw [hn,hmz]
 clear hl hm hn htk hen hnt
 unfold StrP
 go_enter Tryz.func10,Tryz.ntmps10
 go_wp2_with (go_at_call 29;(with_reducible refine (CS.out _).mono ?_);rintro e w1 ⟨At,ct,rfl,hsl,htl,hbd,hb⟩;have HSL:=aI hsl;have HTL:=aI htl;have HBD:=aI hbd;have HB:=aI hb;clear hsl htl hbd hb)
 go_loopg [7,8] nt (fun r v7 v8 wr=>∃ (k:Nat) (t:ByteArray),k+r=nt/\v8=.int .i64 k/\v7=.string t/\t.size<=k*(m+4)/\Below w1.heap.size w1 wr)
 case atStart=>exact ⟨0,⟨#[]⟩,by omega,rfl,rfl,Nat.zero_le _,Below.refl _ _⟩
 case round =>
  obtain ⟨k,t,hk,rfl,rfl,hts,hbl⟩:=hrel
  obtain ⟨wo,rfl⟩:=aY wr
  have HBL:=aI hbl
  have HTS:=aI hts
  clear hts
  by_cases hlt:k < nt
  ·have k1:(k:Int) < (nt:Int):=by omega
   have k0:(0:Int)<=(k:Int):=by omega
   have hkt:k < toks.length:=by rw [HNT.out];exact hlt
   obtain ⟨b9,o9,rfl,c0,c1⟩:=tok_at (HSL.out.keep (Chg.of_below HBL.out)) k hkt
   obtain ⟨hb1,hb2⟩:=HBD.out _ (List.getElem_mem hkt)
   obtain ⟨ta,hta⟩:=aX (toks[k].1)
   obtain ⟨tb,htb⟩:=aX (toks[k].2)
   rw [hta] at c0 hb1
   rw [htb] at c1 hb1 hb2
   have HAL:=aI (HL.out.keep (Chg.of_below (HB.out.trans (HBL.out.mono HB.out.size))))
   have hkm:k<=m:=by have:=HTL.out;omega
   have hk64:=aI (show inI (k:Int) by unfold inI;omega)
   have hbo:t.size<=1000000*1000004:=by have:=HTS.out;have:k*(m+4)<=1000000*1000004:=Nat.mul_le_mul (by omega) (by omega);omega
   clear hta htb hbl
   go_wp2_with fail
   apply wp_region_typed (C:=fun w'=>Below wo.heap.size wo w') (n:=42) (m:=21) (l1:=[_,_,_,_,_,_,_,_,_,_,_,_,_,_,_,_,_,_,_,_,_]) (l2:=[_])
   ·rfl
   ·rfl
   ·kernel_rfl
   ·rfl
   ·kernel_rfl
   ·exact ⟨rfl,rfl,rfl,ag _,fun _ _=>rfl⟩
   ·exact fun u u' h hb=>(by first | exact h.below hb | exact h.trans (hb.mono h.size))
   (apply wpT_exact;· (intro w' hC hf;unfold Gives;clear hf hC;go_wp2_with (fail);apply postT_val rfl (Below.refl _ _);simp only [valAt,aV];exact rfl));(try simp only [Act.put,aZ])
   apply wpT_typed (slBlk_kept 3 9 #[.string ⟨#[32]⟩,.string ⟨#[10]⟩,.string ⟨#[32,32,10,32]⟩])
   ·intro w' hC hf;unfold Gives;clear hf hC;go_wp2_with fail;apply postT_mk rfl (by go_grown);simp only [valAt,aV];exact ⟨_,rfl,Blk.new _ _ _⟩
   intro vsl;(try simp only [Act.put,aZ])
   iterate 2 ((apply wpT_exact;· (intro w' hC hf;unfold Gives;clear hf hC;go_wp2_with (fail);apply postT_val rfl (Below.refl _ _);simp only [valAt,aV];exact rfl));(try simp only [Act.put,aZ]))
   apply wpT_typed (T:=fun v _=>∃ z:Nat,v=.int .i64 (z:Int)/\z < 3) (fun v w w' h _=>h)
   ·intro w' hC hf;unfold Gives;clear hf
    have HS5:=aI (HAL.out.keep (Chg.of_below hC));clear hC
    go_wp2_with (go_at_call 30;refine (HAT.out _ 3 _ HS5.out hk64.out (by omega) (by omega)).mono ?_;rintro e w' ⟨v,rfl,v1,v2,rfl⟩;obtain ⟨z,rfl⟩:∃ z:Nat,v=z:=⟨v.toNat,by omega⟩)
    refine postT_mk rfl (Below.refl _ _) ?_;simp only [valAt,aV];exact ⟨z,rfl,by omega⟩
   intro v24;(try simp only [Act.put,aZ])
   apply wpT_typed (atStr_kept 4)
   ·intro w' hC hf;unfold Gives
    obtain ⟨z,rfl,hz⟩:=hf.1 rfl
    obtain ⟨g,rfl,hB⟩:=hf.2.1 rfl
    obtain ⟨u,hu,hu4⟩:=blanks_at z hz
    have hcell:=(hB.cell z).trans hu
    have HC:=aI hcell
    have k9:(z:Int) < 3:=by omega
    clear hf hC hcell hB hu
    go_wp2_with fail
    apply postT_mk rfl (Below.refl _ _);simp only [valAt,aV];exact ⟨_,u,rfl,by first | exact HC.out | simpa [Addr.add] using HC.out,hu4⟩
   intro v25;(try simp only [Act.put,aZ])
   -- the blank
   apply wpT_typed (strT_kept 4)
   ·intro w' hC hf;unfold Gives
    obtain ⟨a,u,rfl,hu,hu4⟩:=hf.1 rfl
    clear hf hC
    go_wp2_with fail
    apply postT_mk rfl (Below.refl _ _);simp only [valAt,aV];exact ⟨u,rfl,hu4⟩
   intro v26;(try simp only [Act.put,aZ])
   apply wpT_typed (strT_kept (t.size+4))
   ·intro w' hC hf;unfold Gives
    obtain ⟨u,rfl,hu4⟩:=hf.1 rfl
    have hlen:(t++u).size<=t.size+4:=by rw [ByteArray.size_append];omega
    have HLN:=aI hlen
    clear hf hC hlen
    go_wp2_with fail
    apply postT_mk rfl (Below.refl _ _);simp only [valAt,aV];exact ⟨_,rfl,HLN.out⟩
   intro v27;(try simp only [Act.put,aZ])
   iterate 11 ((apply wpT_exact;· (intro w' hC hf;unfold Gives;have q0:=(hC.cell (World.block_lt_of_cell? _ _ c0)).trans c0;have q1:=(hC.cell (World.block_lt_of_cell? _ _ c1)).trans c1;clear hf hC;go_wp2_with (fail);apply postT_val rfl (Below.refl _ _);simp only [valAt,aV];exact rfl));(try simp only [Act.put,aZ]))
   apply wpT_typed (strT_kept m)
   ·intro w' hC hf;unfold Gives;clear hf hC
    have h1:(ta:Int)<=(tb:Int):=by omega
    have h2:(tb:Int)<=(m:Int):=by omega
    have h3:(0:Int)<=(ta:Int):=by omega
    have h4:tb<=s.size:=by rw [HM.out];exact hb2
    have h5:(tb:Int)<=(s.size:Int):=by omega
    go_wp2_with fail
    apply postT_mk rfl (Below.refl _ _);simp only [valAt,aV];exact ⟨_,rfl,by rw [ByteArray.size_extract];have:=HM.out;omega⟩
   intro v39;(try simp only [Act.put,aZ])
   apply wpT_typed (strT_kept (t.size+4+m))
   ·intro w' hC hf;unfold Gives
    obtain ⟨u2,rfl,hu2⟩:=hf.1 rfl
    obtain ⟨u1,rfl,hu1⟩:=hf.2.1 rfl
    have hlen:(u1++u2).size<=t.size+4+m:=by rw [ByteArray.size_append];omega
    have HLN:=aI hlen
    clear hf hC hlen
    go_wp2_with fail
    apply postT_mk rfl (Below.refl _ _);simp only [valAt,aV];exact ⟨_,rfl,HLN.out⟩
   intro v40;(try simp only [Act.put,aZ])
   apply wpT_done
   intro w4 hC hall
   obtain ⟨u,rfl,hu⟩:=hall.1
   have HC:=aI (HBL.out.trans (hC.mono HBL.out.size))
   have HU:=aI hu
   clear hall hC hu
   go_wp2_with fail
   go_roundg (gk - 1)
   case measure=>omega
   case rel=>exact ⟨k+1,u,by omega,by go_num,rfl,by have h1:=HU.out;have h2:=HTS.out;rw [Nat.add_mul];omega,HC.out⟩
  ·obtain rfl:nt=k:=by omega
   have k1:¬ (nt:Int) < (nt:Int):=by omega
   have HBF:=aI (HB.out.trans (HBL.out.mono HB.out.size))
   go_wp2_with fail
   go_ret
   exact ⟨t,rfl,Nat.le_trans HTS.out (Nat.mul_le_mul HTL.out (ag _)),HBF.out⟩
def chWords:Array Value:=#[.string ⟨#[115,99,104,101,109,97]⟩,.string ⟨#[107,105,110,100]⟩,.string ⟨#[120]⟩,.string ⟨#[45]⟩,.string ⟨#[49]⟩,.string ⟨#[45,49]⟩,.string ⟨#[48]⟩,.string ⟨#[49,48,48,48,48,48,48,48,48,48]⟩,.string ⟨#[114,117,108,101]⟩,.string ⟨#[109,111,118,101]⟩,.string ⟨#[108,105,102,101]⟩,.string ⟨#[107,101,121]⟩,.string ⟨#[110,117,109]⟩,.string ⟨#[112,105,99,107]⟩,.string ⟨#[49,51]⟩,.string ⟨#[85,112,112,101,114]⟩,.string ⟨#[115,104,97,114,101]⟩,.string ⟨#[100,97,121]⟩]
theorem chWords_at (z:Nat) (h:z < 18):∃ u:ByteArray,chWords[z]?=some (.string u)/\u.size<=10:=by
 match z,h with
 | 0,_ | 1,_ | 2,_ | 3,_ | 4,_ | 5,_ | 6,_ | 7,_ | 8,_ | 9,_ | 10,_ | 11,_ | 12,_ | 13,_ | 14,_ | 15,_ | 16,_ | 17,_=>exact ⟨_,rfl,by decide⟩
 | n+18,h=>exact absurd h (by omega)
set_option maxRecDepth 100000 in
theorem changed_any (s:ByteArray) (at_ how by_:Int) (w:World) (hs:s.size<=100000000) (h1:inI at_) (h2:inI how) (h3:inI by_) :
  Calls Tryz.prog 11 #[.string s,.int .i64 at_,.int .i64 how,.int .i64 by_] w (StrP (2*s.size+16) w):=by
 have CS:=aI (fun W=>scan_any s W hs)
 unfold ScanP at CS
 obtain ⟨toks,htk⟩:=aX ((Vm.scan s.data.toList (s.data.toList.length+1) 0).1)
 obtain ⟨en,hen⟩:=aX ((Vm.scan s.data.toList (s.data.toList.length+1) 0).2)
 rw [htk,hen,Vm.strLn] at CS
 obtain ⟨m,hmz⟩:=aX s.size
 obtain ⟨nt,hnt⟩:=aX toks.length
 rw [hmz] at CS hs
 rw [hnt] at CS
 have HM:=aI hmz
 have HNT:=aI hnt
 have CB:=aI (fun W=>around_any by_ 18 W h3.1 h3.2)
 have hz:=around_bd by_ 18 (by omega)
 obtain ⟨z,hzz⟩:∃ z:Nat,around by_ 18=z:=⟨(around by_ 18).toNat,by omega⟩
 rw [hzz] at CB hz
 obtain ⟨u,hu,hu10⟩:=chWords_at z (by omega)
 have HU:=aI hu10
 have HUW:=aI hu
 have CA:=aI (fun (k:Nat) W=>around_any at_ (k:Int) W h1.1 h1.2)
 have HAB:=aI (fun (k:Nat) (hk:1<=k)=>around_bd at_ (k:Int) (by omega))
 have CH:=aI (fun W=>around_any how 6 W h2.1 h2.2)
 have hh:=around_bd how 6 (by omega)
 obtain ⟨h,hhe⟩:=aX (around how 6)
 rw [hhe] at CH hh
 have HBY:=aI h3
 obtain ⟨hh1,hh2⟩:=hh
 have z1:(z:Int) < 18:=hz.2
 have z0:(0:Int)<=(z:Int):=by omega
 rw [hmz]
 clear hz hzz hhe htk hen hnt hu hu10 h1 h2 h3
 unfold StrP
 go_enter Tryz.func11,Tryz.ntmps11
 go_upto_region 2 with (go_at_call 29;(with_reducible refine (CS.out _).mono ?_);rintro e w1 ⟨At,ct,rfl,hsl,htl,hbd,hb⟩;have HSL:=aI hsl;have HTL:=aI htl;have HBD:=aI hbd;have HB:=aI hb;clear hsl htl hbd hb)
 have q:=(Blk.new w1 9 chWords).cell z
 rw [HUW.out] at q
 unfold chWords at q
 go_upto_region 3 with (go_at_call 17;(with_reducible refine aS (CB.out _) ?_))
 have HB2:=aI (HB.out.alloc HB.out.size (.cells chWords 9))
 have HSL2:=aI (HSL.out.keep (Chg.alloc w1 (.cells chWords 9)))
 unfold chWords at HB2 HSL2
 clear q HB HSL CB HUW z0 z1
 generalize hW:w1.alloc _=w2 at HB2 HSL2 ⊢
 clear hW
 have T:=aI (show Held w [] [] [] [fun M W=>SlAt M W At (toks.map tokI)] w2 from ⟨HB2.out,(fun _ h=>by cases h),(fun _ h=>by cases h),(fun _ h=>by cases h),List.nodup_nil,fun P hP=>by rw [List.mem_singleton] at hP;subst hP;exact ⟨keeps_sl _ _,HSL2.out⟩⟩)
 clear HB2 HSL2
 by_cases hn0:nt=0
 ·subst hn0
  have HBF:=aI T.out.bl
  have sz1:s.size<=100000000:=by have:=HM.out;omega
  have sz2:u.size<=10:=HU.out
  go_wp2_with fail
  go_ret
  exact ⟨_,rfl,by rw [ByteArray.size_append];have:=HM.out;have:=HU.out;omega,HBF.out⟩
 ·have hab:=HAB.out nt (by omega)
  obtain ⟨k,hkz⟩:∃ z:Nat,around at_ (nt:Int)=z:=⟨(around at_ (nt:Int)).toNat,by omega⟩
  have CK:=aI (CA.out nt)
  rw [hkz] at CK hab
  obtain ⟨hab1,hab2⟩:=hab
  have hkt:k < toks.length:=by rw [HNT.out];omega
  obtain ⟨b9,o9,rfl,c0,c1⟩:=tok_at (T.out.fact (.head _)) k hkt
  obtain ⟨hb1,hb2⟩:=HBD.out _ (List.getElem_mem hkt)
  obtain ⟨ta,hta⟩:=aX (toks[k].1)
  obtain ⟨tb,htb⟩:=aX (toks[k].2)
  rw [hta] at c0 hb1
  rw [htb] at c1 hb1 hb2
  have t0:((nt:Int) == 0)=false:=by rw [beq_eq_false_iff_ne];omega
  have k1:(k:Int) < (nt:Int):=hab2
  clear hkz hta htb hn0
  go_upto_region 6 with (go_at_call 17;(with_reducible refine aS (CK.out _) ?_))
  have T2:=aI ((T.out.less (L':=[]) (bx':=[]) (fun _ h=>by cases h) (List.Sublist.refl _)).new #[.int .i64 (ta:Int),.int .i64 (tb:Int)] 72 rfl)
  clear T c0 c1 t0 k1
  generalize hW2:w2.alloc _=w3 at T2 ⊢
  generalize w2.heap.size=gt at T2 ⊢
  clear hW2
  have e1:(ta:Int)<=(tb:Int):=by omega
  have e2:(tb:Int)<=(s.size:Int):=by have:=HM.out;omega
  have e3:(0:Int)<=(ta:Int):=by omega
  have e4:(ta:Int)<=(s.size:Int):=by omega
  have e5:(0:Int)<=(tb:Int):=by omega
  have sz1:s.size<=100000000:=by have:=HM.out;omega
  have sz2:u.size<=10:=HU.out
  go_upto_region 7 with (go_at_call 17;(with_reducible refine aS (CH.out _) ?_))
  rcases (show h=0∨h=1∨h=2∨h=3∨h=4∨h=5 by omega) with rfl | rfl | rfl | rfl | rfl | rfl
  ·go_wp2_with fail
   apply wp_region_typed (C:=fun w'=>Held w [] [gt] [(gt,72,#[.int .i64 (ta:Int),.int .i64 (tb:Int)])] [] w') (n:=107) (m:=9) (l1:=[_,_,_,_,_,_,_,_,_]) (l2:=[_])
   ·rfl
   ·rfl
   ·kernel_rfl
   ·rfl
   ·kernel_rfl
   ·exact T2.out.drew
   ·exact fun u u' h hb=>(by first | exact h.below hb | exact h.trans (hb.mono h.size))
   iterate 9 ((apply wpT_exact;· (intro w' hC hf;unfold Gives;have q:=hC.box (.head _);obtain ⟨x0,x1⟩:=aN2 q.cell;(simp at x0 x1);clear q;clear hf hC;go_wp2_with (fail);apply postT_val rfl (Below.refl _ _);simp only [valAt,aV];exact rfl));(try simp only [Act.put,aZ]))
   apply wpT_done
   intro w4 hC hall
   have HBF:=aI hC.bl
   clear hC hall
   go_wp2_with fail
   go_ret
   exact ⟨_,rfl,by simp only [ByteArray.size_append,ByteArray.size_extract];have:=HM.out;have:=HU.out;(try simp only [show (⟨#[32]⟩:ByteArray).size=1 from rfl]);omega,HBF.out⟩
  ·go_wp2_with fail
   apply wp_region_typed (C:=fun w'=>Held w [] [gt] [(gt,72,#[.int .i64 (ta:Int),.int .i64 (tb:Int)])] [] w') (n:=107) (m:=10) (l1:=[_,_,_,_,_,_,_,_,_,_]) (l2:=[_])
   ·rfl
   ·rfl
   ·kernel_rfl
   ·rfl
   ·kernel_rfl
   ·exact T2.out.drew
   ·exact fun u u' h hb=>(by first | exact h.below hb | exact h.trans (hb.mono h.size))
   iterate 10 ((apply wpT_exact;· (intro w' hC hf;unfold Gives;have q:=hC.box (.head _);obtain ⟨x0,x1⟩:=aN2 q.cell;(simp at x0 x1);clear q;clear hf hC;go_wp2_with (fail);apply postT_val rfl (Below.refl _ _);simp only [valAt,aV];exact rfl));(try simp only [Act.put,aZ]))
   apply wpT_done
   intro w4 hC hall
   have HBF:=aI hC.bl
   clear hC hall
   go_wp2_with fail
   go_ret
   exact ⟨_,rfl,by simp only [ByteArray.size_append,ByteArray.size_extract];have:=HM.out;have:=HU.out;(try simp only [show (⟨#[32]⟩:ByteArray).size=1 from rfl]);omega,HBF.out⟩
  ·go_wp2_with fail
   apply wp_region_typed (C:=fun w'=>Held w [] [gt] [(gt,72,#[.int .i64 (ta:Int),.int .i64 (tb:Int)])] [] w') (n:=107) (m:=11) (l1:=[_,_,_,_,_,_,_,_,_,_,_]) (l2:=[_])
   ·rfl
   ·rfl
   ·kernel_rfl
   ·rfl
   ·kernel_rfl
   ·exact T2.out.drew
   ·exact fun u u' h hb=>(by first | exact h.below hb | exact h.trans (hb.mono h.size))
   iterate 11 ((apply wpT_exact;· (intro w' hC hf;unfold Gives;have q:=hC.box (.head _);obtain ⟨x0,x1⟩:=aN2 q.cell;(simp at x0 x1);clear q;clear hf hC;go_wp2_with (fail);apply postT_val rfl (Below.refl _ _);simp only [valAt,aV];exact rfl));(try simp only [Act.put,aZ]))
   apply wpT_done
   intro w4 hC hall
   have HBF:=aI hC.bl
   clear hC hall
   go_wp2_with fail
   go_ret
   exact ⟨_,rfl,by simp only [ByteArray.size_append,ByteArray.size_extract];have:=HM.out;have:=HU.out;(try simp only [show (⟨#[32]⟩:ByteArray).size=1 from rfl]);omega,HBF.out⟩
  ·have q:=T2.out.box (.head _);obtain ⟨x0,x1⟩:=aN2 q.cell;(simp at x0 x1);clear q
   have HBF:=aI T2.out.bl
   go_wp2_with fail
   go_ret
   exact ⟨_,rfl,by rw [ByteArray.size_extract];have:=HM.out;omega,HBF.out⟩
  ·go_wp2_with fail
   apply wp_region_typed (C:=fun w'=>Held w [] [gt] [(gt,72,#[.int .i64 (ta:Int),.int .i64 (tb:Int)])] [] w') (n:=107) (m:=12) (l1:=[_,_,_,_,_,_,_,_,_,_,_,_]) (l2:=[_])
   ·rfl
   ·rfl
   ·kernel_rfl
   ·rfl
   ·kernel_rfl
   ·exact T2.out.drew
   ·exact fun u u' h hb=>(by first | exact h.below hb | exact h.trans (hb.mono h.size))
   iterate 12 ((apply wpT_exact;· (intro w' hC hf;unfold Gives;have q:=hC.box (.head _);obtain ⟨x0,x1⟩:=aN2 q.cell;(simp at x0 x1);clear q;clear hf hC;go_wp2_with (fail);apply postT_val rfl (Below.refl _ _);simp only [valAt,aV];exact rfl));(try simp only [Act.put,aZ]))
   apply wpT_done
   intro w4 hC hall
   have HBF:=aI hC.bl
   clear hC hall
   go_wp2_with fail
   go_ret
   exact ⟨_,rfl,by simp only [ByteArray.size_append,ByteArray.size_extract];have:=HM.out;have:=HU.out;(try simp only [show (⟨#[32]⟩:ByteArray).size=1 from rfl]);omega,HBF.out⟩
  ·have hcv:=run_bytes_of_string (P:=Tryz.prog) w3 9 73 5 s Tryz.underlying9 Tryz.underlying73 Tryz.underlying5
   obtain ⟨cap,hcap⟩:=aX (grownCap w3 s.size 0 5)
   rw [hcap] at hcv
   have hsz:s.data.size=m:=by have:=HM.out;exact this
   have hrs:m<=(bytesRow s cap).size:=by unfold bytesRow;rw [Array.size_append,Array.size_map];omega
   obtain ⟨W4,hW4⟩:=aX ((w3.alloc (.cells (bytesRow s cap) 5 ((bytesRow s cap).size,(bytesRow s cap).size+1))).drew)
   have hfr:∀ j,j < m->W4.frozen? ⟨w3.heap.size,j,none⟩=false:=fun j hj=>by
    rw [<-hW4]
    have:=World.frozen?_alloc_mark w3 (bytesRow s cap) 5 (bytesRow s cap).size ((bytesRow s cap).size+1) j
    rw [decide_eq_false (show ¬ (bytesRow s cap).size<=j by omega)] at this
    exact this
   have hB4:Below w3.heap.size w3 W4:=by
    rw [<-hW4]
    exact ((Below.refl w3.heap.size w3).alloc (ag _) _).trans ⟨rfl,rfl,rfl,ag _,fun _ _=>rfl⟩
   have hce:∀ j (hj:j < s.data.size),W4.cell? ⟨w3.heap.size,j,none⟩=some (.int .u8 (s.data[j].toNat:Int)):=fun j hj=>by
    rw [<-hW4]
    exact (cell_of_row _ w3.heap.size j _ 5 _ (heap_alloc_new w3 _)).trans (bytesRow_at s cap j hj)
   have hm1:1<=m:=by have:=HTL.out;omega
   have hib:=around_bd at_ (m:Int) (by omega)
   obtain ⟨iz,hiz⟩:∃ z:Nat,around at_ (m:Int)=z:=⟨(around at_ (m:Int)).toNat,by omega⟩
   have CI:=aI (CA.out m)
   rw [hiz] at CI hib
   have him:iz < m:=by omega
   obtain ⟨y8,q8⟩:∃ y:Int,W4.cell? ⟨w3.heap.size,iz,none⟩=some (.int .u8 y):=⟨_,hce iz (by omega)⟩
   have f8:=hfr iz him
   have k8:(iz:Int) < (m:Int):=by omega
   obtain ⟨b8,hb8⟩:∃ b:UInt8,(b.toNat:Int)=by_ % 256:=by
    refine ⟨UInt8.ofNat (by_ % 256).toNat,?_⟩
    have h1:0<=by_ % 256/\by_ % 256 < 256:=by omega
    have:(UInt8.ofNat (by_ % 256).toNat).toNat=(by_ % 256).toNat:=by
     simp;omega
    rw [this];omega
   have hcv2:=run_convert_bytes_back (P:=Tryz.prog) (W4.setCell ⟨w3.heap.size,iz,none⟩ (.int .u8 (b8.toNat:Int))) 73 9 5 ⟨w3.heap.size,0,none⟩ cap (s.data.toList.set iz b8) Tryz.underlying73 Tryz.underlying5 Tryz.underlying9 (fun j hj=>by
    have hj':j < s.data.size:=by simpa using hj
    have ea:(Addr.mk w3.heap.size 0 none).add j=⟨w3.heap.size,j,none⟩:=by rw [Addr.add_lit,Nat.zero_add]
    rw [ea]
    by_cases hji:j=iz
    ·subst hji
     rw [World.cell?_setCell_same (w:=W4) (a:=⟨w3.heap.size,j,none⟩) (v:=.int .u8 (b8.toNat:Int)) (hce j hj')]
     simp
    ·rw [World.cell?_setCell_other (w:=W4) (a:=⟨w3.heap.size,iz,none⟩) (b:=⟨w3.heap.size,j,none⟩) (v:=.int .u8 (b8.toNat:Int)) (by intro h;injection h with _ h2;exact hji h2.symm),hce j hj']
     simp [Ne.symm hji])
   rw [List.length_set,Array.length_toList,hsz] at hcv2
   have hb5:=((T2.out.bl.trans (hB4.mono T2.out.bl.size)).setCell (p:=⟨w3.heap.size,iz,none⟩) T2.out.bl.size (.int .u8 (b8.toNat:Int)))
   rw [hb8] at hcv2 hb5
   have HB5:=aI hb5
   clear hb5
   have HL2:=aI (show (⟨(s.data.toList.set iz b8).toArray⟩:ByteArray).size=m by show ((s.data.toList.set iz b8).toArray).size=m;simp [hsz])
   rw [HM.out] at hcv
   generalize (⟨(s.data.toList.set iz b8).toArray⟩:ByteArray)=sr at hcv2 HL2
   clear hce hfr hB4 hcap T2 hiz hib CA HAB hrs hb8
   go_upto_region 18 with fail
   clear hcv hW4
   go_wp2_with (go_at_call 17;(with_reducible refine aS (CI.out _) ?_))
   go_ret
   exact ⟨sr,rfl,by have:=HL2.out;omega,HB5.out⟩
end
end Go.Proofs.YtmplaikgbeeikaaGreatDoor
