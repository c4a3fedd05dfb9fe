/- Parts of the proof, joined: W36p, W36a, W36q. -/
import Derived.Test.YtmplaikgbeeikaaGreatDoorS4
set_option maxRecDepth 1000000
set_option maxHeartbeats 100000000
set_option linter.unusedVariables false
set_option linter.unusedSimpArgs false
set_option linter.unusedSectionVars false
namespace Go.Proofs.YtmplaikgbeeikaaGreatDoor
open Go Go.RowKit
section
noncomputable def kup_0_code:Code:=((Tryz.f27.body.bind (regAt 7)).getD .skip)
theorem kup_0 {bx:List Box} {rs:List Rw} {L:List (List Nat->World->Prop)} {K:MkK} {ks:List Knd} {n:Nat} {rb:Nat} {c0:Nat} {nm:ByteArray} {lo:Int} {hi:Int} {x:Int} {u14 u15 u16 u17 u18 u19 u20 u21 u22 u23 u24 u25 u26 u27 u28 u29 u30 u31 u32 u33 u34 u35 u36 u37 u38 u39 u40 u41 u47 u48 u49 u50 u51 u52 u53 u54 u55 u56 u57 u58 u59 u60 u61 u62 u63 u64 u65 u66 u67 u68 u69 u70 u71 u72 u73 u74 u75 u76 u77 u78 u79 u80 u81 u82 u83 u84 u85 u86 u87 u88 u89 u90 u91 u92 u93 u94 u95 u96 u97 u98 u99 u100 u101 u102 u103 u104 u105 u106 u107 u108 u109 u110 u111 u112 u113 u114 u115 u116 u117 u118 u119 u120 u121 u122 u123 u124 u125 u126 u127 u128 u129 u130 u131 u132 u133 u134 u135 u136 u137 u138 u139 u140 u141 u142 u143 u144 u145 u146 u147 u148 u149 u150 u151 u152 u153 u154 u155 u156 u157 u158 u159 u160 u161 u162 u163 u164 u165 u166 u167 u168 u169 u170 u171 u172 u173 u174 u175 u176 u177 u178 u179 u180 u181 u182 u183:Value} {M1:List Nat} {kb:Nat} {fv:Value} {fxs:List Value} {kxs:List Value} {g:Nat} {z:Nat} {k:Knd} {nmo:ByteArray} {wo:World}  {J_ K_:Act->World->Prop} {Q_:Exit->Act->World->Prop} {cd_:Code} (hcd_:cd_=kup_0_code) (_hn2:n<=2) (_lo0:(0:Int)<=lo) (_lo4:lo<=(4:Int)) (_hi1:lo<=hi) (_hi2:hi<=lo+(4:Int)) (hn0:0 < n) (v1:(0:Int)<=(↑z:Int)) (v2:(↑z:Int) < (↑n:Int)) (_hzk:z < ks.length) (_s4:nmo.size<=9223372036854775807) (_hnmo:k.fst=nmo) (HQ0:Hid (kxs[z*4]?=some (Value.string nmo))) (H: Hid (MkH K M1 ((kb,(49:TypeId),#[Value.string nm,Value.int IntKind.i64 lo,Value.int IntKind.i64 hi,fv])::(rb,(49:TypeId),#[Value.string { data:=#[] },Value.int IntKind.i64 (0:Int),Value.int IntKind.i64 (0:Int),Value.slice none 0 0])::bx) ({ e:=(52:TypeId),size:=8,v:=fv,n:=[Sg.idF x].length,xs:=fxs }::{ e:=(49:TypeId),size:=4,v:=Value.slice (some (Addr.mk (g) (0) none)) n c0,n:=n,xs:=kxs }::rs) ((fun M W=>Flat M W [Sg.idF x] fxs)::(fun M W=>Flat M W ks kxs)::L) wo))
  (hJ_:∀ (a':Act) (w':World),(∃ u9 u14 u15 u16 u17 u18 u19 u20 u21 u22 u23 u24 u25 u26 u27 u28 u29 u30 u31 u32 u33 u34 u35 u36 u37 u38 u39 u40 u41 u42 u43 u44 u45 u46 u47 u48 u49 u50 u51 u52 u53 u54 u55 u56 u57 u58 u59 u60 u61 u62 u63 u64 u65 u66 u67 u68 u69 u70 u71 u72 u73 u74 u75 u76 u77 u78 u79 u80 u81 u82 u83 u84 u85 u86 u87 u88 u89 u90 u91 u92 u93 u94 u95 u96 u97 u98 u99 u100 u101 u102 u103 u104 u105 u106 u107 u108 u109 u110 u111 u112 u113 u114 u115 u116 u117 u118 u119 u120 u121 u122 u123 u124 u125 u126 u127 u128 u129 u130 u131 u132 u133 u134 u135 u136 u137 u138 u139 u140 u141 u142 u143 u144 u145 u146 u147 u148 u149 u150 u151 u152 u153 u154 u155 u156 u157 u158 u159 u160 u161 u162 u163 u164 u165 u166 u167 u168 u169 u170 u171 u172 u173 u174 u175 u176 u177 u178 u179 u180 u181 u182 u183,((∃ hi2,(2:Int)<=hi2/\hi2<=(8:Int)/\KSt2 K bx rs L rb n (Value.slice (some (Addr.mk (g) (0) none)) n c0) (Value.pointer (some (Addr.mk (kb) (0) none))) nm lo hi [Sg.idF x] ks u9 nmo (0:Int) hi2 w'))/\a'=⟨(K.p::(Value.slice (some (Addr.mk (g) (0) none)) n c0)::undef::undef::(Value.pointer (some (Addr.mk (rb) (0) none)))::(Value.int IntKind.i64 (↑n:Int))::(Value.int IntKind.i64 lo)::(Value.pointer (some (Addr.mk (kb) (0) none)))::(Value.int IntKind.i64 (↑z:Int))::u9::undef::undef::undef::undef::u14::u15::u16::u17::u18::u19::u20::u21::u22::u23::u24::u25::u26::u27::u28::u29::u30::u31::u32::u33::u34::u35::u36::u37::u38::u39::u40::u41::u42::u43::u44::u45::u46::u47::u48::u49::u50::u51::u52::u53::u54::u55::u56::u57::u58::u59::u60::u61::u62::u63::u64::u65::u66::u67::u68::u69::u70::u71::u72::u73::u74::u75::u76::u77::u78::u79::u80::u81::u82::u83::u84::u85::u86::u87::u88::u89::u90::u91::u92::u93::u94::u95::u96::u97::u98::u99::u100::u101::u102::u103::u104::u105::u106::u107::u108::u109::u110::u111::u112::u113::u114::u115::u116::u117::u118::u119::u120::u121::u122::u123::u124::u125::u126::u127::u128::u129::u130::u131::u132::u133::u134::u135::u136::u137::u138::u139::u140::u141::u142::u143::u144::u145::u146::u147::u148::u149::u150::u151::u152::u153::u154::u155::u156::u157::u158::u159::u160::u161::u162::u163::u164::u165::u166::u167::u168::u169::u170::u171::u172::u173::u174::u175::u176::u177::u178::u179::u180::u181::u182::u183::[]).toArray,[]⟩)->J_ a' w') (hM_:∀ (a':Act) (w':World),Met J_ a' w'->K_ a' w') :
  Code.wp Tryz.prog cd_ (Exit.then K_ Q_) ⟨(K.p::(Value.slice (some (Addr.mk (g) (0) none)) n c0)::undef::undef::(Value.pointer (some (Addr.mk (rb) (0) none)))::(Value.int IntKind.i64 (↑n:Int))::(Value.int IntKind.i64 lo)::(Value.pointer (some (Addr.mk (kb) (0) none)))::(Value.int IntKind.i64 (↑z:Int))::undef::undef::undef::undef::undef::u14::u15::u16::u17::u18::u19::u20::u21::u22::u23::u24::u25::u26::u27::u28::u29::u30::u31::u32::u33::u34::u35::u36::u37::u38::u39::u40::u41::(Value.int IntKind.i64 (↑n:Int))::(Value.bool true)::K.p::(Value.int IntKind.i64 (↑n:Int))::(Value.int IntKind.i64 (↑z:Int))::u47::u48::u49::u50::u51::u52::u53::u54::u55::u56::u57::u58::u59::u60::u61::u62::u63::u64::u65::u66::u67::u68::u69::u70::u71::u72::u73::u74::u75::u76::u77::u78::u79::u80::u81::u82::u83::u84::u85::u86::u87::u88::u89::u90::u91::u92::u93::u94::u95::u96::u97::u98::u99::u100::u101::u102::u103::u104::u105::u106::u107::u108::u109::u110::u111::u112::u113::u114::u115::u116::u117::u118::u119::u120::u121::u122::u123::u124::u125::u126::u127::u128::u129::u130::u131::u132::u133::u134::u135::u136::u137::u138::u139::u140::u141::u142::u143::u144::u145::u146::u147::u148::u149::u150::u151::u152::u153::u154::u155::u156::u157::u158::u159::u160::u161::u162::u163::u164::u165::u166::u167::u168::u169::u170::u171::u172::u173::u174::u175::u176::u177::u178::u179::u180::u181::u182::u183::[]).toArray,[]⟩ wo:=by
 subst hcd_
 conv=>arg 2;whnf
 letI:Grow:=K.grow
 apply RG.wp_region_typed (C:=fun w'=>K.R wo w') (n:=184) (m:=12) (l1:=[_,_,_,_,_,_,_,_,_,_,_,_]) (l2:=[_])
 ·rfl
 ·rfl
 ·kernel_rfl
 ·rfl
 ·kernel_rfl
 ·exact K.drew wo
 ·exact fun u u' h hb=>h.trans hb
 iterate 2 ((apply RG.wpT_exact;· (intro w' hC hf;unfold RG.Gives;clear hf hC;go_wp2_with (fail);apply RG.postT_val rfl (Grow.refl _);simp only [RG.valAt,aV];exact rfl));(try simp only [Act.put,aZ]))
 (apply RG.wpT_exact;· (intro w' hC hf;unfold RG.Gives;have k1:(z:Int) < (n:Int):=(by omega);clear hf hC;go_wp2_with (fail);apply RG.postT_val rfl (Grow.refl _);simp only [RG.valAt,aV];exact rfl));(try simp only [Act.put,aZ])
 (apply RG.wpT_exact;· (intro w' hC hf;unfold RG.Gives;clear hf hC;go_wp2_with (fail);apply RG.postT_val rfl (Grow.refl _);simp only [RG.valAt,aV];exact rfl));(try simp only [Act.put,aZ])
 (apply RG.wpT_exact;· (intro w' hC hf;unfold RG.Gives;have q:=(H.out.turn hC).rcell (.tail _ (.head _)) hn0 HQ0.out;clear hf hC;go_wp2_with (fail);apply RG.postT_val rfl (Grow.refl _);simp only [RG.valAt,aV];exact rfl));(try simp only [Act.put,aZ])
 apply RG.wpT_typed (litT_kept K wo.heap.size 4 3 (fun cs=>cs=#[.int .i64 4,.int .i64 3,.int .i64 8,.int .i64 2]) H.out.gmLt)
 ·intro w' hC hf;unfold RG.Gives;clear hf
  have hs:=aI (K.size hC)
  clear hC
  go_wp2_with fail
  refine RG.postT_mk rfl (K.grown (by go_grown)) ?_;simp only [RG.valAt,aV]
  exact ⟨_,_,rfl,rfl,hs.out,Blk.new _ _ _⟩
 intro v52;(try simp only [Act.put,aZ])
 (apply RG.wpT_exact;· (intro w' hC hf;unfold RG.Gives;clear hf hC;go_wp2_with (fail);apply RG.postT_val rfl (Grow.refl _);simp only [RG.valAt,aV];exact rfl));(try simp only [Act.put,aZ])
 apply RG.wpT_typed (T:=fun v _=>∃ z:Nat,v=.int .i64 (z:Int)/\z < 4) (fun v w w' h _=>h)
 ·intro w' hC hf;unfold RG.Gives;clear hf
  go_wp2_with fail
  go_at_call 26
  refine ((H.out.turn hC).take 4 (by omega) (by omega)).mono ?_
  rintro e w3 ⟨v,rfl,v1,v2,hr⟩
  obtain ⟨z,rfl⟩:∃ z':Nat,v=z':=⟨v.toNat,by omega⟩
  go_wp2_with fail
  refine RG.postT_mk rfl hr ?_;simp only [RG.valAt,aV];exact ⟨z,rfl,by omega⟩
 intro v54;(try simp only [Act.put,aZ])
 apply RG.wpT_typed (T:=PtrT wo.heap.size 3 (fun cs i=>∃ x:Int,cs[i]?=some (.int .i64 x)/\2<=x/\x<=8)) (ptrT_kept K _ _ _ H.out.gmLt)
 ·intro w' hC hf;unfold RG.Gives;obtain ⟨z,rfl,z1⟩:=hf.1 rfl;obtain ⟨cs,N,rfl,rfl,hge,hblk⟩:=hf.2.1 rfl;clear hf
  have k1:(z:Int) < 4:=by omega
  go_wp2_with fail
  refine RG.postT_mk rfl (Grow.refl _) ?_;simp only [RG.valAt,aV];exact ⟨_,N,z,by first | rfl | simp [Addr.add],(by obtain ⟨x,h1,h2,h3⟩:=his_at z z1;exact ⟨x,h3,h1,h2⟩),hge,hblk⟩
 intro v55;(try simp only [Act.put,aZ])
 apply RG.wpT_typed (T:=fun v _=>∃ x:Int,v=.int .i64 x/\2<=x/\x<=8) (fun v w w' h _=>h)
 ·intro w' hC hf;unfold RG.Gives;obtain ⟨cs,N,i,rfl,⟨x,hx,hok⟩,hge,hblk⟩:=hf.1 rfl;have q:=hblk.cell i;rw [hx] at q;clear hC;clear hf
  go_wp2_with fail
  refine RG.postT_mk rfl (Grow.refl _) ?_;simp only [RG.valAt,aV];exact ⟨x,rfl,hok⟩
 intro v56;(try simp only [Act.put,aZ])
 apply RG.wpT_typed (T:=fun v _=>∃ x:Int,v=.agg #[.string Sg.bof,.string nmo,.string Sg.be,.int .i64 1,.int .i64 0,.int .i64 x,.slice none 0 0,.slice none 0 0]/\2<=x/\x<=8) (fun v w w' h _=>h)
 ·intro w' hC hf;unfold RG.Gives;obtain ⟨x,rfl,hok⟩:=hf.1 rfl;clear hC;clear hf
  go_wp2_with fail
  refine RG.postT_mk rfl (Grow.refl _) ?_;simp only [RG.valAt,aV];exact ⟨x,rfl,hok⟩
 intro v57;(try simp only [Act.put,aZ])
 apply RG.wpT_typed (ptrT_kept K wo.heap.size 52 (fun cs i=>cs=#[.string ⟨#[]⟩,.string ⟨#[]⟩,.string ⟨#[]⟩,.int .i64 0,.int .i64 0,.int .i64 0,.slice none 0 0,.slice none 0 0]/\i=0) H.out.gmLt)
 ·intro w' hC hf;unfold RG.Gives;clear hf
  have hs:=aI (K.size hC)
  clear hC
  go_wp2_with fail
  refine RG.postT_mk rfl (K.grown (by go_grown)) ?_;simp only [RG.valAt,aV]
  exact ⟨_,_,0,rfl,⟨rfl,rfl⟩,hs.out,Blk.new _ _ _⟩
 intro v9;(try simp only [Act.put,aZ])
 apply RG.wpT_done
 intro w4 hC hall
 obtain ⟨cs,fb,i,rfl,⟨rfl,rfl⟩,hge,hblk⟩:=hall.1
 obtain ⟨x2,rfl,x3,x4⟩:=hall.2.1
 have T:=aI (H.out.adopt hC hge hblk)
 have q:=hblk;obtain ⟨f0,f1,f2,f3,f4,f5,f6,f7⟩:=aN8 q.frozen;obtain ⟨q0,q1,q2,q3,q4,q5,q6,q7⟩:=aN8 q.cell;(simp at q0 q1 q2 q3 q4 q5 q6 q7);clear q
 clear hall hC hge hblk
 go_wp2_with fail
 go_meet
 case rel =>
  have T1:=(((((((T.out.set0 0 (.string Sg.bof)).set0 1 (.string nmo)).set0 2 (.string Sg.be)).set0 3 (.int .i64 1)).set0 4 (.int .i64 0)).set0 5 (.int .i64 x2)).set0 6 (.slice none 0 0)).set0 7 (.slice none 0 0)
  exact ⟨x2,x3,x4,_,kb,fb,fv,fxs,kxs,rfl,rfl,T1⟩
end
section
noncomputable def kup_1_code:Code:=((Tryz.f27.body.bind (regAt 13)).getD .skip)
theorem kup_1 {bx:List Box} {rs:List Rw} {L:List (List Nat->World->Prop)} {K:MkK} {ks:List Knd} {n:Nat} {rb:Nat} {c0:Nat} {nm:ByteArray} {lo:Int} {hi:Int} {kb:Nat} {g:Nat} {z:Nat} {k:Knd} {nmo:ByteArray} {fb:Nat} {fs:List Fld} {len:Nat} {u14 u15 u16 u17 u18 u19 u20 u21 u22 u23 u24 u25 u26 u27 u28 u29 u30 u31 u32 u33 u34 u35 u36 u37 u38 u39 u40 u41 u42 u43 u44 u45 u46 u47 u48 u49 u50 u51 u52 u53 u54 u55 u56 u57 u58 u59 u60 u61 u62 u63 u64 u65 u66 u67 u68 u69 u70 u71 u72 u73 u74 u75 u76 u77 u78 u80 u81 u82 u83 u84 u85 u86 u87 u88 u89 u90 u91 u92 u93 u94 u95 u96 u97 u98 u99 u100 u101 u102 u103 u104 u105 u106 u107 u108 u109 u110 u111 u112 u113 u114 u115 u116 u117 u118 u119 u120 u121 u122 u123 u124 u125 u126 u127 u128 u129 u130 u131 u132 u133 u134 u135 u136 u137 u138 u139 u140 u141 u142 u143 u144 u145 u146 u147 u148 u149 u150 u151 u152 u153 u154 u155 u156 u157 u158 u159 u160 u161 u162 u163 u164 u165 u166 u167 u168 u169 u170 u171 u172 u173 u174 u175 u176 u177 u178 u179 u180 u181 u182 u183:Value} {ci:Nat} {wo:World} {M3:List Nat} {fv:Value} {fxs:List Value} {kxs:List Value} {cB:Nat} {b0:Nat} {o0:Nat} {nm2:ByteArray}  {J_ K_:Act->World->Prop} {Q_:Exit->Act->World->Prop} {cd_:Code} (hcd_:cd_=kup_1_code) (_hn2:n<=2) (_lo0:(0:Int)<=lo) (_lo4:lo<=(4:Int)) (_hi1:lo<=hi) (_hi2:hi<=lo+(4:Int)) (hn0:0 < n) (_hzk:z < ks.length) (_s4:nmo.size<=9223372036854775807) (_hnmo:k.fst=nmo) (HFL:Hid (fs.length<=2)) (k1:(↑z:Int) < (↑n:Int)) (k0:(0:Int)<=(↑z:Int)) (hci:ci < (Sc.flds k).length) (_c1:(-1:Int)<=(↑ci:Int)) (hc0:(0:Int)<=(↑ci:Int)) (_hb:True->(0:Int)<=(↑ci:Int)) (HQ3:Hid (kxs[z*4+3]?=some (Value.slice (some (Addr.mk (b0) (o0) none)) len cB))) (H: Hid (MkH K M3 ((kb,(49:TypeId),#[Value.string nm,Value.int IntKind.i64 lo,Value.int IntKind.i64 hi,fv])::(rb,(49:TypeId),#[Value.string { data:=#[] },Value.int IntKind.i64 (0:Int),Value.int IntKind.i64 (0:Int),Value.slice none 0 0])::bx) ({ e:=(52:TypeId),size:=8,v:=fv,n:=fs.length,xs:=fxs }::{ e:=(49:TypeId),size:=4,v:=Value.slice (some (Addr.mk (g) (0) none)) n c0,n:=n,xs:=kxs }::rs) ((fun M W=>SlAt M W (some (Addr.mk (b0) (o0) none)) (Sc.flds k))::(fun M W=>Flat M W fs fxs)::(fun M W=>Flat M W ks kxs)::L) wo)) (HCP:Hid (Sc.copyable (Sc.flds k)[ci]=true)) (_hcl:ci < len) (k2:(↑ci:Int) < (↑len:Int)) (s6:nm2.size<=9223372036854775807) (HN2:Hid (Sc.nm (Sc.flds k)[ci]=nm2))
  (hJ_:∀ (a':Act) (w':World),(∃ u14 u15 u16 u17 u18 u19 u20 u21 u22 u23 u24 u25 u26 u27 u28 u29 u30 u31 u32 u33 u34 u35 u36 u37 u38 u39 u40 u41 u42 u43 u44 u45 u46 u47 u48 u49 u50 u51 u52 u53 u54 u55 u56 u57 u58 u59 u60 u61 u62 u63 u64 u65 u66 u67 u68 u69 u70 u71 u72 u73 u74 u75 u76 u77 u78 u79 u80 u81 u82 u83 u84 u85 u86 u87 u88 u89 u90 u91 u92 u93 u94 u95 u96 u97 u98 u99 u100 u101 u102 u103 u104 u105 u106 u107 u108 u109 u110 u111 u112 u113 u114 u115 u116 u117 u118 u119 u120 u121 u122 u123 u124 u125 u126 u127 u128 u129 u130 u131 u132 u133 u134 u135 u136 u137 u138 u139 u140 u141 u142 u143 u144 u145 u146 u147 u148 u149 u150 u151 u152 u153 u154 u155 u156 u157 u158 u159 u160 u161 u162 u163 u164 u165 u166 u167 u168 u169 u170 u171 u172 u173 u174 u175 u176 u177 u178 u179 u180 u181 u182 u183,((∃ same,Sg.Same k same/\KSt K bx rs L rb n (Value.slice (some (Addr.mk (g) (0) none)) n c0) (Value.pointer (some (Addr.mk (kb) (0) none))) nm lo hi (fs++same) ks w'))/\a'=⟨(K.p::(Value.slice (some (Addr.mk (g) (0) none)) n c0)::undef::undef::(Value.pointer (some (Addr.mk (rb) (0) none)))::(Value.int IntKind.i64 (↑n:Int))::(Value.int IntKind.i64 lo)::(Value.pointer (some (Addr.mk (kb) (0) none)))::(Value.int IntKind.i64 (↑z:Int))::(Value.pointer (some (Addr.mk (fb) (0) none)))::(Value.int IntKind.i64 (↑ci:Int))::undef::undef::undef::u14::u15::u16::u17::u18::u19::u20::u21::u22::u23::u24::u25::u26::u27::u28::u29::u30::u31::u32::u33::u34::u35::u36::u37::u38::u39::u40::u41::u42::u43::u44::u45::u46::u47::u48::u49::u50::u51::u52::u53::u54::u55::u56::u57::u58::u59::u60::u61::u62::u63::u64::u65::u66::u67::u68::u69::u70::u71::u72::u73::u74::u75::u76::u77::u78::u79::u80::u81::u82::u83::u84::u85::u86::u87::u88::u89::u90::u91::u92::u93::u94::u95::u96::u97::u98::u99::u100::u101::u102::u103::u104::u105::u106::u107::u108::u109::u110::u111::u112::u113::u114::u115::u116::u117::u118::u119::u120::u121::u122::u123::u124::u125::u126::u127::u128::u129::u130::u131::u132::u133::u134::u135::u136::u137::u138::u139::u140::u141::u142::u143::u144::u145::u146::u147::u148::u149::u150::u151::u152::u153::u154::u155::u156::u157::u158::u159::u160::u161::u162::u163::u164::u165::u166::u167::u168::u169::u170::u171::u172::u173::u174::u175::u176::u177::u178::u179::u180::u181::u182::u183::[]).toArray,[]⟩)->J_ a' w') (hM_:∀ (a':Act) (w':World),Met J_ a' w'->K_ a' w') :
  Code.wp Tryz.prog cd_ (Exit.then K_ Q_) ⟨(K.p::(Value.slice (some (Addr.mk (g) (0) none)) n c0)::undef::undef::(Value.pointer (some (Addr.mk (rb) (0) none)))::(Value.int IntKind.i64 (↑n:Int))::(Value.int IntKind.i64 lo)::(Value.pointer (some (Addr.mk (kb) (0) none)))::(Value.int IntKind.i64 (↑z:Int))::(Value.pointer (some (Addr.mk (fb) (0) none)))::(Value.int IntKind.i64 (↑ci:Int))::undef::undef::undef::u14::u15::u16::u17::u18::u19::u20::u21::u22::u23::u24::u25::u26::u27::u28::u29::u30::u31::u32::u33::u34::u35::u36::u37::u38::u39::u40::u41::u42::u43::u44::u45::u46::u47::u48::u49::u50::u51::u52::u53::u54::u55::u56::u57::u58::u59::u60::u61::u62::u63::u64::u65::u66::u67::u68::u69::u70::u71::u72::u73::u74::u75::u76::u77::u78::(Value.bool true)::u80::u81::u82::u83::u84::u85::u86::u87::u88::u89::u90::u91::u92::u93::u94::u95::u96::u97::u98::u99::u100::u101::u102::u103::u104::u105::u106::u107::u108::u109::u110::u111::u112::u113::u114::u115::u116::u117::u118::u119::u120::u121::u122::u123::u124::u125::u126::u127::u128::u129::u130::u131::u132::u133::u134::u135::u136::u137::u138::u139::u140::u141::u142::u143::u144::u145::u146::u147::u148::u149::u150::u151::u152::u153::u154::u155::u156::u157::u158::u159::u160::u161::u162::u163::u164::u165::u166::u167::u168::u169::u170::u171::u172::u173::u174::u175::u176::u177::u178::u179::u180::u181::u182::u183::[]).toArray,[]⟩ wo:=by
 subst hcd_
 conv=>arg 2;whnf
 letI:Grow:=K.grow
 apply RG.wp_region_typed (C:=fun w'=>K.R wo w') (n:=184) (m:=13) (l1:=[_,_,_,_,_,_,_,_,_,_,_,_,_]) (l2:=[_,_,_])
 ·rfl
 ·rfl
 ·kernel_rfl
 ·rfl
 ·kernel_rfl
 ·exact K.drew wo
 ·exact fun u u' h hb=>h.trans hb
 (apply RG.wpT_exact;· (intro w' hC hf;unfold RG.Gives;clear hf hC;go_wp2_with (fail);apply RG.postT_val rfl (Grow.refl _);simp only [RG.valAt,aV];exact rfl));(try simp only [Act.put,aZ])
 (apply RG.wpT_exact;· (intro w' hC hf;unfold RG.Gives;have q:=(H.out.turn hC).box (.head _);have q3:=q.cell 3;(simp at q3);clear q;clear hf hC;go_wp2_with (fail);apply RG.postT_val rfl (Grow.refl _);simp only [RG.valAt,aV];exact rfl));(try simp only [Act.put,aZ])
 iterate 4 ((apply RG.wpT_exact;· (intro w' hC hf;unfold RG.Gives;clear hf hC;go_wp2_with (fail);apply RG.postT_val rfl (Grow.refl _);simp only [RG.valAt,aV];exact rfl));(try simp only [Act.put,aZ]))
 (apply RG.wpT_exact;· (intro w' hC hf;unfold RG.Gives;have q:=(H.out.turn hC).rcell (.tail _ (.head _)) hn0 HQ3.out;clear hf hC;go_wp2_with (fail);apply RG.postT_val rfl (Grow.refl _);simp only [RG.valAt,aV];exact rfl));(try simp only [Act.put,aZ])
 iterate 3 ((apply RG.wpT_exact;· (intro w' hC hf;unfold RG.Gives;clear hf hC;go_wp2_with (fail);apply RG.postT_val rfl (Grow.refl _);simp only [RG.valAt,aV];exact rfl));(try simp only [Act.put,aZ]))
 (apply RG.wpT_exact;· (intro w' hC hf;unfold RG.Gives;obtain ⟨b',o',_,_,_,_,hbo,_,q,_⟩:=fld_at ((H.out.turn hC).fact (.head _)) ci hci;rw [HN2.out] at q;(injection hbo with hbo;injection hbo with hb1 hb2;subst hb1;subst hb2);clear hf hC;go_wp2_with (fail);apply RG.postT_val rfl (Grow.refl _);simp only [RG.valAt,aV];exact rfl));(try simp only [Act.put,aZ])
 (apply RG.wpT_exact;· (intro w' hC hf;unfold RG.Gives;clear hf hC;go_wp2_with (fail);apply RG.postT_val rfl (Grow.refl _);simp only [RG.valAt,aV];exact rfl));(try simp only [Act.put,aZ])
 apply RG.wpT_typed (litT_kept K wo.heap.size 1 52 (fun cs=>cs=#[.string Sg.bsame,.string nm2,.string Sg.bof,.int .i64 8,.int .i64 0,.int .i64 0,.slice none 0 0,.slice none 0 0]) H.out.gmLt)
 ·intro w' hC hf;unfold RG.Gives;clear hf
  have hs:=aI (K.size hC)
  clear hC
  go_wp2_with fail
  refine RG.postT_mk rfl (K.grown (by go_grown)) ?_;simp only [RG.valAt,aV]
  exact ⟨_,_,rfl,rfl,hs.out,Blk.new _ _ _⟩
 intro v92;(try simp only [Act.put,aZ])
 apply RG.wpT_done
 intro w4 hC hall
 obtain ⟨cs,N2,rfl,rfl,hge,hblk⟩:=hall.1
 have T:=aI (H.out.turn hC)
 clear hall hC H this
 have hfl:(fs:List Fld).length<=8:=by have:=HFL.out;omega
 obtain ⟨i0,hI,hz0,hz1,hz2⟩:=info_parts infoFld
 refine wpList_append_mk (by rfl) _ _ 47 (by rfl) 52 i0 _ 8 120 Tryz.underlying47 hI hz0 hz1 hz2 rfl (by decide) T.out (by rfl) _ _ 1 1 [.string Sg.bsame,.string nm2,.string Sg.bof,.int .i64 8,.int .i64 0,.int .i64 0,.slice none 0 0,.slice none 0 0] (by rfl) (reads_blk hblk rfl) (by simp [Value.oneCell']) (by unfold maxLen;omega) (by omega) ?_
 intro v5 w5 M5 h5 _
 obtain ⟨A5,c5,rfl⟩:=h5.form
 have hq:=h5.box (.head _);have f3:=hq.frozen 3;have q3:=hq.cell 3;(simp at q3);clear hq
 have T5:=aI (h5.fswap.putF (news:=[Sg.sameF nm2]) (Flat.single (fld_mk (by decide) s6 (by decide) (by unfold inI;omega) (by unfold inI;omega) (by unfold inI;omega) rep_nil rep_nil)))
 clear h5 hI hz0 hz1 hz2 hblk T hfl
 go_wp2_with fail
 go_meet
 case rel =>
  refine ⟨[Sg.sameF nm2],?_,KSt.mk1 T5.out.fswap.tail rfl⟩
  have:=Sg.Same.some (k:=k) ci hci HCP.out
  rw [HN2.out] at this
  exact this
noncomputable def kup_2_code:Code:=((Tryz.f27.body.bind (regAt 16)).getD .skip)
theorem kup_2 {bx:List Box} {rs:List Rw} {L:List (List Nat->World->Prop)} {K:MkK} {ks:List Knd} {n:Nat} {rb:Nat} {c0:Nat} {nm:ByteArray} {lo:Int} {hi:Int} {kb:Nat} {g:Nat} {z:Nat} {k:Knd} {nmo:ByteArray} {fb:Nat} {c:Int} {fs2:List Fld} {u14 u15 u16 u17 u18 u19 u20 u21 u22 u23 u24 u25 u26 u27 u28 u29 u30 u31 u32 u33 u34 u35 u36 u37 u38 u39 u40 u41 u42 u43 u44 u45 u46 u47 u48 u49 u50 u51 u52 u53 u54 u55 u56 u57 u58 u59 u60 u61 u62 u63 u64 u65 u66 u67 u68 u69 u70 u71 u72 u73 u74 u75 u76 u77 u78 u79 u80 u81 u82 u83 u84 u85 u86 u87 u88 u89 u90 u91 u92 u93 u94 u95 u96 u97 u98 u99 u100 u101 u102 u103 u104 u105 u109 u110 u111 u112 u113 u114 u115 u116 u117 u118 u119 u120 u121 u122 u123 u124 u125 u126 u127 u128 u129 u130 u131 u132 u133 u134 u135 u136 u137 u138 u139 u140 u141 u142 u143 u144 u145 u146 u147 u148 u149 u150 u151 u152 u153 u154 u155 u156 u157 u158 u159 u160 u161 u162 u163 u164 u165 u166 u167 u168 u169 u170 u171 u172 u173 u174 u175 u176 u177 u178 u179 u180 u181 u182 u183:Value} {M3:List Nat} {fv:Value} {fxs:List Value} {kxs:List Value} {ls:Nat} {wo:World}  {J_ K_:Act->World->Prop} {Q_:Exit->Act->World->Prop} {cd_:Code} (hcd_:cd_=kup_2_code) (_hn2:n<=2) (_lo0:(0:Int)<=lo) (_lo4:lo<=(4:Int)) (_hi1:lo<=hi) (_hi2:hi<=lo+(4:Int)) (_hn0:0 < n) (_hzk:z < ks.length) (_s4:nmo.size<=9223372036854775807) (_hnmo:k.fst=nmo) (_c1:(-1:Int)<=c) (_k1:(↑z:Int) < (↑n:Int)) (_k0:(0:Int)<=(↑z:Int)) (HFL2:Hid (fs2.length<=3)) (v1:(0:Int)<=(↑ls:Int)) (v2:(↑ls:Int) < (3:Int)) (H: Hid (MkH K M3 ((kb,(49:TypeId),#[Value.string nm,Value.int IntKind.i64 lo,Value.int IntKind.i64 hi,fv])::(rb,(49:TypeId),#[Value.string { data:=#[] },Value.int IntKind.i64 (0:Int),Value.int IntKind.i64 (0:Int),Value.slice none 0 0])::bx) ({ e:=(52:TypeId),size:=8,v:=fv,n:=fs2.length,xs:=fxs }::{ e:=(49:TypeId),size:=4,v:=Value.slice (some (Addr.mk (g) (0) none)) n c0,n:=n,xs:=kxs }::rs) ((fun M W=>Flat M W fs2 fxs)::(fun M W=>Flat M W ks kxs)::L) wo))
  (hJ_:∀ (a':Act) (w':World),(∃ u14 u15 u16 u17 u18 u19 u20 u21 u22 u23 u24 u25 u26 u27 u28 u29 u30 u31 u32 u33 u34 u35 u36 u37 u38 u39 u40 u41 u42 u43 u44 u45 u46 u47 u48 u49 u50 u51 u52 u53 u54 u55 u56 u57 u58 u59 u60 u61 u62 u63 u64 u65 u66 u67 u68 u69 u70 u71 u72 u73 u74 u75 u76 u77 u78 u79 u80 u81 u82 u83 u84 u85 u86 u87 u88 u89 u90 u91 u92 u93 u94 u95 u96 u97 u98 u99 u100 u101 u102 u103 u104 u105 u106 u107 u108 u109 u110 u111 u112 u113 u114 u115 u116 u117 u118 u119 u120 u121 u122 u123 u124 u125 u126 u127 u128 u129 u130 u131 u132 u133 u134 u135 u136 u137 u138 u139 u140 u141 u142 u143 u144 u145 u146 u147 u148 u149 u150 u151 u152 u153 u154 u155 u156 u157 u158 u159 u160 u161 u162 u163 u164 u165 u166 u167 u168 u169 u170 u171 u172 u173 u174 u175 u176 u177 u178 u179 u180 u181 u182 u183,((∃ d:Nat,d < 8/\KSt K bx rs L rb n (Value.slice (some (Addr.mk (g) (0) none)) n c0) (Value.pointer (some (Addr.mk (kb) (0) none))) nm lo hi (fs2++[Sg.partF (↑ls:Int) ((↑ls:Int)+(↑d:Int))]) ks w'))/\a'=⟨(K.p::(Value.slice (some (Addr.mk (g) (0) none)) n c0)::undef::undef::(Value.pointer (some (Addr.mk (rb) (0) none)))::(Value.int IntKind.i64 (↑n:Int))::(Value.int IntKind.i64 lo)::(Value.pointer (some (Addr.mk (kb) (0) none)))::(Value.int IntKind.i64 (↑z:Int))::(Value.pointer (some (Addr.mk (fb) (0) none)))::(Value.int IntKind.i64 c)::(Value.int IntKind.i64 (↑ls:Int))::undef::undef::u14::u15::u16::u17::u18::u19::u20::u21::u22::u23::u24::u25::u26::u27::u28::u29::u30::u31::u32::u33::u34::u35::u36::u37::u38::u39::u40::u41::u42::u43::u44::u45::u46::u47::u48::u49::u50::u51::u52::u53::u54::u55::u56::u57::u58::u59::u60::u61::u62::u63::u64::u65::u66::u67::u68::u69::u70::u71::u72::u73::u74::u75::u76::u77::u78::u79::u80::u81::u82::u83::u84::u85::u86::u87::u88::u89::u90::u91::u92::u93::u94::u95::u96::u97::u98::u99::u100::u101::u102::u103::u104::u105::u106::u107::u108::u109::u110::u111::u112::u113::u114::u115::u116::u117::u118::u119::u120::u121::u122::u123::u124::u125::u126::u127::u128::u129::u130::u131::u132::u133::u134::u135::u136::u137::u138::u139::u140::u141::u142::u143::u144::u145::u146::u147::u148::u149::u150::u151::u152::u153::u154::u155::u156::u157::u158::u159::u160::u161::u162::u163::u164::u165::u166::u167::u168::u169::u170::u171::u172::u173::u174::u175::u176::u177::u178::u179::u180::u181::u182::u183::[]).toArray,[]⟩)->J_ a' w') (hM_:∀ (a':Act) (w':World),Met J_ a' w'->K_ a' w') :
  Code.wp Tryz.prog cd_ (Exit.then K_ Q_) ⟨(K.p::(Value.slice (some (Addr.mk (g) (0) none)) n c0)::undef::undef::(Value.pointer (some (Addr.mk (rb) (0) none)))::(Value.int IntKind.i64 (↑n:Int))::(Value.int IntKind.i64 lo)::(Value.pointer (some (Addr.mk (kb) (0) none)))::(Value.int IntKind.i64 (↑z:Int))::(Value.pointer (some (Addr.mk (fb) (0) none)))::(Value.int IntKind.i64 c)::(Value.int IntKind.i64 (↑ls:Int))::undef::undef::u14::u15::u16::u17::u18::u19::u20::u21::u22::u23::u24::u25::u26::u27::u28::u29::u30::u31::u32::u33::u34::u35::u36::u37::u38::u39::u40::u41::u42::u43::u44::u45::u46::u47::u48::u49::u50::u51::u52::u53::u54::u55::u56::u57::u58::u59::u60::u61::u62::u63::u64::u65::u66::u67::u68::u69::u70::u71::u72::u73::u74::u75::u76::u77::u78::u79::u80::u81::u82::u83::u84::u85::u86::u87::u88::u89::u90::u91::u92::u93::u94::u95::u96::u97::u98::u99::u100::u101::u102::u103::u104::u105::(Value.bool true)::K.p::(Value.int IntKind.i64 (↑ls:Int))::u109::u110::u111::u112::u113::u114::u115::u116::u117::u118::u119::u120::u121::u122::u123::u124::u125::u126::u127::u128::u129::u130::u131::u132::u133::u134::u135::u136::u137::u138::u139::u140::u141::u142::u143::u144::u145::u146::u147::u148::u149::u150::u151::u152::u153::u154::u155::u156::u157::u158::u159::u160::u161::u162::u163::u164::u165::u166::u167::u168::u169::u170::u171::u172::u173::u174::u175::u176::u177::u178::u179::u180::u181::u182::u183::[]).toArray,[]⟩ wo:=by
 subst hcd_
 conv=>arg 2;whnf
 letI:Grow:=K.grow
 apply RG.wp_region_typed (C:=fun w'=>K.R wo w') (n:=184) (m:=9) (l1:=[_,_,_,_,_,_,_,_,_]) (l2:=[_,_,_])
 ·rfl
 ·rfl
 ·kernel_rfl
 ·rfl
 ·kernel_rfl
 ·exact K.drew wo
 ·exact fun u u' h hb=>h.trans hb
 iterate 2 ((apply RG.wpT_exact;· (intro w' hC hf;unfold RG.Gives;have q:=(H.out.turn hC).box (.head _);have q3:=q.cell 3;(simp at q3);clear q;clear hf hC;go_wp2_with (fail);apply RG.postT_val rfl (Grow.refl _);simp only [RG.valAt,aV];exact rfl));(try simp only [Act.put,aZ]))
 iterate 3 ((apply RG.wpT_exact;· (intro w' hC hf;unfold RG.Gives;clear hf hC;go_wp2_with (fail);apply RG.postT_val rfl (Grow.refl _);simp only [RG.valAt,aV];exact rfl));(try simp only [Act.put,aZ]))
 apply RG.wpT_typed (T:=fun v _=>∃ z:Nat,v=.int .i64 (z:Int)/\z < 8) (fun v w w' h _=>h)
 ·intro w' hC hf;unfold RG.Gives;clear hf
  go_wp2_with fail
  go_at_call 26
  refine ((H.out.turn hC).take 8 (by omega) (by omega)).mono ?_
  rintro e w3 ⟨v,rfl,v1,v2,hr⟩
  obtain ⟨z,rfl⟩:∃ z':Nat,v=z':=⟨v.toNat,by omega⟩
  go_wp2_with fail
  refine RG.postT_mk rfl hr ?_;simp only [RG.valAt,aV];exact ⟨z,rfl,by omega⟩
 intro v114;(try simp only [Act.put,aZ])
 apply RG.wpT_typed (T:=fun v _=>∃ d:Nat,v=.int .i64 (ls+d)/\d < 8) (fun v w w' h _=>h)
 ·intro w' hC hf;unfold RG.Gives;obtain ⟨d,rfl,d1⟩:=hf.1 rfl;clear hC;clear hf
  go_wp2_with fail
  refine RG.postT_mk rfl (Grow.refl _) ?_;simp only [RG.valAt,aV];exact ⟨d,rfl,d1⟩
 intro v115;(try simp only [Act.put,aZ])
 apply RG.wpT_typed (T:=fun v _=>∃ d:Nat,v=.agg #[.string Sg.bpart,.string Sg.btotal,.string Sg.bof,.int .i64 7,.int .i64 ls,.int .i64 (ls+d),.slice none 0 0,.slice none 0 0]/\d < 8) (fun v w w' h _=>h)
 ·intro w' hC hf;unfold RG.Gives;obtain ⟨d,rfl,d1⟩:=hf.1 rfl;clear hC;clear hf
  go_wp2_with fail
  refine RG.postT_mk rfl (Grow.refl _) ?_;simp only [RG.valAt,aV];exact ⟨d,rfl,d1⟩
 intro v116;(try simp only [Act.put,aZ])
 apply RG.wpT_typed (litT_kept K wo.heap.size 1 52 (fun cs=>∃ d:Nat,cs=#[.string Sg.bpart,.string Sg.btotal,.string Sg.bof,.int .i64 7,.int .i64 ls,.int .i64 (ls+d),.slice none 0 0,.slice none 0 0]/\d < 8) H.out.gmLt)
 ·intro w' hC hf;unfold RG.Gives;obtain ⟨d,rfl,d1⟩:=hf.1 rfl;clear hf
  have hs:=aI (K.size hC)
  clear hC
  go_wp2_with fail
  refine RG.postT_mk rfl (K.grown (by go_grown)) ?_;simp only [RG.valAt,aV]
  exact ⟨_,_,rfl,⟨d,rfl,d1⟩,hs.out,Blk.new _ _ _⟩
 intro v117;(try simp only [Act.put,aZ])
 apply RG.wpT_done
 intro w4 hC hall
 obtain ⟨cs,N2,rfl,⟨d,rfl,hd8⟩,hge,hblk⟩:=hall.1
 have T:=aI (H.out.turn hC)
 clear hall hC H this
 have hfl:(fs2:List Fld).length<=8:=by have:=HFL2.out;omega
 obtain ⟨i0,hI,hz0,hz1,hz2⟩:=info_parts infoFld
 refine wpList_append_mk (by rfl) _ _ 47 (by rfl) 52 i0 _ 8 120 Tryz.underlying47 hI hz0 hz1 hz2 rfl (by decide) T.out (by rfl) _ _ 1 1 [.string Sg.bpart,.string Sg.btotal,.string Sg.bof,.int .i64 7,.int .i64 ls,.int .i64 (ls+d),.slice none 0 0,.slice none 0 0] (by rfl) (reads_blk hblk rfl) (by simp [Value.oneCell']) (by unfold maxLen;omega) (by omega) ?_
 intro v5 w5 M5 h5 _
 obtain ⟨A5,c5,rfl⟩:=h5.form
 have hq:=h5.box (.head _);have f3:=hq.frozen 3;have q3:=hq.cell 3;(simp at q3);clear hq
 have T5:=aI (h5.putF (news:=[Sg.partF ls (ls+d)]) (Flat.single (fld_mk (by decide) (by decide) (by decide) (by unfold inI;omega) (by unfold inI;omega) (by unfold inI;omega) rep_nil rep_nil)))
 clear h5 hI hz0 hz1 hz2 hblk T hfl
 go_wp2_with fail
 go_meet
 case rel=>exact ⟨d,hd8,KSt.mk1 T5.out rfl⟩
noncomputable def kup_3_code:Code:=((Tryz.f27.body.bind (regAt 17)).getD .skip)
theorem kup_3 {bx:List Box} {rs:List Rw} {L:List (List Nat->World->Prop)} {K:MkK} {ks:List Knd} {n:Nat} {rb:Nat} {c0:Nat} {nm:ByteArray} {lo:Int} {hi:Int} {kb:Nat} {g:Nat} {z:Nat} {k:Knd} {nmo:ByteArray} {fb:Nat} {len:Nat} {c:Int} {fs2:List Fld} {ls:Nat} {u14 u15 u16 u17 u18 u19 u20 u21 u22 u23 u24 u25 u26 u27 u28 u29 u30 u31 u32 u33 u34 u35 u36 u37 u38 u39 u40 u41 u42 u43 u44 u45 u46 u47 u48 u49 u50 u51 u52 u53 u54 u55 u56 u57 u58 u59 u60 u61 u62 u63 u64 u65 u66 u67 u68 u69 u70 u71 u72 u73 u74 u75 u76 u77 u78 u79 u80 u81 u82 u83 u84 u85 u86 u87 u88 u89 u90 u91 u92 u93 u94 u95 u96 u97 u98 u99 u100 u101 u102 u103 u104 u105 u106 u107 u108 u109 u110 u111 u112 u113 u114 u115 u116 u117 u118 u119 u120 u121 u122 u123 u124 u125 u126 u127 u128 u129 u130 u131 u132 u133 u134 u135 u136 u137 u138 u139 u140 u141 u142 u143 u144 u145 u146 u147 u148 u149 u150 u151 u152 u153 u154 u155 u156 u157 u158 u159 u160 u161 u162 u163 u164 u165 u166 u167 u168 u169 u170 u171 u172 u173 u174 u175 u176 u177 u178 u179 u180 u181 u182 u183:Value} {d:Nat} {wo:World} {fs5:List Fld} {M3:List Nat} {fv:Value} {fxs:List Value} {kxs:List Value} {cB:Nat} {b0:Nat} {o0:Nat} {xs0:List Value} {i0:TypeInfo}  {J_ K_:Act->World->Prop} {Q_:Exit->Act->World->Prop} {cd_:Code} (hcd_:cd_=kup_3_code) (_hn2:n<=2) (HN:Hid (n=ks.length)) (HNM0:Hid (nm.size<=9223372036854775807)) (_lo0:(0:Int)<=lo) (_lo4:lo<=(4:Int)) (_hi1:lo<=hi) (_hi2:hi<=lo+(4:Int)) (hn0:0 < n) (hzk:z < ks.length) (HKZ:Hid (ks[z]=k)) (_s4:nmo.size<=9223372036854775807) (_hnmo:k.fst=nmo) (HLEN:Hid ((Sc.flds k).length=len)) (_c1:(-1:Int)<=c) (k1:(↑z:Int) < (↑n:Int)) (k0:(0:Int)<=(↑z:Int)) (HR0:Hid (Sc.ix (Sc.named Sg.btotal) (Sc.flds k) < (0:Int))) (v1:(0:Int)<=(↑ls:Int)) (v2:(↑ls:Int) < (3:Int)) (hd:d < 8) (HFS5:Hid (fs2++[Sg.partF (↑ls:Int) ((↑ls:Int)+(↑d:Int))]=fs5)) (_s2:len<=cB) (hl1:1<=len/\len<=20) (HQ3:Hid (kxs[z*4+3]?=some (Value.slice (some (Addr.mk (b0) (o0) none)) len cB))) (HXC: Hid (∀ (w':World),Chg M3 wo w'->∀ (j:Nat) (u:Value),xs0[j]?=some u->w'.cell? ((Addr.mk (b0) (o0) none).add j)=some u)) (HXF:Hid (Flat M3 wo (Sc.flds k) xs0)) (HXL:Hid (xs0.length=len*8)) (H: Hid (MkH K M3 ((kb,(49:TypeId),#[Value.string nm,Value.int IntKind.i64 lo,Value.int IntKind.i64 hi,fv])::(rb,(49:TypeId),#[Value.string { data:=#[] },Value.int IntKind.i64 (0:Int),Value.int IntKind.i64 (0:Int),Value.slice none 0 0])::bx) ({ e:=(52:TypeId),size:=8,v:=fv,n:=fs5.length,xs:=fxs }::{ e:=(49:TypeId),size:=4,v:=Value.slice (some (Addr.mk (g) (0) none)) n c0,n:=n,xs:=kxs }::rs) ((fun M W=>Flat M W fs5 fxs)::(fun M W=>Flat M W ks kxs)::L) wo)) (HI: Hid (Tryz.prog.info? (52:TypeId)=some i0/\i0.zero=some (Value.agg #[Value.string { data:=#[] },Value.string { data:=#[] },Value.string { data:=#[] },Value.int IntKind.i64 (0:Int),Value.int IntKind.i64 (0:Int),Value.int IntKind.i64 (0:Int),Value.slice none 0 0,Value.slice none 0 0])/\i0.size=8/\i0.bytes=120)) (hb0:K.gm < wo.heap.size)
  (hJ_:∀ (a':Act) (w':World),(∃ u11 u14 u15 u16 u17 u18 u19 u20 u21 u22 u23 u24 u25 u26 u27 u28 u29 u30 u31 u32 u33 u34 u35 u36 u37 u38 u39 u40 u41 u42 u43 u44 u45 u46 u47 u48 u49 u50 u51 u52 u53 u54 u55 u56 u57 u58 u59 u60 u61 u62 u63 u64 u65 u66 u67 u68 u69 u70 u71 u72 u73 u74 u75 u76 u77 u78 u79 u80 u81 u82 u83 u84 u85 u86 u87 u88 u89 u90 u91 u92 u93 u94 u95 u96 u97 u98 u99 u100 u101 u102 u103 u104 u105 u106 u107 u108 u109 u110 u111 u112 u113 u114 u115 u116 u117 u118 u119 u120 u121 u122 u123 u124 u125 u126 u127 u128 u129 u130 u131 u132 u133 u134 u135 u136 u137 u138 u139 u140 u141 u142 u143 u144 u145 u146 u147 u148 u149 u150 u151 u152 u153 u154 u155 u156 u157 u158 u159 u160 u161 u162 u163 u164 u165 u166 u167 u168 u169 u170 u171 u172 u173 u174 u175 u176 u177 u178 u179 u180 u181 u182 u183,((∃ part ks',Sg.Part nm ks z hzk part ks'/\KSt K bx rs L rb n (Value.slice (some (Addr.mk (g) (0) none)) n c0) (Value.pointer (some (Addr.mk (kb) (0) none))) nm lo hi (fs2++part) ks' w'))/\a'=⟨(K.p::(Value.slice (some (Addr.mk (g) (0) none)) n c0)::undef::undef::(Value.pointer (some (Addr.mk (rb) (0) none)))::(Value.int IntKind.i64 (↑n:Int))::(Value.int IntKind.i64 lo)::(Value.pointer (some (Addr.mk (kb) (0) none)))::(Value.int IntKind.i64 (↑z:Int))::(Value.pointer (some (Addr.mk (fb) (0) none)))::(Value.int IntKind.i64 c)::u11::undef::undef::u14::u15::u16::u17::u18::u19::u20::u21::u22::u23::u24::u25::u26::u27::u28::u29::u30::u31::u32::u33::u34::u35::u36::u37::u38::u39::u40::u41::u42::u43::u44::u45::u46::u47::u48::u49::u50::u51::u52::u53::u54::u55::u56::u57::u58::u59::u60::u61::u62::u63::u64::u65::u66::u67::u68::u69::u70::u71::u72::u73::u74::u75::u76::u77::u78::u79::u80::u81::u82::u83::u84::u85::u86::u87::u88::u89::u90::u91::u92::u93::u94::u95::u96::u97::u98::u99::u100::u101::u102::u103::u104::u105::u106::u107::u108::u109::u110::u111::u112::u113::u114::u115::u116::u117::u118::u119::u120::u121::u122::u123::u124::u125::u126::u127::u128::u129::u130::u131::u132::u133::u134::u135::u136::u137::u138::u139::u140::u141::u142::u143::u144::u145::u146::u147::u148::u149::u150::u151::u152::u153::u154::u155::u156::u157::u158::u159::u160::u161::u162::u163::u164::u165::u166::u167::u168::u169::u170::u171::u172::u173::u174::u175::u176::u177::u178::u179::u180::u181::u182::u183::[]).toArray,[]⟩)->J_ a' w') (hM_:∀ (a':Act) (w':World),Met J_ a' w'->K_ a' w') :
  Code.wp Tryz.prog cd_ (Exit.then K_ Q_) ⟨(K.p::(Value.slice (some (Addr.mk (g) (0) none)) n c0)::undef::undef::(Value.pointer (some (Addr.mk (rb) (0) none)))::(Value.int IntKind.i64 (↑n:Int))::(Value.int IntKind.i64 lo)::(Value.pointer (some (Addr.mk (kb) (0) none)))::(Value.int IntKind.i64 (↑z:Int))::(Value.pointer (some (Addr.mk (fb) (0) none)))::(Value.int IntKind.i64 c)::(Value.int IntKind.i64 (↑ls:Int))::undef::undef::u14::u15::u16::u17::u18::u19::u20::u21::u22::u23::u24::u25::u26::u27::u28::u29::u30::u31::u32::u33::u34::u35::u36::u37::u38::u39::u40::u41::u42::u43::u44::u45::u46::u47::u48::u49::u50::u51::u52::u53::u54::u55::u56::u57::u58::u59::u60::u61::u62::u63::u64::u65::u66::u67::u68::u69::u70::u71::u72::u73::u74::u75::u76::u77::u78::u79::u80::u81::u82::u83::u84::u85::u86::u87::u88::u89::u90::u91::u92::u93::u94::u95::u96::u97::u98::u99::u100::u101::u102::u103::u104::u105::u106::u107::u108::u109::u110::u111::u112::u113::u114::u115::u116::u117::u118::u119::u120::u121::u122::u123::u124::u125::u126::u127::u128::u129::u130::u131::u132::u133::u134::u135::u136::u137::u138::u139::u140::u141::u142::u143::u144::u145::u146::u147::u148::u149::u150::u151::u152::u153::u154::u155::u156::u157::u158::u159::u160::u161::u162::u163::u164::u165::u166::u167::u168::u169::u170::u171::u172::u173::u174::u175::u176::u177::u178::u179::u180::u181::u182::u183::[]).toArray,[]⟩ wo:=by
 subst hcd_
 conv=>arg 2;whnf
 letI:Grow:=lateGrow K.gm (62:TypeId) K.sl wo.heap.size (52:TypeId) (len*8) (totC nm)
 apply RG.wp_region_typed (C:=fun w'=>LR K.gm 62 K.sl wo.heap.size 52 (len*8) (totC nm) wo w') (n:=184) (m:=16) (l1:=[_,_,_,_,_,_,_,_,_,_,_,_,_,_,_,_]) (l2:=[_])
 ·rfl
 ·rfl
 ·kernel_rfl
 ·rfl
 ·kernel_rfl
 ·exact LR.of_mk (K.drew wo)
 ·exact fun u u' h hb=>h.trans hb
 iterate 2 ((apply RG.wpT_exact;· (intro w' hC hf;unfold RG.Gives;clear hf hC;go_wp2_with (fail);apply RG.postT_val rfl (Grow.refl _);simp only [RG.valAt,aV];exact rfl));(try simp only [Act.put,aZ]))
 apply RG.wpT_typed (T:=fun v _=>∃ N:Nat,v=.slice (some ⟨N,0,none⟩) 0 0) (fun v w w' h _=>h)
 ·intro w' hC hf;unfold RG.Gives;clear hf hC
  go_wp2_with fail
  refine RG.postT_mk rfl (LR.below (by go_grown)) ?_;simp only [RG.valAt,aV];exact ⟨_,rfl⟩
 intro v122;(try simp only [Act.put,aZ])
 iterate 2 ((apply RG.wpT_exact;· (intro w' hC hf;unfold RG.Gives;clear hf hC;go_wp2_with (fail);apply RG.postT_val rfl (Grow.refl _);simp only [RG.valAt,aV];exact rfl));(try simp only [Act.put,aZ]))
 (apply RG.wpT_exact;· (intro w' hC hf;unfold RG.Gives;have k1:(z:Int) < (n:Int):=(by have:=HN.out;omega);clear hf hC;go_wp2_with (fail);apply RG.postT_val rfl (Grow.refl _);simp only [RG.valAt,aV];exact rfl));(try simp only [Act.put,aZ])
 (apply RG.wpT_exact;· (intro w' hC hf;unfold RG.Gives;clear hf hC;go_wp2_with (fail);apply RG.postT_val rfl (Grow.refl _);simp only [RG.valAt,aV];exact rfl));(try simp only [Act.put,aZ])
 (apply RG.wpT_exact;· (intro w' hC hf;unfold RG.Gives;have q:=(H.out.turn (LR.mk_ hC (ag _))).rcell (.tail _ (.head _)) hn0 HQ3.out;clear hf hC;go_wp2_with (fail);apply RG.postT_val rfl (Grow.refl _);simp only [RG.valAt,aV];exact rfl));(try simp only [Act.put,aZ])
 apply RG.wpT_typed (T:=RowN wo.heap.size 52 8 len xs0) (rowN_kept hb0 (fun j u h1 h2=>by have:=(List.getElem?_eq_some_iff.1 h2).1;have:=HXL.out;omega))
 ·intro w' hC hf;unfold RG.Gives;obtain ⟨N,rfl⟩:=hf.1 rfl;clear hf
  obtain ⟨hI,hz0,hz1,hz2⟩:=HI.out
  have hone:∀ u∈xs0,u.oneCell'=true:=HXF.out.one
  refine wpList_append_grows w' (by rfl) _ _ 47 (by rfl) 52 i0 _ 8 120 Tryz.underlying47 hI hz0 hz1 hz2 rfl (by decide) (some ⟨N,0,none⟩) 0 0 [] (by rfl) (fun h=>by cases h) rfl (fun b hb j u hu=>by simp at hu) ⟨b0,o0,none⟩ len cB xs0 (by rfl) HXL.out (HXC.out w' (H.out.chg (LR.mk_ hC (ag _)))) hone (by omega) (by unfold maxLen;omega) (by omega) ?_
  intro v' w2 k1 k2
  have hbl:Below w'.heap.size w' w2:=⟨k2.os,k2.tape,k2.output,k2.size,fun k hk=>k2.block k hk (by simp)⟩
  have hsz:=LR.size hC
  rw [Nat.zero_add,List.nil_append] at k1
  refine RG.postT_mk rfl (LR.below hbl) ?_;simp only [RG.valAt,aA];exact RowN.of_owns k1 (by omega) hsz
 intro v128;(try simp only [Act.put,aZ])
 (apply RG.wpT_exact;· (intro w' hC hf;unfold RG.Gives;clear hf hC;go_wp2_with (fail);apply RG.postT_val rfl (Grow.refl _);simp only [RG.valAt,aV];exact rfl));(try simp only [Act.put,aZ])
 (apply RG.wpT_exact;· (intro w' hC hf;unfold RG.Gives;have q:=(H.out.turn (LR.mk_ hC (ag _))).box (.head _);have q0:=q.cell 0;(simp at q0);clear q;clear hf hC;go_wp2_with (fail);apply RG.postT_val rfl (Grow.refl _);simp only [RG.valAt,aV];exact rfl));(try simp only [Act.put,aZ])
 (apply RG.wpT_exact;· (intro w' hC hf;unfold RG.Gives;clear hf hC;go_wp2_with (fail);apply RG.postT_val rfl (Grow.refl _);simp only [RG.valAt,aV];exact rfl));(try simp only [Act.put,aZ])
 apply RG.wpT_typed (T:=fun v w=>∃ N,v=.slice (some ⟨N,0,none⟩) 1 1/\wo.heap.size<=N/\Blk w N 52 (totC nm).toArray) (totLit_kept hb0 (by show 8<=_;omega))
 ·intro w' hC hf;unfold RG.Gives;clear hf
  have hs:=aI (LR.size hC)
  clear hC
  go_wp2_with fail
  refine RG.postT_mk rfl (LR.below (by go_grown)) ?_;simp only [RG.valAt,aV]
  exact ⟨_,rfl,hs.out,Blk.new _ _ _⟩
 intro v132;(try simp only [Act.put,aZ])
 apply RG.wpT_typed (T:=RowN wo.heap.size 52 8 (len+1) (xs0++totC nm)) (rowN_kept hb0 (fun j u h1 h2=>by rw [List.getElem?_append_right (by rw [HXL.out];exact h1),HXL.out] at h2;exact h2))
 ·intro w' hC hf;unfold RG.Gives;obtain ⟨N,rfl,hN,hblk⟩:=hf.1 rfl;have hrow:=hf.2.1 rfl;clear hf
  obtain ⟨hI,hz0,hz1,hz2⟩:=HI.out
  have hsz:=LR.size hC
  refine wpList_append_late (gm:=K.gm) (t:=62) (sl:=K.sl) (B0:=wo.heap.size) (n8:=len*8) (us:=totC nm) (by rfl) _ _ 47 (by rfl) i0 _ 8 120 Tryz.underlying47 hI hz0 hz1 hz2 rfl (by decide) hrow HXL.out (by omega) (by rfl) (by rfl) hblk rfl rfl (by simp [totC,Value.oneCell']) rfl hb0 hsz (by unfold maxLen;omega) (by omega) ?_
  intro v' w2 k1 k2
  refine RG.postT_mk rfl k2 ?_;simp only [RG.valAt,aA];exact k1
 intro v133;(try simp only [Act.put,aZ])
 (apply RG.wpT_exact;· (intro w' hC hf;unfold RG.Gives;have k1:(z:Int) < (n:Int):=(by have:=HN.out;omega);clear hf hC;go_wp2_with (fail);apply RG.postT_val rfl (Grow.refl _);simp only [RG.valAt,aV];exact rfl));(try simp only [Act.put,aZ])
 (apply RG.wpT_exact;· (intro w' hC hf;unfold RG.Gives;clear hf hC;go_wp2_with (fail);apply RG.postT_val rfl (Grow.refl _);simp only [RG.valAt,aV];exact rfl));(try simp only [Act.put,aZ])
 apply RG.wpT_done
 intro w4 hC hall
 obtain ⟨g13,cap13,cur13,rfl,hg13,hb13,hc13,hm13,hsz13,hcur⟩:=hall.1
 have hT:=H.out.turn (LR.mk_ hC (ag _))
 have hch:=H.out.chg (LR.mk_ hC (ag _))
 have hnM:g13∉M3:=fun hm=>by have:=H.out.mb _ hm;omega
 have hfl:Flat M3 w4 (Sc.flds k++[Sg.totalF nm]) (xs0++totC nm):=(HXF.out.keep hch).append (Flat.single (fld_mk (by decide) HNM0.out (by decide) (by unfold inI;omega) (by unfold inI;omega) (by unfold inI;omega) rep_nil rep_nil))
 have hsl:SlAt M3 w4 (some ⟨g13,0,none⟩) (Sc.flds k++[Sg.totalF nm]):=SlAt.of_cells hfl hb13.lt hnM fun j u hu=>by
  rw [hb13.cell]
  have hj:=(List.getElem?_eq_some_iff.1 hu).1
  rw [<-hcur,List.getElem?_take] at hu
  split at hu
  ·rw [Array.getElem?_toList] at hu;exact hu
  ·cases hu
 have f3:=hT.rfroz (.tail _ (.head _)) hn0 (z*4+3)
 have q3:=hT.rcell (.tail _ (.head _)) hn0 HQ3.out
 have T:=aI (hT.add (keeps_sl _ _) hsl)
 have HC13:=aI (show len+1<=cap13/\cap13<=maxLen from ⟨hc13,hm13⟩)
 clear hall hC H hT hch hnM hfl hsl hb13 hcur hsz13 hg13 hc13 hm13 hb0 this HI HXF HXC HXL
 go_wp2_with fail
 go_meet
 case rel =>
  refine ⟨[Sg.partF ls (ls+d)],ks.set z (Sg.setF k (Sc.flds k++[Sg.totalF nm])),?_,?_⟩
  ·have:=Sg.Part.some (nm:=nm) (ks:=ks) (tq:=z) (h:=hzk) ls d (by omega) (by omega) (by omega) (by omega) (by rw [HKZ.out];exact HR0.out)
   rw [HKZ.out] at this
   exact this
  ·rw [HFS5.out]
   have T3:=((T.out.perm (List.Perm.swap _ _ _)).setRow (.slice (some ⟨g13,0,none⟩) (len+1) cap13) (k:=z*4+3) (by omega)).perm (List.Perm.swap _ _ _)
   have hrep:Rep M3 _ (Sc.flds k++[Sg.totalF nm]) (.slice (some ⟨g13,0,none⟩) (len+1) cap13):=⟨_,cap13,by rw [aK,HLEN.out];rfl,by rw [aK,HLEN.out];exact HC13.out.1,by have:=HC13.out.2;unfold maxLen at this;omega,T3.fact (.head _)⟩
   have hk':=flat_setF (T3.fact (.tail _ (.tail _ (.head _)))) z hzk hrep
   rw [HKZ.out] at hk'
   exact ⟨_,kb,fv,fxs,_,rfl,(T3.add (keeps_flat _ _) hk').fswap.tail.fswap.drop3⟩
theorem kind_up {bx:List Box} {rs:List Rw} {L:List (List Nat->World->Prop)} {K:MkK} {ks:List Knd} {n rb c0:Nat} {A0:Option Addr} {nm:ByteArray} {lo hi x:Int} {wc:World} {u7 u14 u15 u16 u17 u18 u19 u20 u21 u22 u23 u24 u25 u26 u27 u28 u29 u30 u31 u32 u33 u34 u35 u36 u37 u38 u39 u40 u41 u44 u45 u46 u47 u48 u49 u50 u51 u52 u53 u54 u55 u56 u57 u58 u59 u60 u61 u62 u63 u64 u65 u66 u67 u68 u69 u70 u71 u72 u73 u74 u75 u76 u77 u78 u79 u80 u81 u82 u83 u84 u85 u86 u87 u88 u89 u90 u91 u92 u93 u94 u95 u96 u97 u98 u99 u100 u101 u102 u103 u104 u105 u106 u107 u108 u109 u110 u111 u112 u113 u114 u115 u116 u117 u118 u119 u120 u121 u122 u123 u124 u125 u126 u127 u128 u129 u130 u131 u132 u133 u134 u135 u136 u137 u138 u139 u140 u141 u142 u143 u144 u145 u146 u147 u148 u149 u150 u151 u152 u153 u154 u155 u156 u157 u158 u159 u160 u161 u162 u163 u164 u165 u166 u167 u168 u169 u170 u171 u172 u173 u174 u175 u176 u177 u178 u179 u180 u181 u182 u183:Value} {J K':Act->World->Prop} {Q':Exit->Act->World->Prop} {t:Bool}
  (ht:t=true) (hn2:n<=2) (HN:Hid (n=ks.length)) (HNE:Hid (∀ k∈ks,1<=(Sc.flds k).length/\(Sc.flds k).length<=20)) (HNM0:Hid (nm.size<=9223372036854775807)) (lo0:0<=lo) (lo4:lo<=4) (hi1:lo<=hi) (hi2:hi<=lo+4) (HX:Hid (Sg.okLo x)) (hn0:0 < n)
  (hk:KSt K bx rs L rb n (.slice A0 n c0) u7 nm lo hi [Sg.idF x] ks wc)
  (hJ:∀ (a':Act) (w':World),(∃ u8 u9 u10 u11 u14 u15 u16 u17 u18 u19 u20 u21 u22 u23 u24 u25 u26 u27 u28 u29 u30 u31 u32 u33 u34 u35 u36 u37 u38 u39 u40 u41 u42 u43 u44 u45 u46 u47 u48 u49 u50 u51 u52 u53 u54 u55 u56 u57 u58 u59 u60 u61 u62 u63 u64 u65 u66 u67 u68 u69 u70 u71 u72 u73 u74 u75 u76 u77 u78 u79 u80 u81 u82 u83 u84 u85 u86 u87 u88 u89 u90 u91 u92 u93 u94 u95 u96 u97 u98 u99 u100 u101 u102 u103 u104 u105 u106 u107 u108 u109 u110 u111 u112 u113 u114 u115 u116 u117 u118 u119 u120 u121 u122 u123 u124 u125 u126 u127 u128 u129 u130 u131 u132 u133 u134 u135 u136 u137 u138 u139 u140 u141 u142 u143 u144 u145 u146 u147 u148 u149 u150 u151 u152 u153 u154 u155 u156 u157 u158 u159 u160 u161 u162 u163 u164 u165 u166 u167 u168 u169 u170 u171 u172 u173 u174 u175 u176 u177 u178 u179 u180 u181 u182 u183,(∃ fs ks',Sg.Body nm ks fs ks'/\KSt K bx rs L rb n (.slice A0 n c0) u7 nm lo hi fs ks' w')/\a'=⟨(K.p::.slice A0 n c0::undef::undef::.pointer (some ⟨rb,0,none⟩)::.int .i64 n::.int .i64 lo::u7::u8::u9::u10::u11::undef::undef::u14::u15::u16::u17::u18::u19::u20::u21::u22::u23::u24::u25::u26::u27::u28::u29::u30::u31::u32::u33::u34::u35::u36::u37::u38::u39::u40::u41::u42::u43::u44::u45::u46::u47::u48::u49::u50::u51::u52::u53::u54::u55::u56::u57::u58::u59::u60::u61::u62::u63::u64::u65::u66::u67::u68::u69::u70::u71::u72::u73::u74::u75::u76::u77::u78::u79::u80::u81::u82::u83::u84::u85::u86::u87::u88::u89::u90::u91::u92::u93::u94::u95::u96::u97::u98::u99::u100::u101::u102::u103::u104::u105::u106::u107::u108::u109::u110::u111::u112::u113::u114::u115::u116::u117::u118::u119::u120::u121::u122::u123::u124::u125::u126::u127::u128::u129::u130::u131::u132::u133::u134::u135::u136::u137::u138::u139::u140::u141::u142::u143::u144::u145::u146::u147::u148::u149::u150::u151::u152::u153::u154::u155::u156::u157::u158::u159::u160::u161::u162::u163::u164::u165::u166::u167::u168::u169::u170::u171::u172::u173::u174::u175::u176::u177::u178::u179::u180::u181::u182::u183::[]).toArray,[]⟩)->J a' w')
  (hM:∀ (a':Act) (w':World),Met J a' w'->K' a' w') :
  Code.wp Tryz.prog upCode (Exit.then K' Q') ⟨(K.p::.slice A0 n c0::undef::undef::.pointer (some ⟨rb,0,none⟩)::.int .i64 n::.int .i64 lo::u7::undef::undef::undef::undef::undef::undef::u14::u15::u16::u17::u18::u19::u20::u21::u22::u23::u24::u25::u26::u27::u28::u29::u30::u31::u32::u33::u34::u35::u36::u37::u38::u39::u40::u41::.int .i64 n::.bool t::u44::u45::u46::u47::u48::u49::u50::u51::u52::u53::u54::u55::u56::u57::u58::u59::u60::u61::u62::u63::u64::u65::u66::u67::u68::u69::u70::u71::u72::u73::u74::u75::u76::u77::u78::u79::u80::u81::u82::u83::u84::u85::u86::u87::u88::u89::u90::u91::u92::u93::u94::u95::u96::u97::u98::u99::u100::u101::u102::u103::u104::u105::u106::u107::u108::u109::u110::u111::u112::u113::u114::u115::u116::u117::u118::u119::u120::u121::u122::u123::u124::u125::u126::u127::u128::u129::u130::u131::u132::u133::u134::u135::u136::u137::u138::u139::u140::u141::u142::u143::u144::u145::u146::u147::u148::u149::u150::u151::u152::u153::u154::u155::u156::u157::u158::u159::u160::u161::u162::u163::u164::u165::u166::u167::u168::u169::u170::u171::u172::u173::u174::u175::u176::u177::u178::u179::u180::u181::u182::u183::[]).toArray,[]⟩ wc:=by
 subst ht
 conv=>arg 2;whnf
 obtain ⟨M1,kb,fv,fxs,kxs,rfl,HK⟩:=hk
 obtain ⟨g,rfl⟩:=HK.rform (.tail _ (.head _)) hn0
 have H:=aI HK
 clear HK
 go_wp2_with fail
 go_at_call 26
 refine (H.out.take n (by omega) (by omega)).mono ?_
 rintro e w3 ⟨v,rfl,v1,v2,hr⟩
 obtain ⟨z,rfl⟩:∃ z':Nat,v=z':=⟨v.toNat,by omega⟩
 replace H:=aI (H.out.turn hr);clear hr
 have hzk:z < ks.length:=by rw [<-HN.out];omega
 obtain ⟨B,cB,g0,g1,g2,g3,s1,s2,s3,s4⟩:=flat_knd (H.out.fact (.tail _ (.head _))) z hzk
 obtain ⟨k,hkz⟩:=aX (ks[z])
 rw [hkz] at g0 g1 g2 g3 s1 s2 s4
 have HKZ:=aI hkz
 obtain ⟨nmo,hnmo⟩:=aX k.1
 rw [hnmo] at g0 s4
 have HQ0:=aI g0
 clear hkz g0 g1 g2 g3 s1 s2 s3
 go_wp2_with fail
 go_cut [9] from 14 (fun v9 w'=>∃ hi2:Int,2<=hi2/\hi2<=8/\KSt2 K bx rs L rb n (.slice (some ⟨g,0,none⟩) n c0) (.pointer (some ⟨kb,0,none⟩)) nm lo hi [Sg.idF x] ks v9 nmo 0 hi2 w')
 case first =>
  rename_i J_ K_ hJ_ hM_
  obtain ⟨wo,rfl⟩:=aY w3
  letI:Grow:=K.grow
  exact kup_0 (by kernel_rfl) hn2 lo0 lo4 hi1 hi2 hn0 v1 v2 hzk s4 hnmo HQ0 H hJ_ hM_
 case rest =>
  obtain ⟨hi2',h21,h22,hk2⟩:=hcut
  try clear hk
  clear H HQ0 v1 v2
  clear w3
  obtain ⟨M2,kb',fb,fv,fxs,kxs,e1,rfl,HK⟩:=hk2
  obtain rfl:kb=kb':=by injection e1 with e1;injection e1 with e1;injection e1
  clear e1
  have H:=aI HK
  clear HK
  go_wp2_with fail
  go_at_call 26
  refine (H.out.take 5 (by omega) (by omega)).mono ?_
  rintro e w3 ⟨v,rfl,v1,v2,hr⟩
  replace H:=aI (H.out.turn hr);clear hr
  go_upto_if 60 with fail
  go_cut [] from 14 (fun w'=>∃ flo:Int,0<=flo/\flo<=1/\KSt2 K bx rs L rb n (.slice (some ⟨g,0,none⟩) n c0) (.pointer (some ⟨kb,0,none⟩)) nm lo hi [Sg.idF x] ks (.pointer (some ⟨fb,0,none⟩)) nmo flo hi2' w')
  case first =>
   rename_i J_ K_ hJ_ hM_
   by_cases hv:v=0
   ·subst hv
    have q:=H.out.box (.head _);have f4:=q.frozen 4;have q4:=q.cell 4;(simp at q4);clear q
    go_wp2_with fail
    go_meet
    case rel=>exact ⟨1,by omega,by omega,_,kb,fb,fv,fxs,kxs,rfl,rfl,H.out.set0 4 (.int .i64 1)⟩
   ·have t1:(v == 0)=false:=by rw [beq_eq_false_iff_ne];exact hv
    go_wp2_with fail
    go_meet
    case rel=>exact ⟨0,by omega,by omega,_,kb,fb,fv,fxs,kxs,rfl,rfl,H.out⟩
  case rest =>
   obtain ⟨flo,hf1,hf2,hk2⟩:=hcut
   clear H v1 v2
   clear w3
   obtain ⟨M2,kb',fb',fv,fxs,kxs,e1,e2,HK⟩:=hk2
   obtain rfl:kb=kb':=by injection e1 with e1;injection e1 with e1;injection e1
   obtain rfl:fb=fb':=by injection e2 with e2;injection e2 with e2;injection e2
   clear e1 e2
   have H:=aI HK
   clear HK
   go_upto_region 10 with fail
   go_cut [] from 14 (fun w'=>KSt K bx rs L rb n (.slice (some ⟨g,0,none⟩) n c0) (.pointer (some ⟨kb,0,none⟩)) nm lo hi ([Sg.idF x]++[Sg.ofF nmo flo hi2']) ks w')
   case first =>
    rename_i J_ K_ hJ_ hM_
    have q:=H.out.box (.head _);obtain ⟨q0,q1,q2,q3,q4,q5,q6,q7⟩:=aN8 q.cell;(simp at q0 q1 q2 q3 q4 q5 q6 q7);clear q
    have q:=H.out.box (.tail _ (.head _));have r3:=q.cell 3;(simp at r3);clear q
    go_wp2_with (at_builtin;obtain ⟨i0,hI,hz0,hz1,hz2⟩:=info_parts infoFld;have hfl:([Sg.idF x]:List Fld).length<=8:=(by simp);refine wpList_append_mk (by rfl) _ _ 47 (by rfl) 52 i0 _ 8 120 Tryz.underlying47 hI hz0 hz1 hz2 rfl (by decide) (H.out.swap.below (aP _ _)) (by rfl) _ _ 1 1 [.string Sg.bof,.string nmo,.string Sg.be,.int .i64 1,.int .i64 flo,.int .i64 hi2',.slice none 0 0,.slice none 0 0] (by rfl) (reads_blk (Blk.new _ _ _) rfl) (by simp [Value.oneCell']) (by unfold maxLen;omega) (by omega) ?_;intro v5 w5 M5 h5 _;obtain ⟨A5,c5,rfl⟩:=h5.form;have hq:=h5.box (.head _);have f3:=hq.frozen 3;have q3:=hq.cell 3;(simp at q3);clear hq;have T5:=aI (h5.putF (news:=[Sg.ofF nmo flo hi2']) (Flat.single (fld_mk (by decide) s4 (by decide) (by unfold inI;omega) (by unfold inI;omega) (by unfold inI;omega) rep_nil rep_nil)));clear h5 hI hz0 hz1 hz2 hfl)
    go_meet
    case rel=>exact KSt.mk1 T5.out.swap.unbox rfl
   case rest =>
    have HB:=aI (show 0<=flo/\flo<=1/\2<=hi2'/\hi2'<=8 from ⟨hf1,hf2,h21,h22⟩)
    clear H
    obtain ⟨fs,hfs⟩:=aX ([Sg.idF x]++[Sg.ofF nmo flo hi2'])
    have HFS:=aI hfs
    have HFL:=aI (show fs.length<=2 by rw [<-hfs];simp)
    rw [hfs] at hcut
    clear hfs hf1 hf2 h21 h22
    obtain ⟨M2,kb',fv,fxs,kxs,e1,HK⟩:=hcut
    obtain rfl:kb=kb':=by injection e1 with e1;injection e1 with e1;injection e1
    clear e1
    obtain ⟨B,cB,g0,g1,g2,g3,s1,s2,s3,_⟩:=flat_knd (HK.fact (.tail _ (.head _))) z hzk
    rw [HKZ.out] at g0 g1 g2 g3 s1 s2
    rw [hnmo] at g0
    have q0:=HK.rcell (.tail _ (.head _)) hn0 g0
    have q1:=HK.rcell (.tail _ (.head _)) hn0 g1
    have q2:=HK.rcell (.tail _ (.head _)) hn0 g2
    have q3:=HK.rcell (.tail _ (.head _)) hn0 g3
    obtain ⟨len,hlen⟩:=aX ((Sc.flds k).length)
    have s5:(Sc.flds k).length<=9223372036854775807:=by omega
    have CC:=fun w' (hb:Below wc.heap.size wc w')=>copied_any (Sc.flds k) B cB nmo k.2.1 k.2.2.1 w' (s1.keep (Chg.of_below hb)) s5
    rw [hlen] at q3 CC
    obtain ⟨c,hc⟩:=aX (Sc.ix Sc.copyable (Sc.flds k))
    rw [hc] at CC
    have HC:=aI hc
    have HLEN:=aI hlen
    have C2:=aI CC
    have H:=aI HK
    have c1:=(Sc.ix_bd Sc.copyable (Sc.flds k)).1
    rw [hc] at c1
    clear HK hc hlen CC g0 g1 g2 g3 s1 s2 s3 s5
    have k1:(z:Int) < (n:Int):=by have:=HN.out;omega
    have k0:(0:Int)<=(z:Int):=by omega
    generalize k.2.1=y1 at *
    generalize k.2.2.1=y2 at *
    go_upto_region 12 with (go_at_call 71;(with_reducible refine (C2.out _ (Below.refl _ _)).mono ?_);rintro e w3 ⟨rfl,hb⟩;replace H:=aI (H.out.below hb);clear hb)
    go_cut [79] from 14 (fun v79 w'=>∃ b:Bool,v79=.bool b/\(b=true->0<=c)/\KSt K bx rs L rb n (.slice (some ⟨g,0,none⟩) n c0) (.pointer (some ⟨kb,0,none⟩)) nm lo hi fs ks w')
    case first =>
     rename_i J_ K_ hJ_ hM_
     clear C2 q0 q1 q2 q3
     by_cases hc0:0<=c
     ·go_wp2_with (go_at_call 26;refine (H.out.take 2 (by omega) (by omega)).mono ?_;rintro e w3 ⟨v,rfl,v1,v2,hr⟩;replace H:=aI (H.out.turn hr);clear hr)
      go_meet
      case rel=>exact ⟨_,rfl,fun _=>hc0,_,kb,fv,fxs,kxs,rfl,H.out⟩
     ·have t1:decide (0<=c)=false:=ad hc0
      go_wp2_with fail
      go_meet
      case rel=>exact ⟨_,rfl,fun h=>(by cases h),_,kb,fv,fxs,kxs,rfl,H.out⟩
    case rest =>
     obtain ⟨b,rfl,hb,hk2⟩:=hcut
     clear H C2 q0 q1 q2 q3
     clear w3
     go_upto_if 79 with fail
     go_cut [] from 14 (fun w'=>∃ same,Sg.Same k same/\KSt K bx rs L rb n (.slice (some ⟨g,0,none⟩) n c0) (.pointer (some ⟨kb,0,none⟩)) nm lo hi (fs++same) ks w')
     case first =>
      rename_i J_ K_ hJ_ hM_
      cases b
      ·go_wp2_with fail
       go_meet
       case rel=>exact ⟨[],.none,by rw [List.append_nil];exact hk2⟩
      ·have hc0:=hb rfl
       obtain ⟨ci,hci,hcc,hcp⟩:=Sc.ix_get (p:=Sc.copyable) (l:=Sc.flds k) (by rw [HC.out];exact hc0)
       rw [HC.out] at hcc
       subst hcc
       go_wp2_with fail
       obtain ⟨wo,rfl⟩:=aY wc
       obtain ⟨M3,kb',fv,fxs,kxs,e1,HK⟩:=hk2
       obtain rfl:kb=kb':=by injection e1 with e1;injection e1 with e1;injection e1
       clear e1
       obtain ⟨B,cB,g0,g1,g2,g3,s1,s2,s3,_⟩:=flat_knd (HK.fact (.tail _ (.head _))) z hzk
       rw [HKZ.out] at g3 s1
       rw [HLEN.out] at g3
       obtain ⟨b0,o0,_,_,_,_,rfl,_,_,_,_,_,_,_,_,_,_,_,_,_,_,s6⟩:=fld_at s1 ci hci
       have HQ3:=aI g3
       have H:=aI (HK.add (keeps_sl _ _) s1)
       have HCP:=aI hcp
       have hcl:ci < len:=by rw [<-HLEN.out];exact hci
       have k2:(ci:Int) < (len:Int):=by omega
       obtain ⟨nm2,hnm2⟩:=aX (Sc.nm (Sc.flds k)[ci])
       rw [hnm2] at s6
       have HN2:=aI hnm2
       clear HK g0 g1 g2 g3 s1 s2 s3 hcp hnm2
       letI:Grow:=K.grow
       exact kup_1 (by kernel_rfl) hn2 lo0 lo4 hi1 hi2 hn0 hzk s4 hnmo HFL k1 k0 hci c1 hc0 hb HQ3 H HCP hcl k2 s6 HN2 hJ_ hM_
     case rest =>
      obtain ⟨same,hsame,hk2⟩:=hcut
      clear hb
      obtain ⟨fs2,hfs2⟩:=aX (fs++same)
      have HFS2:=aI hfs2
      have HFL2:=aI (show fs2.length<=3 by rw [<-hfs2,aK];have:=HFL.out;have:=hsame.len;omega)
      rw [hfs2] at hk2
      have HSAME:=aI hsame
      clear hfs2 hsame
      go_upto_region 14 with fail
      go_cut [106] from 14 (fun v106 w'=>∃ b:Bool,v106=.bool b/\(b=true->Sc.ix (Sc.named Sg.btotal) (Sc.flds k) < 0)/\KSt K bx rs L rb n (.slice (some ⟨g,0,none⟩) n c0) (.pointer (some ⟨kb,0,none⟩)) nm lo hi fs2 ks w')
      case first =>
       rename_i J_ K_ hJ_ hM_
       obtain ⟨M3,kb',fv,fxs,kxs,e1,HK⟩:=hk2
       obtain rfl:kb=kb':=by injection e1 with e1;injection e1 with e1;injection e1
       clear e1
       obtain ⟨B,cB,g0,g1,g2,g3,s1,s2,s3,_⟩:=flat_knd (HK.fact (.tail _ (.head _))) z hzk
       rw [HKZ.out] at g3 s1 s2
       have CC:=has_any (Sc.flds k) B cB Sg.btotal wc s1 (by omega)
       rw [HLEN.out] at g3 CC
       have q3:=HK.rcell (.tail _ (.head _)) hn0 g3
       obtain ⟨r,hr⟩:=aX (Sc.ix (Sc.named Sg.btotal) (Sc.flds k))
       rw [hr] at CC
       have HRR:=aI hr
       have C2:=aI CC
       have H:=aI HK
       clear HK CC g0 g1 g2 g3 s1 s2 s3
       by_cases hr0:r < 0
       ·go_wp2_with (first | (go_at_call 72;(refine C2.out.mono ?_);rintro e w3 ⟨rfl,hb⟩;replace H:=aI (H.out.below hb);clear hb) | (go_at_call 26;refine (H.out.take 3 (by omega) (by omega)).mono ?_;rintro e w4 ⟨v,rfl,v1,v2,hr⟩;replace H:=aI (H.out.turn hr);clear hr))
        go_meet
        case rel=>exact ⟨_,rfl,fun _=>(by rw [HRR.out];exact hr0),_,kb,fv,fxs,kxs,rfl,H.out⟩
       ·have t1:decide (r < 0)=false:=ad hr0
        go_wp2_with (go_at_call 72;(refine C2.out.mono ?_);rintro e w3 ⟨rfl,hb⟩;replace H:=aI (H.out.below hb);clear hb)
        go_meet
        case rel=>exact ⟨_,rfl,fun h=>(by cases h),_,kb,fv,fxs,kxs,rfl,H.out⟩
      case rest =>
       obtain ⟨b,rfl,hb,hk2⟩:=hcut
       go_upto_if 106 with fail
       go_cut [] from 14 (fun w'=>∃ part ks',Sg.Part nm ks z hzk part ks'/\KSt K bx rs L rb n (.slice (some ⟨g,0,none⟩) n c0) (.pointer (some ⟨kb,0,none⟩)) nm lo hi (fs2++part) ks' w')
       case first =>
        rename_i J_ K_ hJ_ hM_
        cases b
        ·go_wp2_with fail
         go_meet
         case rel=>exact ⟨[],ks,.none,by rw [List.append_nil];exact hk2⟩
        ·have HR0:=aI (hb rfl)
         clear hb
         obtain ⟨M3,kb',fv,fxs,kxs,e1,HK⟩:=hk2
         obtain rfl:kb=kb':=by injection e1 with e1;injection e1 with e1;injection e1
         clear e1
         have H:=aI HK
         clear HK
         go_wp2_with fail
         go_at_call 26
         refine (H.out.take 3 (by omega) (by omega)).mono ?_
         rintro e w3 ⟨v,rfl,v1,v2,hr⟩
         obtain ⟨ls,rfl⟩:∃ z':Nat,v=z':=⟨v.toNat,by omega⟩
         replace H:=aI (H.out.turn hr);clear hr
         go_upto_region 16 with fail
         go_cut [] from 14 (fun w'=>∃ d:Nat,d < 8/\KSt K bx rs L rb n (.slice (some ⟨g,0,none⟩) n c0) (.pointer (some ⟨kb,0,none⟩)) nm lo hi (fs2++[Sg.partF ls (ls+d)]) ks w')
         case first =>
          rename_i J_ K_ hJ_ hM_
          obtain ⟨wo,rfl⟩:=aY w3
          letI:Grow:=K.grow
          exact kup_2 (by kernel_rfl) hn2 lo0 lo4 hi1 hi2 hn0 hzk s4 hnmo c1 k1 k0 HFL2 v1 v2 H hJ_ hM_
         case rest =>
          obtain ⟨d,hd,hk2⟩:=hcut
          clear H
          clear w3
          go_wp2_with fail
          obtain ⟨wo,rfl⟩:=aY wc
          obtain ⟨fs5,hfs5⟩:=aX (fs2++[Sg.partF ls (ls+d)])
          have HFS5:=aI hfs5
          rw [hfs5] at hk2
          clear hfs5
          obtain ⟨M3,kb',fv,fxs,kxs,e1,HK⟩:=hk2
          obtain rfl:kb=kb':=by injection e1 with e1;injection e1 with e1;injection e1
          clear e1
          obtain ⟨B,cB,g0,g1,g2,g3,s1,s2,s3,_⟩:=flat_knd (HK.fact (.tail _ (.head _))) z hzk
          rw [HKZ.out] at g3 s1 s2
          have hl1:=HNE.out k (by rw [<-HKZ.out];exact List.getElem_mem hzk)
          obtain ⟨b0,o0,xs0,rfl,hxl,hxf,hxc⟩:=s1.reads_on (by omega)
          rw [HLEN.out] at g3 s2 hl1 hxl
          have HQ3:=aI g3
          have HXC:=aI hxc
          have HXF:=aI hxf
          have HXL:=aI (show xs0.length=len*8 from hxl)
          have H:=aI HK
          clear HK g0 g1 g2 g3 s1 s3 hxc hxf hxl
          obtain ⟨i0,hI,hz0,hz1,hz2⟩:=info_parts infoFld
          have HI:=aI (show _/\_/\_/\_ from ⟨hI,hz0,hz1,hz2⟩)
          clear hI hz0 hz1 hz2
          have hb0:=H.out.gmLt
          letI:Grow:=lateGrow K.gm 62 K.sl wo.heap.size 52 (len*8) (totC nm)
          exact kup_3 (by kernel_rfl) hn2 HN HNM0 lo0 lo4 hi1 hi2 hn0 hzk HKZ s4 hnmo HLEN c1 k1 k0 HR0 v1 v2 hd HFS5 s2 hl1 HQ3 HXC HXF HXL H HI hb0 hJ_ hM_
       case rest =>
        obtain ⟨part,ks',hpart,hk2⟩:=hcut
        have HP:=aI hpart
        clear hpart hb
        go_wp2_with fail
        go_meet
        case rel =>
         refine ⟨fs2++part,ks',?_,hk2⟩
         have hb1:=HB.out
         have hs1:=HSAME.out
         have hx1:=HX.out
         have:=Sg.Body.cons (nm:=nm) ks z hzk x flo hi2' same part ks' hx1 hb1.1 hb1.2.1 hb1.2.2.1 hb1.2.2.2 (by rw [HKZ.out];exact hs1) HP.out
         rw [HKZ.out,hnmo] at this
         have e:[Sg.idF x,Sg.ofF nmo flo hi2']=fs:=HFS.out
         rw [e,HFS2.out] at this
         exact this
noncomputable def kmn_0_code:Code:=((Tryz.f27.body.bind (regAt 3)).getD .skip)
theorem kmn_0 {K:MkK} {M:List Nat} {bx:List Box} {rs:List Rw} {L:List (List Nat->World->Prop)} {_W:World} {ks:List Knd} {n:Nat} {kxs:List Value} {A0:Option Addr} {c0:Nat} {rb:Nat} {z:Nat} {lo:Int} {wo:World}  {J_ K_:Act->World->Prop} {Q_:Exit->Act->World->Prop} {cd_:Code} (hcd_:cd_=kmn_0_code) (hn2:n<=2) (_z1:(0:Int)<=(↑z:Int)) (_z2:(↑z:Int) < (6:Int)) (lo0:(0:Int)<=lo) (lo4:lo<=(4:Int)) (_z3:(↑z:Int) < (6:Int)) (H: Hid (MkH K (rb::M) ((rb,(49:TypeId),#[Value.string { data:=#[] },Value.int IntKind.i64 (0:Int),Value.int IntKind.i64 (0:Int),Value.slice none 0 0])::bx) ({ e:=(49:TypeId),size:=4,v:=Value.slice A0 n c0,n:=n,xs:=kxs }::rs) ((fun M W=>Flat M W ks kxs)::L) wo))
  (hJ_:∀ (a':Act) (w':World),(∃ u7 u14 u15 u16 u17 u18 u19 u20 u21 u22 u23 u24 u25 u26 u27 u28 u29 u30 u31 u32 u33 u34 u35 u36 u37 u38 u39 u40 u41 u42 u43 u44 u45 u46 u47 u48 u49 u50 u51 u52 u53 u54 u55 u56 u57 u58 u59 u60 u61 u62 u63 u64 u65 u66 u67 u68 u69 u70 u71 u72 u73 u74 u75 u76 u77 u78 u79 u80 u81 u82 u83 u84 u85 u86 u87 u88 u89 u90 u91 u92 u93 u94 u95 u96 u97 u98 u99 u100 u101 u102 u103 u104 u105 u106 u107 u108 u109 u110 u111 u112 u113 u114 u115 u116 u117 u118 u119 u120 u121 u122 u123 u124 u125 u126 u127 u128 u129 u130 u131 u132 u133 u134 u135 u136 u137 u138 u139 u140 u141 u142 u143 u144 u145 u146 u147 u148 u149 u150 u151 u152 u153 u154 u155 u156 u157 u158 u159 u160 u161 u162 u163 u164 u165 u166 u167 u168 u169 u170 u171 u172 u173 u174 u175 u176 u177 u178 u179 u180 u181 u182 u183,((∃ hi,lo<=hi/\hi<=lo+(4:Int)/\KSt K bx rs L rb n (Value.slice A0 n c0) u7 (Sg.kname n) lo hi [] ks w'))/\a'=⟨(K.p::(Value.slice A0 n c0)::undef::undef::(Value.pointer (some (Addr.mk (rb) (0) none)))::(Value.int IntKind.i64 (↑n:Int))::(Value.int IntKind.i64 lo)::u7::undef::undef::undef::undef::undef::undef::u14::u15::u16::u17::u18::u19::u20::u21::u22::u23::u24::u25::u26::u27::u28::u29::u30::u31::u32::u33::u34::u35::u36::u37::u38::u39::u40::u41::u42::u43::u44::u45::u46::u47::u48::u49::u50::u51::u52::u53::u54::u55::u56::u57::u58::u59::u60::u61::u62::u63::u64::u65::u66::u67::u68::u69::u70::u71::u72::u73::u74::u75::u76::u77::u78::u79::u80::u81::u82::u83::u84::u85::u86::u87::u88::u89::u90::u91::u92::u93::u94::u95::u96::u97::u98::u99::u100::u101::u102::u103::u104::u105::u106::u107::u108::u109::u110::u111::u112::u113::u114::u115::u116::u117::u118::u119::u120::u121::u122::u123::u124::u125::u126::u127::u128::u129::u130::u131::u132::u133::u134::u135::u136::u137::u138::u139::u140::u141::u142::u143::u144::u145::u146::u147::u148::u149::u150::u151::u152::u153::u154::u155::u156::u157::u158::u159::u160::u161::u162::u163::u164::u165::u166::u167::u168::u169::u170::u171::u172::u173::u174::u175::u176::u177::u178::u179::u180::u181::u182::u183::[]).toArray,[]⟩)->J_ a' w') (hM_:∀ (a':Act) (w':World),Met J_ a' w'->K_ a' w') :
  Code.wp Tryz.prog cd_ (Exit.then K_ Q_) ⟨(K.p::(Value.slice A0 n c0)::undef::undef::(Value.pointer (some (Addr.mk (rb) (0) none)))::(Value.int IntKind.i64 (↑n:Int))::(Value.int IntKind.i64 lo)::undef::undef::undef::undef::undef::undef::undef::(Value.slice A0 n c0)::(Value.int IntKind.i64 (↑n:Int))::(Value.slice (some (Addr.mk (rb+1) (0) none)) 6 6)::K.p::(Value.int IntKind.i64 (↑z:Int))::(Value.pointer (some (Addr.mk (rb+1) (z) none)))::(Value.int IntKind.i64 lo)::undef::undef::undef::undef::undef::undef::undef::undef::undef::undef::undef::undef::undef::undef::undef::undef::undef::undef::undef::undef::undef::undef::undef::undef::undef::undef::undef::undef::undef::undef::undef::undef::undef::undef::undef::undef::undef::undef::undef::undef::undef::undef::undef::undef::undef::undef::undef::undef::undef::undef::undef::undef::undef::undef::undef::undef::undef::undef::undef::undef::undef::undef::undef::undef::undef::undef::undef::undef::undef::undef::undef::undef::undef::undef::undef::undef::undef::undef::undef::undef::undef::undef::undef::undef::undef::undef::undef::undef::undef::undef::undef::undef::undef::undef::undef::undef::undef::undef::undef::undef::undef::undef::undef::undef::undef::undef::undef::undef::undef::undef::undef::undef::undef::undef::undef::undef::undef::undef::undef::undef::undef::undef::undef::undef::undef::undef::undef::undef::undef::undef::undef::undef::undef::undef::undef::undef::undef::undef::undef::undef::undef::undef::undef::undef::undef::undef::undef::undef::undef::undef::undef::undef::undef::undef::undef::undef::undef::undef::undef::undef::undef::undef::undef::[]).toArray,[]⟩ wo:=by
 subst hcd_
 conv=>arg 2;whnf
 letI:Grow:=K.grow
 apply RG.wp_region_typed (C:=fun w'=>K.R wo w') (n:=184) (m:=11) (l1:=[_,_,_,_,_,_,_,_,_,_,_]) (l2:=[_])
 ·rfl
 ·rfl
 ·kernel_rfl
 ·rfl
 ·kernel_rfl
 ·exact K.drew wo
 ·exact fun u u' h hb=>h.trans hb
 apply RG.wpT_typed (litT_kept K wo.heap.size 3 9 (fun cs=>cs=#[.string ⟨#[112,101,114,115,111,110]⟩,.string ⟨#[111,114,100,101,114]⟩,.string ⟨#[105,116,101,109]⟩]) H.out.gmLt)
 ·intro w' hC hf;unfold RG.Gives;clear hf
  have hs:=aI (K.size hC)
  clear hC
  go_wp2_with fail
  refine RG.postT_mk rfl (K.grown (by go_grown)) ?_;simp only [RG.valAt,aV]
  exact ⟨_,_,rfl,rfl,hs.out,Blk.new _ _ _⟩
 intro v21;(try simp only [Act.put,aZ])
 (apply RG.wpT_exact;· (intro w' hC hf;unfold RG.Gives;clear hf hC;go_wp2_with (fail);apply RG.postT_val rfl (Grow.refl _);simp only [RG.valAt,aV];exact rfl));(try simp only [Act.put,aZ])
 apply RG.wpT_typed (T:=PtrT wo.heap.size 9 (fun cs i=>cs[i]?=some (.string (Sg.kname n)))) (ptrT_kept K _ _ _ H.out.gmLt)
 ·intro w' hC hf;unfold RG.Gives;obtain ⟨cs,N,rfl,rfl,hge,hblk⟩:=hf.1 rfl;clear hf
  have k1:(n:Int) < 3:=by omega
  go_wp2_with fail
  refine RG.postT_mk rfl (Grow.refl _) ?_;simp only [RG.valAt,aV];exact ⟨_,N,n,by first | rfl | simp [Addr.add],names_at n hn2,hge,hblk⟩
 intro v23;(try simp only [Act.put,aZ])
 (apply RG.wpT_exact;· (intro w' hC hf;unfold RG.Gives;obtain ⟨cs,N,i,rfl,hq,hge,hblk⟩:=hf.1 rfl;have q:=hblk.cell i;rw [hq] at q;clear hge hblk hq;clear hf hC;go_wp2_with (fail);apply RG.postT_val rfl (Grow.refl _);simp only [RG.valAt,aV];exact rfl));(try simp only [Act.put,aZ])
 iterate 3 ((apply RG.wpT_exact;· (intro w' hC hf;unfold RG.Gives;clear hf hC;go_wp2_with (fail);apply RG.postT_val rfl (Grow.refl _);simp only [RG.valAt,aV];exact rfl));(try simp only [Act.put,aZ]))
 apply RG.wpT_typed (T:=fun v _=>∃ z:Nat,v=.int .i64 (z:Int)/\z < 5) (fun v w w' h _=>h)
 ·intro w' hC hf;unfold RG.Gives;clear hf
  go_wp2_with fail
  go_at_call 26
  refine ((H.out.turn hC).take 5 (by omega) (by omega)).mono ?_
  rintro e w3 ⟨v,rfl,v1,v2,hr⟩
  obtain ⟨z,rfl⟩:∃ z':Nat,v=z':=⟨v.toNat,by omega⟩
  go_wp2_with fail
  refine RG.postT_mk rfl hr ?_;simp only [RG.valAt,aV];exact ⟨z,rfl,by omega⟩
 intro v28;(try simp only [Act.put,aZ])
 apply RG.wpT_typed (T:=fun v _=>∃ z:Nat,v=.int .i64 (lo+z)/\z < 5) (fun v w w' h _=>h)
 ·intro w' hC hf;unfold RG.Gives;obtain ⟨z,rfl,z1⟩:=hf.1 rfl;clear hC;clear hf
  go_wp2_with fail
  refine RG.postT_mk rfl (Grow.refl _) ?_;simp only [RG.valAt,aV];exact ⟨z,rfl,z1⟩
 intro v29;(try simp only [Act.put,aZ])
 apply RG.wpT_typed (T:=fun v _=>∃ z:Nat,v=.agg #[.string (Sg.kname n),.int .i64 lo,.int .i64 (lo+z),.slice none 0 0]/\z < 5) (fun v w w' h _=>h)
 ·intro w' hC hf;unfold RG.Gives;obtain ⟨z,rfl,z1⟩:=hf.1 rfl;clear hC;clear hf
  go_wp2_with fail
  refine RG.postT_mk rfl (Grow.refl _) ?_;simp only [RG.valAt,aV];exact ⟨z,rfl,z1⟩
 intro v30;(try simp only [Act.put,aZ])
 apply RG.wpT_typed (ptrT_kept K wo.heap.size 49 (fun cs i=>cs=#[.string ⟨#[]⟩,.int .i64 0,.int .i64 0,.slice none 0 0]/\i=0) H.out.gmLt)
 ·intro w' hC hf;unfold RG.Gives;clear hf
  have hs:=aI (K.size hC)
  clear hC
  go_wp2_with fail
  refine RG.postT_mk rfl (K.grown (by go_grown)) ?_;simp only [RG.valAt,aV]
  exact ⟨_,_,0,rfl,⟨rfl,rfl⟩,hs.out,Blk.new _ _ _⟩
 intro v7;(try simp only [Act.put,aZ])
 apply RG.wpT_done
 intro w4 hC hall
 obtain ⟨cs,kb,i,rfl,⟨rfl,rfl⟩,hge,hblk⟩:=hall.1
 obtain ⟨d,rfl,d1⟩:=hall.2.1
 have T:=aI (H.out.adopt hC hge hblk)
 have q:=hblk;obtain ⟨f0,f1,f2,f3⟩:=aN4 q.frozen;obtain ⟨q0,q1,q2,q3⟩:=aN4 q.cell;(simp at q0 q1 q2 q3);clear q
 clear hall hC hge hblk
 go_wp2_with fail
 go_meet
 case rel =>
  have T1:=((((T.out.set0 0 (.string (Sg.kname n))).set0 1 (.int .i64 lo)).set0 2 (.int .i64 (lo+d))).set0 3 (.slice none 0 0)).push 52 8
  have T2:=T1.add (keeps_flat ([]:List Fld) []) rfl
  exact ⟨lo+d,by omega,by omega,_,kb,.slice none 0 0,[],kxs,rfl,T2⟩
noncomputable def kmn_1_code:Code:=((Tryz.f27.body.bind (regAt 4)).getD .skip)
theorem kmn_1 {K:MkK} {_M:List Nat} {bx:List Box} {rs:List Rw} {L:List (List Nat->World->Prop)} {_W:World} {ks:List Knd} {n:Nat} {A0:Option Addr} {c0:Nat} {rb:Nat} {lo:Int} {u14 u15 u16 u17 u18 u19 u20 u21 u22 u23 u24 u25 u26 u27 u28 u29 u30 u31 u32 u33 u34 u35 u36 u37 u38 u39 u40 u41 u42 u43 u44 u45 u46 u47 u48 u49 u50 u51 u52 u53 u54 u55 u56 u57 u58 u59 u60 u61 u62 u63 u64 u65 u66 u67 u68 u69 u70 u71 u72 u73 u74 u75 u76 u77 u78 u79 u80 u81 u82 u83 u84 u85 u86 u87 u88 u89 u90 u91 u92 u93 u94 u95 u96 u97 u98 u99 u100 u101 u102 u103 u104 u105 u106 u107 u108 u109 u110 u111 u112 u113 u114 u115 u116 u117 u118 u119 u120 u121 u122 u123 u124 u125 u126 u127 u128 u129 u130 u131 u132 u133 u134 u135 u136 u137 u138 u139 u140 u141 u142 u143 u144 u145 u146 u147 u148 u149 u150 u151 u152 u153 u154 u155 u156 u157 u158 u159 u160 u161 u162 u163 u164 u165 u166 u167 u168 u169 u170 u171 u172 u173 u174 u175 u176 u177 u178 u179 u180 u181 u182 u183:Value} {hi:Int} {nm:ByteArray} {wo:World} {M1:List Nat} {kb:Nat} {fv:Value} {fxs:List Value} {kxs:List Value}  {J_ K_:Act->World->Prop} {Q_:Exit->Act->World->Prop} {cd_:Code} (hcd_:cd_=kmn_1_code) (_hn2:n<=2) (_lo0:(0:Int)<=lo) (_lo4:lo<=(4:Int)) (_hi1:lo<=hi) (_hi2:hi<=lo+(4:Int)) (_hnm:Sg.kname n=nm) (H: Hid (MkH K M1 ((kb,(49:TypeId),#[Value.string nm,Value.int IntKind.i64 lo,Value.int IntKind.i64 hi,fv])::(rb,(49:TypeId),#[Value.string { data:=#[] },Value.int IntKind.i64 (0:Int),Value.int IntKind.i64 (0:Int),Value.slice none 0 0])::bx) ({ e:=(52:TypeId),size:=8,v:=fv,n:=([]:List Fld).length,xs:=fxs }::{ e:=(49:TypeId),size:=4,v:=Value.slice A0 n c0,n:=n,xs:=kxs }::rs) ((fun M W=>Flat M W ([]:List Fld) fxs)::(fun M W=>Flat M W ks kxs)::L) wo))
  (hJ_:∀ (a':Act) (w':World),(∃ u14 u15 u16 u17 u18 u19 u20 u21 u22 u23 u24 u25 u26 u27 u28 u29 u30 u31 u32 u33 u34 u35 u36 u37 u38 u39 u40 u41 u42 u43 u44 u45 u46 u47 u48 u49 u50 u51 u52 u53 u54 u55 u56 u57 u58 u59 u60 u61 u62 u63 u64 u65 u66 u67 u68 u69 u70 u71 u72 u73 u74 u75 u76 u77 u78 u79 u80 u81 u82 u83 u84 u85 u86 u87 u88 u89 u90 u91 u92 u93 u94 u95 u96 u97 u98 u99 u100 u101 u102 u103 u104 u105 u106 u107 u108 u109 u110 u111 u112 u113 u114 u115 u116 u117 u118 u119 u120 u121 u122 u123 u124 u125 u126 u127 u128 u129 u130 u131 u132 u133 u134 u135 u136 u137 u138 u139 u140 u141 u142 u143 u144 u145 u146 u147 u148 u149 u150 u151 u152 u153 u154 u155 u156 u157 u158 u159 u160 u161 u162 u163 u164 u165 u166 u167 u168 u169 u170 u171 u172 u173 u174 u175 u176 u177 u178 u179 u180 u181 u182 u183,((∃ x,Sg.okLo x/\KSt K bx rs L rb n (Value.slice A0 n c0) (Value.pointer (some (Addr.mk (kb) (0) none))) nm lo hi [Sg.idF x] ks w'))/\a'=⟨(K.p::(Value.slice A0 n c0)::undef::undef::(Value.pointer (some (Addr.mk (rb) (0) none)))::(Value.int IntKind.i64 (↑n:Int))::(Value.int IntKind.i64 lo)::(Value.pointer (some (Addr.mk (kb) (0) none)))::undef::undef::undef::undef::undef::undef::u14::u15::u16::u17::u18::u19::u20::u21::u22::u23::u24::u25::u26::u27::u28::u29::u30::u31::u32::u33::u34::u35::u36::u37::u38::u39::u40::u41::u42::u43::u44::u45::u46::u47::u48::u49::u50::u51::u52::u53::u54::u55::u56::u57::u58::u59::u60::u61::u62::u63::u64::u65::u66::u67::u68::u69::u70::u71::u72::u73::u74::u75::u76::u77::u78::u79::u80::u81::u82::u83::u84::u85::u86::u87::u88::u89::u90::u91::u92::u93::u94::u95::u96::u97::u98::u99::u100::u101::u102::u103::u104::u105::u106::u107::u108::u109::u110::u111::u112::u113::u114::u115::u116::u117::u118::u119::u120::u121::u122::u123::u124::u125::u126::u127::u128::u129::u130::u131::u132::u133::u134::u135::u136::u137::u138::u139::u140::u141::u142::u143::u144::u145::u146::u147::u148::u149::u150::u151::u152::u153::u154::u155::u156::u157::u158::u159::u160::u161::u162::u163::u164::u165::u166::u167::u168::u169::u170::u171::u172::u173::u174::u175::u176::u177::u178::u179::u180::u181::u182::u183::[]).toArray,[]⟩)->J_ a' w') (hM_:∀ (a':Act) (w':World),Met J_ a' w'->K_ a' w') :
  Code.wp Tryz.prog cd_ (Exit.then K_ Q_) ⟨(K.p::(Value.slice A0 n c0)::undef::undef::(Value.pointer (some (Addr.mk (rb) (0) none)))::(Value.int IntKind.i64 (↑n:Int))::(Value.int IntKind.i64 lo)::(Value.pointer (some (Addr.mk (kb) (0) none)))::undef::undef::undef::undef::undef::undef::u14::u15::u16::u17::u18::u19::u20::u21::u22::u23::u24::u25::u26::u27::u28::u29::u30::u31::u32::u33::u34::u35::u36::u37::u38::u39::u40::u41::u42::u43::u44::u45::u46::u47::u48::u49::u50::u51::u52::u53::u54::u55::u56::u57::u58::u59::u60::u61::u62::u63::u64::u65::u66::u67::u68::u69::u70::u71::u72::u73::u74::u75::u76::u77::u78::u79::u80::u81::u82::u83::u84::u85::u86::u87::u88::u89::u90::u91::u92::u93::u94::u95::u96::u97::u98::u99::u100::u101::u102::u103::u104::u105::u106::u107::u108::u109::u110::u111::u112::u113::u114::u115::u116::u117::u118::u119::u120::u121::u122::u123::u124::u125::u126::u127::u128::u129::u130::u131::u132::u133::u134::u135::u136::u137::u138::u139::u140::u141::u142::u143::u144::u145::u146::u147::u148::u149::u150::u151::u152::u153::u154::u155::u156::u157::u158::u159::u160::u161::u162::u163::u164::u165::u166::u167::u168::u169::u170::u171::u172::u173::u174::u175::u176::u177::u178::u179::u180::u181::u182::u183::[]).toArray,[]⟩ wo:=by
 subst hcd_
 conv=>arg 2;whnf
 letI:Grow:=K.grow
 apply RG.wp_region_typed (C:=fun w'=>K.R wo w') (n:=184) (m:=9) (l1:=[_,_,_,_,_,_,_,_,_]) (l2:=[_,_,_])
 ·rfl
 ·rfl
 ·kernel_rfl
 ·rfl
 ·kernel_rfl
 ·exact K.drew wo
 ·exact fun u u' h hb=>h.trans hb
 iterate 2 ((apply RG.wpT_exact;· (intro w' hC hf;unfold RG.Gives;have q:=(H.out.turn hC).box (.head _);have q0:=q.cell 0;have q3:=q.cell 3;(simp at q0 q3);clear q;clear hf hC;go_wp2_with (fail);apply RG.postT_val rfl (Grow.refl _);simp only [RG.valAt,aV];exact rfl));(try simp only [Act.put,aZ]))
 apply RG.wpT_typed (litT_kept K wo.heap.size 4 3 (fun cs=>cs=#[.int .i64 0,.int .i64 1,.int .i64 100,.int .i64 (-3)]) H.out.gmLt)
 ·intro w' hC hf;unfold RG.Gives;clear hf
  have hs:=aI (K.size hC)
  clear hC
  go_wp2_with fail
  refine RG.postT_mk rfl (K.grown (by go_grown)) ?_;simp only [RG.valAt,aV]
  exact ⟨_,_,rfl,rfl,hs.out,Blk.new _ _ _⟩
 intro v33;(try simp only [Act.put,aZ])
 (apply RG.wpT_exact;· (intro w' hC hf;unfold RG.Gives;clear hf hC;go_wp2_with (fail);apply RG.postT_val rfl (Grow.refl _);simp only [RG.valAt,aV];exact rfl));(try simp only [Act.put,aZ])
 apply RG.wpT_typed (T:=fun v _=>∃ z:Nat,v=.int .i64 (z:Int)/\z < 4) (fun v w w' h _=>h)
 ·intro w' hC hf;unfold RG.Gives;clear hf
  go_wp2_with fail
  go_at_call 26
  refine ((H.out.turn hC).take 4 (by omega) (by omega)).mono ?_
  rintro e w3 ⟨v,rfl,v1,v2,hr⟩
  obtain ⟨z,rfl⟩:∃ z':Nat,v=z':=⟨v.toNat,by omega⟩
  go_wp2_with fail
  refine RG.postT_mk rfl hr ?_;simp only [RG.valAt,aV];exact ⟨z,rfl,by omega⟩
 intro v35;(try simp only [Act.put,aZ])
 apply RG.wpT_typed (T:=PtrT wo.heap.size 3 (fun cs i=>∃ x:Int,cs[i]?=some (.int .i64 x)/\Sg.okLo x)) (ptrT_kept K _ _ _ H.out.gmLt)
 ·intro w' hC hf;unfold RG.Gives;obtain ⟨z,rfl,z1⟩:=hf.1 rfl;obtain ⟨cs,N,rfl,rfl,hge,hblk⟩:=hf.2.1 rfl;clear hf
  have k1:(z:Int) < 4:=by omega
  go_wp2_with fail
  refine RG.postT_mk rfl (Grow.refl _) ?_;simp only [RG.valAt,aV];exact ⟨_,N,z,by first | rfl | simp [Addr.add],(by obtain ⟨x,h1,h2⟩:=ids_at z z1;exact ⟨x,h2,h1⟩),hge,hblk⟩
 intro v36;(try simp only [Act.put,aZ])
 apply RG.wpT_typed (T:=fun v _=>∃ x:Int,v=.int .i64 x/\Sg.okLo x) (fun v w w' h _=>h)
 ·intro w' hC hf;unfold RG.Gives;obtain ⟨cs,N,i,rfl,⟨x,hx,hok⟩,hge,hblk⟩:=hf.1 rfl;have q:=hblk.cell i;rw [hx] at q;clear hC;clear hf
  go_wp2_with fail
  refine RG.postT_mk rfl (Grow.refl _) ?_;simp only [RG.valAt,aV];exact ⟨x,rfl,hok⟩
 intro v37;(try simp only [Act.put,aZ])
 apply RG.wpT_typed (T:=fun v _=>∃ x:Int,v=.agg #[.string Sg.bid,.string Sg.be,.string Sg.be,.int .i64 0,.int .i64 x,.int .i64 0,.slice none 0 0,.slice none 0 0]/\Sg.okLo x) (fun v w w' h _=>h)
 ·intro w' hC hf;unfold RG.Gives;obtain ⟨x,rfl,hok⟩:=hf.1 rfl;clear hC;clear hf
  go_wp2_with fail
  refine RG.postT_mk rfl (Grow.refl _) ?_;simp only [RG.valAt,aV];exact ⟨x,rfl,hok⟩
 intro v38;(try simp only [Act.put,aZ])
 apply RG.wpT_typed (litT_kept K wo.heap.size 1 52 (fun cs=>∃ x:Int,cs=#[.string Sg.bid,.string Sg.be,.string Sg.be,.int .i64 0,.int .i64 x,.int .i64 0,.slice none 0 0,.slice none 0 0]/\Sg.okLo x) H.out.gmLt)
 ·intro w' hC hf;unfold RG.Gives;obtain ⟨x,rfl,hok⟩:=hf.1 rfl;clear hf
  have hs:=aI (K.size hC)
  clear hC
  go_wp2_with fail
  refine RG.postT_mk rfl (K.grown (by go_grown)) ?_;simp only [RG.valAt,aV]
  exact ⟨_,_,rfl,⟨x,rfl,hok⟩,hs.out,Blk.new _ _ _⟩
 intro v39;(try simp only [Act.put,aZ])
 apply RG.wpT_done
 intro w4 hC hall
 obtain ⟨cs,N2,rfl,⟨x,rfl,hok⟩,hge,hblk⟩:=hall.1
 have T:=aI (H.out.turn hC)
 have HX:=aI hok
 obtain ⟨x1,x2⟩:=okLo_bd hok
 clear hall hC H this hok
 have hfl:([]:List Fld).length<=8:=(by simp)
 obtain ⟨i0,hI,hz0,hz1,hz2⟩:=info_parts infoFld
 refine wpList_append_mk (by rfl) _ _ 47 (by rfl) 52 i0 _ 8 120 Tryz.underlying47 hI hz0 hz1 hz2 rfl (by decide) T.out (by rfl) _ _ 1 1 [.string Sg.bid,.string Sg.be,.string Sg.be,.int .i64 0,.int .i64 x,.int .i64 0,.slice none 0 0,.slice none 0 0] (by rfl) (reads_blk hblk rfl) (by simp [Value.oneCell']) (by unfold maxLen;omega) (by omega) ?_
 intro v5 w5 M5 h5 _
 obtain ⟨A5,c5,rfl⟩:=h5.form
 have hq:=h5.box (.head _);have f3:=hq.frozen 3;have q3:=hq.cell 3;(simp at q3);clear hq
 have T5:=aI (h5.putF (news:=[Sg.idF x]) (Flat.single (fld_mk (by decide) (by decide) (by decide) (by unfold inI;omega) (by unfold inI;omega) (by unfold inI;omega) rep_nil rep_nil)))
 clear h5 hI hz0 hz1 hz2 hblk T hfl
 go_wp2_with fail
 go_meet
 case rel=>exact ⟨x,HX.out,KSt.mk1 T5.out rfl⟩
noncomputable def kmn_2_code:Code:=((Tryz.f27.body.bind (regAt 19)).getD .skip)
theorem kmn_2 {K:MkK} {_M:List Nat} {bx:List Box} {rs:List Rw} {L:List (List Nat->World->Prop)} {_W:World} {ks:List Knd} {n:Nat} {c0:Nat} {rb:Nat} {lo:Int} {hi:Int} {nm:ByteArray} {u8 u9 u10 u11:Value} {fs:List Fld} {ks':List Knd} {u14 u15 u16 u17 u18 u19 u20 u21 u22 u23 u24 u25 u26 u27 u28 u29 u30 u31 u32 u33 u34 u35 u36 u37 u38 u39 u40 u41 u42 u43 u44 u45 u46 u47 u48 u49 u50 u51 u52 u53 u54 u55 u56 u57 u58 u59 u60 u61 u62 u63 u64 u65 u66 u67 u68 u69 u70 u71 u72 u73 u74 u75 u76 u77 u78 u79 u80 u81 u82 u83 u84 u85 u86 u87 u88 u89 u90 u91 u92 u93 u94 u95 u96 u97 u98 u99 u100 u101 u102 u103 u104 u105 u106 u107 u108 u109 u110 u111 u112 u113 u114 u115 u116 u117 u118 u119 u120 u121 u122 u123 u124 u125 u126 u127 u128 u129 u130 u131 u132 u133 u134 u135 u136 u137 u138 u139 u140 u141 u143 u144 u145 u146 u147 u148 u149 u150 u151 u152 u153 u154 u155 u156 u157 u158 u159 u160 u161 u162 u163 u164 u165 u166 u167 u168 u169 u170 u171 u172 u173 u174 u175 u176 u177 u178 u179 u180 u181 u182 u183:Value} {M1:List Nat} {kb:Nat} {fv:Value} {fxs:List Value} {kxs:List Value} {g:Nat} {nmo:ByteArray} {wo:World}  {J_ K_:Act->World->Prop} {Q_:Exit->Act->World->Prop} {cd_:Code} (hcd_:cd_=kmn_2_code) (hn2:n<=2) (HN:Hid (n=ks.length)) (_lo0:(0:Int)<=lo) (_lo4:lo<=(4:Int)) (_hi1:lo<=hi) (_hi2:hi<=lo+(4:Int)) (_hnm:Sg.kname n=nm) (HFL:Hid (fs.length<=4)) (hn1:2<=n) (hn0:0 < n) (hzk:0 < ks'.length) (s4:nmo.size<=9223372036854775807) (HNM:Hid (ks'[0].fst=nmo)) (HQ0:Hid (kxs[0*4]?=some (Value.string nmo))) (_hb:True->2<=n) (H: Hid (MkH K M1 ((kb,(49:TypeId),#[Value.string nm,Value.int IntKind.i64 lo,Value.int IntKind.i64 hi,fv])::(rb,(49:TypeId),#[Value.string { data:=#[] },Value.int IntKind.i64 (0:Int),Value.int IntKind.i64 (0:Int),Value.slice none 0 0])::bx) ({ e:=(52:TypeId),size:=8,v:=fv,n:=fs.length,xs:=fxs }::{ e:=(49:TypeId),size:=4,v:=Value.slice (some (Addr.mk (g) (0) none)) n c0,n:=n,xs:=kxs }::rs) ((fun M W=>Flat M W fs fxs)::(fun M W=>Flat M W ks' kxs)::L) wo))
  (hJ_:∀ (a':Act) (w':World),(∃ u14 u15 u16 u17 u18 u19 u20 u21 u22 u23 u24 u25 u26 u27 u28 u29 u30 u31 u32 u33 u34 u35 u36 u37 u38 u39 u40 u41 u42 u43 u44 u45 u46 u47 u48 u49 u50 u51 u52 u53 u54 u55 u56 u57 u58 u59 u60 u61 u62 u63 u64 u65 u66 u67 u68 u69 u70 u71 u72 u73 u74 u75 u76 u77 u78 u79 u80 u81 u82 u83 u84 u85 u86 u87 u88 u89 u90 u91 u92 u93 u94 u95 u96 u97 u98 u99 u100 u101 u102 u103 u104 u105 u106 u107 u108 u109 u110 u111 u112 u113 u114 u115 u116 u117 u118 u119 u120 u121 u122 u123 u124 u125 u126 u127 u128 u129 u130 u131 u132 u133 u134 u135 u136 u137 u138 u139 u140 u141 u142 u143 u144 u145 u146 u147 u148 u149 u150 u151 u152 u153 u154 u155 u156 u157 u158 u159 u160 u161 u162 u163 u164 u165 u166 u167 u168 u169 u170 u171 u172 u173 u174 u175 u176 u177 u178 u179 u180 u181 u182 u183,((∃ by_,Sg.By ks ks' by_/\KSt K bx rs L rb n (Value.slice (some (Addr.mk (g) (0) none)) n c0) (Value.pointer (some (Addr.mk (kb) (0) none))) nm lo hi (fs++by_) ks' w'))/\a'=⟨(K.p::(Value.slice (some (Addr.mk (g) (0) none)) n c0)::undef::undef::(Value.pointer (some (Addr.mk (rb) (0) none)))::(Value.int IntKind.i64 (↑n:Int))::(Value.int IntKind.i64 lo)::(Value.pointer (some (Addr.mk (kb) (0) none)))::u8::u9::u10::u11::undef::undef::u14::u15::u16::u17::u18::u19::u20::u21::u22::u23::u24::u25::u26::u27::u28::u29::u30::u31::u32::u33::u34::u35::u36::u37::u38::u39::u40::u41::u42::u43::u44::u45::u46::u47::u48::u49::u50::u51::u52::u53::u54::u55::u56::u57::u58::u59::u60::u61::u62::u63::u64::u65::u66::u67::u68::u69::u70::u71::u72::u73::u74::u75::u76::u77::u78::u79::u80::u81::u82::u83::u84::u85::u86::u87::u88::u89::u90::u91::u92::u93::u94::u95::u96::u97::u98::u99::u100::u101::u102::u103::u104::u105::u106::u107::u108::u109::u110::u111::u112::u113::u114::u115::u116::u117::u118::u119::u120::u121::u122::u123::u124::u125::u126::u127::u128::u129::u130::u131::u132::u133::u134::u135::u136::u137::u138::u139::u140::u141::u142::u143::u144::u145::u146::u147::u148::u149::u150::u151::u152::u153::u154::u155::u156::u157::u158::u159::u160::u161::u162::u163::u164::u165::u166::u167::u168::u169::u170::u171::u172::u173::u174::u175::u176::u177::u178::u179::u180::u181::u182::u183::[]).toArray,[]⟩)->J_ a' w') (hM_:∀ (a':Act) (w':World),Met J_ a' w'->K_ a' w') :
  Code.wp Tryz.prog cd_ (Exit.then K_ Q_) ⟨(K.p::(Value.slice (some (Addr.mk (g) (0) none)) n c0)::undef::undef::(Value.pointer (some (Addr.mk (rb) (0) none)))::(Value.int IntKind.i64 (↑n:Int))::(Value.int IntKind.i64 lo)::(Value.pointer (some (Addr.mk (kb) (0) none)))::u8::u9::u10::u11::undef::undef::u14::u15::u16::u17::u18::u19::u20::u21::u22::u23::u24::u25::u26::u27::u28::u29::u30::u31::u32::u33::u34::u35::u36::u37::u38::u39::u40::u41::u42::u43::u44::u45::u46::u47::u48::u49::u50::u51::u52::u53::u54::u55::u56::u57::u58::u59::u60::u61::u62::u63::u64::u65::u66::u67::u68::u69::u70::u71::u72::u73::u74::u75::u76::u77::u78::u79::u80::u81::u82::u83::u84::u85::u86::u87::u88::u89::u90::u91::u92::u93::u94::u95::u96::u97::u98::u99::u100::u101::u102::u103::u104::u105::u106::u107::u108::u109::u110::u111::u112::u113::u114::u115::u116::u117::u118::u119::u120::u121::u122::u123::u124::u125::u126::u127::u128::u129::u130::u131::u132::u133::u134::u135::u136::u137::u138::u139::u140::u141::(Value.bool true)::u143::u144::u145::u146::u147::u148::u149::u150::u151::u152::u153::u154::u155::u156::u157::u158::u159::u160::u161::u162::u163::u164::u165::u166::u167::u168::u169::u170::u171::u172::u173::u174::u175::u176::u177::u178::u179::u180::u181::u182::u183::[]).toArray,[]⟩ wo:=by
 subst hcd_
 conv=>arg 2;whnf
 letI:Grow:=K.grow
 apply RG.wp_region_typed (C:=fun w'=>K.R wo w') (n:=184) (m:=8) (l1:=[_,_,_,_,_,_,_,_]) (l2:=[_,_,_])
 ·rfl
 ·rfl
 ·kernel_rfl
 ·rfl
 ·kernel_rfl
 ·exact K.drew wo
 ·exact fun u u' h hb=>h.trans hb
 iterate 2 ((apply RG.wpT_exact;· (intro w' hC hf;unfold RG.Gives;have q:=(H.out.turn hC).box (.head _);have q3:=q.cell 3;(simp at q3);clear q;clear hf hC;go_wp2_with (fail);apply RG.postT_val rfl (Grow.refl _);simp only [RG.valAt,aV];exact rfl));(try simp only [Act.put,aZ]))
 iterate 3 ((apply RG.wpT_exact;· (intro w' hC hf;unfold RG.Gives;clear hf hC;go_wp2_with (fail);apply RG.postT_val rfl (Grow.refl _);simp only [RG.valAt,aV];exact rfl));(try simp only [Act.put,aZ]))
 (apply RG.wpT_exact;· (intro w' hC hf;unfold RG.Gives;have q:=(H.out.turn hC).rcell (.tail _ (.head _)) hn0 HQ0.out;(try simp at q);clear hf hC;go_wp2_with (fail);apply RG.postT_val rfl (Grow.refl _);simp only [RG.valAt,aV];exact rfl));(try simp only [Act.put,aZ])
 (apply RG.wpT_exact;· (intro w' hC hf;unfold RG.Gives;clear hf hC;go_wp2_with (fail);apply RG.postT_val rfl (Grow.refl _);simp only [RG.valAt,aV];exact rfl));(try simp only [Act.put,aZ])
 apply RG.wpT_typed (litT_kept K wo.heap.size 1 52 (fun cs=>cs=#[.string Sg.bby,.string nmo,.string Sg.be,.int .i64 1,.int .i64 0,.int .i64 8,.slice none 0 0,.slice none 0 0]) H.out.gmLt)
 ·intro w' hC hf;unfold RG.Gives;clear hf
  have hs:=aI (K.size hC)
  clear hC
  go_wp2_with fail
  refine RG.postT_mk rfl (K.grown (by go_grown)) ?_;simp only [RG.valAt,aV]
  exact ⟨_,_,rfl,rfl,hs.out,Blk.new _ _ _⟩
 intro v150;(try simp only [Act.put,aZ])
 apply RG.wpT_done
 intro w4 hC hall
 obtain ⟨cs,N2,rfl,rfl,hge,hblk⟩:=hall.1
 have T:=aI (H.out.turn hC)
 clear hall hC H this
 have hfl:(fs:List Fld).length<=8:=by have:=HFL.out;omega
 obtain ⟨i0,hI,hz0,hz1,hz2⟩:=info_parts infoFld
 refine wpList_append_mk (by rfl) _ _ 47 (by rfl) 52 i0 _ 8 120 Tryz.underlying47 hI hz0 hz1 hz2 rfl (by decide) T.out (by rfl) _ _ 1 1 [.string Sg.bby,.string nmo,.string Sg.be,.int .i64 1,.int .i64 0,.int .i64 8,.slice none 0 0,.slice none 0 0] (by rfl) (reads_blk hblk rfl) (by simp [Value.oneCell']) (by unfold maxLen;omega) (by omega) ?_
 intro v5 w5 M5 h5 _
 obtain ⟨A5,c5,rfl⟩:=h5.form
 have hq:=h5.box (.head _);have f3:=hq.frozen 3;have q3:=hq.cell 3;(simp at q3);clear hq
 have T5:=aI (h5.putF (news:=[Sg.byF nmo]) (Flat.single (fld_mk (by decide) s4 (by decide) (by unfold inI;omega) (by unfold inI;omega) (by unfold inI;omega) rep_nil rep_nil)))
 clear h5 hI hz0 hz1 hz2 hblk T hfl
 go_wp2_with fail
 go_meet
 case rel =>
  refine ⟨[Sg.byF nmo],.inr ⟨?_,ks'[0],List.getElem?_eq_getElem hzk,by rw [HNM.out]⟩,KSt.mk1 T5.out rfl⟩
  have:=HN.out
  omega
noncomputable def kmn_3_code:Code:=((Tryz.f27.body.bind (regAt 24)).getD .skip)
theorem kmn_3 {K:MkK} {_M:List Nat} {bx:List Box} {rs:List Rw} {L:List (List Nat->World->Prop)} {_W:World} {n:Nat} {A0:Option Addr} {c0:Nat} {rb:Nat} {lo:Int} {hi:Int} {nm:ByteArray} {u8 u9 u10 u11:Value} {ks':List Knd} {_b:Bool} {fs3:List Fld} {kb:Nat} {m0:Nat} {u12 u14 u15 u16 u17 u18 u19 u20 u21 u22 u23 u24 u25 u26 u27 u28 u29 u30 u31 u32 u33 u34 u35 u36 u37 u38 u39 u40 u41 u42 u43 u44 u45 u46 u47 u48 u49 u50 u51 u52 u53 u54 u55 u56 u57 u58 u59 u60 u61 u62 u63 u64 u65 u66 u67 u68 u69 u70 u71 u72 u73 u74 u75 u76 u77 u78 u79 u80 u81 u82 u83 u84 u85 u86 u87 u88 u89 u90 u91 u92 u93 u94 u95 u96 u97 u98 u99 u100 u101 u102 u103 u104 u105 u106 u107 u108 u109 u110 u111 u112 u113 u114 u115 u116 u117 u118 u119 u120 u121 u122 u123 u124 u125 u126 u127 u128 u129 u130 u131 u132 u133 u134 u135 u136 u137 u138 u139 u140 u141 u142 u143 u144 u145 u146 u147 u148 u149 u150 u151 u152 u153 u154 u155 u156 u157 u158 u159 u165 u166 u167 u168 u169 u170 u171 u172 u173 u174 u175 u176 u177 u178 u179 u180 u181 u182 u183:Value} {fs4:List Fld} {fxs:List Value} {kxs:List Value} {c1:Nat} {M2:List Nat} {f:Fld} {r:List Fld} {b1:Nat} {o1:Nat} {A4:Option Addr} {c4:Nat} {nmf:ByteArray} {x4:Int} {wo:World}  {J_ K_:Act->World->Prop} {Q_:Exit->Act->World->Prop} {cd_:Code} (hcd_:cd_=kmn_3_code) (_hn2:n<=2) (_lo0:(0:Int)<=lo) (_lo4:lo<=(4:Int)) (_hi1:lo<=hi) (_hi2:hi<=lo+(4:Int)) (_hnm:Sg.kname n=nm) (_hm3:fs3.length<=5) (_hml:m0<=2) (HFL4:Hid (fs4.length<=7)) (_v1:(0:Int)<=(0:Int)) (_v2:(0:Int) < (2:Int)) (_pc2:c1<=9223372036854775807) (_pc1:r.length+1<=c1) (_hml2:r.length+1<=2) (_t1:decide ((0:Int) < (↑(r.length+1):Int))=true) (HNF:Hid (Sc.nm f=nmf)) (HX4:Hid (Sc.ix (Sc.named nmf) fs4=x4)) (H: Hid (MkH K M2 ((kb,(49:TypeId),#[Value.string nm,Value.int IntKind.i64 lo,Value.int IntKind.i64 hi,Value.slice A4 fs4.length c4])::(rb,(49:TypeId),#[Value.string { data:=#[] },Value.int IntKind.i64 (0:Int),Value.int IntKind.i64 (0:Int),Value.slice none 0 0])::bx) ({ e:=(52:TypeId),size:=8,v:=Value.slice A4 fs4.length c4,n:=fs4.length,xs:=fxs }::{ e:=(49:TypeId),size:=4,v:=Value.slice A0 n c0,n:=n,xs:=kxs }::rs) ((fun M W=>SlAt M W (some (Addr.mk (b1) (o1) none)) (f::r))::(fun M W=>Flat M W fs4 fxs)::(fun M W=>Flat M W ks' kxs)::L) wo))
  (hJ_:∀ (a':Act) (w':World),(∃ u14 u15 u16 u17 u18 u19 u20 u21 u22 u23 u24 u25 u26 u27 u28 u29 u30 u31 u32 u33 u34 u35 u36 u37 u38 u39 u40 u41 u42 u43 u44 u45 u46 u47 u48 u49 u50 u51 u52 u53 u54 u55 u56 u57 u58 u59 u60 u61 u62 u63 u64 u65 u66 u67 u68 u69 u70 u71 u72 u73 u74 u75 u76 u77 u78 u79 u80 u81 u82 u83 u84 u85 u86 u87 u88 u89 u90 u91 u92 u93 u94 u95 u96 u97 u98 u99 u100 u101 u102 u103 u104 u105 u106 u107 u108 u109 u110 u111 u112 u113 u114 u115 u116 u117 u118 u119 u120 u121 u122 u123 u124 u125 u126 u127 u128 u129 u130 u131 u132 u133 u134 u135 u136 u137 u138 u139 u140 u141 u142 u143 u144 u145 u146 u147 u148 u149 u150 u151 u152 u153 u154 u155 u156 u157 u158 u159 u160 u161 u162 u163 u164 u165 u166 u167 u168 u169 u170 u171 u172 u173 u174 u175 u176 u177 u178 u179 u180 u181 u182 u183,((∃ b,u177=Value.bool b/\(b=true->∃ f_1 r_1,f::r=f_1::r_1/\Sc.ix (Sc.named (Sc.nm f_1)) fs4 < (0:Int))/\∃ M,MkH K M ((kb,(49:TypeId),#[Value.string nm,Value.int IntKind.i64 lo,Value.int IntKind.i64 hi,Value.slice A4 fs4.length c4])::(rb,(49:TypeId),#[Value.string { data:=#[] },Value.int IntKind.i64 (0:Int),Value.int IntKind.i64 (0:Int),Value.slice none 0 0])::bx) ({ e:=(52:TypeId),size:=8,v:=Value.slice A4 fs4.length c4,n:=fs4.length,xs:=fxs }::{ e:=(49:TypeId),size:=4,v:=Value.slice A0 n c0,n:=n,xs:=kxs }::rs) ((fun M W=>SlAt M W (some (Addr.mk (b1) (o1) none)) (f::r))::(fun M W=>Flat M W fs4 fxs)::(fun M W=>Flat M W ks' kxs)::L) w'))/\a'=⟨(K.p::(Value.slice A0 n c0)::undef::undef::(Value.pointer (some (Addr.mk (rb) (0) none)))::(Value.int IntKind.i64 (↑n:Int))::(Value.int IntKind.i64 lo)::(Value.pointer (some (Addr.mk (kb) (0) none)))::u8::u9::u10::u11::u12::(Value.slice (some (Addr.mk (b1) (o1) none)) (r.length+1) c1)::u14::u15::u16::u17::u18::u19::u20::u21::u22::u23::u24::u25::u26::u27::u28::u29::u30::u31::u32::u33::u34::u35::u36::u37::u38::u39::u40::u41::u42::u43::u44::u45::u46::u47::u48::u49::u50::u51::u52::u53::u54::u55::u56::u57::u58::u59::u60::u61::u62::u63::u64::u65::u66::u67::u68::u69::u70::u71::u72::u73::u74::u75::u76::u77::u78::u79::u80::u81::u82::u83::u84::u85::u86::u87::u88::u89::u90::u91::u92::u93::u94::u95::u96::u97::u98::u99::u100::u101::u102::u103::u104::u105::u106::u107::u108::u109::u110::u111::u112::u113::u114::u115::u116::u117::u118::u119::u120::u121::u122::u123::u124::u125::u126::u127::u128::u129::u130::u131::u132::u133::u134::u135::u136::u137::u138::u139::u140::u141::u142::u143::u144::u145::u146::u147::u148::u149::u150::u151::u152::u153::u154::u155::u156::u157::u158::u159::u160::u161::u162::u163::u164::u165::u166::u167::u168::u169::u170::u171::u172::u173::u174::u175::u176::u177::u178::u179::u180::u181::u182::u183::[]).toArray,[]⟩)->J_ a' w') (hM_:∀ (a':Act) (w':World),Met J_ a' w'->K_ a' w') :
  Code.wp Tryz.prog cd_ (Exit.then K_ Q_) ⟨(K.p::(Value.slice A0 n c0)::undef::undef::(Value.pointer (some (Addr.mk (rb) (0) none)))::(Value.int IntKind.i64 (↑n:Int))::(Value.int IntKind.i64 lo)::(Value.pointer (some (Addr.mk (kb) (0) none)))::u8::u9::u10::u11::u12::(Value.slice (some (Addr.mk (b1) (o1) none)) (r.length+1) c1)::u14::u15::u16::u17::u18::u19::u20::u21::u22::u23::u24::u25::u26::u27::u28::u29::u30::u31::u32::u33::u34::u35::u36::u37::u38::u39::u40::u41::u42::u43::u44::u45::u46::u47::u48::u49::u50::u51::u52::u53::u54::u55::u56::u57::u58::u59::u60::u61::u62::u63::u64::u65::u66::u67::u68::u69::u70::u71::u72::u73::u74::u75::u76::u77::u78::u79::u80::u81::u82::u83::u84::u85::u86::u87::u88::u89::u90::u91::u92::u93::u94::u95::u96::u97::u98::u99::u100::u101::u102::u103::u104::u105::u106::u107::u108::u109::u110::u111::u112::u113::u114::u115::u116::u117::u118::u119::u120::u121::u122::u123::u124::u125::u126::u127::u128::u129::u130::u131::u132::u133::u134::u135::u136::u137::u138::u139::u140::u141::u142::u143::u144::u145::u146::u147::u148::u149::u150::u151::u152::u153::u154::u155::u156::u157::u158::u159::K.p::(Value.int IntKind.i64 (0:Int))::(Value.bool true)::K.p::(Value.slice (some (Addr.mk (b1) (o1) none)) (r.length+1) c1)::u165::u166::u167::u168::u169::u170::u171::u172::u173::u174::u175::u176::u177::u178::u179::u180::u181::u182::u183::[]).toArray,[]⟩ wo:=by
 subst hcd_
 conv=>arg 2;whnf
 letI:Grow:=K.grow
 apply RG.wp_region_typed (C:=fun w'=>K.R wo w') (n:=184) (m:=13) (l1:=[_,_,_,_,_,_,_,_,_,_,_,_,_]) (l2:=[])
 ·rfl
 ·rfl
 ·kernel_rfl
 ·rfl
 ·kernel_rfl
 ·exact K.drew wo
 ·exact fun u u' h hb=>h.trans hb
 iterate 5 ((apply RG.wpT_exact;· (intro w' hC hf;unfold RG.Gives;clear hf hC;go_wp2_with (fail);apply RG.postT_val rfl (Grow.refl _);simp only [RG.valAt,aV];exact rfl));(try simp only [Act.put,aZ]))
 (apply RG.wpT_exact;· (intro w' hC hf;unfold RG.Gives;have q:=(H.out.turn hC).box (.head _);have q3:=q.cell 3;(simp at q3);clear q;clear hf hC;go_wp2_with (fail);apply RG.postT_val rfl (Grow.refl _);simp only [RG.valAt,aV];exact rfl));(try simp only [Act.put,aZ])
 iterate 3 ((apply RG.wpT_exact;· (intro w' hC hf;unfold RG.Gives;clear hf hC;go_wp2_with (fail);apply RG.postT_val rfl (Grow.refl _);simp only [RG.valAt,aV];exact rfl));(try simp only [Act.put,aZ]))
 (apply RG.wpT_exact;· (intro w' hC hf;unfold RG.Gives;obtain ⟨b',o',_,_,_,_,hbo,_,q,_⟩:=fld_at ((H.out.turn hC).fact (.head _)) 0 (by simp);(simp only [List.getElem_cons_zero] at q);rw [HNF.out] at q;(injection hbo with hbo;injection hbo with hb1 hb2;subst hb1;subst hb2);(try simp at q);clear hf hC;go_wp2_with (fail);apply RG.postT_val rfl (Grow.refl _);simp only [RG.valAt,aV];exact rfl));(try simp only [Act.put,aZ])
 apply RG.wpT_exact (c:=.int .i64 x4)
 ·intro w' hC hf;unfold RG.Gives;clear hf
  obtain ⟨A4',c4',e4,_,_,hs4⟩:=(H.out.turn hC).rowSl (α:=Fld) (.head _) ((H.out.turn hC).fact (.tail _ (.head _)))
  obtain rfl:A4=A4':=by injection e4
  have hm4:=HFL4.out
  have CC:=has_any fs4 A4 c4 nmf w' hs4 (by omega)
  rw [HX4.out] at CC
  clear hs4 e4
  go_wp2_with (go_at_call 72;(with_reducible refine CC.mono ?_);rintro e w3 ⟨rfl,hb⟩)
  apply RG.postT_val rfl (K.grown hb);simp only [RG.valAt,aV]
 (try simp only [Act.put,aZ])
 iterate 2 ((apply RG.wpT_exact;· (intro w' hC hf;unfold RG.Gives;clear hf hC;go_wp2_with (fail);apply RG.postT_val rfl (Grow.refl _);simp only [RG.valAt,aV];exact rfl));(try simp only [Act.put,aZ]))
 apply RG.wpT_done
 intro w4 hC hall
 have T:=aI (H.out.turn hC)
 clear hall hC H
 go_wp2_with fail
 go_meet
 case rel=>exact ⟨_,rfl,fun h=>⟨f,r,rfl,by rw [HNF.out,HX4.out];exact of_decide_eq_true h⟩,_,T.out⟩
end
end Go.Proofs.YtmplaikgbeeikaaGreatDoor
