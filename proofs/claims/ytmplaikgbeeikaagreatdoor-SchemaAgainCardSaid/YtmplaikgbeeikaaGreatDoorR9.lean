/- Parts of the proof, joined: W36q. -/
import Derived.Test.YtmplaikgbeeikaaGreatDoorR7
set_option linter.unusedVariables false
set_option linter.unusedSimpArgs false
set_option linter.unusedSectionVars false
namespace Go.Proofs.YtmplaikgbeeikaaGreatDoor
open Go Go.RowKit
noncomputable def kmn_0_code:Code:=((Tryz.f27.body.bind (regAt 3)).getD .skip)
set_option maxRecDepth 1000000 in
set_option maxHeartbeats 100000000 in
theorem kmn_0 {K:MkK} {M:List Nat} {bx:List Box} {rs:List Rw} {L:List (List Nat→World→Prop)} {_W:World} {ks:List Knd} {n:Nat} {kxs:List Value} {A0:Option Addr} {c0:Nat} {rb:Nat} {z:Nat} {lo:Int} {wo:World}  {J_ K_:Act→World→Prop} {Q_:Exit→Act→World→Prop} {cd_:Code} (hcd_:cd_=kmn_0_code) (hn2:n≤2) (_z1:(0:Int)≤(↑z:Int)) (_z2:(↑z:Int) < (6:Int)) (lo0:(0:Int)≤lo) (lo4:lo≤(4:Int)) (_z3:(↑z:Int) < (6:Int)) (H: Hid (MkH K (rb::M) ((rb,(49:TypeId),#[Value.string { data:=#[] },Value.int IntKind.i64 (0:Int),Value.int IntKind.i64 (0:Int),Value.slice none 0 0])::bx) ({ e:=(49:TypeId),size:=4,v:=Value.slice A0 n c0,n:=n,xs:=kxs }::rs) ((fun M W=>Flat M W ks kxs)::L) wo))
  (hJ_:∀ (a':Act) (w':World),(∃ u7 u14 u15 u16 u17 u18 u19 u20 u21 u22 u23 u24 u25 u26 u27 u28 u29 u30 u31 u32 u33 u34 u35 u36 u37 u38 u39 u40 u41 u42 u43 u44 u45 u46 u47 u48 u49 u50 u51 u52 u53 u54 u55 u56 u57 u58 u59 u60 u61 u62 u63 u64 u65 u66 u67 u68 u69 u70 u71 u72 u73 u74 u75 u76 u77 u78 u79 u80 u81 u82 u83 u84 u85 u86 u87 u88 u89 u90 u91 u92 u93 u94 u95 u96 u97 u98 u99 u100 u101 u102 u103 u104 u105 u106 u107 u108 u109 u110 u111 u112 u113 u114 u115 u116 u117 u118 u119 u120 u121 u122 u123 u124 u125 u126 u127 u128 u129 u130 u131 u132 u133 u134 u135 u136 u137 u138 u139 u140 u141 u142 u143 u144 u145 u146 u147 u148 u149 u150 u151 u152 u153 u154 u155 u156 u157 u158 u159 u160 u161 u162 u163 u164 u165 u166 u167 u168 u169 u170 u171 u172 u173 u174 u175 u176 u177 u178 u179 u180 u181 u182 u183,((∃ hi,lo≤hi∧hi≤lo+(4:Int)∧KSt K bx rs L rb n (Value.slice A0 n c0) u7 (Sg.kname n) lo hi [] ks w'))∧a'=⟨(K.p::(Value.slice A0 n c0)::undef::undef::(Value.pointer (some (Addr.mk (rb) (0) none)))::(Value.int IntKind.i64 (↑n:Int))::(Value.int IntKind.i64 lo)::u7::undef::undef::undef::undef::undef::undef::u14::u15::u16::u17::u18::u19::u20::u21::u22::u23::u24::u25::u26::u27::u28::u29::u30::u31::u32::u33::u34::u35::u36::u37::u38::u39::u40::u41::u42::u43::u44::u45::u46::u47::u48::u49::u50::u51::u52::u53::u54::u55::u56::u57::u58::u59::u60::u61::u62::u63::u64::u65::u66::u67::u68::u69::u70::u71::u72::u73::u74::u75::u76::u77::u78::u79::u80::u81::u82::u83::u84::u85::u86::u87::u88::u89::u90::u91::u92::u93::u94::u95::u96::u97::u98::u99::u100::u101::u102::u103::u104::u105::u106::u107::u108::u109::u110::u111::u112::u113::u114::u115::u116::u117::u118::u119::u120::u121::u122::u123::u124::u125::u126::u127::u128::u129::u130::u131::u132::u133::u134::u135::u136::u137::u138::u139::u140::u141::u142::u143::u144::u145::u146::u147::u148::u149::u150::u151::u152::u153::u154::u155::u156::u157::u158::u159::u160::u161::u162::u163::u164::u165::u166::u167::u168::u169::u170::u171::u172::u173::u174::u175::u176::u177::u178::u179::u180::u181::u182::u183::[]).toArray,[]⟩)→J_ a' w') (hM_:∀ (a':Act) (w':World),Met J_ a' w'→K_ a' w') :
  Code.wp Tryz.prog cd_ (Exit.then K_ Q_) ⟨(K.p::(Value.slice A0 n c0)::undef::undef::(Value.pointer (some (Addr.mk (rb) (0) none)))::(Value.int IntKind.i64 (↑n:Int))::(Value.int IntKind.i64 lo)::undef::undef::undef::undef::undef::undef::undef::(Value.slice A0 n c0)::(Value.int IntKind.i64 (↑n:Int))::(Value.slice (some (Addr.mk (rb+1) (0) none)) 6 6)::K.p::(Value.int IntKind.i64 (↑z:Int))::(Value.pointer (some (Addr.mk (rb+1) (z) none)))::(Value.int IntKind.i64 lo)::undef::undef::undef::undef::undef::undef::undef::undef::undef::undef::undef::undef::undef::undef::undef::undef::undef::undef::undef::undef::undef::undef::undef::undef::undef::undef::undef::undef::undef::undef::undef::undef::undef::undef::undef::undef::undef::undef::undef::undef::undef::undef::undef::undef::undef::undef::undef::undef::undef::undef::undef::undef::undef::undef::undef::undef::undef::undef::undef::undef::undef::undef::undef::undef::undef::undef::undef::undef::undef::undef::undef::undef::undef::undef::undef::undef::undef::undef::undef::undef::undef::undef::undef::undef::undef::undef::undef::undef::undef::undef::undef::undef::undef::undef::undef::undef::undef::undef::undef::undef::undef::undef::undef::undef::undef::undef::undef::undef::undef::undef::undef::undef::undef::undef::undef::undef::undef::undef::undef::undef::undef::undef::undef::undef::undef::undef::undef::undef::undef::undef::undef::undef::undef::undef::undef::undef::undef::undef::undef::undef::undef::undef::undef::undef::undef::undef::undef::undef::undef::undef::undef::undef::undef::undef::undef::undef::undef::undef::undef::undef::undef::undef::undef::[]).toArray,[]⟩ wo:=by
 subst hcd_
 conv=>arg 2;whnf
 letI:Grow:=K.grow
 apply RG.wp_region_typed (C:=fun w'=>K.R wo w') (n:=184) (m:=11) (l1:=[_,_,_,_,_,_,_,_,_,_,_]) (l2:=[_])
 ·rfl
 ·rfl
 ·kernel_rfl
 ·rfl
 ·kernel_rfl
 ·exact K.drew wo
 ·exact fun u u' h hb=>h.trans hb
 apply RG.wpT_typed (litT_kept K wo.heap.size 3 9 (fun cs=>cs=#[.string ⟨#[112,101,114,115,111,110]⟩,.string ⟨#[111,114,100,101,114]⟩,.string ⟨#[105,116,101,109]⟩]) H.out.gmLt)
 ·intro w' hC hf;unfold RG.Gives;clear hf
  have hs:=aI (K.size hC)
  clear hC
  go_wp2_with fail
  refine RG.postT_mk rfl (K.grown (by go_grown)) ?_;simp only [RG.valAt,aA,aE,aC,aD,aH]
  exact ⟨_,_,rfl,rfl,hs.out,Blk.new _ _ _⟩
 intro v21;(try simp only [Act.put,aB,aF,aG])
 (apply RG.wpT_exact;· (intro w' hC hf;unfold RG.Gives;clear hf hC;go_wp2_with (fail);apply RG.postT_val rfl (Grow.refl _);simp only [RG.valAt,aA,aE,aC,aD,aH];exact rfl));(try simp only [Act.put,aB,aF,aG])
 apply RG.wpT_typed (T:=PtrT wo.heap.size 9 (fun cs i=>cs[i]?=some (.string (Sg.kname n)))) (ptrT_kept K _ _ _ H.out.gmLt)
 ·intro w' hC hf;unfold RG.Gives;obtain ⟨cs,N,rfl,rfl,hge,hblk⟩:=hf.1 rfl;clear hf
  have k1:(n:Int) < 3:=by omega
  go_wp2_with fail
  refine RG.postT_mk rfl (Grow.refl _) ?_;simp only [RG.valAt,aA,aE,aC,aD,aH];exact ⟨_,N,n,by first | rfl | simp [Addr.add],names_at n hn2,hge,hblk⟩
 intro v23;(try simp only [Act.put,aB,aF,aG])
 (apply RG.wpT_exact;· (intro w' hC hf;unfold RG.Gives;obtain ⟨cs,N,i,rfl,hq,hge,hblk⟩:=hf.1 rfl;have q:=hblk.cell i;rw [hq] at q;clear hge hblk hq;clear hf hC;go_wp2_with (fail);apply RG.postT_val rfl (Grow.refl _);simp only [RG.valAt,aA,aE,aC,aD,aH];exact rfl));(try simp only [Act.put,aB,aF,aG])
 iterate 3 ((apply RG.wpT_exact;· (intro w' hC hf;unfold RG.Gives;clear hf hC;go_wp2_with (fail);apply RG.postT_val rfl (Grow.refl _);simp only [RG.valAt,aA,aE,aC,aD,aH];exact rfl));(try simp only [Act.put,aB,aF,aG]))
 apply RG.wpT_typed (T:=fun v _=>∃ z:Nat,v=.int .i64 (z:Int)∧z < 5) (fun v w w' h _=>h)
 ·intro w' hC hf;unfold RG.Gives;clear hf
  go_wp2_with fail
  go_at_call 26
  refine ((H.out.turn hC).take 5 (by omega) (by omega)).mono ?_
  rintro e w3 ⟨v,rfl,v1,v2,hr⟩
  obtain ⟨z,rfl⟩:∃ z':Nat,v=z':=⟨v.toNat,by omega⟩
  go_wp2_with fail
  refine RG.postT_mk rfl hr ?_;simp only [RG.valAt,aA,aE,aC,aD,aH];exact ⟨z,rfl,by omega⟩
 intro v28;(try simp only [Act.put,aB,aF,aG])
 apply RG.wpT_typed (T:=fun v _=>∃ z:Nat,v=.int .i64 (lo+z)∧z < 5) (fun v w w' h _=>h)
 ·intro w' hC hf;unfold RG.Gives;obtain ⟨z,rfl,z1⟩:=hf.1 rfl;clear hC;clear hf
  go_wp2_with fail
  refine RG.postT_mk rfl (Grow.refl _) ?_;simp only [RG.valAt,aA,aE,aC,aD,aH];exact ⟨z,rfl,z1⟩
 intro v29;(try simp only [Act.put,aB,aF,aG])
 apply RG.wpT_typed (T:=fun v _=>∃ z:Nat,v=.agg #[.string (Sg.kname n),.int .i64 lo,.int .i64 (lo+z),.slice none 0 0]∧z < 5) (fun v w w' h _=>h)
 ·intro w' hC hf;unfold RG.Gives;obtain ⟨z,rfl,z1⟩:=hf.1 rfl;clear hC;clear hf
  go_wp2_with fail
  refine RG.postT_mk rfl (Grow.refl _) ?_;simp only [RG.valAt,aA,aE,aC,aD,aH];exact ⟨z,rfl,z1⟩
 intro v30;(try simp only [Act.put,aB,aF,aG])
 apply RG.wpT_typed (ptrT_kept K wo.heap.size 49 (fun cs i=>cs=#[.string ⟨#[]⟩,.int .i64 0,.int .i64 0,.slice none 0 0]∧i=0) H.out.gmLt)
 ·intro w' hC hf;unfold RG.Gives;clear hf
  have hs:=aI (K.size hC)
  clear hC
  go_wp2_with fail
  refine RG.postT_mk rfl (K.grown (by go_grown)) ?_;simp only [RG.valAt,aA,aE,aC,aD,aH]
  exact ⟨_,_,0,rfl,⟨rfl,rfl⟩,hs.out,Blk.new _ _ _⟩
 intro v7;(try simp only [Act.put,aB,aF,aG])
 apply RG.wpT_done
 intro w4 hC hall
 obtain ⟨cs,kb,i,rfl,⟨rfl,rfl⟩,hge,hblk⟩:=hall.1
 obtain ⟨d,rfl,d1⟩:=hall.2.1
 have T:=aI (H.out.adopt hC hge hblk)
 have q:=hblk;have f0:=q.frozen 0;have f1:=q.frozen 1;have f2:=q.frozen 2;have f3:=q.frozen 3;have q0:=q.cell 0;have q1:=q.cell 1;have q2:=q.cell 2;have q3:=q.cell 3;(simp at q0 q1 q2 q3);clear q
 clear hall hC hge hblk
 go_wp2_with fail
 go_meet
 case rel =>
  have T1:=((((T.out.set0 0 (.string (Sg.kname n))).set0 1 (.int .i64 lo)).set0 2 (.int .i64 (lo+d))).set0 3 (.slice none 0 0)).push 52 8
  have T2:=T1.add (keeps_flat ([]:List Fld) []) rfl
  exact ⟨lo+d,by omega,by omega,_,kb,.slice none 0 0,[],kxs,rfl,T2⟩
end Go.Proofs.YtmplaikgbeeikaaGreatDoor
namespace Go.Proofs.YtmplaikgbeeikaaGreatDoor
open Go Go.RowKit
noncomputable def kmn_1_code:Code:=((Tryz.f27.body.bind (regAt 4)).getD .skip)
set_option maxRecDepth 1000000 in
set_option maxHeartbeats 100000000 in
theorem kmn_1 {K:MkK} {_M:List Nat} {bx:List Box} {rs:List Rw} {L:List (List Nat→World→Prop)} {_W:World} {ks:List Knd} {n:Nat} {A0:Option Addr} {c0:Nat} {rb:Nat} {lo:Int} {u14: Value} {u15: Value} {u16: Value} {u17: Value} {u18: Value} {u19: Value} {u20: Value} {u21: Value} {u22: Value} {u23: Value} {u24: Value} {u25: Value} {u26: Value} {u27: Value} {u28: Value} {u29: Value} {u30: Value} {u31: Value} {u32: Value} {u33: Value} {u34: Value} {u35: Value} {u36: Value} {u37: Value} {u38: Value} {u39: Value} {u40: Value} {u41: Value} {u42: Value} {u43: Value} {u44: Value} {u45: Value} {u46: Value} {u47: Value} {u48: Value} {u49: Value} {u50: Value} {u51: Value} {u52: Value} {u53: Value} {u54: Value} {u55: Value} {u56: Value} {u57: Value} {u58: Value} {u59: Value} {u60: Value} {u61: Value} {u62: Value} {u63: Value} {u64: Value} {u65: Value} {u66: Value} {u67: Value} {u68: Value} {u69: Value} {u70: Value} {u71: Value} {u72: Value} {u73: Value} {u74: Value} {u75: Value} {u76: Value} {u77: Value} {u78: Value} {u79: Value} {u80: Value} {u81: Value} {u82: Value} {u83: Value} {u84: Value} {u85: Value} {u86: Value} {u87: Value} {u88: Value} {u89: Value} {u90: Value} {u91: Value} {u92: Value} {u93: Value} {u94: Value} {u95: Value} {u96: Value} {u97: Value} {u98: Value} {u99: Value} {u100: Value} {u101: Value} {u102: Value} {u103: Value} {u104: Value} {u105: Value} {u106: Value} {u107: Value} {u108: Value} {u109: Value} {u110: Value} {u111: Value} {u112: Value} {u113: Value} {u114: Value} {u115: Value} {u116: Value} {u117: Value} {u118: Value} {u119: Value} {u120: Value} {u121: Value} {u122: Value} {u123: Value} {u124: Value} {u125: Value} {u126: Value} {u127: Value} {u128: Value} {u129: Value} {u130: Value} {u131: Value} {u132: Value} {u133: Value} {u134: Value} {u135: Value} {u136: Value} {u137: Value} {u138: Value} {u139: Value} {u140: Value} {u141: Value} {u142: Value} {u143: Value} {u144: Value} {u145: Value} {u146: Value} {u147: Value} {u148: Value} {u149: Value} {u150: Value} {u151: Value} {u152: Value} {u153: Value} {u154: Value} {u155: Value} {u156: Value} {u157: Value} {u158: Value} {u159: Value} {u160: Value} {u161: Value} {u162: Value} {u163: Value} {u164: Value} {u165: Value} {u166: Value} {u167: Value} {u168: Value} {u169: Value} {u170: Value} {u171: Value} {u172: Value} {u173: Value} {u174: Value} {u175: Value} {u176: Value} {u177: Value} {u178: Value} {u179: Value} {u180: Value} {u181: Value} {u182: Value} {u183: Value} {hi:Int} {nm:ByteArray} {wo:World} {M1:List Nat} {kb:Nat} {fv:Value} {fxs:List Value} {kxs:List Value}  {J_ K_:Act→World→Prop} {Q_:Exit→Act→World→Prop} {cd_:Code} (hcd_:cd_=kmn_1_code) (_hn2:n≤2) (_lo0:(0:Int)≤lo) (_lo4:lo≤(4:Int)) (_hi1:lo≤hi) (_hi2:hi≤lo+(4:Int)) (_hnm:Sg.kname n=nm) (H: Hid (MkH K M1 ((kb,(49:TypeId),#[Value.string nm,Value.int IntKind.i64 lo,Value.int IntKind.i64 hi,fv])::(rb,(49:TypeId),#[Value.string { data:=#[] },Value.int IntKind.i64 (0:Int),Value.int IntKind.i64 (0:Int),Value.slice none 0 0])::bx) ({ e:=(52:TypeId),size:=8,v:=fv,n:=([]:List Fld).length,xs:=fxs }::{ e:=(49:TypeId),size:=4,v:=Value.slice A0 n c0,n:=n,xs:=kxs }::rs) ((fun M W=>Flat M W ([]:List Fld) fxs)::(fun M W=>Flat M W ks kxs)::L) wo))
  (hJ_:∀ (a':Act) (w':World),(∃ u14 u15 u16 u17 u18 u19 u20 u21 u22 u23 u24 u25 u26 u27 u28 u29 u30 u31 u32 u33 u34 u35 u36 u37 u38 u39 u40 u41 u42 u43 u44 u45 u46 u47 u48 u49 u50 u51 u52 u53 u54 u55 u56 u57 u58 u59 u60 u61 u62 u63 u64 u65 u66 u67 u68 u69 u70 u71 u72 u73 u74 u75 u76 u77 u78 u79 u80 u81 u82 u83 u84 u85 u86 u87 u88 u89 u90 u91 u92 u93 u94 u95 u96 u97 u98 u99 u100 u101 u102 u103 u104 u105 u106 u107 u108 u109 u110 u111 u112 u113 u114 u115 u116 u117 u118 u119 u120 u121 u122 u123 u124 u125 u126 u127 u128 u129 u130 u131 u132 u133 u134 u135 u136 u137 u138 u139 u140 u141 u142 u143 u144 u145 u146 u147 u148 u149 u150 u151 u152 u153 u154 u155 u156 u157 u158 u159 u160 u161 u162 u163 u164 u165 u166 u167 u168 u169 u170 u171 u172 u173 u174 u175 u176 u177 u178 u179 u180 u181 u182 u183,((∃ x,Sg.okLo x∧KSt K bx rs L rb n (Value.slice A0 n c0) (Value.pointer (some (Addr.mk (kb) (0) none))) nm lo hi [Sg.idF x] ks w'))∧a'=⟨(K.p::(Value.slice A0 n c0)::undef::undef::(Value.pointer (some (Addr.mk (rb) (0) none)))::(Value.int IntKind.i64 (↑n:Int))::(Value.int IntKind.i64 lo)::(Value.pointer (some (Addr.mk (kb) (0) none)))::undef::undef::undef::undef::undef::undef::u14::u15::u16::u17::u18::u19::u20::u21::u22::u23::u24::u25::u26::u27::u28::u29::u30::u31::u32::u33::u34::u35::u36::u37::u38::u39::u40::u41::u42::u43::u44::u45::u46::u47::u48::u49::u50::u51::u52::u53::u54::u55::u56::u57::u58::u59::u60::u61::u62::u63::u64::u65::u66::u67::u68::u69::u70::u71::u72::u73::u74::u75::u76::u77::u78::u79::u80::u81::u82::u83::u84::u85::u86::u87::u88::u89::u90::u91::u92::u93::u94::u95::u96::u97::u98::u99::u100::u101::u102::u103::u104::u105::u106::u107::u108::u109::u110::u111::u112::u113::u114::u115::u116::u117::u118::u119::u120::u121::u122::u123::u124::u125::u126::u127::u128::u129::u130::u131::u132::u133::u134::u135::u136::u137::u138::u139::u140::u141::u142::u143::u144::u145::u146::u147::u148::u149::u150::u151::u152::u153::u154::u155::u156::u157::u158::u159::u160::u161::u162::u163::u164::u165::u166::u167::u168::u169::u170::u171::u172::u173::u174::u175::u176::u177::u178::u179::u180::u181::u182::u183::[]).toArray,[]⟩)→J_ a' w') (hM_:∀ (a':Act) (w':World),Met J_ a' w'→K_ a' w') :
  Code.wp Tryz.prog cd_ (Exit.then K_ Q_) ⟨(K.p::(Value.slice A0 n c0)::undef::undef::(Value.pointer (some (Addr.mk (rb) (0) none)))::(Value.int IntKind.i64 (↑n:Int))::(Value.int IntKind.i64 lo)::(Value.pointer (some (Addr.mk (kb) (0) none)))::undef::undef::undef::undef::undef::undef::u14::u15::u16::u17::u18::u19::u20::u21::u22::u23::u24::u25::u26::u27::u28::u29::u30::u31::u32::u33::u34::u35::u36::u37::u38::u39::u40::u41::u42::u43::u44::u45::u46::u47::u48::u49::u50::u51::u52::u53::u54::u55::u56::u57::u58::u59::u60::u61::u62::u63::u64::u65::u66::u67::u68::u69::u70::u71::u72::u73::u74::u75::u76::u77::u78::u79::u80::u81::u82::u83::u84::u85::u86::u87::u88::u89::u90::u91::u92::u93::u94::u95::u96::u97::u98::u99::u100::u101::u102::u103::u104::u105::u106::u107::u108::u109::u110::u111::u112::u113::u114::u115::u116::u117::u118::u119::u120::u121::u122::u123::u124::u125::u126::u127::u128::u129::u130::u131::u132::u133::u134::u135::u136::u137::u138::u139::u140::u141::u142::u143::u144::u145::u146::u147::u148::u149::u150::u151::u152::u153::u154::u155::u156::u157::u158::u159::u160::u161::u162::u163::u164::u165::u166::u167::u168::u169::u170::u171::u172::u173::u174::u175::u176::u177::u178::u179::u180::u181::u182::u183::[]).toArray,[]⟩ wo:=by
 subst hcd_
 conv=>arg 2;whnf
 letI:Grow:=K.grow
 apply RG.wp_region_typed (C:=fun w'=>K.R wo w') (n:=184) (m:=9) (l1:=[_,_,_,_,_,_,_,_,_]) (l2:=[_,_,_])
 ·rfl
 ·rfl
 ·kernel_rfl
 ·rfl
 ·kernel_rfl
 ·exact K.drew wo
 ·exact fun u u' h hb=>h.trans hb
 iterate 2 ((apply RG.wpT_exact;· (intro w' hC hf;unfold RG.Gives;have q:=(H.out.turn hC).box (.head _);have q0:=q.cell 0;have q3:=q.cell 3;(simp at q0 q3);clear q;clear hf hC;go_wp2_with (fail);apply RG.postT_val rfl (Grow.refl _);simp only [RG.valAt,aA,aE,aC,aD,aH];exact rfl));(try simp only [Act.put,aB,aF,aG]))
 apply RG.wpT_typed (litT_kept K wo.heap.size 4 3 (fun cs=>cs=#[.int .i64 0,.int .i64 1,.int .i64 100,.int .i64 (-3)]) H.out.gmLt)
 ·intro w' hC hf;unfold RG.Gives;clear hf
  have hs:=aI (K.size hC)
  clear hC
  go_wp2_with fail
  refine RG.postT_mk rfl (K.grown (by go_grown)) ?_;simp only [RG.valAt,aA,aE,aC,aD,aH]
  exact ⟨_,_,rfl,rfl,hs.out,Blk.new _ _ _⟩
 intro v33;(try simp only [Act.put,aB,aF,aG])
 (apply RG.wpT_exact;· (intro w' hC hf;unfold RG.Gives;clear hf hC;go_wp2_with (fail);apply RG.postT_val rfl (Grow.refl _);simp only [RG.valAt,aA,aE,aC,aD,aH];exact rfl));(try simp only [Act.put,aB,aF,aG])
 apply RG.wpT_typed (T:=fun v _=>∃ z:Nat,v=.int .i64 (z:Int)∧z < 4) (fun v w w' h _=>h)
 ·intro w' hC hf;unfold RG.Gives;clear hf
  go_wp2_with fail
  go_at_call 26
  refine ((H.out.turn hC).take 4 (by omega) (by omega)).mono ?_
  rintro e w3 ⟨v,rfl,v1,v2,hr⟩
  obtain ⟨z,rfl⟩:∃ z':Nat,v=z':=⟨v.toNat,by omega⟩
  go_wp2_with fail
  refine RG.postT_mk rfl hr ?_;simp only [RG.valAt,aA,aE,aC,aD,aH];exact ⟨z,rfl,by omega⟩
 intro v35;(try simp only [Act.put,aB,aF,aG])
 apply RG.wpT_typed (T:=PtrT wo.heap.size 3 (fun cs i=>∃ x:Int,cs[i]?=some (.int .i64 x)∧Sg.okLo x)) (ptrT_kept K _ _ _ H.out.gmLt)
 ·intro w' hC hf;unfold RG.Gives;obtain ⟨z,rfl,z1⟩:=hf.1 rfl;obtain ⟨cs,N,rfl,rfl,hge,hblk⟩:=hf.2.1 rfl;clear hf
  have k1:(z:Int) < 4:=by omega
  go_wp2_with fail
  refine RG.postT_mk rfl (Grow.refl _) ?_;simp only [RG.valAt,aA,aE,aC,aD,aH];exact ⟨_,N,z,by first | rfl | simp [Addr.add],(by obtain ⟨x,h1,h2⟩:=ids_at z z1;exact ⟨x,h2,h1⟩),hge,hblk⟩
 intro v36;(try simp only [Act.put,aB,aF,aG])
 apply RG.wpT_typed (T:=fun v _=>∃ x:Int,v=.int .i64 x∧Sg.okLo x) (fun v w w' h _=>h)
 ·intro w' hC hf;unfold RG.Gives;obtain ⟨cs,N,i,rfl,⟨x,hx,hok⟩,hge,hblk⟩:=hf.1 rfl;have q:=hblk.cell i;rw [hx] at q;clear hC;clear hf
  go_wp2_with fail
  refine RG.postT_mk rfl (Grow.refl _) ?_;simp only [RG.valAt,aA,aE,aC,aD,aH];exact ⟨x,rfl,hok⟩
 intro v37;(try simp only [Act.put,aB,aF,aG])
 apply RG.wpT_typed (T:=fun v _=>∃ x:Int,v=.agg #[.string Sg.bid,.string Sg.be,.string Sg.be,.int .i64 0,.int .i64 x,.int .i64 0,.slice none 0 0,.slice none 0 0]∧Sg.okLo x) (fun v w w' h _=>h)
 ·intro w' hC hf;unfold RG.Gives;obtain ⟨x,rfl,hok⟩:=hf.1 rfl;clear hC;clear hf
  go_wp2_with fail
  refine RG.postT_mk rfl (Grow.refl _) ?_;simp only [RG.valAt,aA,aE,aC,aD,aH];exact ⟨x,rfl,hok⟩
 intro v38;(try simp only [Act.put,aB,aF,aG])
 apply RG.wpT_typed (litT_kept K wo.heap.size 1 52 (fun cs=>∃ x:Int,cs=#[.string Sg.bid,.string Sg.be,.string Sg.be,.int .i64 0,.int .i64 x,.int .i64 0,.slice none 0 0,.slice none 0 0]∧Sg.okLo x) H.out.gmLt)
 ·intro w' hC hf;unfold RG.Gives;obtain ⟨x,rfl,hok⟩:=hf.1 rfl;clear hf
  have hs:=aI (K.size hC)
  clear hC
  go_wp2_with fail
  refine RG.postT_mk rfl (K.grown (by go_grown)) ?_;simp only [RG.valAt,aA,aE,aC,aD,aH]
  exact ⟨_,_,rfl,⟨x,rfl,hok⟩,hs.out,Blk.new _ _ _⟩
 intro v39;(try simp only [Act.put,aB,aF,aG])
 apply RG.wpT_done
 intro w4 hC hall
 obtain ⟨cs,N2,rfl,⟨x,rfl,hok⟩,hge,hblk⟩:=hall.1
 have T:=aI (H.out.turn hC)
 have HX:=aI hok
 obtain ⟨x1,x2⟩:=okLo_bd hok
 clear hall hC H this hok
 have hfl:([]:List Fld).length≤8:=(by simp)
 obtain ⟨i0,hI,hz0,hz1,hz2⟩:=info_parts infoFld
 refine wpList_append_mk (by rfl) _ _ 47 (by rfl) 52 i0 _ 8 120 Tryz.underlying47 hI hz0 hz1 hz2 rfl (by decide) T.out (by rfl) _ _ 1 1 [.string Sg.bid,.string Sg.be,.string Sg.be,.int .i64 0,.int .i64 x,.int .i64 0,.slice none 0 0,.slice none 0 0] (by rfl) (reads_blk hblk rfl) (by simp [Value.oneCell']) (by unfold maxLen;omega) (by omega) ?_
 intro v5 w5 M5 h5 _
 obtain ⟨A5,c5,rfl⟩:=h5.form
 have hq:=h5.box (.head _);have f3:=hq.frozen 3;have q3:=hq.cell 3;(simp at q3);clear hq
 have T5:=aI (h5.putF (news:=[Sg.idF x]) (Flat.single (fld_mk (by decide) (by decide) (by decide) (by unfold inI;omega) (by unfold inI;omega) (by unfold inI;omega) rep_nil rep_nil)))
 clear h5 hI hz0 hz1 hz2 hblk T hfl
 go_wp2_with fail
 go_meet
 case rel=>exact ⟨x,HX.out,KSt.mk1 T5.out rfl⟩
noncomputable def kmn_2_code:Code:=((Tryz.f27.body.bind (regAt 19)).getD .skip)
set_option maxRecDepth 1000000 in
set_option maxHeartbeats 100000000 in
theorem kmn_2 {K:MkK} {_M:List Nat} {bx:List Box} {rs:List Rw} {L:List (List Nat→World→Prop)} {_W:World} {ks:List Knd} {n:Nat} {c0:Nat} {rb:Nat} {lo:Int} {hi:Int} {nm:ByteArray} {u8: Value} {u9: Value} {u10: Value} {u11: Value} {fs:List Fld} {ks':List Knd} {u14: Value} {u15: Value} {u16: Value} {u17: Value} {u18: Value} {u19: Value} {u20: Value} {u21: Value} {u22: Value} {u23: Value} {u24: Value} {u25: Value} {u26: Value} {u27: Value} {u28: Value} {u29: Value} {u30: Value} {u31: Value} {u32: Value} {u33: Value} {u34: Value} {u35: Value} {u36: Value} {u37: Value} {u38: Value} {u39: Value} {u40: Value} {u41: Value} {u42: Value} {u43: Value} {u44: Value} {u45: Value} {u46: Value} {u47: Value} {u48: Value} {u49: Value} {u50: Value} {u51: Value} {u52: Value} {u53: Value} {u54: Value} {u55: Value} {u56: Value} {u57: Value} {u58: Value} {u59: Value} {u60: Value} {u61: Value} {u62: Value} {u63: Value} {u64: Value} {u65: Value} {u66: Value} {u67: Value} {u68: Value} {u69: Value} {u70: Value} {u71: Value} {u72: Value} {u73: Value} {u74: Value} {u75: Value} {u76: Value} {u77: Value} {u78: Value} {u79: Value} {u80: Value} {u81: Value} {u82: Value} {u83: Value} {u84: Value} {u85: Value} {u86: Value} {u87: Value} {u88: Value} {u89: Value} {u90: Value} {u91: Value} {u92: Value} {u93: Value} {u94: Value} {u95: Value} {u96: Value} {u97: Value} {u98: Value} {u99: Value} {u100: Value} {u101: Value} {u102: Value} {u103: Value} {u104: Value} {u105: Value} {u106: Value} {u107: Value} {u108: Value} {u109: Value} {u110: Value} {u111: Value} {u112: Value} {u113: Value} {u114: Value} {u115: Value} {u116: Value} {u117: Value} {u118: Value} {u119: Value} {u120: Value} {u121: Value} {u122: Value} {u123: Value} {u124: Value} {u125: Value} {u126: Value} {u127: Value} {u128: Value} {u129: Value} {u130: Value} {u131: Value} {u132: Value} {u133: Value} {u134: Value} {u135: Value} {u136: Value} {u137: Value} {u138: Value} {u139: Value} {u140: Value} {u141: Value} {u143: Value} {u144: Value} {u145: Value} {u146: Value} {u147: Value} {u148: Value} {u149: Value} {u150: Value} {u151: Value} {u152: Value} {u153: Value} {u154: Value} {u155: Value} {u156: Value} {u157: Value} {u158: Value} {u159: Value} {u160: Value} {u161: Value} {u162: Value} {u163: Value} {u164: Value} {u165: Value} {u166: Value} {u167: Value} {u168: Value} {u169: Value} {u170: Value} {u171: Value} {u172: Value} {u173: Value} {u174: Value} {u175: Value} {u176: Value} {u177: Value} {u178: Value} {u179: Value} {u180: Value} {u181: Value} {u182: Value} {u183: Value} {M1:List Nat} {kb:Nat} {fv:Value} {fxs:List Value} {kxs:List Value} {g:Nat} {nmo:ByteArray} {wo:World}  {J_ K_:Act→World→Prop} {Q_:Exit→Act→World→Prop} {cd_:Code} (hcd_:cd_=kmn_2_code) (hn2:n≤2) (HN:Hid (n=ks.length)) (_lo0:(0:Int)≤lo) (_lo4:lo≤(4:Int)) (_hi1:lo≤hi) (_hi2:hi≤lo+(4:Int)) (_hnm:Sg.kname n=nm) (HFL:Hid (fs.length≤4)) (hn1:2≤n) (hn0:0 < n) (hzk:0 < ks'.length) (s4:nmo.size≤9223372036854775807) (HNM:Hid (ks'[0].fst=nmo)) (HQ0:Hid (kxs[0*4]?=some (Value.string nmo))) (_hb:True→2≤n) (H: Hid (MkH K M1 ((kb,(49:TypeId),#[Value.string nm,Value.int IntKind.i64 lo,Value.int IntKind.i64 hi,fv])::(rb,(49:TypeId),#[Value.string { data:=#[] },Value.int IntKind.i64 (0:Int),Value.int IntKind.i64 (0:Int),Value.slice none 0 0])::bx) ({ e:=(52:TypeId),size:=8,v:=fv,n:=fs.length,xs:=fxs }::{ e:=(49:TypeId),size:=4,v:=Value.slice (some (Addr.mk (g) (0) none)) n c0,n:=n,xs:=kxs }::rs) ((fun M W=>Flat M W fs fxs)::(fun M W=>Flat M W ks' kxs)::L) wo))
  (hJ_:∀ (a':Act) (w':World),(∃ u14 u15 u16 u17 u18 u19 u20 u21 u22 u23 u24 u25 u26 u27 u28 u29 u30 u31 u32 u33 u34 u35 u36 u37 u38 u39 u40 u41 u42 u43 u44 u45 u46 u47 u48 u49 u50 u51 u52 u53 u54 u55 u56 u57 u58 u59 u60 u61 u62 u63 u64 u65 u66 u67 u68 u69 u70 u71 u72 u73 u74 u75 u76 u77 u78 u79 u80 u81 u82 u83 u84 u85 u86 u87 u88 u89 u90 u91 u92 u93 u94 u95 u96 u97 u98 u99 u100 u101 u102 u103 u104 u105 u106 u107 u108 u109 u110 u111 u112 u113 u114 u115 u116 u117 u118 u119 u120 u121 u122 u123 u124 u125 u126 u127 u128 u129 u130 u131 u132 u133 u134 u135 u136 u137 u138 u139 u140 u141 u142 u143 u144 u145 u146 u147 u148 u149 u150 u151 u152 u153 u154 u155 u156 u157 u158 u159 u160 u161 u162 u163 u164 u165 u166 u167 u168 u169 u170 u171 u172 u173 u174 u175 u176 u177 u178 u179 u180 u181 u182 u183,((∃ by_,Sg.By ks ks' by_∧KSt K bx rs L rb n (Value.slice (some (Addr.mk (g) (0) none)) n c0) (Value.pointer (some (Addr.mk (kb) (0) none))) nm lo hi (fs++by_) ks' w'))∧a'=⟨(K.p::(Value.slice (some (Addr.mk (g) (0) none)) n c0)::undef::undef::(Value.pointer (some (Addr.mk (rb) (0) none)))::(Value.int IntKind.i64 (↑n:Int))::(Value.int IntKind.i64 lo)::(Value.pointer (some (Addr.mk (kb) (0) none)))::u8::u9::u10::u11::undef::undef::u14::u15::u16::u17::u18::u19::u20::u21::u22::u23::u24::u25::u26::u27::u28::u29::u30::u31::u32::u33::u34::u35::u36::u37::u38::u39::u40::u41::u42::u43::u44::u45::u46::u47::u48::u49::u50::u51::u52::u53::u54::u55::u56::u57::u58::u59::u60::u61::u62::u63::u64::u65::u66::u67::u68::u69::u70::u71::u72::u73::u74::u75::u76::u77::u78::u79::u80::u81::u82::u83::u84::u85::u86::u87::u88::u89::u90::u91::u92::u93::u94::u95::u96::u97::u98::u99::u100::u101::u102::u103::u104::u105::u106::u107::u108::u109::u110::u111::u112::u113::u114::u115::u116::u117::u118::u119::u120::u121::u122::u123::u124::u125::u126::u127::u128::u129::u130::u131::u132::u133::u134::u135::u136::u137::u138::u139::u140::u141::u142::u143::u144::u145::u146::u147::u148::u149::u150::u151::u152::u153::u154::u155::u156::u157::u158::u159::u160::u161::u162::u163::u164::u165::u166::u167::u168::u169::u170::u171::u172::u173::u174::u175::u176::u177::u178::u179::u180::u181::u182::u183::[]).toArray,[]⟩)→J_ a' w') (hM_:∀ (a':Act) (w':World),Met J_ a' w'→K_ a' w') :
  Code.wp Tryz.prog cd_ (Exit.then K_ Q_) ⟨(K.p::(Value.slice (some (Addr.mk (g) (0) none)) n c0)::undef::undef::(Value.pointer (some (Addr.mk (rb) (0) none)))::(Value.int IntKind.i64 (↑n:Int))::(Value.int IntKind.i64 lo)::(Value.pointer (some (Addr.mk (kb) (0) none)))::u8::u9::u10::u11::undef::undef::u14::u15::u16::u17::u18::u19::u20::u21::u22::u23::u24::u25::u26::u27::u28::u29::u30::u31::u32::u33::u34::u35::u36::u37::u38::u39::u40::u41::u42::u43::u44::u45::u46::u47::u48::u49::u50::u51::u52::u53::u54::u55::u56::u57::u58::u59::u60::u61::u62::u63::u64::u65::u66::u67::u68::u69::u70::u71::u72::u73::u74::u75::u76::u77::u78::u79::u80::u81::u82::u83::u84::u85::u86::u87::u88::u89::u90::u91::u92::u93::u94::u95::u96::u97::u98::u99::u100::u101::u102::u103::u104::u105::u106::u107::u108::u109::u110::u111::u112::u113::u114::u115::u116::u117::u118::u119::u120::u121::u122::u123::u124::u125::u126::u127::u128::u129::u130::u131::u132::u133::u134::u135::u136::u137::u138::u139::u140::u141::(Value.bool true)::u143::u144::u145::u146::u147::u148::u149::u150::u151::u152::u153::u154::u155::u156::u157::u158::u159::u160::u161::u162::u163::u164::u165::u166::u167::u168::u169::u170::u171::u172::u173::u174::u175::u176::u177::u178::u179::u180::u181::u182::u183::[]).toArray,[]⟩ wo:=by
 subst hcd_
 conv=>arg 2;whnf
 letI:Grow:=K.grow
 apply RG.wp_region_typed (C:=fun w'=>K.R wo w') (n:=184) (m:=8) (l1:=[_,_,_,_,_,_,_,_]) (l2:=[_,_,_])
 ·rfl
 ·rfl
 ·kernel_rfl
 ·rfl
 ·kernel_rfl
 ·exact K.drew wo
 ·exact fun u u' h hb=>h.trans hb
 iterate 2 ((apply RG.wpT_exact;· (intro w' hC hf;unfold RG.Gives;have q:=(H.out.turn hC).box (.head _);have q3:=q.cell 3;(simp at q3);clear q;clear hf hC;go_wp2_with (fail);apply RG.postT_val rfl (Grow.refl _);simp only [RG.valAt,aA,aE,aC,aD,aH];exact rfl));(try simp only [Act.put,aB,aF,aG]))
 iterate 3 ((apply RG.wpT_exact;· (intro w' hC hf;unfold RG.Gives;clear hf hC;go_wp2_with (fail);apply RG.postT_val rfl (Grow.refl _);simp only [RG.valAt,aA,aE,aC,aD,aH];exact rfl));(try simp only [Act.put,aB,aF,aG]))
 (apply RG.wpT_exact;· (intro w' hC hf;unfold RG.Gives;have q:=(H.out.turn hC).rcell (.tail _ (.head _)) hn0 HQ0.out;(try simp at q);clear hf hC;go_wp2_with (fail);apply RG.postT_val rfl (Grow.refl _);simp only [RG.valAt,aA,aE,aC,aD,aH];exact rfl));(try simp only [Act.put,aB,aF,aG])
 (apply RG.wpT_exact;· (intro w' hC hf;unfold RG.Gives;clear hf hC;go_wp2_with (fail);apply RG.postT_val rfl (Grow.refl _);simp only [RG.valAt,aA,aE,aC,aD,aH];exact rfl));(try simp only [Act.put,aB,aF,aG])
 apply RG.wpT_typed (litT_kept K wo.heap.size 1 52 (fun cs=>cs=#[.string Sg.bby,.string nmo,.string Sg.be,.int .i64 1,.int .i64 0,.int .i64 8,.slice none 0 0,.slice none 0 0]) H.out.gmLt)
 ·intro w' hC hf;unfold RG.Gives;clear hf
  have hs:=aI (K.size hC)
  clear hC
  go_wp2_with fail
  refine RG.postT_mk rfl (K.grown (by go_grown)) ?_;simp only [RG.valAt,aA,aE,aC,aD,aH]
  exact ⟨_,_,rfl,rfl,hs.out,Blk.new _ _ _⟩
 intro v150;(try simp only [Act.put,aB,aF,aG])
 apply RG.wpT_done
 intro w4 hC hall
 obtain ⟨cs,N2,rfl,rfl,hge,hblk⟩:=hall.1
 have T:=aI (H.out.turn hC)
 clear hall hC H this
 have hfl:(fs:List Fld).length≤8:=by have:=HFL.out;omega
 obtain ⟨i0,hI,hz0,hz1,hz2⟩:=info_parts infoFld
 refine wpList_append_mk (by rfl) _ _ 47 (by rfl) 52 i0 _ 8 120 Tryz.underlying47 hI hz0 hz1 hz2 rfl (by decide) T.out (by rfl) _ _ 1 1 [.string Sg.bby,.string nmo,.string Sg.be,.int .i64 1,.int .i64 0,.int .i64 8,.slice none 0 0,.slice none 0 0] (by rfl) (reads_blk hblk rfl) (by simp [Value.oneCell']) (by unfold maxLen;omega) (by omega) ?_
 intro v5 w5 M5 h5 _
 obtain ⟨A5,c5,rfl⟩:=h5.form
 have hq:=h5.box (.head _);have f3:=hq.frozen 3;have q3:=hq.cell 3;(simp at q3);clear hq
 have T5:=aI (h5.putF (news:=[Sg.byF nmo]) (Flat.single (fld_mk (by decide) s4 (by decide) (by unfold inI;omega) (by unfold inI;omega) (by unfold inI;omega) rep_nil rep_nil)))
 clear h5 hI hz0 hz1 hz2 hblk T hfl
 go_wp2_with fail
 go_meet
 case rel =>
  refine ⟨[Sg.byF nmo],.inr ⟨?_,ks'[0],List.getElem?_eq_getElem hzk,by rw [HNM.out]⟩,KSt.mk1 T5.out rfl⟩
  have:=HN.out
  omega
noncomputable def kmn_3_code:Code:=((Tryz.f27.body.bind (regAt 24)).getD .skip)
set_option maxRecDepth 1000000 in
set_option maxHeartbeats 100000000 in
theorem kmn_3 {K:MkK} {_M:List Nat} {bx:List Box} {rs:List Rw} {L:List (List Nat→World→Prop)} {_W:World} {n:Nat} {A0:Option Addr} {c0:Nat} {rb:Nat} {lo:Int} {hi:Int} {nm:ByteArray} {u8: Value} {u9: Value} {u10: Value} {u11: Value} {ks':List Knd} {_b:Bool} {fs3:List Fld} {kb:Nat} {m0:Nat} {u12: Value} {u14: Value} {u15: Value} {u16: Value} {u17: Value} {u18: Value} {u19: Value} {u20: Value} {u21: Value} {u22: Value} {u23: Value} {u24: Value} {u25: Value} {u26: Value} {u27: Value} {u28: Value} {u29: Value} {u30: Value} {u31: Value} {u32: Value} {u33: Value} {u34: Value} {u35: Value} {u36: Value} {u37: Value} {u38: Value} {u39: Value} {u40: Value} {u41: Value} {u42: Value} {u43: Value} {u44: Value} {u45: Value} {u46: Value} {u47: Value} {u48: Value} {u49: Value} {u50: Value} {u51: Value} {u52: Value} {u53: Value} {u54: Value} {u55: Value} {u56: Value} {u57: Value} {u58: Value} {u59: Value} {u60: Value} {u61: Value} {u62: Value} {u63: Value} {u64: Value} {u65: Value} {u66: Value} {u67: Value} {u68: Value} {u69: Value} {u70: Value} {u71: Value} {u72: Value} {u73: Value} {u74: Value} {u75: Value} {u76: Value} {u77: Value} {u78: Value} {u79: Value} {u80: Value} {u81: Value} {u82: Value} {u83: Value} {u84: Value} {u85: Value} {u86: Value} {u87: Value} {u88: Value} {u89: Value} {u90: Value} {u91: Value} {u92: Value} {u93: Value} {u94: Value} {u95: Value} {u96: Value} {u97: Value} {u98: Value} {u99: Value} {u100: Value} {u101: Value} {u102: Value} {u103: Value} {u104: Value} {u105: Value} {u106: Value} {u107: Value} {u108: Value} {u109: Value} {u110: Value} {u111: Value} {u112: Value} {u113: Value} {u114: Value} {u115: Value} {u116: Value} {u117: Value} {u118: Value} {u119: Value} {u120: Value} {u121: Value} {u122: Value} {u123: Value} {u124: Value} {u125: Value} {u126: Value} {u127: Value} {u128: Value} {u129: Value} {u130: Value} {u131: Value} {u132: Value} {u133: Value} {u134: Value} {u135: Value} {u136: Value} {u137: Value} {u138: Value} {u139: Value} {u140: Value} {u141: Value} {u142: Value} {u143: Value} {u144: Value} {u145: Value} {u146: Value} {u147: Value} {u148: Value} {u149: Value} {u150: Value} {u151: Value} {u152: Value} {u153: Value} {u154: Value} {u155: Value} {u156: Value} {u157: Value} {u158: Value} {u159: Value} {u165: Value} {u166: Value} {u167: Value} {u168: Value} {u169: Value} {u170: Value} {u171: Value} {u172: Value} {u173: Value} {u174: Value} {u175: Value} {u176: Value} {u177: Value} {u178: Value} {u179: Value} {u180: Value} {u181: Value} {u182: Value} {u183: Value} {fs4:List Fld} {fxs:List Value} {kxs:List Value} {c1:Nat} {M2:List Nat} {f:Fld} {r:List Fld} {b1:Nat} {o1:Nat} {A4:Option Addr} {c4:Nat} {nmf:ByteArray} {x4:Int} {wo:World}  {J_ K_:Act→World→Prop} {Q_:Exit→Act→World→Prop} {cd_:Code} (hcd_:cd_=kmn_3_code) (_hn2:n≤2) (_lo0:(0:Int)≤lo) (_lo4:lo≤(4:Int)) (_hi1:lo≤hi) (_hi2:hi≤lo+(4:Int)) (_hnm:Sg.kname n=nm) (_hm3:fs3.length≤5) (_hml:m0≤2) (HFL4:Hid (fs4.length≤7)) (_v1:(0:Int)≤(0:Int)) (_v2:(0:Int) < (2:Int)) (_pc2:c1≤9223372036854775807) (_pc1:r.length+1≤c1) (_hml2:r.length+1≤2) (_t1:decide ((0:Int) < (↑(r.length+1):Int))=true) (HNF:Hid (Sc.nm f=nmf)) (HX4:Hid (Sc.ix (Sc.named nmf) fs4=x4)) (H: Hid (MkH K M2 ((kb,(49:TypeId),#[Value.string nm,Value.int IntKind.i64 lo,Value.int IntKind.i64 hi,Value.slice A4 fs4.length c4])::(rb,(49:TypeId),#[Value.string { data:=#[] },Value.int IntKind.i64 (0:Int),Value.int IntKind.i64 (0:Int),Value.slice none 0 0])::bx) ({ e:=(52:TypeId),size:=8,v:=Value.slice A4 fs4.length c4,n:=fs4.length,xs:=fxs }::{ e:=(49:TypeId),size:=4,v:=Value.slice A0 n c0,n:=n,xs:=kxs }::rs) ((fun M W=>SlAt M W (some (Addr.mk (b1) (o1) none)) (f::r))::(fun M W=>Flat M W fs4 fxs)::(fun M W=>Flat M W ks' kxs)::L) wo))
  (hJ_:∀ (a':Act) (w':World),(∃ u14 u15 u16 u17 u18 u19 u20 u21 u22 u23 u24 u25 u26 u27 u28 u29 u30 u31 u32 u33 u34 u35 u36 u37 u38 u39 u40 u41 u42 u43 u44 u45 u46 u47 u48 u49 u50 u51 u52 u53 u54 u55 u56 u57 u58 u59 u60 u61 u62 u63 u64 u65 u66 u67 u68 u69 u70 u71 u72 u73 u74 u75 u76 u77 u78 u79 u80 u81 u82 u83 u84 u85 u86 u87 u88 u89 u90 u91 u92 u93 u94 u95 u96 u97 u98 u99 u100 u101 u102 u103 u104 u105 u106 u107 u108 u109 u110 u111 u112 u113 u114 u115 u116 u117 u118 u119 u120 u121 u122 u123 u124 u125 u126 u127 u128 u129 u130 u131 u132 u133 u134 u135 u136 u137 u138 u139 u140 u141 u142 u143 u144 u145 u146 u147 u148 u149 u150 u151 u152 u153 u154 u155 u156 u157 u158 u159 u160 u161 u162 u163 u164 u165 u166 u167 u168 u169 u170 u171 u172 u173 u174 u175 u176 u177 u178 u179 u180 u181 u182 u183,((∃ b,u177=Value.bool b∧(b=true→∃ f_1 r_1,f::r=f_1::r_1∧Sc.ix (Sc.named (Sc.nm f_1)) fs4 < (0:Int))∧∃ M,MkH K M ((kb,(49:TypeId),#[Value.string nm,Value.int IntKind.i64 lo,Value.int IntKind.i64 hi,Value.slice A4 fs4.length c4])::(rb,(49:TypeId),#[Value.string { data:=#[] },Value.int IntKind.i64 (0:Int),Value.int IntKind.i64 (0:Int),Value.slice none 0 0])::bx) ({ e:=(52:TypeId),size:=8,v:=Value.slice A4 fs4.length c4,n:=fs4.length,xs:=fxs }::{ e:=(49:TypeId),size:=4,v:=Value.slice A0 n c0,n:=n,xs:=kxs }::rs) ((fun M W=>SlAt M W (some (Addr.mk (b1) (o1) none)) (f::r))::(fun M W=>Flat M W fs4 fxs)::(fun M W=>Flat M W ks' kxs)::L) w'))∧a'=⟨(K.p::(Value.slice A0 n c0)::undef::undef::(Value.pointer (some (Addr.mk (rb) (0) none)))::(Value.int IntKind.i64 (↑n:Int))::(Value.int IntKind.i64 lo)::(Value.pointer (some (Addr.mk (kb) (0) none)))::u8::u9::u10::u11::u12::(Value.slice (some (Addr.mk (b1) (o1) none)) (r.length+1) c1)::u14::u15::u16::u17::u18::u19::u20::u21::u22::u23::u24::u25::u26::u27::u28::u29::u30::u31::u32::u33::u34::u35::u36::u37::u38::u39::u40::u41::u42::u43::u44::u45::u46::u47::u48::u49::u50::u51::u52::u53::u54::u55::u56::u57::u58::u59::u60::u61::u62::u63::u64::u65::u66::u67::u68::u69::u70::u71::u72::u73::u74::u75::u76::u77::u78::u79::u80::u81::u82::u83::u84::u85::u86::u87::u88::u89::u90::u91::u92::u93::u94::u95::u96::u97::u98::u99::u100::u101::u102::u103::u104::u105::u106::u107::u108::u109::u110::u111::u112::u113::u114::u115::u116::u117::u118::u119::u120::u121::u122::u123::u124::u125::u126::u127::u128::u129::u130::u131::u132::u133::u134::u135::u136::u137::u138::u139::u140::u141::u142::u143::u144::u145::u146::u147::u148::u149::u150::u151::u152::u153::u154::u155::u156::u157::u158::u159::u160::u161::u162::u163::u164::u165::u166::u167::u168::u169::u170::u171::u172::u173::u174::u175::u176::u177::u178::u179::u180::u181::u182::u183::[]).toArray,[]⟩)→J_ a' w') (hM_:∀ (a':Act) (w':World),Met J_ a' w'→K_ a' w') :
  Code.wp Tryz.prog cd_ (Exit.then K_ Q_) ⟨(K.p::(Value.slice A0 n c0)::undef::undef::(Value.pointer (some (Addr.mk (rb) (0) none)))::(Value.int IntKind.i64 (↑n:Int))::(Value.int IntKind.i64 lo)::(Value.pointer (some (Addr.mk (kb) (0) none)))::u8::u9::u10::u11::u12::(Value.slice (some (Addr.mk (b1) (o1) none)) (r.length+1) c1)::u14::u15::u16::u17::u18::u19::u20::u21::u22::u23::u24::u25::u26::u27::u28::u29::u30::u31::u32::u33::u34::u35::u36::u37::u38::u39::u40::u41::u42::u43::u44::u45::u46::u47::u48::u49::u50::u51::u52::u53::u54::u55::u56::u57::u58::u59::u60::u61::u62::u63::u64::u65::u66::u67::u68::u69::u70::u71::u72::u73::u74::u75::u76::u77::u78::u79::u80::u81::u82::u83::u84::u85::u86::u87::u88::u89::u90::u91::u92::u93::u94::u95::u96::u97::u98::u99::u100::u101::u102::u103::u104::u105::u106::u107::u108::u109::u110::u111::u112::u113::u114::u115::u116::u117::u118::u119::u120::u121::u122::u123::u124::u125::u126::u127::u128::u129::u130::u131::u132::u133::u134::u135::u136::u137::u138::u139::u140::u141::u142::u143::u144::u145::u146::u147::u148::u149::u150::u151::u152::u153::u154::u155::u156::u157::u158::u159::K.p::(Value.int IntKind.i64 (0:Int))::(Value.bool true)::K.p::(Value.slice (some (Addr.mk (b1) (o1) none)) (r.length+1) c1)::u165::u166::u167::u168::u169::u170::u171::u172::u173::u174::u175::u176::u177::u178::u179::u180::u181::u182::u183::[]).toArray,[]⟩ wo:=by
 subst hcd_
 conv=>arg 2;whnf
 letI:Grow:=K.grow
 apply RG.wp_region_typed (C:=fun w'=>K.R wo w') (n:=184) (m:=13) (l1:=[_,_,_,_,_,_,_,_,_,_,_,_,_]) (l2:=[])
 ·rfl
 ·rfl
 ·kernel_rfl
 ·rfl
 ·kernel_rfl
 ·exact K.drew wo
 ·exact fun u u' h hb=>h.trans hb
 iterate 5 ((apply RG.wpT_exact;· (intro w' hC hf;unfold RG.Gives;clear hf hC;go_wp2_with (fail);apply RG.postT_val rfl (Grow.refl _);simp only [RG.valAt,aA,aE,aC,aD,aH];exact rfl));(try simp only [Act.put,aB,aF,aG]))
 (apply RG.wpT_exact;· (intro w' hC hf;unfold RG.Gives;have q:=(H.out.turn hC).box (.head _);have q3:=q.cell 3;(simp at q3);clear q;clear hf hC;go_wp2_with (fail);apply RG.postT_val rfl (Grow.refl _);simp only [RG.valAt,aA,aE,aC,aD,aH];exact rfl));(try simp only [Act.put,aB,aF,aG])
 iterate 3 ((apply RG.wpT_exact;· (intro w' hC hf;unfold RG.Gives;clear hf hC;go_wp2_with (fail);apply RG.postT_val rfl (Grow.refl _);simp only [RG.valAt,aA,aE,aC,aD,aH];exact rfl));(try simp only [Act.put,aB,aF,aG]))
 (apply RG.wpT_exact;· (intro w' hC hf;unfold RG.Gives;obtain ⟨b',o',_,_,_,_,hbo,_,q,_⟩:=fld_at ((H.out.turn hC).fact (.head _)) 0 (by simp);(simp only [List.getElem_cons_zero] at q);rw [HNF.out] at q;(injection hbo with hbo;injection hbo with hb1 hb2;subst hb1;subst hb2);(try simp at q);clear hf hC;go_wp2_with (fail);apply RG.postT_val rfl (Grow.refl _);simp only [RG.valAt,aA,aE,aC,aD,aH];exact rfl));(try simp only [Act.put,aB,aF,aG])
 apply RG.wpT_exact (c:=.int .i64 x4)
 ·intro w' hC hf;unfold RG.Gives;clear hf
  obtain ⟨A4',c4',e4,_,_,hs4⟩:=(H.out.turn hC).rowSl (α:=Fld) (.head _) ((H.out.turn hC).fact (.tail _ (.head _)))
  obtain rfl:A4=A4':=by injection e4
  have hm4:=HFL4.out
  have CC:=has_any fs4 A4 c4 nmf w' hs4 (by omega)
  rw [HX4.out] at CC
  clear hs4 e4
  go_wp2_with (go_at_call 72;((with_reducible refine CC.mono ?_));rintro e w3 ⟨rfl,hb⟩)
  apply RG.postT_val rfl (K.grown hb);simp only [RG.valAt,aA,aE,aC,aD,aH]
 (try simp only [Act.put,aB,aF,aG])
 iterate 2 ((apply RG.wpT_exact;· (intro w' hC hf;unfold RG.Gives;clear hf hC;go_wp2_with (fail);apply RG.postT_val rfl (Grow.refl _);simp only [RG.valAt,aA,aE,aC,aD,aH];exact rfl));(try simp only [Act.put,aB,aF,aG]))
 apply RG.wpT_done
 intro w4 hC hall
 have T:=aI (H.out.turn hC)
 clear hall hC H
 go_wp2_with fail
 go_meet
 case rel=>exact ⟨_,rfl,fun h=>⟨f,r,rfl,by rw [HNF.out,HX4.out];exact of_decide_eq_true h⟩,_,T.out⟩
end Go.Proofs.YtmplaikgbeeikaaGreatDoor
