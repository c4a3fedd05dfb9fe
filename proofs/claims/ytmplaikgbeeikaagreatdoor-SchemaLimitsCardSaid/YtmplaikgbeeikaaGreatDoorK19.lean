/- Parts of the proof, joined: SxT5. -/
import Derived.Test.YtmplaikgbeeikaaGreatDoorK8
import Derived.Test.YtmplaikgbeeikaaGreatDoorK18
set_option linter.unusedVariables false
set_option linter.unusedSimpArgs false
set_option linter.unusedSectionVars false
namespace Go.Proofs.YtmplaikgbeeikaaGreatDoor
open Go Go.RowKit
theorem twordK_any {s:ByteArray} {tk:List Tk} {w:World} {g:Nat} {t:Sx.Tok} {l:List Sx.Tok} {M:List Nat} {bx:List Box} {rs:List Rw} {L:List (List Nat→World→Prop)} {W:World} {kk:Int} (hk:Sx.wordI t.1=kk) (h:PH (rk w g s tk) (t::l,false) M bx rs L W) :
  Calls Tryz.prog 91 #[.pointer (some ⟨g,0,none⟩)] W fun e W'=>e=.returned (.int .i64 kk)∧PH (rk w g s tk) (t::l,false) M bx rs L W':=by
 refine (tword_any h).mono ?_
 rintro e W' ⟨h1,h2⟩
 exact ⟨h1.trans (by rw [← hk];rfl),h2⟩
section
variable {s:ByteArray} {tk:List Tk} {w:World} {g:Nat} {M:List Nat} {bx:List Box} {rs:List Rw} {L:List (List Nat→World→Prop)} {W:World}
set_option maxRecDepth 100000 in
set_option maxHeartbeats 16000000 in
theorem tfield3_any {t:Sx.Tok} {l:List Sx.Tok} (hw:Sx.wordOf t.1=some 3) (h:PH (rk w g s tk) (t::l,false) M bx rs L W):Calls Tryz.prog 92 #[.pointer (some ⟨g,0,none⟩)] W (RdA (rk w g s tk) Sx.field (t::l,false) bx rs L):=by
 obtain ⟨N,hN⟩:∃ n,W.heap.size=n:=⟨_,rfl⟩
 have T:=aI (h.new #[.string ⟨#[]⟩,.string ⟨#[]⟩,.string ⟨#[]⟩,.int .i64 0,.int .i64 0,.int .i64 0,.slice none 0 0,.slice none 0 0] 52 hN)
 have HK:=aI (show Sx.wordI t.1=3 from Sx.wordI_some hw)
 have HW:=aI hw
 have CU:=aI (fun W=>uses_any 3 W)
 rw [show usesK 3=(false,false,false,false,true) from rfl] at CU
 clear h hw
 go_enter Tryz.func92,Tryz.ntmps92
 go_upto_region 2 with (go_at_call 91;((with_reducible refine (twordK_any HK.out T.out).mono ?_));rintro e w1 ⟨rfl,h1⟩;replace T:=aI h1;clear h1)
 obtain ⟨N1,hN1⟩:∃ n,w1.heap.size=n:=⟨_,rfl⟩
 replace T:=aI (T.out.new #[.string ⟨#[]⟩,.string ⟨#[]⟩,.string ⟨#[]⟩,.int .i64 3,.int .i64 0,.int .i64 0,.slice none 0 0,.slice none 0 0] 52 hN1)
 rw [hN1]
 generalize w1.alloc (.cells #[.string ⟨#[]⟩,.string ⟨#[]⟩,.string ⟨#[]⟩,.int .i64 3,.int .i64 0,.int .i64 0,.slice none 0 0,.slice none 0 0] 52)=W2 at T ⊢
 clear hN1
 obtain ⟨I,i1,c2,c3,f2,f3,hT,hN2⟩:=rk_open T.out
 have HN2:=aI (hN2 _ _ rfl)
 have hw1:IntKind.i64.wrap ((I:Int)+1)=((I+1:Nat):Int):=(by rw [wrapI (by unfold inI;omega)];omega)
 clear hT hN2
 dsimp only at c2 c3
 go_upto_region 3 with fail
 clear c2 c3 f2 f3 T
 have T:=aI (show PH (rk w g s tk) (l,false) _ ((N1,52,#[.string ⟨#[]⟩,.string ⟨#[]⟩,.string ⟨#[]⟩,.int .i64 3,.int .i64 0,.int .i64 0,.slice none 0 0,.slice none 0 0])::(N,52,#[.string ⟨#[]⟩,.string ⟨#[]⟩,.string ⟨#[]⟩,.int .i64 0,.int .i64 0,.int .i64 0,.slice none 0 0,.slice none 0 0])::bx) rs L (W2.setCell ⟨g,2,none⟩ (.int .i64 ((I:Int)+1))) from HN2.out)
 clear HN2 hw1
 generalize W2.setCell ⟨g,2,none⟩ _=W3 at T ⊢
 ·have B:=T.out.box (.head _);have z0:=B.cell 0;have z1:=B.cell 1;have z2:=B.cell 2;have z3:=B.cell 3;have z4:=B.cell 4;have z5:=B.cell 5;have z6:=B.cell 6;have z7:=B.cell 7;have f0:=B.frozen 0;have f1:=B.frozen 1;have f2:=B.frozen 2;have f3:=B.frozen 3;have f4:=B.frozen 4;have f5:=B.frozen 5;have f6:=B.frozen 6;have f7:=B.frozen 7;simp at z0 z1 z2 z3 z4 z5 z6 z7;dsimp only at f0 f1 f2 f3 f4 f5 f6 f7;clear B
  go_wp2_with (first | (go_at_call 69;((with_reducible refine (CU.out _).mono ?_));rintro e w0 ⟨rfl,rfl⟩) | (go_at_call 90;((with_reducible refine (tname_any T.out).mono ?_));rintro e w1 ⟨n1,st1,rfl,i1,x1,h1⟩;replace T:=aI h1;have X1:=aI x1;have I1:=aI i1;clear h1 x1 i1;(try clear z0 z1 z2 z3 z4 z5 z6 z7 f0 f1 f2 f3 f4 f5 f6 f7);have B:=T.out.box (.head _);have z0:=B.cell 0;have z1:=B.cell 1;have z2:=B.cell 2;have z3:=B.cell 3;have z4:=B.cell 4;have z5:=B.cell 5;have z6:=B.cell 6;have z7:=B.cell 7;have f0:=B.frozen 0;have f1:=B.frozen 1;have f2:=B.frozen 2;have f3:=B.frozen 3;have f4:=B.frozen 4;have f5:=B.frozen 5;have f6:=B.frozen 6;have f7:=B.frozen 7;simp at z0 z1 z2 z3 z4 z5 z6 z7;dsimp only at f0 f1 f2 f3 f4 f5 f6 f7;clear B) | (go_at_call 93;((with_reducible refine (tcnt_any (T.out.set0 0 _)).mono ?_));rintro e w2 ⟨n0,stc,rfl,i3,x3,hc3,h3⟩;replace T:=aI h3;have X3:=aI x3;have I3:=aI i3;have HC3:=aI hc3;clear h3 x3 i3 hc3;(try clear z0 z1 z2 z3 z4 z5 z6 z7 f0 f1 f2 f3 f4 f5 f6 f7)))
  replace T:=aI (show PH (rk w g s tk) stc _ ((N1,52,#[.string (Sx.ofT n1),.string ⟨#[]⟩,.string ⟨#[]⟩,.int .i64 3,.int .i64 0,.int .i64 0,.slice none 0 0,.slice none 0 0])::(N,52,#[.string ⟨#[]⟩,.string ⟨#[]⟩,.string ⟨#[]⟩,.int .i64 0,.int .i64 0,.int .i64 0,.slice none 0 0,.slice none 0 0])::bx) (⟨9,1,.slice none 0 0,0,[]⟩::⟨3,1,.slice none 0 0,0,[]⟩::rs) ((fun M W=>Flat M W ([]:List ByteArray) [])::(fun M W=>Flat M W ([]:List Int) [])::L) w2 from (((T.out.push 3 1).push 9 1).add (keeps_flat ([]:List Int) []) rfl).add (keeps_flat ([]:List ByteArray) []) rfl)
  have HX0:=aI (show ∀ x st',Sx.Nx (Sx.picks n0.toNat [] []) stc x st'→Sx.Nx (Sx.picks n0.toNat [] []) stc x st' from fun _ _ h=>h)
  go_loopg [10] (if stc.2=true then 0 else n0.toNat) (fun r v4 wr=>∃ (j:Nat) (st1:Sx.St) (acc:List ByteArray) (ns:List Int) (xs ys:List Value) (M1:List Nat) (u v:Value),v4=.int .i64 (j:Int)∧PH (rk w g s tk) st1 M1 ((N1,52,#[.string (Sx.ofT n1),.string ⟨#[]⟩,.string ⟨#[]⟩,.int .i64 3,.int .i64 0,.int .i64 0,u,v])::(N,52,#[.string ⟨#[]⟩,.string ⟨#[]⟩,.string ⟨#[]⟩,.int .i64 0,.int .i64 0,.int .i64 0,.slice none 0 0,.slice none 0 0])::bx) (⟨9,1,u,acc.length,xs⟩::⟨3,1,v,ns.length,ys⟩::rs) ((fun M W=>Flat M W acc xs)::(fun M W=>Flat M W ns ys)::L) wr∧j≤13∧(if st1.2=true then 0 else (n0 - j).toNat)=r∧(st1.2=false→n0≤12)∧acc.length+r≤100∧ns.length=acc.length∧(∀ x st',Sx.Nx (Sx.picks (n0 - j).toNat acc ns) st1 x st'→Sx.Nx (Sx.picks n0.toNat [] []) stc x st'))
  case atStart=>exact ⟨0,stc,[],[],[],[],_,_,_,rfl,T.out,by omega,by simp,fun h=>(HC3.out h).2,by
   show 0+(if stc.2=true then 0 else n0.toNat)≤100
   split
   ·omega
   ·rename_i hf;have:=HC3.out (by simpa using hf);omega,rfl,by first|exact HX0.out|simp⟩
  case round =>
   obtain ⟨j,st1,acc,ns,xs,ys,M1,u,v,rfl,hH,hj13,hlf,h12,hal,hnl,hnx⟩:=hrel
   obtain ⟨wo,rfl⟩:∃ wo:World,wo=wr:=⟨_,rfl⟩
   replace T:=aI hH
   have HX:=aI hnx
   have H12:=aI h12
   have HLF:=aI hlf
   have HNL:=aI hnl
   have HAL:=aI hal
   clear hH hnx hlf h12 HX0 hnl hal
   obtain ⟨l1,f⟩:=st1
   obtain ⟨A7,c7,rfl⟩:=T.out.form
   obtain ⟨B7,d7,rfl⟩:=T.out.rswap.form
   obtain ⟨cs9,hb9,A9,c9,I9,rfl,_⟩:=T.out.pbox
   have z9:=hb9.cell 3
   simp at z9
   clear hb9
   have HA8:=aI (show acc.length≤100 by have:=HAL.out;omega)
   have HN8:=aI (show ns.length≤100 by have:=HAL.out;have:=HNL.out;omega)
   by_cases hgo:(j:Int) < n0∧f=false
   ·obtain ⟨hi0,rfl⟩:=hgo
    have t1:decide ((j:Int) < n0)=true:=decide_eq_true hi0
    have q:=T.out.box (.head _);have q6:=q.cell 6;have q7:=q.cell 7;(simp at q6 q7);clear q
    go_wp2_with fail
    go_region_law (first | (obtain ⟨i0,hI,hz0,hz1,hz2⟩:=info_parts infoStr;refine step_append_ph (by rfl) _ _ 33 (by rfl) 9 i0 _ 1 16 Tryz.underlying33 hI hz0 hz1 hz2 rfl (by decide) (T2.out.below ((Below.refl _ _).alloc (Nat.le_refl _) _)) (by rfl) _ _ 1 1 [.string (Sx.ofT t3)] (by rfl) (reads_blk (Blk.new _ _ _) rfl) (by simp [Value.oneCell']) (by have:=HA8.out;unfold maxLen;omega) (by have:=HA8.out;omega) ?_;intro v7 w7 M7 h7 _;obtain ⟨A8,c8,rfl⟩:=h7.form;have q:=h7.box (.head _);have q6:=q.cell 6;(simp at q6);have f6:=q.frozen 6;(dsimp only at f6);clear q;have T3:=aI h7;clear h7 hI hz0 hz1 hz2) | (go_simp;go_at_call 90;refine (tname_any T.out.drew).mono ?_;rintro e w3 ⟨t3,st3,rfl,i3,x3,h3⟩;have q:=h3.box (.head _);have q6:=q.cell 6;(simp at q6);clear q;have T2:=aI h3;have X4:=aI x3;have I4:=aI i3;have q1b:∀ o,(w3.alloc o).cell? ⟨N1,6,none⟩=some (.slice A7 acc.length c7):=(fun o=>by have q:=(T2.out.below ((Below.refl _ _).alloc (Nat.le_refl _) o)).box (.head _);have q:=q.cell 6;simpa using q);clear h3 x3 i3))
    all_goals
     have T4:=aI ((((T3.out.set0 6 (.slice A8 (acc.length+1) c8)).flat (Flat.single (us:=[.string (Sx.ofT t3)]) ⟨rfl,Nat.le_trans I4.out (by decide)⟩))).rswap.fswap)
     clear T T2 T3 q1b q6 q7
     (try clear f6)
     replace T4:=aI (show PH (rk w g s tk) st3 M7 ((N1,52,#[.string (Sx.ofT n1),.string ⟨#[]⟩,.string ⟨#[]⟩,.int .i64 3,.int .i64 0,.int .i64 0,.slice A8 (acc.length+1) c8,.slice B7 ns.length d7])::(N,52,#[.string ⟨#[]⟩,.string ⟨#[]⟩,.string ⟨#[]⟩,.int .i64 0,.int .i64 0,.int .i64 0,.slice none 0 0,.slice none 0 0])::bx) (⟨3,1,.slice B7 ns.length d7,ns.length,ys⟩::⟨9,1,.slice A8 (acc.length+1) c8,acc.length+1,xs++[.string (Sx.ofT t3)]⟩::rs) ((fun M W=>Flat M W ns ys)::(fun M W=>Flat M W (acc++[Sx.ofT t3]) (xs++[.string (Sx.ofT t3)]))::L) _ from T4.out)
     generalize w7.setCell ⟨N1,6,none⟩ (.slice A8 (acc.length+1) c8)=W9 at *
     have q:=T4.out.box (.head _);have q7:=q.cell 7;(simp at q7);clear q
     go_wp2_with fail
     go_region_law (first | (obtain ⟨i0,hI,hz0,hz1,hz2⟩:=info_parts infoI;refine step_append_ph (by rfl) _ _ 22 (by rfl) 3 i0 _ 1 8 Tryz.underlying22 hI hz0 hz1 hz2 rfl (by decide) (T5.out.below ((Below.refl _ _).alloc (Nat.le_refl _) _)) (by rfl) _ _ 1 1 [.int .i64 t5] (by rfl) (reads_blk (Blk.new _ _ _) rfl) (by simp [Value.oneCell']) (by have:=HN8.out;unfold maxLen;omega) (by have:=HN8.out;omega) ?_;intro v8 w8 M8 h8 _;obtain ⟨B8,d8,rfl⟩:=h8.form;have q:=h8.box (.head _);have q7:=q.cell 7;(simp at q7);have f7:=q.frozen 7;(dsimp only at f7);clear q;have T6:=aI h8;clear h8 hI hz0 hz1 hz2) | (go_simp;go_at_call 42;refine (tnum_any T4.out.drew).mono ?_;rintro e w5 ⟨t5,st5,rfl,i5,x5,h5⟩;have q:=h5.box (.head _);have q7:=q.cell 7;(simp at q7);clear q;have T5:=aI h5;have X5:=aI x5;have I5:=aI i5;have q1b:∀ o,(w5.alloc o).cell? ⟨N1,7,none⟩=some (.slice B7 ns.length d7):=(fun o=>by have q:=(T5.out.below ((Below.refl _ _).alloc (Nat.le_refl _) o)).box (.head _);have q:=q.cell 7;simpa using q);clear h5 x5 i5))
     all_goals
      have T7:=aI ((((T6.out.set0 7 (.slice B8 (ns.length+1) d8)).flat (Flat.single (us:=[.int .i64 t5]) ⟨rfl,I5.out⟩))).rswap.fswap)
      clear T4 T5 T6 q1b
      go_wp2_with fail
      go_roundg (if st5.2=true then 0 else (n0 - (j+1:Nat)).toNat)
      case measure =>
       have h1:=HLF.out
       rw [if_neg (by simp)] at h1
       split <;> omega
      case rel =>
       have h1:=HLF.out
       have h2:=HAL.out
       rw [if_neg (by simp)] at h1
       have h12:=H12.out (by simp)
       refine ⟨j+1,st5,acc++[Sx.ofT t3],ns++[t5],_,_,M8,_,_,by go_num,by rw [aK,aK];exact T7.out,by omega,rfl,fun _=>h12,by rw [aK,List.length_singleton];split <;> omega,by rw [aK,aK,HNL.out];rfl,fun x st' hx=>HX.out _ _ ?_⟩
       rw [show (n0 - (j:Int)).toNat=(n0 - ((j+1:Nat):Int)).toNat+1 by omega]
       exact Sx.nx_bind X4.out (Sx.nx_bind X5.out hx)
   ·have HST:=aI (show Sx.Nx (Sx.picks (n0 - (j:Int)).toNat acc ns) (l1,f) (acc,ns) (l1,f) by
     cases f
     ·have hge:¬ (j:Int) < n0:=fun h=>hgo ⟨h,rfl⟩
      rw [show (n0 - (j:Int)).toNat=0 by omega]
      exact Sx.nx_ret _ _
     ·exact Sx.nx_failed)
    obtain ⟨A,c,M',hv,hc1,hc2,h4,_⟩:=T.out.freeze (α:=ByteArray) rfl rfl (T.out.fact (.head _))
    injection hv with hv1 hv2 hv3
    subst hv1 hv3
    obtain ⟨B,d,M4,hv,hd1,hd2,h5,_⟩:=h4.freeze (α:=Int) rfl rfl (h4.fact (.tail _ (.tail _ (.head _))))
    injection hv with hv1 hv2 hv3
    subst hv1 hv3
    replace T:=aI (show PH (rk w g s tk) (l1,f) M4 ((N1,52,#[.string (Sx.ofT n1),.string ⟨#[]⟩,.string ⟨#[]⟩,.int .i64 3,.int .i64 0,.int .i64 0,.slice A7 acc.length c7,.slice B7 ns.length d7])::(N,52,#[.string ⟨#[]⟩,.string ⟨#[]⟩,.string ⟨#[]⟩,.int .i64 0,.int .i64 0,.int .i64 0,.slice none 0 0,.slice none 0 0])::bx) rs ((fun M W=>SlAt M W B7 ns)::(fun M W=>SlAt M W A7 acc)::L) wo from h5.less fun P hP=>by
     rcases aL hP with rfl | hP
     ·exact .head _
     ·rcases aL hP with rfl | hP
      ·exact .tail _ (.head _)
      ·exact .tail _ (.tail _ (.tail _ (.tail _ hP))))
    clear h4 h5
    have HCC:=aI (show (acc.length≤c7∧c7≤9223372036854775807)∧ns.length≤d7∧d7≤9223372036854775807 from ⟨⟨hc1,hc2⟩,hd1,hd2⟩)
    clear hc1 hc2 hd1 hd2
    have hcase:decide ((j:Int) < n0)=false∨(decide ((j:Int) < n0)=true∧f=true):=by
     by_cases h:(j:Int) < n0
     ·exact .inr ⟨decide_eq_true h,by cases f;exact absurd ⟨h,rfl⟩ hgo;rfl⟩
     ·exact .inl (decide_eq_false h)
    clear hgo
    rcases hcase with t1 | ⟨t1,rfl⟩
    all_goals
     go_upto_region 22 with fail
     clear t1 z9
     have B:=T.out.box (.head _);have z0:=B.cell 0;have z1:=B.cell 1;have z2:=B.cell 2;have z3:=B.cell 3;have z4:=B.cell 4;have z5:=B.cell 5;have z6:=B.cell 6;have z7:=B.cell 7
     have C:=T.out.box (.tail _ (.head _));have y0:=C.cell 0;have y1:=C.cell 1;have y2:=C.cell 2;have y3:=C.cell 3;have y4:=C.cell 4;have y5:=C.cell 5;have y6:=C.cell 6;have y7:=C.cell 7;have f0:=C.frozen 0;have f1:=C.frozen 1;have f2:=C.frozen 2;have f3:=C.frozen 3;have f4:=C.frozen 4;have f5:=C.frozen 5;have f6:=C.frozen 6;have f7:=C.frozen 7
     simp at z0 z1 z2 z3 z4 z5 z6 z7 y0 y1 y2 y3 y4 y5 y6 y7
     dsimp only at f0 f1 f2 f3 f4 f5 f6 f7
     clear B C
     have h8:=((((((((T.out.bswap.set0 0 (.string (Sx.ofT n1))).set0 1 (.string ⟨#[]⟩)).set0 2 (.string ⟨#[]⟩)).set0 3 (.int .i64 3)).set0 4 (.int .i64 0)).set0 5 (.int .i64 0)).set0 6 (.slice A7 acc.length c7)).set0 7 (.slice B7 ns.length d7))
     (simp only [aB,aF,aG] at h8)
     have T8:=aI h8
     clear h8
     clear T
     go_wp2_with fail
     clear y0 y1 y2 y3 y4 y5 y6 y7
     have C:=T8.out.box (.head _);have y0:=C.cell 0;have y1:=C.cell 1;have y2:=C.cell 2;have y3:=C.cell 3;have y4:=C.cell 4;have y5:=C.cell 5;have y6:=C.cell 6;have y7:=C.cell 7
     simp at y0 y1 y2 y3 y4 y5 y6 y7
     have z:inI 0:=by constructor <;> decide
     have zk:inI 3:=by constructor <;> decide
     have hn:=T8.out.fact (.head _)
     have ha:=T8.out.fact (.tail _ (.head _))
     refine bodyPost_ret (v:=.agg #[.string (Sx.ofT n1),.string ⟨#[]⟩,.string ⟨#[]⟩,.int .i64 3,.int .i64 0,.int .i64 0,.slice A7 acc.length c7,.slice B7 ns.length d7]) ?_ rfl ?_
     ·simp [results,Tryz.results92,go_sem,y0,y1,y2,y3,y4,y5,y6,y7]
     ·exact ⟨(Sx.ofT n1,Sx.ofT [],Sx.ofT [],3,0,0,acc,ns),_,_,_,rfl,Sx.nx_field HW.out (Sx.nx_bind X1.out (show Sx.Nx (fun l=>(Sx.count l).bind fun n l=>(Sx.picks n [] [] l).bind fun p l=>.ok (Sx.ofT n1,Sx.ofT [],Sx.ofT [],3,0,0,p.1,p.2) l) st1 _ _ from Sx.nx_bind X3.out (Sx.nx_bind (HX.out _ _ HST.out) (Sx.nx_ret (Sx.ofT n1,Sx.ofT [],Sx.ofT [],3,0,0,acc,ns) _)))),(T8.out.unbox.unbox.add (keeps_rep (Sx.ofT n1,Sx.ofT [],Sx.ofT [],3,0,0,acc,ns) _) (fld_rep (Nat.le_trans I1.out (by decide)) empty_size empty_size zk z z ha hn HCC.out.1.1 HCC.out.1.2 HCC.out.2.1 HCC.out.2.2)).less fun P hP=>by
       rcases aL hP with rfl | hP
       ·exact .head _
       ·exact .tail _ (.tail _ (.tail _ hP))⟩
end
end Go.Proofs.YtmplaikgbeeikaaGreatDoor
