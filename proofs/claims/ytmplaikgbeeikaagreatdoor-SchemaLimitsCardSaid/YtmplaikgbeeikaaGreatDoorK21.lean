/- Parts of the proof, joined: SxT6, SxT8. -/
import Derived.Test.YtmplaikgbeeikaaGreatDoorK19
import Derived.Test.YtmplaikgbeeikaaGreatDoorK20
set_option linter.unusedVariables false
set_option linter.unusedSimpArgs false
set_option linter.unusedSectionVars false
namespace Go.Proofs.YtmplaikgbeeikaaGreatDoor
open Go Go.RowKit
section
variable {s:ByteArray} {tk:List Tk} {w:World} {g:Nat} {M:List Nat} {bx:List Box} {rs:List Rw} {L:List (List Nat→World→Prop)} {W:World}
set_option maxRecDepth 100000 in
set_option maxHeartbeats 16000000 in
theorem tfield0_any {t:Sx.Tok} {l:List Sx.Tok} (hw:Sx.wordOf t.1=some 0) (h:PH (rk w g s tk) (t::l,false) M bx rs L W):Calls Tryz.prog 92 #[.pointer (some ⟨g,0,none⟩)] W (RdA (rk w g s tk) Sx.field (t::l,false) bx rs L):=by
 obtain ⟨N,hN⟩:∃ n,W.heap.size=n:=⟨_,rfl⟩
 have T:=aI (h.new #[.string ⟨#[]⟩,.string ⟨#[]⟩,.string ⟨#[]⟩,.int .i64 0,.int .i64 0,.int .i64 0,.slice none 0 0,.slice none 0 0] 52 hN)
 have HK:=aI (show Sx.wordI t.1=0 from Sx.wordI_some hw)
 have HW:=aI hw
 have CU:=aI (fun W=>uses_any 0 W)
 rw [show usesK 0=(false,false,true,false,false) from rfl] at CU
 clear h hw
 go_enter Tryz.func92,Tryz.ntmps92
 go_upto_region 2 with (go_at_call 91;((with_reducible refine (twordK_any HK.out T.out).mono ?_));rintro e w1 ⟨rfl,h1⟩;replace T:=aI h1;clear h1)
 obtain ⟨N1,hN1⟩:∃ n,w1.heap.size=n:=⟨_,rfl⟩
 replace T:=aI (T.out.new #[.string ⟨#[]⟩,.string ⟨#[]⟩,.string ⟨#[]⟩,.int .i64 0,.int .i64 0,.int .i64 0,.slice none 0 0,.slice none 0 0] 52 hN1)
 rw [hN1]
 generalize w1.alloc (.cells #[.string ⟨#[]⟩,.string ⟨#[]⟩,.string ⟨#[]⟩,.int .i64 0,.int .i64 0,.int .i64 0,.slice none 0 0,.slice none 0 0] 52)=W2 at T ⊢
 clear hN1
 obtain ⟨I,i1,c2,c3,f2,f3,hT,hN2⟩:=rk_open T.out
 have HN2:=aI (hN2 _ _ rfl)
 have hw1:IntKind.i64.wrap ((I:Int)+1)=((I+1:Nat):Int):=(by rw [wrapI (by unfold inI;omega)];omega)
 clear hT hN2
 dsimp only at c2 c3
 go_upto_region 3 with fail
 clear c2 c3 f2 f3 T
 have T:=aI (show PH (rk w g s tk) (l,false) _ ((N1,52,#[.string ⟨#[]⟩,.string ⟨#[]⟩,.string ⟨#[]⟩,.int .i64 0,.int .i64 0,.int .i64 0,.slice none 0 0,.slice none 0 0])::(N,52,#[.string ⟨#[]⟩,.string ⟨#[]⟩,.string ⟨#[]⟩,.int .i64 0,.int .i64 0,.int .i64 0,.slice none 0 0,.slice none 0 0])::bx) rs L (W2.setCell ⟨g,2,none⟩ (.int .i64 ((I:Int)+1))) from HN2.out)
 clear HN2 hw1
 generalize W2.setCell ⟨g,2,none⟩ _=W3 at T ⊢
 ·have B:=T.out.box (.head _);have z0:=B.cell 0;have z1:=B.cell 1;have z2:=B.cell 2;have z3:=B.cell 3;have z4:=B.cell 4;have z5:=B.cell 5;have z6:=B.cell 6;have z7:=B.cell 7;have f0:=B.frozen 0;have f1:=B.frozen 1;have f2:=B.frozen 2;have f3:=B.frozen 3;have f4:=B.frozen 4;have f5:=B.frozen 5;have f6:=B.frozen 6;have f7:=B.frozen 7;simp at z0 z1 z2 z3 z4 z5 z6 z7;dsimp only at f0 f1 f2 f3 f4 f5 f6 f7;clear B
  go_upto_region 22 with (first | (go_at_call 69;((with_reducible refine (CU.out _).mono ?_));rintro e w0 ⟨rfl,rfl⟩) | (go_at_call 90;((with_reducible refine (tname_any T.out).mono ?_));rintro e w1 ⟨n1,st1,rfl,i1,x1,h1⟩;replace T:=aI h1;have X1:=aI x1;have I1:=aI i1;clear h1 x1 i1;(try clear z0 z1 z2 z3 z4 z5 z6 z7 f0 f1 f2 f3 f4 f5 f6 f7);have B:=T.out.box (.head _);have z0:=B.cell 0;have z1:=B.cell 1;have z2:=B.cell 2;have z3:=B.cell 3;have z4:=B.cell 4;have z5:=B.cell 5;have z6:=B.cell 6;have z7:=B.cell 7;have f0:=B.frozen 0;have f1:=B.frozen 1;have f2:=B.frozen 2;have f3:=B.frozen 3;have f4:=B.frozen 4;have f5:=B.frozen 5;have f6:=B.frozen 6;have f7:=B.frozen 7;simp at z0 z1 z2 z3 z4 z5 z6 z7;dsimp only at f0 f1 f2 f3 f4 f5 f6 f7;clear B) | (go_at_call 42;((with_reducible refine (tnum_any (T.out.set0 0 _)).mono ?_));rintro e w2 ⟨n2,st2,rfl,i2,x2,h2⟩;replace T:=aI h2;have X2:=aI x2;have I2:=aI i2;clear h2 x2 i2;(try clear z0 z1 z2 z3 z4 z5 z6 z7 f0 f1 f2 f3 f4 f5 f6 f7);have B:=T.out.box (.head _);have z0:=B.cell 0;have z1:=B.cell 1;have z2:=B.cell 2;have z3:=B.cell 3;have z4:=B.cell 4;have z5:=B.cell 5;have z6:=B.cell 6;have z7:=B.cell 7;have f0:=B.frozen 0;have f1:=B.frozen 1;have f2:=B.frozen 2;have f3:=B.frozen 3;have f4:=B.frozen 4;have f5:=B.frozen 5;have f6:=B.frozen 6;have f7:=B.frozen 7;simp at z0 z1 z2 z3 z4 z5 z6 z7;dsimp only at f0 f1 f2 f3 f4 f5 f6 f7;clear B))
  have T7:=aI (show PH (rk w g s tk) st2 _ ((N1,52,#[.string (Sx.ofT n1),.string ⟨#[]⟩,.string ⟨#[]⟩,.int .i64 0,.int .i64 n2,.int .i64 0,.slice none 0 0,.slice none 0 0])::(N,52,#[.string ⟨#[]⟩,.string ⟨#[]⟩,.string ⟨#[]⟩,.int .i64 0,.int .i64 0,.int .i64 0,.slice none 0 0,.slice none 0 0])::bx) rs L _ from T.out.set0 4 (.int .i64 n2))
  clear T;(try clear z0 z1 z2 z3 z4 z5 z6 z7 f0 f1 f2 f3 f4 f5 f6 f7)
  generalize w2.setCell ⟨N1,4,none⟩ (.int .i64 n2)=W8 at *
  have B:=T7.out.box (.head _);have z0:=B.cell 0;have z1:=B.cell 1;have z2:=B.cell 2;have z3:=B.cell 3;have z4:=B.cell 4;have z5:=B.cell 5;have z6:=B.cell 6;have z7:=B.cell 7
  have C:=T7.out.box (.tail _ (.head _));have y0:=C.cell 0;have y1:=C.cell 1;have y2:=C.cell 2;have y3:=C.cell 3;have y4:=C.cell 4;have y5:=C.cell 5;have y6:=C.cell 6;have y7:=C.cell 7;have f0:=C.frozen 0;have f1:=C.frozen 1;have f2:=C.frozen 2;have f3:=C.frozen 3;have f4:=C.frozen 4;have f5:=C.frozen 5;have f6:=C.frozen 6;have f7:=C.frozen 7
  simp at z0 z1 z2 z3 z4 z5 z6 z7 y0 y1 y2 y3 y4 y5 y6 y7
  dsimp only at f0 f1 f2 f3 f4 f5 f6 f7
  clear B C
  have T8:=aI (show PH (rk w g s tk) st2 _ ((N,52,#[.string (Sx.ofT n1),.string ⟨#[]⟩,.string ⟨#[]⟩,.int .i64 0,.int .i64 n2,.int .i64 0,.slice none 0 0,.slice none 0 0])::(N1,52,#[.string (Sx.ofT n1),.string ⟨#[]⟩,.string ⟨#[]⟩,.int .i64 0,.int .i64 n2,.int .i64 0,.slice none 0 0,.slice none 0 0])::bx) rs L _ from ((((((((T7.out.bswap.set0 0 (.string (Sx.ofT n1))).set0 1 (.string ⟨#[]⟩)).set0 2 (.string ⟨#[]⟩)).set0 3 (.int .i64 0)).set0 4 (.int .i64 n2)).set0 5 (.int .i64 0)).set0 6 (.slice none 0 0)).set0 7 (.slice none 0 0)))
  go_wp2_with fail
  clear y0 y1 y2 y3 y4 y5 y6 y7
  have C:=T8.out.box (.head _);have y0:=C.cell 0;have y1:=C.cell 1;have y2:=C.cell 2;have y3:=C.cell 3;have y4:=C.cell 4;have y5:=C.cell 5;have y6:=C.cell 6;have y7:=C.cell 7
  simp at y0 y1 y2 y3 y4 y5 y6 y7
  have z:inI 0:=by constructor <;> decide
  have zk:inI 0:=by constructor <;> decide
  have zz:=Nat.zero_le 9223372036854775807
  refine bodyPost_ret (v:=.agg #[.string (Sx.ofT n1),.string ⟨#[]⟩,.string ⟨#[]⟩,.int .i64 0,.int .i64 n2,.int .i64 0,.slice none 0 0,.slice none 0 0]) ?_ rfl ?_
  ·simp [results,Tryz.results92,go_sem,y0,y1,y2,y3,y4,y5,y6,y7]
  ·exact ⟨(Sx.ofT n1,Sx.ofT [],Sx.ofT [],0,n2,0,[],[]),_,st2,_,rfl,Sx.nx_field HW.out (Sx.nx_bind X1.out (show Sx.Nx (fun l=>(Sx.number l).bind fun lo l=>.ok (Sx.ofT n1,Sx.ofT [],Sx.ofT [],0,lo,0,[],[]) l) st1 _ _ from Sx.nx_bind X2.out (Sx.nx_ret _ _))),T8.out.unbox.unbox.add (keeps_rep _ _) (fld_rep (Nat.le_trans I1.out (by decide)) empty_size empty_size zk I2.out z .nil .nil (Nat.le_refl _) zz (Nat.le_refl _) zz)⟩
set_option maxRecDepth 100000 in
set_option maxHeartbeats 16000000 in
theorem tfield1_any {t:Sx.Tok} {l:List Sx.Tok} (hw:Sx.wordOf t.1=some 1) (h:PH (rk w g s tk) (t::l,false) M bx rs L W):Calls Tryz.prog 92 #[.pointer (some ⟨g,0,none⟩)] W (RdA (rk w g s tk) Sx.field (t::l,false) bx rs L):=by
 obtain ⟨N,hN⟩:∃ n,W.heap.size=n:=⟨_,rfl⟩
 have T:=aI (h.new #[.string ⟨#[]⟩,.string ⟨#[]⟩,.string ⟨#[]⟩,.int .i64 0,.int .i64 0,.int .i64 0,.slice none 0 0,.slice none 0 0] 52 hN)
 have HK:=aI (show Sx.wordI t.1=1 from Sx.wordI_some hw)
 have HW:=aI hw
 have CU:=aI (fun W=>uses_any 1 W)
 rw [show usesK 1=(true,false,true,true,false) from rfl] at CU
 clear h hw
 go_enter Tryz.func92,Tryz.ntmps92
 go_upto_region 2 with (go_at_call 91;((with_reducible refine (twordK_any HK.out T.out).mono ?_));rintro e w1 ⟨rfl,h1⟩;replace T:=aI h1;clear h1)
 obtain ⟨N1,hN1⟩:∃ n,w1.heap.size=n:=⟨_,rfl⟩
 replace T:=aI (T.out.new #[.string ⟨#[]⟩,.string ⟨#[]⟩,.string ⟨#[]⟩,.int .i64 1,.int .i64 0,.int .i64 0,.slice none 0 0,.slice none 0 0] 52 hN1)
 rw [hN1]
 generalize w1.alloc (.cells #[.string ⟨#[]⟩,.string ⟨#[]⟩,.string ⟨#[]⟩,.int .i64 1,.int .i64 0,.int .i64 0,.slice none 0 0,.slice none 0 0] 52)=W2 at T ⊢
 clear hN1
 obtain ⟨I,i1,c2,c3,f2,f3,hT,hN2⟩:=rk_open T.out
 have HN2:=aI (hN2 _ _ rfl)
 have hw1:IntKind.i64.wrap ((I:Int)+1)=((I+1:Nat):Int):=(by rw [wrapI (by unfold inI;omega)];omega)
 clear hT hN2
 dsimp only at c2 c3
 go_upto_region 3 with fail
 clear c2 c3 f2 f3 T
 have T:=aI (show PH (rk w g s tk) (l,false) _ ((N1,52,#[.string ⟨#[]⟩,.string ⟨#[]⟩,.string ⟨#[]⟩,.int .i64 1,.int .i64 0,.int .i64 0,.slice none 0 0,.slice none 0 0])::(N,52,#[.string ⟨#[]⟩,.string ⟨#[]⟩,.string ⟨#[]⟩,.int .i64 0,.int .i64 0,.int .i64 0,.slice none 0 0,.slice none 0 0])::bx) rs L (W2.setCell ⟨g,2,none⟩ (.int .i64 ((I:Int)+1))) from HN2.out)
 clear HN2 hw1
 generalize W2.setCell ⟨g,2,none⟩ _=W3 at T ⊢
 ·have B:=T.out.box (.head _);have z0:=B.cell 0;have z1:=B.cell 1;have z2:=B.cell 2;have z3:=B.cell 3;have z4:=B.cell 4;have z5:=B.cell 5;have z6:=B.cell 6;have z7:=B.cell 7;have f0:=B.frozen 0;have f1:=B.frozen 1;have f2:=B.frozen 2;have f3:=B.frozen 3;have f4:=B.frozen 4;have f5:=B.frozen 5;have f6:=B.frozen 6;have f7:=B.frozen 7;simp at z0 z1 z2 z3 z4 z5 z6 z7;dsimp only at f0 f1 f2 f3 f4 f5 f6 f7;clear B
  go_upto_region 22 with (first | (go_at_call 69;((with_reducible refine (CU.out _).mono ?_));rintro e w0 ⟨rfl,rfl⟩) | (go_at_call 90;((with_reducible refine (tname_any T.out).mono ?_));rintro e w1 ⟨n1,st1,rfl,i1,x1,h1⟩;replace T:=aI h1;have X1:=aI x1;have I1:=aI i1;clear h1 x1 i1;(try clear z0 z1 z2 z3 z4 z5 z6 z7 f0 f1 f2 f3 f4 f5 f6 f7);have B:=T.out.box (.head _);have z0:=B.cell 0;have z1:=B.cell 1;have z2:=B.cell 2;have z3:=B.cell 3;have z4:=B.cell 4;have z5:=B.cell 5;have z6:=B.cell 6;have z7:=B.cell 7;have f0:=B.frozen 0;have f1:=B.frozen 1;have f2:=B.frozen 2;have f3:=B.frozen 3;have f4:=B.frozen 4;have f5:=B.frozen 5;have f6:=B.frozen 6;have f7:=B.frozen 7;simp at z0 z1 z2 z3 z4 z5 z6 z7;dsimp only at f0 f1 f2 f3 f4 f5 f6 f7;clear B) | (go_at_call 90;((with_reducible refine (tname_any (T.out.set0 0 _)).mono ?_));rintro e w2 ⟨n2,st2,rfl,i2,x2,h2⟩;replace T:=aI h2;have X2:=aI x2;have I2:=aI i2;clear h2 x2 i2;(try clear z0 z1 z2 z3 z4 z5 z6 z7 f0 f1 f2 f3 f4 f5 f6 f7);have B:=T.out.box (.head _);have z0:=B.cell 0;have z1:=B.cell 1;have z2:=B.cell 2;have z3:=B.cell 3;have z4:=B.cell 4;have z5:=B.cell 5;have z6:=B.cell 6;have z7:=B.cell 7;have f0:=B.frozen 0;have f1:=B.frozen 1;have f2:=B.frozen 2;have f3:=B.frozen 3;have f4:=B.frozen 4;have f5:=B.frozen 5;have f6:=B.frozen 6;have f7:=B.frozen 7;simp at z0 z1 z2 z3 z4 z5 z6 z7;dsimp only at f0 f1 f2 f3 f4 f5 f6 f7;clear B) | (go_at_call 42;((with_reducible refine (tnum_any (T.out.set0 1 _)).mono ?_));rintro e w3 ⟨n3,st3,rfl,i3,x3,h3⟩;replace T:=aI h3;have X3:=aI x3;have I3:=aI i3;clear h3 x3 i3;(try clear z0 z1 z2 z3 z4 z5 z6 z7 f0 f1 f2 f3 f4 f5 f6 f7);have B:=T.out.box (.head _);have z0:=B.cell 0;have z1:=B.cell 1;have z2:=B.cell 2;have z3:=B.cell 3;have z4:=B.cell 4;have z5:=B.cell 5;have z6:=B.cell 6;have z7:=B.cell 7;have f0:=B.frozen 0;have f1:=B.frozen 1;have f2:=B.frozen 2;have f3:=B.frozen 3;have f4:=B.frozen 4;have f5:=B.frozen 5;have f6:=B.frozen 6;have f7:=B.frozen 7;simp at z0 z1 z2 z3 z4 z5 z6 z7;dsimp only at f0 f1 f2 f3 f4 f5 f6 f7;clear B) | (go_at_call 42;((with_reducible refine (tnum_any (T.out.set0 4 _)).mono ?_));rintro e w4 ⟨n4,st4,rfl,i4,x4,h4⟩;replace T:=aI h4;have X4:=aI x4;have I4:=aI i4;clear h4 x4 i4;(try clear z0 z1 z2 z3 z4 z5 z6 z7 f0 f1 f2 f3 f4 f5 f6 f7);have B:=T.out.box (.head _);have z0:=B.cell 0;have z1:=B.cell 1;have z2:=B.cell 2;have z3:=B.cell 3;have z4:=B.cell 4;have z5:=B.cell 5;have z6:=B.cell 6;have z7:=B.cell 7;have f0:=B.frozen 0;have f1:=B.frozen 1;have f2:=B.frozen 2;have f3:=B.frozen 3;have f4:=B.frozen 4;have f5:=B.frozen 5;have f6:=B.frozen 6;have f7:=B.frozen 7;simp at z0 z1 z2 z3 z4 z5 z6 z7;dsimp only at f0 f1 f2 f3 f4 f5 f6 f7;clear B))
  have T7:=aI (show PH (rk w g s tk) st4 _ ((N1,52,#[.string (Sx.ofT n1),.string (Sx.ofT n2),.string ⟨#[]⟩,.int .i64 1,.int .i64 n3,.int .i64 n4,.slice none 0 0,.slice none 0 0])::(N,52,#[.string ⟨#[]⟩,.string ⟨#[]⟩,.string ⟨#[]⟩,.int .i64 0,.int .i64 0,.int .i64 0,.slice none 0 0,.slice none 0 0])::bx) rs L _ from T.out.set0 5 (.int .i64 n4))
  clear T;(try clear z0 z1 z2 z3 z4 z5 z6 z7 f0 f1 f2 f3 f4 f5 f6 f7)
  generalize w4.setCell ⟨N1,5,none⟩ (.int .i64 n4)=W8 at *
  have B:=T7.out.box (.head _);have z0:=B.cell 0;have z1:=B.cell 1;have z2:=B.cell 2;have z3:=B.cell 3;have z4:=B.cell 4;have z5:=B.cell 5;have z6:=B.cell 6;have z7:=B.cell 7
  have C:=T7.out.box (.tail _ (.head _));have y0:=C.cell 0;have y1:=C.cell 1;have y2:=C.cell 2;have y3:=C.cell 3;have y4:=C.cell 4;have y5:=C.cell 5;have y6:=C.cell 6;have y7:=C.cell 7;have f0:=C.frozen 0;have f1:=C.frozen 1;have f2:=C.frozen 2;have f3:=C.frozen 3;have f4:=C.frozen 4;have f5:=C.frozen 5;have f6:=C.frozen 6;have f7:=C.frozen 7
  simp at z0 z1 z2 z3 z4 z5 z6 z7 y0 y1 y2 y3 y4 y5 y6 y7
  dsimp only at f0 f1 f2 f3 f4 f5 f6 f7
  clear B C
  have T8:=aI (show PH (rk w g s tk) st4 _ ((N,52,#[.string (Sx.ofT n1),.string (Sx.ofT n2),.string ⟨#[]⟩,.int .i64 1,.int .i64 n3,.int .i64 n4,.slice none 0 0,.slice none 0 0])::(N1,52,#[.string (Sx.ofT n1),.string (Sx.ofT n2),.string ⟨#[]⟩,.int .i64 1,.int .i64 n3,.int .i64 n4,.slice none 0 0,.slice none 0 0])::bx) rs L _ from ((((((((T7.out.bswap.set0 0 (.string (Sx.ofT n1))).set0 1 (.string (Sx.ofT n2))).set0 2 (.string ⟨#[]⟩)).set0 3 (.int .i64 1)).set0 4 (.int .i64 n3)).set0 5 (.int .i64 n4)).set0 6 (.slice none 0 0)).set0 7 (.slice none 0 0)))
  go_wp2_with fail
  clear y0 y1 y2 y3 y4 y5 y6 y7
  have C:=T8.out.box (.head _);have y0:=C.cell 0;have y1:=C.cell 1;have y2:=C.cell 2;have y3:=C.cell 3;have y4:=C.cell 4;have y5:=C.cell 5;have y6:=C.cell 6;have y7:=C.cell 7
  simp at y0 y1 y2 y3 y4 y5 y6 y7
  have z:inI 0:=by constructor <;> decide
  have zk:inI 1:=by constructor <;> decide
  have zz:=Nat.zero_le 9223372036854775807
  refine bodyPost_ret (v:=.agg #[.string (Sx.ofT n1),.string (Sx.ofT n2),.string ⟨#[]⟩,.int .i64 1,.int .i64 n3,.int .i64 n4,.slice none 0 0,.slice none 0 0]) ?_ rfl ?_
  ·simp [results,Tryz.results92,go_sem,y0,y1,y2,y3,y4,y5,y6,y7]
  ·exact ⟨(Sx.ofT n1,Sx.ofT n2,Sx.ofT [],1,n3,n4,[],[]),_,st4,_,rfl,Sx.nx_field HW.out (Sx.nx_bind X1.out (show Sx.Nx (fun l=>(Sx.name l).bind fun o l=>(Sx.number l).bind fun lo l=>(Sx.number l).bind fun hi l=>.ok (Sx.ofT n1,Sx.ofT o,Sx.ofT [],1,lo,hi,[],[]) l) st1 _ _ from Sx.nx_bind X2.out (Sx.nx_bind X3.out (Sx.nx_bind X4.out (Sx.nx_ret _ _))))),T8.out.unbox.unbox.add (keeps_rep _ _) (fld_rep (Nat.le_trans I1.out (by decide)) (Nat.le_trans I2.out (by decide)) empty_size zk I3.out I4.out .nil .nil (Nat.le_refl _) zz (Nat.le_refl _) zz)⟩
set_option maxRecDepth 100000 in
set_option maxHeartbeats 16000000 in
theorem tfield2_any {t:Sx.Tok} {l:List Sx.Tok} (hw:Sx.wordOf t.1=some 2) (h:PH (rk w g s tk) (t::l,false) M bx rs L W):Calls Tryz.prog 92 #[.pointer (some ⟨g,0,none⟩)] W (RdA (rk w g s tk) Sx.field (t::l,false) bx rs L):=by
 obtain ⟨N,hN⟩:∃ n,W.heap.size=n:=⟨_,rfl⟩
 have T:=aI (h.new #[.string ⟨#[]⟩,.string ⟨#[]⟩,.string ⟨#[]⟩,.int .i64 0,.int .i64 0,.int .i64 0,.slice none 0 0,.slice none 0 0] 52 hN)
 have HK:=aI (show Sx.wordI t.1=2 from Sx.wordI_some hw)
 have HW:=aI hw
 have CU:=aI (fun W=>uses_any 2 W)
 rw [show usesK 2=(false,false,true,true,false) from rfl] at CU
 clear h hw
 go_enter Tryz.func92,Tryz.ntmps92
 go_upto_region 2 with (go_at_call 91;((with_reducible refine (twordK_any HK.out T.out).mono ?_));rintro e w1 ⟨rfl,h1⟩;replace T:=aI h1;clear h1)
 obtain ⟨N1,hN1⟩:∃ n,w1.heap.size=n:=⟨_,rfl⟩
 replace T:=aI (T.out.new #[.string ⟨#[]⟩,.string ⟨#[]⟩,.string ⟨#[]⟩,.int .i64 2,.int .i64 0,.int .i64 0,.slice none 0 0,.slice none 0 0] 52 hN1)
 rw [hN1]
 generalize w1.alloc (.cells #[.string ⟨#[]⟩,.string ⟨#[]⟩,.string ⟨#[]⟩,.int .i64 2,.int .i64 0,.int .i64 0,.slice none 0 0,.slice none 0 0] 52)=W2 at T ⊢
 clear hN1
 obtain ⟨I,i1,c2,c3,f2,f3,hT,hN2⟩:=rk_open T.out
 have HN2:=aI (hN2 _ _ rfl)
 have hw1:IntKind.i64.wrap ((I:Int)+1)=((I+1:Nat):Int):=(by rw [wrapI (by unfold inI;omega)];omega)
 clear hT hN2
 dsimp only at c2 c3
 go_upto_region 3 with fail
 clear c2 c3 f2 f3 T
 have T:=aI (show PH (rk w g s tk) (l,false) _ ((N1,52,#[.string ⟨#[]⟩,.string ⟨#[]⟩,.string ⟨#[]⟩,.int .i64 2,.int .i64 0,.int .i64 0,.slice none 0 0,.slice none 0 0])::(N,52,#[.string ⟨#[]⟩,.string ⟨#[]⟩,.string ⟨#[]⟩,.int .i64 0,.int .i64 0,.int .i64 0,.slice none 0 0,.slice none 0 0])::bx) rs L (W2.setCell ⟨g,2,none⟩ (.int .i64 ((I:Int)+1))) from HN2.out)
 clear HN2 hw1
 generalize W2.setCell ⟨g,2,none⟩ _=W3 at T ⊢
 ·have B:=T.out.box (.head _);have z0:=B.cell 0;have z1:=B.cell 1;have z2:=B.cell 2;have z3:=B.cell 3;have z4:=B.cell 4;have z5:=B.cell 5;have z6:=B.cell 6;have z7:=B.cell 7;have f0:=B.frozen 0;have f1:=B.frozen 1;have f2:=B.frozen 2;have f3:=B.frozen 3;have f4:=B.frozen 4;have f5:=B.frozen 5;have f6:=B.frozen 6;have f7:=B.frozen 7;simp at z0 z1 z2 z3 z4 z5 z6 z7;dsimp only at f0 f1 f2 f3 f4 f5 f6 f7;clear B
  go_upto_region 22 with (first | (go_at_call 69;((with_reducible refine (CU.out _).mono ?_));rintro e w0 ⟨rfl,rfl⟩) | (go_at_call 90;((with_reducible refine (tname_any T.out).mono ?_));rintro e w1 ⟨n1,st1,rfl,i1,x1,h1⟩;replace T:=aI h1;have X1:=aI x1;have I1:=aI i1;clear h1 x1 i1;(try clear z0 z1 z2 z3 z4 z5 z6 z7 f0 f1 f2 f3 f4 f5 f6 f7);have B:=T.out.box (.head _);have z0:=B.cell 0;have z1:=B.cell 1;have z2:=B.cell 2;have z3:=B.cell 3;have z4:=B.cell 4;have z5:=B.cell 5;have z6:=B.cell 6;have z7:=B.cell 7;have f0:=B.frozen 0;have f1:=B.frozen 1;have f2:=B.frozen 2;have f3:=B.frozen 3;have f4:=B.frozen 4;have f5:=B.frozen 5;have f6:=B.frozen 6;have f7:=B.frozen 7;simp at z0 z1 z2 z3 z4 z5 z6 z7;dsimp only at f0 f1 f2 f3 f4 f5 f6 f7;clear B) | (go_at_call 42;((with_reducible refine (tnum_any (T.out.set0 0 _)).mono ?_));rintro e w2 ⟨n2,st2,rfl,i2,x2,h2⟩;replace T:=aI h2;have X2:=aI x2;have I2:=aI i2;clear h2 x2 i2;(try clear z0 z1 z2 z3 z4 z5 z6 z7 f0 f1 f2 f3 f4 f5 f6 f7);have B:=T.out.box (.head _);have z0:=B.cell 0;have z1:=B.cell 1;have z2:=B.cell 2;have z3:=B.cell 3;have z4:=B.cell 4;have z5:=B.cell 5;have z6:=B.cell 6;have z7:=B.cell 7;have f0:=B.frozen 0;have f1:=B.frozen 1;have f2:=B.frozen 2;have f3:=B.frozen 3;have f4:=B.frozen 4;have f5:=B.frozen 5;have f6:=B.frozen 6;have f7:=B.frozen 7;simp at z0 z1 z2 z3 z4 z5 z6 z7;dsimp only at f0 f1 f2 f3 f4 f5 f6 f7;clear B) | (go_at_call 42;((with_reducible refine (tnum_any (T.out.set0 4 _)).mono ?_));rintro e w3 ⟨n3,st3,rfl,i3,x3,h3⟩;replace T:=aI h3;have X3:=aI x3;have I3:=aI i3;clear h3 x3 i3;(try clear z0 z1 z2 z3 z4 z5 z6 z7 f0 f1 f2 f3 f4 f5 f6 f7);have B:=T.out.box (.head _);have z0:=B.cell 0;have z1:=B.cell 1;have z2:=B.cell 2;have z3:=B.cell 3;have z4:=B.cell 4;have z5:=B.cell 5;have z6:=B.cell 6;have z7:=B.cell 7;have f0:=B.frozen 0;have f1:=B.frozen 1;have f2:=B.frozen 2;have f3:=B.frozen 3;have f4:=B.frozen 4;have f5:=B.frozen 5;have f6:=B.frozen 6;have f7:=B.frozen 7;simp at z0 z1 z2 z3 z4 z5 z6 z7;dsimp only at f0 f1 f2 f3 f4 f5 f6 f7;clear B))
  have T7:=aI (show PH (rk w g s tk) st3 _ ((N1,52,#[.string (Sx.ofT n1),.string ⟨#[]⟩,.string ⟨#[]⟩,.int .i64 2,.int .i64 n2,.int .i64 n3,.slice none 0 0,.slice none 0 0])::(N,52,#[.string ⟨#[]⟩,.string ⟨#[]⟩,.string ⟨#[]⟩,.int .i64 0,.int .i64 0,.int .i64 0,.slice none 0 0,.slice none 0 0])::bx) rs L _ from T.out.set0 5 (.int .i64 n3))
  clear T;(try clear z0 z1 z2 z3 z4 z5 z6 z7 f0 f1 f2 f3 f4 f5 f6 f7)
  generalize w3.setCell ⟨N1,5,none⟩ (.int .i64 n3)=W8 at *
  have B:=T7.out.box (.head _);have z0:=B.cell 0;have z1:=B.cell 1;have z2:=B.cell 2;have z3:=B.cell 3;have z4:=B.cell 4;have z5:=B.cell 5;have z6:=B.cell 6;have z7:=B.cell 7
  have C:=T7.out.box (.tail _ (.head _));have y0:=C.cell 0;have y1:=C.cell 1;have y2:=C.cell 2;have y3:=C.cell 3;have y4:=C.cell 4;have y5:=C.cell 5;have y6:=C.cell 6;have y7:=C.cell 7;have f0:=C.frozen 0;have f1:=C.frozen 1;have f2:=C.frozen 2;have f3:=C.frozen 3;have f4:=C.frozen 4;have f5:=C.frozen 5;have f6:=C.frozen 6;have f7:=C.frozen 7
  simp at z0 z1 z2 z3 z4 z5 z6 z7 y0 y1 y2 y3 y4 y5 y6 y7
  dsimp only at f0 f1 f2 f3 f4 f5 f6 f7
  clear B C
  have T8:=aI (show PH (rk w g s tk) st3 _ ((N,52,#[.string (Sx.ofT n1),.string ⟨#[]⟩,.string ⟨#[]⟩,.int .i64 2,.int .i64 n2,.int .i64 n3,.slice none 0 0,.slice none 0 0])::(N1,52,#[.string (Sx.ofT n1),.string ⟨#[]⟩,.string ⟨#[]⟩,.int .i64 2,.int .i64 n2,.int .i64 n3,.slice none 0 0,.slice none 0 0])::bx) rs L _ from ((((((((T7.out.bswap.set0 0 (.string (Sx.ofT n1))).set0 1 (.string ⟨#[]⟩)).set0 2 (.string ⟨#[]⟩)).set0 3 (.int .i64 2)).set0 4 (.int .i64 n2)).set0 5 (.int .i64 n3)).set0 6 (.slice none 0 0)).set0 7 (.slice none 0 0)))
  go_wp2_with fail
  clear y0 y1 y2 y3 y4 y5 y6 y7
  have C:=T8.out.box (.head _);have y0:=C.cell 0;have y1:=C.cell 1;have y2:=C.cell 2;have y3:=C.cell 3;have y4:=C.cell 4;have y5:=C.cell 5;have y6:=C.cell 6;have y7:=C.cell 7
  simp at y0 y1 y2 y3 y4 y5 y6 y7
  have z:inI 0:=by constructor <;> decide
  have zk:inI 2:=by constructor <;> decide
  have zz:=Nat.zero_le 9223372036854775807
  refine bodyPost_ret (v:=.agg #[.string (Sx.ofT n1),.string ⟨#[]⟩,.string ⟨#[]⟩,.int .i64 2,.int .i64 n2,.int .i64 n3,.slice none 0 0,.slice none 0 0]) ?_ rfl ?_
  ·simp [results,Tryz.results92,go_sem,y0,y1,y2,y3,y4,y5,y6,y7]
  ·exact ⟨(Sx.ofT n1,Sx.ofT [],Sx.ofT [],2,n2,n3,[],[]),_,st3,_,rfl,Sx.nx_field HW.out (Sx.nx_bind X1.out (show Sx.Nx (fun l=>(Sx.number l).bind fun lo l=>(Sx.number l).bind fun hi l=>.ok (Sx.ofT n1,Sx.ofT [],Sx.ofT [],2,lo,hi,[],[]) l) st1 _ _ from Sx.nx_bind X2.out (Sx.nx_bind X3.out (Sx.nx_ret _ _)))),T8.out.unbox.unbox.add (keeps_rep _ _) (fld_rep (Nat.le_trans I1.out (by decide)) empty_size empty_size zk I2.out I3.out .nil .nil (Nat.le_refl _) zz (Nat.le_refl _) zz)⟩
set_option maxRecDepth 100000 in
set_option maxHeartbeats 16000000 in
theorem tfield4_any {t:Sx.Tok} {l:List Sx.Tok} (hw:Sx.wordOf t.1=some 4) (h:PH (rk w g s tk) (t::l,false) M bx rs L W):Calls Tryz.prog 92 #[.pointer (some ⟨g,0,none⟩)] W (RdA (rk w g s tk) Sx.field (t::l,false) bx rs L):=by
 obtain ⟨N,hN⟩:∃ n,W.heap.size=n:=⟨_,rfl⟩
 have T:=aI (h.new #[.string ⟨#[]⟩,.string ⟨#[]⟩,.string ⟨#[]⟩,.int .i64 0,.int .i64 0,.int .i64 0,.slice none 0 0,.slice none 0 0] 52 hN)
 have HK:=aI (show Sx.wordI t.1=4 from Sx.wordI_some hw)
 have HW:=aI hw
 have CU:=aI (fun W=>uses_any 4 W)
 rw [show usesK 4=(true,false,true,true,false) from rfl] at CU
 clear h hw
 go_enter Tryz.func92,Tryz.ntmps92
 go_upto_region 2 with (go_at_call 91;((with_reducible refine (twordK_any HK.out T.out).mono ?_));rintro e w1 ⟨rfl,h1⟩;replace T:=aI h1;clear h1)
 obtain ⟨N1,hN1⟩:∃ n,w1.heap.size=n:=⟨_,rfl⟩
 replace T:=aI (T.out.new #[.string ⟨#[]⟩,.string ⟨#[]⟩,.string ⟨#[]⟩,.int .i64 4,.int .i64 0,.int .i64 0,.slice none 0 0,.slice none 0 0] 52 hN1)
 rw [hN1]
 generalize w1.alloc (.cells #[.string ⟨#[]⟩,.string ⟨#[]⟩,.string ⟨#[]⟩,.int .i64 4,.int .i64 0,.int .i64 0,.slice none 0 0,.slice none 0 0] 52)=W2 at T ⊢
 clear hN1
 obtain ⟨I,i1,c2,c3,f2,f3,hT,hN2⟩:=rk_open T.out
 have HN2:=aI (hN2 _ _ rfl)
 have hw1:IntKind.i64.wrap ((I:Int)+1)=((I+1:Nat):Int):=(by rw [wrapI (by unfold inI;omega)];omega)
 clear hT hN2
 dsimp only at c2 c3
 go_upto_region 3 with fail
 clear c2 c3 f2 f3 T
 have T:=aI (show PH (rk w g s tk) (l,false) _ ((N1,52,#[.string ⟨#[]⟩,.string ⟨#[]⟩,.string ⟨#[]⟩,.int .i64 4,.int .i64 0,.int .i64 0,.slice none 0 0,.slice none 0 0])::(N,52,#[.string ⟨#[]⟩,.string ⟨#[]⟩,.string ⟨#[]⟩,.int .i64 0,.int .i64 0,.int .i64 0,.slice none 0 0,.slice none 0 0])::bx) rs L (W2.setCell ⟨g,2,none⟩ (.int .i64 ((I:Int)+1))) from HN2.out)
 clear HN2 hw1
 generalize W2.setCell ⟨g,2,none⟩ _=W3 at T ⊢
 ·have B:=T.out.box (.head _);have z0:=B.cell 0;have z1:=B.cell 1;have z2:=B.cell 2;have z3:=B.cell 3;have z4:=B.cell 4;have z5:=B.cell 5;have z6:=B.cell 6;have z7:=B.cell 7;have f0:=B.frozen 0;have f1:=B.frozen 1;have f2:=B.frozen 2;have f3:=B.frozen 3;have f4:=B.frozen 4;have f5:=B.frozen 5;have f6:=B.frozen 6;have f7:=B.frozen 7;simp at z0 z1 z2 z3 z4 z5 z6 z7;dsimp only at f0 f1 f2 f3 f4 f5 f6 f7;clear B
  go_upto_region 22 with (first | (go_at_call 69;((with_reducible refine (CU.out _).mono ?_));rintro e w0 ⟨rfl,rfl⟩) | (go_at_call 90;((with_reducible refine (tname_any T.out).mono ?_));rintro e w1 ⟨n1,st1,rfl,i1,x1,h1⟩;replace T:=aI h1;have X1:=aI x1;have I1:=aI i1;clear h1 x1 i1;(try clear z0 z1 z2 z3 z4 z5 z6 z7 f0 f1 f2 f3 f4 f5 f6 f7);have B:=T.out.box (.head _);have z0:=B.cell 0;have z1:=B.cell 1;have z2:=B.cell 2;have z3:=B.cell 3;have z4:=B.cell 4;have z5:=B.cell 5;have z6:=B.cell 6;have z7:=B.cell 7;have f0:=B.frozen 0;have f1:=B.frozen 1;have f2:=B.frozen 2;have f3:=B.frozen 3;have f4:=B.frozen 4;have f5:=B.frozen 5;have f6:=B.frozen 6;have f7:=B.frozen 7;simp at z0 z1 z2 z3 z4 z5 z6 z7;dsimp only at f0 f1 f2 f3 f4 f5 f6 f7;clear B) | (go_at_call 94;((with_reducible refine (tnames_any (T.out.set0 0 _)).mono ?_));rintro e w2 ⟨n2,st2,rfl,i2,x2,h2⟩;replace T:=aI h2;have X2:=aI x2;have I2:=aI i2;clear h2 x2 i2;(try clear z0 z1 z2 z3 z4 z5 z6 z7 f0 f1 f2 f3 f4 f5 f6 f7);have B:=T.out.box (.head _);have z0:=B.cell 0;have z1:=B.cell 1;have z2:=B.cell 2;have z3:=B.cell 3;have z4:=B.cell 4;have z5:=B.cell 5;have z6:=B.cell 6;have z7:=B.cell 7;have f0:=B.frozen 0;have f1:=B.frozen 1;have f2:=B.frozen 2;have f3:=B.frozen 3;have f4:=B.frozen 4;have f5:=B.frozen 5;have f6:=B.frozen 6;have f7:=B.frozen 7;simp at z0 z1 z2 z3 z4 z5 z6 z7;dsimp only at f0 f1 f2 f3 f4 f5 f6 f7;clear B) | (go_at_call 42;((with_reducible refine (tnum_any (T.out.set0 1 _)).mono ?_));rintro e w3 ⟨n3,st3,rfl,i3,x3,h3⟩;replace T:=aI h3;have X3:=aI x3;have I3:=aI i3;clear h3 x3 i3;(try clear z0 z1 z2 z3 z4 z5 z6 z7 f0 f1 f2 f3 f4 f5 f6 f7);have B:=T.out.box (.head _);have z0:=B.cell 0;have z1:=B.cell 1;have z2:=B.cell 2;have z3:=B.cell 3;have z4:=B.cell 4;have z5:=B.cell 5;have z6:=B.cell 6;have z7:=B.cell 7;have f0:=B.frozen 0;have f1:=B.frozen 1;have f2:=B.frozen 2;have f3:=B.frozen 3;have f4:=B.frozen 4;have f5:=B.frozen 5;have f6:=B.frozen 6;have f7:=B.frozen 7;simp at z0 z1 z2 z3 z4 z5 z6 z7;dsimp only at f0 f1 f2 f3 f4 f5 f6 f7;clear B) | (go_at_call 42;((with_reducible refine (tnum_any (T.out.set0 4 _)).mono ?_));rintro e w4 ⟨n4,st4,rfl,i4,x4,h4⟩;replace T:=aI h4;have X4:=aI x4;have I4:=aI i4;clear h4 x4 i4;(try clear z0 z1 z2 z3 z4 z5 z6 z7 f0 f1 f2 f3 f4 f5 f6 f7);have B:=T.out.box (.head _);have z0:=B.cell 0;have z1:=B.cell 1;have z2:=B.cell 2;have z3:=B.cell 3;have z4:=B.cell 4;have z5:=B.cell 5;have z6:=B.cell 6;have z7:=B.cell 7;have f0:=B.frozen 0;have f1:=B.frozen 1;have f2:=B.frozen 2;have f3:=B.frozen 3;have f4:=B.frozen 4;have f5:=B.frozen 5;have f6:=B.frozen 6;have f7:=B.frozen 7;simp at z0 z1 z2 z3 z4 z5 z6 z7;dsimp only at f0 f1 f2 f3 f4 f5 f6 f7;clear B))
  have T7:=aI (show PH (rk w g s tk) st4 _ ((N1,52,#[.string (Sx.ofT n1),.string (Sx.ofT n2),.string ⟨#[]⟩,.int .i64 4,.int .i64 n3,.int .i64 n4,.slice none 0 0,.slice none 0 0])::(N,52,#[.string ⟨#[]⟩,.string ⟨#[]⟩,.string ⟨#[]⟩,.int .i64 0,.int .i64 0,.int .i64 0,.slice none 0 0,.slice none 0 0])::bx) rs L _ from T.out.set0 5 (.int .i64 n4))
  clear T;(try clear z0 z1 z2 z3 z4 z5 z6 z7 f0 f1 f2 f3 f4 f5 f6 f7)
  generalize w4.setCell ⟨N1,5,none⟩ (.int .i64 n4)=W8 at *
  have B:=T7.out.box (.head _);have z0:=B.cell 0;have z1:=B.cell 1;have z2:=B.cell 2;have z3:=B.cell 3;have z4:=B.cell 4;have z5:=B.cell 5;have z6:=B.cell 6;have z7:=B.cell 7
  have C:=T7.out.box (.tail _ (.head _));have y0:=C.cell 0;have y1:=C.cell 1;have y2:=C.cell 2;have y3:=C.cell 3;have y4:=C.cell 4;have y5:=C.cell 5;have y6:=C.cell 6;have y7:=C.cell 7;have f0:=C.frozen 0;have f1:=C.frozen 1;have f2:=C.frozen 2;have f3:=C.frozen 3;have f4:=C.frozen 4;have f5:=C.frozen 5;have f6:=C.frozen 6;have f7:=C.frozen 7
  simp at z0 z1 z2 z3 z4 z5 z6 z7 y0 y1 y2 y3 y4 y5 y6 y7
  dsimp only at f0 f1 f2 f3 f4 f5 f6 f7
  clear B C
  have T8:=aI (show PH (rk w g s tk) st4 _ ((N,52,#[.string (Sx.ofT n1),.string (Sx.ofT n2),.string ⟨#[]⟩,.int .i64 4,.int .i64 n3,.int .i64 n4,.slice none 0 0,.slice none 0 0])::(N1,52,#[.string (Sx.ofT n1),.string (Sx.ofT n2),.string ⟨#[]⟩,.int .i64 4,.int .i64 n3,.int .i64 n4,.slice none 0 0,.slice none 0 0])::bx) rs L _ from ((((((((T7.out.bswap.set0 0 (.string (Sx.ofT n1))).set0 1 (.string (Sx.ofT n2))).set0 2 (.string ⟨#[]⟩)).set0 3 (.int .i64 4)).set0 4 (.int .i64 n3)).set0 5 (.int .i64 n4)).set0 6 (.slice none 0 0)).set0 7 (.slice none 0 0)))
  go_wp2_with fail
  clear y0 y1 y2 y3 y4 y5 y6 y7
  have C:=T8.out.box (.head _);have y0:=C.cell 0;have y1:=C.cell 1;have y2:=C.cell 2;have y3:=C.cell 3;have y4:=C.cell 4;have y5:=C.cell 5;have y6:=C.cell 6;have y7:=C.cell 7
  simp at y0 y1 y2 y3 y4 y5 y6 y7
  have z:inI 0:=by constructor <;> decide
  have zk:inI 4:=by constructor <;> decide
  have zz:=Nat.zero_le 9223372036854775807
  refine bodyPost_ret (v:=.agg #[.string (Sx.ofT n1),.string (Sx.ofT n2),.string ⟨#[]⟩,.int .i64 4,.int .i64 n3,.int .i64 n4,.slice none 0 0,.slice none 0 0]) ?_ rfl ?_
  ·simp [results,Tryz.results92,go_sem,y0,y1,y2,y3,y4,y5,y6,y7]
  ·exact ⟨(Sx.ofT n1,Sx.ofT n2,Sx.ofT [],4,n3,n4,[],[]),_,st4,_,rfl,Sx.nx_field HW.out (Sx.nx_bind X1.out (show Sx.Nx (fun l=>(Sx.names l).bind fun o l=>(Sx.number l).bind fun lo l=>(Sx.number l).bind fun hi l=>.ok (Sx.ofT n1,Sx.ofT o,Sx.ofT [],4,lo,hi,[],[]) l) st1 _ _ from Sx.nx_bind X2.out (Sx.nx_bind X3.out (Sx.nx_bind X4.out (Sx.nx_ret _ _))))),T8.out.unbox.unbox.add (keeps_rep _ _) (fld_rep (Nat.le_trans I1.out (by decide)) (Nat.le_trans I2.out (by decide)) empty_size zk I3.out I4.out .nil .nil (Nat.le_refl _) zz (Nat.le_refl _) zz)⟩
end
end Go.Proofs.YtmplaikgbeeikaaGreatDoor
namespace Go.Proofs.YtmplaikgbeeikaaGreatDoor
open Go Go.RowKit
section
variable {s:ByteArray} {tk:List Tk} {w:World} {g:Nat} {st:Sx.St} {M:List Nat} {bx:List Box} {rs:List Rw} {L:List (List Nat→World→Prop)} {W:World}
theorem tfield_any {t:Sx.Tok} {l:List Sx.Tok} (hw:Sx.isWord t.1=true) (h:PH (rk w g s tk) (t::l,false) M bx rs L W):Calls Tryz.prog 92 #[.pointer (some ⟨g,0,none⟩)] W (RdA (rk w g s tk) Sx.field (t::l,false) bx rs L):=by
 obtain ⟨k,hk⟩:=Option.isSome_iff_exists.1 hw
 have h9:=Sx.wordOf_lt hk
 match k,h9,hk with
 | 0,_,hk=>exact tfield0_any hk h
 | 1,_,hk=>exact tfield1_any hk h
 | 2,_,hk=>exact tfield2_any hk h
 | 3,_,hk=>exact tfield3_any hk h
 | 4,_,hk=>exact tfield4_any hk h
 | 5,_,hk=>exact tfield5_any hk h
 | 6,_,hk=>exact tfield6_any hk h
 | 7,_,hk=>exact tfield7_any hk h
 | 8,_,hk=>exact tfield8_any hk h
 | n+9,h9,_=>exact absurd h9 (by omega)
theorem twordV_any {kk:Int} (hk:Sx.wordI (Sx.pk st)=kk) (h:PH (rk w g s tk) st M bx rs L W) :
  Calls Tryz.prog 91 #[.pointer (some ⟨g,0,none⟩)] W fun e W'=>e=.returned (.int .i64 kk)∧PH (rk w g s tk) st M bx rs L W':=by
 refine (tword_any h).mono ?_
 rintro e W' ⟨h1,h2⟩
 exact ⟨h1.trans (by rw [← hk]),h2⟩
set_option maxRecDepth 100000 in
set_option maxHeartbeats 8000000 in
theorem tkind_any (h:PH (rk w g s tk) st M bx rs L W):Calls Tryz.prog 44 #[.pointer (some ⟨g,0,none⟩)] W (RdA (rk w g s tk) Sx.kind st bx rs L):=by
 obtain ⟨N,hN⟩:∃ n,W.heap.size=n:=⟨_,rfl⟩
 have T:=aI (h.new #[.string ⟨#[]⟩,.int .i64 0,.int .i64 0,.slice none 0 0] 49 hN)
 clear h
 go_enter Tryz.func44,Tryz.ntmps44
 go_upto_region 3 with (first | (go_at_call 41;((with_reducible refine (twantKind_any T.out).mono ?_));rintro e w1 ⟨st1,rfl,x1,h1⟩;replace T:=aI h1;have X1:=aI x1;clear h1 x1) | (go_at_call 90;((with_reducible refine (tname_any T.out).mono ?_));rintro e w1 ⟨n,st2,rfl,i2,x2,h2⟩;replace T:=aI h2;have X2:=aI x2;have I2:=aI i2;clear h2 x2 i2))
 obtain ⟨N1,hN1⟩:∃ n,w1.heap.size=n:=⟨_,rfl⟩
 replace T:=aI (T.out.new #[.string (Sx.ofT n),.int .i64 0,.int .i64 0,.slice none 0 0] 49 hN1)
 rw [hN1]
 go_upto_region 5 with (first | (go_at_call 42;((with_reducible refine (tnum_any T.out).mono ?_));rintro e w3 ⟨n3,st3,rfl,i3,x3,h3⟩;replace T:=aI h3;have X3:=aI x3;have I3:=aI i3;clear h3 x3 i3;have B:=T.out.box (.head _);have z0:=B.cell 0;have z1:=B.cell 1;have z2:=B.cell 2;have z3:=B.cell 3;have f0:=B.frozen 0;have f1:=B.frozen 1;have f2:=B.frozen 2;have f3:=B.frozen 3;simp at z0 z1 z2 z3;clear B) | (go_at_call 42;((with_reducible refine (tnum_any (T.out.set0 1 _)).mono ?_));rintro e w4 ⟨n4,st4,rfl,i4,x4,h4⟩;replace T:=aI h4;have X4:=aI x4;have I4:=aI i4;clear h4 x4 i4;clear z0 z1 z2 z3 f0 f1 f2 f3;have B:=T.out.box (.head _);have z0:=B.cell 0;have z1:=B.cell 1;have z2:=B.cell 2;have z3:=B.cell 3;have f0:=B.frozen 0;have f1:=B.frozen 1;have f2:=B.frozen 2;have f3:=B.frozen 3;simp at z0 z1 z2 z3;clear B))
 have T7:=aI (show PH (rk w g s tk) st4 _ ((N1,49,#[.string (Sx.ofT n),.int .i64 n3,.int .i64 n4,.slice none 0 0])::(N,49,#[.string ⟨#[]⟩,.int .i64 0,.int .i64 0,.slice none 0 0])::bx) rs L _ from T.out.set0 2 (.int .i64 n4))
 clear T z0 z1 z2 z3 f0 f1 f2 f3
 generalize w4.setCell ⟨N1,2,none⟩ (.int .i64 n4)=W8 at *
 obtain ⟨sx,hsx⟩:∃ s,Sx.left st4=s:=⟨_,rfl⟩
 have HSX:=aI hsx
 have HTK:=aI (rk_tok T7.out).1
 clear hsx
 have T:=aI ((T7.out.push 52 8).add (keeps_flat ([]:List Fld) []) rfl)
 clear T7
 go_loopg [15] sx (fun r v3 wr=>∃ (st1:Sx.St) (acc2:List Fld) (xs:List Value) (M1:List Nat) (u:Value),PH (rk w g s tk) st1 M1 ((N1,49,#[.string (Sx.ofT n),.int .i64 n3,.int .i64 n4,u])::(N,49,#[.string ⟨#[]⟩,.int .i64 0,.int .i64 0,.slice none 0 0])::bx) (⟨52,8,u,acc2.length,xs⟩::rs) ((fun M W=>Flat M W acc2 xs)::L) wr∧Sx.left st1=r∧acc2.length+r≤sx∧(∀ x st',Sx.Nx (Sx.many Sx.isWord Sx.field st1.1.length acc2) st1 x st'→Sx.Nx (fun l=>Sx.many Sx.isWord Sx.field l.length [] l) st4 x st'))
 case atStart=>exact ⟨st4,[],[],_,_,T.out,HSX.out,by simp,fun x st' hx=>hx⟩
 case round =>
  clear T
  obtain ⟨st1,acc2,xs2,M2,u,hH,hlf,hal,hnx⟩:=hrel
  obtain ⟨wo,rfl⟩:∃ wo:World,wo=wr:=⟨_,rfl⟩
  have T:=aI hH
  have HX:=aI hnx
  have HL:=aI hlf
  clear hH hnx hlf
  obtain ⟨l1,f1⟩:=st1
  obtain ⟨A6,c6,rfl⟩:=T.out.form
  have HA8:=aI (show acc2.length≤8193 by have h1:=HTK.out;have h2:=HSX.out;unfold Sx.left at h2;split at h2 <;> omega)
  obtain ⟨wi,hwi⟩:∃ z,Sx.wordI (Sx.pk (l1,f1))=z:=⟨_,rfl⟩
  have HWI:=aI hwi
  cases hwo:Sx.wordOf (Sx.pk (l1,f1)) with
  | none =>
   have hw1:wi=-1:=by rw [← hwi];unfold Sx.wordI;rw [hwo]
   subst hw1
   have HST:=aI (show Sx.Nx (Sx.many Sx.isWord Sx.field l1.length acc2) (l1,f1) acc2 (l1,f1) from Sx.nx_many_stop (begins:=Sx.isWord) (read:=Sx.field) (st:=(l1,f1)) (f:=l1.length) (acc:=acc2) (fun hf t r hl=>by
    have hf:f1=false:=hf
    subst hf
    obtain rfl:l1=t::r:=hl
    show Sx.isWord t.1=false
    unfold Sx.isWord
    rw [show Sx.wordOf t.1=none from hwo];rfl))
   clear hwi hwo
   go_upto_region 7 with (go_at_call 91;((with_reducible refine (twordV_any HWI.out T.out).mono ?_));rintro e w5 ⟨rfl,h5⟩;replace T:=aI h5;clear h5)
   obtain ⟨A,cm,M',hv,d1,d2,h4,_⟩:=T.out.freeze (α:=_) rfl rfl (T.out.fact (.head _))
   injection hv with hv1 hv2 hv3
   subst hv1 hv3
   clear hv2 T
   have D:=aI (show acc2.length≤c6∧c6≤9223372036854775807 from ⟨d1,d2⟩)
   clear d1 d2
   have T7:=aI h4
   clear h4
   have B:=T7.out.box (.head _);have z0:=B.cell 0;have z1:=B.cell 1;have z2:=B.cell 2;have z3:=B.cell 3
   have C:=T7.out.box (.tail _ (.head _));have y0:=C.cell 0;have y1:=C.cell 1;have y2:=C.cell 2;have y3:=C.cell 3;have f0:=C.frozen 0;have f1:=C.frozen 1;have f2:=C.frozen 2;have f3:=C.frozen 3
   simp at z0 z1 z2 z3 y0 y1 y2 y3
   clear B C
   have h8:=((((T7.out.bswap.set0 0 (.string (Sx.ofT n))).set0 1 (.int .i64 n3)).set0 2 (.int .i64 n4)).set0 3 (.slice A6 acc2.length c6))
   (simp only [aB,aF,aG] at h8)
   have T8:=aI h8
   clear T7 h8
   go_wp2_with fail
   clear y0 y1 y2 y3
   have C:=T8.out.box (.head _);have y0:=C.cell 0;have y1:=C.cell 1;have y2:=C.cell 2;have y3:=C.cell 3
   simp at y0 y1 y2 y3
   have hms:=T8.out.fact (.head _)
   refine bodyPost_ret (v:=.agg #[.string (Sx.ofT n),.int .i64 n3,.int .i64 n4,.slice A6 acc2.length c6]) ?_ rfl ?_
   ·simp [results,Tryz.results44,go_sem,y0,y1,y2,y3]
   ·exact ⟨(Sx.ofT n,n3,n4,acc2),_,_,_,rfl,Sx.nx_bind X1.out (Sx.nx_bind X2.out (Sx.nx_bind X3.out (Sx.nx_bind X4.out (Sx.nx_bind (HX.out _ _ HST.out) (Sx.nx_ret _ _))))),(T8.out.unbox.unbox.add (keeps_rep (Sx.ofT n,n3,n4,acc2) [.string (Sx.ofT n),.int .i64 n3,.int .i64 n4,.slice A6 acc2.length c6]) ⟨[_],_,rfl,⟨rfl,Nat.le_trans I2.out (by decide)⟩,[_],_,rfl,⟨rfl,I3.out⟩,[_],_,rfl,⟨rfl,I4.out⟩,⟨_,_,rfl,D.out.1,D.out.2,hms⟩⟩).less fun P hP=>by
     rcases aL hP with rfl | hP
     ·exact .head _
     ·exact .tail _ (.tail _ (.tail _ hP))⟩
  | some k =>
   obtain ⟨t,r,rfl,rfl⟩:∃ t r,l1=t::r∧f1=false:=by
    cases f1
    ·cases l1 with
     | nil=>exact absurd (hwo.symm.trans (show Sx.wordOf []=none from rfl)) (by simp)
     | cons t r=>exact ⟨t,r,rfl,rfl⟩
    ·exact absurd (hwo.symm.trans (show Sx.wordOf []=none from rfl)) (by simp)
   have HBB:=aI (show Sx.isWord t.1=true by unfold Sx.isWord;rw [show Sx.wordOf t.1=some k from hwo];rfl)
   have hw1:wi=(k:Int):=by rw [← hwi];exact Sx.wordI_some hwo
   subst hw1
   have k0:(0:Int)≤(k:Int):=Int.natCast_nonneg _
   clear hwi hwo
   go_wp2_with (go_at_call 91;((with_reducible refine (twordV_any HWI.out T.out).mono ?_));rintro e w5 ⟨rfl,h5⟩;replace T:=aI h5;clear h5;have q:=T.out.box (.head _);have q3:=q.cell 3;(simp at q3);clear q)
   go_region_law (first | (obtain ⟨i0,hI,hz0,hz1,hz2⟩:=info_parts infoFld;refine step_append_ph (by rfl) _ _ 47 (by rfl) 52 i0 _ 8 120 Tryz.underlying47 hI hz0 hz1 hz2 rfl (by decide) (T2.out.below ((Below.refl _ _).alloc (Nat.le_refl _) _)) (by rfl) _ _ 1 1 [.string (Sc.nm a),.string (Sc.of_ a),.string (Sc.up a),.int .i64 (Sc.kd a),.int .i64 (Sc.lo a),.int .i64 (Sc.hi a),.slice A1 (Sc.words a).length c1,.slice B1 (Sc.wts a).length d1] (by rfl) (reads_blk (Blk.new _ _ _) rfl) (by simp [Value.oneCell']) (by have:=HA8.out;unfold maxLen;omega) (by have:=HA8.out;omega) ?_;intro v7 w7 M7 h7 _;obtain ⟨A8,c8,rfl⟩:=h7.form;have q:=h7.box (.head _);have q3:=q.cell 3;(simp at q3);have f3:=q.frozen 3;clear q;have T3:=aI h7;clear h7 hI hz0 hz1 hz2) | (go_simp;go_at_call 92;refine (tfield_any HBB.out T.out.drew).mono ?_;rintro e w6 ⟨a,us,st3,M3,rfl,x3,h3⟩;obtain ⟨A1,c1,B1,d1,rfl,r1,r2,r3,r4,r5,r6,r7,r8,r9,r10,r11,r12⟩:=rep_fld (h3.fact (.head _));clear r1 r2 r3 r4 r5 r6 r7 r8 r9 r10 r11 r12;have q:=h3.box (.head _);have q3:=q.cell 3;(simp at q3);clear q;have T2:=aI h3;have X5:=aI x3;have q3b:∀ o,(w6.alloc o).cell? ⟨N1,3,none⟩=some (.slice A6 acc2.length c6):=(fun o=>by have q:=(T2.out.below ((Below.refl _ _).alloc (Nat.le_refl _) o)).box (.head _);have q:=q.cell 3;simpa using q);clear h3 x3))
   all_goals
    have T4:=T3.out.set0 3 (.slice A8 (acc2.length+1) c8)
    have T5:=aI ((T4.fswap.flat (Flat.single (T4.fact (.head _)))).less (L':=_::_) fun P hP=>by
     rcases aL hP with rfl | hP
     ·exact .head _
     ·exact .tail _ (.tail _ hP))
    have hlt:=Sx.left_eats Sx.eats_field X5.out
    rw [HL.out] at hlt
    clear T T2 T3 T4 q3b
    go_wp2_with fail
    go_roundg (Sx.left st3)
    case measure=>exact hlt
    case rel=>exact ⟨st3,acc2++[a],_,_,_,by rw [aK];exact T5.out,rfl,by rw [aK,List.length_singleton];omega,fun x st' hx=>HX.out _ _ (Sx.nx_many_step Sx.eats_field HBB.out X5.out hx)⟩
end
end Go.Proofs.YtmplaikgbeeikaaGreatDoor
