/- Parts of the proof, joined: SxT7. -/
import Derived.Test.YtmplaikgbeeikaaGreatDoorK19
set_option linter.unusedVariables false
set_option linter.unusedSimpArgs false
set_option linter.unusedSectionVars false
namespace Go.Proofs.YtmplaikgbeeikaaGreatDoor
open Go Go.RowKit
section
variable {s:ByteArray} {tk:List Tk} {w:World} {g:Nat} {M:List Nat} {bx:List Box} {rs:List Rw} {L:List (List Nat→World→Prop)} {W:World}
set_option maxRecDepth 100000 in
set_option maxHeartbeats 16000000 in
theorem tfield5_any {t:Sx.Tok} {l:List Sx.Tok} (hw:Sx.wordOf t.1=some 5) (h:PH (rk w g s tk) (t::l,false) M bx rs L W):Calls Tryz.prog 92 #[.pointer (some ⟨g,0,none⟩)] W (RdA (rk w g s tk) Sx.field (t::l,false) bx rs L):=by
 obtain ⟨N,hN⟩:∃ n,W.heap.size=n:=⟨_,rfl⟩
 have T:=aI (h.new #[.string ⟨#[]⟩,.string ⟨#[]⟩,.string ⟨#[]⟩,.int .i64 0,.int .i64 0,.int .i64 0,.slice none 0 0,.slice none 0 0] 52 hN)
 have HK:=aI (show Sx.wordI t.1=5 from Sx.wordI_some hw)
 have HW:=aI hw
 have CU:=aI (fun W=>uses_any 5 W)
 rw [show usesK 5=(true,false,true,true,false) from rfl] at CU
 clear h hw
 go_enter Tryz.func92,Tryz.ntmps92
 go_upto_region 2 with (go_at_call 91;((with_reducible refine (twordK_any HK.out T.out).mono ?_));rintro e w1 ⟨rfl,h1⟩;replace T:=aI h1;clear h1)
 obtain ⟨N1,hN1⟩:∃ n,w1.heap.size=n:=⟨_,rfl⟩
 replace T:=aI (T.out.new #[.string ⟨#[]⟩,.string ⟨#[]⟩,.string ⟨#[]⟩,.int .i64 5,.int .i64 0,.int .i64 0,.slice none 0 0,.slice none 0 0] 52 hN1)
 rw [hN1]
 generalize w1.alloc (.cells #[.string ⟨#[]⟩,.string ⟨#[]⟩,.string ⟨#[]⟩,.int .i64 5,.int .i64 0,.int .i64 0,.slice none 0 0,.slice none 0 0] 52)=W2 at T ⊢
 clear hN1
 obtain ⟨I,i1,c2,c3,f2,f3,hT,hN2⟩:=rk_open T.out
 have HN2:=aI (hN2 _ _ rfl)
 have hw1:IntKind.i64.wrap ((I:Int)+1)=((I+1:Nat):Int):=(by rw [wrapI (by unfold inI;omega)];omega)
 clear hT hN2
 dsimp only at c2 c3
 go_upto_region 3 with fail
 clear c2 c3 f2 f3 T
 have T:=aI (show PH (rk w g s tk) (l,false) _ ((N1,52,#[.string ⟨#[]⟩,.string ⟨#[]⟩,.string ⟨#[]⟩,.int .i64 5,.int .i64 0,.int .i64 0,.slice none 0 0,.slice none 0 0])::(N,52,#[.string ⟨#[]⟩,.string ⟨#[]⟩,.string ⟨#[]⟩,.int .i64 0,.int .i64 0,.int .i64 0,.slice none 0 0,.slice none 0 0])::bx) rs L (W2.setCell ⟨g,2,none⟩ (.int .i64 ((I:Int)+1))) from HN2.out)
 clear HN2 hw1
 generalize W2.setCell ⟨g,2,none⟩ _=W3 at T ⊢
 ·have B:=T.out.box (.head _);have z0:=B.cell 0;have z1:=B.cell 1;have z2:=B.cell 2;have z3:=B.cell 3;have z4:=B.cell 4;have z5:=B.cell 5;have z6:=B.cell 6;have z7:=B.cell 7;have f0:=B.frozen 0;have f1:=B.frozen 1;have f2:=B.frozen 2;have f3:=B.frozen 3;have f4:=B.frozen 4;have f5:=B.frozen 5;have f6:=B.frozen 6;have f7:=B.frozen 7;simp at z0 z1 z2 z3 z4 z5 z6 z7;dsimp only at f0 f1 f2 f3 f4 f5 f6 f7;clear B
  go_upto_region 22 with (first | (go_at_call 69;((with_reducible refine (CU.out _).mono ?_));rintro e w0 ⟨rfl,rfl⟩) | (go_at_call 90;((with_reducible refine (tname_any T.out).mono ?_));rintro e w1 ⟨n1,st1,rfl,i1,x1,h1⟩;replace T:=aI h1;have X1:=aI x1;have I1:=aI i1;clear h1 x1 i1;(try clear z0 z1 z2 z3 z4 z5 z6 z7 f0 f1 f2 f3 f4 f5 f6 f7);have B:=T.out.box (.head _);have z0:=B.cell 0;have z1:=B.cell 1;have z2:=B.cell 2;have z3:=B.cell 3;have z4:=B.cell 4;have z5:=B.cell 5;have z6:=B.cell 6;have z7:=B.cell 7;have f0:=B.frozen 0;have f1:=B.frozen 1;have f2:=B.frozen 2;have f3:=B.frozen 3;have f4:=B.frozen 4;have f5:=B.frozen 5;have f6:=B.frozen 6;have f7:=B.frozen 7;simp at z0 z1 z2 z3 z4 z5 z6 z7;dsimp only at f0 f1 f2 f3 f4 f5 f6 f7;clear B) | (go_at_call 90;((with_reducible refine (tname_any (T.out.set0 0 _)).mono ?_));rintro e w2 ⟨n2,st2,rfl,i2,x2,h2⟩;replace T:=aI h2;have X2:=aI x2;have I2:=aI i2;clear h2 x2 i2;(try clear z0 z1 z2 z3 z4 z5 z6 z7 f0 f1 f2 f3 f4 f5 f6 f7);have B:=T.out.box (.head _);have z0:=B.cell 0;have z1:=B.cell 1;have z2:=B.cell 2;have z3:=B.cell 3;have z4:=B.cell 4;have z5:=B.cell 5;have z6:=B.cell 6;have z7:=B.cell 7;have f0:=B.frozen 0;have f1:=B.frozen 1;have f2:=B.frozen 2;have f3:=B.frozen 3;have f4:=B.frozen 4;have f5:=B.frozen 5;have f6:=B.frozen 6;have f7:=B.frozen 7;simp at z0 z1 z2 z3 z4 z5 z6 z7;dsimp only at f0 f1 f2 f3 f4 f5 f6 f7;clear B) | (go_at_call 42;((with_reducible refine (tnum_any (T.out.set0 1 _)).mono ?_));rintro e w3 ⟨n3,st3,rfl,i3,x3,h3⟩;replace T:=aI h3;have X3:=aI x3;have I3:=aI i3;clear h3 x3 i3;(try clear z0 z1 z2 z3 z4 z5 z6 z7 f0 f1 f2 f3 f4 f5 f6 f7);have B:=T.out.box (.head _);have z0:=B.cell 0;have z1:=B.cell 1;have z2:=B.cell 2;have z3:=B.cell 3;have z4:=B.cell 4;have z5:=B.cell 5;have z6:=B.cell 6;have z7:=B.cell 7;have f0:=B.frozen 0;have f1:=B.frozen 1;have f2:=B.frozen 2;have f3:=B.frozen 3;have f4:=B.frozen 4;have f5:=B.frozen 5;have f6:=B.frozen 6;have f7:=B.frozen 7;simp at z0 z1 z2 z3 z4 z5 z6 z7;dsimp only at f0 f1 f2 f3 f4 f5 f6 f7;clear B) | (go_at_call 42;((with_reducible refine (tnum_any (T.out.set0 4 _)).mono ?_));rintro e w4 ⟨n4,st4,rfl,i4,x4,h4⟩;replace T:=aI h4;have X4:=aI x4;have I4:=aI i4;clear h4 x4 i4;(try clear z0 z1 z2 z3 z4 z5 z6 z7 f0 f1 f2 f3 f4 f5 f6 f7);have B:=T.out.box (.head _);have z0:=B.cell 0;have z1:=B.cell 1;have z2:=B.cell 2;have z3:=B.cell 3;have z4:=B.cell 4;have z5:=B.cell 5;have z6:=B.cell 6;have z7:=B.cell 7;have f0:=B.frozen 0;have f1:=B.frozen 1;have f2:=B.frozen 2;have f3:=B.frozen 3;have f4:=B.frozen 4;have f5:=B.frozen 5;have f6:=B.frozen 6;have f7:=B.frozen 7;simp at z0 z1 z2 z3 z4 z5 z6 z7;dsimp only at f0 f1 f2 f3 f4 f5 f6 f7;clear B))
  have T7:=aI (show PH (rk w g s tk) st4 _ ((N1,52,#[.string (Sx.ofT n1),.string (Sx.ofT n2),.string ⟨#[]⟩,.int .i64 5,.int .i64 n3,.int .i64 n4,.slice none 0 0,.slice none 0 0])::(N,52,#[.string ⟨#[]⟩,.string ⟨#[]⟩,.string ⟨#[]⟩,.int .i64 0,.int .i64 0,.int .i64 0,.slice none 0 0,.slice none 0 0])::bx) rs L _ from T.out.set0 5 (.int .i64 n4))
  clear T;(try clear z0 z1 z2 z3 z4 z5 z6 z7 f0 f1 f2 f3 f4 f5 f6 f7)
  generalize w4.setCell ⟨N1,5,none⟩ (.int .i64 n4)=W8 at *
  have B:=T7.out.box (.head _);have z0:=B.cell 0;have z1:=B.cell 1;have z2:=B.cell 2;have z3:=B.cell 3;have z4:=B.cell 4;have z5:=B.cell 5;have z6:=B.cell 6;have z7:=B.cell 7
  have C:=T7.out.box (.tail _ (.head _));have y0:=C.cell 0;have y1:=C.cell 1;have y2:=C.cell 2;have y3:=C.cell 3;have y4:=C.cell 4;have y5:=C.cell 5;have y6:=C.cell 6;have y7:=C.cell 7;have f0:=C.frozen 0;have f1:=C.frozen 1;have f2:=C.frozen 2;have f3:=C.frozen 3;have f4:=C.frozen 4;have f5:=C.frozen 5;have f6:=C.frozen 6;have f7:=C.frozen 7
  simp at z0 z1 z2 z3 z4 z5 z6 z7 y0 y1 y2 y3 y4 y5 y6 y7
  dsimp only at f0 f1 f2 f3 f4 f5 f6 f7
  clear B C
  have T8:=aI (show PH (rk w g s tk) st4 _ ((N,52,#[.string (Sx.ofT n1),.string (Sx.ofT n2),.string ⟨#[]⟩,.int .i64 5,.int .i64 n3,.int .i64 n4,.slice none 0 0,.slice none 0 0])::(N1,52,#[.string (Sx.ofT n1),.string (Sx.ofT n2),.string ⟨#[]⟩,.int .i64 5,.int .i64 n3,.int .i64 n4,.slice none 0 0,.slice none 0 0])::bx) rs L _ from ((((((((T7.out.bswap.set0 0 (.string (Sx.ofT n1))).set0 1 (.string (Sx.ofT n2))).set0 2 (.string ⟨#[]⟩)).set0 3 (.int .i64 5)).set0 4 (.int .i64 n3)).set0 5 (.int .i64 n4)).set0 6 (.slice none 0 0)).set0 7 (.slice none 0 0)))
  go_wp2_with fail
  clear y0 y1 y2 y3 y4 y5 y6 y7
  have C:=T8.out.box (.head _);have y0:=C.cell 0;have y1:=C.cell 1;have y2:=C.cell 2;have y3:=C.cell 3;have y4:=C.cell 4;have y5:=C.cell 5;have y6:=C.cell 6;have y7:=C.cell 7
  simp at y0 y1 y2 y3 y4 y5 y6 y7
  have z:inI 0:=by constructor <;> decide
  have zk:inI 5:=by constructor <;> decide
  have zz:=Nat.zero_le 9223372036854775807
  refine bodyPost_ret (v:=.agg #[.string (Sx.ofT n1),.string (Sx.ofT n2),.string ⟨#[]⟩,.int .i64 5,.int .i64 n3,.int .i64 n4,.slice none 0 0,.slice none 0 0]) ?_ rfl ?_
  ·simp [results,Tryz.results92,go_sem,y0,y1,y2,y3,y4,y5,y6,y7]
  ·exact ⟨(Sx.ofT n1,Sx.ofT n2,Sx.ofT [],5,n3,n4,[],[]),_,st4,_,rfl,Sx.nx_field HW.out (Sx.nx_bind X1.out (show Sx.Nx (fun l=>(Sx.name l).bind fun o l=>(Sx.number l).bind fun lo l=>(Sx.number l).bind fun hi l=>.ok (Sx.ofT n1,Sx.ofT o,Sx.ofT [],5,lo,hi,[],[]) l) st1 _ _ from Sx.nx_bind X2.out (Sx.nx_bind X3.out (Sx.nx_bind X4.out (Sx.nx_ret _ _))))),T8.out.unbox.unbox.add (keeps_rep _ _) (fld_rep (Nat.le_trans I1.out (by decide)) (Nat.le_trans I2.out (by decide)) empty_size zk I3.out I4.out .nil .nil (Nat.le_refl _) zz (Nat.le_refl _) zz)⟩
set_option maxRecDepth 100000 in
set_option maxHeartbeats 16000000 in
theorem tfield6_any {t:Sx.Tok} {l:List Sx.Tok} (hw:Sx.wordOf t.1=some 6) (h:PH (rk w g s tk) (t::l,false) M bx rs L W):Calls Tryz.prog 92 #[.pointer (some ⟨g,0,none⟩)] W (RdA (rk w g s tk) Sx.field (t::l,false) bx rs L):=by
 obtain ⟨N,hN⟩:∃ n,W.heap.size=n:=⟨_,rfl⟩
 have T:=aI (h.new #[.string ⟨#[]⟩,.string ⟨#[]⟩,.string ⟨#[]⟩,.int .i64 0,.int .i64 0,.int .i64 0,.slice none 0 0,.slice none 0 0] 52 hN)
 have HK:=aI (show Sx.wordI t.1=6 from Sx.wordI_some hw)
 have HW:=aI hw
 have CU:=aI (fun W=>uses_any 6 W)
 rw [show usesK 6=(true,false,false,false,false) from rfl] at CU
 clear h hw
 go_enter Tryz.func92,Tryz.ntmps92
 go_upto_region 2 with (go_at_call 91;((with_reducible refine (twordK_any HK.out T.out).mono ?_));rintro e w1 ⟨rfl,h1⟩;replace T:=aI h1;clear h1)
 obtain ⟨N1,hN1⟩:∃ n,w1.heap.size=n:=⟨_,rfl⟩
 replace T:=aI (T.out.new #[.string ⟨#[]⟩,.string ⟨#[]⟩,.string ⟨#[]⟩,.int .i64 6,.int .i64 0,.int .i64 0,.slice none 0 0,.slice none 0 0] 52 hN1)
 rw [hN1]
 generalize w1.alloc (.cells #[.string ⟨#[]⟩,.string ⟨#[]⟩,.string ⟨#[]⟩,.int .i64 6,.int .i64 0,.int .i64 0,.slice none 0 0,.slice none 0 0] 52)=W2 at T ⊢
 clear hN1
 obtain ⟨I,i1,c2,c3,f2,f3,hT,hN2⟩:=rk_open T.out
 have HN2:=aI (hN2 _ _ rfl)
 have hw1:IntKind.i64.wrap ((I:Int)+1)=((I+1:Nat):Int):=(by rw [wrapI (by unfold inI;omega)];omega)
 clear hT hN2
 dsimp only at c2 c3
 go_upto_region 3 with fail
 clear c2 c3 f2 f3 T
 have T:=aI (show PH (rk w g s tk) (l,false) _ ((N1,52,#[.string ⟨#[]⟩,.string ⟨#[]⟩,.string ⟨#[]⟩,.int .i64 6,.int .i64 0,.int .i64 0,.slice none 0 0,.slice none 0 0])::(N,52,#[.string ⟨#[]⟩,.string ⟨#[]⟩,.string ⟨#[]⟩,.int .i64 0,.int .i64 0,.int .i64 0,.slice none 0 0,.slice none 0 0])::bx) rs L (W2.setCell ⟨g,2,none⟩ (.int .i64 ((I:Int)+1))) from HN2.out)
 clear HN2 hw1
 generalize W2.setCell ⟨g,2,none⟩ _=W3 at T ⊢
 ·have B:=T.out.box (.head _);have z0:=B.cell 0;have z1:=B.cell 1;have z2:=B.cell 2;have z3:=B.cell 3;have z4:=B.cell 4;have z5:=B.cell 5;have z6:=B.cell 6;have z7:=B.cell 7;have f0:=B.frozen 0;have f1:=B.frozen 1;have f2:=B.frozen 2;have f3:=B.frozen 3;have f4:=B.frozen 4;have f5:=B.frozen 5;have f6:=B.frozen 6;have f7:=B.frozen 7;simp at z0 z1 z2 z3 z4 z5 z6 z7;dsimp only at f0 f1 f2 f3 f4 f5 f6 f7;clear B
  go_upto_region 22 with (first | (go_at_call 69;((with_reducible refine (CU.out _).mono ?_));rintro e w0 ⟨rfl,rfl⟩) | (go_at_call 90;((with_reducible refine (tname_any T.out).mono ?_));rintro e w1 ⟨n1,st1,rfl,i1,x1,h1⟩;replace T:=aI h1;have X1:=aI x1;have I1:=aI i1;clear h1 x1 i1;(try clear z0 z1 z2 z3 z4 z5 z6 z7 f0 f1 f2 f3 f4 f5 f6 f7);have B:=T.out.box (.head _);have z0:=B.cell 0;have z1:=B.cell 1;have z2:=B.cell 2;have z3:=B.cell 3;have z4:=B.cell 4;have z5:=B.cell 5;have z6:=B.cell 6;have z7:=B.cell 7;have f0:=B.frozen 0;have f1:=B.frozen 1;have f2:=B.frozen 2;have f3:=B.frozen 3;have f4:=B.frozen 4;have f5:=B.frozen 5;have f6:=B.frozen 6;have f7:=B.frozen 7;simp at z0 z1 z2 z3 z4 z5 z6 z7;dsimp only at f0 f1 f2 f3 f4 f5 f6 f7;clear B) | (go_at_call 90;((with_reducible refine (tname_any (T.out.set0 0 _)).mono ?_));rintro e w2 ⟨n2,st2,rfl,i2,x2,h2⟩;replace T:=aI h2;have X2:=aI x2;have I2:=aI i2;clear h2 x2 i2;(try clear z0 z1 z2 z3 z4 z5 z6 z7 f0 f1 f2 f3 f4 f5 f6 f7);have B:=T.out.box (.head _);have z0:=B.cell 0;have z1:=B.cell 1;have z2:=B.cell 2;have z3:=B.cell 3;have z4:=B.cell 4;have z5:=B.cell 5;have z6:=B.cell 6;have z7:=B.cell 7;have f0:=B.frozen 0;have f1:=B.frozen 1;have f2:=B.frozen 2;have f3:=B.frozen 3;have f4:=B.frozen 4;have f5:=B.frozen 5;have f6:=B.frozen 6;have f7:=B.frozen 7;simp at z0 z1 z2 z3 z4 z5 z6 z7;dsimp only at f0 f1 f2 f3 f4 f5 f6 f7;clear B))
  have T7:=aI (show PH (rk w g s tk) st2 _ ((N1,52,#[.string (Sx.ofT n1),.string (Sx.ofT n2),.string ⟨#[]⟩,.int .i64 6,.int .i64 0,.int .i64 0,.slice none 0 0,.slice none 0 0])::(N,52,#[.string ⟨#[]⟩,.string ⟨#[]⟩,.string ⟨#[]⟩,.int .i64 0,.int .i64 0,.int .i64 0,.slice none 0 0,.slice none 0 0])::bx) rs L _ from T.out.set0 1 (.string (Sx.ofT n2)))
  clear T;(try clear z0 z1 z2 z3 z4 z5 z6 z7 f0 f1 f2 f3 f4 f5 f6 f7)
  generalize w2.setCell ⟨N1,1,none⟩ (.string (Sx.ofT n2))=W8 at *
  have B:=T7.out.box (.head _);have z0:=B.cell 0;have z1:=B.cell 1;have z2:=B.cell 2;have z3:=B.cell 3;have z4:=B.cell 4;have z5:=B.cell 5;have z6:=B.cell 6;have z7:=B.cell 7
  have C:=T7.out.box (.tail _ (.head _));have y0:=C.cell 0;have y1:=C.cell 1;have y2:=C.cell 2;have y3:=C.cell 3;have y4:=C.cell 4;have y5:=C.cell 5;have y6:=C.cell 6;have y7:=C.cell 7;have f0:=C.frozen 0;have f1:=C.frozen 1;have f2:=C.frozen 2;have f3:=C.frozen 3;have f4:=C.frozen 4;have f5:=C.frozen 5;have f6:=C.frozen 6;have f7:=C.frozen 7
  simp at z0 z1 z2 z3 z4 z5 z6 z7 y0 y1 y2 y3 y4 y5 y6 y7
  dsimp only at f0 f1 f2 f3 f4 f5 f6 f7
  clear B C
  have T8:=aI (show PH (rk w g s tk) st2 _ ((N,52,#[.string (Sx.ofT n1),.string (Sx.ofT n2),.string ⟨#[]⟩,.int .i64 6,.int .i64 0,.int .i64 0,.slice none 0 0,.slice none 0 0])::(N1,52,#[.string (Sx.ofT n1),.string (Sx.ofT n2),.string ⟨#[]⟩,.int .i64 6,.int .i64 0,.int .i64 0,.slice none 0 0,.slice none 0 0])::bx) rs L _ from ((((((((T7.out.bswap.set0 0 (.string (Sx.ofT n1))).set0 1 (.string (Sx.ofT n2))).set0 2 (.string ⟨#[]⟩)).set0 3 (.int .i64 6)).set0 4 (.int .i64 0)).set0 5 (.int .i64 0)).set0 6 (.slice none 0 0)).set0 7 (.slice none 0 0)))
  go_wp2_with fail
  clear y0 y1 y2 y3 y4 y5 y6 y7
  have C:=T8.out.box (.head _);have y0:=C.cell 0;have y1:=C.cell 1;have y2:=C.cell 2;have y3:=C.cell 3;have y4:=C.cell 4;have y5:=C.cell 5;have y6:=C.cell 6;have y7:=C.cell 7
  simp at y0 y1 y2 y3 y4 y5 y6 y7
  have z:inI 0:=by constructor <;> decide
  have zk:inI 6:=by constructor <;> decide
  have zz:=Nat.zero_le 9223372036854775807
  refine bodyPost_ret (v:=.agg #[.string (Sx.ofT n1),.string (Sx.ofT n2),.string ⟨#[]⟩,.int .i64 6,.int .i64 0,.int .i64 0,.slice none 0 0,.slice none 0 0]) ?_ rfl ?_
  ·simp [results,Tryz.results92,go_sem,y0,y1,y2,y3,y4,y5,y6,y7]
  ·exact ⟨(Sx.ofT n1,Sx.ofT n2,Sx.ofT [],6,0,0,[],[]),_,st2,_,rfl,Sx.nx_field HW.out (Sx.nx_bind X1.out (show Sx.Nx (fun l=>(Sx.name l).bind fun o l=>.ok (Sx.ofT n1,Sx.ofT o,Sx.ofT [],6,0,0,[],[]) l) st1 _ _ from Sx.nx_bind X2.out (Sx.nx_ret _ _))),T8.out.unbox.unbox.add (keeps_rep _ _) (fld_rep (Nat.le_trans I1.out (by decide)) (Nat.le_trans I2.out (by decide)) empty_size zk z z .nil .nil (Nat.le_refl _) zz (Nat.le_refl _) zz)⟩
set_option maxRecDepth 100000 in
set_option maxHeartbeats 16000000 in
theorem tfield7_any {t:Sx.Tok} {l:List Sx.Tok} (hw:Sx.wordOf t.1=some 7) (h:PH (rk w g s tk) (t::l,false) M bx rs L W):Calls Tryz.prog 92 #[.pointer (some ⟨g,0,none⟩)] W (RdA (rk w g s tk) Sx.field (t::l,false) bx rs L):=by
 obtain ⟨N,hN⟩:∃ n,W.heap.size=n:=⟨_,rfl⟩
 have T:=aI (h.new #[.string ⟨#[]⟩,.string ⟨#[]⟩,.string ⟨#[]⟩,.int .i64 0,.int .i64 0,.int .i64 0,.slice none 0 0,.slice none 0 0] 52 hN)
 have HK:=aI (show Sx.wordI t.1=7 from Sx.wordI_some hw)
 have HW:=aI hw
 have CU:=aI (fun W=>uses_any 7 W)
 rw [show usesK 7=(true,true,true,true,false) from rfl] at CU
 clear h hw
 go_enter Tryz.func92,Tryz.ntmps92
 go_upto_region 2 with (go_at_call 91;((with_reducible refine (twordK_any HK.out T.out).mono ?_));rintro e w1 ⟨rfl,h1⟩;replace T:=aI h1;clear h1)
 obtain ⟨N1,hN1⟩:∃ n,w1.heap.size=n:=⟨_,rfl⟩
 replace T:=aI (T.out.new #[.string ⟨#[]⟩,.string ⟨#[]⟩,.string ⟨#[]⟩,.int .i64 7,.int .i64 0,.int .i64 0,.slice none 0 0,.slice none 0 0] 52 hN1)
 rw [hN1]
 generalize w1.alloc (.cells #[.string ⟨#[]⟩,.string ⟨#[]⟩,.string ⟨#[]⟩,.int .i64 7,.int .i64 0,.int .i64 0,.slice none 0 0,.slice none 0 0] 52)=W2 at T ⊢
 clear hN1
 obtain ⟨I,i1,c2,c3,f2,f3,hT,hN2⟩:=rk_open T.out
 have HN2:=aI (hN2 _ _ rfl)
 have hw1:IntKind.i64.wrap ((I:Int)+1)=((I+1:Nat):Int):=(by rw [wrapI (by unfold inI;omega)];omega)
 clear hT hN2
 dsimp only at c2 c3
 go_upto_region 3 with fail
 clear c2 c3 f2 f3 T
 have T:=aI (show PH (rk w g s tk) (l,false) _ ((N1,52,#[.string ⟨#[]⟩,.string ⟨#[]⟩,.string ⟨#[]⟩,.int .i64 7,.int .i64 0,.int .i64 0,.slice none 0 0,.slice none 0 0])::(N,52,#[.string ⟨#[]⟩,.string ⟨#[]⟩,.string ⟨#[]⟩,.int .i64 0,.int .i64 0,.int .i64 0,.slice none 0 0,.slice none 0 0])::bx) rs L (W2.setCell ⟨g,2,none⟩ (.int .i64 ((I:Int)+1))) from HN2.out)
 clear HN2 hw1
 generalize W2.setCell ⟨g,2,none⟩ _=W3 at T ⊢
 ·have B:=T.out.box (.head _);have z0:=B.cell 0;have z1:=B.cell 1;have z2:=B.cell 2;have z3:=B.cell 3;have z4:=B.cell 4;have z5:=B.cell 5;have z6:=B.cell 6;have z7:=B.cell 7;have f0:=B.frozen 0;have f1:=B.frozen 1;have f2:=B.frozen 2;have f3:=B.frozen 3;have f4:=B.frozen 4;have f5:=B.frozen 5;have f6:=B.frozen 6;have f7:=B.frozen 7;simp at z0 z1 z2 z3 z4 z5 z6 z7;dsimp only at f0 f1 f2 f3 f4 f5 f6 f7;clear B
  go_upto_region 22 with (first | (go_at_call 69;((with_reducible refine (CU.out _).mono ?_));rintro e w0 ⟨rfl,rfl⟩) | (go_at_call 90;((with_reducible refine (tname_any T.out).mono ?_));rintro e w1 ⟨n1,st1,rfl,i1,x1,h1⟩;replace T:=aI h1;have X1:=aI x1;have I1:=aI i1;clear h1 x1 i1;(try clear z0 z1 z2 z3 z4 z5 z6 z7 f0 f1 f2 f3 f4 f5 f6 f7);have B:=T.out.box (.head _);have z0:=B.cell 0;have z1:=B.cell 1;have z2:=B.cell 2;have z3:=B.cell 3;have z4:=B.cell 4;have z5:=B.cell 5;have z6:=B.cell 6;have z7:=B.cell 7;have f0:=B.frozen 0;have f1:=B.frozen 1;have f2:=B.frozen 2;have f3:=B.frozen 3;have f4:=B.frozen 4;have f5:=B.frozen 5;have f6:=B.frozen 6;have f7:=B.frozen 7;simp at z0 z1 z2 z3 z4 z5 z6 z7;dsimp only at f0 f1 f2 f3 f4 f5 f6 f7;clear B) | (go_at_call 90;((with_reducible refine (tname_any (T.out.set0 0 _)).mono ?_));rintro e w2 ⟨n2,st2,rfl,i2,x2,h2⟩;replace T:=aI h2;have X2:=aI x2;have I2:=aI i2;clear h2 x2 i2;(try clear z0 z1 z2 z3 z4 z5 z6 z7 f0 f1 f2 f3 f4 f5 f6 f7);have B:=T.out.box (.head _);have z0:=B.cell 0;have z1:=B.cell 1;have z2:=B.cell 2;have z3:=B.cell 3;have z4:=B.cell 4;have z5:=B.cell 5;have z6:=B.cell 6;have z7:=B.cell 7;have f0:=B.frozen 0;have f1:=B.frozen 1;have f2:=B.frozen 2;have f3:=B.frozen 3;have f4:=B.frozen 4;have f5:=B.frozen 5;have f6:=B.frozen 6;have f7:=B.frozen 7;simp at z0 z1 z2 z3 z4 z5 z6 z7;dsimp only at f0 f1 f2 f3 f4 f5 f6 f7;clear B) | (go_at_call 90;((with_reducible refine (tname_any (T.out.set0 2 _)).mono ?_));rintro e w3 ⟨n3,st3,rfl,i3,x3,h3⟩;replace T:=aI h3;have X3:=aI x3;have I3:=aI i3;clear h3 x3 i3;(try clear z0 z1 z2 z3 z4 z5 z6 z7 f0 f1 f2 f3 f4 f5 f6 f7);have B:=T.out.box (.head _);have z0:=B.cell 0;have z1:=B.cell 1;have z2:=B.cell 2;have z3:=B.cell 3;have z4:=B.cell 4;have z5:=B.cell 5;have z6:=B.cell 6;have z7:=B.cell 7;have f0:=B.frozen 0;have f1:=B.frozen 1;have f2:=B.frozen 2;have f3:=B.frozen 3;have f4:=B.frozen 4;have f5:=B.frozen 5;have f6:=B.frozen 6;have f7:=B.frozen 7;simp at z0 z1 z2 z3 z4 z5 z6 z7;dsimp only at f0 f1 f2 f3 f4 f5 f6 f7;clear B) | (go_at_call 42;((with_reducible refine (tnum_any (T.out.set0 1 _)).mono ?_));rintro e w4 ⟨n4,st4,rfl,i4,x4,h4⟩;replace T:=aI h4;have X4:=aI x4;have I4:=aI i4;clear h4 x4 i4;(try clear z0 z1 z2 z3 z4 z5 z6 z7 f0 f1 f2 f3 f4 f5 f6 f7);have B:=T.out.box (.head _);have z0:=B.cell 0;have z1:=B.cell 1;have z2:=B.cell 2;have z3:=B.cell 3;have z4:=B.cell 4;have z5:=B.cell 5;have z6:=B.cell 6;have z7:=B.cell 7;have f0:=B.frozen 0;have f1:=B.frozen 1;have f2:=B.frozen 2;have f3:=B.frozen 3;have f4:=B.frozen 4;have f5:=B.frozen 5;have f6:=B.frozen 6;have f7:=B.frozen 7;simp at z0 z1 z2 z3 z4 z5 z6 z7;dsimp only at f0 f1 f2 f3 f4 f5 f6 f7;clear B) | (go_at_call 42;((with_reducible refine (tnum_any (T.out.set0 4 _)).mono ?_));rintro e w5 ⟨n5,st5,rfl,i5,x5,h5⟩;replace T:=aI h5;have X5:=aI x5;have I5:=aI i5;clear h5 x5 i5;(try clear z0 z1 z2 z3 z4 z5 z6 z7 f0 f1 f2 f3 f4 f5 f6 f7);have B:=T.out.box (.head _);have z0:=B.cell 0;have z1:=B.cell 1;have z2:=B.cell 2;have z3:=B.cell 3;have z4:=B.cell 4;have z5:=B.cell 5;have z6:=B.cell 6;have z7:=B.cell 7;have f0:=B.frozen 0;have f1:=B.frozen 1;have f2:=B.frozen 2;have f3:=B.frozen 3;have f4:=B.frozen 4;have f5:=B.frozen 5;have f6:=B.frozen 6;have f7:=B.frozen 7;simp at z0 z1 z2 z3 z4 z5 z6 z7;dsimp only at f0 f1 f2 f3 f4 f5 f6 f7;clear B))
  have T7:=aI (show PH (rk w g s tk) st5 _ ((N1,52,#[.string (Sx.ofT n1),.string (Sx.ofT n3),.string (Sx.ofT n2),.int .i64 7,.int .i64 n4,.int .i64 n5,.slice none 0 0,.slice none 0 0])::(N,52,#[.string ⟨#[]⟩,.string ⟨#[]⟩,.string ⟨#[]⟩,.int .i64 0,.int .i64 0,.int .i64 0,.slice none 0 0,.slice none 0 0])::bx) rs L _ from T.out.set0 5 (.int .i64 n5))
  clear T;(try clear z0 z1 z2 z3 z4 z5 z6 z7 f0 f1 f2 f3 f4 f5 f6 f7)
  generalize w5.setCell ⟨N1,5,none⟩ (.int .i64 n5)=W8 at *
  have B:=T7.out.box (.head _);have z0:=B.cell 0;have z1:=B.cell 1;have z2:=B.cell 2;have z3:=B.cell 3;have z4:=B.cell 4;have z5:=B.cell 5;have z6:=B.cell 6;have z7:=B.cell 7
  have C:=T7.out.box (.tail _ (.head _));have y0:=C.cell 0;have y1:=C.cell 1;have y2:=C.cell 2;have y3:=C.cell 3;have y4:=C.cell 4;have y5:=C.cell 5;have y6:=C.cell 6;have y7:=C.cell 7;have f0:=C.frozen 0;have f1:=C.frozen 1;have f2:=C.frozen 2;have f3:=C.frozen 3;have f4:=C.frozen 4;have f5:=C.frozen 5;have f6:=C.frozen 6;have f7:=C.frozen 7
  simp at z0 z1 z2 z3 z4 z5 z6 z7 y0 y1 y2 y3 y4 y5 y6 y7
  dsimp only at f0 f1 f2 f3 f4 f5 f6 f7
  clear B C
  have T8:=aI (show PH (rk w g s tk) st5 _ ((N,52,#[.string (Sx.ofT n1),.string (Sx.ofT n3),.string (Sx.ofT n2),.int .i64 7,.int .i64 n4,.int .i64 n5,.slice none 0 0,.slice none 0 0])::(N1,52,#[.string (Sx.ofT n1),.string (Sx.ofT n3),.string (Sx.ofT n2),.int .i64 7,.int .i64 n4,.int .i64 n5,.slice none 0 0,.slice none 0 0])::bx) rs L _ from ((((((((T7.out.bswap.set0 0 (.string (Sx.ofT n1))).set0 1 (.string (Sx.ofT n3))).set0 2 (.string (Sx.ofT n2))).set0 3 (.int .i64 7)).set0 4 (.int .i64 n4)).set0 5 (.int .i64 n5)).set0 6 (.slice none 0 0)).set0 7 (.slice none 0 0)))
  go_wp2_with fail
  clear y0 y1 y2 y3 y4 y5 y6 y7
  have C:=T8.out.box (.head _);have y0:=C.cell 0;have y1:=C.cell 1;have y2:=C.cell 2;have y3:=C.cell 3;have y4:=C.cell 4;have y5:=C.cell 5;have y6:=C.cell 6;have y7:=C.cell 7
  simp at y0 y1 y2 y3 y4 y5 y6 y7
  have z:inI 0:=by constructor <;> decide
  have zk:inI 7:=by constructor <;> decide
  have zz:=Nat.zero_le 9223372036854775807
  refine bodyPost_ret (v:=.agg #[.string (Sx.ofT n1),.string (Sx.ofT n3),.string (Sx.ofT n2),.int .i64 7,.int .i64 n4,.int .i64 n5,.slice none 0 0,.slice none 0 0]) ?_ rfl ?_
  ·simp [results,Tryz.results92,go_sem,y0,y1,y2,y3,y4,y5,y6,y7]
  ·exact ⟨(Sx.ofT n1,Sx.ofT n3,Sx.ofT n2,7,n4,n5,[],[]),_,st5,_,rfl,Sx.nx_field HW.out (Sx.nx_bind X1.out (show Sx.Nx (fun l=>(Sx.name l).bind fun u l=>(Sx.name l).bind fun o l=>(Sx.number l).bind fun lo l=>(Sx.number l).bind fun hi l=>.ok (Sx.ofT n1,Sx.ofT o,Sx.ofT u,7,lo,hi,[],[]) l) st1 _ _ from Sx.nx_bind X2.out (Sx.nx_bind X3.out (Sx.nx_bind X4.out (Sx.nx_bind X5.out (Sx.nx_ret _ _)))))),T8.out.unbox.unbox.add (keeps_rep _ _) (fld_rep (Nat.le_trans I1.out (by decide)) (Nat.le_trans I3.out (by decide)) (Nat.le_trans I2.out (by decide)) zk I4.out I5.out .nil .nil (Nat.le_refl _) zz (Nat.le_refl _) zz)⟩
set_option maxRecDepth 100000 in
set_option maxHeartbeats 16000000 in
theorem tfield8_any {t:Sx.Tok} {l:List Sx.Tok} (hw:Sx.wordOf t.1=some 8) (h:PH (rk w g s tk) (t::l,false) M bx rs L W):Calls Tryz.prog 92 #[.pointer (some ⟨g,0,none⟩)] W (RdA (rk w g s tk) Sx.field (t::l,false) bx rs L):=by
 obtain ⟨N,hN⟩:∃ n,W.heap.size=n:=⟨_,rfl⟩
 have T:=aI (h.new #[.string ⟨#[]⟩,.string ⟨#[]⟩,.string ⟨#[]⟩,.int .i64 0,.int .i64 0,.int .i64 0,.slice none 0 0,.slice none 0 0] 52 hN)
 have HK:=aI (show Sx.wordI t.1=8 from Sx.wordI_some hw)
 have HW:=aI hw
 have CU:=aI (fun W=>uses_any 8 W)
 rw [show usesK 8=(true,true,false,false,false) from rfl] at CU
 clear h hw
 go_enter Tryz.func92,Tryz.ntmps92
 go_upto_region 2 with (go_at_call 91;((with_reducible refine (twordK_any HK.out T.out).mono ?_));rintro e w1 ⟨rfl,h1⟩;replace T:=aI h1;clear h1)
 obtain ⟨N1,hN1⟩:∃ n,w1.heap.size=n:=⟨_,rfl⟩
 replace T:=aI (T.out.new #[.string ⟨#[]⟩,.string ⟨#[]⟩,.string ⟨#[]⟩,.int .i64 8,.int .i64 0,.int .i64 0,.slice none 0 0,.slice none 0 0] 52 hN1)
 rw [hN1]
 generalize w1.alloc (.cells #[.string ⟨#[]⟩,.string ⟨#[]⟩,.string ⟨#[]⟩,.int .i64 8,.int .i64 0,.int .i64 0,.slice none 0 0,.slice none 0 0] 52)=W2 at T ⊢
 clear hN1
 obtain ⟨I,i1,c2,c3,f2,f3,hT,hN2⟩:=rk_open T.out
 have HN2:=aI (hN2 _ _ rfl)
 have hw1:IntKind.i64.wrap ((I:Int)+1)=((I+1:Nat):Int):=(by rw [wrapI (by unfold inI;omega)];omega)
 clear hT hN2
 dsimp only at c2 c3
 go_upto_region 3 with fail
 clear c2 c3 f2 f3 T
 have T:=aI (show PH (rk w g s tk) (l,false) _ ((N1,52,#[.string ⟨#[]⟩,.string ⟨#[]⟩,.string ⟨#[]⟩,.int .i64 8,.int .i64 0,.int .i64 0,.slice none 0 0,.slice none 0 0])::(N,52,#[.string ⟨#[]⟩,.string ⟨#[]⟩,.string ⟨#[]⟩,.int .i64 0,.int .i64 0,.int .i64 0,.slice none 0 0,.slice none 0 0])::bx) rs L (W2.setCell ⟨g,2,none⟩ (.int .i64 ((I:Int)+1))) from HN2.out)
 clear HN2 hw1
 generalize W2.setCell ⟨g,2,none⟩ _=W3 at T ⊢
 ·have B:=T.out.box (.head _);have z0:=B.cell 0;have z1:=B.cell 1;have z2:=B.cell 2;have z3:=B.cell 3;have z4:=B.cell 4;have z5:=B.cell 5;have z6:=B.cell 6;have z7:=B.cell 7;have f0:=B.frozen 0;have f1:=B.frozen 1;have f2:=B.frozen 2;have f3:=B.frozen 3;have f4:=B.frozen 4;have f5:=B.frozen 5;have f6:=B.frozen 6;have f7:=B.frozen 7;simp at z0 z1 z2 z3 z4 z5 z6 z7;dsimp only at f0 f1 f2 f3 f4 f5 f6 f7;clear B
  go_upto_region 22 with (first | (go_at_call 69;((with_reducible refine (CU.out _).mono ?_));rintro e w0 ⟨rfl,rfl⟩) | (go_at_call 90;((with_reducible refine (tname_any T.out).mono ?_));rintro e w1 ⟨n1,st1,rfl,i1,x1,h1⟩;replace T:=aI h1;have X1:=aI x1;have I1:=aI i1;clear h1 x1 i1;(try clear z0 z1 z2 z3 z4 z5 z6 z7 f0 f1 f2 f3 f4 f5 f6 f7);have B:=T.out.box (.head _);have z0:=B.cell 0;have z1:=B.cell 1;have z2:=B.cell 2;have z3:=B.cell 3;have z4:=B.cell 4;have z5:=B.cell 5;have z6:=B.cell 6;have z7:=B.cell 7;have f0:=B.frozen 0;have f1:=B.frozen 1;have f2:=B.frozen 2;have f3:=B.frozen 3;have f4:=B.frozen 4;have f5:=B.frozen 5;have f6:=B.frozen 6;have f7:=B.frozen 7;simp at z0 z1 z2 z3 z4 z5 z6 z7;dsimp only at f0 f1 f2 f3 f4 f5 f6 f7;clear B) | (go_at_call 90;((with_reducible refine (tname_any (T.out.set0 0 _)).mono ?_));rintro e w2 ⟨n2,st2,rfl,i2,x2,h2⟩;replace T:=aI h2;have X2:=aI x2;have I2:=aI i2;clear h2 x2 i2;(try clear z0 z1 z2 z3 z4 z5 z6 z7 f0 f1 f2 f3 f4 f5 f6 f7);have B:=T.out.box (.head _);have z0:=B.cell 0;have z1:=B.cell 1;have z2:=B.cell 2;have z3:=B.cell 3;have z4:=B.cell 4;have z5:=B.cell 5;have z6:=B.cell 6;have z7:=B.cell 7;have f0:=B.frozen 0;have f1:=B.frozen 1;have f2:=B.frozen 2;have f3:=B.frozen 3;have f4:=B.frozen 4;have f5:=B.frozen 5;have f6:=B.frozen 6;have f7:=B.frozen 7;simp at z0 z1 z2 z3 z4 z5 z6 z7;dsimp only at f0 f1 f2 f3 f4 f5 f6 f7;clear B) | (go_at_call 90;((with_reducible refine (tname_any (T.out.set0 2 _)).mono ?_));rintro e w3 ⟨n3,st3,rfl,i3,x3,h3⟩;replace T:=aI h3;have X3:=aI x3;have I3:=aI i3;clear h3 x3 i3;(try clear z0 z1 z2 z3 z4 z5 z6 z7 f0 f1 f2 f3 f4 f5 f6 f7);have B:=T.out.box (.head _);have z0:=B.cell 0;have z1:=B.cell 1;have z2:=B.cell 2;have z3:=B.cell 3;have z4:=B.cell 4;have z5:=B.cell 5;have z6:=B.cell 6;have z7:=B.cell 7;have f0:=B.frozen 0;have f1:=B.frozen 1;have f2:=B.frozen 2;have f3:=B.frozen 3;have f4:=B.frozen 4;have f5:=B.frozen 5;have f6:=B.frozen 6;have f7:=B.frozen 7;simp at z0 z1 z2 z3 z4 z5 z6 z7;dsimp only at f0 f1 f2 f3 f4 f5 f6 f7;clear B))
  have T7:=aI (show PH (rk w g s tk) st3 _ ((N1,52,#[.string (Sx.ofT n1),.string (Sx.ofT n3),.string (Sx.ofT n2),.int .i64 8,.int .i64 0,.int .i64 0,.slice none 0 0,.slice none 0 0])::(N,52,#[.string ⟨#[]⟩,.string ⟨#[]⟩,.string ⟨#[]⟩,.int .i64 0,.int .i64 0,.int .i64 0,.slice none 0 0,.slice none 0 0])::bx) rs L _ from T.out.set0 1 (.string (Sx.ofT n3)))
  clear T;(try clear z0 z1 z2 z3 z4 z5 z6 z7 f0 f1 f2 f3 f4 f5 f6 f7)
  generalize w3.setCell ⟨N1,1,none⟩ (.string (Sx.ofT n3))=W8 at *
  have B:=T7.out.box (.head _);have z0:=B.cell 0;have z1:=B.cell 1;have z2:=B.cell 2;have z3:=B.cell 3;have z4:=B.cell 4;have z5:=B.cell 5;have z6:=B.cell 6;have z7:=B.cell 7
  have C:=T7.out.box (.tail _ (.head _));have y0:=C.cell 0;have y1:=C.cell 1;have y2:=C.cell 2;have y3:=C.cell 3;have y4:=C.cell 4;have y5:=C.cell 5;have y6:=C.cell 6;have y7:=C.cell 7;have f0:=C.frozen 0;have f1:=C.frozen 1;have f2:=C.frozen 2;have f3:=C.frozen 3;have f4:=C.frozen 4;have f5:=C.frozen 5;have f6:=C.frozen 6;have f7:=C.frozen 7
  simp at z0 z1 z2 z3 z4 z5 z6 z7 y0 y1 y2 y3 y4 y5 y6 y7
  dsimp only at f0 f1 f2 f3 f4 f5 f6 f7
  clear B C
  have T8:=aI (show PH (rk w g s tk) st3 _ ((N,52,#[.string (Sx.ofT n1),.string (Sx.ofT n3),.string (Sx.ofT n2),.int .i64 8,.int .i64 0,.int .i64 0,.slice none 0 0,.slice none 0 0])::(N1,52,#[.string (Sx.ofT n1),.string (Sx.ofT n3),.string (Sx.ofT n2),.int .i64 8,.int .i64 0,.int .i64 0,.slice none 0 0,.slice none 0 0])::bx) rs L _ from ((((((((T7.out.bswap.set0 0 (.string (Sx.ofT n1))).set0 1 (.string (Sx.ofT n3))).set0 2 (.string (Sx.ofT n2))).set0 3 (.int .i64 8)).set0 4 (.int .i64 0)).set0 5 (.int .i64 0)).set0 6 (.slice none 0 0)).set0 7 (.slice none 0 0)))
  go_wp2_with fail
  clear y0 y1 y2 y3 y4 y5 y6 y7
  have C:=T8.out.box (.head _);have y0:=C.cell 0;have y1:=C.cell 1;have y2:=C.cell 2;have y3:=C.cell 3;have y4:=C.cell 4;have y5:=C.cell 5;have y6:=C.cell 6;have y7:=C.cell 7
  simp at y0 y1 y2 y3 y4 y5 y6 y7
  have z:inI 0:=by constructor <;> decide
  have zk:inI 8:=by constructor <;> decide
  have zz:=Nat.zero_le 9223372036854775807
  refine bodyPost_ret (v:=.agg #[.string (Sx.ofT n1),.string (Sx.ofT n3),.string (Sx.ofT n2),.int .i64 8,.int .i64 0,.int .i64 0,.slice none 0 0,.slice none 0 0]) ?_ rfl ?_
  ·simp [results,Tryz.results92,go_sem,y0,y1,y2,y3,y4,y5,y6,y7]
  ·exact ⟨(Sx.ofT n1,Sx.ofT n3,Sx.ofT n2,8,0,0,[],[]),_,st3,_,rfl,Sx.nx_field HW.out (Sx.nx_bind X1.out (show Sx.Nx (fun l=>(Sx.name l).bind fun u l=>(Sx.name l).bind fun o l=>.ok (Sx.ofT n1,Sx.ofT o,Sx.ofT u,8,0,0,[],[]) l) st1 _ _ from Sx.nx_bind X2.out (Sx.nx_bind X3.out (Sx.nx_ret _ _)))),T8.out.unbox.unbox.add (keeps_rep _ _) (fld_rep (Nat.le_trans I1.out (by decide)) (Nat.le_trans I3.out (by decide)) (Nat.le_trans I2.out (by decide)) zk z z .nil .nil (Nat.le_refl _) zz (Nat.le_refl _) zz)⟩
end
end Go.Proofs.YtmplaikgbeeikaaGreatDoor
