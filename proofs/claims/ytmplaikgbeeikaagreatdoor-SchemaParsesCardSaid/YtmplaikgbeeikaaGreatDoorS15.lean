/- Parts of the proof, joined: SxT6, SxT8, SxU1, SxU2, SxU3, SxLaw8, SxU4. -/
import Derived.Test.YtmplaikgbeeikaaGreatDoorS14
set_option maxRecDepth 100000
set_option maxHeartbeats 16000000
set_option linter.unusedVariables false
set_option linter.unusedSimpArgs false
set_option linter.unusedSectionVars false
namespace Go.Proofs.YtmplaikgbeeikaaGreatDoor
open Go Go.RowKit
section
section
variable {s:ByteArray} {tk:List Tk} {w:World} {g:Nat} {M:List Nat} {bx:List Box} {rs:List Rw} {L:List (List Nat->World->Prop)} {W:World}
theorem tfield0_any {t:Sx.Tok} {l:List Sx.Tok} (hw:Sx.wordOf t.1=some 0) (h:PH (rk w g s tk) (t::l,false) M bx rs L W):Calls Tryz.prog 92 #[.pointer (some ⟨g,0,none⟩)] W (RdA (rk w g s tk) Sx.field (t::l,false) bx rs L):=by
 obtain ⟨N,hN⟩:=aX W.heap.size
 have T:=aI (h.new #[.string ⟨#[]⟩,.string ⟨#[]⟩,.string ⟨#[]⟩,.int .i64 0,.int .i64 0,.int .i64 0,.slice none 0 0,.slice none 0 0] 52 hN)
 have HK:=aI (show Sx.wordI t.1=0 from Sx.wordI_some hw)
 have HW:=aI hw
 have CU:=aI (fun W=>uses_any 0 W)
 rw [show usesK 0=(false,false,true,false,false) from rfl] at CU
 clear h hw
 go_enter Tryz.func92,Tryz.ntmps92
 go_upto_region 2 with (go_at_call 91;(with_reducible refine (twordK_any HK.out T.out).mono ?_);rintro e w1 ⟨rfl,h1⟩;replace T:=aI h1;clear h1)
 obtain ⟨N1,hN1⟩:=aX w1.heap.size
 replace T:=aI (T.out.new #[.string ⟨#[]⟩,.string ⟨#[]⟩,.string ⟨#[]⟩,.int .i64 0,.int .i64 0,.int .i64 0,.slice none 0 0,.slice none 0 0] 52 hN1)
 rw [hN1]
 generalize w1.alloc (.cells #[.string ⟨#[]⟩,.string ⟨#[]⟩,.string ⟨#[]⟩,.int .i64 0,.int .i64 0,.int .i64 0,.slice none 0 0,.slice none 0 0] 52)=W2 at T ⊢
 clear hN1
 obtain ⟨I,i1,c2,c3,f2,f3,hT,hN2⟩:=rk_open T.out
 have HN2:=aI (hN2 _ _ rfl)
 have hw1:IntKind.i64.wrap ((I:Int)+1)=((I+1:Nat):Int):=(by rw [wrapI (by unfold inI;omega)];omega)
 clear hT hN2
 dsimp only at c2 c3
 go_upto_region 3 with fail
 clear c2 c3 f2 f3 T
 have T:=aI (show PH (rk w g s tk) (l,false) _ ((N1,52,#[.string ⟨#[]⟩,.string ⟨#[]⟩,.string ⟨#[]⟩,.int .i64 0,.int .i64 0,.int .i64 0,.slice none 0 0,.slice none 0 0])::(N,52,#[.string ⟨#[]⟩,.string ⟨#[]⟩,.string ⟨#[]⟩,.int .i64 0,.int .i64 0,.int .i64 0,.slice none 0 0,.slice none 0 0])::bx) rs L (W2.setCell ⟨g,2,none⟩ (.int .i64 ((I:Int)+1))) from HN2.out)
 clear HN2 hw1
 generalize W2.setCell ⟨g,2,none⟩ _=W3 at T ⊢
 ·have B:=T.out.box (.head _);obtain ⟨z0,z1,z2,z3,z4,z5,z6,z7⟩:=aN8 B.cell;obtain ⟨f0,f1,f2,f3,f4,f5,f6,f7⟩:=aN8 B.frozen;simp at z0 z1 z2 z3 z4 z5 z6 z7;dsimp only at f0 f1 f2 f3 f4 f5 f6 f7;clear B
  go_upto_region 22 with (first | (go_at_call 69;(with_reducible refine aS (CU.out _) ?_)) | (go_at_call 90;(with_reducible refine (tname_any T.out).mono ?_);rintro e w1 ⟨n1,st1,rfl,i1,x1,h1⟩;replace T:=aI h1;have X1:=aI x1;have I1:=aI i1;clear h1 x1 i1;(try clear z0 z1 z2 z3 z4 z5 z6 z7 f0 f1 f2 f3 f4 f5 f6 f7);have B:=T.out.box (.head _);obtain ⟨z0,z1,z2,z3,z4,z5,z6,z7⟩:=aN8 B.cell;obtain ⟨f0,f1,f2,f3,f4,f5,f6,f7⟩:=aN8 B.frozen;simp at z0 z1 z2 z3 z4 z5 z6 z7;dsimp only at f0 f1 f2 f3 f4 f5 f6 f7;clear B) | (go_at_call 42;(with_reducible refine (tnum_any (T.out.set0 0 _)).mono ?_);rintro e w2 ⟨n2,st2,rfl,i2,x2,h2⟩;replace T:=aI h2;have X2:=aI x2;have I2:=aI i2;clear h2 x2 i2;(try clear z0 z1 z2 z3 z4 z5 z6 z7 f0 f1 f2 f3 f4 f5 f6 f7);have B:=T.out.box (.head _);obtain ⟨z0,z1,z2,z3,z4,z5,z6,z7⟩:=aN8 B.cell;obtain ⟨f0,f1,f2,f3,f4,f5,f6,f7⟩:=aN8 B.frozen;simp at z0 z1 z2 z3 z4 z5 z6 z7;dsimp only at f0 f1 f2 f3 f4 f5 f6 f7;clear B))
  have T7:=aI (show PH (rk w g s tk) st2 _ ((N1,52,#[.string (Sx.ofT n1),.string ⟨#[]⟩,.string ⟨#[]⟩,.int .i64 0,.int .i64 n2,.int .i64 0,.slice none 0 0,.slice none 0 0])::(N,52,#[.string ⟨#[]⟩,.string ⟨#[]⟩,.string ⟨#[]⟩,.int .i64 0,.int .i64 0,.int .i64 0,.slice none 0 0,.slice none 0 0])::bx) rs L _ from T.out.set0 4 (.int .i64 n2))
  clear T;(try clear z0 z1 z2 z3 z4 z5 z6 z7 f0 f1 f2 f3 f4 f5 f6 f7)
  generalize w2.setCell ⟨N1,4,none⟩ (.int .i64 n2)=W8 at *
  have B:=T7.out.box (.head _);obtain ⟨z0,z1,z2,z3,z4,z5,z6,z7⟩:=aN8 B.cell
  have C:=T7.out.box (.tail _ (.head _));obtain ⟨y0,y1,y2,y3,y4,y5,y6,y7⟩:=aN8 C.cell;obtain ⟨f0,f1,f2,f3,f4,f5,f6,f7⟩:=aN8 C.frozen
  simp at z0 z1 z2 z3 z4 z5 z6 z7 y0 y1 y2 y3 y4 y5 y6 y7
  dsimp only at f0 f1 f2 f3 f4 f5 f6 f7
  clear B C
  have T8:=aI (show PH (rk w g s tk) st2 _ ((N,52,#[.string (Sx.ofT n1),.string ⟨#[]⟩,.string ⟨#[]⟩,.int .i64 0,.int .i64 n2,.int .i64 0,.slice none 0 0,.slice none 0 0])::(N1,52,#[.string (Sx.ofT n1),.string ⟨#[]⟩,.string ⟨#[]⟩,.int .i64 0,.int .i64 n2,.int .i64 0,.slice none 0 0,.slice none 0 0])::bx) rs L _ from ((((((((T7.out.bswap.set0 0 (.string (Sx.ofT n1))).set0 1 (.string ⟨#[]⟩)).set0 2 (.string ⟨#[]⟩)).set0 3 (.int .i64 0)).set0 4 (.int .i64 n2)).set0 5 (.int .i64 0)).set0 6 (.slice none 0 0)).set0 7 (.slice none 0 0)))
  go_wp2_with fail
  clear y0 y1 y2 y3 y4 y5 y6 y7
  have C:=T8.out.box (.head _);obtain ⟨y0,y1,y2,y3,y4,y5,y6,y7⟩:=aN8 C.cell
  simp at y0 y1 y2 y3 y4 y5 y6 y7
  have z:inI 0:=by constructor <;> decide
  have zk:inI 0:=by constructor <;> decide
  have zz:=Nat.zero_le 9223372036854775807
  refine bodyPost_ret (v:=.agg #[.string (Sx.ofT n1),.string ⟨#[]⟩,.string ⟨#[]⟩,.int .i64 0,.int .i64 n2,.int .i64 0,.slice none 0 0,.slice none 0 0]) ?_ rfl ?_
  ·simp [results,Tryz.results92,go_sem,y0,y1,y2,y3,y4,y5,y6,y7]
  ·exact ⟨(Sx.ofT n1,Sx.ofT [],Sx.ofT [],0,n2,0,[],[]),_,st2,_,rfl,Sx.nx_field HW.out (Sx.nx_bind X1.out (show Sx.Nx (fun l=>(Sx.number l).bind fun lo l=>.ok (Sx.ofT n1,Sx.ofT [],Sx.ofT [],0,lo,0,[],[]) l) st1 _ _ from Sx.nx_bind X2.out (Sx.nx_ret _ _))),T8.out.unbox.unbox.add (keeps_rep _ _) (fld_rep (ah I1.out (by decide)) empty_size empty_size zk I2.out z .nil .nil (ag _) zz (ag _) zz)⟩
theorem tfield1_any {t:Sx.Tok} {l:List Sx.Tok} (hw:Sx.wordOf t.1=some 1) (h:PH (rk w g s tk) (t::l,false) M bx rs L W):Calls Tryz.prog 92 #[.pointer (some ⟨g,0,none⟩)] W (RdA (rk w g s tk) Sx.field (t::l,false) bx rs L):=by
 obtain ⟨N,hN⟩:=aX W.heap.size
 have T:=aI (h.new #[.string ⟨#[]⟩,.string ⟨#[]⟩,.string ⟨#[]⟩,.int .i64 0,.int .i64 0,.int .i64 0,.slice none 0 0,.slice none 0 0] 52 hN)
 have HK:=aI (show Sx.wordI t.1=1 from Sx.wordI_some hw)
 have HW:=aI hw
 have CU:=aI (fun W=>uses_any 1 W)
 rw [show usesK 1=(true,false,true,true,false) from rfl] at CU
 clear h hw
 go_enter Tryz.func92,Tryz.ntmps92
 go_upto_region 2 with (go_at_call 91;(with_reducible refine (twordK_any HK.out T.out).mono ?_);rintro e w1 ⟨rfl,h1⟩;replace T:=aI h1;clear h1)
 obtain ⟨N1,hN1⟩:=aX w1.heap.size
 replace T:=aI (T.out.new #[.string ⟨#[]⟩,.string ⟨#[]⟩,.string ⟨#[]⟩,.int .i64 1,.int .i64 0,.int .i64 0,.slice none 0 0,.slice none 0 0] 52 hN1)
 rw [hN1]
 generalize w1.alloc (.cells #[.string ⟨#[]⟩,.string ⟨#[]⟩,.string ⟨#[]⟩,.int .i64 1,.int .i64 0,.int .i64 0,.slice none 0 0,.slice none 0 0] 52)=W2 at T ⊢
 clear hN1
 obtain ⟨I,i1,c2,c3,f2,f3,hT,hN2⟩:=rk_open T.out
 have HN2:=aI (hN2 _ _ rfl)
 have hw1:IntKind.i64.wrap ((I:Int)+1)=((I+1:Nat):Int):=(by rw [wrapI (by unfold inI;omega)];omega)
 clear hT hN2
 dsimp only at c2 c3
 go_upto_region 3 with fail
 clear c2 c3 f2 f3 T
 have T:=aI (show PH (rk w g s tk) (l,false) _ ((N1,52,#[.string ⟨#[]⟩,.string ⟨#[]⟩,.string ⟨#[]⟩,.int .i64 1,.int .i64 0,.int .i64 0,.slice none 0 0,.slice none 0 0])::(N,52,#[.string ⟨#[]⟩,.string ⟨#[]⟩,.string ⟨#[]⟩,.int .i64 0,.int .i64 0,.int .i64 0,.slice none 0 0,.slice none 0 0])::bx) rs L (W2.setCell ⟨g,2,none⟩ (.int .i64 ((I:Int)+1))) from HN2.out)
 clear HN2 hw1
 generalize W2.setCell ⟨g,2,none⟩ _=W3 at T ⊢
 ·have B:=T.out.box (.head _);obtain ⟨z0,z1,z2,z3,z4,z5,z6,z7⟩:=aN8 B.cell;obtain ⟨f0,f1,f2,f3,f4,f5,f6,f7⟩:=aN8 B.frozen;simp at z0 z1 z2 z3 z4 z5 z6 z7;dsimp only at f0 f1 f2 f3 f4 f5 f6 f7;clear B
  go_upto_region 22 with (first | (go_at_call 69;(with_reducible refine aS (CU.out _) ?_)) | (go_at_call 90;(with_reducible refine (tname_any T.out).mono ?_);rintro e w1 ⟨n1,st1,rfl,i1,x1,h1⟩;replace T:=aI h1;have X1:=aI x1;have I1:=aI i1;clear h1 x1 i1;(try clear z0 z1 z2 z3 z4 z5 z6 z7 f0 f1 f2 f3 f4 f5 f6 f7);have B:=T.out.box (.head _);obtain ⟨z0,z1,z2,z3,z4,z5,z6,z7⟩:=aN8 B.cell;obtain ⟨f0,f1,f2,f3,f4,f5,f6,f7⟩:=aN8 B.frozen;simp at z0 z1 z2 z3 z4 z5 z6 z7;dsimp only at f0 f1 f2 f3 f4 f5 f6 f7;clear B) | (go_at_call 90;(with_reducible refine (tname_any (T.out.set0 0 _)).mono ?_);rintro e w2 ⟨n2,st2,rfl,i2,x2,h2⟩;replace T:=aI h2;have X2:=aI x2;have I2:=aI i2;clear h2 x2 i2;(try clear z0 z1 z2 z3 z4 z5 z6 z7 f0 f1 f2 f3 f4 f5 f6 f7);have B:=T.out.box (.head _);obtain ⟨z0,z1,z2,z3,z4,z5,z6,z7⟩:=aN8 B.cell;obtain ⟨f0,f1,f2,f3,f4,f5,f6,f7⟩:=aN8 B.frozen;simp at z0 z1 z2 z3 z4 z5 z6 z7;dsimp only at f0 f1 f2 f3 f4 f5 f6 f7;clear B) | (go_at_call 42;(with_reducible refine (tnum_any (T.out.set0 1 _)).mono ?_);rintro e w3 ⟨n3,st3,rfl,i3,x3,h3⟩;replace T:=aI h3;have X3:=aI x3;have I3:=aI i3;clear h3 x3 i3;(try clear z0 z1 z2 z3 z4 z5 z6 z7 f0 f1 f2 f3 f4 f5 f6 f7);have B:=T.out.box (.head _);obtain ⟨z0,z1,z2,z3,z4,z5,z6,z7⟩:=aN8 B.cell;obtain ⟨f0,f1,f2,f3,f4,f5,f6,f7⟩:=aN8 B.frozen;simp at z0 z1 z2 z3 z4 z5 z6 z7;dsimp only at f0 f1 f2 f3 f4 f5 f6 f7;clear B) | (go_at_call 42;(with_reducible refine (tnum_any (T.out.set0 4 _)).mono ?_);rintro e w4 ⟨n4,st4,rfl,i4,x4,h4⟩;replace T:=aI h4;have X4:=aI x4;have I4:=aI i4;clear h4 x4 i4;(try clear z0 z1 z2 z3 z4 z5 z6 z7 f0 f1 f2 f3 f4 f5 f6 f7);have B:=T.out.box (.head _);obtain ⟨z0,z1,z2,z3,z4,z5,z6,z7⟩:=aN8 B.cell;obtain ⟨f0,f1,f2,f3,f4,f5,f6,f7⟩:=aN8 B.frozen;simp at z0 z1 z2 z3 z4 z5 z6 z7;dsimp only at f0 f1 f2 f3 f4 f5 f6 f7;clear B))
  have T7:=aI (show PH (rk w g s tk) st4 _ ((N1,52,#[.string (Sx.ofT n1),.string (Sx.ofT n2),.string ⟨#[]⟩,.int .i64 1,.int .i64 n3,.int .i64 n4,.slice none 0 0,.slice none 0 0])::(N,52,#[.string ⟨#[]⟩,.string ⟨#[]⟩,.string ⟨#[]⟩,.int .i64 0,.int .i64 0,.int .i64 0,.slice none 0 0,.slice none 0 0])::bx) rs L _ from T.out.set0 5 (.int .i64 n4))
  clear T;(try clear z0 z1 z2 z3 z4 z5 z6 z7 f0 f1 f2 f3 f4 f5 f6 f7)
  generalize w4.setCell ⟨N1,5,none⟩ (.int .i64 n4)=W8 at *
  have B:=T7.out.box (.head _);obtain ⟨z0,z1,z2,z3,z4,z5,z6,z7⟩:=aN8 B.cell
  have C:=T7.out.box (.tail _ (.head _));obtain ⟨y0,y1,y2,y3,y4,y5,y6,y7⟩:=aN8 C.cell;obtain ⟨f0,f1,f2,f3,f4,f5,f6,f7⟩:=aN8 C.frozen
  simp at z0 z1 z2 z3 z4 z5 z6 z7 y0 y1 y2 y3 y4 y5 y6 y7
  dsimp only at f0 f1 f2 f3 f4 f5 f6 f7
  clear B C
  have T8:=aI (show PH (rk w g s tk) st4 _ ((N,52,#[.string (Sx.ofT n1),.string (Sx.ofT n2),.string ⟨#[]⟩,.int .i64 1,.int .i64 n3,.int .i64 n4,.slice none 0 0,.slice none 0 0])::(N1,52,#[.string (Sx.ofT n1),.string (Sx.ofT n2),.string ⟨#[]⟩,.int .i64 1,.int .i64 n3,.int .i64 n4,.slice none 0 0,.slice none 0 0])::bx) rs L _ from ((((((((T7.out.bswap.set0 0 (.string (Sx.ofT n1))).set0 1 (.string (Sx.ofT n2))).set0 2 (.string ⟨#[]⟩)).set0 3 (.int .i64 1)).set0 4 (.int .i64 n3)).set0 5 (.int .i64 n4)).set0 6 (.slice none 0 0)).set0 7 (.slice none 0 0)))
  go_wp2_with fail
  clear y0 y1 y2 y3 y4 y5 y6 y7
  have C:=T8.out.box (.head _);obtain ⟨y0,y1,y2,y3,y4,y5,y6,y7⟩:=aN8 C.cell
  simp at y0 y1 y2 y3 y4 y5 y6 y7
  have z:inI 0:=by constructor <;> decide
  have zk:inI 1:=by constructor <;> decide
  have zz:=Nat.zero_le 9223372036854775807
  refine bodyPost_ret (v:=.agg #[.string (Sx.ofT n1),.string (Sx.ofT n2),.string ⟨#[]⟩,.int .i64 1,.int .i64 n3,.int .i64 n4,.slice none 0 0,.slice none 0 0]) ?_ rfl ?_
  ·simp [results,Tryz.results92,go_sem,y0,y1,y2,y3,y4,y5,y6,y7]
  ·exact ⟨(Sx.ofT n1,Sx.ofT n2,Sx.ofT [],1,n3,n4,[],[]),_,st4,_,rfl,Sx.nx_field HW.out (Sx.nx_bind X1.out (show Sx.Nx (fun l=>(Sx.name l).bind fun o l=>(Sx.number l).bind fun lo l=>(Sx.number l).bind fun hi l=>.ok (Sx.ofT n1,Sx.ofT o,Sx.ofT [],1,lo,hi,[],[]) l) st1 _ _ from Sx.nx_bind X2.out (Sx.nx_bind X3.out (Sx.nx_bind X4.out (Sx.nx_ret _ _))))),T8.out.unbox.unbox.add (keeps_rep _ _) (fld_rep (ah I1.out (by decide)) (ah I2.out (by decide)) empty_size zk I3.out I4.out .nil .nil (ag _) zz (ag _) zz)⟩
theorem tfield2_any {t:Sx.Tok} {l:List Sx.Tok} (hw:Sx.wordOf t.1=some 2) (h:PH (rk w g s tk) (t::l,false) M bx rs L W):Calls Tryz.prog 92 #[.pointer (some ⟨g,0,none⟩)] W (RdA (rk w g s tk) Sx.field (t::l,false) bx rs L):=by
 obtain ⟨N,hN⟩:=aX W.heap.size
 have T:=aI (h.new #[.string ⟨#[]⟩,.string ⟨#[]⟩,.string ⟨#[]⟩,.int .i64 0,.int .i64 0,.int .i64 0,.slice none 0 0,.slice none 0 0] 52 hN)
 have HK:=aI (show Sx.wordI t.1=2 from Sx.wordI_some hw)
 have HW:=aI hw
 have CU:=aI (fun W=>uses_any 2 W)
 rw [show usesK 2=(false,false,true,true,false) from rfl] at CU
 clear h hw
 go_enter Tryz.func92,Tryz.ntmps92
 go_upto_region 2 with (go_at_call 91;(with_reducible refine (twordK_any HK.out T.out).mono ?_);rintro e w1 ⟨rfl,h1⟩;replace T:=aI h1;clear h1)
 obtain ⟨N1,hN1⟩:=aX w1.heap.size
 replace T:=aI (T.out.new #[.string ⟨#[]⟩,.string ⟨#[]⟩,.string ⟨#[]⟩,.int .i64 2,.int .i64 0,.int .i64 0,.slice none 0 0,.slice none 0 0] 52 hN1)
 rw [hN1]
 generalize w1.alloc (.cells #[.string ⟨#[]⟩,.string ⟨#[]⟩,.string ⟨#[]⟩,.int .i64 2,.int .i64 0,.int .i64 0,.slice none 0 0,.slice none 0 0] 52)=W2 at T ⊢
 clear hN1
 obtain ⟨I,i1,c2,c3,f2,f3,hT,hN2⟩:=rk_open T.out
 have HN2:=aI (hN2 _ _ rfl)
 have hw1:IntKind.i64.wrap ((I:Int)+1)=((I+1:Nat):Int):=(by rw [wrapI (by unfold inI;omega)];omega)
 clear hT hN2
 dsimp only at c2 c3
 go_upto_region 3 with fail
 clear c2 c3 f2 f3 T
 have T:=aI (show PH (rk w g s tk) (l,false) _ ((N1,52,#[.string ⟨#[]⟩,.string ⟨#[]⟩,.string ⟨#[]⟩,.int .i64 2,.int .i64 0,.int .i64 0,.slice none 0 0,.slice none 0 0])::(N,52,#[.string ⟨#[]⟩,.string ⟨#[]⟩,.string ⟨#[]⟩,.int .i64 0,.int .i64 0,.int .i64 0,.slice none 0 0,.slice none 0 0])::bx) rs L (W2.setCell ⟨g,2,none⟩ (.int .i64 ((I:Int)+1))) from HN2.out)
 clear HN2 hw1
 generalize W2.setCell ⟨g,2,none⟩ _=W3 at T ⊢
 ·have B:=T.out.box (.head _);obtain ⟨z0,z1,z2,z3,z4,z5,z6,z7⟩:=aN8 B.cell;obtain ⟨f0,f1,f2,f3,f4,f5,f6,f7⟩:=aN8 B.frozen;simp at z0 z1 z2 z3 z4 z5 z6 z7;dsimp only at f0 f1 f2 f3 f4 f5 f6 f7;clear B
  go_upto_region 22 with (first | (go_at_call 69;(with_reducible refine aS (CU.out _) ?_)) | (go_at_call 90;(with_reducible refine (tname_any T.out).mono ?_);rintro e w1 ⟨n1,st1,rfl,i1,x1,h1⟩;replace T:=aI h1;have X1:=aI x1;have I1:=aI i1;clear h1 x1 i1;(try clear z0 z1 z2 z3 z4 z5 z6 z7 f0 f1 f2 f3 f4 f5 f6 f7);have B:=T.out.box (.head _);obtain ⟨z0,z1,z2,z3,z4,z5,z6,z7⟩:=aN8 B.cell;obtain ⟨f0,f1,f2,f3,f4,f5,f6,f7⟩:=aN8 B.frozen;simp at z0 z1 z2 z3 z4 z5 z6 z7;dsimp only at f0 f1 f2 f3 f4 f5 f6 f7;clear B) | (go_at_call 42;(with_reducible refine (tnum_any (T.out.set0 0 _)).mono ?_);rintro e w2 ⟨n2,st2,rfl,i2,x2,h2⟩;replace T:=aI h2;have X2:=aI x2;have I2:=aI i2;clear h2 x2 i2;(try clear z0 z1 z2 z3 z4 z5 z6 z7 f0 f1 f2 f3 f4 f5 f6 f7);have B:=T.out.box (.head _);obtain ⟨z0,z1,z2,z3,z4,z5,z6,z7⟩:=aN8 B.cell;obtain ⟨f0,f1,f2,f3,f4,f5,f6,f7⟩:=aN8 B.frozen;simp at z0 z1 z2 z3 z4 z5 z6 z7;dsimp only at f0 f1 f2 f3 f4 f5 f6 f7;clear B) | (go_at_call 42;(with_reducible refine (tnum_any (T.out.set0 4 _)).mono ?_);rintro e w3 ⟨n3,st3,rfl,i3,x3,h3⟩;replace T:=aI h3;have X3:=aI x3;have I3:=aI i3;clear h3 x3 i3;(try clear z0 z1 z2 z3 z4 z5 z6 z7 f0 f1 f2 f3 f4 f5 f6 f7);have B:=T.out.box (.head _);obtain ⟨z0,z1,z2,z3,z4,z5,z6,z7⟩:=aN8 B.cell;obtain ⟨f0,f1,f2,f3,f4,f5,f6,f7⟩:=aN8 B.frozen;simp at z0 z1 z2 z3 z4 z5 z6 z7;dsimp only at f0 f1 f2 f3 f4 f5 f6 f7;clear B))
  have T7:=aI (show PH (rk w g s tk) st3 _ ((N1,52,#[.string (Sx.ofT n1),.string ⟨#[]⟩,.string ⟨#[]⟩,.int .i64 2,.int .i64 n2,.int .i64 n3,.slice none 0 0,.slice none 0 0])::(N,52,#[.string ⟨#[]⟩,.string ⟨#[]⟩,.string ⟨#[]⟩,.int .i64 0,.int .i64 0,.int .i64 0,.slice none 0 0,.slice none 0 0])::bx) rs L _ from T.out.set0 5 (.int .i64 n3))
  clear T;(try clear z0 z1 z2 z3 z4 z5 z6 z7 f0 f1 f2 f3 f4 f5 f6 f7)
  generalize w3.setCell ⟨N1,5,none⟩ (.int .i64 n3)=W8 at *
  have B:=T7.out.box (.head _);obtain ⟨z0,z1,z2,z3,z4,z5,z6,z7⟩:=aN8 B.cell
  have C:=T7.out.box (.tail _ (.head _));obtain ⟨y0,y1,y2,y3,y4,y5,y6,y7⟩:=aN8 C.cell;obtain ⟨f0,f1,f2,f3,f4,f5,f6,f7⟩:=aN8 C.frozen
  simp at z0 z1 z2 z3 z4 z5 z6 z7 y0 y1 y2 y3 y4 y5 y6 y7
  dsimp only at f0 f1 f2 f3 f4 f5 f6 f7
  clear B C
  have T8:=aI (show PH (rk w g s tk) st3 _ ((N,52,#[.string (Sx.ofT n1),.string ⟨#[]⟩,.string ⟨#[]⟩,.int .i64 2,.int .i64 n2,.int .i64 n3,.slice none 0 0,.slice none 0 0])::(N1,52,#[.string (Sx.ofT n1),.string ⟨#[]⟩,.string ⟨#[]⟩,.int .i64 2,.int .i64 n2,.int .i64 n3,.slice none 0 0,.slice none 0 0])::bx) rs L _ from ((((((((T7.out.bswap.set0 0 (.string (Sx.ofT n1))).set0 1 (.string ⟨#[]⟩)).set0 2 (.string ⟨#[]⟩)).set0 3 (.int .i64 2)).set0 4 (.int .i64 n2)).set0 5 (.int .i64 n3)).set0 6 (.slice none 0 0)).set0 7 (.slice none 0 0)))
  go_wp2_with fail
  clear y0 y1 y2 y3 y4 y5 y6 y7
  have C:=T8.out.box (.head _);obtain ⟨y0,y1,y2,y3,y4,y5,y6,y7⟩:=aN8 C.cell
  simp at y0 y1 y2 y3 y4 y5 y6 y7
  have z:inI 0:=by constructor <;> decide
  have zk:inI 2:=by constructor <;> decide
  have zz:=Nat.zero_le 9223372036854775807
  refine bodyPost_ret (v:=.agg #[.string (Sx.ofT n1),.string ⟨#[]⟩,.string ⟨#[]⟩,.int .i64 2,.int .i64 n2,.int .i64 n3,.slice none 0 0,.slice none 0 0]) ?_ rfl ?_
  ·simp [results,Tryz.results92,go_sem,y0,y1,y2,y3,y4,y5,y6,y7]
  ·exact ⟨(Sx.ofT n1,Sx.ofT [],Sx.ofT [],2,n2,n3,[],[]),_,st3,_,rfl,Sx.nx_field HW.out (Sx.nx_bind X1.out (show Sx.Nx (fun l=>(Sx.number l).bind fun lo l=>(Sx.number l).bind fun hi l=>.ok (Sx.ofT n1,Sx.ofT [],Sx.ofT [],2,lo,hi,[],[]) l) st1 _ _ from Sx.nx_bind X2.out (Sx.nx_bind X3.out (Sx.nx_ret _ _)))),T8.out.unbox.unbox.add (keeps_rep _ _) (fld_rep (ah I1.out (by decide)) empty_size empty_size zk I2.out I3.out .nil .nil (ag _) zz (ag _) zz)⟩
theorem tfield4_any {t:Sx.Tok} {l:List Sx.Tok} (hw:Sx.wordOf t.1=some 4) (h:PH (rk w g s tk) (t::l,false) M bx rs L W):Calls Tryz.prog 92 #[.pointer (some ⟨g,0,none⟩)] W (RdA (rk w g s tk) Sx.field (t::l,false) bx rs L):=by
 obtain ⟨N,hN⟩:=aX W.heap.size
 have T:=aI (h.new #[.string ⟨#[]⟩,.string ⟨#[]⟩,.string ⟨#[]⟩,.int .i64 0,.int .i64 0,.int .i64 0,.slice none 0 0,.slice none 0 0] 52 hN)
 have HK:=aI (show Sx.wordI t.1=4 from Sx.wordI_some hw)
 have HW:=aI hw
 have CU:=aI (fun W=>uses_any 4 W)
 rw [show usesK 4=(true,false,true,true,false) from rfl] at CU
 clear h hw
 go_enter Tryz.func92,Tryz.ntmps92
 go_upto_region 2 with (go_at_call 91;(with_reducible refine (twordK_any HK.out T.out).mono ?_);rintro e w1 ⟨rfl,h1⟩;replace T:=aI h1;clear h1)
 obtain ⟨N1,hN1⟩:=aX w1.heap.size
 replace T:=aI (T.out.new #[.string ⟨#[]⟩,.string ⟨#[]⟩,.string ⟨#[]⟩,.int .i64 4,.int .i64 0,.int .i64 0,.slice none 0 0,.slice none 0 0] 52 hN1)
 rw [hN1]
 generalize w1.alloc (.cells #[.string ⟨#[]⟩,.string ⟨#[]⟩,.string ⟨#[]⟩,.int .i64 4,.int .i64 0,.int .i64 0,.slice none 0 0,.slice none 0 0] 52)=W2 at T ⊢
 clear hN1
 obtain ⟨I,i1,c2,c3,f2,f3,hT,hN2⟩:=rk_open T.out
 have HN2:=aI (hN2 _ _ rfl)
 have hw1:IntKind.i64.wrap ((I:Int)+1)=((I+1:Nat):Int):=(by rw [wrapI (by unfold inI;omega)];omega)
 clear hT hN2
 dsimp only at c2 c3
 go_upto_region 3 with fail
 clear c2 c3 f2 f3 T
 have T:=aI (show PH (rk w g s tk) (l,false) _ ((N1,52,#[.string ⟨#[]⟩,.string ⟨#[]⟩,.string ⟨#[]⟩,.int .i64 4,.int .i64 0,.int .i64 0,.slice none 0 0,.slice none 0 0])::(N,52,#[.string ⟨#[]⟩,.string ⟨#[]⟩,.string ⟨#[]⟩,.int .i64 0,.int .i64 0,.int .i64 0,.slice none 0 0,.slice none 0 0])::bx) rs L (W2.setCell ⟨g,2,none⟩ (.int .i64 ((I:Int)+1))) from HN2.out)
 clear HN2 hw1
 generalize W2.setCell ⟨g,2,none⟩ _=W3 at T ⊢
 ·have B:=T.out.box (.head _);obtain ⟨z0,z1,z2,z3,z4,z5,z6,z7⟩:=aN8 B.cell;obtain ⟨f0,f1,f2,f3,f4,f5,f6,f7⟩:=aN8 B.frozen;simp at z0 z1 z2 z3 z4 z5 z6 z7;dsimp only at f0 f1 f2 f3 f4 f5 f6 f7;clear B
  go_upto_region 22 with (first | (go_at_call 69;(with_reducible refine aS (CU.out _) ?_)) | (go_at_call 90;(with_reducible refine (tname_any T.out).mono ?_);rintro e w1 ⟨n1,st1,rfl,i1,x1,h1⟩;replace T:=aI h1;have X1:=aI x1;have I1:=aI i1;clear h1 x1 i1;(try clear z0 z1 z2 z3 z4 z5 z6 z7 f0 f1 f2 f3 f4 f5 f6 f7);have B:=T.out.box (.head _);obtain ⟨z0,z1,z2,z3,z4,z5,z6,z7⟩:=aN8 B.cell;obtain ⟨f0,f1,f2,f3,f4,f5,f6,f7⟩:=aN8 B.frozen;simp at z0 z1 z2 z3 z4 z5 z6 z7;dsimp only at f0 f1 f2 f3 f4 f5 f6 f7;clear B) | (go_at_call 94;(with_reducible refine (tnames_any (T.out.set0 0 _)).mono ?_);rintro e w2 ⟨n2,st2,rfl,i2,x2,h2⟩;replace T:=aI h2;have X2:=aI x2;have I2:=aI i2;clear h2 x2 i2;(try clear z0 z1 z2 z3 z4 z5 z6 z7 f0 f1 f2 f3 f4 f5 f6 f7);have B:=T.out.box (.head _);obtain ⟨z0,z1,z2,z3,z4,z5,z6,z7⟩:=aN8 B.cell;obtain ⟨f0,f1,f2,f3,f4,f5,f6,f7⟩:=aN8 B.frozen;simp at z0 z1 z2 z3 z4 z5 z6 z7;dsimp only at f0 f1 f2 f3 f4 f5 f6 f7;clear B) | (go_at_call 42;(with_reducible refine (tnum_any (T.out.set0 1 _)).mono ?_);rintro e w3 ⟨n3,st3,rfl,i3,x3,h3⟩;replace T:=aI h3;have X3:=aI x3;have I3:=aI i3;clear h3 x3 i3;(try clear z0 z1 z2 z3 z4 z5 z6 z7 f0 f1 f2 f3 f4 f5 f6 f7);have B:=T.out.box (.head _);obtain ⟨z0,z1,z2,z3,z4,z5,z6,z7⟩:=aN8 B.cell;obtain ⟨f0,f1,f2,f3,f4,f5,f6,f7⟩:=aN8 B.frozen;simp at z0 z1 z2 z3 z4 z5 z6 z7;dsimp only at f0 f1 f2 f3 f4 f5 f6 f7;clear B) | (go_at_call 42;(with_reducible refine (tnum_any (T.out.set0 4 _)).mono ?_);rintro e w4 ⟨n4,st4,rfl,i4,x4,h4⟩;replace T:=aI h4;have X4:=aI x4;have I4:=aI i4;clear h4 x4 i4;(try clear z0 z1 z2 z3 z4 z5 z6 z7 f0 f1 f2 f3 f4 f5 f6 f7);have B:=T.out.box (.head _);obtain ⟨z0,z1,z2,z3,z4,z5,z6,z7⟩:=aN8 B.cell;obtain ⟨f0,f1,f2,f3,f4,f5,f6,f7⟩:=aN8 B.frozen;simp at z0 z1 z2 z3 z4 z5 z6 z7;dsimp only at f0 f1 f2 f3 f4 f5 f6 f7;clear B))
  have T7:=aI (show PH (rk w g s tk) st4 _ ((N1,52,#[.string (Sx.ofT n1),.string (Sx.ofT n2),.string ⟨#[]⟩,.int .i64 4,.int .i64 n3,.int .i64 n4,.slice none 0 0,.slice none 0 0])::(N,52,#[.string ⟨#[]⟩,.string ⟨#[]⟩,.string ⟨#[]⟩,.int .i64 0,.int .i64 0,.int .i64 0,.slice none 0 0,.slice none 0 0])::bx) rs L _ from T.out.set0 5 (.int .i64 n4))
  clear T;(try clear z0 z1 z2 z3 z4 z5 z6 z7 f0 f1 f2 f3 f4 f5 f6 f7)
  generalize w4.setCell ⟨N1,5,none⟩ (.int .i64 n4)=W8 at *
  have B:=T7.out.box (.head _);obtain ⟨z0,z1,z2,z3,z4,z5,z6,z7⟩:=aN8 B.cell
  have C:=T7.out.box (.tail _ (.head _));obtain ⟨y0,y1,y2,y3,y4,y5,y6,y7⟩:=aN8 C.cell;obtain ⟨f0,f1,f2,f3,f4,f5,f6,f7⟩:=aN8 C.frozen
  simp at z0 z1 z2 z3 z4 z5 z6 z7 y0 y1 y2 y3 y4 y5 y6 y7
  dsimp only at f0 f1 f2 f3 f4 f5 f6 f7
  clear B C
  have T8:=aI (show PH (rk w g s tk) st4 _ ((N,52,#[.string (Sx.ofT n1),.string (Sx.ofT n2),.string ⟨#[]⟩,.int .i64 4,.int .i64 n3,.int .i64 n4,.slice none 0 0,.slice none 0 0])::(N1,52,#[.string (Sx.ofT n1),.string (Sx.ofT n2),.string ⟨#[]⟩,.int .i64 4,.int .i64 n3,.int .i64 n4,.slice none 0 0,.slice none 0 0])::bx) rs L _ from ((((((((T7.out.bswap.set0 0 (.string (Sx.ofT n1))).set0 1 (.string (Sx.ofT n2))).set0 2 (.string ⟨#[]⟩)).set0 3 (.int .i64 4)).set0 4 (.int .i64 n3)).set0 5 (.int .i64 n4)).set0 6 (.slice none 0 0)).set0 7 (.slice none 0 0)))
  go_wp2_with fail
  clear y0 y1 y2 y3 y4 y5 y6 y7
  have C:=T8.out.box (.head _);obtain ⟨y0,y1,y2,y3,y4,y5,y6,y7⟩:=aN8 C.cell
  simp at y0 y1 y2 y3 y4 y5 y6 y7
  have z:inI 0:=by constructor <;> decide
  have zk:inI 4:=by constructor <;> decide
  have zz:=Nat.zero_le 9223372036854775807
  refine bodyPost_ret (v:=.agg #[.string (Sx.ofT n1),.string (Sx.ofT n2),.string ⟨#[]⟩,.int .i64 4,.int .i64 n3,.int .i64 n4,.slice none 0 0,.slice none 0 0]) ?_ rfl ?_
  ·simp [results,Tryz.results92,go_sem,y0,y1,y2,y3,y4,y5,y6,y7]
  ·exact ⟨(Sx.ofT n1,Sx.ofT n2,Sx.ofT [],4,n3,n4,[],[]),_,st4,_,rfl,Sx.nx_field HW.out (Sx.nx_bind X1.out (show Sx.Nx (fun l=>(Sx.names l).bind fun o l=>(Sx.number l).bind fun lo l=>(Sx.number l).bind fun hi l=>.ok (Sx.ofT n1,Sx.ofT o,Sx.ofT [],4,lo,hi,[],[]) l) st1 _ _ from Sx.nx_bind X2.out (Sx.nx_bind X3.out (Sx.nx_bind X4.out (Sx.nx_ret _ _))))),T8.out.unbox.unbox.add (keeps_rep _ _) (fld_rep (ah I1.out (by decide)) (ah I2.out (by decide)) empty_size zk I3.out I4.out .nil .nil (ag _) zz (ag _) zz)⟩
end
end
section
section
variable {s:ByteArray} {tk:List Tk} {w:World} {g:Nat} {st:Sx.St} {M:List Nat} {bx:List Box} {rs:List Rw} {L:List (List Nat->World->Prop)} {W:World}
theorem tfield_any {t:Sx.Tok} {l:List Sx.Tok} (hw:Sx.isWord t.1=true) (h:PH (rk w g s tk) (t::l,false) M bx rs L W):Calls Tryz.prog 92 #[.pointer (some ⟨g,0,none⟩)] W (RdA (rk w g s tk) Sx.field (t::l,false) bx rs L):=by
 obtain ⟨k,hk⟩:=Option.isSome_iff_exists.1 hw
 have h9:=Sx.wordOf_lt hk
 match k,h9,hk with
 | 0,_,hk=>exact tfield0_any hk h
 | 1,_,hk=>exact tfield1_any hk h
 | 2,_,hk=>exact tfield2_any hk h
 | 3,_,hk=>exact tfield3_any hk h
 | 4,_,hk=>exact tfield4_any hk h
 | 5,_,hk=>exact tfield5_any hk h
 | 6,_,hk=>exact tfield6_any hk h
 | 7,_,hk=>exact tfield7_any hk h
 | 8,_,hk=>exact tfield8_any hk h
 | n+9,h9,_=>exact absurd h9 (by omega)
theorem twordV_any {kk:Int} (hk:Sx.wordI (Sx.pk st)=kk) (h:PH (rk w g s tk) st M bx rs L W) :
  Calls Tryz.prog 91 #[.pointer (some ⟨g,0,none⟩)] W fun e W'=>e=.returned (.int .i64 kk)/\PH (rk w g s tk) st M bx rs L W':=by
 refine (tword_any h).mono ?_
 rintro e W' ⟨h1,h2⟩
 exact ⟨h1.trans (by rw [<-hk]),h2⟩
theorem tkind_any (h:PH (rk w g s tk) st M bx rs L W):Calls Tryz.prog 44 #[.pointer (some ⟨g,0,none⟩)] W (RdA (rk w g s tk) Sx.kind st bx rs L):=by
 obtain ⟨N,hN⟩:=aX W.heap.size
 have T:=aI (h.new #[.string ⟨#[]⟩,.int .i64 0,.int .i64 0,.slice none 0 0] 49 hN)
 clear h
 go_enter Tryz.func44,Tryz.ntmps44
 go_upto_region 3 with (first | (go_at_call 41;(with_reducible refine (twantKind_any T.out).mono ?_);rintro e w1 ⟨st1,rfl,x1,h1⟩;replace T:=aI h1;have X1:=aI x1;clear h1 x1) | (go_at_call 90;(with_reducible refine (tname_any T.out).mono ?_);rintro e w1 ⟨n,st2,rfl,i2,x2,h2⟩;replace T:=aI h2;have X2:=aI x2;have I2:=aI i2;clear h2 x2 i2))
 obtain ⟨N1,hN1⟩:=aX w1.heap.size
 replace T:=aI (T.out.new #[.string (Sx.ofT n),.int .i64 0,.int .i64 0,.slice none 0 0] 49 hN1)
 rw [hN1]
 go_upto_region 5 with (first | (go_at_call 42;(with_reducible refine (tnum_any T.out).mono ?_);rintro e w3 ⟨n3,st3,rfl,i3,x3,h3⟩;replace T:=aI h3;have X3:=aI x3;have I3:=aI i3;clear h3 x3 i3;have B:=T.out.box (.head _);obtain ⟨z0,z1,z2,z3⟩:=aN4 B.cell;obtain ⟨f0,f1,f2,f3⟩:=aN4 B.frozen;simp at z0 z1 z2 z3;clear B) | (go_at_call 42;(with_reducible refine (tnum_any (T.out.set0 1 _)).mono ?_);rintro e w4 ⟨n4,st4,rfl,i4,x4,h4⟩;replace T:=aI h4;have X4:=aI x4;have I4:=aI i4;clear h4 x4 i4;clear z0 z1 z2 z3 f0 f1 f2 f3;have B:=T.out.box (.head _);obtain ⟨z0,z1,z2,z3⟩:=aN4 B.cell;obtain ⟨f0,f1,f2,f3⟩:=aN4 B.frozen;simp at z0 z1 z2 z3;clear B))
 have T7:=aI (show PH (rk w g s tk) st4 _ ((N1,49,#[.string (Sx.ofT n),.int .i64 n3,.int .i64 n4,.slice none 0 0])::(N,49,#[.string ⟨#[]⟩,.int .i64 0,.int .i64 0,.slice none 0 0])::bx) rs L _ from T.out.set0 2 (.int .i64 n4))
 clear T z0 z1 z2 z3 f0 f1 f2 f3
 generalize w4.setCell ⟨N1,2,none⟩ (.int .i64 n4)=W8 at *
 obtain ⟨sx,hsx⟩:=aX (Sx.left st4)
 have HSX:=aI hsx
 have HTK:=aI (rk_tok T7.out).1
 clear hsx
 have T:=aI ((T7.out.push 52 8).add (keeps_flat ([]:List Fld) []) rfl)
 clear T7
 go_loopg [15] sx (fun r v3 wr=>∃ (st1:Sx.St) (acc2:List Fld) (xs:List Value) (M1:List Nat) (u:Value),PH (rk w g s tk) st1 M1 ((N1,49,#[.string (Sx.ofT n),.int .i64 n3,.int .i64 n4,u])::(N,49,#[.string ⟨#[]⟩,.int .i64 0,.int .i64 0,.slice none 0 0])::bx) (⟨52,8,u,acc2.length,xs⟩::rs) ((fun M W=>Flat M W acc2 xs)::L) wr/\Sx.left st1=r/\acc2.length+r<=sx/\(∀ x st',Sx.Nx (Sx.many Sx.isWord Sx.field st1.1.length acc2) st1 x st'->Sx.Nx (fun l=>Sx.many Sx.isWord Sx.field l.length [] l) st4 x st'))
 case atStart=>exact ⟨st4,[],[],_,_,T.out,HSX.out,by simp,fun x st' hx=>hx⟩
 case round =>
  clear T
  obtain ⟨st1,acc2,xs2,M2,u,hH,hlf,hal,hnx⟩:=hrel
  obtain ⟨wo,rfl⟩:=aY wr
  have T:=aI hH
  have HX:=aI hnx
  have HL:=aI hlf
  clear hH hnx hlf
  obtain ⟨l1,f1⟩:=st1
  obtain ⟨A6,c6,rfl⟩:=T.out.form
  have HA8:=aI (show acc2.length<=8193 by have h1:=HTK.out;have h2:=HSX.out;unfold Sx.left at h2;split at h2 <;> omega)
  obtain ⟨wi,hwi⟩:=aX (Sx.wordI (Sx.pk (l1,f1)))
  have HWI:=aI hwi
  cases hwo:Sx.wordOf (Sx.pk (l1,f1)) with
  | none =>
   have hw1:wi=-1:=by rw [<-hwi];unfold Sx.wordI;rw [hwo]
   subst hw1
   have HST:=aI (show Sx.Nx (Sx.many Sx.isWord Sx.field l1.length acc2) (l1,f1) acc2 (l1,f1) from Sx.nx_many_stop (begins:=Sx.isWord) (read:=Sx.field) (st:=(l1,f1)) (f:=l1.length) (acc:=acc2) (fun hf t r hl=>by
    have hf:f1=false:=hf
    subst hf
    obtain rfl:l1=t::r:=hl
    show Sx.isWord t.1=false
    unfold Sx.isWord
    rw [show Sx.wordOf t.1=none from hwo];rfl))
   clear hwi hwo
   go_upto_region 7 with (go_at_call 91;(with_reducible refine (twordV_any HWI.out T.out).mono ?_);rintro e w5 ⟨rfl,h5⟩;replace T:=aI h5;clear h5)
   obtain ⟨A,cm,M',hv,d1,d2,h4,_⟩:=T.out.freeze (α:=_) rfl rfl (T.out.fact (.head _))
   injection hv with hv1 hv2 hv3
   subst hv1 hv3
   clear hv2 T
   have D:=aI (show acc2.length<=c6/\c6<=9223372036854775807 from ⟨d1,d2⟩)
   clear d1 d2
   have T7:=aI h4
   clear h4
   have B:=T7.out.box (.head _);obtain ⟨z0,z1,z2,z3⟩:=aN4 B.cell
   have C:=T7.out.box (.tail _ (.head _));obtain ⟨y0,y1,y2,y3⟩:=aN4 C.cell;obtain ⟨f0,f1,f2,f3⟩:=aN4 C.frozen
   simp at z0 z1 z2 z3 y0 y1 y2 y3
   clear B C
   have h8:=((((T7.out.bswap.set0 0 (.string (Sx.ofT n))).set0 1 (.int .i64 n3)).set0 2 (.int .i64 n4)).set0 3 (.slice A6 acc2.length c6))
   (simp only [aB,aF,aG] at h8)
   have T8:=aI h8
   clear T7 h8
   go_wp2_with fail
   clear y0 y1 y2 y3
   have C:=T8.out.box (.head _);obtain ⟨y0,y1,y2,y3⟩:=aN4 C.cell
   simp at y0 y1 y2 y3
   have hms:=T8.out.fact (.head _)
   refine bodyPost_ret (v:=.agg #[.string (Sx.ofT n),.int .i64 n3,.int .i64 n4,.slice A6 acc2.length c6]) ?_ rfl ?_
   ·simp [results,Tryz.results44,go_sem,y0,y1,y2,y3]
   ·exact ⟨(Sx.ofT n,n3,n4,acc2),_,_,_,rfl,Sx.nx_bind X1.out (Sx.nx_bind X2.out (Sx.nx_bind X3.out (Sx.nx_bind X4.out (Sx.nx_bind (HX.out _ _ HST.out) (Sx.nx_ret _ _))))),(T8.out.unbox.unbox.add (keeps_rep (Sx.ofT n,n3,n4,acc2) [.string (Sx.ofT n),.int .i64 n3,.int .i64 n4,.slice A6 acc2.length c6]) ⟨[_],_,rfl,⟨rfl,ah I2.out (by decide)⟩,[_],_,rfl,⟨rfl,I3.out⟩,[_],_,rfl,⟨rfl,I4.out⟩,⟨_,_,rfl,D.out.1,D.out.2,hms⟩⟩).less fun P hP=>by
     rcases aL hP with rfl | hP
     ·exact .head _
     ·exact .tail _ (.tail _ (.tail _ hP))⟩
  | some k =>
   obtain ⟨t,r,rfl,rfl⟩:∃ t r,l1=t::r/\f1=false:=by
    cases f1
    ·cases l1 with
     | nil=>exact absurd (hwo.symm.trans (show Sx.wordOf []=none from rfl)) (by simp)
     | cons t r=>exact ⟨t,r,rfl,rfl⟩
    ·exact absurd (hwo.symm.trans (show Sx.wordOf []=none from rfl)) (by simp)
   have HBB:=aI (show Sx.isWord t.1=true by unfold Sx.isWord;rw [show Sx.wordOf t.1=some k from hwo];rfl)
   have hw1:wi=(k:Int):=by rw [<-hwi];exact Sx.wordI_some hwo
   subst hw1
   have k0:(0:Int)<=(k:Int):=aa _
   clear hwi hwo
   go_wp2_with (go_at_call 91;(with_reducible refine (twordV_any HWI.out T.out).mono ?_);rintro e w5 ⟨rfl,h5⟩;replace T:=aI h5;clear h5;have q:=T.out.box (.head _);have q3:=q.cell 3;(simp at q3);clear q)
   go_region_law (first | (obtain ⟨i0,hI,hz0,hz1,hz2⟩:=info_parts infoFld;refine step_append_ph (by rfl) _ _ 47 (by rfl) 52 i0 _ 8 120 Tryz.underlying47 hI hz0 hz1 hz2 rfl (by decide) (T2.out.below (aP _ _)) (by rfl) _ _ 1 1 [.string (Sc.nm a),.string (Sc.of_ a),.string (Sc.up a),.int .i64 (Sc.kd a),.int .i64 (Sc.lo a),.int .i64 (Sc.hi a),.slice A1 (Sc.words a).length c1,.slice B1 (Sc.wts a).length d1] (by rfl) (reads_blk (Blk.new _ _ _) rfl) (by simp [Value.oneCell']) (by have:=HA8.out;unfold maxLen;omega) (by have:=HA8.out;omega) ?_;intro v7 w7 M7 h7 _;obtain ⟨A8,c8,rfl⟩:=h7.form;have q:=h7.box (.head _);have q3:=q.cell 3;(simp at q3);have f3:=q.frozen 3;clear q;have T3:=aI h7;clear h7 hI hz0 hz1 hz2) | (go_simp;go_at_call 92;refine (tfield_any HBB.out T.out.drew).mono ?_;rintro e w6 ⟨a,us,st3,M3,rfl,x3,h3⟩;obtain ⟨A1,c1,B1,d1,rfl,r1,r2,r3,r4,r5,r6,r7,r8,r9,r10,r11,r12⟩:=rep_fld (h3.fact (.head _));clear r1 r2 r3 r4 r5 r6 r7 r8 r9 r10 r11 r12;have q:=h3.box (.head _);have q3:=q.cell 3;(simp at q3);clear q;have T2:=aI h3;have X5:=aI x3;have q3b:∀ o,(w6.alloc o).cell? ⟨N1,3,none⟩=some (.slice A6 acc2.length c6):=(fun o=>by have q:=(T2.out.below ((Below.refl _ _).alloc (ag _) o)).box (.head _);have q:=q.cell 3;simpa using q);clear h3 x3))
   all_goals
    have T4:=T3.out.set0 3 (.slice A8 (acc2.length+1) c8)
    have T5:=aI ((T4.fswap.flat (Flat.single (T4.fact (.head _)))).less (L':=_::_) fun P hP=>by
     rcases aL hP with rfl | hP
     ·exact .head _
     ·exact .tail _ (.tail _ hP))
    have hlt:=Sx.left_eats Sx.eats_field X5.out
    rw [HL.out] at hlt
    clear T T2 T3 T4 q3b
    go_wp2_with fail
    go_roundg (Sx.left st3)
    case measure=>exact hlt
    case rel=>exact ⟨st3,acc2++[a],_,_,_,by rw [aK];exact T5.out,rfl,by rw [aK,List.length_singleton];omega,fun x st' hx=>HX.out _ _ (Sx.nx_many_step Sx.eats_field HBB.out X5.out hx)⟩
end
theorem rIsPick_any (f:Fld) (us:List Value) (w:World) (h:Mem.rep [] w f us) (hmn:(Sc.wts f).length<=1000000):Calls Tryz.prog 165 #[.agg us.toArray] w (BoolP (Sx.pickB (Sc.words f) (Sc.wts f)) w):=by
 obtain ⟨nm,of_,up,kd,lo,hi,ws,ns⟩:=f
 obtain ⟨A,c,B,d,rfl,s1,s2,a4,a5,a6,a1,a2,a3,b1,b2,e1,e2⟩:=rep_fld h
 have hmn:ns.length<=1000000:=hmn
 have hmw:ws.length<=9223372036854775807:=by have:ws.length<=c:=b1;omega
 show Calls Tryz.prog 165 #[.agg #[.string nm,.string of_,.string up,.int .i64 kd,.int .i64 lo,.int .i64 hi,.slice A ws.length c,.slice B ns.length d]] w (BoolP (Sx.pickB ws ns) w)
 obtain ⟨W1,hW1,HB,hbk⟩:=aW w #[.string nm,.string of_,.string up,.int .i64 kd,.int .i64 lo,.int .i64 hi,.slice A ws.length c,.slice B ns.length d] 52
 have c6:=hbk.cell 6;have c7:=hbk.cell 7
 simp at c6 c7
 have HW1:=aI hW1
 have HW:=aI rWithin_any
 obtain ⟨nw,hnw⟩:=aX ws.length
 obtain ⟨nn,hnn⟩:=aX ns.length
 have HNN:=aI hnn
 have HNW:=aI hnw
 have HS:=aI (SlAt.keep (show SlAt [] w B ns from s2) (Chg.of_below HB.out))
 have CA:=aI (rNames_any ws A c W1 (SlAt.keep (show SlAt [] w A ws from s1) (Chg.of_below HB.out)) hmw)
 rw [hnw] at CA c6 HW1
 rw [hnn] at c7 HW1 hmn
 rw [hnw,hnn]
 clear h s1 s2 a1 a2 a3 a4 a5 a6 b1 b2 e1 e2 hbk hW1 hnn hnw hmw
 obtain ⟨N,hN⟩:=aX w.heap.size
 go_enter Tryz.func165,Tryz.ntmps165
 go_upto_region 1 with fail
 rw [HW1.out]
 rw [hN] at c6 c7
 try rw [hN]
 go_wp2_with fail
 go_loopg [3,4] nn (fun r s i wr=>∃ k:Nat,k+r=nn/\i=.int .i64 k/\s=.int .i64 ((ns.take k).sum)/\0<=(ns.take k).sum/\(ns.take k).sum<=1048576*k/\wr=W1/\∀ j (hj:j < ns.length),j < k->Sx.within ns[j] 0 Sx.most=true)
 case atStart=>exact ⟨0,by omega,rfl,rfl,by simp,by simp,rfl,fun _ _ h=>by omega⟩
 case round =>
  obtain ⟨k,hk,rfl,rfl,hs0,hs1,rfl,hall⟩:=hrel
  have HA:=aI hall
  clear hall
  obtain ⟨sm,hsm⟩:=aX ((ns.take k).sum)
  rw [hsm] at hs0 hs1 ⊢
  by_cases hlt:k < nn
  ·have hkp:k < ns.length:=by rw [HNN.out];exact hlt
   have k0:(0:Int)<=(k:Int):=aa _
   have k1:(k:Int) < (nn:Int):=by omega
   obtain ⟨b,o,rfl,_,q0,hin⟩:=int_at HS.out k hkp
   have HSM:=aI (sum_take ns k hkp)
   have cv:=HW.out ns[k] 0 1048576
   obtain ⟨bb,hbb⟩:=aX (Sx.within ns[k] 0 1048576)
   rw [hbb] at cv
   have CV:=aI cv
   have HBB:=aI hbb
   have HSE:=aI hsm
   obtain ⟨x,hx⟩:=aX (ns[k])
   rw [hx] at q0 CV HSM hin
   have HX:=aI hx
   clear cv hbb hsm hx
   cases bb
   ·have HR:=aI (show ns.all (fun n=>Sx.within n 0 Sx.most)=false from all_bad hkp HBB.out)
    go_wp2_with (go_at_call 95;(with_reducible refine aS (CV.out _) ?_))
    go_ret
    exact ⟨by unfold Sx.pickB;rw [HR.out];rfl,HB.out⟩
   ·have hbd:=within_bd HBB.out
    rw [HX.out] at hbd
    go_wp2_with (go_at_call 95;(with_reducible refine aS (CV.out _) ?_))
    go_roundg (gk - 1)
    case measure=>omega
    case rel =>
     refine ⟨k+1,by omega,by go_num,?_,?_,?_,rfl,fun q hq hlt=>?_⟩
     ·rw [HSM.out,HSE.out]
     ·rw [HSM.out,HSE.out];omega
     ·rw [HSM.out,HSE.out];omega
     ·rcases aj q k with h' | h'
      ·exact HA.out q hq h'
      ·obtain rfl:q=k:=by omega
       exact HBB.out
  ·have k1:¬ (k:Int) < (nn:Int):=by omega
   have hR:=all_good (b:=fun n=>Sx.within n 0 Sx.most) (l:=ns) fun q hq=>HA.out q hq (by rw [HNN.out] at hq;omega)
   have hsum:ns.sum=sm:=by rw [<-hsm,List.take_of_length_le (by rw [HNN.out];omega)]
   have hp:Sx.pickB ws ns=(Sx.within (nw:Int) 1 12 && (decide (nw=nn) && (decide (0 < sm) && ws.all Sx.nm))):=by
    unfold Sx.pickB
    rw [hR,hsum,HNN.out,HNW.out];rfl
   have cw:=HW.out (nw:Int) 1 12
   have ca:=CA.out
   obtain ⟨b1,h1⟩:=aX (Sx.within (nw:Int) 1 12)
   obtain ⟨b2,h2⟩:∃ b,decide (nw=nn)=b:=⟨_,rfl⟩
   obtain ⟨b3,h3⟩:=aX (decide (0 < sm))
   obtain ⟨b4,h4⟩:=aX (ws.all Sx.nm)
   rw [h1] at cw
   rw [h4] at ca
   rw [h1,h2,h3,h4] at hp
   have HPK:=aI hp
   have h2':((nw:Int) == (nn:Int))=b2:=by
    by_cases h:nw=nn
    ·rw [<-h2,h];simp
    ·rw [<-h2,ad h];exact beq_eq_false_iff_ne.2 (by omega)
   have CW:=aI cw
   have CS:=aI ca
   clear cw ca hp hsum hR hsm h1 h4 hs0 hs1
   cases b1 <;> cases b2 <;> cases b3 <;> (go_wp2_with (first | (go_at_call 95;(with_reducible refine aS (CW.out _) ?_)) | (go_at_call 131;(with_reducible refine aS (CS.out) ?_)));go_ret;exact ⟨by rw [HPK.out];cases b4 <;> rfl,HB.out⟩)
theorem noW_pos {a b:Nat} (h:(decide (a=0) && decide (b=0))=false):(0:Int) < (a:Int)+(b:Int):=by
 have h9:¬ (a=0/\b=0):=fun ⟨h1,h2⟩=>by subst h1 h2;exact absurd h (by simp)
 omega
theorem noW_zero {a b:Nat} (h:(decide (a=0) && decide (b=0))=true):a=0/\b=0:=by simpa using h
theorem rIsField_0 (nm of_ up:ByteArray) (lo hi:Int) (ws:List ByteArray) (ns:List Int) (us:List Value) (w:World) (h:Mem.rep [] w ((nm,of_,up,0,lo,hi,ws,ns):Fld) us) (hww:ws.length<=1000000) (hws:ns.length<=1000000):Calls Tryz.prog 130 #[.agg us.toArray] w (BoolP (Sx.fldB ((nm,of_,up,0,lo,hi,ws,ns):Fld)) w):=by
 have h0:=h
 obtain ⟨A,c,B,d,rfl,s1,s2,a4,a5,a6,a1,a2,a3,b1,b2,e1,e2⟩:=rep_f8 h
 have CU:=aI (fun w=>show Calls Tryz.prog 69 #[.int .i64 0] w fun e w'=>e=.returned (.tuple #[.bool false,.bool false,.bool true,.bool false,.bool false])/\w=w' from uses_any 0 w)
 have CN:=aI (fun w=>rIsName_any nm w a1)
 obtain ⟨qn,hqn⟩:=aX (Sx.nm nm)
 rw [hqn] at CN
 obtain ⟨qo,hqo⟩:=aX (Sx.em of_)
 obtain ⟨yqo1,yqo2,yqo3⟩:=em_spell of_
 rw [hqo] at yqo1 yqo2 yqo3
 obtain ⟨qu,hqu⟩:=aX (Sx.em up)
 obtain ⟨yqu1,yqu2,yqu3⟩:=em_spell up
 rw [hqu] at yqu1 yqu2 yqu3
 obtain ⟨qh,hqh⟩:∃ b,decide (hi=0)=b:=⟨_,rfl⟩
 obtain ⟨qw,hqw⟩:=aX (Sx.noW ((nm,of_,up,0,lo,hi,ws,ns):Fld))
 have C1:=aI (rWithin_any lo (-1048576) 1048576)
 obtain ⟨q1,hq1⟩:=aX (Sx.within lo (-1048576) 1048576)
 rw [hq1] at C1
 have HF:=aI (show Sx.fldB ((nm,of_,up,0,lo,hi,ws,ns):Fld)=(qn && (qo && (qu && (qh && (qw && q1))))) by rw [<-hq1,<-hqh,<-hqn,<-hqo,<-hqu,<-hqw];rfl)
 obtain ⟨W1,hW1,HB,hbk⟩:=aW w #[.string nm,.string of_,.string up,.int .i64 0,.int .i64 lo,.int .i64 hi,.slice A ws.length c,.slice B ns.length d] 52
 obtain ⟨c0,c1,c2,c3,c4,c5,c6,c7⟩:=aN8 hbk.cell
 simp at c0 c1 c2 c3 c4 c5 c6 c7
 have HW1:=aI hW1
 show Calls Tryz.prog 130 #[.agg #[.string nm,.string of_,.string up,.int .i64 0,.int .i64 lo,.int .i64 hi,.slice A ws.length c,.slice B ns.length d]] w _
 have HQW:=aI (show (decide (ws.length=0) && decide (ns.length=0))=qw from hqw)
 clear h h0 s1 s2 a1 a2 a3 a4 a5 a6 b1 b2 e1 e2 hbk hW1 hq1 hqn hqo hqu hqw
 generalize Sx.fldB ((nm,of_,up,0,lo,hi,ws,ns):Fld)=fb at *
 obtain ⟨wl,hwl⟩:=aX ws.length
 obtain ⟨nl,hnl⟩:=aX ns.length
 rw [hwl] at c6 hww HW1
 rw [hnl] at c7 hws HW1
 rw [hwl,hnl] at HQW
 rw [hwl,hnl]
 clear hwl hnl
 obtain ⟨N,hN⟩:=aX w.heap.size
 go_enter Tryz.func130,Tryz.ntmps130
 go_upto_region 1 with fail
 rw [HW1.out]
 rw [hN] at c0 c1 c2 c3 c4 c5 c6 c7
 (try rw [hN])
 cases qn
 rotate_left
 cases qo
 rotate_left
 cases qu
 rotate_left
 cases qh
 have zqh:(hi == 0)=false:=beq_eq_false_iff_ne.2 (of_decide_eq_false hqh)
 have yqh:¬ hi=0:=of_decide_eq_false hqh
 clear hqh
 rotate_left
 obtain rfl:hi=0:=of_decide_eq_true hqh
 clear hqh
 cases qw
 have z1:=noW_pos HQW.out
 rotate_left
 obtain ⟨rfl,rfl⟩:=noW_zero HQW.out
 all_goals (go_wp2_with (first | (go_at_call 69;(with_reducible refine aS (CU.out _) ?_)) | (go_at_call 128;(with_reducible refine aS (CN.out _) ?_)) | (go_at_call 95;(with_reducible refine aS (C1.out _) ?_)));go_ret;exact ⟨by rw [HF.out];first | rfl | simp,HB.out⟩)
theorem rIsField_1 (nm of_ up:ByteArray) (lo hi:Int) (ws:List ByteArray) (ns:List Int) (us:List Value) (w:World) (h:Mem.rep [] w ((nm,of_,up,1,lo,hi,ws,ns):Fld) us) (hww:ws.length<=1000000) (hws:ns.length<=1000000):Calls Tryz.prog 130 #[.agg us.toArray] w (BoolP (Sx.fldB ((nm,of_,up,1,lo,hi,ws,ns):Fld)) w):=by
 have h0:=h
 obtain ⟨A,c,B,d,rfl,s1,s2,a4,a5,a6,a1,a2,a3,b1,b2,e1,e2⟩:=rep_f8 h
 have CU:=aI (fun w=>show Calls Tryz.prog 69 #[.int .i64 1] w fun e w'=>e=.returned (.tuple #[.bool true,.bool false,.bool true,.bool true,.bool false])/\w=w' from uses_any 1 w)
 have CN:=aI (fun w=>rIsName_any nm w a1)
 obtain ⟨qn,hqn⟩:=aX (Sx.nm nm)
 rw [hqn] at CN
 obtain ⟨qu,hqu⟩:=aX (Sx.em up)
 obtain ⟨yqu1,yqu2,yqu3⟩:=em_spell up
 rw [hqu] at yqu1 yqu2 yqu3
 obtain ⟨qw,hqw⟩:=aX (Sx.noW ((nm,of_,up,1,lo,hi,ws,ns):Fld))
 have CO:=aI (fun w=>rIsName_any of_ w a2)
 obtain ⟨qf,hqf⟩:=aX (Sx.nm of_)
 rw [hqf] at CO
 have C1:=aI (rSpan_any lo hi 0 65536)
 obtain ⟨q1,hq1⟩:=aX (Sx.span lo hi 0 65536)
 rw [hq1] at C1
 have HF:=aI (show Sx.fldB ((nm,of_,up,1,lo,hi,ws,ns):Fld)=(qn && (qu && (qw && (qf && q1)))) by rw [<-hq1,<-hqf,<-hqn,<-hqu,<-hqw];rfl)
 obtain ⟨W1,hW1,HB,hbk⟩:=aW w #[.string nm,.string of_,.string up,.int .i64 1,.int .i64 lo,.int .i64 hi,.slice A ws.length c,.slice B ns.length d] 52
 obtain ⟨c0,c1,c2,c3,c4,c5,c6,c7⟩:=aN8 hbk.cell
 simp at c0 c1 c2 c3 c4 c5 c6 c7
 have HW1:=aI hW1
 show Calls Tryz.prog 130 #[.agg #[.string nm,.string of_,.string up,.int .i64 1,.int .i64 lo,.int .i64 hi,.slice A ws.length c,.slice B ns.length d]] w _
 have HQW:=aI (show (decide (ws.length=0) && decide (ns.length=0))=qw from hqw)
 clear h h0 s1 s2 a1 a2 a3 a4 a5 a6 b1 b2 e1 e2 hbk hW1 hq1 hqf hqn hqu hqw
 generalize Sx.fldB ((nm,of_,up,1,lo,hi,ws,ns):Fld)=fb at *
 obtain ⟨wl,hwl⟩:=aX ws.length
 obtain ⟨nl,hnl⟩:=aX ns.length
 rw [hwl] at c6 hww HW1
 rw [hnl] at c7 hws HW1
 rw [hwl,hnl] at HQW
 rw [hwl,hnl]
 clear hwl hnl
 obtain ⟨N,hN⟩:=aX w.heap.size
 go_enter Tryz.func130,Tryz.ntmps130
 go_upto_region 1 with fail
 rw [HW1.out]
 rw [hN] at c0 c1 c2 c3 c4 c5 c6 c7
 (try rw [hN])
 cases qn
 rotate_left
 cases qu
 rotate_left
 cases qw
 have z1:=noW_pos HQW.out
 rotate_left
 obtain ⟨rfl,rfl⟩:=noW_zero HQW.out
 cases qf
 rotate_left
 all_goals (go_wp2_with (first | (go_at_call 69;(with_reducible refine aS (CU.out _) ?_)) | (go_at_call 128;(with_reducible refine aS (CN.out _) ?_)) | (go_at_call 128;(with_reducible refine aS (CO.out _) ?_)) | (go_at_call 129;(with_reducible refine aS (C1.out _) ?_)));go_ret;exact ⟨by rw [HF.out];first | rfl | simp,HB.out⟩)
theorem rIsField_2 (nm of_ up:ByteArray) (lo hi:Int) (ws:List ByteArray) (ns:List Int) (us:List Value) (w:World) (h:Mem.rep [] w ((nm,of_,up,2,lo,hi,ws,ns):Fld) us) (hww:ws.length<=1000000) (hws:ns.length<=1000000):Calls Tryz.prog 130 #[.agg us.toArray] w (BoolP (Sx.fldB ((nm,of_,up,2,lo,hi,ws,ns):Fld)) w):=by
 have h0:=h
 obtain ⟨A,c,B,d,rfl,s1,s2,a4,a5,a6,a1,a2,a3,b1,b2,e1,e2⟩:=rep_f8 h
 have CU:=aI (fun w=>show Calls Tryz.prog 69 #[.int .i64 2] w fun e w'=>e=.returned (.tuple #[.bool false,.bool false,.bool true,.bool true,.bool false])/\w=w' from uses_any 2 w)
 have CN:=aI (fun w=>rIsName_any nm w a1)
 obtain ⟨qn,hqn⟩:=aX (Sx.nm nm)
 rw [hqn] at CN
 obtain ⟨qo,hqo⟩:=aX (Sx.em of_)
 obtain ⟨yqo1,yqo2,yqo3⟩:=em_spell of_
 rw [hqo] at yqo1 yqo2 yqo3
 obtain ⟨qu,hqu⟩:=aX (Sx.em up)
 obtain ⟨yqu1,yqu2,yqu3⟩:=em_spell up
 rw [hqu] at yqu1 yqu2 yqu3
 obtain ⟨qw,hqw⟩:=aX (Sx.noW ((nm,of_,up,2,lo,hi,ws,ns):Fld))
 have C1:=aI (rSpan_any lo hi (-1048576) 1048576)
 obtain ⟨q1,hq1⟩:=aX (Sx.span lo hi (-1048576) 1048576)
 rw [hq1] at C1
 have HF:=aI (show Sx.fldB ((nm,of_,up,2,lo,hi,ws,ns):Fld)=(qn && (qo && (qu && (qw && q1)))) by rw [<-hq1,<-hqn,<-hqo,<-hqu,<-hqw];rfl)
 obtain ⟨W1,hW1,HB,hbk⟩:=aW w #[.string nm,.string of_,.string up,.int .i64 2,.int .i64 lo,.int .i64 hi,.slice A ws.length c,.slice B ns.length d] 52
 obtain ⟨c0,c1,c2,c3,c4,c5,c6,c7⟩:=aN8 hbk.cell
 simp at c0 c1 c2 c3 c4 c5 c6 c7
 have HW1:=aI hW1
 show Calls Tryz.prog 130 #[.agg #[.string nm,.string of_,.string up,.int .i64 2,.int .i64 lo,.int .i64 hi,.slice A ws.length c,.slice B ns.length d]] w _
 have HQW:=aI (show (decide (ws.length=0) && decide (ns.length=0))=qw from hqw)
 clear h h0 s1 s2 a1 a2 a3 a4 a5 a6 b1 b2 e1 e2 hbk hW1 hq1 hqn hqo hqu hqw
 generalize Sx.fldB ((nm,of_,up,2,lo,hi,ws,ns):Fld)=fb at *
 obtain ⟨wl,hwl⟩:=aX ws.length
 obtain ⟨nl,hnl⟩:=aX ns.length
 rw [hwl] at c6 hww HW1
 rw [hnl] at c7 hws HW1
 rw [hwl,hnl] at HQW
 rw [hwl,hnl]
 clear hwl hnl
 obtain ⟨N,hN⟩:=aX w.heap.size
 go_enter Tryz.func130,Tryz.ntmps130
 go_upto_region 1 with fail
 rw [HW1.out]
 rw [hN] at c0 c1 c2 c3 c4 c5 c6 c7
 (try rw [hN])
 cases qn
 rotate_left
 cases qo
 rotate_left
 cases qu
 rotate_left
 cases qw
 have z1:=noW_pos HQW.out
 rotate_left
 obtain ⟨rfl,rfl⟩:=noW_zero HQW.out
 all_goals (go_wp2_with (first | (go_at_call 69;(with_reducible refine aS (CU.out _) ?_)) | (go_at_call 128;(with_reducible refine aS (CN.out _) ?_)) | (go_at_call 129;(with_reducible refine aS (C1.out _) ?_)));go_ret;exact ⟨by rw [HF.out];first | rfl | simp,HB.out⟩)
theorem rIsField_3 (nm of_ up:ByteArray) (lo hi:Int) (ws:List ByteArray) (ns:List Int) (us:List Value) (w:World) (h:Mem.rep [] w ((nm,of_,up,3,lo,hi,ws,ns):Fld) us) (hww:ws.length<=1000000) (hws:ns.length<=1000000):Calls Tryz.prog 130 #[.agg us.toArray] w (BoolP (Sx.fldB ((nm,of_,up,3,lo,hi,ws,ns):Fld)) w):=by
 have h0:=h
 obtain ⟨A,c,B,d,rfl,s1,s2,a4,a5,a6,a1,a2,a3,b1,b2,e1,e2⟩:=rep_f8 h
 have CU:=aI (fun w=>show Calls Tryz.prog 69 #[.int .i64 3] w fun e w'=>e=.returned (.tuple #[.bool false,.bool false,.bool false,.bool false,.bool true])/\w=w' from uses_any 3 w)
 have CN:=aI (fun w=>rIsName_any nm w a1)
 obtain ⟨qn,hqn⟩:=aX (Sx.nm nm)
 rw [hqn] at CN
 obtain ⟨qo,hqo⟩:=aX (Sx.em of_)
 obtain ⟨yqo1,yqo2,yqo3⟩:=em_spell of_
 rw [hqo] at yqo1 yqo2 yqo3
 obtain ⟨qu,hqu⟩:=aX (Sx.em up)
 obtain ⟨yqu1,yqu2,yqu3⟩:=em_spell up
 rw [hqu] at yqu1 yqu2 yqu3
 obtain ⟨ql,hql⟩:∃ b,decide (lo=0)=b:=⟨_,rfl⟩
 obtain ⟨qh,hqh⟩:∃ b,decide (hi=0)=b:=⟨_,rfl⟩
 have C1:=aI (fun (W':World) (hb:Below w.heap.size w W')=>show Calls Tryz.prog 165 #[.agg #[.string nm,.string of_,.string up,.int .i64 3,.int .i64 lo,.int .i64 hi,.slice A ws.length c,.slice B ns.length d]] W' (BoolP (Sx.pickB (Sc.words ((nm,of_,up,3,lo,hi,ws,ns):Fld)) (Sc.wts ((nm,of_,up,3,lo,hi,ws,ns):Fld))) W') from rIsPick_any ((nm,of_,up,3,lo,hi,ws,ns):Fld) _ W' (Mem.keep h0 (Chg.of_below hb)) hws)
 obtain ⟨q1,hq1⟩:=aX (Sx.pickB (Sc.words ((nm,of_,up,3,lo,hi,ws,ns):Fld)) (Sc.wts ((nm,of_,up,3,lo,hi,ws,ns):Fld)))
 rw [hq1] at C1
 have HF:=aI (show Sx.fldB ((nm,of_,up,3,lo,hi,ws,ns):Fld)=(qn && (qo && (qu && (ql && (qh && q1))))) by rw [<-hq1,<-hqh,<-hql,<-hqn,<-hqo,<-hqu];rfl)
 obtain ⟨W1,hW1,HB,hbk⟩:=aW w #[.string nm,.string of_,.string up,.int .i64 3,.int .i64 lo,.int .i64 hi,.slice A ws.length c,.slice B ns.length d] 52
 obtain ⟨c0,c1,c2,c3,c4,c5,c6,c7⟩:=aN8 hbk.cell
 simp at c0 c1 c2 c3 c4 c5 c6 c7
 have HW1:=aI hW1
 show Calls Tryz.prog 130 #[.agg #[.string nm,.string of_,.string up,.int .i64 3,.int .i64 lo,.int .i64 hi,.slice A ws.length c,.slice B ns.length d]] w _
 clear h h0 s1 s2 a1 a2 a3 a4 a5 a6 b1 b2 e1 e2 hbk hW1 hq1 hqn hqo hqu
 generalize Sx.fldB ((nm,of_,up,3,lo,hi,ws,ns):Fld)=fb at *
 obtain ⟨wl,hwl⟩:=aX ws.length
 obtain ⟨nl,hnl⟩:=aX ns.length
 rw [hwl] at c6 hww HW1
 rw [hnl] at c7 hws HW1
 rw [hwl,hnl] at C1
 rw [hwl,hnl]
 clear hwl hnl
 obtain ⟨N,hN⟩:=aX w.heap.size
 go_enter Tryz.func130,Tryz.ntmps130
 go_upto_region 1 with fail
 rw [HW1.out]
 rw [hN] at c0 c1 c2 c3 c4 c5 c6 c7
 (try rw [hN])
 cases qn
 rotate_left
 cases qo
 rotate_left
 cases qu
 rotate_left
 cases ql
 have zql:(lo == 0)=false:=beq_eq_false_iff_ne.2 (of_decide_eq_false hql)
 have yql:¬ lo=0:=of_decide_eq_false hql
 clear hql
 rotate_left
 obtain rfl:lo=0:=of_decide_eq_true hql
 clear hql
 cases qh
 have zqh:(hi == 0)=false:=beq_eq_false_iff_ne.2 (of_decide_eq_false hqh)
 have yqh:¬ hi=0:=of_decide_eq_false hqh
 clear hqh
 rotate_left
 obtain rfl:hi=0:=of_decide_eq_true hqh
 clear hqh
 all_goals (go_wp2_with (first | (go_at_call 69;(with_reducible refine aS (CU.out _) ?_)) | (go_at_call 128;(with_reducible refine aS (CN.out _) ?_)) | (go_at_call 165;(with_reducible refine (C1.out _ HB.out).mono ?_);rintro e w2 ⟨rfl,hb2⟩;replace HB:=aT HB hb2;clear hb2));go_ret;exact ⟨by rw [HF.out];first | rfl | simp,HB.out⟩)
theorem rIsField_4 (nm of_ up:ByteArray) (lo hi:Int) (ws:List ByteArray) (ns:List Int) (us:List Value) (w:World) (h:Mem.rep [] w ((nm,of_,up,4,lo,hi,ws,ns):Fld) us) (hww:ws.length<=1000000) (hws:ns.length<=1000000):Calls Tryz.prog 130 #[.agg us.toArray] w (BoolP (Sx.fldB ((nm,of_,up,4,lo,hi,ws,ns):Fld)) w):=by
 have h0:=h
 obtain ⟨A,c,B,d,rfl,s1,s2,a4,a5,a6,a1,a2,a3,b1,b2,e1,e2⟩:=rep_f8 h
 have CU:=aI (fun w=>show Calls Tryz.prog 69 #[.int .i64 4] w fun e w'=>e=.returned (.tuple #[.bool true,.bool false,.bool true,.bool true,.bool false])/\w=w' from uses_any 4 w)
 have CN:=aI (fun w=>rIsName_any nm w a1)
 obtain ⟨qn,hqn⟩:=aX (Sx.nm nm)
 rw [hqn] at CN
 obtain ⟨qu,hqu⟩:=aX (Sx.em up)
 obtain ⟨yqu1,yqu2,yqu3⟩:=em_spell up
 rw [hqu] at yqu1 yqu2 yqu3
 obtain ⟨qw,hqw⟩:=aX (Sx.noW ((nm,of_,up,4,lo,hi,ws,ns):Fld))
 have CO:=aI (fun w=>rIsName_any of_ w a2)
 obtain ⟨qf,hqf⟩:=aX (Sx.nm of_)
 rw [hqf] at CO
 obtain ⟨qe,hqe⟩:=aX (Sx.em of_)
 obtain ⟨yqe1,yqe2,yqe3⟩:=em_spell of_
 rw [hqe] at yqe1 yqe2 yqe3
 have C1:=aI (rSpan_any lo hi (-1048576) 1048576)
 obtain ⟨q1,hq1⟩:=aX (Sx.span lo hi (-1048576) 1048576)
 rw [hq1] at C1
 have HF:=aI (show Sx.fldB ((nm,of_,up,4,lo,hi,ws,ns):Fld)=(qn && (qu && (qw && ((qe || qf) && q1)))) by rw [<-hq1,<-hqe,<-hqf,<-hqn,<-hqu,<-hqw];rfl)
 obtain ⟨W1,hW1,HB,hbk⟩:=aW w #[.string nm,.string of_,.string up,.int .i64 4,.int .i64 lo,.int .i64 hi,.slice A ws.length c,.slice B ns.length d] 52
 obtain ⟨c0,c1,c2,c3,c4,c5,c6,c7⟩:=aN8 hbk.cell
 simp at c0 c1 c2 c3 c4 c5 c6 c7
 have HW1:=aI hW1
 show Calls Tryz.prog 130 #[.agg #[.string nm,.string of_,.string up,.int .i64 4,.int .i64 lo,.int .i64 hi,.slice A ws.length c,.slice B ns.length d]] w _
 have HQW:=aI (show (decide (ws.length=0) && decide (ns.length=0))=qw from hqw)
 clear h h0 s1 s2 a1 a2 a3 a4 a5 a6 b1 b2 e1 e2 hbk hW1 hq1 hqe hqf hqn hqu hqw
 generalize Sx.fldB ((nm,of_,up,4,lo,hi,ws,ns):Fld)=fb at *
 obtain ⟨wl,hwl⟩:=aX ws.length
 obtain ⟨nl,hnl⟩:=aX ns.length
 rw [hwl] at c6 hww HW1
 rw [hnl] at c7 hws HW1
 rw [hwl,hnl] at HQW
 rw [hwl,hnl]
 clear hwl hnl
 obtain ⟨N,hN⟩:=aX w.heap.size
 go_enter Tryz.func130,Tryz.ntmps130
 go_upto_region 1 with fail
 rw [HW1.out]
 rw [hN] at c0 c1 c2 c3 c4 c5 c6 c7
 (try rw [hN])
 cases qn
 rotate_left
 cases qu
 rotate_left
 cases qw
 have z1:=noW_pos HQW.out
 rotate_left
 obtain ⟨rfl,rfl⟩:=noW_zero HQW.out
 cases qf
 cases qe
 rotate_left
 all_goals (go_wp2_with (first | (go_at_call 69;(with_reducible refine aS (CU.out _) ?_)) | (go_at_call 128;(with_reducible refine aS (CN.out _) ?_)) | (go_at_call 128;(with_reducible refine aS (CO.out _) ?_)) | (go_at_call 129;(with_reducible refine aS (C1.out _) ?_)));go_ret;exact ⟨by rw [HF.out];first | rfl | simp,HB.out⟩)
theorem rIsField_5 (nm of_ up:ByteArray) (lo hi:Int) (ws:List ByteArray) (ns:List Int) (us:List Value) (w:World) (h:Mem.rep [] w ((nm,of_,up,5,lo,hi,ws,ns):Fld) us) (hww:ws.length<=1000000) (hws:ns.length<=1000000):Calls Tryz.prog 130 #[.agg us.toArray] w (BoolP (Sx.fldB ((nm,of_,up,5,lo,hi,ws,ns):Fld)) w):=by
 have h0:=h
 obtain ⟨A,c,B,d,rfl,s1,s2,a4,a5,a6,a1,a2,a3,b1,b2,e1,e2⟩:=rep_f8 h
 have CU:=aI (fun w=>show Calls Tryz.prog 69 #[.int .i64 5] w fun e w'=>e=.returned (.tuple #[.bool true,.bool false,.bool true,.bool true,.bool false])/\w=w' from uses_any 5 w)
 have CN:=aI (fun w=>rIsName_any nm w a1)
 obtain ⟨qn,hqn⟩:=aX (Sx.nm nm)
 rw [hqn] at CN
 obtain ⟨qu,hqu⟩:=aX (Sx.em up)
 obtain ⟨yqu1,yqu2,yqu3⟩:=em_spell up
 rw [hqu] at yqu1 yqu2 yqu3
 obtain ⟨qw,hqw⟩:=aX (Sx.noW ((nm,of_,up,5,lo,hi,ws,ns):Fld))
 have CO:=aI (fun w=>rIsName_any of_ w a2)
 obtain ⟨qf,hqf⟩:=aX (Sx.nm of_)
 rw [hqf] at CO
 have C1:=aI (rSpan_any lo hi 0 32)
 obtain ⟨q1,hq1⟩:=aX (Sx.span lo hi 0 32)
 rw [hq1] at C1
 have HF:=aI (show Sx.fldB ((nm,of_,up,5,lo,hi,ws,ns):Fld)=(qn && (qu && (qw && (qf && q1)))) by rw [<-hq1,<-hqf,<-hqn,<-hqu,<-hqw];rfl)
 obtain ⟨W1,hW1,HB,hbk⟩:=aW w #[.string nm,.string of_,.string up,.int .i64 5,.int .i64 lo,.int .i64 hi,.slice A ws.length c,.slice B ns.length d] 52
 obtain ⟨c0,c1,c2,c3,c4,c5,c6,c7⟩:=aN8 hbk.cell
 simp at c0 c1 c2 c3 c4 c5 c6 c7
 have HW1:=aI hW1
 show Calls Tryz.prog 130 #[.agg #[.string nm,.string of_,.string up,.int .i64 5,.int .i64 lo,.int .i64 hi,.slice A ws.length c,.slice B ns.length d]] w _
 have HQW:=aI (show (decide (ws.length=0) && decide (ns.length=0))=qw from hqw)
 clear h h0 s1 s2 a1 a2 a3 a4 a5 a6 b1 b2 e1 e2 hbk hW1 hq1 hqf hqn hqu hqw
 generalize Sx.fldB ((nm,of_,up,5,lo,hi,ws,ns):Fld)=fb at *
 obtain ⟨wl,hwl⟩:=aX ws.length
 obtain ⟨nl,hnl⟩:=aX ns.length
 rw [hwl] at c6 hww HW1
 rw [hnl] at c7 hws HW1
 rw [hwl,hnl] at HQW
 rw [hwl,hnl]
 clear hwl hnl
 obtain ⟨N,hN⟩:=aX w.heap.size
 go_enter Tryz.func130,Tryz.ntmps130
 go_upto_region 1 with fail
 rw [HW1.out]
 rw [hN] at c0 c1 c2 c3 c4 c5 c6 c7
 (try rw [hN])
 cases qn
 rotate_left
 cases qu
 rotate_left
 cases qw
 have z1:=noW_pos HQW.out
 rotate_left
 obtain ⟨rfl,rfl⟩:=noW_zero HQW.out
 cases qf
 rotate_left
 all_goals (go_wp2_with (first | (go_at_call 69;(with_reducible refine aS (CU.out _) ?_)) | (go_at_call 128;(with_reducible refine aS (CN.out _) ?_)) | (go_at_call 128;(with_reducible refine aS (CO.out _) ?_)) | (go_at_call 129;(with_reducible refine aS (C1.out _) ?_)));go_ret;exact ⟨by rw [HF.out];first | rfl | simp,HB.out⟩)
theorem rIsField_6 (nm of_ up:ByteArray) (lo hi:Int) (ws:List ByteArray) (ns:List Int) (us:List Value) (w:World) (h:Mem.rep [] w ((nm,of_,up,6,lo,hi,ws,ns):Fld) us) (hww:ws.length<=1000000) (hws:ns.length<=1000000):Calls Tryz.prog 130 #[.agg us.toArray] w (BoolP (Sx.fldB ((nm,of_,up,6,lo,hi,ws,ns):Fld)) w):=by
 have h0:=h
 obtain ⟨A,c,B,d,rfl,s1,s2,a4,a5,a6,a1,a2,a3,b1,b2,e1,e2⟩:=rep_f8 h
 have CU:=aI (fun w=>show Calls Tryz.prog 69 #[.int .i64 6] w fun e w'=>e=.returned (.tuple #[.bool true,.bool false,.bool false,.bool false,.bool false])/\w=w' from uses_any 6 w)
 have CN:=aI (fun w=>rIsName_any nm w a1)
 obtain ⟨qn,hqn⟩:=aX (Sx.nm nm)
 rw [hqn] at CN
 obtain ⟨qu,hqu⟩:=aX (Sx.em up)
 obtain ⟨yqu1,yqu2,yqu3⟩:=em_spell up
 rw [hqu] at yqu1 yqu2 yqu3
 obtain ⟨ql,hql⟩:∃ b,decide (lo=0)=b:=⟨_,rfl⟩
 obtain ⟨qh,hqh⟩:∃ b,decide (hi=0)=b:=⟨_,rfl⟩
 obtain ⟨qw,hqw⟩:=aX (Sx.noW ((nm,of_,up,6,lo,hi,ws,ns):Fld))
 have CO:=aI (fun w=>rIsName_any of_ w a2)
 obtain ⟨qf,hqf⟩:=aX (Sx.nm of_)
 rw [hqf] at CO
 have HF:=aI (show Sx.fldB ((nm,of_,up,6,lo,hi,ws,ns):Fld)=(qn && (qu && (qw && (ql && (qh && qf))))) by rw [<-hqf,<-hqh,<-hql,<-hqn,<-hqu,<-hqw];rfl)
 obtain ⟨W1,hW1,HB,hbk⟩:=aW w #[.string nm,.string of_,.string up,.int .i64 6,.int .i64 lo,.int .i64 hi,.slice A ws.length c,.slice B ns.length d] 52
 obtain ⟨c0,c1,c2,c3,c4,c5,c6,c7⟩:=aN8 hbk.cell
 simp at c0 c1 c2 c3 c4 c5 c6 c7
 have HW1:=aI hW1
 show Calls Tryz.prog 130 #[.agg #[.string nm,.string of_,.string up,.int .i64 6,.int .i64 lo,.int .i64 hi,.slice A ws.length c,.slice B ns.length d]] w _
 have HQW:=aI (show (decide (ws.length=0) && decide (ns.length=0))=qw from hqw)
 clear h h0 s1 s2 a1 a2 a3 a4 a5 a6 b1 b2 e1 e2 hbk hW1 hqf hqn hqu hqw
 generalize Sx.fldB ((nm,of_,up,6,lo,hi,ws,ns):Fld)=fb at *
 obtain ⟨wl,hwl⟩:=aX ws.length
 obtain ⟨nl,hnl⟩:=aX ns.length
 rw [hwl] at c6 hww HW1
 rw [hnl] at c7 hws HW1
 rw [hwl,hnl] at HQW
 rw [hwl,hnl]
 clear hwl hnl
 obtain ⟨N,hN⟩:=aX w.heap.size
 go_enter Tryz.func130,Tryz.ntmps130
 go_upto_region 1 with fail
 rw [HW1.out]
 rw [hN] at c0 c1 c2 c3 c4 c5 c6 c7
 (try rw [hN])
 cases qn
 rotate_left
 cases qu
 rotate_left
 cases ql
 have zql:(lo == 0)=false:=beq_eq_false_iff_ne.2 (of_decide_eq_false hql)
 have yql:¬ lo=0:=of_decide_eq_false hql
 clear hql
 rotate_left
 obtain rfl:lo=0:=of_decide_eq_true hql
 clear hql
 cases qh
 have zqh:(hi == 0)=false:=beq_eq_false_iff_ne.2 (of_decide_eq_false hqh)
 have yqh:¬ hi=0:=of_decide_eq_false hqh
 clear hqh
 rotate_left
 obtain rfl:hi=0:=of_decide_eq_true hqh
 clear hqh
 cases qw
 have z1:=noW_pos HQW.out
 rotate_left
 obtain ⟨rfl,rfl⟩:=noW_zero HQW.out
 cases qf
 rotate_left
 all_goals (go_wp2_with (first | (go_at_call 69;(with_reducible refine aS (CU.out _) ?_)) | (go_at_call 128;(with_reducible refine aS (CN.out _) ?_)) | (go_at_call 128;(with_reducible refine aS (CO.out _) ?_)));go_ret;exact ⟨by rw [HF.out];first | rfl | simp,HB.out⟩)
theorem rIsField_7 (nm of_ up:ByteArray) (lo hi:Int) (ws:List ByteArray) (ns:List Int) (us:List Value) (w:World) (h:Mem.rep [] w ((nm,of_,up,7,lo,hi,ws,ns):Fld) us) (hww:ws.length<=1000000) (hws:ns.length<=1000000):Calls Tryz.prog 130 #[.agg us.toArray] w (BoolP (Sx.fldB ((nm,of_,up,7,lo,hi,ws,ns):Fld)) w):=by
 have h0:=h
 obtain ⟨A,c,B,d,rfl,s1,s2,a4,a5,a6,a1,a2,a3,b1,b2,e1,e2⟩:=rep_f8 h
 have CU:=aI (fun w=>show Calls Tryz.prog 69 #[.int .i64 7] w fun e w'=>e=.returned (.tuple #[.bool true,.bool true,.bool true,.bool true,.bool false])/\w=w' from uses_any 7 w)
 have CN:=aI (fun w=>rIsName_any nm w a1)
 obtain ⟨qn,hqn⟩:=aX (Sx.nm nm)
 rw [hqn] at CN
 obtain ⟨qw,hqw⟩:=aX (Sx.noW ((nm,of_,up,7,lo,hi,ws,ns):Fld))
 have CO:=aI (fun w=>rIsName_any of_ w a2)
 obtain ⟨qf,hqf⟩:=aX (Sx.nm of_)
 rw [hqf] at CO
 have CP:=aI (fun w=>rIsName_any up w a3)
 obtain ⟨qp,hqp⟩:=aX (Sx.nm up)
 rw [hqp] at CP
 have C1:=aI (rSpan_any lo hi 0 1048576)
 obtain ⟨q1,hq1⟩:=aX (Sx.span lo hi 0 1048576)
 rw [hq1] at C1
 have HF:=aI (show Sx.fldB ((nm,of_,up,7,lo,hi,ws,ns):Fld)=(qn && (qw && (qf && (qp && q1)))) by rw [<-hq1,<-hqf,<-hqn,<-hqp,<-hqw];rfl)
 obtain ⟨W1,hW1,HB,hbk⟩:=aW w #[.string nm,.string of_,.string up,.int .i64 7,.int .i64 lo,.int .i64 hi,.slice A ws.length c,.slice B ns.length d] 52
 obtain ⟨c0,c1,c2,c3,c4,c5,c6,c7⟩:=aN8 hbk.cell
 simp at c0 c1 c2 c3 c4 c5 c6 c7
 have HW1:=aI hW1
 show Calls Tryz.prog 130 #[.agg #[.string nm,.string of_,.string up,.int .i64 7,.int .i64 lo,.int .i64 hi,.slice A ws.length c,.slice B ns.length d]] w _
 have HQW:=aI (show (decide (ws.length=0) && decide (ns.length=0))=qw from hqw)
 clear h h0 s1 s2 a1 a2 a3 a4 a5 a6 b1 b2 e1 e2 hbk hW1 hq1 hqf hqn hqp hqw
 generalize Sx.fldB ((nm,of_,up,7,lo,hi,ws,ns):Fld)=fb at *
 obtain ⟨wl,hwl⟩:=aX ws.length
 obtain ⟨nl,hnl⟩:=aX ns.length
 rw [hwl] at c6 hww HW1
 rw [hnl] at c7 hws HW1
 rw [hwl,hnl] at HQW
 rw [hwl,hnl]
 clear hwl hnl
 obtain ⟨N,hN⟩:=aX w.heap.size
 go_enter Tryz.func130,Tryz.ntmps130
 go_upto_region 1 with fail
 rw [HW1.out]
 rw [hN] at c0 c1 c2 c3 c4 c5 c6 c7
 (try rw [hN])
 cases qn
 rotate_left
 cases qw
 have z1:=noW_pos HQW.out
 rotate_left
 obtain ⟨rfl,rfl⟩:=noW_zero HQW.out
 cases qf
 rotate_left
 cases qp
 rotate_left
 all_goals (go_wp2_with (first | (go_at_call 69;(with_reducible refine aS (CU.out _) ?_)) | (go_at_call 128;(with_reducible refine aS (CN.out _) ?_)) | (go_at_call 128;(with_reducible refine aS (CO.out _) ?_)) | (go_at_call 128;(with_reducible refine aS (CP.out _) ?_)) | (go_at_call 129;(with_reducible refine aS (C1.out _) ?_)));go_ret;exact ⟨by rw [HF.out];first | rfl | simp,HB.out⟩)
theorem rIsField_8 (nm of_ up:ByteArray) (lo hi:Int) (ws:List ByteArray) (ns:List Int) (us:List Value) (w:World) (h:Mem.rep [] w ((nm,of_,up,8,lo,hi,ws,ns):Fld) us) (hww:ws.length<=1000000) (hws:ns.length<=1000000):Calls Tryz.prog 130 #[.agg us.toArray] w (BoolP (Sx.fldB ((nm,of_,up,8,lo,hi,ws,ns):Fld)) w):=by
 have h0:=h
 obtain ⟨A,c,B,d,rfl,s1,s2,a4,a5,a6,a1,a2,a3,b1,b2,e1,e2⟩:=rep_f8 h
 have CU:=aI (fun w=>show Calls Tryz.prog 69 #[.int .i64 8] w fun e w'=>e=.returned (.tuple #[.bool true,.bool true,.bool false,.bool false,.bool false])/\w=w' from uses_any 8 w)
 have CN:=aI (fun w=>rIsName_any nm w a1)
 obtain ⟨qn,hqn⟩:=aX (Sx.nm nm)
 rw [hqn] at CN
 obtain ⟨ql,hql⟩:∃ b,decide (lo=0)=b:=⟨_,rfl⟩
 obtain ⟨qh,hqh⟩:∃ b,decide (hi=0)=b:=⟨_,rfl⟩
 obtain ⟨qw,hqw⟩:=aX (Sx.noW ((nm,of_,up,8,lo,hi,ws,ns):Fld))
 have CO:=aI (fun w=>rIsName_any of_ w a2)
 obtain ⟨qf,hqf⟩:=aX (Sx.nm of_)
 rw [hqf] at CO
 have CP:=aI (fun w=>rIsName_any up w a3)
 obtain ⟨qp,hqp⟩:=aX (Sx.nm up)
 rw [hqp] at CP
 have HF:=aI (show Sx.fldB ((nm,of_,up,8,lo,hi,ws,ns):Fld)=(qn && (qw && (ql && (qh && (qf && qp))))) by rw [<-hqf,<-hqh,<-hql,<-hqn,<-hqp,<-hqw];rfl)
 obtain ⟨W1,hW1,HB,hbk⟩:=aW w #[.string nm,.string of_,.string up,.int .i64 8,.int .i64 lo,.int .i64 hi,.slice A ws.length c,.slice B ns.length d] 52
 obtain ⟨c0,c1,c2,c3,c4,c5,c6,c7⟩:=aN8 hbk.cell
 simp at c0 c1 c2 c3 c4 c5 c6 c7
 have HW1:=aI hW1
 show Calls Tryz.prog 130 #[.agg #[.string nm,.string of_,.string up,.int .i64 8,.int .i64 lo,.int .i64 hi,.slice A ws.length c,.slice B ns.length d]] w _
 have HQW:=aI (show (decide (ws.length=0) && decide (ns.length=0))=qw from hqw)
 clear h h0 s1 s2 a1 a2 a3 a4 a5 a6 b1 b2 e1 e2 hbk hW1 hqf hqn hqp hqw
 generalize Sx.fldB ((nm,of_,up,8,lo,hi,ws,ns):Fld)=fb at *
 obtain ⟨wl,hwl⟩:=aX ws.length
 obtain ⟨nl,hnl⟩:=aX ns.length
 rw [hwl] at c6 hww HW1
 rw [hnl] at c7 hws HW1
 rw [hwl,hnl] at HQW
 rw [hwl,hnl]
 clear hwl hnl
 obtain ⟨N,hN⟩:=aX w.heap.size
 go_enter Tryz.func130,Tryz.ntmps130
 go_upto_region 1 with fail
 rw [HW1.out]
 rw [hN] at c0 c1 c2 c3 c4 c5 c6 c7
 (try rw [hN])
 cases qn
 rotate_left
 cases ql
 have zql:(lo == 0)=false:=beq_eq_false_iff_ne.2 (of_decide_eq_false hql)
 have yql:¬ lo=0:=of_decide_eq_false hql
 clear hql
 rotate_left
 obtain rfl:lo=0:=of_decide_eq_true hql
 clear hql
 cases qh
 have zqh:(hi == 0)=false:=beq_eq_false_iff_ne.2 (of_decide_eq_false hqh)
 have yqh:¬ hi=0:=of_decide_eq_false hqh
 clear hqh
 rotate_left
 obtain rfl:hi=0:=of_decide_eq_true hqh
 clear hqh
 cases qw
 have z1:=noW_pos HQW.out
 rotate_left
 obtain ⟨rfl,rfl⟩:=noW_zero HQW.out
 cases qf
 rotate_left
 cases qp
 rotate_left
 all_goals (go_wp2_with (first | (go_at_call 69;(with_reducible refine aS (CU.out _) ?_)) | (go_at_call 128;(with_reducible refine aS (CN.out _) ?_)) | (go_at_call 128;(with_reducible refine aS (CO.out _) ?_)) | (go_at_call 128;(with_reducible refine aS (CP.out _) ?_)));go_ret;exact ⟨by rw [HF.out];first | rfl | simp,HB.out⟩)
theorem rIsField_9 (nm of_ up:ByteArray) (lo hi:Int) (ws:List ByteArray) (ns:List Int) (kd:Int) (hk:∀ j:Nat,j < 9->kd≠(j:Int)) (us:List Value) (w:World) (h:Mem.rep [] w ((nm,of_,up,kd,lo,hi,ws,ns):Fld) us) (hww:ws.length<=1000000) (hws:ns.length<=1000000):Calls Tryz.prog 130 #[.agg us.toArray] w (BoolP (Sx.fldB ((nm,of_,up,kd,lo,hi,ws,ns):Fld)) w):=by
 have h0:=h
 obtain ⟨A,c,B,d,rfl,s1,s2,a4,a5,a6,a1,a2,a3,b1,b2,e1,e2⟩:=rep_f8 h
 have k0:(kd == 0)=false:=beq_eq_false_iff_ne.2 (hk 0 (by omega))
 have k1:(kd == 1)=false:=beq_eq_false_iff_ne.2 (hk 1 (by omega))
 have k2:(kd == 2)=false:=beq_eq_false_iff_ne.2 (hk 2 (by omega))
 have k3:(kd == 3)=false:=beq_eq_false_iff_ne.2 (hk 3 (by omega))
 have k4:(kd == 4)=false:=beq_eq_false_iff_ne.2 (hk 4 (by omega))
 have k5:(kd == 5)=false:=beq_eq_false_iff_ne.2 (hk 5 (by omega))
 have k6:(kd == 6)=false:=beq_eq_false_iff_ne.2 (hk 6 (by omega))
 have k7:(kd == 7)=false:=beq_eq_false_iff_ne.2 (hk 7 (by omega))
 have k8:(kd == 8)=false:=beq_eq_false_iff_ne.2 (hk 8 (by omega))
 have n0:¬ kd=0:=hk 0 (by omega)
 have n1:¬ kd=1:=hk 1 (by omega)
 have n2:¬ kd=2:=hk 2 (by omega)
 have n3:¬ kd=3:=hk 3 (by omega)
 have n4:¬ kd=4:=hk 4 (by omega)
 have n5:¬ kd=5:=hk 5 (by omega)
 have n6:¬ kd=6:=hk 6 (by omega)
 have n7:¬ kd=7:=hk 7 (by omega)
 have n8:¬ kd=8:=hk 8 (by omega)
 have CU:=aI (fun w=>uses_any kd w)
 rw [show usesK kd=(false,false,false,false,false) by unfold usesK;rw [if_neg n0,if_neg n1,if_neg n2,if_neg n3,if_neg n4,if_neg n5,if_neg n6,if_neg n7,if_neg n8]] at CU
 dsimp only at CU
 have CN:=aI (fun w=>rIsName_any nm w a1)
 obtain ⟨qn,hqn⟩:=aX (Sx.nm nm)
 rw [hqn] at CN
 have HF:=aI (show Sx.fldB ((nm,of_,up,kd,lo,hi,ws,ns):Fld)=false by unfold Sx.fldB;rw [if_neg (show ¬ Sc.kd ((nm,of_,up,kd,lo,hi,ws,ns):Fld)=0 from n0),if_neg (show ¬ Sc.kd ((nm,of_,up,kd,lo,hi,ws,ns):Fld)=1 from n1),if_neg (show ¬ Sc.kd ((nm,of_,up,kd,lo,hi,ws,ns):Fld)=2 from n2),if_neg (show ¬ Sc.kd ((nm,of_,up,kd,lo,hi,ws,ns):Fld)=3 from n3),if_neg (show ¬ Sc.kd ((nm,of_,up,kd,lo,hi,ws,ns):Fld)=4 from n4),if_neg (show ¬ Sc.kd ((nm,of_,up,kd,lo,hi,ws,ns):Fld)=5 from n5),if_neg (show ¬ Sc.kd ((nm,of_,up,kd,lo,hi,ws,ns):Fld)=6 from n6),if_neg (show ¬ Sc.kd ((nm,of_,up,kd,lo,hi,ws,ns):Fld)=7 from n7),if_neg (show ¬ Sc.kd ((nm,of_,up,kd,lo,hi,ws,ns):Fld)=8 from n8),Bool.and_false])
 obtain ⟨W1,hW1,HB,hbk⟩:=aW w #[.string nm,.string of_,.string up,.int .i64 kd,.int .i64 lo,.int .i64 hi,.slice A ws.length c,.slice B ns.length d] 52
 obtain ⟨c0,c1,c2,c3,c4,c5,c6,c7⟩:=aN8 hbk.cell
 simp at c0 c1 c2 c3 c4 c5 c6 c7
 have HW1:=aI hW1
 show Calls Tryz.prog 130 #[.agg #[.string nm,.string of_,.string up,.int .i64 kd,.int .i64 lo,.int .i64 hi,.slice A ws.length c,.slice B ns.length d]] w _
 have HK9:=aI hk
 clear h h0 s1 s2 a1 a2 a3 a4 a5 a6 b1 b2 e1 e2 hbk hW1 hqn hk
 generalize Sx.fldB ((nm,of_,up,kd,lo,hi,ws,ns):Fld)=fb at *
 obtain ⟨wl,hwl⟩:=aX ws.length
 obtain ⟨nl,hnl⟩:=aX ns.length
 rw [hwl] at c6 hww HW1
 rw [hnl] at c7 hws HW1
 rw [hwl,hnl]
 clear hwl hnl
 obtain ⟨N,hN⟩:=aX w.heap.size
 go_enter Tryz.func130,Tryz.ntmps130
 go_upto_region 1 with fail
 rw [HW1.out]
 rw [hN] at c0 c1 c2 c3 c4 c5 c6 c7
 (try rw [hN])
 by_cases hlt:kd < 0
 ·go_wp2_with (first | (go_at_call 69;(with_reducible refine aS (CU.out _) ?_)) | (go_at_call 128;(with_reducible refine aS (CN.out _) ?_)))
  go_ret
  exact ⟨by rw [HF.out];first | rfl | simp,HB.out⟩
 ·have hge:9<=kd:=Int.not_lt.1 (fun h=>absurd (show kd=((kd.toNat:Nat):Int) by omega) (HK9.out kd.toNat (by omega)))
  go_wp2_with (first | (go_at_call 69;(with_reducible refine aS (CU.out _) ?_)) | (go_at_call 128;(with_reducible refine aS (CN.out _) ?_)))
  go_ret
  exact ⟨by rw [HF.out];first | rfl | simp,HB.out⟩
theorem rIsField_any (f:Fld) (us:List Value) (w:World) (h:Mem.rep [] w f us) (hww:(Sc.words f).length<=1000000) (hws:(Sc.wts f).length<=1000000):Calls Tryz.prog 130 #[.agg us.toArray] w (BoolP (Sx.fldB f) w):=by
 obtain ⟨nm,of_,up,kd,lo,hi,ws,ns⟩:=f
 by_cases hk:∃ j:Nat,j < 9/\kd=(j:Int)
 ·obtain ⟨j,hj,rfl⟩:=hk
  rcases (show j=0∨j=1∨j=2∨j=3∨j=4∨j=5∨j=6∨j=7∨j=8 by omega) with rfl | rfl | rfl | rfl | rfl | rfl | rfl | rfl | rfl
  ·exact rIsField_0 nm of_ up lo hi ws ns us w h hww hws
  ·exact rIsField_1 nm of_ up lo hi ws ns us w h hww hws
  ·exact rIsField_2 nm of_ up lo hi ws ns us w h hww hws
  ·exact rIsField_3 nm of_ up lo hi ws ns us w h hww hws
  ·exact rIsField_4 nm of_ up lo hi ws ns us w h hww hws
  ·exact rIsField_5 nm of_ up lo hi ws ns us w h hww hws
  ·exact rIsField_6 nm of_ up lo hi ws ns us w h hww hws
  ·exact rIsField_7 nm of_ up lo hi ws ns us w h hww hws
  ·exact rIsField_8 nm of_ up lo hi ws ns us w h hww hws
 ·exact rIsField_9 nm of_ up lo hi ws ns kd (fun j hj e=>hk ⟨j,hj,e⟩) us w h hww hws
theorem rIsKind_any (x:Knd) (us:List Value) (w:World) (h:Mem.rep [] w x us) (hl:(Sc.flds x).length<=1000000) (hz:∀ f∈Sc.flds x,(Sc.words f).length<=1000000/\(Sc.wts f).length<=1000000):Calls Tryz.prog 96 #[.agg us.toArray] w (BoolP (Sx.kndB x) w):=by
 obtain ⟨A,c,rfl,s1,i1,i2,z1,b1,b2⟩:=rep_knd h
 obtain ⟨nm,lo,hi,fs⟩:=x
 have z1:nm.size<=9223372036854775807:=z1
 have hl:fs.length<=1000000:=hl
 have HZ:=aI (show ∀ f∈fs,(Sc.words f).length<=1000000/\(Sc.wts f).length<=1000000 from hz)
 have CN:=aI (fun w=>rIsName_any nm w z1)
 obtain ⟨q1,hq1⟩:=aX (Sx.nm nm)
 rw [hq1] at CN
 have CS:=aI (rSpan_any lo hi 0 65536)
 obtain ⟨q2,hq2⟩:=aX (Sx.span lo hi 0 65536)
 rw [hq2] at CS
 show Calls Tryz.prog 96 #[.agg #[.string nm,.int .i64 lo,.int .i64 hi,.slice A fs.length c]] w (BoolP (Sx.kndB ((nm,lo,hi,fs):Knd)) w)
 obtain ⟨W1,hW1,HB,hbk⟩:=aW w #[.string nm,.int .i64 lo,.int .i64 hi,.slice A fs.length c] 49
 have HW1:=aI hW1
 have HS:=aI (SlAt.keep (show SlAt [] w A fs from s1) (Chg.of_below HB.out))
 obtain ⟨n,hn⟩:=aX fs.length
 have HN:=aI hn
 have HF:=aI (show Sx.kndB ((nm,lo,hi,fs):Knd)=(q1 && (q2 && (decide (n<=10) && fs.all Sx.fldB))) by rw [<-hq1,<-hq2,<-hn];rfl)
 have HV:=aI rIsField_any
 rw [hn] at hbk HW1 hl
 rw [hn]
 obtain ⟨N,hN⟩:=aX w.heap.size
 rw [hN] at hbk
 have HBK:=aI hbk
 obtain ⟨c0,c1,c2,c3⟩:=aN4 hbk.cell;simp at c0 c1 c2 c3
 clear h s1 i1 i2 z1 b1 b2 hz hq1 hq2 hn hW1 hbk
 generalize Sx.kndB ((nm,lo,hi,fs):Knd)=fb at *
 go_enter Tryz.func96,Tryz.ntmps96
 go_upto_region 1 with fail
 rw [HW1.out]
 (try rw [hN])
 cases q1
 ·go_wp2_with (first | (go_at_call 128;(with_reducible refine aS (CN.out _) ?_)) | (go_at_call 129;(with_reducible refine aS (CS.out _) ?_)))
  go_ret
  exact ⟨by rw [HF.out];first | rfl | simp,HB.out⟩
 cases q2
 ·go_wp2_with (first | (go_at_call 128;(with_reducible refine aS (CN.out _) ?_)) | (go_at_call 129;(with_reducible refine aS (CS.out _) ?_)))
  go_ret
  exact ⟨by rw [HF.out];first | rfl | simp,HB.out⟩
 by_cases h10:n<=10
 rotate_left
 ·have t1:(10:Int) < (n:Int):=by omega
  have HF2:=aI (HF.out.trans (show (true && (true && (decide (n<=10) && fs.all Sx.fldB)))=false by rw [ad h10];rfl))
  clear h10
  go_wp2_with (first | (go_at_call 128;(with_reducible refine aS (CN.out _) ?_)) | (go_at_call 129;(with_reducible refine aS (CS.out _) ?_)))
  go_ret
  exact ⟨by rw [HF2.out];first | done | rfl | simp,HB.out⟩
 ·have t1:¬ (10:Int) < (n:Int):=by omega
  have t2:(n:Int)<=(10:Int):=by omega
  have HF2:=aI (HF.out.trans (show (true && (true && (decide (n<=10) && fs.all Sx.fldB)))=fs.all Sx.fldB by rw [ac h10];rfl))
  clear h10 HF
  go_wp2_with (first | (go_at_call 128;(with_reducible refine aS (CN.out _) ?_)) | (go_at_call 129;(with_reducible refine aS (CS.out _) ?_)))
  clear t1 t2 c0 c1 c2 c3
  go_loopg [3] n (fun r i wr=>∃ k:Nat,k+r=n/\i=.int .i64 k/\Below W1.heap.size W1 wr/\∀ j (hj:j < fs.length),j < k->Sx.fldB fs[j]=true)
  case atStart=>exact ⟨0,by omega,rfl,Below.refl _ _,fun _ _ h=>by omega⟩
  case round =>
   obtain ⟨k,hk,rfl,hb,hall⟩:=hrel
   obtain ⟨wo,rfl⟩:=aY wr
   have HB2:=aI hb
   have HA:=aI hall
   have hbk:=HBK.out.below hb HBK.out.lt
   obtain ⟨c0,c1,c2,c3⟩:=aN4 hbk.cell;simp at c0 c1 c2 c3
   clear hb hall hbk
   by_cases hlt:k < n
   ·have hkp:k < fs.length:=by rw [HN.out];exact hlt
    have k0:(0:Int)<=(k:Int):=aa _
    have k1:(k:Int) < (n:Int):=by omega
    obtain ⟨b,o,us,rfl,_,hr,hc⟩:=(HS.out.keep (Chg.of_below HB2.out)).get k hkp
    have cv:=HV.out fs[k] us wo hr (HZ.out _ (List.getElem_mem hkp)).1 (HZ.out _ (List.getElem_mem hkp)).2
    obtain ⟨x,hx⟩:=aX (fs[k])
    rw [hx] at cv hr
    obtain ⟨A1,cA,B1,dB,rfl,p1,p2,p3,p4,p5,p6,p7,p8,p9,p10,p11,p12⟩:=rep_fld hr
    clear p1 p2 p3 p4 p5 p6 p7 p8 p9 p10 p11 p12
    change Calls Tryz.prog 130 #[.agg #[.string (Sc.nm x),.string (Sc.of_ x),.string (Sc.up x),.int .i64 (Sc.kd x),.int .i64 (Sc.lo x),.int .i64 (Sc.hi x),.slice A1 (Sc.words x).length cA,.slice B1 (Sc.wts x).length dB]] wo _ at cv
    obtain ⟨d0,d1,d2,d3,d4,d5,d6,d7⟩:=aG8 (m:=k*8) hc
    obtain ⟨bb,hbb⟩:=aX (Sx.fldB x)
    rw [hbb] at cv
    have CV:=aI cv
    have HX:=aI hx
    have HBB:=aI hbb
    clear cv hbb hr hc hx
    cases bb
    ·have HR:=aI (all_bad (b:=Sx.fldB) hkp (by rw [HX.out];exact HBB.out))
     go_wp2_with (go_at_call 130;(with_reducible refine (CV.out).mono ?_);rintro e w2 ⟨rfl,hb2⟩;replace HB2:=aT HB2 hb2;clear hb2)
     go_ret
     exact ⟨by rw [HF2.out,HR.out];first | done | rfl | simp,HB.out.trans (HB2.out.mono HB.out.size)⟩
    ·go_wp2_with (go_at_call 130;(with_reducible refine (CV.out).mono ?_);rintro e w2 ⟨rfl,hb2⟩;replace HB2:=aT HB2 hb2;clear hb2)
     go_roundg (gk - 1)
     case measure=>omega
     case rel =>
      refine ⟨k+1,by omega,by go_num,HB2.out,fun q hq hlt=>?_⟩
      rcases aj q k with h' | h'
      ·exact HA.out q hq h'
      ·obtain rfl:q=k:=by omega
       rw [HX.out];exact HBB.out
   ·have HR:=aI (all_good (b:=Sx.fldB) fun q hq=>HA.out q hq (by rw [HN.out] at hq;omega))
    have k1:¬ (k:Int) < (n:Int):=by omega
    go_wp2_with fail
    go_ret
    exact ⟨by rw [HF2.out,HR.out];first | done | rfl | simp,HB.out.trans (HB2.out.mono HB.out.size)⟩
theorem rIsLife_any (x:Lif) (us:List Value) (w:World) (h:Mem.rep [] w x us) (hl:x.2.2.length<=1000000):Calls Tryz.prog 97 #[.agg us.toArray] w (BoolP (Sx.lifB x) w):=by
 obtain ⟨A,c,B,d,rfl,s1,s2,z1,b1,b2,e1,e2⟩:=rep_lif h
 obtain ⟨nm,ss,ms⟩:=x
 have z1:nm.size<=9223372036854775807:=z1
 have hl:ms.length<=1000000:=hl
 have hl2:ss.length<=9223372036854775807:=by have:ss.length<=c:=b1;omega
 have CN:=aI (fun w=>rIsName_any nm w z1)
 obtain ⟨q1,hq1⟩:=aX (Sx.nm nm)
 rw [hq1] at CN
 have CW:=aI (rWithin_any (ss.length:Int) 1 12)
 obtain ⟨q2,hq2⟩:=aX (Sx.within (ss.length:Int) 1 12)
 rw [hq2] at CW
 show Calls Tryz.prog 97 #[.agg #[.string nm,.slice A ss.length c,.slice B ms.length d]] w (BoolP (Sx.lifB ((nm,ss,ms):Lif)) w)
 obtain ⟨W1,hW1,HB,hbk⟩:=aW w #[.string nm,.slice A ss.length c,.slice B ms.length d] 55
 have HW1:=aI hW1
 have HS:=aI (SlAt.keep (show SlAt [] w B ms from s2) (Chg.of_below HB.out))
 have CM:=aI (rNames_any ss A c W1 (SlAt.keep (show SlAt [] w A ss from s1) (Chg.of_below HB.out)) hl2)
 obtain ⟨q3,hq3⟩:=aX (ss.all Sx.nm)
 rw [hq3] at CM
 obtain ⟨n,hn⟩:=aX ms.length
 obtain ⟨ns,hns⟩:=aX ss.length
 have HN:=aI hn
 have HF:=aI (show Sx.lifB ((nm,ss,ms):Lif)=(q1 && (q2 && (q3 && (decide (n<=32) && ms.all (Sx.mvB ns))))) by rw [<-hq1,<-hq2,<-hq3,<-hn,<-hns];rfl)
 rw [hn] at hbk HW1 hl
 rw [hns] at hbk HW1 hl2 CW CM hq2
 rw [hn,hns]
 obtain ⟨N,hN⟩:=aX w.heap.size
 rw [hN] at hbk
 have HBK:=aI hbk
 have HQ2:=aI hq2
 obtain ⟨c0,c1,c2⟩:=aN3 hbk.cell;simp at c0 c1 c2
 clear h s1 s2 z1 b1 b2 e1 e2 hq1 hq2 hq3 hn hns hW1 hbk
 generalize Sx.lifB ((nm,ss,ms):Lif)=fb at *
 go_enter Tryz.func97,Tryz.ntmps97
 go_upto_region 1 with fail
 rw [HW1.out]
 (try rw [hN])
 cases q1
 ·go_wp2_with (first | (go_at_call 128;(with_reducible refine aS (CN.out _) ?_)) | (go_at_call 95;(with_reducible refine aS (CW.out _) ?_)) | (go_at_call 131;(with_reducible refine aS (CM.out) ?_)))
  go_ret
  exact ⟨by rw [HF.out];first | rfl | simp,HB.out⟩
 cases q2
 ·go_wp2_with (first | (go_at_call 128;(with_reducible refine aS (CN.out _) ?_)) | (go_at_call 95;(with_reducible refine aS (CW.out _) ?_)) | (go_at_call 131;(with_reducible refine aS (CM.out) ?_)))
  go_ret
  exact ⟨by rw [HF.out];first | rfl | simp,HB.out⟩
 cases q3
 ·go_wp2_with (first | (go_at_call 128;(with_reducible refine aS (CN.out _) ?_)) | (go_at_call 95;(with_reducible refine aS (CW.out _) ?_)) | (go_at_call 131;(with_reducible refine aS (CM.out) ?_)))
  go_ret
  exact ⟨by rw [HF.out];first | rfl | simp,HB.out⟩
 by_cases h10:n<=32
 rotate_left
 ·have t1:(32:Int) < (n:Int):=by omega
  have HF2:=aI (HF.out.trans (show (true && (true && (true && (decide (n<=32) && ms.all (Sx.mvB ns)))))=false by rw [ad h10];rfl))
  clear h10
  go_wp2_with (first | (go_at_call 128;(with_reducible refine aS (CN.out _) ?_)) | (go_at_call 95;(with_reducible refine aS (CW.out _) ?_)) | (go_at_call 131;(with_reducible refine aS (CM.out) ?_)))
  go_ret
  exact ⟨by rw [HF2.out];first | done | rfl | simp,HB.out⟩
 ·have t1:¬ (32:Int) < (n:Int):=by omega
  have t2:(n:Int)<=(32:Int):=by omega
  have hns1:=(within_bd HQ2.out)
  have HF2:=aI (HF.out.trans (show (true && (true && (true && (decide (n<=32) && ms.all (Sx.mvB ns)))))=ms.all (Sx.mvB ns) by rw [ac h10];rfl))
  clear h10 HF
  go_wp2_with (first | (go_at_call 128;(with_reducible refine aS (CN.out _) ?_)) | (go_at_call 95;(with_reducible refine aS (CW.out _) ?_)) | (go_at_call 131;(with_reducible refine aS (CM.out) ?_)))
  clear t1 t2 c0 c1 c2
  obtain ⟨n1,hn1⟩:∃ z:Int,(ns:Int) - 1=z:=⟨_,rfl⟩
  have hw1:IntKind.i64.wrap ((ns:Int) - 1)=n1:=by rw [<-hn1];exact wrapI (by unfold inI;omega)
  have HN1:=aI hn1
  have HW9:=aI (fun a=>rWithin_any a 0 n1)
  clear hn1
  go_loopg [3] n (fun r i wr=>∃ k:Nat,k+r=n/\i=.int .i64 k/\Below W1.heap.size W1 wr/\∀ j (hj:j < ms.length),j < k->Sx.mvB ns ms[j]=true)
  case atStart=>exact ⟨0,by omega,rfl,Below.refl _ _,fun _ _ h=>by omega⟩
  case round =>
   obtain ⟨k,hk,rfl,hb,hall⟩:=hrel
   obtain ⟨wo,rfl⟩:=aY wr
   have HB2:=aI hb
   have HA:=aI hall
   have hbk:=HBK.out.below hb HBK.out.lt
   obtain ⟨c0,c1,c2⟩:=aN3 hbk.cell;simp at c0 c1 c2
   clear hb hall hbk
   by_cases hlt:k < n
   ·have hkp:k < ms.length:=by rw [HN.out];exact hlt
    have k0:(0:Int)<=(k:Int):=aa _
    have k1:(k:Int) < (n:Int):=by omega
    obtain ⟨b,o,us,rfl,_,hr,hc⟩:=(HS.out.keep (Chg.of_below HB2.out)).get k hkp
    obtain ⟨⟨ma,mb⟩,hx⟩:∃ x,ms[k]=x:=⟨_,rfl⟩
    rw [hx] at hr
    obtain ⟨rfl,p1,p2⟩:=rep_mv hr
    have d0:wo.cell? ⟨b,o+k*2,none⟩=some (.int .i64 ma):=hc 0 _ rfl
    have d1:wo.cell? ⟨b,o+k*2+1,none⟩=some (.int .i64 mb):=hc 1 _ rfl
    have CV:=aI (HW9.out ma)
    have CU:=aI (HW9.out mb)
    have HBB:=aI (show Sx.mvB ns ms[k]=(Sx.within ma 0 n1 && Sx.within mb 0 n1) by rw [hx,<-HN1.out];rfl)
    obtain ⟨r1,hr1⟩:=aX (Sx.within ma 0 n1)
    obtain ⟨r2,hr2⟩:=aX (Sx.within mb 0 n1)
    rw [hr1] at CV
    rw [hr2] at CU
    rw [hr1,hr2] at HBB
    clear hr hc hx p1 p2 hr1 hr2
    go_wp2_with fail
    have CVq:=aI (fun n=>Calls.quiet_of_same (n:=n) (w:=wo) ((CV.out (wo.drewN n)).mono fun _ _ h=>⟨h.1,h.2.symm⟩))
    have CUq:=aI (fun n=>Calls.quiet_of_same (n:=n) (w:=wo) ((CU.out (wo.drewN n)).mono fun _ _ h=>⟨h.1,h.2.symm⟩))
    clear CV CU
    cases r1
    ·have HR:=aI (all_bad (b:=Sx.mvB ns) hkp HBB.out)
     go_quiet ((go_at_call 95;first | with_reducible exact CVq.out _ | with_reducible exact CUq.out _))
     go_wp2_with fail
     go_ret
     exact ⟨by rw [HF2.out,HR.out];first | done | rfl | simp,HB.out.trans (Below.mono (by exact ⟨HB2.out.os,HB2.out.tape,HB2.out.output,HB2.out.size,HB2.out.block⟩) HB.out.size)⟩
    cases r2
    ·have HR:=aI (all_bad (b:=Sx.mvB ns) hkp HBB.out)
     go_quiet ((go_at_call 95;first | with_reducible exact CVq.out _ | with_reducible exact CUq.out _))
     go_wp2_with fail
     go_ret
     exact ⟨by rw [HF2.out,HR.out];first | done | rfl | simp,HB.out.trans (Below.mono (by exact ⟨HB2.out.os,HB2.out.tape,HB2.out.output,HB2.out.size,HB2.out.block⟩) HB.out.size)⟩
    ·go_quiet ((go_at_call 95;first | with_reducible exact CVq.out _ | with_reducible exact CUq.out _))
     go_wp2_with fail
     go_roundg (gk - 1)
     case measure=>omega
     case rel =>
      refine ⟨k+1,by omega,by go_num,by exact ⟨HB2.out.os,HB2.out.tape,HB2.out.output,HB2.out.size,HB2.out.block⟩,fun q hq hlt=>?_⟩
      rcases aj q k with h' | h'
      ·exact HA.out q hq h'
      ·obtain rfl:q=k:=by omega
       exact HBB.out
   ·have HR:=aI (all_good (b:=Sx.mvB ns) fun q hq=>HA.out q hq (by rw [HN.out] at hq;omega))
    have k1:¬ (k:Int) < (n:Int):=by omega
    go_wp2_with fail
    go_ret
    exact ⟨by rw [HF2.out,HR.out];first | done | rfl | simp,HB.out.trans (HB2.out.mono HB.out.size)⟩
theorem rIsRule_any (x:Rul) (us:List Value) (w:World) (h:Mem.rep [] w x us):Calls Tryz.prog 98 #[.agg us.toArray] w (BoolP (Sx.rulB x) w):=by
 obtain ⟨rfl,a1,a2,a3,a4,a5⟩:=rep_rul h
 obtain ⟨nm,kd,a,b,n⟩:=x
 have a1:nm.size<=9223372036854775807:=a1
 have a2:kd.size<=9223372036854775807:=a2
 have a3:a.size<=9223372036854775807:=a3
 have a4:b.size<=9223372036854775807:=a4
 have CN:=aI (fun w=>rIsName_any nm w a1)
 have CK:=aI (fun w=>rIsName_any kd w a2)
 have CA:=aI (fun w=>rIsName_any a w a3)
 have CB:=aI (fun w=>rIsName_any b w a4)
 have CW:=aI (rWithin_any n (-1048576) 1048576)
 obtain ⟨y1,y2,y3⟩:=em_spell a
 obtain ⟨y4,y5,y6⟩:=em_spell b
 obtain ⟨qn,hq1⟩:=aX (Sx.nm nm)
 rw [hq1] at CN
 obtain ⟨qk,hq2⟩:=aX (Sx.nm kd)
 rw [hq2] at CK
 obtain ⟨ea,hq3⟩:=aX (Sx.em a)
 rw [hq3] at y1 y2 y3
 obtain ⟨na,hq4⟩:=aX (Sx.nm a)
 rw [hq4] at CA
 obtain ⟨eb,hq5⟩:=aX (Sx.em b)
 rw [hq5] at y4 y5 y6
 obtain ⟨nb,hq6⟩:=aX (Sx.nm b)
 rw [hq6] at CB
 obtain ⟨qw,hq7⟩:=aX (Sx.within n (-1048576) 1048576)
 rw [hq7] at CW
 have HF:=aI (show Sx.rulB ((nm,kd,a,b,n):Rul)=(qn && (qk && ((ea || na) && ((eb || nb) && (!(ea && eb) && qw))))) by rw [<-hq1,<-hq2,<-hq3,<-hq4,<-hq5,<-hq6,<-hq7];rfl)
 show Calls Tryz.prog 98 #[.agg #[.string nm,.string kd,.string a,.string b,.int .i64 n]] w _
 obtain ⟨W1,hW1,HB,hbk⟩:=aW w #[.string nm,.string kd,.string a,.string b,.int .i64 n] 58
 have HW1:=aI hW1
 obtain ⟨N,hN⟩:=aX w.heap.size
 rw [hN] at hbk
 obtain ⟨c0,c1,c2,c3,c4⟩:=aN5 hbk.cell;simp at c0 c1 c2 c3 c4
 clear h hbk hW1 a1 a2 a3 a4 a5 hq1 hq2 hq3 hq4 hq5 hq6 hq7
 generalize Sx.rulB ((nm,kd,a,b,n):Rul)=fb at *
 go_enter Tryz.func98,Tryz.ntmps98
 go_upto_region 1 with fail
 rw [HW1.out]
 (try rw [hN])
 cases ea <;> cases eb <;> cases na <;> cases nb <;> cases qn <;> cases qk <;> (go_wp2_with (first | (go_at_call 128;(with_reducible refine aS (CA.out _) ?_)) | (go_at_call 128;(with_reducible refine aS (CB.out _) ?_)) | (go_at_call 128;(with_reducible refine aS (CN.out _) ?_)) | (go_at_call 128;(with_reducible refine aS (CK.out _) ?_)) | (go_at_call 95;(with_reducible refine aS (CW.out _) ?_)));go_ret;exact ⟨by rw [HF.out];first | rfl | simp,HB.out⟩)
namespace Sx
def SzW (x:Sch):Prop:=∀ k∈Sc.kinds x,∀ f∈Sc.flds k,(Sc.words f).length<=1000000
theorem picks_lenW:∀ (n:Nat) (ws:List ByteArray) (ns:List Int) (l:List Tok) (p:List ByteArray × List Int) (m:List Tok),picks n ws ns l=.ok p m->p.1.length=ws.length+n
 | 0,_,_,_,_,_,h=>by injection h with h1 h2;subst h1;rfl
 | n+1,ws,ns,l,p,m,h=>by
  obtain ⟨w,l1,_,h2⟩:=bind_ok h
  obtain ⟨v,l2,_,h4⟩:=bind_ok h2
  have:=picks_lenW n _ _ _ _ _ h4
  rw [aK,List.length_singleton] at this
  omega
theorem field1_okW {k:Nat} {nm:ByteArray} {l m:List Tok} {f:Fld} (h:field1 k nm l=.ok f m):(Sc.words f).length<=12:=by
 unfold field1 at h
 split at h
 ·obtain ⟨_,_,_,h⟩:=bind_ok h
  injection h with h1 h2;subst h1;exact Nat.zero_le _
 split at h
 ·obtain ⟨n,l1,h1,h⟩:=bind_ok h
  obtain ⟨p,l2,h2,h⟩:=bind_ok h
  have:=picks_lenW _ _ _ _ _ _ h2
  have hn:=(count_ok h1).1
  injection h with h3 h4;subst h3
  show p.1.length<=12
  rw [this];simpa using hn
 split at h
 ·obtain ⟨_,_,_,h⟩:=bind_ok h
  injection h with h1 h2;subst h1;exact Nat.zero_le _
 split at h
 ·obtain ⟨_,_,_,h⟩:=bind_ok h
  obtain ⟨_,_,_,h⟩:=bind_ok h
  injection h with h1 h2;subst h1;exact Nat.zero_le _
 split at h
 ·obtain ⟨_,_,_,h⟩:=bind_ok h
  obtain ⟨_,_,_,h⟩:=bind_ok h
  obtain ⟨_,_,_,h⟩:=bind_ok h
  obtain ⟨_,_,_,h⟩:=bind_ok h
  injection h with h1 h2;subst h1;exact Nat.zero_le _
 split at h
 ·obtain ⟨_,_,_,h⟩:=bind_ok h
  obtain ⟨_,_,_,h⟩:=bind_ok h
  injection h with h1 h2;subst h1;exact Nat.zero_le _
 ·obtain ⟨_,_,_,h⟩:=bind_ok h
  obtain ⟨_,_,_,h⟩:=bind_ok h
  obtain ⟨_,_,_,h⟩:=bind_ok h
  injection h with h1 h2;subst h1;exact Nat.zero_le _
theorem field_okW {l m:List Tok} {f:Fld} (h:field l=.ok f m):(Sc.words f).length<=12/\m.length<=l.length:=by
 refine ⟨?_,loc_len loc_field h⟩
 rw [field_eq] at h
 obtain ⟨_,_,_,h⟩:=bind_ok h
 obtain ⟨_,_,_,h⟩:=bind_ok h
 exact field1_okW h
theorem kind_okW {l m:List Tok} {k:Knd} (h:kind l=.ok k m):(∀ f∈Sc.flds k,(Sc.words f).length<=12)/\m.length<=l.length:=by
 refine ⟨?_,loc_len loc_kind h⟩
 obtain ⟨_,l1,h1,h⟩:=bind_ok h
 obtain ⟨_,l2,h2,h⟩:=bind_ok h
 obtain ⟨_,l3,h3,h⟩:=bind_ok h
 obtain ⟨_,l4,h4,h⟩:=bind_ok h
 obtain ⟨fs,l5,h5,h⟩:=bind_ok h
 obtain ⟨_,_,q3⟩:=many_sz (P:=fun f:Fld=>(Sc.words f).length<=12) (B:=l4.length) (fun l a m _ h=>field_okW h) _ _ _ _ _ (ag _) h5
 injection h with h6 h7
 subst h6
 exact q3 (fun _ h=>by cases h)
theorem schema_szW {l m:List Tok} {x:Sch} (h:schema l=.ok x m):SzW x:=by
 obtain ⟨_,l1,h1,h⟩:=bind_ok h
 obtain ⟨_,l2,h2,h⟩:=bind_ok h
 obtain ⟨ks,l3,h3,h⟩:=bind_ok h
 obtain ⟨ls,l4,h4,h⟩:=bind_ok h
 obtain ⟨rs,l5,h5,h⟩:=bind_ok h
 obtain ⟨_,_,q3⟩:=many_sz (P:=fun k:Knd=>∀ f∈Sc.flds k,(Sc.words f).length<=12) (B:=l2.length) (fun l a m _ h=>kind_okW h) _ _ _ _ _ (ag _) h3
 injection h with h6 h7
 subst h6
 intro k hk f hf
 have:=q3 (fun _ h=>by cases h) k hk f hf
 omega
end Sx
theorem rValid_sch (x:Sch) (us:List Value) (w:World) (h:Mem.rep [] w x us) (hz:Sx.Sz x) (hzw:Sx.SzW x):Calls Tryz.prog 47 #[.agg us.toArray] w fun e w'=>e=.returned (.int .i64 (Sx.valid x))/\Below w.heap.size w w':=by
 have h0:=h
 obtain ⟨A,c,B,d,C,e,rfl,s1,s2,s3,a1,b1,b2,b3,b4,b5,b6⟩:=rep_sch h
 have HZK:=aI hz.k
 have HZL:=aI hz.l
 have HZW:=aI hzw
 unfold Sx.SzW at HZW
 obtain ⟨v,kk,ll,rr⟩:=x
 have CSR:=aI (fun (W:World) (hb:Below w.heap.size w W) (hok:Sx.okB ((v,kk,ll,rr):Sch)=true)=>show Calls Tryz.prog 8 #[.agg #[.int .i64 v,.slice A kk.length c,.slice B ll.length d,.slice C rr.length e]] W _ from rsource_any ((v,kk,ll,rr):Sch) _ W (Mem.keep h0 (Chg.of_below hb)) hok)
 obtain ⟨S,hS⟩:=aX (Sx.source ((v,kk,ll,rr):Sch))
 have HV:=aI (show Sx.valid ((v,kk,ll,rr):Sch)=if Sx.okB ((v,kk,ll,rr):Sch)=true then (if 8192 < S.length then 4 else 0) else 1 by unfold Sx.valid;rw [hS])
 have hSl:=aI (show Sx.okB ((v,kk,ll,rr):Sch)=true->S.length<=1000000 from fun h=>by rw [<-hS];exact Sx.source_le (Sx.okB_bd h))
 rw [hS] at CSR
 obtain ⟨d9,hd9⟩:∃ d:ByteArray,(⟨S.toArray⟩:ByteArray)=d:=⟨_,rfl⟩
 rw [hd9] at CSR
 have hds:d9.size=S.length:=by rw [<-hd9];show S.toArray.size=_;rw [List.size_toArray]
 have C1:=rWithin_any v 0 1048576
 obtain ⟨q1,h1⟩:=aX (Sx.within v 0 1048576)
 rw [h1] at C1
 replace C1:=aI C1
 show Calls Tryz.prog 47 #[.agg #[.int .i64 v,.slice A kk.length c,.slice B ll.length d,.slice C rr.length e]] w _
 obtain ⟨W1,hW1,HB,hbk⟩:=aW w #[.int .i64 v,.slice A kk.length c,.slice B ll.length d,.slice C rr.length e] 28
 have HW1:=aI hW1
 have SK:=aI (SlAt.keep (show SlAt [] w A kk from s1) (Chg.of_below HB.out))
 have SL:=aI (SlAt.keep (show SlAt [] w B ll from s2) (Chg.of_below HB.out))
 have SR:=aI (SlAt.keep (show SlAt [] w C rr from s3) (Chg.of_below HB.out))
 have cl1:kk.length<=c:=b1
 have cl2:ll.length<=d:=b3
 have cl3:rr.length<=e:=b5
 obtain ⟨nk,hk⟩:=aX kk.length
 obtain ⟨nl,hl⟩:=aX ll.length
 obtain ⟨nr,hr⟩:=aX rr.length
 have HNK:=aI hk;have HNL:=aI hl;have HNR:=aI hr
 have HOK:=aI (show Sx.okB ((v,kk,ll,rr):Sch)=(q1 && (decide (nk<=6) && (decide (nl<=6) && (decide (nr<=16) && (kk.all Sx.kndB && (ll.all Sx.lifB && rr.all Sx.rulB)))))) by rw [<-h1,<-hk,<-hl,<-hr];rfl)
 rw [hk,hl,hr] at hbk HW1 CSR
 rw [hk] at cl1;rw [hl] at cl2;rw [hr] at cl3
 rw [hk,hl,hr]
 obtain ⟨N,hN⟩:=aX w.heap.size
 rw [hN] at hbk
 have HBK:=aI hbk
 obtain ⟨c0,c1,c2,c3⟩:=aN4 hbk.cell;simp at c0 c1 c2 c3
 have HZL2:=aI (show ∀ l∈ll,l.2.2.length<=1000000 from fun l hl=>(HZL.out l hl).2)
 have HZK2:=aI (show ∀ k∈kk,(Sc.flds k).length<=1000000/\∀ f∈Sc.flds k,(Sc.words f).length<=1000000/\(Sc.wts f).length<=1000000 from fun k hk=>⟨(HZK.out k hk).1,fun f hf=>⟨HZW.out k hk f hf,(HZK.out k hk).2 f hf⟩⟩)
 clear h h0 s1 s2 s3 a1 b1 b2 b3 b4 b5 b6 hk hl hr hbk hW1 h1 hS hz hzw hd9 HZL HZK HZW
 obtain ⟨okx,hokx⟩:=aX (Sx.okB ((v,kk,ll,rr):Sch))
 rw [hokx] at HOK CSR HV hSl
 clear hokx
 obtain ⟨vv,hvv⟩:=aX (Sx.valid ((v,kk,ll,rr):Sch))
 rw [hvv] at HV ⊢
 clear hvv
 have HK:=aI rIsKind_any
 have HL:=aI rIsLife_any
 have HR:=aI rIsRule_any
 have V1:=aI (show okx=false->vv=1 from fun h=>by rw [HV.out,h];rfl)
 go_enter Tryz.func47,Tryz.ntmps47
 go_upto_region 1 with fail
 rw [HW1.out]
 (try rw [hN])
 cases q1
 ·skip
  go_wp2_with (go_at_call 95;(with_reducible refine aS (C1.out _) ?_))
  go_ret
  exact ⟨by rw [V1.out (by rw [HOK.out];simp)];rfl,HB.out⟩
 by_cases gnk:nk<=6
 rotate_left
 ·have t1:(6:Int) < (nk:Int):=by omega
  have t2:decide ((6:Int) < (nk:Int))=true:=ac (by omega)
  go_wp2_with (go_at_call 95;(with_reducible refine aS (C1.out _) ?_))
  go_ret
  exact ⟨by rw [V1.out (by rw [HOK.out,ad gnk];simp)];rfl,HB.out⟩
 have t1nk:(nk:Int)<=(6:Int):=by omega
 have t2nk:decide ((6:Int) < (nk:Int))=false:=ad (by omega)
 by_cases gnl:nl<=6
 rotate_left
 ·have t1:(6:Int) < (nl:Int):=by omega
  have t2:decide ((6:Int) < (nl:Int))=true:=ac (by omega)
  go_wp2_with (go_at_call 95;(with_reducible refine aS (C1.out _) ?_))
  go_ret
  exact ⟨by rw [V1.out (by rw [HOK.out,ad gnl];simp)];rfl,HB.out⟩
 have t1nl:(nl:Int)<=(6:Int):=by omega
 have t2nl:decide ((6:Int) < (nl:Int))=false:=ad (by omega)
 by_cases gnr:nr<=16
 rotate_left
 ·have t1:(16:Int) < (nr:Int):=by omega
  have t2:decide ((16:Int) < (nr:Int))=true:=ac (by omega)
  go_wp2_with (go_at_call 95;(with_reducible refine aS (C1.out _) ?_))
  go_ret
  exact ⟨by rw [V1.out (by rw [HOK.out,ad gnr];simp)];rfl,HB.out⟩
 have t1nr:(nr:Int)<=(16:Int):=by omega
 have t2nr:decide ((16:Int) < (nr:Int))=false:=ad (by omega)
 have HOK2:=aI (HOK.out.trans (show (true && (decide (nk<=6) && (decide (nl<=6) && (decide (nr<=16) && (kk.all Sx.kndB && (ll.all Sx.lifB && rr.all Sx.rulB))))))=(kk.all Sx.kndB && (ll.all Sx.lifB && rr.all Sx.rulB)) by rw [ac gnk,ac gnl,ac gnr];rfl))
 clear HOK
 go_upto_region 4 with (go_at_call 95;(with_reducible refine aS (C1.out _) ?_))
 clear t1nk t2nk t1nl t2nl t1nr t2nr c0 c1 c2 c3
 go_loopg [3] nk (fun r i wr=>∃ k:Nat,k+r=nk/\i=.int .i64 k/\Below W1.heap.size W1 wr/\∀ j (hj:j < kk.length),j < k->Sx.kndB kk[j]=true)
 case atStart=>exact ⟨0,by omega,rfl,Below.refl _ _,fun _ _ h=>by omega⟩
 case round =>
  obtain ⟨k,hk,rfl,hb,hall⟩:=hrel
  obtain ⟨wo,rfl⟩:=aY wr
  obtain ⟨gkK,rfl⟩:=aY gk
  have HBK8:=aI hb
  have HA:=aI hall
  have hbk:=HBK.out.below hb HBK.out.lt
  obtain ⟨c0,c1,c2,c3⟩:=aN4 hbk.cell;simp at c0 c1 c2 c3
  clear hb hall hbk
  by_cases hlt:k < nk
  ·have hkp:k < kk.length:=by rw [HNK.out];exact hlt
   have k0:(0:Int)<=(k:Int):=aa _
   have k1:(k:Int) < (nk:Int):=by omega
   obtain ⟨b,o,us,rfl,_,hr,hc⟩:=(SK.out.keep (Chg.of_below HBK8.out)).get k hkp
   have cv:=HK.out kk[k] us wo hr (HZK2.out _ (List.getElem_mem hkp)).1 (HZK2.out _ (List.getElem_mem hkp)).2
   obtain ⟨x,hx⟩:=aX (kk[k])
   rw [hx] at cv hr
   obtain ⟨A1,cA,rfl,p1,p2,p3,p4,p5,p6⟩:=rep_knd hr;clear p1 p2 p3 p4 p5 p6
   change Calls Tryz.prog 96 #[.agg #[.string x.1,.int .i64 x.2.1,.int .i64 x.2.2.1,.slice A1 (Sc.flds x).length cA]] wo _ at cv
   obtain ⟨d0,d1,d2,d3⟩:=aG4 (m:=k*4) hc
   obtain ⟨bb,hbb⟩:=aX (Sx.kndB x)
   rw [hbb] at cv
   have CV:=aI cv
   have HX:=aI hx
   have HBB:=aI hbb
   clear cv hbb hr hc hx
   cases bb
   ·have HRK:=aI (all_bad (b:=Sx.kndB) hkp (by rw [HX.out];exact HBB.out))
    go_wp2_with (go_at_call 96;(with_reducible refine (CV.out).mono ?_);rintro e w2 ⟨rfl,hb2⟩;replace HBK8:=aT HBK8 hb2;clear hb2)
    go_ret
    exact ⟨by rw [V1.out (by rw [HOK2.out,HRK.out];rfl)];rfl,HB.out.trans (HBK8.out.mono HB.out.size)⟩
   ·go_wp2_with (go_at_call 96;(with_reducible refine (CV.out).mono ?_);rintro e w2 ⟨rfl,hb2⟩;replace HBK8:=aT HBK8 hb2;clear hb2)
    go_roundg (gkK - 1)
    case measure=>omega
    case rel =>
     refine ⟨k+1,by omega,by go_num,HBK8.out,fun q hq hlt=>?_⟩
     rcases aj q k with h' | h'
     ·exact HA.out q hq h'
     ·obtain rfl:q=k:=by omega
      rw [HX.out];exact HBB.out
  ·have HGK:=aI (all_good (b:=Sx.kndB) fun q hq=>HA.out q hq (by rw [HNK.out] at hq;omega))
   have k1:¬ (k:Int) < (nk:Int):=by omega
   clear HA
   go_upto_region 9 with fail
   clear k1 c0 c1 c2 c3
   go_loopg [4] nl (fun r i wr=>∃ k:Nat,k+r=nl/\i=.int .i64 k/\Below W1.heap.size W1 wr/\∀ j (hj:j < ll.length),j < k->Sx.lifB ll[j]=true)
   case atStart=>exact ⟨0,by omega,rfl,HBK8.out,fun _ _ h=>by omega⟩
   case round =>
    obtain ⟨k,hk,rfl,hb,hall⟩:=hrel
    obtain ⟨wo,rfl⟩:=aY wr
    obtain ⟨gkL,rfl⟩:=aY gk
    have HBL:=aI hb
    have HA:=aI hall
    have hbk:=HBK.out.below hb HBK.out.lt
    obtain ⟨c0,c1,c2,c3⟩:=aN4 hbk.cell;simp at c0 c1 c2 c3
    clear hb hall hbk
    by_cases hlt:k < nl
    ·have hkp:k < ll.length:=by rw [HNL.out];exact hlt
     have k0:(0:Int)<=(k:Int):=aa _
     have k1:(k:Int) < (nl:Int):=by omega
     obtain ⟨b,o,us,rfl,_,hr,hc⟩:=(SL.out.keep (Chg.of_below HBL.out)).get k hkp
     have cv:=HL.out ll[k] us wo hr (HZL2.out _ (List.getElem_mem hkp))
     obtain ⟨x,hx⟩:=aX (ll[k])
     rw [hx] at cv hr
     obtain ⟨A1,cA,B1,dB,rfl,p1,p2,p3,p4,p5,p6,p7⟩:=rep_lif hr;clear p1 p2 p3 p4 p5 p6 p7
     change Calls Tryz.prog 97 #[.agg #[.string x.1,.slice A1 x.2.1.length cA,.slice B1 x.2.2.length dB]] wo _ at cv
     obtain ⟨d0,d1,d2⟩:=aG3 (m:=k*3) hc
     obtain ⟨bb,hbb⟩:=aX (Sx.lifB x)
     rw [hbb] at cv
     have CV:=aI cv
     have HX:=aI hx
     have HBB:=aI hbb
     clear cv hbb hr hc hx
     cases bb
     ·have HRK:=aI (all_bad (b:=Sx.lifB) hkp (by rw [HX.out];exact HBB.out))
      go_wp2_with (go_at_call 97;(with_reducible refine (CV.out).mono ?_);rintro e w2 ⟨rfl,hb2⟩;replace HBL:=aT HBL hb2;clear hb2)
      go_ret
      exact ⟨by rw [V1.out (by rw [HOK2.out,HGK.out,HRK.out];rfl)];rfl,HB.out.trans (HBL.out.mono HB.out.size)⟩
     ·go_wp2_with (go_at_call 97;(with_reducible refine (CV.out).mono ?_);rintro e w2 ⟨rfl,hb2⟩;replace HBL:=aT HBL hb2;clear hb2)
      go_roundg (gkL - 1)
      case measure=>omega
      case rel =>
       refine ⟨k+1,by omega,by go_num,HBL.out,fun q hq hlt=>?_⟩
       rcases aj q k with h' | h'
       ·exact HA.out q hq h'
       ·obtain rfl:q=k:=by omega
        rw [HX.out];exact HBB.out
    ·have HGL:=aI (all_good (b:=Sx.lifB) fun q hq=>HA.out q hq (by rw [HNL.out] at hq;omega))
     have k1:¬ (k:Int) < (nl:Int):=by omega
     clear HA
     go_upto_region 14 with fail
     clear k1 c0 c1 c2 c3
     go_loopg [5] nr (fun r i wr=>∃ k:Nat,k+r=nr/\i=.int .i64 k/\Below W1.heap.size W1 wr/\∀ j (hj:j < rr.length),j < k->Sx.rulB rr[j]=true)
     case atStart=>exact ⟨0,by omega,rfl,HBL.out,fun _ _ h=>by omega⟩
     case round =>
      obtain ⟨k,hk,rfl,hb,hall⟩:=hrel
      obtain ⟨wo,rfl⟩:=aY wr
      obtain ⟨gkR,rfl⟩:=aY gk
      have HBR:=aI hb
      have HA:=aI hall
      have hbk:=HBK.out.below hb HBK.out.lt
      obtain ⟨c0,c1,c2,c3⟩:=aN4 hbk.cell;simp at c0 c1 c2 c3
      clear hb hall hbk
      by_cases hlt:k < nr
      ·have hkp:k < rr.length:=by rw [HNR.out];exact hlt
       have k0:(0:Int)<=(k:Int):=aa _
       have k1:(k:Int) < (nr:Int):=by omega
       obtain ⟨b,o,us,rfl,_,hr,hc⟩:=(SR.out.keep (Chg.of_below HBR.out)).get k hkp
       have cv:=HR.out rr[k] us wo hr
       obtain ⟨x,hx⟩:=aX (rr[k])
       rw [hx] at cv hr
       obtain ⟨rfl,p1,p2,p3,p4,p5⟩:=rep_rul hr;clear p1 p2 p3 p4 p5
       change Calls Tryz.prog 98 #[.agg #[.string x.1,.string x.2.1,.string x.2.2.1,.string x.2.2.2.1,.int .i64 x.2.2.2.2]] wo _ at cv
       obtain ⟨d0,d1,d2,d3,d4⟩:=aG5 (m:=k*5) hc
       obtain ⟨bb,hbb⟩:=aX (Sx.rulB x)
       rw [hbb] at cv
       have CV:=aI cv
       have HX:=aI hx
       have HBB:=aI hbb
       clear cv hbb hr hc hx
       cases bb
       ·have HRK:=aI (all_bad (b:=Sx.rulB) hkp (by rw [HX.out];exact HBB.out))
        go_wp2_with (go_at_call 98;(with_reducible refine (CV.out).mono ?_);rintro e w2 ⟨rfl,hb2⟩;replace HBR:=aT HBR hb2;clear hb2)
        go_ret
        exact ⟨by rw [V1.out (by rw [HOK2.out,HGK.out,HGL.out,HRK.out];rfl)];rfl,HB.out.trans (HBR.out.mono HB.out.size)⟩
       ·go_wp2_with (go_at_call 98;(with_reducible refine (CV.out).mono ?_);rintro e w2 ⟨rfl,hb2⟩;replace HBR:=aT HBR hb2;clear hb2)
        go_roundg (gkR - 1)
        case measure=>omega
        case rel =>
         refine ⟨k+1,by omega,by go_num,HBR.out,fun q hq hlt=>?_⟩
         rcases aj q k with h' | h'
         ·exact HA.out q hq h'
         ·obtain rfl:q=k:=by omega
          rw [HX.out];exact HBB.out
      ·have HGR:=aI (all_good (b:=Sx.rulB) fun q hq=>HA.out q hq (by rw [HNR.out] at hq;omega))
       have k1:¬ (k:Int) < (nr:Int):=by omega
       clear HA
       have hok:okx=true:=by rw [HOK2.out,HGK.out,HGL.out,HGR.out];rfl
       have hSl2:=hSl.out hok
       have CS9:=aI (CSR.out wo (HB.out.trans (HBR.out.mono HB.out.size)) hok)
       have HVV:=aI (HV.out.trans (if_pos hok))
       clear hok
       by_cases hl:8192 < S.length
       ·have t3:(8192:Int) < (d9.size:Int):=by omega
        have t4:decide (8192 < d9.size)=true:=ac (by omega)
        go_wp2_with (go_at_call 8;(with_reducible refine (CS9.out).mono ?_);rintro e w2 ⟨rfl,hb2⟩;have HB9:=aI ((HB.out.trans (HBR.out.mono HB.out.size)).trans (hb2.mono (HB.out.trans (HBR.out.mono HB.out.size)).size));clear hb2)
        go_ret
        exact ⟨by rw [HVV.out,if_pos hl];rfl,HB9.out⟩
       ·have t3:(d9.size:Int)<=(8192:Int):=by omega
        have t4:decide (8192 < d9.size)=false:=ad (by omega)
        go_wp2_with (go_at_call 8;(with_reducible refine (CS9.out).mono ?_);rintro e w2 ⟨rfl,hb2⟩;have HB9:=aI ((HB.out.trans (HBR.out.mono HB.out.size)).trans (hb2.mono (HB.out.trans (HBR.out.mono HB.out.size)).size));clear hb2)
        go_ret
        exact ⟨by rw [HVV.out,if_neg hl];rfl,HB9.out⟩
end
end Go.Proofs.YtmplaikgbeeikaaGreatDoor
