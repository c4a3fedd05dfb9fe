/- Parts of the proof, joined: SxF5, SxF6. -/
import Derived.Test.YtmplaikgbeeikaaGreatDoorK7
import Derived.Deep.RegionLaw
set_option linter.unusedVariables false
set_option linter.unusedSimpArgs false
set_option linter.unusedSectionVars false
namespace Go.Proofs.YtmplaikgbeeikaaGreatDoor
open Go Go.RowKit
section
variable {w:World} {g:Nat} {M:List Nat} {bx:List Box} {rs:List Rw} {L:List (List Nat→World→Prop)} {W:World}
set_option maxRecDepth 100000 in
set_option maxHeartbeats 16000000 in
theorem field5_any {t:Sx.Tok} {l:List Sx.Tok} (he:SEnv w) (hw:Sx.wordOf t.1=some 5) (h:PH (pkP w g) (t::l,false) M bx rs L W):Calls Tryz.prog 83 #[.pointer (some ⟨g,0,none⟩)] W (RdA (pkP w g) Sx.field (t::l,false) bx rs L):=by
 obtain ⟨N,hN⟩:∃ n,W.heap.size=n:=⟨_,rfl⟩
 have T:=aI (h.new #[.string ⟨#[]⟩,.string ⟨#[]⟩,.string ⟨#[]⟩,.int .i64 0,.int .i64 0,.int .i64 0,.slice none 0 0,.slice none 0 0] 52 hN)
 have HE:=aI he
 have CI:=aI (fun W h=>idxW_any t.1 W h)
 rw [Sx.wordI_some hw] at CI
 have HENV:=aI (fun (st:Sx.St) (M:List Nat) (bx:List Box) (W:World) (h:PH (pkP w g) st M bx rs L W)=>ph_env he h)
 have HW:=aI hw
 clear h he hw
 go_enter Tryz.func83,Tryz.ntmps83
 go_upto_region 1 with fail
 generalize W.alloc (.cells #[.string ⟨#[]⟩,.string ⟨#[]⟩,.string ⟨#[]⟩,.int .i64 0,.int .i64 0,.int .i64 0,.slice none 0 0,.slice none 0 0] 52)=W1 at *
 go_cut [3] from 5 to 9 (fun v3 w'=>∃ (N1:Nat) (M2:List Nat),v3=.pointer (some ⟨N1,0,none⟩)∧PH (pkP w g) (l,false) M2 ((N1,52,#[.string ⟨#[]⟩,.string ⟨#[]⟩,.string ⟨#[]⟩,.int .i64 5,.int .i64 0,.int .i64 0,.slice none 0 0,.slice none 0 0])::(N,52,#[.string ⟨#[]⟩,.string ⟨#[]⟩,.string ⟨#[]⟩,.int .i64 0,.int .i64 0,.int .i64 0,.slice none 0 0,.slice none 0 0])::bx) rs L w')
 case first =>
  go_region_law (first | (go_simp;go_at_call 74;(first | refine (nextT_any T.out.drew).mono ?_ | refine (nextT_any (T.out.drew.new (N:=W1.heap.size) #[.string ⟨#[]⟩,.string ⟨#[]⟩,.string ⟨#[]⟩,.int .i64 0,.int .i64 0,.int .i64 0,.slice none 0 0,.slice none 0 0] 52 rfl)).mono ?_);rintro e w3 ⟨rfl,h3⟩;have T2:=aI h3;clear h3;have B:=T2.out.box (.head _);have z0:=B.cell 0;have z1:=B.cell 1;have z2:=B.cell 2;have z3:=B.cell 3;have z4:=B.cell 4;have z5:=B.cell 5;have z6:=B.cell 6;have z7:=B.cell 7;have f0:=B.frozen 0;have f1:=B.frozen 1;have f2:=B.frozen 2;have f3:=B.frozen 3;have f4:=B.frozen 4;have f5:=B.frozen 5;have f6:=B.frozen 6;have f7:=B.frozen 7;simp at z0 z1 z2 z3 z4 z5 z6 z7;dsimp only at f0 f1 f2 f3 f4 f5 f6 f7;clear B) | (go_simp;go_at_call 126;(first | refine (CI.out _ (HENV.out _ _ _ _ T2.out)).mono ?_ | refine (CI.out _ (HENV.out _ _ _ _ (T2.out.new #[.string ⟨#[]⟩,.string ⟨#[]⟩,.string ⟨#[]⟩,.int .i64 0,.int .i64 0,.int .i64 0,.slice none 0 0,.slice none 0 0] 52 rfl))).mono ?_);rintro e w4 ⟨rfl,rfl⟩))
  all_goals
   go_wp2_with fail
   go_meet
   case rel=>first | exact ⟨_,_,rfl,T2.out.new _ _ rfl⟩ | exact ⟨_,_,rfl,(((((((T2.out.set0 0 _).set0 1 _).set0 2 _).set0 3 _).set0 4 _).set0 5 _).set0 6 _).set0 7 _⟩
 case rest =>
  obtain ⟨N1,M2,rfl,hT⟩:=hcut
  replace T:=aI hT
  clear hT CI HENV W1
  have B:=T.out.box (.head _);have z0:=B.cell 0;have z1:=B.cell 1;have z2:=B.cell 2;have z3:=B.cell 3;have z4:=B.cell 4;have z5:=B.cell 5;have z6:=B.cell 6;have z7:=B.cell 7;have f0:=B.frozen 0;have f1:=B.frozen 1;have f2:=B.frozen 2;have f3:=B.frozen 3;have f4:=B.frozen 4;have f5:=B.frozen 5;have f6:=B.frozen 6;have f7:=B.frozen 7;simp at z0 z1 z2 z3 z4 z5 z6 z7;dsimp only at f0 f1 f2 f3 f4 f5 f6 f7;clear B
  go_upto_region 27 with (first | (go_at_call 79;((with_reducible refine (nameR_any T.out).mono ?_));rintro e w1 ⟨n1,st1,rfl,i1,x1,h1⟩;replace T:=aI h1;have X1:=aI x1;have I1:=aI i1;clear h1 x1 i1;(try clear z0 z1 z2 z3 z4 z5 z6 z7 f0 f1 f2 f3 f4 f5 f6 f7);have B:=T.out.box (.head _);have z0:=B.cell 0;have z1:=B.cell 1;have z2:=B.cell 2;have z3:=B.cell 3;have z4:=B.cell 4;have z5:=B.cell 5;have z6:=B.cell 6;have z7:=B.cell 7;have f0:=B.frozen 0;have f1:=B.frozen 1;have f2:=B.frozen 2;have f3:=B.frozen 3;have f4:=B.frozen 4;have f5:=B.frozen 5;have f6:=B.frozen 6;have f7:=B.frozen 7;simp at z0 z1 z2 z3 z4 z5 z6 z7;dsimp only at f0 f1 f2 f3 f4 f5 f6 f7;clear B) | (go_at_call 79;((with_reducible refine (nameR_any (T.out.set0 0 _)).mono ?_));rintro e w2 ⟨n2,st2,rfl,i2,x2,h2⟩;replace T:=aI h2;have X2:=aI x2;have I2:=aI i2;clear h2 x2 i2;(try clear z0 z1 z2 z3 z4 z5 z6 z7 f0 f1 f2 f3 f4 f5 f6 f7);have B:=T.out.box (.head _);have z0:=B.cell 0;have z1:=B.cell 1;have z2:=B.cell 2;have z3:=B.cell 3;have z4:=B.cell 4;have z5:=B.cell 5;have z6:=B.cell 6;have z7:=B.cell 7;have f0:=B.frozen 0;have f1:=B.frozen 1;have f2:=B.frozen 2;have f3:=B.frozen 3;have f4:=B.frozen 4;have f5:=B.frozen 5;have f6:=B.frozen 6;have f7:=B.frozen 7;simp at z0 z1 z2 z3 z4 z5 z6 z7;dsimp only at f0 f1 f2 f3 f4 f5 f6 f7;clear B) | (go_at_call 33;((with_reducible refine (num_any' HE.out (T.out.set0 1 _)).mono ?_));rintro e w3 ⟨n3,st3,rfl,i3,x3,h3⟩;replace T:=aI h3;have X3:=aI x3;have I3:=aI i3;clear h3 x3 i3;(try clear z0 z1 z2 z3 z4 z5 z6 z7 f0 f1 f2 f3 f4 f5 f6 f7);have B:=T.out.box (.head _);have z0:=B.cell 0;have z1:=B.cell 1;have z2:=B.cell 2;have z3:=B.cell 3;have z4:=B.cell 4;have z5:=B.cell 5;have z6:=B.cell 6;have z7:=B.cell 7;have f0:=B.frozen 0;have f1:=B.frozen 1;have f2:=B.frozen 2;have f3:=B.frozen 3;have f4:=B.frozen 4;have f5:=B.frozen 5;have f6:=B.frozen 6;have f7:=B.frozen 7;simp at z0 z1 z2 z3 z4 z5 z6 z7;dsimp only at f0 f1 f2 f3 f4 f5 f6 f7;clear B) | (go_at_call 33;((with_reducible refine (num_any' HE.out (T.out.set0 4 _)).mono ?_));rintro e w4 ⟨n4,st4,rfl,i4,x4,h4⟩;replace T:=aI h4;have X4:=aI x4;have I4:=aI i4;clear h4 x4 i4;(try clear z0 z1 z2 z3 z4 z5 z6 z7 f0 f1 f2 f3 f4 f5 f6 f7);have B:=T.out.box (.head _);have z0:=B.cell 0;have z1:=B.cell 1;have z2:=B.cell 2;have z3:=B.cell 3;have z4:=B.cell 4;have z5:=B.cell 5;have z6:=B.cell 6;have z7:=B.cell 7;have f0:=B.frozen 0;have f1:=B.frozen 1;have f2:=B.frozen 2;have f3:=B.frozen 3;have f4:=B.frozen 4;have f5:=B.frozen 5;have f6:=B.frozen 6;have f7:=B.frozen 7;simp at z0 z1 z2 z3 z4 z5 z6 z7;dsimp only at f0 f1 f2 f3 f4 f5 f6 f7;clear B))
  have T7:=aI (show PH (pkP w g) st4 _ ((N1,52,#[.string (Sx.ofT n1),.string (Sx.ofT n2),.string ⟨#[]⟩,.int .i64 5,.int .i64 n3,.int .i64 n4,.slice none 0 0,.slice none 0 0])::(N,52,#[.string ⟨#[]⟩,.string ⟨#[]⟩,.string ⟨#[]⟩,.int .i64 0,.int .i64 0,.int .i64 0,.slice none 0 0,.slice none 0 0])::bx) rs L _ from T.out.set0 5 (.int .i64 n4))
  clear T;(try clear z0 z1 z2 z3 z4 z5 z6 z7 f0 f1 f2 f3 f4 f5 f6 f7)
  generalize w4.setCell ⟨N1,5,none⟩ (.int .i64 n4)=W8 at *
  have B:=T7.out.box (.head _);have z0:=B.cell 0;have z1:=B.cell 1;have z2:=B.cell 2;have z3:=B.cell 3;have z4:=B.cell 4;have z5:=B.cell 5;have z6:=B.cell 6;have z7:=B.cell 7
  have C:=T7.out.box (.tail _ (.head _));have y0:=C.cell 0;have y1:=C.cell 1;have y2:=C.cell 2;have y3:=C.cell 3;have y4:=C.cell 4;have y5:=C.cell 5;have y6:=C.cell 6;have y7:=C.cell 7;have f0:=C.frozen 0;have f1:=C.frozen 1;have f2:=C.frozen 2;have f3:=C.frozen 3;have f4:=C.frozen 4;have f5:=C.frozen 5;have f6:=C.frozen 6;have f7:=C.frozen 7
  simp at z0 z1 z2 z3 z4 z5 z6 z7 y0 y1 y2 y3 y4 y5 y6 y7
  dsimp only at f0 f1 f2 f3 f4 f5 f6 f7
  clear B C
  have T8:=aI (show PH (pkP w g) st4 _ ((N,52,#[.string (Sx.ofT n1),.string (Sx.ofT n2),.string ⟨#[]⟩,.int .i64 5,.int .i64 n3,.int .i64 n4,.slice none 0 0,.slice none 0 0])::(N1,52,#[.string (Sx.ofT n1),.string (Sx.ofT n2),.string ⟨#[]⟩,.int .i64 5,.int .i64 n3,.int .i64 n4,.slice none 0 0,.slice none 0 0])::bx) rs L _ from ((((((((T7.out.bswap.set0 0 (.string (Sx.ofT n1))).set0 1 (.string (Sx.ofT n2))).set0 2 (.string ⟨#[]⟩)).set0 3 (.int .i64 5)).set0 4 (.int .i64 n3)).set0 5 (.int .i64 n4)).set0 6 (.slice none 0 0)).set0 7 (.slice none 0 0)))
  go_wp2_with fail
  clear y0 y1 y2 y3 y4 y5 y6 y7
  have C:=T8.out.box (.head _);have y0:=C.cell 0;have y1:=C.cell 1;have y2:=C.cell 2;have y3:=C.cell 3;have y4:=C.cell 4;have y5:=C.cell 5;have y6:=C.cell 6;have y7:=C.cell 7
  simp at y0 y1 y2 y3 y4 y5 y6 y7
  have z:inI 0:=by constructor <;> decide
  have zk:inI 5:=by constructor <;> decide
  have zz:=Nat.zero_le 9223372036854775807
  refine bodyPost_ret (v:=.agg #[.string (Sx.ofT n1),.string (Sx.ofT n2),.string ⟨#[]⟩,.int .i64 5,.int .i64 n3,.int .i64 n4,.slice none 0 0,.slice none 0 0]) ?_ rfl ?_
  ·simp [results,Tryz.results83,go_sem,y0,y1,y2,y3,y4,y5,y6,y7]
  ·exact ⟨(Sx.ofT n1,Sx.ofT n2,Sx.ofT [],5,n3,n4,[],[]),_,st4,_,rfl,Sx.nx_field HW.out (Sx.nx_bind X1.out (show Sx.Nx (fun l=>(Sx.name l).bind fun o l=>(Sx.number l).bind fun lo l=>(Sx.number l).bind fun hi l=>.ok (Sx.ofT n1,Sx.ofT o,Sx.ofT [],5,lo,hi,[],[]) l) st1 _ _ from Sx.nx_bind X2.out (Sx.nx_bind X3.out (Sx.nx_bind X4.out (Sx.nx_ret _ _))))),T8.out.unbox.unbox.add (keeps_rep _ _) (fld_rep (Nat.le_trans I1.out (by decide)) (Nat.le_trans I2.out (by decide)) empty_size zk I3.out I4.out .nil .nil (Nat.le_refl _) zz (Nat.le_refl _) zz)⟩
end
end Go.Proofs.YtmplaikgbeeikaaGreatDoor
namespace Go.Proofs.YtmplaikgbeeikaaGreatDoor
open Go Go.RowKit
section
variable {w:World} {g:Nat} {M:List Nat} {bx:List Box} {rs:List Rw} {L:List (List Nat→World→Prop)} {W:World}
set_option maxRecDepth 100000 in
set_option maxHeartbeats 16000000 in
theorem field6_any {t:Sx.Tok} {l:List Sx.Tok} (he:SEnv w) (hw:Sx.wordOf t.1=some 6) (h:PH (pkP w g) (t::l,false) M bx rs L W):Calls Tryz.prog 83 #[.pointer (some ⟨g,0,none⟩)] W (RdA (pkP w g) Sx.field (t::l,false) bx rs L):=by
 obtain ⟨N,hN⟩:∃ n,W.heap.size=n:=⟨_,rfl⟩
 have T:=aI (h.new #[.string ⟨#[]⟩,.string ⟨#[]⟩,.string ⟨#[]⟩,.int .i64 0,.int .i64 0,.int .i64 0,.slice none 0 0,.slice none 0 0] 52 hN)
 have HE:=aI he
 have CI:=aI (fun W h=>idxW_any t.1 W h)
 rw [Sx.wordI_some hw] at CI
 have HENV:=aI (fun (st:Sx.St) (M:List Nat) (bx:List Box) (W:World) (h:PH (pkP w g) st M bx rs L W)=>ph_env he h)
 have HW:=aI hw
 clear h he hw
 go_enter Tryz.func83,Tryz.ntmps83
 go_upto_region 1 with fail
 generalize W.alloc (.cells #[.string ⟨#[]⟩,.string ⟨#[]⟩,.string ⟨#[]⟩,.int .i64 0,.int .i64 0,.int .i64 0,.slice none 0 0,.slice none 0 0] 52)=W1 at *
 go_cut [3] from 5 to 9 (fun v3 w'=>∃ (N1:Nat) (M2:List Nat),v3=.pointer (some ⟨N1,0,none⟩)∧PH (pkP w g) (l,false) M2 ((N1,52,#[.string ⟨#[]⟩,.string ⟨#[]⟩,.string ⟨#[]⟩,.int .i64 6,.int .i64 0,.int .i64 0,.slice none 0 0,.slice none 0 0])::(N,52,#[.string ⟨#[]⟩,.string ⟨#[]⟩,.string ⟨#[]⟩,.int .i64 0,.int .i64 0,.int .i64 0,.slice none 0 0,.slice none 0 0])::bx) rs L w')
 case first =>
  go_region_law (first | (go_simp;go_at_call 74;(first | refine (nextT_any T.out.drew).mono ?_ | refine (nextT_any (T.out.drew.new (N:=W1.heap.size) #[.string ⟨#[]⟩,.string ⟨#[]⟩,.string ⟨#[]⟩,.int .i64 0,.int .i64 0,.int .i64 0,.slice none 0 0,.slice none 0 0] 52 rfl)).mono ?_);rintro e w3 ⟨rfl,h3⟩;have T2:=aI h3;clear h3;have B:=T2.out.box (.head _);have z0:=B.cell 0;have z1:=B.cell 1;have z2:=B.cell 2;have z3:=B.cell 3;have z4:=B.cell 4;have z5:=B.cell 5;have z6:=B.cell 6;have z7:=B.cell 7;have f0:=B.frozen 0;have f1:=B.frozen 1;have f2:=B.frozen 2;have f3:=B.frozen 3;have f4:=B.frozen 4;have f5:=B.frozen 5;have f6:=B.frozen 6;have f7:=B.frozen 7;simp at z0 z1 z2 z3 z4 z5 z6 z7;dsimp only at f0 f1 f2 f3 f4 f5 f6 f7;clear B) | (go_simp;go_at_call 126;(first | refine (CI.out _ (HENV.out _ _ _ _ T2.out)).mono ?_ | refine (CI.out _ (HENV.out _ _ _ _ (T2.out.new #[.string ⟨#[]⟩,.string ⟨#[]⟩,.string ⟨#[]⟩,.int .i64 0,.int .i64 0,.int .i64 0,.slice none 0 0,.slice none 0 0] 52 rfl))).mono ?_);rintro e w4 ⟨rfl,rfl⟩))
  all_goals
   go_wp2_with fail
   go_meet
   case rel=>first | exact ⟨_,_,rfl,T2.out.new _ _ rfl⟩ | exact ⟨_,_,rfl,(((((((T2.out.set0 0 _).set0 1 _).set0 2 _).set0 3 _).set0 4 _).set0 5 _).set0 6 _).set0 7 _⟩
 case rest =>
  obtain ⟨N1,M2,rfl,hT⟩:=hcut
  replace T:=aI hT
  clear hT CI HENV W1
  have B:=T.out.box (.head _);have z0:=B.cell 0;have z1:=B.cell 1;have z2:=B.cell 2;have z3:=B.cell 3;have z4:=B.cell 4;have z5:=B.cell 5;have z6:=B.cell 6;have z7:=B.cell 7;have f0:=B.frozen 0;have f1:=B.frozen 1;have f2:=B.frozen 2;have f3:=B.frozen 3;have f4:=B.frozen 4;have f5:=B.frozen 5;have f6:=B.frozen 6;have f7:=B.frozen 7;simp at z0 z1 z2 z3 z4 z5 z6 z7;dsimp only at f0 f1 f2 f3 f4 f5 f6 f7;clear B
  go_upto_region 27 with (first | (go_at_call 79;((with_reducible refine (nameR_any T.out).mono ?_));rintro e w1 ⟨n1,st1,rfl,i1,x1,h1⟩;replace T:=aI h1;have X1:=aI x1;have I1:=aI i1;clear h1 x1 i1;(try clear z0 z1 z2 z3 z4 z5 z6 z7 f0 f1 f2 f3 f4 f5 f6 f7);have B:=T.out.box (.head _);have z0:=B.cell 0;have z1:=B.cell 1;have z2:=B.cell 2;have z3:=B.cell 3;have z4:=B.cell 4;have z5:=B.cell 5;have z6:=B.cell 6;have z7:=B.cell 7;have f0:=B.frozen 0;have f1:=B.frozen 1;have f2:=B.frozen 2;have f3:=B.frozen 3;have f4:=B.frozen 4;have f5:=B.frozen 5;have f6:=B.frozen 6;have f7:=B.frozen 7;simp at z0 z1 z2 z3 z4 z5 z6 z7;dsimp only at f0 f1 f2 f3 f4 f5 f6 f7;clear B) | (go_at_call 79;((with_reducible refine (nameR_any (T.out.set0 0 _)).mono ?_));rintro e w2 ⟨n2,st2,rfl,i2,x2,h2⟩;replace T:=aI h2;have X2:=aI x2;have I2:=aI i2;clear h2 x2 i2;(try clear z0 z1 z2 z3 z4 z5 z6 z7 f0 f1 f2 f3 f4 f5 f6 f7);have B:=T.out.box (.head _);have z0:=B.cell 0;have z1:=B.cell 1;have z2:=B.cell 2;have z3:=B.cell 3;have z4:=B.cell 4;have z5:=B.cell 5;have z6:=B.cell 6;have z7:=B.cell 7;have f0:=B.frozen 0;have f1:=B.frozen 1;have f2:=B.frozen 2;have f3:=B.frozen 3;have f4:=B.frozen 4;have f5:=B.frozen 5;have f6:=B.frozen 6;have f7:=B.frozen 7;simp at z0 z1 z2 z3 z4 z5 z6 z7;dsimp only at f0 f1 f2 f3 f4 f5 f6 f7;clear B))
  have T7:=aI (show PH (pkP w g) st2 _ ((N1,52,#[.string (Sx.ofT n1),.string (Sx.ofT n2),.string ⟨#[]⟩,.int .i64 6,.int .i64 0,.int .i64 0,.slice none 0 0,.slice none 0 0])::(N,52,#[.string ⟨#[]⟩,.string ⟨#[]⟩,.string ⟨#[]⟩,.int .i64 0,.int .i64 0,.int .i64 0,.slice none 0 0,.slice none 0 0])::bx) rs L _ from T.out.set0 1 (.string (Sx.ofT n2)))
  clear T;(try clear z0 z1 z2 z3 z4 z5 z6 z7 f0 f1 f2 f3 f4 f5 f6 f7)
  generalize w2.setCell ⟨N1,1,none⟩ (.string (Sx.ofT n2))=W8 at *
  have B:=T7.out.box (.head _);have z0:=B.cell 0;have z1:=B.cell 1;have z2:=B.cell 2;have z3:=B.cell 3;have z4:=B.cell 4;have z5:=B.cell 5;have z6:=B.cell 6;have z7:=B.cell 7
  have C:=T7.out.box (.tail _ (.head _));have y0:=C.cell 0;have y1:=C.cell 1;have y2:=C.cell 2;have y3:=C.cell 3;have y4:=C.cell 4;have y5:=C.cell 5;have y6:=C.cell 6;have y7:=C.cell 7;have f0:=C.frozen 0;have f1:=C.frozen 1;have f2:=C.frozen 2;have f3:=C.frozen 3;have f4:=C.frozen 4;have f5:=C.frozen 5;have f6:=C.frozen 6;have f7:=C.frozen 7
  simp at z0 z1 z2 z3 z4 z5 z6 z7 y0 y1 y2 y3 y4 y5 y6 y7
  dsimp only at f0 f1 f2 f3 f4 f5 f6 f7
  clear B C
  have T8:=aI (show PH (pkP w g) st2 _ ((N,52,#[.string (Sx.ofT n1),.string (Sx.ofT n2),.string ⟨#[]⟩,.int .i64 6,.int .i64 0,.int .i64 0,.slice none 0 0,.slice none 0 0])::(N1,52,#[.string (Sx.ofT n1),.string (Sx.ofT n2),.string ⟨#[]⟩,.int .i64 6,.int .i64 0,.int .i64 0,.slice none 0 0,.slice none 0 0])::bx) rs L _ from ((((((((T7.out.bswap.set0 0 (.string (Sx.ofT n1))).set0 1 (.string (Sx.ofT n2))).set0 2 (.string ⟨#[]⟩)).set0 3 (.int .i64 6)).set0 4 (.int .i64 0)).set0 5 (.int .i64 0)).set0 6 (.slice none 0 0)).set0 7 (.slice none 0 0)))
  go_wp2_with fail
  clear y0 y1 y2 y3 y4 y5 y6 y7
  have C:=T8.out.box (.head _);have y0:=C.cell 0;have y1:=C.cell 1;have y2:=C.cell 2;have y3:=C.cell 3;have y4:=C.cell 4;have y5:=C.cell 5;have y6:=C.cell 6;have y7:=C.cell 7
  simp at y0 y1 y2 y3 y4 y5 y6 y7
  have z:inI 0:=by constructor <;> decide
  have zk:inI 6:=by constructor <;> decide
  have zz:=Nat.zero_le 9223372036854775807
  refine bodyPost_ret (v:=.agg #[.string (Sx.ofT n1),.string (Sx.ofT n2),.string ⟨#[]⟩,.int .i64 6,.int .i64 0,.int .i64 0,.slice none 0 0,.slice none 0 0]) ?_ rfl ?_
  ·simp [results,Tryz.results83,go_sem,y0,y1,y2,y3,y4,y5,y6,y7]
  ·exact ⟨(Sx.ofT n1,Sx.ofT n2,Sx.ofT [],6,0,0,[],[]),_,st2,_,rfl,Sx.nx_field HW.out (Sx.nx_bind X1.out (show Sx.Nx (fun l=>(Sx.name l).bind fun o l=>.ok (Sx.ofT n1,Sx.ofT o,Sx.ofT [],6,0,0,[],[]) l) st1 _ _ from Sx.nx_bind X2.out (Sx.nx_ret _ _))),T8.out.unbox.unbox.add (keeps_rep _ _) (fld_rep (Nat.le_trans I1.out (by decide)) (Nat.le_trans I2.out (by decide)) empty_size zk z z .nil .nil (Nat.le_refl _) zz (Nat.le_refl _) zz)⟩
end
end Go.Proofs.YtmplaikgbeeikaaGreatDoor
