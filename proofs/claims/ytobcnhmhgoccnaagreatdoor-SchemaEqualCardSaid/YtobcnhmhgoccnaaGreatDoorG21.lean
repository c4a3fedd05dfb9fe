/- Parts of the proof, joined: SxF0, SxF1, SxF2, SxF3, SxF4, SxF5, SxF6, SxF7, SxF8, SxF9. -/
import Derived.Test.YtobcnhmhgoccnaaGreatDoorG20
set_option maxRecDepth 100000
set_option maxHeartbeats 16000000
set_option linter.unusedVariables false
set_option linter.unusedSimpArgs false
set_option linter.unusedSectionVars false
namespace Go.Proofs.YtobcnhmhgoccnaaGreatDoor
open Go Go.RowKit
section
namespace Sx
theorem nx_field {t:Tok} {l:List Tok} {k:Nat} {v:Fld} {st':St} (hw:wordOf t.1=some k) (h:Nx (fun l=>(name l).bind fun nm l=>field1 k (ofT nm) l) (l,false) v st'):Nx field (t::l,false) v st':=by
 rw [nx_iff] at h ⊢
 have e:field (t::l)=(name l).bind fun nm l=>field1 k (ofT nm) l:=by
  show (match wordOf t.1 with | none=>Res.bad (t::l) | some k=>(name l).bind fun nm l=>field1 k (ofT nm) l)=_
  rw [hw]
 rw [e];exact h
end Sx
section
variable {w:World} {g:Nat} {M:List Nat} {bx:List Box} {rs:List Rw} {L:List (List Nat->World->Prop)} {W:World}
theorem nextT_any {t:Sx.Tok} {l:List Sx.Tok} (h:PH (pkP w g) (t::l,false) M bx rs L W) :
  Calls Tryz.prog 138 #[.pointer (some ⟨g,0,none⟩),.bool true] W fun e W'=>e=.returned (.string (Sx.ofT t.1))/\PH (pkP w g) (l,false) M bx rs L W':=next_any true h
end
section
variable {w:World} {g:Nat} {M:List Nat} {bx:List Box} {rs:List Rw} {L:List (List Nat->World->Prop)} {W:World}
theorem field0_any {t:Sx.Tok} {l:List Sx.Tok} (he:SEnv w) (hw:Sx.wordOf t.1=some 0) (h:PH (pkP w g) (t::l,false) M bx rs L W):Calls Tryz.prog 147 #[.pointer (some ⟨g,0,none⟩)] W (RdA (pkP w g) Sx.field (t::l,false) bx rs L):=by
 obtain ⟨N,hN⟩:=aX W.heap.size
 have T:=aI (h.new #[.string ⟨#[]⟩,.string ⟨#[]⟩,.string ⟨#[]⟩,.int .i64 0,.int .i64 0,.int .i64 0,.slice none 0 0,.slice none 0 0] 65 hN)
 have HE:=aI he
 have CI:=aI (fun W h=>idxW_any t.1 W h)
 rw [Sx.wordI_some hw] at CI
 have HENV:=aI (fun (st:Sx.St) (M:List Nat) (bx:List Box) (W:World) (h:PH (pkP w g) st M bx rs L W)=>ph_env he h)
 have HW:=aI hw
 clear h he hw
 go_enter Tryz.func147,Tryz.ntmps147
 go_upto_region 1 with fail
 generalize W.alloc (.cells #[.string ⟨#[]⟩,.string ⟨#[]⟩,.string ⟨#[]⟩,.int .i64 0,.int .i64 0,.int .i64 0,.slice none 0 0,.slice none 0 0] 65)=W1 at *
 go_cut [3] from 5 to 9 (fun v3 w'=>∃ (N1:Nat) (M2:List Nat),v3=.pointer (some ⟨N1,0,none⟩)/\PH (pkP w g) (l,false) M2 ((N1,65,#[.string ⟨#[]⟩,.string ⟨#[]⟩,.string ⟨#[]⟩,.int .i64 0,.int .i64 0,.int .i64 0,.slice none 0 0,.slice none 0 0])::(N,65,#[.string ⟨#[]⟩,.string ⟨#[]⟩,.string ⟨#[]⟩,.int .i64 0,.int .i64 0,.int .i64 0,.slice none 0 0,.slice none 0 0])::bx) rs L w')
 case first =>
  go_region_law (first | (go_simp;go_at_call 138;(first | refine (nextT_any T.out.drew).mono ?_ | refine (nextT_any (T.out.drew.new (N:=W1.heap.size) #[.string ⟨#[]⟩,.string ⟨#[]⟩,.string ⟨#[]⟩,.int .i64 0,.int .i64 0,.int .i64 0,.slice none 0 0,.slice none 0 0] 65 rfl)).mono ?_);rintro e w3 ⟨rfl,h3⟩;have T2:=aI h3;clear h3;have B:=T2.out.box (.head _);obtain ⟨z0,z1,z2,z3,z4,z5,z6,z7⟩:=aN8 B.cell;obtain ⟨f0,f1,f2,f3,f4,f5,f6,f7⟩:=aN8 B.frozen;simp at z0 z1 z2 z3 z4 z5 z6 z7;dsimp only at f0 f1 f2 f3 f4 f5 f6 f7;clear B) | (go_simp;go_at_call 167;(first | refine (CI.out _ (HENV.out _ _ _ _ T2.out)).mono ?_ | refine (CI.out _ (HENV.out _ _ _ _ (T2.out.new #[.string ⟨#[]⟩,.string ⟨#[]⟩,.string ⟨#[]⟩,.int .i64 0,.int .i64 0,.int .i64 0,.slice none 0 0,.slice none 0 0] 65 rfl))).mono ?_);rintro e w4 ⟨rfl,rfl⟩))
  all_goals
   go_wp2_with fail
   go_meet
   case rel=>first | exact ⟨_,_,rfl,T2.out.new _ _ rfl⟩ | exact ⟨_,_,rfl,(((((((T2.out.set0 0 _).set0 1 _).set0 2 _).set0 3 _).set0 4 _).set0 5 _).set0 6 _).set0 7 _⟩
 case rest =>
  obtain ⟨N1,M2,rfl,hT⟩:=hcut
  replace T:=aI hT
  clear hT CI HENV W1
  have B:=T.out.box (.head _);obtain ⟨z0,z1,z2,z3,z4,z5,z6,z7⟩:=aN8 B.cell;obtain ⟨f0,f1,f2,f3,f4,f5,f6,f7⟩:=aN8 B.frozen;simp at z0 z1 z2 z3 z4 z5 z6 z7;dsimp only at f0 f1 f2 f3 f4 f5 f6 f7;clear B
  go_upto_region 6 with (first | (go_at_call 143;(with_reducible refine (nameR_any T.out).mono ?_);rintro e w1 ⟨n1,st1,rfl,i1,x1,h1⟩;replace T:=aI h1;have X1:=aI x1;have I1:=aI i1;clear h1 x1 i1;(try clear z0 z1 z2 z3 z4 z5 z6 z7 f0 f1 f2 f3 f4 f5 f6 f7);have B:=T.out.box (.head _);obtain ⟨z0,z1,z2,z3,z4,z5,z6,z7⟩:=aN8 B.cell;obtain ⟨f0,f1,f2,f3,f4,f5,f6,f7⟩:=aN8 B.frozen;simp at z0 z1 z2 z3 z4 z5 z6 z7;dsimp only at f0 f1 f2 f3 f4 f5 f6 f7;clear B) | (go_at_call 102;(with_reducible refine (num_any' HE.out (T.out.set0 0 _)).mono ?_);rintro e w2 ⟨n2,st2,rfl,i2,x2,h2⟩;replace T:=aI h2;have X2:=aI x2;have I2:=aI i2;clear h2 x2 i2;(try clear z0 z1 z2 z3 z4 z5 z6 z7 f0 f1 f2 f3 f4 f5 f6 f7);have B:=T.out.box (.head _);obtain ⟨z0,z1,z2,z3,z4,z5,z6,z7⟩:=aN8 B.cell;obtain ⟨f0,f1,f2,f3,f4,f5,f6,f7⟩:=aN8 B.frozen;simp at z0 z1 z2 z3 z4 z5 z6 z7;dsimp only at f0 f1 f2 f3 f4 f5 f6 f7;clear B))
  have T7:=aI (show PH (pkP w g) st2 _ ((N1,65,#[.string (Sx.ofT n1),.string ⟨#[]⟩,.string ⟨#[]⟩,.int .i64 0,.int .i64 n2,.int .i64 0,.slice none 0 0,.slice none 0 0])::(N,65,#[.string ⟨#[]⟩,.string ⟨#[]⟩,.string ⟨#[]⟩,.int .i64 0,.int .i64 0,.int .i64 0,.slice none 0 0,.slice none 0 0])::bx) rs L _ from T.out.set0 4 (.int .i64 n2))
  clear T;(try clear z0 z1 z2 z3 z4 z5 z6 z7 f0 f1 f2 f3 f4 f5 f6 f7)
  generalize w2.setCell ⟨N1,4,none⟩ (.int .i64 n2)=W8 at *
  have B:=T7.out.box (.head _);obtain ⟨z0,z1,z2,z3,z4,z5,z6,z7⟩:=aN8 B.cell
  have C:=T7.out.box (.tail _ (.head _));obtain ⟨y0,y1,y2,y3,y4,y5,y6,y7⟩:=aN8 C.cell;obtain ⟨f0,f1,f2,f3,f4,f5,f6,f7⟩:=aN8 C.frozen
  simp at z0 z1 z2 z3 z4 z5 z6 z7 y0 y1 y2 y3 y4 y5 y6 y7
  dsimp only at f0 f1 f2 f3 f4 f5 f6 f7
  clear B C
  have T8:=aI (show PH (pkP w g) st2 _ ((N,65,#[.string (Sx.ofT n1),.string ⟨#[]⟩,.string ⟨#[]⟩,.int .i64 0,.int .i64 n2,.int .i64 0,.slice none 0 0,.slice none 0 0])::(N1,65,#[.string (Sx.ofT n1),.string ⟨#[]⟩,.string ⟨#[]⟩,.int .i64 0,.int .i64 n2,.int .i64 0,.slice none 0 0,.slice none 0 0])::bx) rs L _ from ((((((((T7.out.bswap.set0 0 (.string (Sx.ofT n1))).set0 1 (.string ⟨#[]⟩)).set0 2 (.string ⟨#[]⟩)).set0 3 (.int .i64 0)).set0 4 (.int .i64 n2)).set0 5 (.int .i64 0)).set0 6 (.slice none 0 0)).set0 7 (.slice none 0 0)))
  go_wp2_with fail
  clear y0 y1 y2 y3 y4 y5 y6 y7
  have C:=T8.out.box (.head _);obtain ⟨y0,y1,y2,y3,y4,y5,y6,y7⟩:=aN8 C.cell
  simp at y0 y1 y2 y3 y4 y5 y6 y7
  have z:inI 0:=by constructor <;> decide
  have zk:inI 0:=by constructor <;> decide
  have zz:=Nat.zero_le 9223372036854775807
  refine bodyPost_ret (v:=.agg #[.string (Sx.ofT n1),.string ⟨#[]⟩,.string ⟨#[]⟩,.int .i64 0,.int .i64 n2,.int .i64 0,.slice none 0 0,.slice none 0 0]) ?_ rfl ?_
  ·simp [results,Tryz.results147,go_sem,y0,y1,y2,y3,y4,y5,y6,y7]
  ·exact ⟨(Sx.ofT n1,Sx.ofT [],Sx.ofT [],0,n2,0,[],[]),_,st2,_,rfl,Sx.nx_field HW.out (Sx.nx_bind X1.out (show Sx.Nx (fun l=>(Sx.number l).bind fun lo l=>.ok (Sx.ofT n1,Sx.ofT [],Sx.ofT [],0,lo,0,[],[]) l) st1 _ _ from Sx.nx_bind X2.out (Sx.nx_ret _ _))),T8.out.unbox.unbox.add (keeps_rep _ _) (fld_rep (ah I1.out (by decide)) empty_size empty_size zk I2.out z .nil .nil (ag _) zz (ag _) zz)⟩
end
end
section
section
variable {w:World} {g:Nat} {M:List Nat} {bx:List Box} {rs:List Rw} {L:List (List Nat->World->Prop)} {W:World}
theorem field1_any {t:Sx.Tok} {l:List Sx.Tok} (he:SEnv w) (hw:Sx.wordOf t.1=some 1) (h:PH (pkP w g) (t::l,false) M bx rs L W):Calls Tryz.prog 147 #[.pointer (some ⟨g,0,none⟩)] W (RdA (pkP w g) Sx.field (t::l,false) bx rs L):=by
 obtain ⟨N,hN⟩:=aX W.heap.size
 have T:=aI (h.new #[.string ⟨#[]⟩,.string ⟨#[]⟩,.string ⟨#[]⟩,.int .i64 0,.int .i64 0,.int .i64 0,.slice none 0 0,.slice none 0 0] 65 hN)
 have HE:=aI he
 have CI:=aI (fun W h=>idxW_any t.1 W h)
 rw [Sx.wordI_some hw] at CI
 have HENV:=aI (fun (st:Sx.St) (M:List Nat) (bx:List Box) (W:World) (h:PH (pkP w g) st M bx rs L W)=>ph_env he h)
 have HW:=aI hw
 clear h he hw
 go_enter Tryz.func147,Tryz.ntmps147
 go_upto_region 1 with fail
 generalize W.alloc (.cells #[.string ⟨#[]⟩,.string ⟨#[]⟩,.string ⟨#[]⟩,.int .i64 0,.int .i64 0,.int .i64 0,.slice none 0 0,.slice none 0 0] 65)=W1 at *
 go_cut [3] from 5 to 9 (fun v3 w'=>∃ (N1:Nat) (M2:List Nat),v3=.pointer (some ⟨N1,0,none⟩)/\PH (pkP w g) (l,false) M2 ((N1,65,#[.string ⟨#[]⟩,.string ⟨#[]⟩,.string ⟨#[]⟩,.int .i64 1,.int .i64 0,.int .i64 0,.slice none 0 0,.slice none 0 0])::(N,65,#[.string ⟨#[]⟩,.string ⟨#[]⟩,.string ⟨#[]⟩,.int .i64 0,.int .i64 0,.int .i64 0,.slice none 0 0,.slice none 0 0])::bx) rs L w')
 case first =>
  go_region_law (first | (go_simp;go_at_call 138;(first | refine (nextT_any T.out.drew).mono ?_ | refine (nextT_any (T.out.drew.new (N:=W1.heap.size) #[.string ⟨#[]⟩,.string ⟨#[]⟩,.string ⟨#[]⟩,.int .i64 0,.int .i64 0,.int .i64 0,.slice none 0 0,.slice none 0 0] 65 rfl)).mono ?_);rintro e w3 ⟨rfl,h3⟩;have T2:=aI h3;clear h3;have B:=T2.out.box (.head _);obtain ⟨z0,z1,z2,z3,z4,z5,z6,z7⟩:=aN8 B.cell;obtain ⟨f0,f1,f2,f3,f4,f5,f6,f7⟩:=aN8 B.frozen;simp at z0 z1 z2 z3 z4 z5 z6 z7;dsimp only at f0 f1 f2 f3 f4 f5 f6 f7;clear B) | (go_simp;go_at_call 167;(first | refine (CI.out _ (HENV.out _ _ _ _ T2.out)).mono ?_ | refine (CI.out _ (HENV.out _ _ _ _ (T2.out.new #[.string ⟨#[]⟩,.string ⟨#[]⟩,.string ⟨#[]⟩,.int .i64 0,.int .i64 0,.int .i64 0,.slice none 0 0,.slice none 0 0] 65 rfl))).mono ?_);rintro e w4 ⟨rfl,rfl⟩))
  all_goals
   go_wp2_with fail
   go_meet
   case rel=>first | exact ⟨_,_,rfl,T2.out.new _ _ rfl⟩ | exact ⟨_,_,rfl,(((((((T2.out.set0 0 _).set0 1 _).set0 2 _).set0 3 _).set0 4 _).set0 5 _).set0 6 _).set0 7 _⟩
 case rest =>
  obtain ⟨N1,M2,rfl,hT⟩:=hcut
  replace T:=aI hT
  clear hT CI HENV W1
  have B:=T.out.box (.head _);obtain ⟨z0,z1,z2,z3,z4,z5,z6,z7⟩:=aN8 B.cell;obtain ⟨f0,f1,f2,f3,f4,f5,f6,f7⟩:=aN8 B.frozen;simp at z0 z1 z2 z3 z4 z5 z6 z7;dsimp only at f0 f1 f2 f3 f4 f5 f6 f7;clear B
  go_upto_region 27 with (first | (go_at_call 143;(with_reducible refine (nameR_any T.out).mono ?_);rintro e w1 ⟨n1,st1,rfl,i1,x1,h1⟩;replace T:=aI h1;have X1:=aI x1;have I1:=aI i1;clear h1 x1 i1;(try clear z0 z1 z2 z3 z4 z5 z6 z7 f0 f1 f2 f3 f4 f5 f6 f7);have B:=T.out.box (.head _);obtain ⟨z0,z1,z2,z3,z4,z5,z6,z7⟩:=aN8 B.cell;obtain ⟨f0,f1,f2,f3,f4,f5,f6,f7⟩:=aN8 B.frozen;simp at z0 z1 z2 z3 z4 z5 z6 z7;dsimp only at f0 f1 f2 f3 f4 f5 f6 f7;clear B) | (go_at_call 143;(with_reducible refine (nameR_any (T.out.set0 0 _)).mono ?_);rintro e w2 ⟨n2,st2,rfl,i2,x2,h2⟩;replace T:=aI h2;have X2:=aI x2;have I2:=aI i2;clear h2 x2 i2;(try clear z0 z1 z2 z3 z4 z5 z6 z7 f0 f1 f2 f3 f4 f5 f6 f7);have B:=T.out.box (.head _);obtain ⟨z0,z1,z2,z3,z4,z5,z6,z7⟩:=aN8 B.cell;obtain ⟨f0,f1,f2,f3,f4,f5,f6,f7⟩:=aN8 B.frozen;simp at z0 z1 z2 z3 z4 z5 z6 z7;dsimp only at f0 f1 f2 f3 f4 f5 f6 f7;clear B) | (go_at_call 102;(with_reducible refine (num_any' HE.out (T.out.set0 1 _)).mono ?_);rintro e w3 ⟨n3,st3,rfl,i3,x3,h3⟩;replace T:=aI h3;have X3:=aI x3;have I3:=aI i3;clear h3 x3 i3;(try clear z0 z1 z2 z3 z4 z5 z6 z7 f0 f1 f2 f3 f4 f5 f6 f7);have B:=T.out.box (.head _);obtain ⟨z0,z1,z2,z3,z4,z5,z6,z7⟩:=aN8 B.cell;obtain ⟨f0,f1,f2,f3,f4,f5,f6,f7⟩:=aN8 B.frozen;simp at z0 z1 z2 z3 z4 z5 z6 z7;dsimp only at f0 f1 f2 f3 f4 f5 f6 f7;clear B) | (go_at_call 102;(with_reducible refine (num_any' HE.out (T.out.set0 4 _)).mono ?_);rintro e w4 ⟨n4,st4,rfl,i4,x4,h4⟩;replace T:=aI h4;have X4:=aI x4;have I4:=aI i4;clear h4 x4 i4;(try clear z0 z1 z2 z3 z4 z5 z6 z7 f0 f1 f2 f3 f4 f5 f6 f7);have B:=T.out.box (.head _);obtain ⟨z0,z1,z2,z3,z4,z5,z6,z7⟩:=aN8 B.cell;obtain ⟨f0,f1,f2,f3,f4,f5,f6,f7⟩:=aN8 B.frozen;simp at z0 z1 z2 z3 z4 z5 z6 z7;dsimp only at f0 f1 f2 f3 f4 f5 f6 f7;clear B))
  have T7:=aI (show PH (pkP w g) st4 _ ((N1,65,#[.string (Sx.ofT n1),.string (Sx.ofT n2),.string ⟨#[]⟩,.int .i64 1,.int .i64 n3,.int .i64 n4,.slice none 0 0,.slice none 0 0])::(N,65,#[.string ⟨#[]⟩,.string ⟨#[]⟩,.string ⟨#[]⟩,.int .i64 0,.int .i64 0,.int .i64 0,.slice none 0 0,.slice none 0 0])::bx) rs L _ from T.out.set0 5 (.int .i64 n4))
  clear T;(try clear z0 z1 z2 z3 z4 z5 z6 z7 f0 f1 f2 f3 f4 f5 f6 f7)
  generalize w4.setCell ⟨N1,5,none⟩ (.int .i64 n4)=W8 at *
  have B:=T7.out.box (.head _);obtain ⟨z0,z1,z2,z3,z4,z5,z6,z7⟩:=aN8 B.cell
  have C:=T7.out.box (.tail _ (.head _));obtain ⟨y0,y1,y2,y3,y4,y5,y6,y7⟩:=aN8 C.cell;obtain ⟨f0,f1,f2,f3,f4,f5,f6,f7⟩:=aN8 C.frozen
  simp at z0 z1 z2 z3 z4 z5 z6 z7 y0 y1 y2 y3 y4 y5 y6 y7
  dsimp only at f0 f1 f2 f3 f4 f5 f6 f7
  clear B C
  have T8:=aI (show PH (pkP w g) st4 _ ((N,65,#[.string (Sx.ofT n1),.string (Sx.ofT n2),.string ⟨#[]⟩,.int .i64 1,.int .i64 n3,.int .i64 n4,.slice none 0 0,.slice none 0 0])::(N1,65,#[.string (Sx.ofT n1),.string (Sx.ofT n2),.string ⟨#[]⟩,.int .i64 1,.int .i64 n3,.int .i64 n4,.slice none 0 0,.slice none 0 0])::bx) rs L _ from ((((((((T7.out.bswap.set0 0 (.string (Sx.ofT n1))).set0 1 (.string (Sx.ofT n2))).set0 2 (.string ⟨#[]⟩)).set0 3 (.int .i64 1)).set0 4 (.int .i64 n3)).set0 5 (.int .i64 n4)).set0 6 (.slice none 0 0)).set0 7 (.slice none 0 0)))
  go_wp2_with fail
  clear y0 y1 y2 y3 y4 y5 y6 y7
  have C:=T8.out.box (.head _);obtain ⟨y0,y1,y2,y3,y4,y5,y6,y7⟩:=aN8 C.cell
  simp at y0 y1 y2 y3 y4 y5 y6 y7
  have z:inI 0:=by constructor <;> decide
  have zk:inI 1:=by constructor <;> decide
  have zz:=Nat.zero_le 9223372036854775807
  refine bodyPost_ret (v:=.agg #[.string (Sx.ofT n1),.string (Sx.ofT n2),.string ⟨#[]⟩,.int .i64 1,.int .i64 n3,.int .i64 n4,.slice none 0 0,.slice none 0 0]) ?_ rfl ?_
  ·simp [results,Tryz.results147,go_sem,y0,y1,y2,y3,y4,y5,y6,y7]
  ·exact ⟨(Sx.ofT n1,Sx.ofT n2,Sx.ofT [],1,n3,n4,[],[]),_,st4,_,rfl,Sx.nx_field HW.out (Sx.nx_bind X1.out (show Sx.Nx (fun l=>(Sx.name l).bind fun o l=>(Sx.number l).bind fun lo l=>(Sx.number l).bind fun hi l=>.ok (Sx.ofT n1,Sx.ofT o,Sx.ofT [],1,lo,hi,[],[]) l) st1 _ _ from Sx.nx_bind X2.out (Sx.nx_bind X3.out (Sx.nx_bind X4.out (Sx.nx_ret _ _))))),T8.out.unbox.unbox.add (keeps_rep _ _) (fld_rep (ah I1.out (by decide)) (ah I2.out (by decide)) empty_size zk I3.out I4.out .nil .nil (ag _) zz (ag _) zz)⟩
end
section
variable {w:World} {g:Nat} {M:List Nat} {bx:List Box} {rs:List Rw} {L:List (List Nat->World->Prop)} {W:World}
theorem field2_any {t:Sx.Tok} {l:List Sx.Tok} (he:SEnv w) (hw:Sx.wordOf t.1=some 2) (h:PH (pkP w g) (t::l,false) M bx rs L W):Calls Tryz.prog 147 #[.pointer (some ⟨g,0,none⟩)] W (RdA (pkP w g) Sx.field (t::l,false) bx rs L):=by
 obtain ⟨N,hN⟩:=aX W.heap.size
 have T:=aI (h.new #[.string ⟨#[]⟩,.string ⟨#[]⟩,.string ⟨#[]⟩,.int .i64 0,.int .i64 0,.int .i64 0,.slice none 0 0,.slice none 0 0] 65 hN)
 have HE:=aI he
 have CI:=aI (fun W h=>idxW_any t.1 W h)
 rw [Sx.wordI_some hw] at CI
 have HENV:=aI (fun (st:Sx.St) (M:List Nat) (bx:List Box) (W:World) (h:PH (pkP w g) st M bx rs L W)=>ph_env he h)
 have HW:=aI hw
 clear h he hw
 go_enter Tryz.func147,Tryz.ntmps147
 go_upto_region 1 with fail
 generalize W.alloc (.cells #[.string ⟨#[]⟩,.string ⟨#[]⟩,.string ⟨#[]⟩,.int .i64 0,.int .i64 0,.int .i64 0,.slice none 0 0,.slice none 0 0] 65)=W1 at *
 go_cut [3] from 5 to 9 (fun v3 w'=>∃ (N1:Nat) (M2:List Nat),v3=.pointer (some ⟨N1,0,none⟩)/\PH (pkP w g) (l,false) M2 ((N1,65,#[.string ⟨#[]⟩,.string ⟨#[]⟩,.string ⟨#[]⟩,.int .i64 2,.int .i64 0,.int .i64 0,.slice none 0 0,.slice none 0 0])::(N,65,#[.string ⟨#[]⟩,.string ⟨#[]⟩,.string ⟨#[]⟩,.int .i64 0,.int .i64 0,.int .i64 0,.slice none 0 0,.slice none 0 0])::bx) rs L w')
 case first =>
  go_region_law (first | (go_simp;go_at_call 138;(first | refine (nextT_any T.out.drew).mono ?_ | refine (nextT_any (T.out.drew.new (N:=W1.heap.size) #[.string ⟨#[]⟩,.string ⟨#[]⟩,.string ⟨#[]⟩,.int .i64 0,.int .i64 0,.int .i64 0,.slice none 0 0,.slice none 0 0] 65 rfl)).mono ?_);rintro e w3 ⟨rfl,h3⟩;have T2:=aI h3;clear h3;have B:=T2.out.box (.head _);obtain ⟨z0,z1,z2,z3,z4,z5,z6,z7⟩:=aN8 B.cell;obtain ⟨f0,f1,f2,f3,f4,f5,f6,f7⟩:=aN8 B.frozen;simp at z0 z1 z2 z3 z4 z5 z6 z7;dsimp only at f0 f1 f2 f3 f4 f5 f6 f7;clear B) | (go_simp;go_at_call 167;(first | refine (CI.out _ (HENV.out _ _ _ _ T2.out)).mono ?_ | refine (CI.out _ (HENV.out _ _ _ _ (T2.out.new #[.string ⟨#[]⟩,.string ⟨#[]⟩,.string ⟨#[]⟩,.int .i64 0,.int .i64 0,.int .i64 0,.slice none 0 0,.slice none 0 0] 65 rfl))).mono ?_);rintro e w4 ⟨rfl,rfl⟩))
  all_goals
   go_wp2_with fail
   go_meet
   case rel=>first | exact ⟨_,_,rfl,T2.out.new _ _ rfl⟩ | exact ⟨_,_,rfl,(((((((T2.out.set0 0 _).set0 1 _).set0 2 _).set0 3 _).set0 4 _).set0 5 _).set0 6 _).set0 7 _⟩
 case rest =>
  obtain ⟨N1,M2,rfl,hT⟩:=hcut
  replace T:=aI hT
  clear hT CI HENV W1
  have B:=T.out.box (.head _);obtain ⟨z0,z1,z2,z3,z4,z5,z6,z7⟩:=aN8 B.cell;obtain ⟨f0,f1,f2,f3,f4,f5,f6,f7⟩:=aN8 B.frozen;simp at z0 z1 z2 z3 z4 z5 z6 z7;dsimp only at f0 f1 f2 f3 f4 f5 f6 f7;clear B
  go_upto_region 27 with (first | (go_at_call 143;(with_reducible refine (nameR_any T.out).mono ?_);rintro e w1 ⟨n1,st1,rfl,i1,x1,h1⟩;replace T:=aI h1;have X1:=aI x1;have I1:=aI i1;clear h1 x1 i1;(try clear z0 z1 z2 z3 z4 z5 z6 z7 f0 f1 f2 f3 f4 f5 f6 f7);have B:=T.out.box (.head _);obtain ⟨z0,z1,z2,z3,z4,z5,z6,z7⟩:=aN8 B.cell;obtain ⟨f0,f1,f2,f3,f4,f5,f6,f7⟩:=aN8 B.frozen;simp at z0 z1 z2 z3 z4 z5 z6 z7;dsimp only at f0 f1 f2 f3 f4 f5 f6 f7;clear B) | (go_at_call 102;(with_reducible refine (num_any' HE.out (T.out.set0 0 _)).mono ?_);rintro e w2 ⟨n2,st2,rfl,i2,x2,h2⟩;replace T:=aI h2;have X2:=aI x2;have I2:=aI i2;clear h2 x2 i2;(try clear z0 z1 z2 z3 z4 z5 z6 z7 f0 f1 f2 f3 f4 f5 f6 f7);have B:=T.out.box (.head _);obtain ⟨z0,z1,z2,z3,z4,z5,z6,z7⟩:=aN8 B.cell;obtain ⟨f0,f1,f2,f3,f4,f5,f6,f7⟩:=aN8 B.frozen;simp at z0 z1 z2 z3 z4 z5 z6 z7;dsimp only at f0 f1 f2 f3 f4 f5 f6 f7;clear B) | (go_at_call 102;(with_reducible refine (num_any' HE.out (T.out.set0 4 _)).mono ?_);rintro e w3 ⟨n3,st3,rfl,i3,x3,h3⟩;replace T:=aI h3;have X3:=aI x3;have I3:=aI i3;clear h3 x3 i3;(try clear z0 z1 z2 z3 z4 z5 z6 z7 f0 f1 f2 f3 f4 f5 f6 f7);have B:=T.out.box (.head _);obtain ⟨z0,z1,z2,z3,z4,z5,z6,z7⟩:=aN8 B.cell;obtain ⟨f0,f1,f2,f3,f4,f5,f6,f7⟩:=aN8 B.frozen;simp at z0 z1 z2 z3 z4 z5 z6 z7;dsimp only at f0 f1 f2 f3 f4 f5 f6 f7;clear B))
  have T7:=aI (show PH (pkP w g) st3 _ ((N1,65,#[.string (Sx.ofT n1),.string ⟨#[]⟩,.string ⟨#[]⟩,.int .i64 2,.int .i64 n2,.int .i64 n3,.slice none 0 0,.slice none 0 0])::(N,65,#[.string ⟨#[]⟩,.string ⟨#[]⟩,.string ⟨#[]⟩,.int .i64 0,.int .i64 0,.int .i64 0,.slice none 0 0,.slice none 0 0])::bx) rs L _ from T.out.set0 5 (.int .i64 n3))
  clear T;(try clear z0 z1 z2 z3 z4 z5 z6 z7 f0 f1 f2 f3 f4 f5 f6 f7)
  generalize w3.setCell ⟨N1,5,none⟩ (.int .i64 n3)=W8 at *
  have B:=T7.out.box (.head _);obtain ⟨z0,z1,z2,z3,z4,z5,z6,z7⟩:=aN8 B.cell
  have C:=T7.out.box (.tail _ (.head _));obtain ⟨y0,y1,y2,y3,y4,y5,y6,y7⟩:=aN8 C.cell;obtain ⟨f0,f1,f2,f3,f4,f5,f6,f7⟩:=aN8 C.frozen
  simp at z0 z1 z2 z3 z4 z5 z6 z7 y0 y1 y2 y3 y4 y5 y6 y7
  dsimp only at f0 f1 f2 f3 f4 f5 f6 f7
  clear B C
  have T8:=aI (show PH (pkP w g) st3 _ ((N,65,#[.string (Sx.ofT n1),.string ⟨#[]⟩,.string ⟨#[]⟩,.int .i64 2,.int .i64 n2,.int .i64 n3,.slice none 0 0,.slice none 0 0])::(N1,65,#[.string (Sx.ofT n1),.string ⟨#[]⟩,.string ⟨#[]⟩,.int .i64 2,.int .i64 n2,.int .i64 n3,.slice none 0 0,.slice none 0 0])::bx) rs L _ from ((((((((T7.out.bswap.set0 0 (.string (Sx.ofT n1))).set0 1 (.string ⟨#[]⟩)).set0 2 (.string ⟨#[]⟩)).set0 3 (.int .i64 2)).set0 4 (.int .i64 n2)).set0 5 (.int .i64 n3)).set0 6 (.slice none 0 0)).set0 7 (.slice none 0 0)))
  go_wp2_with fail
  clear y0 y1 y2 y3 y4 y5 y6 y7
  have C:=T8.out.box (.head _);obtain ⟨y0,y1,y2,y3,y4,y5,y6,y7⟩:=aN8 C.cell
  simp at y0 y1 y2 y3 y4 y5 y6 y7
  have z:inI 0:=by constructor <;> decide
  have zk:inI 2:=by constructor <;> decide
  have zz:=Nat.zero_le 9223372036854775807
  refine bodyPost_ret (v:=.agg #[.string (Sx.ofT n1),.string ⟨#[]⟩,.string ⟨#[]⟩,.int .i64 2,.int .i64 n2,.int .i64 n3,.slice none 0 0,.slice none 0 0]) ?_ rfl ?_
  ·simp [results,Tryz.results147,go_sem,y0,y1,y2,y3,y4,y5,y6,y7]
  ·exact ⟨(Sx.ofT n1,Sx.ofT [],Sx.ofT [],2,n2,n3,[],[]),_,st3,_,rfl,Sx.nx_field HW.out (Sx.nx_bind X1.out (show Sx.Nx (fun l=>(Sx.number l).bind fun lo l=>(Sx.number l).bind fun hi l=>.ok (Sx.ofT n1,Sx.ofT [],Sx.ofT [],2,lo,hi,[],[]) l) st1 _ _ from Sx.nx_bind X2.out (Sx.nx_bind X3.out (Sx.nx_ret _ _)))),T8.out.unbox.unbox.add (keeps_rep _ _) (fld_rep (ah I1.out (by decide)) empty_size empty_size zk I2.out I3.out .nil .nil (ag _) zz (ag _) zz)⟩
end
theorem PH.rswap {K:PK} {st:Sx.St} {M:List Nat} {bx:List Box} {rs:List Rw} {r s:Rw} {L:List (List Nat->World->Prop)} {W:World} (h:PH K st M bx (r::s::rs) L W):PH K st M bx (s::r::rs) L W:=h.perm (List.Perm.swap _ _ _)
theorem infoI:(Tryz.prog.info? 3).map (fun i=>(i.zero,i.size,i.bytes))=some (some (.int .i64 0),1,8):=by kernel_rfl
section
variable {w:World} {g:Nat} {M:List Nat} {bx:List Box} {rs:List Rw} {L:List (List Nat->World->Prop)} {W:World}
theorem field3_any {t:Sx.Tok} {l:List Sx.Tok} (he:SEnv w) (hw:Sx.wordOf t.1=some 3) (h:PH (pkP w g) (t::l,false) M bx rs L W):Calls Tryz.prog 147 #[.pointer (some ⟨g,0,none⟩)] W (RdA (pkP w g) Sx.field (t::l,false) bx rs L):=by
 obtain ⟨N,hN⟩:=aX W.heap.size
 have T:=aI (h.new #[.string ⟨#[]⟩,.string ⟨#[]⟩,.string ⟨#[]⟩,.int .i64 0,.int .i64 0,.int .i64 0,.slice none 0 0,.slice none 0 0] 65 hN)
 have HE:=aI he
 have CI:=aI (fun W h=>idxW_any t.1 W h)
 rw [Sx.wordI_some hw] at CI
 have HENV:=aI (fun (st:Sx.St) (M:List Nat) (bx:List Box) (W:World) (h:PH (pkP w g) st M bx rs L W)=>ph_env he h)
 have HW:=aI hw
 clear h he hw
 go_enter Tryz.func147,Tryz.ntmps147
 go_upto_region 1 with fail
 generalize W.alloc (.cells #[.string ⟨#[]⟩,.string ⟨#[]⟩,.string ⟨#[]⟩,.int .i64 0,.int .i64 0,.int .i64 0,.slice none 0 0,.slice none 0 0] 65)=W1 at *
 go_cut [3] from 5 to 9 (fun v3 w'=>∃ (N1:Nat) (M2:List Nat),v3=.pointer (some ⟨N1,0,none⟩)/\PH (pkP w g) (l,false) M2 ((N1,65,#[.string ⟨#[]⟩,.string ⟨#[]⟩,.string ⟨#[]⟩,.int .i64 3,.int .i64 0,.int .i64 0,.slice none 0 0,.slice none 0 0])::(N,65,#[.string ⟨#[]⟩,.string ⟨#[]⟩,.string ⟨#[]⟩,.int .i64 0,.int .i64 0,.int .i64 0,.slice none 0 0,.slice none 0 0])::bx) rs L w')
 case first =>
  go_region_law (first | (go_simp;go_at_call 138;(first | refine (nextT_any T.out.drew).mono ?_ | refine (nextT_any (T.out.drew.new (N:=W1.heap.size) #[.string ⟨#[]⟩,.string ⟨#[]⟩,.string ⟨#[]⟩,.int .i64 0,.int .i64 0,.int .i64 0,.slice none 0 0,.slice none 0 0] 65 rfl)).mono ?_);rintro e w3 ⟨rfl,h3⟩;have T2:=aI h3;clear h3;have B:=T2.out.box (.head _);obtain ⟨z0,z1,z2,z3,z4,z5,z6,z7⟩:=aN8 B.cell;obtain ⟨f0,f1,f2,f3,f4,f5,f6,f7⟩:=aN8 B.frozen;simp at z0 z1 z2 z3 z4 z5 z6 z7;dsimp only at f0 f1 f2 f3 f4 f5 f6 f7;clear B) | (go_simp;go_at_call 167;(first | refine (CI.out _ (HENV.out _ _ _ _ T2.out)).mono ?_ | refine (CI.out _ (HENV.out _ _ _ _ (T2.out.new #[.string ⟨#[]⟩,.string ⟨#[]⟩,.string ⟨#[]⟩,.int .i64 0,.int .i64 0,.int .i64 0,.slice none 0 0,.slice none 0 0] 65 rfl))).mono ?_);rintro e w4 ⟨rfl,rfl⟩))
  all_goals
   go_wp2_with fail
   go_meet
   case rel=>first | exact ⟨_,_,rfl,T2.out.new _ _ rfl⟩ | exact ⟨_,_,rfl,(((((((T2.out.set0 0 _).set0 1 _).set0 2 _).set0 3 _).set0 4 _).set0 5 _).set0 6 _).set0 7 _⟩
 case rest =>
  obtain ⟨N1,M2,rfl,hT⟩:=hcut
  replace T:=aI hT
  clear hT CI HENV W1
  have B:=T.out.box (.head _);obtain ⟨z0,z1,z2,z3,z4,z5,z6,z7⟩:=aN8 B.cell;obtain ⟨f0,f1,f2,f3,f4,f5,f6,f7⟩:=aN8 B.frozen;simp at z0 z1 z2 z3 z4 z5 z6 z7;dsimp only at f0 f1 f2 f3 f4 f5 f6 f7;clear B
  go_wp2_with (first | (go_at_call 143;(with_reducible refine (nameR_any T.out).mono ?_);rintro e w1 ⟨n1,st1,rfl,i1,x1,h1⟩;replace T:=aI h1;have X1:=aI x1;have I1:=aI i1;clear h1 x1 i1;(try clear z0 z1 z2 z3 z4 z5 z6 z7 f0 f1 f2 f3 f4 f5 f6 f7);have B:=T.out.box (.head _);obtain ⟨z0,z1,z2,z3,z4,z5,z6,z7⟩:=aN8 B.cell;obtain ⟨f0,f1,f2,f3,f4,f5,f6,f7⟩:=aN8 B.frozen;simp at z0 z1 z2 z3 z4 z5 z6 z7;dsimp only at f0 f1 f2 f3 f4 f5 f6 f7;clear B) | (go_at_call 148;(with_reducible refine (cntR_any HE.out (T.out.set0 0 _)).mono ?_);rintro e w2 ⟨n0,stc,rfl,i3,x3,hc3,h3⟩;replace T:=aI h3;have X3:=aI x3;have I3:=aI i3;have HC3:=aI hc3;clear h3 x3 i3 hc3;(try clear z0 z1 z2 z3 z4 z5 z6 z7 f0 f1 f2 f3 f4 f5 f6 f7)))
  replace T:=aI (show PH (pkP w g) stc _ ((N1,65,#[.string (Sx.ofT n1),.string ⟨#[]⟩,.string ⟨#[]⟩,.int .i64 3,.int .i64 0,.int .i64 0,.slice none 0 0,.slice none 0 0])::(N,65,#[.string ⟨#[]⟩,.string ⟨#[]⟩,.string ⟨#[]⟩,.int .i64 0,.int .i64 0,.int .i64 0,.slice none 0 0,.slice none 0 0])::bx) (⟨9,1,.slice none 0 0,0,[]⟩::⟨3,1,.slice none 0 0,0,[]⟩::rs) ((fun M W=>Flat M W ([]:List ByteArray) [])::(fun M W=>Flat M W ([]:List Int) [])::L) w2 from (((T.out.push 3 1).push 9 1).add (keeps_flat ([]:List Int) []) rfl).add (keeps_flat ([]:List ByteArray) []) rfl)
  have HX0:=aI (show ∀ x st',Sx.Nx (Sx.picks n0.toNat [] []) stc x st'->Sx.Nx (Sx.picks n0.toNat [] []) stc x st' from fun _ _ h=>h)
  go_loopg [4] (if stc.2=true then 0 else n0.toNat) (fun r v4 wr=>∃ (i:Int) (st1:Sx.St) (acc:List ByteArray) (ns:List Int) (xs ys:List Value) (M1:List Nat) (u v:Value),v4=.int .i64 i/\PH (pkP w g) st1 M1 ((N1,65,#[.string (Sx.ofT n1),.string ⟨#[]⟩,.string ⟨#[]⟩,.int .i64 3,.int .i64 0,.int .i64 0,u,v])::(N,65,#[.string ⟨#[]⟩,.string ⟨#[]⟩,.string ⟨#[]⟩,.int .i64 0,.int .i64 0,.int .i64 0,.slice none 0 0,.slice none 0 0])::bx) (⟨9,1,u,acc.length,xs⟩::⟨3,1,v,ns.length,ys⟩::rs) ((fun M W=>Flat M W acc xs)::(fun M W=>Flat M W ns ys)::L) wr/\inI i/\(if st1.2=true then 0 else i.toNat)=r/\(st1.2=false->i<=12)/\acc.length+r<=100/\ns.length=acc.length/\(∀ x st',Sx.Nx (Sx.picks i.toNat acc ns) st1 x st'->Sx.Nx (Sx.picks n0.toNat [] []) stc x st'))
  case atStart=>exact ⟨n0,stc,[],[],[],[],_,_,_,rfl,T.out,I3.out,rfl,fun h=>(HC3.out h).2,by
   show 0+(if stc.2=true then 0 else n0.toNat)<=100
   split
   ·omega
   ·rename_i hf;have:=HC3.out (by simpa using hf);omega,rfl,HX0.out⟩
  case round =>
   obtain ⟨i,st1,acc,ns,xs,ys,M1,u,v,rfl,hH,hi,hlf,h12,hal,hnl,hnx⟩:=hrel
   obtain ⟨wo,rfl⟩:=aY wr
   replace T:=aI hH
   have HX:=aI hnx
   have HI:=aI hi
   have H12:=aI h12
   have HLF:=aI hlf
   have HNL:=aI hnl
   have HAL:=aI hal
   clear hH hnx hlf hi h12 HX0 hnl hal
   obtain ⟨l1,f⟩:=st1
   obtain ⟨A7,c7,rfl⟩:=T.out.form
   obtain ⟨B7,d7,rfl⟩:=T.out.rswap.form
   obtain ⟨cs9,hb9,A9,c9,rfl,_⟩:=T.out.pbox
   have z9:=hb9.cell 1
   simp at z9
   clear hb9
   have HA8:=aI (show acc.length<=100 by have:=HAL.out;omega)
   have HN8:=aI (show ns.length<=100 by have:=HAL.out;have:=HNL.out;omega)
   by_cases hgo:0 < i/\f=false
   ·obtain ⟨hi0,rfl⟩:=hgo
    have t1:decide (0 < i)=true:=ac hi0
    have q:=T.out.box (.head _);have q6:=q.cell 6;have q7:=q.cell 7;(simp at q6 q7);clear q
    go_wp2_with fail
    go_region_law (first | (obtain ⟨i0,hI,hz0,hz1,hz2⟩:=info_parts infoStr;refine step_append_ph (by rfl) _ _ 54 (by rfl) 9 i0 _ 1 16 Tryz.underlying54 hI hz0 hz1 hz2 rfl (by decide) (T2.out.below (aP _ _)) (by rfl) _ _ 1 1 [.string (Sx.ofT t3)] (by rfl) (reads_blk (Blk.new _ _ _) rfl) (by simp [Value.oneCell']) (by have:=HA8.out;unfold maxLen;omega) (by have:=HA8.out;omega) ?_;intro v7 w7 M7 h7 _;obtain ⟨A8,c8,rfl⟩:=h7.form;have q:=h7.box (.head _);have q6:=q.cell 6;(simp at q6);have f6:=q.frozen 6;(dsimp only at f6);clear q;have T3:=aI h7;clear h7 hI hz0 hz1 hz2) | (go_simp;go_at_call 143;refine (nameR_any T.out.drew).mono ?_;rintro e w3 ⟨t3,st3,rfl,i3,x3,h3⟩;have q:=h3.box (.head _);have q6:=q.cell 6;(simp at q6);clear q;have T2:=aI h3;have X4:=aI x3;have I4:=aI i3;have q1b:∀ o,(w3.alloc o).cell? ⟨N1,6,none⟩=some (.slice A7 acc.length c7):=(fun o=>by have q:=(T2.out.below ((Below.refl _ _).alloc (ag _) o)).box (.head _);have q:=q.cell 6;simpa using q);clear h3 x3 i3))
    all_goals
     have T4:=aI ((((T3.out.set0 6 (.slice A8 (acc.length+1) c8)).flat (Flat.single (us:=[.string (Sx.ofT t3)]) ⟨rfl,ah I4.out (by decide)⟩))).rswap.fswap)
     clear T T2 T3 q1b q6 q7
     (try clear f6)
     replace T4:=aI (show PH (pkP w g) st3 M7 ((N1,65,#[.string (Sx.ofT n1),.string ⟨#[]⟩,.string ⟨#[]⟩,.int .i64 3,.int .i64 0,.int .i64 0,.slice A8 (acc.length+1) c8,.slice B7 ns.length d7])::(N,65,#[.string ⟨#[]⟩,.string ⟨#[]⟩,.string ⟨#[]⟩,.int .i64 0,.int .i64 0,.int .i64 0,.slice none 0 0,.slice none 0 0])::bx) (⟨3,1,.slice B7 ns.length d7,ns.length,ys⟩::⟨9,1,.slice A8 (acc.length+1) c8,acc.length+1,xs++[.string (Sx.ofT t3)]⟩::rs) ((fun M W=>Flat M W ns ys)::(fun M W=>Flat M W (acc++[Sx.ofT t3]) (xs++[.string (Sx.ofT t3)]))::L) _ from T4.out)
     generalize w7.setCell ⟨N1,6,none⟩ (.slice A8 (acc.length+1) c8)=W9 at *
     have q:=T4.out.box (.head _);have q7:=q.cell 7;(simp at q7);clear q
     go_wp2_with fail
     go_region_law (first | (obtain ⟨i0,hI,hz0,hz1,hz2⟩:=info_parts infoI;refine step_append_ph (by rfl) _ _ 22 (by rfl) 3 i0 _ 1 8 Tryz.underlying22 hI hz0 hz1 hz2 rfl (by decide) (T5.out.below (aP _ _)) (by rfl) _ _ 1 1 [.int .i64 t5] (by rfl) (reads_blk (Blk.new _ _ _) rfl) (by simp [Value.oneCell']) (by have:=HN8.out;unfold maxLen;omega) (by have:=HN8.out;omega) ?_;intro v8 w8 M8 h8 _;obtain ⟨B8,d8,rfl⟩:=h8.form;have q:=h8.box (.head _);have q7:=q.cell 7;(simp at q7);have f7:=q.frozen 7;(dsimp only at f7);clear q;have T6:=aI h8;clear h8 hI hz0 hz1 hz2) | (go_simp;go_at_call 102;refine (num_any' HE.out T4.out.drew).mono ?_;rintro e w5 ⟨t5,st5,rfl,i5,x5,h5⟩;have q:=h5.box (.head _);have q7:=q.cell 7;(simp at q7);clear q;have T5:=aI h5;have X5:=aI x5;have I5:=aI i5;have q1b:∀ o,(w5.alloc o).cell? ⟨N1,7,none⟩=some (.slice B7 ns.length d7):=(fun o=>by have q:=(T5.out.below ((Below.refl _ _).alloc (ag _) o)).box (.head _);have q:=q.cell 7;simpa using q);clear h5 x5 i5))
     all_goals
      have T7:=aI ((((T6.out.set0 7 (.slice B8 (ns.length+1) d8)).flat (Flat.single (us:=[.int .i64 t5]) ⟨rfl,I5.out⟩))).rswap.fswap)
      have hw2:IntKind.i64.wrap (i - 1)=i - 1:=wrapI (by have:=HI.out;unfold inI at this ⊢;omega)
      have HW2:=aI hw2
      clear T4 T5 T6 q1b
      go_wp2_with fail
      go_roundg (if st5.2=true then 0 else (i - 1).toNat)
      case measure =>
       have h1:=HLF.out
       rw [if_neg (by simp)] at h1
       split <;> omega
      case rel =>
       have h1:=HLF.out
       have h2:=HAL.out
       rw [if_neg (by simp)] at h1
       refine ⟨i - 1,st5,acc++[Sx.ofT t3],ns++[t5],_,_,M8,_,_,by first | rfl | (rw [HW2.out]),by rw [aK,aK];exact T7.out,by have:=HI.out;unfold inI at this ⊢;omega,rfl,fun _=>by have:=H12.out (by simp);omega,by rw [aK,List.length_singleton];split <;> omega,by rw [aK,aK,HNL.out];rfl,fun x st' hx=>HX.out _ _ ?_⟩
       rw [show i.toNat=(i - 1).toNat+1 by omega]
       exact Sx.nx_bind X4.out (Sx.nx_bind X5.out hx)
   ·have HST:=aI (show Sx.Nx (Sx.picks i.toNat acc ns) (l1,f) (acc,ns) (l1,f) by
     cases f
     ·rw [show i.toNat=0 by
        have:¬ 0 < i:=fun h=>hgo ⟨h,rfl⟩
        omega]
      exact Sx.nx_ret _ _
     ·exact Sx.nx_failed)
    obtain ⟨A,c,M',hv,hc1,hc2,h4,_⟩:=T.out.freeze (α:=ByteArray) rfl rfl (T.out.fact (.head _))
    injection hv with hv1 hv2 hv3
    subst hv1 hv3
    obtain ⟨B,d,M4,hv,hd1,hd2,h5,_⟩:=h4.freeze (α:=Int) rfl rfl (h4.fact (.tail _ (.tail _ (.head _))))
    injection hv with hv1 hv2 hv3
    subst hv1 hv3
    replace T:=aI (show PH (pkP w g) (l1,f) M4 ((N1,65,#[.string (Sx.ofT n1),.string ⟨#[]⟩,.string ⟨#[]⟩,.int .i64 3,.int .i64 0,.int .i64 0,.slice A7 acc.length c7,.slice B7 ns.length d7])::(N,65,#[.string ⟨#[]⟩,.string ⟨#[]⟩,.string ⟨#[]⟩,.int .i64 0,.int .i64 0,.int .i64 0,.slice none 0 0,.slice none 0 0])::bx) rs ((fun M W=>SlAt M W B7 ns)::(fun M W=>SlAt M W A7 acc)::L) wo from h5.less fun P hP=>by
     rcases aL hP with rfl | hP
     ·exact .head _
     ·rcases aL hP with rfl | hP
      ·exact .tail _ (.head _)
      ·exact .tail _ (.tail _ (.tail _ (.tail _ hP))))
    clear h4 h5
    have HCC:=aI (show (acc.length<=c7/\c7<=9223372036854775807)/\ns.length<=d7/\d7<=9223372036854775807 from ⟨⟨hc1,hc2⟩,hd1,hd2⟩)
    clear hc1 hc2 hd1 hd2
    have hcase:decide (0 < i)=false∨(decide (0 < i)=true/\f=true):=by
     by_cases h:0 < i
     ·exact .inr ⟨ac h,by cases f;exact absurd ⟨h,rfl⟩ hgo;rfl⟩
     ·exact .inl (decide_eq_false h)
    clear hgo
    rcases hcase with t1 | ⟨t1,rfl⟩
    all_goals
     have B:=T.out.box (.head _);obtain ⟨z0,z1,z2,z3,z4,z5,z6,z7⟩:=aN8 B.cell
     have C:=T.out.box (.tail _ (.head _));obtain ⟨y0,y1,y2,y3,y4,y5,y6,y7⟩:=aN8 C.cell;obtain ⟨f0,f1,f2,f3,f4,f5,f6,f7⟩:=aN8 C.frozen
     simp at z0 z1 z2 z3 z4 z5 z6 z7 y0 y1 y2 y3 y4 y5 y6 y7
     dsimp only at f0 f1 f2 f3 f4 f5 f6 f7
     clear B C
     have T8:=aI (show PH (pkP w g) _ M4 ((N,65,#[.string (Sx.ofT n1),.string ⟨#[]⟩,.string ⟨#[]⟩,.int .i64 3,.int .i64 0,.int .i64 0,.slice A7 acc.length c7,.slice B7 ns.length d7])::(N1,65,#[.string (Sx.ofT n1),.string ⟨#[]⟩,.string ⟨#[]⟩,.int .i64 3,.int .i64 0,.int .i64 0,.slice A7 acc.length c7,.slice B7 ns.length d7])::bx) rs _ _ from ((((((((T.out.bswap.set0 0 (.string (Sx.ofT n1))).set0 1 (.string ⟨#[]⟩)).set0 2 (.string ⟨#[]⟩)).set0 3 (.int .i64 3)).set0 4 (.int .i64 0)).set0 5 (.int .i64 0)).set0 6 (.slice A7 acc.length c7)).set0 7 (.slice B7 ns.length d7)))
     clear T
     go_wp2_with fail
     clear y0 y1 y2 y3 y4 y5 y6 y7
     have C:=T8.out.box (.head _);obtain ⟨y0,y1,y2,y3,y4,y5,y6,y7⟩:=aN8 C.cell
     simp at y0 y1 y2 y3 y4 y5 y6 y7
     have z:inI 0:=by constructor <;> decide
     have zk:inI 3:=by constructor <;> decide
     have hn:=T8.out.fact (.head _)
     have ha:=T8.out.fact (.tail _ (.head _))
     refine bodyPost_ret (v:=.agg #[.string (Sx.ofT n1),.string ⟨#[]⟩,.string ⟨#[]⟩,.int .i64 3,.int .i64 0,.int .i64 0,.slice A7 acc.length c7,.slice B7 ns.length d7]) ?_ rfl ?_
     ·simp [results,Tryz.results147,go_sem,y0,y1,y2,y3,y4,y5,y6,y7]
     ·exact ⟨(Sx.ofT n1,Sx.ofT [],Sx.ofT [],3,0,0,acc,ns),_,_,_,rfl,Sx.nx_field HW.out (Sx.nx_bind X1.out (show Sx.Nx (fun l=>(Sx.count l).bind fun n l=>(Sx.picks n [] [] l).bind fun p l=>.ok (Sx.ofT n1,Sx.ofT [],Sx.ofT [],3,0,0,p.1,p.2) l) st1 _ _ from Sx.nx_bind X3.out (Sx.nx_bind (HX.out _ _ HST.out) (Sx.nx_ret (Sx.ofT n1,Sx.ofT [],Sx.ofT [],3,0,0,acc,ns) _)))),(T8.out.unbox.unbox.add (keeps_rep (Sx.ofT n1,Sx.ofT [],Sx.ofT [],3,0,0,acc,ns) _) (fld_rep (ah I1.out (by decide)) empty_size empty_size zk z z ha hn HCC.out.1.1 HCC.out.1.2 HCC.out.2.1 HCC.out.2.2)).less fun P hP=>by
       rcases aL hP with rfl | hP
       ·exact .head _
       ·exact .tail _ (.tail _ (.tail _ hP))⟩
end
section
variable {w:World} {g:Nat} {M:List Nat} {bx:List Box} {rs:List Rw} {L:List (List Nat->World->Prop)} {W:World}
theorem field4_any {t:Sx.Tok} {l:List Sx.Tok} (he:SEnv w) (hw:Sx.wordOf t.1=some 4) (h:PH (pkP w g) (t::l,false) M bx rs L W):Calls Tryz.prog 147 #[.pointer (some ⟨g,0,none⟩)] W (RdA (pkP w g) Sx.field (t::l,false) bx rs L):=by
 obtain ⟨N,hN⟩:=aX W.heap.size
 have T:=aI (h.new #[.string ⟨#[]⟩,.string ⟨#[]⟩,.string ⟨#[]⟩,.int .i64 0,.int .i64 0,.int .i64 0,.slice none 0 0,.slice none 0 0] 65 hN)
 have HE:=aI he
 have CI:=aI (fun W h=>idxW_any t.1 W h)
 rw [Sx.wordI_some hw] at CI
 have HENV:=aI (fun (st:Sx.St) (M:List Nat) (bx:List Box) (W:World) (h:PH (pkP w g) st M bx rs L W)=>ph_env he h)
 have HW:=aI hw
 clear h he hw
 go_enter Tryz.func147,Tryz.ntmps147
 go_upto_region 1 with fail
 generalize W.alloc (.cells #[.string ⟨#[]⟩,.string ⟨#[]⟩,.string ⟨#[]⟩,.int .i64 0,.int .i64 0,.int .i64 0,.slice none 0 0,.slice none 0 0] 65)=W1 at *
 go_cut [3] from 5 to 9 (fun v3 w'=>∃ (N1:Nat) (M2:List Nat),v3=.pointer (some ⟨N1,0,none⟩)/\PH (pkP w g) (l,false) M2 ((N1,65,#[.string ⟨#[]⟩,.string ⟨#[]⟩,.string ⟨#[]⟩,.int .i64 4,.int .i64 0,.int .i64 0,.slice none 0 0,.slice none 0 0])::(N,65,#[.string ⟨#[]⟩,.string ⟨#[]⟩,.string ⟨#[]⟩,.int .i64 0,.int .i64 0,.int .i64 0,.slice none 0 0,.slice none 0 0])::bx) rs L w')
 case first =>
  go_region_law (first | (go_simp;go_at_call 138;(first | refine (nextT_any T.out.drew).mono ?_ | refine (nextT_any (T.out.drew.new (N:=W1.heap.size) #[.string ⟨#[]⟩,.string ⟨#[]⟩,.string ⟨#[]⟩,.int .i64 0,.int .i64 0,.int .i64 0,.slice none 0 0,.slice none 0 0] 65 rfl)).mono ?_);rintro e w3 ⟨rfl,h3⟩;have T2:=aI h3;clear h3;have B:=T2.out.box (.head _);obtain ⟨z0,z1,z2,z3,z4,z5,z6,z7⟩:=aN8 B.cell;obtain ⟨f0,f1,f2,f3,f4,f5,f6,f7⟩:=aN8 B.frozen;simp at z0 z1 z2 z3 z4 z5 z6 z7;dsimp only at f0 f1 f2 f3 f4 f5 f6 f7;clear B) | (go_simp;go_at_call 167;(first | refine (CI.out _ (HENV.out _ _ _ _ T2.out)).mono ?_ | refine (CI.out _ (HENV.out _ _ _ _ (T2.out.new #[.string ⟨#[]⟩,.string ⟨#[]⟩,.string ⟨#[]⟩,.int .i64 0,.int .i64 0,.int .i64 0,.slice none 0 0,.slice none 0 0] 65 rfl))).mono ?_);rintro e w4 ⟨rfl,rfl⟩))
  all_goals
   go_wp2_with fail
   go_meet
   case rel=>first | exact ⟨_,_,rfl,T2.out.new _ _ rfl⟩ | exact ⟨_,_,rfl,(((((((T2.out.set0 0 _).set0 1 _).set0 2 _).set0 3 _).set0 4 _).set0 5 _).set0 6 _).set0 7 _⟩
 case rest =>
  obtain ⟨N1,M2,rfl,hT⟩:=hcut
  replace T:=aI hT
  clear hT CI HENV W1
  have B:=T.out.box (.head _);obtain ⟨z0,z1,z2,z3,z4,z5,z6,z7⟩:=aN8 B.cell;obtain ⟨f0,f1,f2,f3,f4,f5,f6,f7⟩:=aN8 B.frozen;simp at z0 z1 z2 z3 z4 z5 z6 z7;dsimp only at f0 f1 f2 f3 f4 f5 f6 f7;clear B
  go_upto_region 27 with (first | (go_at_call 143;(with_reducible refine (nameR_any T.out).mono ?_);rintro e w1 ⟨n1,st1,rfl,i1,x1,h1⟩;replace T:=aI h1;have X1:=aI x1;have I1:=aI i1;clear h1 x1 i1;(try clear z0 z1 z2 z3 z4 z5 z6 z7 f0 f1 f2 f3 f4 f5 f6 f7);have B:=T.out.box (.head _);obtain ⟨z0,z1,z2,z3,z4,z5,z6,z7⟩:=aN8 B.cell;obtain ⟨f0,f1,f2,f3,f4,f5,f6,f7⟩:=aN8 B.frozen;simp at z0 z1 z2 z3 z4 z5 z6 z7;dsimp only at f0 f1 f2 f3 f4 f5 f6 f7;clear B) | (go_at_call 151;(with_reducible refine (namesR_any (T.out.set0 0 _)).mono ?_);rintro e w2 ⟨n2,st2,rfl,i2,x2,h2⟩;replace T:=aI h2;have X2:=aI x2;have I2:=aI i2;clear h2 x2 i2;(try clear z0 z1 z2 z3 z4 z5 z6 z7 f0 f1 f2 f3 f4 f5 f6 f7);have B:=T.out.box (.head _);obtain ⟨z0,z1,z2,z3,z4,z5,z6,z7⟩:=aN8 B.cell;obtain ⟨f0,f1,f2,f3,f4,f5,f6,f7⟩:=aN8 B.frozen;simp at z0 z1 z2 z3 z4 z5 z6 z7;dsimp only at f0 f1 f2 f3 f4 f5 f6 f7;clear B) | (go_at_call 102;(with_reducible refine (num_any' HE.out (T.out.set0 1 _)).mono ?_);rintro e w3 ⟨n3,st3,rfl,i3,x3,h3⟩;replace T:=aI h3;have X3:=aI x3;have I3:=aI i3;clear h3 x3 i3;(try clear z0 z1 z2 z3 z4 z5 z6 z7 f0 f1 f2 f3 f4 f5 f6 f7);have B:=T.out.box (.head _);obtain ⟨z0,z1,z2,z3,z4,z5,z6,z7⟩:=aN8 B.cell;obtain ⟨f0,f1,f2,f3,f4,f5,f6,f7⟩:=aN8 B.frozen;simp at z0 z1 z2 z3 z4 z5 z6 z7;dsimp only at f0 f1 f2 f3 f4 f5 f6 f7;clear B) | (go_at_call 102;(with_reducible refine (num_any' HE.out (T.out.set0 4 _)).mono ?_);rintro e w4 ⟨n4,st4,rfl,i4,x4,h4⟩;replace T:=aI h4;have X4:=aI x4;have I4:=aI i4;clear h4 x4 i4;(try clear z0 z1 z2 z3 z4 z5 z6 z7 f0 f1 f2 f3 f4 f5 f6 f7);have B:=T.out.box (.head _);obtain ⟨z0,z1,z2,z3,z4,z5,z6,z7⟩:=aN8 B.cell;obtain ⟨f0,f1,f2,f3,f4,f5,f6,f7⟩:=aN8 B.frozen;simp at z0 z1 z2 z3 z4 z5 z6 z7;dsimp only at f0 f1 f2 f3 f4 f5 f6 f7;clear B))
  have T7:=aI (show PH (pkP w g) st4 _ ((N1,65,#[.string (Sx.ofT n1),.string (Sx.ofT n2),.string ⟨#[]⟩,.int .i64 4,.int .i64 n3,.int .i64 n4,.slice none 0 0,.slice none 0 0])::(N,65,#[.string ⟨#[]⟩,.string ⟨#[]⟩,.string ⟨#[]⟩,.int .i64 0,.int .i64 0,.int .i64 0,.slice none 0 0,.slice none 0 0])::bx) rs L _ from T.out.set0 5 (.int .i64 n4))
  clear T;(try clear z0 z1 z2 z3 z4 z5 z6 z7 f0 f1 f2 f3 f4 f5 f6 f7)
  generalize w4.setCell ⟨N1,5,none⟩ (.int .i64 n4)=W8 at *
  have B:=T7.out.box (.head _);obtain ⟨z0,z1,z2,z3,z4,z5,z6,z7⟩:=aN8 B.cell
  have C:=T7.out.box (.tail _ (.head _));obtain ⟨y0,y1,y2,y3,y4,y5,y6,y7⟩:=aN8 C.cell;obtain ⟨f0,f1,f2,f3,f4,f5,f6,f7⟩:=aN8 C.frozen
  simp at z0 z1 z2 z3 z4 z5 z6 z7 y0 y1 y2 y3 y4 y5 y6 y7
  dsimp only at f0 f1 f2 f3 f4 f5 f6 f7
  clear B C
  have T8:=aI (show PH (pkP w g) st4 _ ((N,65,#[.string (Sx.ofT n1),.string (Sx.ofT n2),.string ⟨#[]⟩,.int .i64 4,.int .i64 n3,.int .i64 n4,.slice none 0 0,.slice none 0 0])::(N1,65,#[.string (Sx.ofT n1),.string (Sx.ofT n2),.string ⟨#[]⟩,.int .i64 4,.int .i64 n3,.int .i64 n4,.slice none 0 0,.slice none 0 0])::bx) rs L _ from ((((((((T7.out.bswap.set0 0 (.string (Sx.ofT n1))).set0 1 (.string (Sx.ofT n2))).set0 2 (.string ⟨#[]⟩)).set0 3 (.int .i64 4)).set0 4 (.int .i64 n3)).set0 5 (.int .i64 n4)).set0 6 (.slice none 0 0)).set0 7 (.slice none 0 0)))
  go_wp2_with fail
  clear y0 y1 y2 y3 y4 y5 y6 y7
  have C:=T8.out.box (.head _);obtain ⟨y0,y1,y2,y3,y4,y5,y6,y7⟩:=aN8 C.cell
  simp at y0 y1 y2 y3 y4 y5 y6 y7
  have z:inI 0:=by constructor <;> decide
  have zk:inI 4:=by constructor <;> decide
  have zz:=Nat.zero_le 9223372036854775807
  refine bodyPost_ret (v:=.agg #[.string (Sx.ofT n1),.string (Sx.ofT n2),.string ⟨#[]⟩,.int .i64 4,.int .i64 n3,.int .i64 n4,.slice none 0 0,.slice none 0 0]) ?_ rfl ?_
  ·simp [results,Tryz.results147,go_sem,y0,y1,y2,y3,y4,y5,y6,y7]
  ·exact ⟨(Sx.ofT n1,Sx.ofT n2,Sx.ofT [],4,n3,n4,[],[]),_,st4,_,rfl,Sx.nx_field HW.out (Sx.nx_bind X1.out (show Sx.Nx (fun l=>(Sx.names l).bind fun o l=>(Sx.number l).bind fun lo l=>(Sx.number l).bind fun hi l=>.ok (Sx.ofT n1,Sx.ofT o,Sx.ofT [],4,lo,hi,[],[]) l) st1 _ _ from Sx.nx_bind X2.out (Sx.nx_bind X3.out (Sx.nx_bind X4.out (Sx.nx_ret _ _))))),T8.out.unbox.unbox.add (keeps_rep _ _) (fld_rep (ah I1.out (by decide)) (ah I2.out (by decide)) empty_size zk I3.out I4.out .nil .nil (ag _) zz (ag _) zz)⟩
end
section
variable {w:World} {g:Nat} {M:List Nat} {bx:List Box} {rs:List Rw} {L:List (List Nat->World->Prop)} {W:World}
theorem field5_any {t:Sx.Tok} {l:List Sx.Tok} (he:SEnv w) (hw:Sx.wordOf t.1=some 5) (h:PH (pkP w g) (t::l,false) M bx rs L W):Calls Tryz.prog 147 #[.pointer (some ⟨g,0,none⟩)] W (RdA (pkP w g) Sx.field (t::l,false) bx rs L):=by
 obtain ⟨N,hN⟩:=aX W.heap.size
 have T:=aI (h.new #[.string ⟨#[]⟩,.string ⟨#[]⟩,.string ⟨#[]⟩,.int .i64 0,.int .i64 0,.int .i64 0,.slice none 0 0,.slice none 0 0] 65 hN)
 have HE:=aI he
 have CI:=aI (fun W h=>idxW_any t.1 W h)
 rw [Sx.wordI_some hw] at CI
 have HENV:=aI (fun (st:Sx.St) (M:List Nat) (bx:List Box) (W:World) (h:PH (pkP w g) st M bx rs L W)=>ph_env he h)
 have HW:=aI hw
 clear h he hw
 go_enter Tryz.func147,Tryz.ntmps147
 go_upto_region 1 with fail
 generalize W.alloc (.cells #[.string ⟨#[]⟩,.string ⟨#[]⟩,.string ⟨#[]⟩,.int .i64 0,.int .i64 0,.int .i64 0,.slice none 0 0,.slice none 0 0] 65)=W1 at *
 go_cut [3] from 5 to 9 (fun v3 w'=>∃ (N1:Nat) (M2:List Nat),v3=.pointer (some ⟨N1,0,none⟩)/\PH (pkP w g) (l,false) M2 ((N1,65,#[.string ⟨#[]⟩,.string ⟨#[]⟩,.string ⟨#[]⟩,.int .i64 5,.int .i64 0,.int .i64 0,.slice none 0 0,.slice none 0 0])::(N,65,#[.string ⟨#[]⟩,.string ⟨#[]⟩,.string ⟨#[]⟩,.int .i64 0,.int .i64 0,.int .i64 0,.slice none 0 0,.slice none 0 0])::bx) rs L w')
 case first =>
  go_region_law (first | (go_simp;go_at_call 138;(first | refine (nextT_any T.out.drew).mono ?_ | refine (nextT_any (T.out.drew.new (N:=W1.heap.size) #[.string ⟨#[]⟩,.string ⟨#[]⟩,.string ⟨#[]⟩,.int .i64 0,.int .i64 0,.int .i64 0,.slice none 0 0,.slice none 0 0] 65 rfl)).mono ?_);rintro e w3 ⟨rfl,h3⟩;have T2:=aI h3;clear h3;have B:=T2.out.box (.head _);obtain ⟨z0,z1,z2,z3,z4,z5,z6,z7⟩:=aN8 B.cell;obtain ⟨f0,f1,f2,f3,f4,f5,f6,f7⟩:=aN8 B.frozen;simp at z0 z1 z2 z3 z4 z5 z6 z7;dsimp only at f0 f1 f2 f3 f4 f5 f6 f7;clear B) | (go_simp;go_at_call 167;(first | refine (CI.out _ (HENV.out _ _ _ _ T2.out)).mono ?_ | refine (CI.out _ (HENV.out _ _ _ _ (T2.out.new #[.string ⟨#[]⟩,.string ⟨#[]⟩,.string ⟨#[]⟩,.int .i64 0,.int .i64 0,.int .i64 0,.slice none 0 0,.slice none 0 0] 65 rfl))).mono ?_);rintro e w4 ⟨rfl,rfl⟩))
  all_goals
   go_wp2_with fail
   go_meet
   case rel=>first | exact ⟨_,_,rfl,T2.out.new _ _ rfl⟩ | exact ⟨_,_,rfl,(((((((T2.out.set0 0 _).set0 1 _).set0 2 _).set0 3 _).set0 4 _).set0 5 _).set0 6 _).set0 7 _⟩
 case rest =>
  obtain ⟨N1,M2,rfl,hT⟩:=hcut
  replace T:=aI hT
  clear hT CI HENV W1
  have B:=T.out.box (.head _);obtain ⟨z0,z1,z2,z3,z4,z5,z6,z7⟩:=aN8 B.cell;obtain ⟨f0,f1,f2,f3,f4,f5,f6,f7⟩:=aN8 B.frozen;simp at z0 z1 z2 z3 z4 z5 z6 z7;dsimp only at f0 f1 f2 f3 f4 f5 f6 f7;clear B
  go_upto_region 27 with (first | (go_at_call 143;(with_reducible refine (nameR_any T.out).mono ?_);rintro e w1 ⟨n1,st1,rfl,i1,x1,h1⟩;replace T:=aI h1;have X1:=aI x1;have I1:=aI i1;clear h1 x1 i1;(try clear z0 z1 z2 z3 z4 z5 z6 z7 f0 f1 f2 f3 f4 f5 f6 f7);have B:=T.out.box (.head _);obtain ⟨z0,z1,z2,z3,z4,z5,z6,z7⟩:=aN8 B.cell;obtain ⟨f0,f1,f2,f3,f4,f5,f6,f7⟩:=aN8 B.frozen;simp at z0 z1 z2 z3 z4 z5 z6 z7;dsimp only at f0 f1 f2 f3 f4 f5 f6 f7;clear B) | (go_at_call 143;(with_reducible refine (nameR_any (T.out.set0 0 _)).mono ?_);rintro e w2 ⟨n2,st2,rfl,i2,x2,h2⟩;replace T:=aI h2;have X2:=aI x2;have I2:=aI i2;clear h2 x2 i2;(try clear z0 z1 z2 z3 z4 z5 z6 z7 f0 f1 f2 f3 f4 f5 f6 f7);have B:=T.out.box (.head _);obtain ⟨z0,z1,z2,z3,z4,z5,z6,z7⟩:=aN8 B.cell;obtain ⟨f0,f1,f2,f3,f4,f5,f6,f7⟩:=aN8 B.frozen;simp at z0 z1 z2 z3 z4 z5 z6 z7;dsimp only at f0 f1 f2 f3 f4 f5 f6 f7;clear B) | (go_at_call 102;(with_reducible refine (num_any' HE.out (T.out.set0 1 _)).mono ?_);rintro e w3 ⟨n3,st3,rfl,i3,x3,h3⟩;replace T:=aI h3;have X3:=aI x3;have I3:=aI i3;clear h3 x3 i3;(try clear z0 z1 z2 z3 z4 z5 z6 z7 f0 f1 f2 f3 f4 f5 f6 f7);have B:=T.out.box (.head _);obtain ⟨z0,z1,z2,z3,z4,z5,z6,z7⟩:=aN8 B.cell;obtain ⟨f0,f1,f2,f3,f4,f5,f6,f7⟩:=aN8 B.frozen;simp at z0 z1 z2 z3 z4 z5 z6 z7;dsimp only at f0 f1 f2 f3 f4 f5 f6 f7;clear B) | (go_at_call 102;(with_reducible refine (num_any' HE.out (T.out.set0 4 _)).mono ?_);rintro e w4 ⟨n4,st4,rfl,i4,x4,h4⟩;replace T:=aI h4;have X4:=aI x4;have I4:=aI i4;clear h4 x4 i4;(try clear z0 z1 z2 z3 z4 z5 z6 z7 f0 f1 f2 f3 f4 f5 f6 f7);have B:=T.out.box (.head _);obtain ⟨z0,z1,z2,z3,z4,z5,z6,z7⟩:=aN8 B.cell;obtain ⟨f0,f1,f2,f3,f4,f5,f6,f7⟩:=aN8 B.frozen;simp at z0 z1 z2 z3 z4 z5 z6 z7;dsimp only at f0 f1 f2 f3 f4 f5 f6 f7;clear B))
  have T7:=aI (show PH (pkP w g) st4 _ ((N1,65,#[.string (Sx.ofT n1),.string (Sx.ofT n2),.string ⟨#[]⟩,.int .i64 5,.int .i64 n3,.int .i64 n4,.slice none 0 0,.slice none 0 0])::(N,65,#[.string ⟨#[]⟩,.string ⟨#[]⟩,.string ⟨#[]⟩,.int .i64 0,.int .i64 0,.int .i64 0,.slice none 0 0,.slice none 0 0])::bx) rs L _ from T.out.set0 5 (.int .i64 n4))
  clear T;(try clear z0 z1 z2 z3 z4 z5 z6 z7 f0 f1 f2 f3 f4 f5 f6 f7)
  generalize w4.setCell ⟨N1,5,none⟩ (.int .i64 n4)=W8 at *
  have B:=T7.out.box (.head _);obtain ⟨z0,z1,z2,z3,z4,z5,z6,z7⟩:=aN8 B.cell
  have C:=T7.out.box (.tail _ (.head _));obtain ⟨y0,y1,y2,y3,y4,y5,y6,y7⟩:=aN8 C.cell;obtain ⟨f0,f1,f2,f3,f4,f5,f6,f7⟩:=aN8 C.frozen
  simp at z0 z1 z2 z3 z4 z5 z6 z7 y0 y1 y2 y3 y4 y5 y6 y7
  dsimp only at f0 f1 f2 f3 f4 f5 f6 f7
  clear B C
  have T8:=aI (show PH (pkP w g) st4 _ ((N,65,#[.string (Sx.ofT n1),.string (Sx.ofT n2),.string ⟨#[]⟩,.int .i64 5,.int .i64 n3,.int .i64 n4,.slice none 0 0,.slice none 0 0])::(N1,65,#[.string (Sx.ofT n1),.string (Sx.ofT n2),.string ⟨#[]⟩,.int .i64 5,.int .i64 n3,.int .i64 n4,.slice none 0 0,.slice none 0 0])::bx) rs L _ from ((((((((T7.out.bswap.set0 0 (.string (Sx.ofT n1))).set0 1 (.string (Sx.ofT n2))).set0 2 (.string ⟨#[]⟩)).set0 3 (.int .i64 5)).set0 4 (.int .i64 n3)).set0 5 (.int .i64 n4)).set0 6 (.slice none 0 0)).set0 7 (.slice none 0 0)))
  go_wp2_with fail
  clear y0 y1 y2 y3 y4 y5 y6 y7
  have C:=T8.out.box (.head _);obtain ⟨y0,y1,y2,y3,y4,y5,y6,y7⟩:=aN8 C.cell
  simp at y0 y1 y2 y3 y4 y5 y6 y7
  have z:inI 0:=by constructor <;> decide
  have zk:inI 5:=by constructor <;> decide
  have zz:=Nat.zero_le 9223372036854775807
  refine bodyPost_ret (v:=.agg #[.string (Sx.ofT n1),.string (Sx.ofT n2),.string ⟨#[]⟩,.int .i64 5,.int .i64 n3,.int .i64 n4,.slice none 0 0,.slice none 0 0]) ?_ rfl ?_
  ·simp [results,Tryz.results147,go_sem,y0,y1,y2,y3,y4,y5,y6,y7]
  ·exact ⟨(Sx.ofT n1,Sx.ofT n2,Sx.ofT [],5,n3,n4,[],[]),_,st4,_,rfl,Sx.nx_field HW.out (Sx.nx_bind X1.out (show Sx.Nx (fun l=>(Sx.name l).bind fun o l=>(Sx.number l).bind fun lo l=>(Sx.number l).bind fun hi l=>.ok (Sx.ofT n1,Sx.ofT o,Sx.ofT [],5,lo,hi,[],[]) l) st1 _ _ from Sx.nx_bind X2.out (Sx.nx_bind X3.out (Sx.nx_bind X4.out (Sx.nx_ret _ _))))),T8.out.unbox.unbox.add (keeps_rep _ _) (fld_rep (ah I1.out (by decide)) (ah I2.out (by decide)) empty_size zk I3.out I4.out .nil .nil (ag _) zz (ag _) zz)⟩
end
section
variable {w:World} {g:Nat} {M:List Nat} {bx:List Box} {rs:List Rw} {L:List (List Nat->World->Prop)} {W:World}
theorem field6_any {t:Sx.Tok} {l:List Sx.Tok} (he:SEnv w) (hw:Sx.wordOf t.1=some 6) (h:PH (pkP w g) (t::l,false) M bx rs L W):Calls Tryz.prog 147 #[.pointer (some ⟨g,0,none⟩)] W (RdA (pkP w g) Sx.field (t::l,false) bx rs L):=by
 obtain ⟨N,hN⟩:=aX W.heap.size
 have T:=aI (h.new #[.string ⟨#[]⟩,.string ⟨#[]⟩,.string ⟨#[]⟩,.int .i64 0,.int .i64 0,.int .i64 0,.slice none 0 0,.slice none 0 0] 65 hN)
 have CI:=aI (fun W h=>idxW_any t.1 W h)
 rw [Sx.wordI_some hw] at CI
 have HENV:=aI (fun (st:Sx.St) (M:List Nat) (bx:List Box) (W:World) (h:PH (pkP w g) st M bx rs L W)=>ph_env he h)
 have HW:=aI hw
 clear h he hw
 go_enter Tryz.func147,Tryz.ntmps147
 go_upto_region 1 with fail
 generalize W.alloc (.cells #[.string ⟨#[]⟩,.string ⟨#[]⟩,.string ⟨#[]⟩,.int .i64 0,.int .i64 0,.int .i64 0,.slice none 0 0,.slice none 0 0] 65)=W1 at *
 go_cut [3] from 5 to 9 (fun v3 w'=>∃ (N1:Nat) (M2:List Nat),v3=.pointer (some ⟨N1,0,none⟩)/\PH (pkP w g) (l,false) M2 ((N1,65,#[.string ⟨#[]⟩,.string ⟨#[]⟩,.string ⟨#[]⟩,.int .i64 6,.int .i64 0,.int .i64 0,.slice none 0 0,.slice none 0 0])::(N,65,#[.string ⟨#[]⟩,.string ⟨#[]⟩,.string ⟨#[]⟩,.int .i64 0,.int .i64 0,.int .i64 0,.slice none 0 0,.slice none 0 0])::bx) rs L w')
 case first =>
  go_region_law (first | (go_simp;go_at_call 138;(first | refine (nextT_any T.out.drew).mono ?_ | refine (nextT_any (T.out.drew.new (N:=W1.heap.size) #[.string ⟨#[]⟩,.string ⟨#[]⟩,.string ⟨#[]⟩,.int .i64 0,.int .i64 0,.int .i64 0,.slice none 0 0,.slice none 0 0] 65 rfl)).mono ?_);rintro e w3 ⟨rfl,h3⟩;have T2:=aI h3;clear h3;have B:=T2.out.box (.head _);obtain ⟨z0,z1,z2,z3,z4,z5,z6,z7⟩:=aN8 B.cell;obtain ⟨f0,f1,f2,f3,f4,f5,f6,f7⟩:=aN8 B.frozen;simp at z0 z1 z2 z3 z4 z5 z6 z7;dsimp only at f0 f1 f2 f3 f4 f5 f6 f7;clear B) | (go_simp;go_at_call 167;(first | refine (CI.out _ (HENV.out _ _ _ _ T2.out)).mono ?_ | refine (CI.out _ (HENV.out _ _ _ _ (T2.out.new #[.string ⟨#[]⟩,.string ⟨#[]⟩,.string ⟨#[]⟩,.int .i64 0,.int .i64 0,.int .i64 0,.slice none 0 0,.slice none 0 0] 65 rfl))).mono ?_);rintro e w4 ⟨rfl,rfl⟩))
  all_goals
   go_wp2_with fail
   go_meet
   case rel=>first | exact ⟨_,_,rfl,T2.out.new _ _ rfl⟩ | exact ⟨_,_,rfl,(((((((T2.out.set0 0 _).set0 1 _).set0 2 _).set0 3 _).set0 4 _).set0 5 _).set0 6 _).set0 7 _⟩
 case rest =>
  obtain ⟨N1,M2,rfl,hT⟩:=hcut
  replace T:=aI hT
  clear hT CI HENV W1
  have B:=T.out.box (.head _);obtain ⟨z0,z1,z2,z3,z4,z5,z6,z7⟩:=aN8 B.cell;obtain ⟨f0,f1,f2,f3,f4,f5,f6,f7⟩:=aN8 B.frozen;simp at z0 z1 z2 z3 z4 z5 z6 z7;dsimp only at f0 f1 f2 f3 f4 f5 f6 f7;clear B
  go_upto_region 27 with (first | (go_at_call 143;(with_reducible refine (nameR_any T.out).mono ?_);rintro e w1 ⟨n1,st1,rfl,i1,x1,h1⟩;replace T:=aI h1;have X1:=aI x1;have I1:=aI i1;clear h1 x1 i1;(try clear z0 z1 z2 z3 z4 z5 z6 z7 f0 f1 f2 f3 f4 f5 f6 f7);have B:=T.out.box (.head _);obtain ⟨z0,z1,z2,z3,z4,z5,z6,z7⟩:=aN8 B.cell;obtain ⟨f0,f1,f2,f3,f4,f5,f6,f7⟩:=aN8 B.frozen;simp at z0 z1 z2 z3 z4 z5 z6 z7;dsimp only at f0 f1 f2 f3 f4 f5 f6 f7;clear B) | (go_at_call 143;(with_reducible refine (nameR_any (T.out.set0 0 _)).mono ?_);rintro e w2 ⟨n2,st2,rfl,i2,x2,h2⟩;replace T:=aI h2;have X2:=aI x2;have I2:=aI i2;clear h2 x2 i2;(try clear z0 z1 z2 z3 z4 z5 z6 z7 f0 f1 f2 f3 f4 f5 f6 f7);have B:=T.out.box (.head _);obtain ⟨z0,z1,z2,z3,z4,z5,z6,z7⟩:=aN8 B.cell;obtain ⟨f0,f1,f2,f3,f4,f5,f6,f7⟩:=aN8 B.frozen;simp at z0 z1 z2 z3 z4 z5 z6 z7;dsimp only at f0 f1 f2 f3 f4 f5 f6 f7;clear B))
  have T7:=aI (show PH (pkP w g) st2 _ ((N1,65,#[.string (Sx.ofT n1),.string (Sx.ofT n2),.string ⟨#[]⟩,.int .i64 6,.int .i64 0,.int .i64 0,.slice none 0 0,.slice none 0 0])::(N,65,#[.string ⟨#[]⟩,.string ⟨#[]⟩,.string ⟨#[]⟩,.int .i64 0,.int .i64 0,.int .i64 0,.slice none 0 0,.slice none 0 0])::bx) rs L _ from T.out.set0 1 (.string (Sx.ofT n2)))
  clear T;(try clear z0 z1 z2 z3 z4 z5 z6 z7 f0 f1 f2 f3 f4 f5 f6 f7)
  generalize w2.setCell ⟨N1,1,none⟩ (.string (Sx.ofT n2))=W8 at *
  have B:=T7.out.box (.head _);obtain ⟨z0,z1,z2,z3,z4,z5,z6,z7⟩:=aN8 B.cell
  have C:=T7.out.box (.tail _ (.head _));obtain ⟨y0,y1,y2,y3,y4,y5,y6,y7⟩:=aN8 C.cell;obtain ⟨f0,f1,f2,f3,f4,f5,f6,f7⟩:=aN8 C.frozen
  simp at z0 z1 z2 z3 z4 z5 z6 z7 y0 y1 y2 y3 y4 y5 y6 y7
  dsimp only at f0 f1 f2 f3 f4 f5 f6 f7
  clear B C
  have T8:=aI (show PH (pkP w g) st2 _ ((N,65,#[.string (Sx.ofT n1),.string (Sx.ofT n2),.string ⟨#[]⟩,.int .i64 6,.int .i64 0,.int .i64 0,.slice none 0 0,.slice none 0 0])::(N1,65,#[.string (Sx.ofT n1),.string (Sx.ofT n2),.string ⟨#[]⟩,.int .i64 6,.int .i64 0,.int .i64 0,.slice none 0 0,.slice none 0 0])::bx) rs L _ from ((((((((T7.out.bswap.set0 0 (.string (Sx.ofT n1))).set0 1 (.string (Sx.ofT n2))).set0 2 (.string ⟨#[]⟩)).set0 3 (.int .i64 6)).set0 4 (.int .i64 0)).set0 5 (.int .i64 0)).set0 6 (.slice none 0 0)).set0 7 (.slice none 0 0)))
  go_wp2_with fail
  clear y0 y1 y2 y3 y4 y5 y6 y7
  have C:=T8.out.box (.head _);obtain ⟨y0,y1,y2,y3,y4,y5,y6,y7⟩:=aN8 C.cell
  simp at y0 y1 y2 y3 y4 y5 y6 y7
  have z:inI 0:=by constructor <;> decide
  have zk:inI 6:=by constructor <;> decide
  have zz:=Nat.zero_le 9223372036854775807
  refine bodyPost_ret (v:=.agg #[.string (Sx.ofT n1),.string (Sx.ofT n2),.string ⟨#[]⟩,.int .i64 6,.int .i64 0,.int .i64 0,.slice none 0 0,.slice none 0 0]) ?_ rfl ?_
  ·simp [results,Tryz.results147,go_sem,y0,y1,y2,y3,y4,y5,y6,y7]
  ·exact ⟨(Sx.ofT n1,Sx.ofT n2,Sx.ofT [],6,0,0,[],[]),_,st2,_,rfl,Sx.nx_field HW.out (Sx.nx_bind X1.out (show Sx.Nx (fun l=>(Sx.name l).bind fun o l=>.ok (Sx.ofT n1,Sx.ofT o,Sx.ofT [],6,0,0,[],[]) l) st1 _ _ from Sx.nx_bind X2.out (Sx.nx_ret _ _))),T8.out.unbox.unbox.add (keeps_rep _ _) (fld_rep (ah I1.out (by decide)) (ah I2.out (by decide)) empty_size zk z z .nil .nil (ag _) zz (ag _) zz)⟩
end
section
variable {w:World} {g:Nat} {M:List Nat} {bx:List Box} {rs:List Rw} {L:List (List Nat->World->Prop)} {W:World}
theorem field7_any {t:Sx.Tok} {l:List Sx.Tok} (he:SEnv w) (hw:Sx.wordOf t.1=some 7) (h:PH (pkP w g) (t::l,false) M bx rs L W):Calls Tryz.prog 147 #[.pointer (some ⟨g,0,none⟩)] W (RdA (pkP w g) Sx.field (t::l,false) bx rs L):=by
 obtain ⟨N,hN⟩:=aX W.heap.size
 have T:=aI (h.new #[.string ⟨#[]⟩,.string ⟨#[]⟩,.string ⟨#[]⟩,.int .i64 0,.int .i64 0,.int .i64 0,.slice none 0 0,.slice none 0 0] 65 hN)
 have HE:=aI he
 have CI:=aI (fun W h=>idxW_any t.1 W h)
 rw [Sx.wordI_some hw] at CI
 have HENV:=aI (fun (st:Sx.St) (M:List Nat) (bx:List Box) (W:World) (h:PH (pkP w g) st M bx rs L W)=>ph_env he h)
 have HW:=aI hw
 clear h he hw
 go_enter Tryz.func147,Tryz.ntmps147
 go_upto_region 1 with fail
 generalize W.alloc (.cells #[.string ⟨#[]⟩,.string ⟨#[]⟩,.string ⟨#[]⟩,.int .i64 0,.int .i64 0,.int .i64 0,.slice none 0 0,.slice none 0 0] 65)=W1 at *
 go_cut [3] from 5 to 9 (fun v3 w'=>∃ (N1:Nat) (M2:List Nat),v3=.pointer (some ⟨N1,0,none⟩)/\PH (pkP w g) (l,false) M2 ((N1,65,#[.string ⟨#[]⟩,.string ⟨#[]⟩,.string ⟨#[]⟩,.int .i64 7,.int .i64 0,.int .i64 0,.slice none 0 0,.slice none 0 0])::(N,65,#[.string ⟨#[]⟩,.string ⟨#[]⟩,.string ⟨#[]⟩,.int .i64 0,.int .i64 0,.int .i64 0,.slice none 0 0,.slice none 0 0])::bx) rs L w')
 case first =>
  go_region_law (first | (go_simp;go_at_call 138;(first | refine (nextT_any T.out.drew).mono ?_ | refine (nextT_any (T.out.drew.new (N:=W1.heap.size) #[.string ⟨#[]⟩,.string ⟨#[]⟩,.string ⟨#[]⟩,.int .i64 0,.int .i64 0,.int .i64 0,.slice none 0 0,.slice none 0 0] 65 rfl)).mono ?_);rintro e w3 ⟨rfl,h3⟩;have T2:=aI h3;clear h3;have B:=T2.out.box (.head _);obtain ⟨z0,z1,z2,z3,z4,z5,z6,z7⟩:=aN8 B.cell;obtain ⟨f0,f1,f2,f3,f4,f5,f6,f7⟩:=aN8 B.frozen;simp at z0 z1 z2 z3 z4 z5 z6 z7;dsimp only at f0 f1 f2 f3 f4 f5 f6 f7;clear B) | (go_simp;go_at_call 167;(first | refine (CI.out _ (HENV.out _ _ _ _ T2.out)).mono ?_ | refine (CI.out _ (HENV.out _ _ _ _ (T2.out.new #[.string ⟨#[]⟩,.string ⟨#[]⟩,.string ⟨#[]⟩,.int .i64 0,.int .i64 0,.int .i64 0,.slice none 0 0,.slice none 0 0] 65 rfl))).mono ?_);rintro e w4 ⟨rfl,rfl⟩))
  all_goals
   go_wp2_with fail
   go_meet
   case rel=>first | exact ⟨_,_,rfl,T2.out.new _ _ rfl⟩ | exact ⟨_,_,rfl,(((((((T2.out.set0 0 _).set0 1 _).set0 2 _).set0 3 _).set0 4 _).set0 5 _).set0 6 _).set0 7 _⟩
 case rest =>
  obtain ⟨N1,M2,rfl,hT⟩:=hcut
  replace T:=aI hT
  clear hT CI HENV W1
  have B:=T.out.box (.head _);obtain ⟨z0,z1,z2,z3,z4,z5,z6,z7⟩:=aN8 B.cell;obtain ⟨f0,f1,f2,f3,f4,f5,f6,f7⟩:=aN8 B.frozen;simp at z0 z1 z2 z3 z4 z5 z6 z7;dsimp only at f0 f1 f2 f3 f4 f5 f6 f7;clear B
  go_upto_region 27 with (first | (go_at_call 143;(with_reducible refine (nameR_any T.out).mono ?_);rintro e w1 ⟨n1,st1,rfl,i1,x1,h1⟩;replace T:=aI h1;have X1:=aI x1;have I1:=aI i1;clear h1 x1 i1;(try clear z0 z1 z2 z3 z4 z5 z6 z7 f0 f1 f2 f3 f4 f5 f6 f7);have B:=T.out.box (.head _);obtain ⟨z0,z1,z2,z3,z4,z5,z6,z7⟩:=aN8 B.cell;obtain ⟨f0,f1,f2,f3,f4,f5,f6,f7⟩:=aN8 B.frozen;simp at z0 z1 z2 z3 z4 z5 z6 z7;dsimp only at f0 f1 f2 f3 f4 f5 f6 f7;clear B) | (go_at_call 143;(with_reducible refine (nameR_any (T.out.set0 0 _)).mono ?_);rintro e w2 ⟨n2,st2,rfl,i2,x2,h2⟩;replace T:=aI h2;have X2:=aI x2;have I2:=aI i2;clear h2 x2 i2;(try clear z0 z1 z2 z3 z4 z5 z6 z7 f0 f1 f2 f3 f4 f5 f6 f7);have B:=T.out.box (.head _);obtain ⟨z0,z1,z2,z3,z4,z5,z6,z7⟩:=aN8 B.cell;obtain ⟨f0,f1,f2,f3,f4,f5,f6,f7⟩:=aN8 B.frozen;simp at z0 z1 z2 z3 z4 z5 z6 z7;dsimp only at f0 f1 f2 f3 f4 f5 f6 f7;clear B) | (go_at_call 143;(with_reducible refine (nameR_any (T.out.set0 2 _)).mono ?_);rintro e w3 ⟨n3,st3,rfl,i3,x3,h3⟩;replace T:=aI h3;have X3:=aI x3;have I3:=aI i3;clear h3 x3 i3;(try clear z0 z1 z2 z3 z4 z5 z6 z7 f0 f1 f2 f3 f4 f5 f6 f7);have B:=T.out.box (.head _);obtain ⟨z0,z1,z2,z3,z4,z5,z6,z7⟩:=aN8 B.cell;obtain ⟨f0,f1,f2,f3,f4,f5,f6,f7⟩:=aN8 B.frozen;simp at z0 z1 z2 z3 z4 z5 z6 z7;dsimp only at f0 f1 f2 f3 f4 f5 f6 f7;clear B) | (go_at_call 102;(with_reducible refine (num_any' HE.out (T.out.set0 1 _)).mono ?_);rintro e w4 ⟨n4,st4,rfl,i4,x4,h4⟩;replace T:=aI h4;have X4:=aI x4;have I4:=aI i4;clear h4 x4 i4;(try clear z0 z1 z2 z3 z4 z5 z6 z7 f0 f1 f2 f3 f4 f5 f6 f7);have B:=T.out.box (.head _);obtain ⟨z0,z1,z2,z3,z4,z5,z6,z7⟩:=aN8 B.cell;obtain ⟨f0,f1,f2,f3,f4,f5,f6,f7⟩:=aN8 B.frozen;simp at z0 z1 z2 z3 z4 z5 z6 z7;dsimp only at f0 f1 f2 f3 f4 f5 f6 f7;clear B) | (go_at_call 102;(with_reducible refine (num_any' HE.out (T.out.set0 4 _)).mono ?_);rintro e w5 ⟨n5,st5,rfl,i5,x5,h5⟩;replace T:=aI h5;have X5:=aI x5;have I5:=aI i5;clear h5 x5 i5;(try clear z0 z1 z2 z3 z4 z5 z6 z7 f0 f1 f2 f3 f4 f5 f6 f7);have B:=T.out.box (.head _);obtain ⟨z0,z1,z2,z3,z4,z5,z6,z7⟩:=aN8 B.cell;obtain ⟨f0,f1,f2,f3,f4,f5,f6,f7⟩:=aN8 B.frozen;simp at z0 z1 z2 z3 z4 z5 z6 z7;dsimp only at f0 f1 f2 f3 f4 f5 f6 f7;clear B))
  have T7:=aI (show PH (pkP w g) st5 _ ((N1,65,#[.string (Sx.ofT n1),.string (Sx.ofT n3),.string (Sx.ofT n2),.int .i64 7,.int .i64 n4,.int .i64 n5,.slice none 0 0,.slice none 0 0])::(N,65,#[.string ⟨#[]⟩,.string ⟨#[]⟩,.string ⟨#[]⟩,.int .i64 0,.int .i64 0,.int .i64 0,.slice none 0 0,.slice none 0 0])::bx) rs L _ from T.out.set0 5 (.int .i64 n5))
  clear T;(try clear z0 z1 z2 z3 z4 z5 z6 z7 f0 f1 f2 f3 f4 f5 f6 f7)
  generalize w5.setCell ⟨N1,5,none⟩ (.int .i64 n5)=W8 at *
  have B:=T7.out.box (.head _);obtain ⟨z0,z1,z2,z3,z4,z5,z6,z7⟩:=aN8 B.cell
  have C:=T7.out.box (.tail _ (.head _));obtain ⟨y0,y1,y2,y3,y4,y5,y6,y7⟩:=aN8 C.cell;obtain ⟨f0,f1,f2,f3,f4,f5,f6,f7⟩:=aN8 C.frozen
  simp at z0 z1 z2 z3 z4 z5 z6 z7 y0 y1 y2 y3 y4 y5 y6 y7
  dsimp only at f0 f1 f2 f3 f4 f5 f6 f7
  clear B C
  have T8:=aI (show PH (pkP w g) st5 _ ((N,65,#[.string (Sx.ofT n1),.string (Sx.ofT n3),.string (Sx.ofT n2),.int .i64 7,.int .i64 n4,.int .i64 n5,.slice none 0 0,.slice none 0 0])::(N1,65,#[.string (Sx.ofT n1),.string (Sx.ofT n3),.string (Sx.ofT n2),.int .i64 7,.int .i64 n4,.int .i64 n5,.slice none 0 0,.slice none 0 0])::bx) rs L _ from ((((((((T7.out.bswap.set0 0 (.string (Sx.ofT n1))).set0 1 (.string (Sx.ofT n3))).set0 2 (.string (Sx.ofT n2))).set0 3 (.int .i64 7)).set0 4 (.int .i64 n4)).set0 5 (.int .i64 n5)).set0 6 (.slice none 0 0)).set0 7 (.slice none 0 0)))
  go_wp2_with fail
  clear y0 y1 y2 y3 y4 y5 y6 y7
  have C:=T8.out.box (.head _);obtain ⟨y0,y1,y2,y3,y4,y5,y6,y7⟩:=aN8 C.cell
  simp at y0 y1 y2 y3 y4 y5 y6 y7
  have z:inI 0:=by constructor <;> decide
  have zk:inI 7:=by constructor <;> decide
  have zz:=Nat.zero_le 9223372036854775807
  refine bodyPost_ret (v:=.agg #[.string (Sx.ofT n1),.string (Sx.ofT n3),.string (Sx.ofT n2),.int .i64 7,.int .i64 n4,.int .i64 n5,.slice none 0 0,.slice none 0 0]) ?_ rfl ?_
  ·simp [results,Tryz.results147,go_sem,y0,y1,y2,y3,y4,y5,y6,y7]
  ·exact ⟨(Sx.ofT n1,Sx.ofT n3,Sx.ofT n2,7,n4,n5,[],[]),_,st5,_,rfl,Sx.nx_field HW.out (Sx.nx_bind X1.out (show Sx.Nx (fun l=>(Sx.name l).bind fun u l=>(Sx.name l).bind fun o l=>(Sx.number l).bind fun lo l=>(Sx.number l).bind fun hi l=>.ok (Sx.ofT n1,Sx.ofT o,Sx.ofT u,7,lo,hi,[],[]) l) st1 _ _ from Sx.nx_bind X2.out (Sx.nx_bind X3.out (Sx.nx_bind X4.out (Sx.nx_bind X5.out (Sx.nx_ret _ _)))))),T8.out.unbox.unbox.add (keeps_rep _ _) (fld_rep (ah I1.out (by decide)) (ah I3.out (by decide)) (ah I2.out (by decide)) zk I4.out I5.out .nil .nil (ag _) zz (ag _) zz)⟩
end
section
variable {w:World} {g:Nat} {M:List Nat} {bx:List Box} {rs:List Rw} {L:List (List Nat->World->Prop)} {W:World}
theorem field8_any {t:Sx.Tok} {l:List Sx.Tok} (he:SEnv w) (hw:Sx.wordOf t.1=some 8) (h:PH (pkP w g) (t::l,false) M bx rs L W):Calls Tryz.prog 147 #[.pointer (some ⟨g,0,none⟩)] W (RdA (pkP w g) Sx.field (t::l,false) bx rs L):=by
 obtain ⟨N,hN⟩:=aX W.heap.size
 have T:=aI (h.new #[.string ⟨#[]⟩,.string ⟨#[]⟩,.string ⟨#[]⟩,.int .i64 0,.int .i64 0,.int .i64 0,.slice none 0 0,.slice none 0 0] 65 hN)
 have CI:=aI (fun W h=>idxW_any t.1 W h)
 rw [Sx.wordI_some hw] at CI
 have HENV:=aI (fun (st:Sx.St) (M:List Nat) (bx:List Box) (W:World) (h:PH (pkP w g) st M bx rs L W)=>ph_env he h)
 have HW:=aI hw
 clear h he hw
 go_enter Tryz.func147,Tryz.ntmps147
 go_upto_region 1 with fail
 generalize W.alloc (.cells #[.string ⟨#[]⟩,.string ⟨#[]⟩,.string ⟨#[]⟩,.int .i64 0,.int .i64 0,.int .i64 0,.slice none 0 0,.slice none 0 0] 65)=W1 at *
 go_cut [3] from 5 to 9 (fun v3 w'=>∃ (N1:Nat) (M2:List Nat),v3=.pointer (some ⟨N1,0,none⟩)/\PH (pkP w g) (l,false) M2 ((N1,65,#[.string ⟨#[]⟩,.string ⟨#[]⟩,.string ⟨#[]⟩,.int .i64 8,.int .i64 0,.int .i64 0,.slice none 0 0,.slice none 0 0])::(N,65,#[.string ⟨#[]⟩,.string ⟨#[]⟩,.string ⟨#[]⟩,.int .i64 0,.int .i64 0,.int .i64 0,.slice none 0 0,.slice none 0 0])::bx) rs L w')
 case first =>
  go_region_law (first | (go_simp;go_at_call 138;(first | refine (nextT_any T.out.drew).mono ?_ | refine (nextT_any (T.out.drew.new (N:=W1.heap.size) #[.string ⟨#[]⟩,.string ⟨#[]⟩,.string ⟨#[]⟩,.int .i64 0,.int .i64 0,.int .i64 0,.slice none 0 0,.slice none 0 0] 65 rfl)).mono ?_);rintro e w3 ⟨rfl,h3⟩;have T2:=aI h3;clear h3;have B:=T2.out.box (.head _);obtain ⟨z0,z1,z2,z3,z4,z5,z6,z7⟩:=aN8 B.cell;obtain ⟨f0,f1,f2,f3,f4,f5,f6,f7⟩:=aN8 B.frozen;simp at z0 z1 z2 z3 z4 z5 z6 z7;dsimp only at f0 f1 f2 f3 f4 f5 f6 f7;clear B) | (go_simp;go_at_call 167;(first | refine (CI.out _ (HENV.out _ _ _ _ T2.out)).mono ?_ | refine (CI.out _ (HENV.out _ _ _ _ (T2.out.new #[.string ⟨#[]⟩,.string ⟨#[]⟩,.string ⟨#[]⟩,.int .i64 0,.int .i64 0,.int .i64 0,.slice none 0 0,.slice none 0 0] 65 rfl))).mono ?_);rintro e w4 ⟨rfl,rfl⟩))
  all_goals
   go_wp2_with fail
   go_meet
   case rel=>first | exact ⟨_,_,rfl,T2.out.new _ _ rfl⟩ | exact ⟨_,_,rfl,(((((((T2.out.set0 0 _).set0 1 _).set0 2 _).set0 3 _).set0 4 _).set0 5 _).set0 6 _).set0 7 _⟩
 case rest =>
  obtain ⟨N1,M2,rfl,hT⟩:=hcut
  replace T:=aI hT
  clear hT CI HENV W1
  have B:=T.out.box (.head _);obtain ⟨z0,z1,z2,z3,z4,z5,z6,z7⟩:=aN8 B.cell;obtain ⟨f0,f1,f2,f3,f4,f5,f6,f7⟩:=aN8 B.frozen;simp at z0 z1 z2 z3 z4 z5 z6 z7;dsimp only at f0 f1 f2 f3 f4 f5 f6 f7;clear B
  go_upto_region 27 with (first | (go_at_call 143;(with_reducible refine (nameR_any T.out).mono ?_);rintro e w1 ⟨n1,st1,rfl,i1,x1,h1⟩;replace T:=aI h1;have X1:=aI x1;have I1:=aI i1;clear h1 x1 i1;(try clear z0 z1 z2 z3 z4 z5 z6 z7 f0 f1 f2 f3 f4 f5 f6 f7);have B:=T.out.box (.head _);obtain ⟨z0,z1,z2,z3,z4,z5,z6,z7⟩:=aN8 B.cell;obtain ⟨f0,f1,f2,f3,f4,f5,f6,f7⟩:=aN8 B.frozen;simp at z0 z1 z2 z3 z4 z5 z6 z7;dsimp only at f0 f1 f2 f3 f4 f5 f6 f7;clear B) | (go_at_call 143;(with_reducible refine (nameR_any (T.out.set0 0 _)).mono ?_);rintro e w2 ⟨n2,st2,rfl,i2,x2,h2⟩;replace T:=aI h2;have X2:=aI x2;have I2:=aI i2;clear h2 x2 i2;(try clear z0 z1 z2 z3 z4 z5 z6 z7 f0 f1 f2 f3 f4 f5 f6 f7);have B:=T.out.box (.head _);obtain ⟨z0,z1,z2,z3,z4,z5,z6,z7⟩:=aN8 B.cell;obtain ⟨f0,f1,f2,f3,f4,f5,f6,f7⟩:=aN8 B.frozen;simp at z0 z1 z2 z3 z4 z5 z6 z7;dsimp only at f0 f1 f2 f3 f4 f5 f6 f7;clear B) | (go_at_call 143;(with_reducible refine (nameR_any (T.out.set0 2 _)).mono ?_);rintro e w3 ⟨n3,st3,rfl,i3,x3,h3⟩;replace T:=aI h3;have X3:=aI x3;have I3:=aI i3;clear h3 x3 i3;(try clear z0 z1 z2 z3 z4 z5 z6 z7 f0 f1 f2 f3 f4 f5 f6 f7);have B:=T.out.box (.head _);obtain ⟨z0,z1,z2,z3,z4,z5,z6,z7⟩:=aN8 B.cell;obtain ⟨f0,f1,f2,f3,f4,f5,f6,f7⟩:=aN8 B.frozen;simp at z0 z1 z2 z3 z4 z5 z6 z7;dsimp only at f0 f1 f2 f3 f4 f5 f6 f7;clear B))
  have T7:=aI (show PH (pkP w g) st3 _ ((N1,65,#[.string (Sx.ofT n1),.string (Sx.ofT n3),.string (Sx.ofT n2),.int .i64 8,.int .i64 0,.int .i64 0,.slice none 0 0,.slice none 0 0])::(N,65,#[.string ⟨#[]⟩,.string ⟨#[]⟩,.string ⟨#[]⟩,.int .i64 0,.int .i64 0,.int .i64 0,.slice none 0 0,.slice none 0 0])::bx) rs L _ from T.out.set0 1 (.string (Sx.ofT n3)))
  clear T;(try clear z0 z1 z2 z3 z4 z5 z6 z7 f0 f1 f2 f3 f4 f5 f6 f7)
  generalize w3.setCell ⟨N1,1,none⟩ (.string (Sx.ofT n3))=W8 at *
  have B:=T7.out.box (.head _);obtain ⟨z0,z1,z2,z3,z4,z5,z6,z7⟩:=aN8 B.cell
  have C:=T7.out.box (.tail _ (.head _));obtain ⟨y0,y1,y2,y3,y4,y5,y6,y7⟩:=aN8 C.cell;obtain ⟨f0,f1,f2,f3,f4,f5,f6,f7⟩:=aN8 C.frozen
  simp at z0 z1 z2 z3 z4 z5 z6 z7 y0 y1 y2 y3 y4 y5 y6 y7
  dsimp only at f0 f1 f2 f3 f4 f5 f6 f7
  clear B C
  have T8:=aI (show PH (pkP w g) st3 _ ((N,65,#[.string (Sx.ofT n1),.string (Sx.ofT n3),.string (Sx.ofT n2),.int .i64 8,.int .i64 0,.int .i64 0,.slice none 0 0,.slice none 0 0])::(N1,65,#[.string (Sx.ofT n1),.string (Sx.ofT n3),.string (Sx.ofT n2),.int .i64 8,.int .i64 0,.int .i64 0,.slice none 0 0,.slice none 0 0])::bx) rs L _ from ((((((((T7.out.bswap.set0 0 (.string (Sx.ofT n1))).set0 1 (.string (Sx.ofT n3))).set0 2 (.string (Sx.ofT n2))).set0 3 (.int .i64 8)).set0 4 (.int .i64 0)).set0 5 (.int .i64 0)).set0 6 (.slice none 0 0)).set0 7 (.slice none 0 0)))
  go_wp2_with fail
  clear y0 y1 y2 y3 y4 y5 y6 y7
  have C:=T8.out.box (.head _);obtain ⟨y0,y1,y2,y3,y4,y5,y6,y7⟩:=aN8 C.cell
  simp at y0 y1 y2 y3 y4 y5 y6 y7
  have z:inI 0:=by constructor <;> decide
  have zk:inI 8:=by constructor <;> decide
  have zz:=Nat.zero_le 9223372036854775807
  refine bodyPost_ret (v:=.agg #[.string (Sx.ofT n1),.string (Sx.ofT n3),.string (Sx.ofT n2),.int .i64 8,.int .i64 0,.int .i64 0,.slice none 0 0,.slice none 0 0]) ?_ rfl ?_
  ·simp [results,Tryz.results147,go_sem,y0,y1,y2,y3,y4,y5,y6,y7]
  ·exact ⟨(Sx.ofT n1,Sx.ofT n3,Sx.ofT n2,8,0,0,[],[]),_,st3,_,rfl,Sx.nx_field HW.out (Sx.nx_bind X1.out (show Sx.Nx (fun l=>(Sx.name l).bind fun u l=>(Sx.name l).bind fun o l=>.ok (Sx.ofT n1,Sx.ofT o,Sx.ofT u,8,0,0,[],[]) l) st1 _ _ from Sx.nx_bind X2.out (Sx.nx_bind X3.out (Sx.nx_ret _ _)))),T8.out.unbox.unbox.add (keeps_rep _ _) (fld_rep (ah I1.out (by decide)) (ah I3.out (by decide)) (ah I2.out (by decide)) zk z z .nil .nil (ag _) zz (ag _) zz)⟩
end
section
variable {w:World} {g:Nat} {st:Sx.St} {M:List Nat} {bx:List Box} {rs:List Rw} {L:List (List Nat->World->Prop)} {W:World}
theorem field_any {t:Sx.Tok} {l:List Sx.Tok} (he:SEnv w) (hw:Sx.isWord t.1=true) (h:PH (pkP w g) (t::l,false) M bx rs L W):Calls Tryz.prog 147 #[.pointer (some ⟨g,0,none⟩)] W (RdA (pkP w g) Sx.field (t::l,false) bx rs L):=by
 unfold Sx.isWord at hw
 cases hk:Sx.wordOf t.1 with
 | none=>rw [hk] at hw;cases hw
 | some k =>
  have h9:=Sx.wordOf_lt hk
  match k,h9 with
  | 0,_=>exact field0_any he hk h
  | 1,_=>exact field1_any he hk h
  | 2,_=>exact field2_any he hk h
  | 3,_=>exact field3_any he hk h
  | 4,_=>exact field4_any he hk h
  | 5,_=>exact field5_any he hk h
  | 6,_=>exact field6_any he hk h
  | 7,_=>exact field7_any he hk h
  | 8,_=>exact field8_any he hk h
theorem isWord_nil:Sx.isWord []=false:=by decide
theorem someF_any (he:SEnv w) (h:PH (pkP w g) st M bx rs L W) :
  Calls Tryz.prog 144 #[.pointer (some ⟨g,0,none⟩),.func (.func 145) #[] #[],.func (.func 147) #[.pointer (some ⟨g,0,none⟩)] #[]] W (RdL (pkP w g) (fun l=>Sx.many Sx.isWord Sx.field l.length [] l) st bx rs L):=by
 have T:=aI ((h.push 65 8).add (keeps_flat ([]:List (Fld)) []) rfl)
 have HE:=aI he
 have HTK:=aI (ph_tok h).1
 have HE9:=aI (fun (st:Sx.St) {M:List Nat} {bx:List Box} {rs:List Rw} {L:List (List Nat->World->Prop)} (W:World) (h:PH (pkP w g) st M bx rs L W)=>ph_env he h)
 clear h he
 obtain ⟨sx,hsx⟩:=aX (Sx.left st)
 have HSX:=aI hsx
 go_enter Tryz.func144,Tryz.ntmps144
 go_wp2_with fail
 go_loopg [7] sx (fun r v7 wr=>∃ (st1:Sx.St) (acc:List (Fld)) (xs:List Value) (M1:List Nat),PH (pkP w g) st1 M1 bx (⟨65,8,v7,acc.length,xs⟩::rs) ((fun M W=>Flat M W acc xs)::L) wr/\Sx.left st1=r/\acc.length+r<=sx/\(∀ x st',Sx.Nx (Sx.many Sx.isWord Sx.field st1.1.length acc) st1 x st'->Sx.Nx (fun l=>Sx.many Sx.isWord Sx.field l.length [] l) st x st'))
 case atStart=>exact ⟨st,[],[],_,T.out,HSX.out,by simp,fun x st' hx=>hx⟩
 case round =>
  obtain ⟨st1,acc,xs,M1,hH,hlf,hal,hnx⟩:=hrel
  obtain ⟨wo,rfl⟩:=aY wr
  replace T:=aI hH
  have HX:=aI hnx
  have HL:=aI hlf
  clear hH hnx hlf
  obtain ⟨l,f⟩:=st1
  obtain ⟨A7,c7,rfl⟩:=T.out.form
  obtain ⟨cs9,hb9,A9,c9,rfl,_⟩:=T.out.pbox
  have z1:=hb9.cell 1
  simp at z1
  clear hb9
  have HA8:=aI (show acc.length<=8193 by have h1:=HTK.out;have h2:=HSX.out;unfold Sx.left at h2;split at h2 <;> omega)
  cases f
  ·obtain ⟨bb,hbb⟩:=aX (Sx.isWord (Sx.pk (l,false)))
   cases bb
   ·have HST:=aI (Sx.nx_many_stop (begins:=Sx.isWord) (read:=Sx.field) (st:=(l,false)) (f:=l.length) (acc:=acc) (fun _ t r hl=>by obtain rfl:l=t::r:=hl;exact hbb))
    have hb8:Sx.isWord (Sx.pk (l,false))=false:=hbb
    clear hbb
    go_wp2_with (first | (go_at_call 139;(with_reducible refine aS (peek_any T.out) ?_)) | (go_at_call 145;(with_reducible refine aS (kind1_any _ _ (HE9.out _ _ T.out)) ?_)))
    go_ret
    obtain ⟨A,c,M',hv,hc1,hc2,h4,_⟩:=T.out.freeze (α:=_) rfl rfl (T.out.fact (.head _))
    injection hv with hv1 hv2 hv3
    subst hv1 hv3
    exact ⟨acc,_,_,_,M',rfl,hc1,hc2,HA8.out,HX.out _ _ HST.out,h4.less fun P hP=>by
     rcases aL hP with rfl | hP
     ·exact .head _
     ·exact .tail _ (.tail _ hP)⟩
   ·obtain ⟨t,r,rfl⟩:∃ t r,l=t::r:=by
     cases l with
     | nil=>exact absurd (hbb.symm.trans isWord_nil) (by simp)
     | cons t r=>exact ⟨t,r,rfl⟩
    have HBB:=aI (show Sx.isWord t.1=true from hbb)
    have hb8:Sx.isWord (Sx.pk (t::r,false))=true:=hbb
    clear hbb
    go_wp2_with (first | (go_at_call 139;(with_reducible refine aS (peek_any T.out) ?_)) | (go_at_call 145;(with_reducible refine aS (kind1_any _ _ (HE9.out _ _ T.out)) ?_)) | (go_at_call 147;(with_reducible refine (field_any HE.out HBB.out T.out).mono ?_);rintro e w3 ⟨a,us,st3,M3,rfl,x3,h3⟩;obtain ⟨A1,c1,B1,d1,rfl,r1,r2,r3,r4,r5,r6,r7,r8,r9,r10,r11,r12⟩:=rep_fld (h3.fact (.head _));replace T:=aI h3;have X3:=aI x3;clear h3 x3) | (at_builtin;obtain ⟨i0,hI,hz0,hz1,hz2⟩:=info_parts infoFld;refine wpList_append_ph (by rfl) _ _ 50 (by rfl) 65 i0 _ 8 120 Tryz.underlying50 hI hz0 hz1 hz2 rfl (by decide) (T.out.below (aP _ _)) (by rfl) _ _ 1 1 [.string (Sc.nm a),.string (Sc.of_ a),.string (Sc.up a),.int .i64 (Sc.kd a),.int .i64 (Sc.lo a),.int .i64 (Sc.hi a),.slice A1 (Sc.words a).length c1,.slice B1 (Sc.wts a).length d1] (by rfl) (reads_blk (Blk.new _ _ _) rfl) (by simp [Value.oneCell']) (by have:=HA8.out;unfold maxLen;omega) (by have:=HA8.out;omega) ?_;intro v7 w7 M7 h7 _;replace T:=aI h7;clear h7 hI hz0 hz1 hz2))
    have hlt:=Sx.left_eats Sx.eats_field X3.out
    have HFL:=aI ((T.out.fswap.flat (Flat.single (T.out.fact (.head _)))).less (L':=_::_) fun P hP=>by
     rcases aL hP with rfl | hP
     ·exact .head _
     ·exact .tail _ (.tail _ hP))
    rw [HL.out] at hlt
    go_roundg (Sx.left st3)
    case measure=>exact hlt
    case rel=>exact ⟨st3,acc++[a],_,_,by rw [aK];exact HFL.out,rfl,by rw [aK,List.length_singleton];omega,fun x st' hx=>HX.out _ _ (Sx.nx_many_step Sx.eats_field HBB.out X3.out hx)⟩
  ·have HST:=aI (Sx.nx_many_stop (begins:=Sx.isWord) (read:=Sx.field) (st:=(l,true)) (f:=l.length) (acc:=acc) (fun h=>by cases h))
   go_wp2_with fail
   go_ret
   obtain ⟨A,c,M',hv,hc1,hc2,h4,_⟩:=T.out.freeze (α:=_) rfl rfl (T.out.fact (.head _))
   injection hv with hv1 hv2 hv3
   subst hv1 hv3
   exact ⟨acc,_,_,_,M',rfl,hc1,hc2,HA8.out,HX.out _ _ HST.out,h4.less fun P hP=>by
    rcases aL hP with rfl | hP
    ·exact .head _
    ·exact .tail _ (.tail _ hP)⟩
theorem someL_any (he:SEnv w) {N:Nat} {wd:Sx.Txt} (hwd:wd≠[]) (hN:IsB N wd∈L) (h:PH (pkP w g) st M bx rs L W) :
  Calls Tryz.prog 106 #[.pointer (some ⟨g,0,none⟩),.func (.func 142) #[] #[.pointer (some ⟨N,0,none⟩)],.func (.func 107) #[.pointer (some ⟨g,0,none⟩)] #[]] W (RdL (pkP w g) (fun l=>Sx.many (fun t=>t == wd) Sx.life l.length [] l) st bx rs L):=by
 have T:=aI ((h.push 57 3).add (keeps_flat ([]:List (Lif)) []) rfl)
 have HE:=aI he
 have HTK:=aI (ph_tok h).1
 have HN:=aI hN
 clear hN
 clear h he
 obtain ⟨sx,hsx⟩:=aX (Sx.left st)
 have HSX:=aI hsx
 go_enter Tryz.func106,Tryz.ntmps106
 go_wp2_with fail
 go_loopg [7] sx (fun r v7 wr=>∃ (st1:Sx.St) (acc:List (Lif)) (xs:List Value) (M1:List Nat),PH (pkP w g) st1 M1 bx (⟨57,3,v7,acc.length,xs⟩::rs) ((fun M W=>Flat M W acc xs)::L) wr/\Sx.left st1=r/\acc.length+r<=sx/\(∀ x st',Sx.Nx (Sx.many (fun t=>t == wd) Sx.life st1.1.length acc) st1 x st'->Sx.Nx (fun l=>Sx.many (fun t=>t == wd) Sx.life l.length [] l) st x st'))
 case atStart=>exact ⟨st,[],[],_,T.out,HSX.out,by simp,fun x st' hx=>hx⟩
 case round =>
  obtain ⟨st1,acc,xs,M1,hH,hlf,hal,hnx⟩:=hrel
  obtain ⟨wo,rfl⟩:=aY wr
  replace T:=aI hH
  have HX:=aI hnx
  have HL:=aI hlf
  clear hH hnx hlf
  obtain ⟨l,f⟩:=st1
  obtain ⟨A7,c7,rfl⟩:=T.out.form
  obtain ⟨cs9,hb9,A9,c9,rfl,_⟩:=T.out.pbox
  have z1:=hb9.cell 1
  simp at z1
  clear hb9
  have cN:=isb_cell (T.out.fact (.tail _ HN.out))
  have HA8:=aI (show acc.length<=8193 by have h1:=HTK.out;have h2:=HSX.out;unfold Sx.left at h2;split at h2 <;> omega)
  cases f
  ·obtain ⟨bb,hbb⟩:∃ b,(fun t=>t == wd) (Sx.pk (l,false))=b:=⟨_,rfl⟩
   cases bb
   ·have HST:=aI (Sx.nx_many_stop (begins:=(fun t=>t == wd)) (read:=Sx.life) (st:=(l,false)) (f:=l.length) (acc:=acc) (fun _ t r hl=>by obtain rfl:l=t::r:=hl;exact hbb))
    have hb8:(Sx.pk (l,false) == wd)=false:=hbb
    clear hbb
    go_wp2_with (first | (go_at_call 139;(with_reducible refine aS (peek_any T.out) ?_)) | (go_at_call 142;(with_reducible refine aS (is1_any _ wd N _ cN) ?_)))
    go_ret
    obtain ⟨A,c,M',hv,hc1,hc2,h4,_⟩:=T.out.freeze (α:=_) rfl rfl (T.out.fact (.head _))
    injection hv with hv1 hv2 hv3
    subst hv1 hv3
    exact ⟨acc,_,_,_,M',rfl,hc1,hc2,HA8.out,HX.out _ _ HST.out,h4.less fun P hP=>by
     rcases aL hP with rfl | hP
     ·exact .head _
     ·exact .tail _ (.tail _ hP)⟩
   ·obtain ⟨t,r,rfl⟩:∃ t r,l=t::r:=by
     cases l with
     | nil=>exact absurd (hbb.symm.trans (show (([]:Sx.Txt) == wd)=false by cases wd with | nil=>exact absurd rfl hwd | cons _ _=>rfl)) (by simp)
     | cons t r=>exact ⟨t,r,rfl⟩
    have HBB:=aI (show (fun t=>t == wd) t.1=true from hbb)
    have hb8:(Sx.pk (t::r,false) == wd)=true:=hbb
    clear hbb
    go_wp2_with (first | (go_at_call 139;(with_reducible refine aS (peek_any T.out) ?_)) | (go_at_call 142;(with_reducible refine aS (is1_any _ wd N _ cN) ?_)) | (go_at_call 107;(with_reducible refine (life_any HE.out T.out).mono ?_);rintro e w3 ⟨a,us,st3,M3,rfl,x3,h3⟩;obtain ⟨A1,c1,B1,d1,rfl,r1,r2,r3,r4,r5,r6,r7⟩:=rep_lif (h3.fact (.head _));replace T:=aI h3;have X3:=aI x3;clear h3 x3) | (at_builtin;obtain ⟨i0,hI,hz0,hz1,hz2⟩:=info_parts infoLif;refine wpList_append_ph (by rfl) _ _ 24 (by rfl) 57 i0 _ 3 64 Tryz.underlying24 hI hz0 hz1 hz2 rfl (by decide) (T.out.below (aP _ _)) (by rfl) _ _ 1 1 [.string a.1,.slice A1 a.2.1.length c1,.slice B1 a.2.2.length d1] (by rfl) (reads_blk (Blk.new _ _ _) rfl) (by simp [Value.oneCell']) (by have:=HA8.out;unfold maxLen;omega) (by have:=HA8.out;omega) ?_;intro v7 w7 M7 h7 _;replace T:=aI h7;clear h7 hI hz0 hz1 hz2))
    have hlt:=Sx.left_eats Sx.eats_life X3.out
    have HFL:=aI ((T.out.fswap.flat (Flat.single (T.out.fact (.head _)))).less (L':=_::_) fun P hP=>by
     rcases aL hP with rfl | hP
     ·exact .head _
     ·exact .tail _ (.tail _ hP))
    rw [HL.out] at hlt
    go_roundg (Sx.left st3)
    case measure=>exact hlt
    case rel=>exact ⟨st3,acc++[a],_,_,by rw [aK];exact HFL.out,rfl,by rw [aK,List.length_singleton];omega,fun x st' hx=>HX.out _ _ (Sx.nx_many_step Sx.eats_life HBB.out X3.out hx)⟩
  ·have HST:=aI (Sx.nx_many_stop (begins:=(fun t=>t == wd)) (read:=Sx.life) (st:=(l,true)) (f:=l.length) (acc:=acc) (fun h=>by cases h))
   go_wp2_with fail
   go_ret
   obtain ⟨A,c,M',hv,hc1,hc2,h4,_⟩:=T.out.freeze (α:=_) rfl rfl (T.out.fact (.head _))
   injection hv with hv1 hv2 hv3
   subst hv1 hv3
   exact ⟨acc,_,_,_,M',rfl,hc1,hc2,HA8.out,HX.out _ _ HST.out,h4.less fun P hP=>by
    rcases aL hP with rfl | hP
    ·exact .head _
    ·exact .tail _ (.tail _ hP)⟩
theorem someR_any (he:SEnv w) {N:Nat} {wd:Sx.Txt} (hwd:wd≠[]) (hN:IsB N wd∈L) (h:PH (pkP w g) st M bx rs L W) :
  Calls Tryz.prog 108 #[.pointer (some ⟨g,0,none⟩),.func (.func 142) #[] #[.pointer (some ⟨N,0,none⟩)],.func (.func 109) #[.pointer (some ⟨g,0,none⟩)] #[]] W (RdL (pkP w g) (fun l=>Sx.many (fun t=>t == wd) Sx.rule l.length [] l) st bx rs L):=by
 have T:=aI ((h.push 60 5).add (keeps_flat ([]:List (Rul)) []) rfl)
 have HE:=aI he
 have HTK:=aI (ph_tok h).1
 have HN:=aI hN
 clear hN
 clear h he
 obtain ⟨sx,hsx⟩:=aX (Sx.left st)
 have HSX:=aI hsx
 go_enter Tryz.func108,Tryz.ntmps108
 go_wp2_with fail
 go_loopg [7] sx (fun r v7 wr=>∃ (st1:Sx.St) (acc:List (Rul)) (xs:List Value) (M1:List Nat),PH (pkP w g) st1 M1 bx (⟨60,5,v7,acc.length,xs⟩::rs) ((fun M W=>Flat M W acc xs)::L) wr/\Sx.left st1=r/\acc.length+r<=sx/\(∀ x st',Sx.Nx (Sx.many (fun t=>t == wd) Sx.rule st1.1.length acc) st1 x st'->Sx.Nx (fun l=>Sx.many (fun t=>t == wd) Sx.rule l.length [] l) st x st'))
 case atStart=>exact ⟨st,[],[],_,T.out,HSX.out,by simp,fun x st' hx=>hx⟩
 case round =>
  obtain ⟨st1,acc,xs,M1,hH,hlf,hal,hnx⟩:=hrel
  obtain ⟨wo,rfl⟩:=aY wr
  replace T:=aI hH
  have HX:=aI hnx
  have HL:=aI hlf
  clear hH hnx hlf
  obtain ⟨l,f⟩:=st1
  obtain ⟨A7,c7,rfl⟩:=T.out.form
  obtain ⟨cs9,hb9,A9,c9,rfl,_⟩:=T.out.pbox
  have z1:=hb9.cell 1
  simp at z1
  clear hb9
  have cN:=isb_cell (T.out.fact (.tail _ HN.out))
  have HA8:=aI (show acc.length<=8193 by have h1:=HTK.out;have h2:=HSX.out;unfold Sx.left at h2;split at h2 <;> omega)
  cases f
  ·obtain ⟨bb,hbb⟩:∃ b,(fun t=>t == wd) (Sx.pk (l,false))=b:=⟨_,rfl⟩
   cases bb
   ·have HST:=aI (Sx.nx_many_stop (begins:=(fun t=>t == wd)) (read:=Sx.rule) (st:=(l,false)) (f:=l.length) (acc:=acc) (fun _ t r hl=>by obtain rfl:l=t::r:=hl;exact hbb))
    have hb8:(Sx.pk (l,false) == wd)=false:=hbb
    clear hbb
    go_wp2_with (first | (go_at_call 139;(with_reducible refine aS (peek_any T.out) ?_)) | (go_at_call 142;(with_reducible refine aS (is1_any _ wd N _ cN) ?_)))
    go_ret
    obtain ⟨A,c,M',hv,hc1,hc2,h4,_⟩:=T.out.freeze (α:=_) rfl rfl (T.out.fact (.head _))
    injection hv with hv1 hv2 hv3
    subst hv1 hv3
    exact ⟨acc,_,_,_,M',rfl,hc1,hc2,HA8.out,HX.out _ _ HST.out,h4.less fun P hP=>by
     rcases aL hP with rfl | hP
     ·exact .head _
     ·exact .tail _ (.tail _ hP)⟩
   ·obtain ⟨t,r,rfl⟩:∃ t r,l=t::r:=by
     cases l with
     | nil=>exact absurd (hbb.symm.trans (show (([]:Sx.Txt) == wd)=false by cases wd with | nil=>exact absurd rfl hwd | cons _ _=>rfl)) (by simp)
     | cons t r=>exact ⟨t,r,rfl⟩
    have HBB:=aI (show (fun t=>t == wd) t.1=true from hbb)
    have hb8:(Sx.pk (t::r,false) == wd)=true:=hbb
    clear hbb
    go_wp2_with (first | (go_at_call 139;(with_reducible refine aS (peek_any T.out) ?_)) | (go_at_call 142;(with_reducible refine aS (is1_any _ wd N _ cN) ?_)) | (go_at_call 109;(with_reducible refine (rule_any HE.out T.out).mono ?_);rintro e w3 ⟨a,us,st3,M3,rfl,x3,h3⟩;obtain ⟨rfl,r1,r2,r3,r4,r5⟩:=rep_rul (h3.fact (.head _));replace T:=aI h3;have X3:=aI x3;clear h3 x3) | (at_builtin;obtain ⟨i0,hI,hz0,hz1,hz2⟩:=info_parts infoRul;refine wpList_append_ph (by rfl) _ _ 25 (by rfl) 60 i0 _ 5 72 Tryz.underlying25 hI hz0 hz1 hz2 rfl (by decide) (T.out.below (aP _ _)) (by rfl) _ _ 1 1 [.string a.1,.string a.2.1,.string a.2.2.1,.string a.2.2.2.1,.int .i64 a.2.2.2.2] (by rfl) (reads_blk (Blk.new _ _ _) rfl) (by simp [Value.oneCell']) (by have:=HA8.out;unfold maxLen;omega) (by have:=HA8.out;omega) ?_;intro v7 w7 M7 h7 _;replace T:=aI h7;clear h7 hI hz0 hz1 hz2))
    have hlt:=Sx.left_eats Sx.eats_rule X3.out
    have HFL:=aI ((T.out.fswap.flat (Flat.single (T.out.fact (.head _)))).less (L':=_::_) fun P hP=>by
     rcases aL hP with rfl | hP
     ·exact .head _
     ·exact .tail _ (.tail _ hP))
    rw [HL.out] at hlt
    go_roundg (Sx.left st3)
    case measure=>exact hlt
    case rel=>exact ⟨st3,acc++[a],_,_,by rw [aK];exact HFL.out,rfl,by rw [aK,List.length_singleton];omega,fun x st' hx=>HX.out _ _ (Sx.nx_many_step Sx.eats_rule HBB.out X3.out hx)⟩
  ·have HST:=aI (Sx.nx_many_stop (begins:=(fun t=>t == wd)) (read:=Sx.rule) (st:=(l,true)) (f:=l.length) (acc:=acc) (fun h=>by cases h))
   go_wp2_with fail
   go_ret
   obtain ⟨A,c,M',hv,hc1,hc2,h4,_⟩:=T.out.freeze (α:=_) rfl rfl (T.out.fact (.head _))
   injection hv with hv1 hv2 hv3
   subst hv1 hv3
   exact ⟨acc,_,_,_,M',rfl,hc1,hc2,HA8.out,HX.out _ _ HST.out,h4.less fun P hP=>by
    rcases aL hP with rfl | hP
    ·exact .head _
    ·exact .tail _ (.tail _ hP)⟩
end
end
end Go.Proofs.YtobcnhmhgoccnaaGreatDoor
