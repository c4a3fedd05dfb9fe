/- Parts of the proof, joined: SxFu, SxF3, SxF9. -/
import Derived.Test.YtobcnhmhgoccnaaGreatDoorV23
set_option maxRecDepth 100000
set_option maxHeartbeats 16000000
set_option linter.unusedVariables false
set_option linter.unusedSimpArgs false
set_option linter.unusedSectionVars false
namespace Go.Proofs.YtobcnhmhgoccnaaGreatDoor
open Go Go.RowKit
section
namespace Sx
theorem nx_field {t:Tok} {l:List Tok} {k:Nat} {v:Fld} {st':St} (hw:wordOf t.1=some k) (h:Nx (λl=>(name l).bind λnm l=>field1 k (ofT nm) l) (l,false) v st'):Nx field (t::l,false) v st':=by
 rw [nx_iff] at h ⊢
 have e:field (t::l)=(name l).bind λnm l=>field1 k (ofT nm) l:=by
  show (match wordOf t.1 with | none=>Res.bad (t::l) | some k=>(name l).bind λnm l=>field1 k (ofT nm) l)=_
  rw [hw]
 rw [e];exact h
end Sx
section
variable {w:World} {g:Nat} {M:List Nat} {bx:List Box} {rs:List Rw} {L:List (List Nat->World->Prop)} {W:World}
theorem nextT_any {t:Sx.Tok} {l:List Sx.Tok} (h:PH (pkP w g) (t::l,false) M bx rs L W) :
  Calls Tryz.prog 138 #[.pointer (some ⟨g,0,none⟩),.bool true] W λe W'=>e=.returned (.string (Sx.ofT t.1))/\PH (pkP w g) (l,false) M bx rs L W':=next_any true h
end
theorem wp_world {P:Program} {c:Code} {Q:Exit->Act->World->Prop} {a:Act} {W:World} {Pr:World->Prop} (h:Pr W) (k:∀W,Pr W->c.wp P Q a W):c.wp P Q a W:=k W h
section
variable {w:World} {g:Nat} {M:List Nat} {bx:List Box} {rs:List Rw} {L:List (List Nat->World->Prop)} {W:World}
theorem fieldA_any {t:Sx.Tok} {l:List Sx.Tok} {k:Nat} (hk8:k<=8) (hk3:k≠3) (he:SEnv w) (hw:Sx.wordOf t.1=some k) (h:PH (pkP w g) (t::l,false) M bx rs L W):Calls Tryz.prog 147 #[.pointer (some ⟨g,0,none⟩)] W (RdA (pkP w g) Sx.field (t::l,false) bx rs L):=by
 obtain ⟨N,hN⟩:=aX W.heap.size
 have T:=aI (h.new #[.string ⟨#[]⟩,.string ⟨#[]⟩,.string ⟨#[]⟩,.int .i64 0,.int .i64 0,.int .i64 0,.slice none 0 0,.slice none 0 0] 65 hN)
 have HE:=aI he
 have CI:=aI (λW h=>idxW_any t.1 W h)
 rw [Sx.wordI_some hw] at CI
 have HENV:=aI (λ(st:Sx.St) (M:List Nat) (bx:List Box) (W:World) (h:PH (pkP w g) st M bx rs L W)=>ph_env he h)
 have HX:=aI (λ(v:Fld) (st':Sx.St) (h:Sx.Nx (λl=>(Sx.name l).bind λnm l=>Sx.field1 k (Sx.ofT nm) l) (l,false) v st')=>Sx.nx_field hw h)
 clear h he hw
 go_enter Tryz.func147,Tryz.ntmps147
 go_upto_region 1 with fail
 generalize W.alloc (.cells #[.string ⟨#[]⟩,.string ⟨#[]⟩,.string ⟨#[]⟩,.int .i64 0,.int .i64 0,.int .i64 0,.slice none 0 0,.slice none 0 0] 65)=W1 at *
 go_cut [3] from 5 to 9 (λv3 w'=>∃(N1:Nat) (M2:List Nat),v3=.pointer (some ⟨N1,0,none⟩)/\PH (pkP w g) (l,false) M2 ((N1,65,#[.string ⟨#[]⟩,.string ⟨#[]⟩,.string ⟨#[]⟩,.int .i64 (k:Int),.int .i64 0,.int .i64 0,.slice none 0 0,.slice none 0 0])::(N,65,#[.string ⟨#[]⟩,.string ⟨#[]⟩,.string ⟨#[]⟩,.int .i64 0,.int .i64 0,.int .i64 0,.slice none 0 0,.slice none 0 0])::bx) rs L w')
 case first =>
  go_region_law (first | (go_simp;go_at_call 138;(first | refine (nextT_any T.out.drew).mono ?_ | refine (nextT_any (T.out.drew.new (N:=W1.heap.size) #[.string ⟨#[]⟩,.string ⟨#[]⟩,.string ⟨#[]⟩,.int .i64 0,.int .i64 0,.int .i64 0,.slice none 0 0,.slice none 0 0] 65 rfl)).mono ?_);rintro e w3 ⟨rfl,h3⟩;have T2:=aI h3;clear h3;have B:=T2.out.box (.head _);obtain ⟨z0,z1,z2,z3,z4,z5,z6,z7⟩:=aN8 B.cell;obtain ⟨f0,f1,f2,f3,f4,f5,f6,f7⟩:=aN8 B.frozen;simp at z0 z1 z2 z3 z4 z5 z6 z7;dsimp only at f0 f1 f2 f3 f4 f5 f6 f7;clear B) | (go_simp;go_at_call 167;(first | refine (CI.out _ (HENV.out _ _ _ _ T2.out)).mono ?_ | refine (CI.out _ (HENV.out _ _ _ _ (T2.out.new #[.string ⟨#[]⟩,.string ⟨#[]⟩,.string ⟨#[]⟩,.int .i64 0,.int .i64 0,.int .i64 0,.slice none 0 0,.slice none 0 0] 65 rfl))).mono ?_);rintro e w4 ⟨rfl,rfl⟩))
  all_goals
   go_wp2_with fail
   go_meet
   case rel=>first | exact ⟨_,_,rfl,T2.out.new _ _ rfl⟩ | exact ⟨_,_,rfl,(((((((T2.out.set0 0 _).set0 1 _).set0 2 _).set0 3 _).set0 4 _).set0 5 _).set0 6 _).set0 7 _⟩
 case rest =>
  obtain ⟨N1,M2,rfl,hT⟩:=hcut
  replace T:=aI hT
  clear hT CI HENV W1
  have B:=T.out.box (.head _);obtain ⟨z0,z1,z2,z3,z4,z5,z6,z7⟩:=aN8 B.cell;obtain ⟨f0,f1,f2,f3,f4,f5,f6,f7⟩:=aN8 B.frozen;simp at z0 z1 z2 z3 z4 z5 z6 z7;dsimp only at f0 f1 f2 f3 f4 f5 f6 f7;clear B
  rcases (show k=0∨(k=1∨k=2∨k=4∨k=5∨k=6∨k=7∨k=8) by omega) with rfl | hk
  case' inr =>
   rcases hk with rfl | rfl | rfl | rfl | rfl | rfl | rfl
   all_goals go_upto_region 27 with (first | (go_at_call 143;(first | (with_reducible refine (nameR_any T.out).mono ?_) | (with_reducible refine (nameR_any (T.out.set0 0 _)).mono ?_) | (with_reducible refine (nameR_any (T.out.set0 2 _)).mono ?_) | (with_reducible refine (nameR_any (T.out.set0 1 _)).mono ?_) | (with_reducible refine (nameR_any (T.out.set0 4 _)).mono ?_));rintro e w2 ⟨n,st,rfl,i,x,h⟩;replace T:=aI h;replace HX:=aI (λv st' h=>HX.out v st' (Sx.nx_bind x h));have I:=aI (ah i (by decide):(Sx.ofT n).size<=9223372036854775807);clear h x i;(try clear z0 z1 z2 z3 z4 z5 z6 z7 f0 f1 f2 f3 f4 f5 f6 f7);have B:=T.out.box (.head _);obtain ⟨z0,z1,z2,z3,z4,z5,z6,z7⟩:=aN8 B.cell;obtain ⟨f0,f1,f2,f3,f4,f5,f6,f7⟩:=aN8 B.frozen;simp at z0 z1 z2 z3 z4 z5 z6 z7;dsimp only at f0 f1 f2 f3 f4 f5 f6 f7;clear B) | (go_at_call 151;(first | (with_reducible refine (namesR_any T.out).mono ?_) | (with_reducible refine (namesR_any (T.out.set0 0 _)).mono ?_) | (with_reducible refine (namesR_any (T.out.set0 2 _)).mono ?_) | (with_reducible refine (namesR_any (T.out.set0 1 _)).mono ?_) | (with_reducible refine (namesR_any (T.out.set0 4 _)).mono ?_));rintro e w2 ⟨n,st,rfl,i,x,h⟩;replace T:=aI h;replace HX:=aI (λv st' h=>HX.out v st' (Sx.nx_bind x h));have I:=aI (ah i (by decide):(Sx.ofT n).size<=9223372036854775807);clear h x i;(try clear z0 z1 z2 z3 z4 z5 z6 z7 f0 f1 f2 f3 f4 f5 f6 f7);have B:=T.out.box (.head _);obtain ⟨z0,z1,z2,z3,z4,z5,z6,z7⟩:=aN8 B.cell;obtain ⟨f0,f1,f2,f3,f4,f5,f6,f7⟩:=aN8 B.frozen;simp at z0 z1 z2 z3 z4 z5 z6 z7;dsimp only at f0 f1 f2 f3 f4 f5 f6 f7;clear B) | (go_at_call 102;(first | (with_reducible refine (num_any' HE.out T.out).mono ?_) | (with_reducible refine (num_any' HE.out (T.out.set0 0 _)).mono ?_) | (with_reducible refine (num_any' HE.out (T.out.set0 2 _)).mono ?_) | (with_reducible refine (num_any' HE.out (T.out.set0 1 _)).mono ?_) | (with_reducible refine (num_any' HE.out (T.out.set0 4 _)).mono ?_));rintro e w2 ⟨n,st,rfl,i,x,h⟩;replace T:=aI h;replace HX:=aI (λv st' h=>HX.out v st' (Sx.nx_bind x h));have I:=aI i;clear h x i;(try clear z0 z1 z2 z3 z4 z5 z6 z7 f0 f1 f2 f3 f4 f5 f6 f7);have B:=T.out.box (.head _);obtain ⟨z0,z1,z2,z3,z4,z5,z6,z7⟩:=aN8 B.cell;obtain ⟨f0,f1,f2,f3,f4,f5,f6,f7⟩:=aN8 B.frozen;simp at z0 z1 z2 z3 z4 z5 z6 z7;dsimp only at f0 f1 f2 f3 f4 f5 f6 f7;clear B))
  case' inl=>go_upto_region 6 with (first | (go_at_call 143;(first | (with_reducible refine (nameR_any T.out).mono ?_) | (with_reducible refine (nameR_any (T.out.set0 0 _)).mono ?_) | (with_reducible refine (nameR_any (T.out.set0 2 _)).mono ?_) | (with_reducible refine (nameR_any (T.out.set0 1 _)).mono ?_) | (with_reducible refine (nameR_any (T.out.set0 4 _)).mono ?_));rintro e w2 ⟨n,st,rfl,i,x,h⟩;replace T:=aI h;replace HX:=aI (λv st' h=>HX.out v st' (Sx.nx_bind x h));have I:=aI (ah i (by decide):(Sx.ofT n).size<=9223372036854775807);clear h x i;(try clear z0 z1 z2 z3 z4 z5 z6 z7 f0 f1 f2 f3 f4 f5 f6 f7);have B:=T.out.box (.head _);obtain ⟨z0,z1,z2,z3,z4,z5,z6,z7⟩:=aN8 B.cell;obtain ⟨f0,f1,f2,f3,f4,f5,f6,f7⟩:=aN8 B.frozen;simp at z0 z1 z2 z3 z4 z5 z6 z7;dsimp only at f0 f1 f2 f3 f4 f5 f6 f7;clear B) | (go_at_call 151;(first | (with_reducible refine (namesR_any T.out).mono ?_) | (with_reducible refine (namesR_any (T.out.set0 0 _)).mono ?_) | (with_reducible refine (namesR_any (T.out.set0 2 _)).mono ?_) | (with_reducible refine (namesR_any (T.out.set0 1 _)).mono ?_) | (with_reducible refine (namesR_any (T.out.set0 4 _)).mono ?_));rintro e w2 ⟨n,st,rfl,i,x,h⟩;replace T:=aI h;replace HX:=aI (λv st' h=>HX.out v st' (Sx.nx_bind x h));have I:=aI (ah i (by decide):(Sx.ofT n).size<=9223372036854775807);clear h x i;(try clear z0 z1 z2 z3 z4 z5 z6 z7 f0 f1 f2 f3 f4 f5 f6 f7);have B:=T.out.box (.head _);obtain ⟨z0,z1,z2,z3,z4,z5,z6,z7⟩:=aN8 B.cell;obtain ⟨f0,f1,f2,f3,f4,f5,f6,f7⟩:=aN8 B.frozen;simp at z0 z1 z2 z3 z4 z5 z6 z7;dsimp only at f0 f1 f2 f3 f4 f5 f6 f7;clear B) | (go_at_call 102;(first | (with_reducible refine (num_any' HE.out T.out).mono ?_) | (with_reducible refine (num_any' HE.out (T.out.set0 0 _)).mono ?_) | (with_reducible refine (num_any' HE.out (T.out.set0 2 _)).mono ?_) | (with_reducible refine (num_any' HE.out (T.out.set0 1 _)).mono ?_) | (with_reducible refine (num_any' HE.out (T.out.set0 4 _)).mono ?_));rintro e w2 ⟨n,st,rfl,i,x,h⟩;replace T:=aI h;replace HX:=aI (λv st' h=>HX.out v st' (Sx.nx_bind x h));have I:=aI i;clear h x i;(try clear z0 z1 z2 z3 z4 z5 z6 z7 f0 f1 f2 f3 f4 f5 f6 f7);have B:=T.out.box (.head _);obtain ⟨z0,z1,z2,z3,z4,z5,z6,z7⟩:=aN8 B.cell;obtain ⟨f0,f1,f2,f3,f4,f5,f6,f7⟩:=aN8 B.frozen;simp at z0 z1 z2 z3 z4 z5 z6 z7;dsimp only at f0 f1 f2 f3 f4 f5 f6 f7;clear B))
  all_goals (
   refine wp_world (Pr:=λW=>∃(st:Sx.St) (M9:List Nat) (nm of_ up:ByteArray) (kd lo hi:Int),PH (pkP w g) st M9 ((N1,65,#[.string nm,.string of_,.string up,.int .i64 kd,.int .i64 lo,.int .i64 hi,.slice none 0 0,.slice none 0 0])::(N,65,#[.string ⟨#[]⟩,.string ⟨#[]⟩,.string ⟨#[]⟩,.int .i64 0,.int .i64 0,.int .i64 0,.slice none 0 0,.slice none 0 0])::bx) rs L W/\(nm.size<=9223372036854775807/\of_.size<=9223372036854775807/\up.size<=9223372036854775807/\inI kd/\inI lo/\inI hi)/\Sx.Nx Sx.field (t::l,false) (nm,of_,up,kd,lo,hi,[],[]) st) ?_ ?_
   .first
    | (have h7:=λu=>T.out.set0 5 u;simp only [aB,aF,aG] at h7;exact ⟨_,_,_,_,_,_,_,_,h7 _,⟨(by first | exact Go.RowKit.Hid.out (by assumption) | exact empty_size | (constructor <;> decide)),(by first | exact Go.RowKit.Hid.out (by assumption) | exact empty_size | (constructor <;> decide)),(by first | exact Go.RowKit.Hid.out (by assumption) | exact empty_size | (constructor <;> decide)),(by first | exact Go.RowKit.Hid.out (by assumption) | exact empty_size | (constructor <;> decide)),(by first | exact Go.RowKit.Hid.out (by assumption) | exact empty_size | (constructor <;> decide)),(by first | exact Go.RowKit.Hid.out (by assumption) | exact empty_size | (constructor <;> decide))⟩,HX.out _ _ (Sx.nx_ret _ _)⟩)
    | (have h7:=λu=>T.out.set0 1 u;simp only [aB,aF,aG] at h7;exact ⟨_,_,_,_,_,_,_,_,h7 _,⟨(by first | exact Go.RowKit.Hid.out (by assumption) | exact empty_size | (constructor <;> decide)),(by first | exact Go.RowKit.Hid.out (by assumption) | exact empty_size | (constructor <;> decide)),(by first | exact Go.RowKit.Hid.out (by assumption) | exact empty_size | (constructor <;> decide)),(by first | exact Go.RowKit.Hid.out (by assumption) | exact empty_size | (constructor <;> decide)),(by first | exact Go.RowKit.Hid.out (by assumption) | exact empty_size | (constructor <;> decide)),(by first | exact Go.RowKit.Hid.out (by assumption) | exact empty_size | (constructor <;> decide))⟩,HX.out _ _ (Sx.nx_ret _ _)⟩)
    | (have h7:=λu=>T.out.set0 4 u;simp only [aB,aF,aG] at h7;exact ⟨_,_,_,_,_,_,_,_,h7 _,⟨(by first | exact Go.RowKit.Hid.out (by assumption) | exact empty_size | (constructor <;> decide)),(by first | exact Go.RowKit.Hid.out (by assumption) | exact empty_size | (constructor <;> decide)),(by first | exact Go.RowKit.Hid.out (by assumption) | exact empty_size | (constructor <;> decide)),(by first | exact Go.RowKit.Hid.out (by assumption) | exact empty_size | (constructor <;> decide)),(by first | exact Go.RowKit.Hid.out (by assumption) | exact empty_size | (constructor <;> decide)),(by first | exact Go.RowKit.Hid.out (by assumption) | exact empty_size | (constructor <;> decide))⟩,HX.out _ _ (Sx.nx_ret _ _)⟩)
   clear T HX
   (try clear z0 z1 z2 z3 z4 z5 z6 z7 f0 f1 f2 f3 f4 f5 f6 f7)
   rintro W8 ⟨st,M9,nm,of_,up,kd,lo,hi,hT,hb,hx⟩
   have T7:=aI hT
   have HB:=aI hb
   have HX:=aI hx
   clear hT hb hx
   have B:=T7.out.box (.head _);obtain ⟨z0,z1,z2,z3,z4,z5,z6,z7⟩:=aN8 B.cell
   have C:=T7.out.box (.tail _ (.head _));obtain ⟨y0,y1,y2,y3,y4,y5,y6,y7⟩:=aN8 C.cell;obtain ⟨f0,f1,f2,f3,f4,f5,f6,f7⟩:=aN8 C.frozen
   simp at z0 z1 z2 z3 z4 z5 z6 z7 y0 y1 y2 y3 y4 y5 y6 y7
   dsimp only at f0 f1 f2 f3 f4 f5 f6 f7
   clear B C
   have T8:=aI (show PH (pkP w g) st _ ((N,65,#[.string nm,.string of_,.string up,.int .i64 kd,.int .i64 lo,.int .i64 hi,.slice none 0 0,.slice none 0 0])::(N1,65,#[.string nm,.string of_,.string up,.int .i64 kd,.int .i64 lo,.int .i64 hi,.slice none 0 0,.slice none 0 0])::bx) rs L _ from ((((((((T7.out.bswap.set0 0 (.string nm)).set0 1 (.string of_)).set0 2 (.string up)).set0 3 (.int .i64 kd)).set0 4 (.int .i64 lo)).set0 5 (.int .i64 hi)).set0 6 (.slice none 0 0)).set0 7 (.slice none 0 0)))
   go_wp2_with fail
   clear y0 y1 y2 y3 y4 y5 y6 y7
   have C:=T8.out.box (.head _);obtain ⟨y0,y1,y2,y3,y4,y5,y6,y7⟩:=aN8 C.cell
   simp at y0 y1 y2 y3 y4 y5 y6 y7
   have zz:=zN 9223372036854775807
   obtain ⟨d1,d2,d3,d4,d5,d6⟩:=HB.out
   refine zi (v:=.agg #[.string nm,.string of_,.string up,.int .i64 kd,.int .i64 lo,.int .i64 hi,.slice none 0 0,.slice none 0 0]) ?_ rfl ?_
   .simp [results,Tryz.results147,go_sem,y0,y1,y2,y3,y4,y5,y6,y7]
   .exact ⟨(nm,of_,up,kd,lo,hi,[],[]),_,st,_,rfl,HX.out,T8.out.unbox.unbox.add (keeps_rep _ _) (fld_rep d1 d2 d3 d4 d5 d6 .nil .nil (ag _) zz (ag _) zz)⟩)
end
end
section
theorem PH.rswap {K:PK} {st:Sx.St} {M:List Nat} {bx:List Box} {rs:List Rw} {r s:Rw} {L:List (List Nat->World->Prop)} {W:World} (h:PH K st M bx (r::s::rs) L W):PH K st M bx (s::r::rs) L W:=h.perm (List.Perm.swap _ _ _)
theorem infoI:(Tryz.prog.info? 3).map (λi=>(i.zero,i.size,i.bytes))=some (some (.int .i64 0),1,8):=by kernel_rfl
section
variable {w:World} {g:Nat} {M:List Nat} {bx:List Box} {rs:List Rw} {L:List (List Nat->World->Prop)} {W:World}
theorem field3_any {t:Sx.Tok} {l:List Sx.Tok} (he:SEnv w) (hw:Sx.wordOf t.1=some 3) (h:PH (pkP w g) (t::l,false) M bx rs L W):Calls Tryz.prog 147 #[.pointer (some ⟨g,0,none⟩)] W (RdA (pkP w g) Sx.field (t::l,false) bx rs L):=by
 obtain ⟨N,hN⟩:=aX W.heap.size
 have T:=aI (h.new #[.string ⟨#[]⟩,.string ⟨#[]⟩,.string ⟨#[]⟩,.int .i64 0,.int .i64 0,.int .i64 0,.slice none 0 0,.slice none 0 0] 65 hN)
 have HE:=aI he
 have CI:=aI (λW h=>idxW_any t.1 W h)
 rw [Sx.wordI_some hw] at CI
 have HENV:=aI (λ(st:Sx.St) (M:List Nat) (bx:List Box) (W:World) (h:PH (pkP w g) st M bx rs L W)=>ph_env he h)
 have HW:=aI hw
 clear h he hw
 go_enter Tryz.func147,Tryz.ntmps147
 go_upto_region 1 with fail
 generalize W.alloc (.cells #[.string ⟨#[]⟩,.string ⟨#[]⟩,.string ⟨#[]⟩,.int .i64 0,.int .i64 0,.int .i64 0,.slice none 0 0,.slice none 0 0] 65)=W1 at *
 go_cut [3] from 5 to 9 (λv3 w'=>∃(N1:Nat) (M2:List Nat),v3=.pointer (some ⟨N1,0,none⟩)/\PH (pkP w g) (l,false) M2 ((N1,65,#[.string ⟨#[]⟩,.string ⟨#[]⟩,.string ⟨#[]⟩,.int .i64 3,.int .i64 0,.int .i64 0,.slice none 0 0,.slice none 0 0])::(N,65,#[.string ⟨#[]⟩,.string ⟨#[]⟩,.string ⟨#[]⟩,.int .i64 0,.int .i64 0,.int .i64 0,.slice none 0 0,.slice none 0 0])::bx) rs L w')
 case first =>
  go_region_law (first | (go_simp;go_at_call 138;(first | refine (nextT_any T.out.drew).mono ?_ | refine (nextT_any (T.out.drew.new (N:=W1.heap.size) #[.string ⟨#[]⟩,.string ⟨#[]⟩,.string ⟨#[]⟩,.int .i64 0,.int .i64 0,.int .i64 0,.slice none 0 0,.slice none 0 0] 65 rfl)).mono ?_);rintro e w3 ⟨rfl,h3⟩;have T2:=aI h3;clear h3;have B:=T2.out.box (.head _);obtain ⟨z0,z1,z2,z3,z4,z5,z6,z7⟩:=aN8 B.cell;obtain ⟨f0,f1,f2,f3,f4,f5,f6,f7⟩:=aN8 B.frozen;simp at z0 z1 z2 z3 z4 z5 z6 z7;dsimp only at f0 f1 f2 f3 f4 f5 f6 f7;clear B) | (go_simp;go_at_call 167;(first | refine (CI.out _ (HENV.out _ _ _ _ T2.out)).mono ?_ | refine (CI.out _ (HENV.out _ _ _ _ (T2.out.new #[.string ⟨#[]⟩,.string ⟨#[]⟩,.string ⟨#[]⟩,.int .i64 0,.int .i64 0,.int .i64 0,.slice none 0 0,.slice none 0 0] 65 rfl))).mono ?_);rintro e w4 ⟨rfl,rfl⟩))
  all_goals
   go_wp2_with fail
   go_meet
   case rel=>first | exact ⟨_,_,rfl,T2.out.new _ _ rfl⟩ | exact ⟨_,_,rfl,(((((((T2.out.set0 0 _).set0 1 _).set0 2 _).set0 3 _).set0 4 _).set0 5 _).set0 6 _).set0 7 _⟩
 case rest =>
  obtain ⟨N1,M2,rfl,hT⟩:=hcut
  replace T:=aI hT
  clear hT CI HENV W1
  have B:=T.out.box (.head _);obtain ⟨z0,z1,z2,z3,z4,z5,z6,z7⟩:=aN8 B.cell;obtain ⟨f0,f1,f2,f3,f4,f5,f6,f7⟩:=aN8 B.frozen;simp at z0 z1 z2 z3 z4 z5 z6 z7;dsimp only at f0 f1 f2 f3 f4 f5 f6 f7;clear B
  go_wp2_with (first | (go_at_call 143;(with_reducible refine (nameR_any T.out).mono ?_);rintro e w1 ⟨n1,st1,rfl,i1,x1,h1⟩;replace T:=aI h1;have X1:=aI x1;have I1:=aI i1;clear h1 x1 i1;(try clear z0 z1 z2 z3 z4 z5 z6 z7 f0 f1 f2 f3 f4 f5 f6 f7);have B:=T.out.box (.head _);obtain ⟨z0,z1,z2,z3,z4,z5,z6,z7⟩:=aN8 B.cell;obtain ⟨f0,f1,f2,f3,f4,f5,f6,f7⟩:=aN8 B.frozen;simp at z0 z1 z2 z3 z4 z5 z6 z7;dsimp only at f0 f1 f2 f3 f4 f5 f6 f7;clear B) | (go_at_call 148;(with_reducible refine (cntR_any HE.out (T.out.set0 0 _)).mono ?_);rintro e w2 ⟨n0,stc,rfl,i3,x3,hc3,h3⟩;replace T:=aI h3;have X3:=aI x3;have I3:=aI i3;have HC3:=aI hc3;clear h3 x3 i3 hc3;(try clear z0 z1 z2 z3 z4 z5 z6 z7 f0 f1 f2 f3 f4 f5 f6 f7)))
  replace T:=aI (show PH (pkP w g) stc _ ((N1,65,#[.string (Sx.ofT n1),.string ⟨#[]⟩,.string ⟨#[]⟩,.int .i64 3,.int .i64 0,.int .i64 0,.slice none 0 0,.slice none 0 0])::(N,65,#[.string ⟨#[]⟩,.string ⟨#[]⟩,.string ⟨#[]⟩,.int .i64 0,.int .i64 0,.int .i64 0,.slice none 0 0,.slice none 0 0])::bx) (⟨9,1,.slice none 0 0,0,[]⟩::⟨3,1,.slice none 0 0,0,[]⟩::rs) ((λM W=>Flat M W ([]:List ByteArray) [])::(λM W=>Flat M W ([]:List Int) [])::L) w2 from (((T.out.push 3 1).push 9 1).add (keeps_flat ([]:List Int) []) rfl).add (keeps_flat ([]:List ByteArray) []) rfl)
  have HX0:=aI (show ∀x st',Sx.Nx (Sx.picks n0.toNat [] []) stc x st'->Sx.Nx (Sx.picks n0.toNat [] []) stc x st' from λ_ _ h=>h)
  go_loopg [4] (if stc.2=true then 0 else n0.toNat) (λr v4 wr=>∃(i:Int) (st1:Sx.St) (acc:List ByteArray) (ns:List Int) (xs ys:List Value) (M1:List Nat) (u v:Value),v4=.int .i64 i/\PH (pkP w g) st1 M1 ((N1,65,#[.string (Sx.ofT n1),.string ⟨#[]⟩,.string ⟨#[]⟩,.int .i64 3,.int .i64 0,.int .i64 0,u,v])::(N,65,#[.string ⟨#[]⟩,.string ⟨#[]⟩,.string ⟨#[]⟩,.int .i64 0,.int .i64 0,.int .i64 0,.slice none 0 0,.slice none 0 0])::bx) (⟨9,1,u,acc.length,xs⟩::⟨3,1,v,ns.length,ys⟩::rs) ((λM W=>Flat M W acc xs)::(λM W=>Flat M W ns ys)::L) wr/\inI i/\(if st1.2=true then 0 else i.toNat)=r/\(st1.2=false->i<=12)/\acc.length+r<=100/\ns.length=acc.length/\(∀x st',Sx.Nx (Sx.picks i.toNat acc ns) st1 x st'->Sx.Nx (Sx.picks n0.toNat [] []) stc x st'))
  case atStart=>exact ⟨n0,stc,[],[],[],[],_,_,_,rfl,T.out,I3.out,rfl,λh=>(HC3.out h).2,by
   show 0+(if stc.2=true then 0 else n0.toNat)<=100
   split
   .omega
   .rename_i hf;have:=HC3.out (by simpa using hf);omega,rfl,HX0.out⟩
  case round =>
   obtain ⟨i,st1,acc,ns,xs,ys,M1,u,v,rfl,hH,hi,hlf,h12,hal,hnl,hnx⟩:=hrel
   obtain ⟨wo,rfl⟩:=aY wr
   replace T:=aI hH
   have HX:=aI hnx
   have HI:=aI hi
   have H12:=aI h12
   have HLF:=aI hlf
   have HNL:=aI hnl
   have HAL:=aI hal
   clear hH hnx hlf hi h12 HX0 hnl hal
   obtain ⟨l1,f⟩:=st1
   obtain ⟨A7,c7,rfl⟩:=T.out.form
   obtain ⟨B7,d7,rfl⟩:=T.out.rswap.form
   obtain ⟨cs9,hb9,A9,c9,rfl,_⟩:=T.out.pbox
   have z9:=hb9.cell 1
   simp at z9
   clear hb9
   have HA8:=aI (show acc.length<=100 by have:=HAL.out;omega)
   have HN8:=aI (show ns.length<=100 by have:=HAL.out;have:=HNL.out;omega)
   by_cases hgo:0 < i/\f=false
   .obtain ⟨hi0,rfl⟩:=hgo
    have t1:decide (0 < i)=true:=ac hi0
    have q:=T.out.box (.head _);have q6:=q.cell 6;have q7:=q.cell 7;(simp at q6 q7);clear q
    go_wp2_with fail
    go_region_law (first | (obtain ⟨i0,hI,hz0,hz1,hz2⟩:=zq infoStr;refine step_append_ph (by rfl) _ _ 54 (by rfl) 9 i0 _ 1 16 Tryz.underlying54 hI hz0 hz1 hz2 rfl (by decide) (T2.out.below (aP _ _)) (by rfl) _ _ 1 1 [.string (Sx.ofT t3)] (by rfl) (reads_blk (zj _ _ _) rfl) (by simp [Value.oneCell']) (by have:=HA8.out;unfold maxLen;omega) (by have:=HA8.out;omega) ?_;intro v7 w7 M7 h7 _;obtain ⟨A8,c8,rfl⟩:=h7.form;have q:=h7.box (.head _);have q6:=q.cell 6;(simp at q6);have f6:=q.frozen 6;(dsimp only at f6);clear q;have T3:=aI h7;clear h7 hI hz0 hz1 hz2) | (go_simp;go_at_call 143;refine (nameR_any T.out.drew).mono ?_;rintro e w3 ⟨t3,st3,rfl,i3,x3,h3⟩;have q:=h3.box (.head _);have q6:=q.cell 6;(simp at q6);clear q;have T2:=aI h3;have X4:=aI x3;have I4:=aI i3;have q1b:∀o,(w3.alloc o).cell? ⟨N1,6,none⟩=some (.slice A7 acc.length c7):=(λo=>by have q:=(T2.out.below ((zf _ _).alloc (ag _) o)).box (.head _);have q:=q.cell 6;simpa using q);clear h3 x3 i3))
    all_goals
     have T4:=aI ((((T3.out.set0 6 (.slice A8 (acc.length+1) c8)).flat (Flat.single (us:=[.string (Sx.ofT t3)]) ⟨rfl,ah I4.out (by decide)⟩))).rswap.fswap)
     clear T T2 T3 q1b q6 q7
     (try clear f6)
     replace T4:=aI (show PH (pkP w g) st3 M7 ((N1,65,#[.string (Sx.ofT n1),.string ⟨#[]⟩,.string ⟨#[]⟩,.int .i64 3,.int .i64 0,.int .i64 0,.slice A8 (acc.length+1) c8,.slice B7 ns.length d7])::(N,65,#[.string ⟨#[]⟩,.string ⟨#[]⟩,.string ⟨#[]⟩,.int .i64 0,.int .i64 0,.int .i64 0,.slice none 0 0,.slice none 0 0])::bx) (⟨3,1,.slice B7 ns.length d7,ns.length,ys⟩::⟨9,1,.slice A8 (acc.length+1) c8,acc.length+1,xs++[.string (Sx.ofT t3)]⟩::rs) ((λM W=>Flat M W ns ys)::(λM W=>Flat M W (acc++[Sx.ofT t3]) (xs++[.string (Sx.ofT t3)]))::L) _ from T4.out)
     generalize w7.setCell ⟨N1,6,none⟩ (.slice A8 (acc.length+1) c8)=W9 at *
     have q:=T4.out.box (.head _);have q7:=q.cell 7;(simp at q7);clear q
     go_wp2_with fail
     go_region_law (first | (obtain ⟨i0,hI,hz0,hz1,hz2⟩:=zq infoI;refine step_append_ph (by rfl) _ _ 22 (by rfl) 3 i0 _ 1 8 Tryz.underlying22 hI hz0 hz1 hz2 rfl (by decide) (T5.out.below (aP _ _)) (by rfl) _ _ 1 1 [.int .i64 t5] (by rfl) (reads_blk (zj _ _ _) rfl) (by simp [Value.oneCell']) (by have:=HN8.out;unfold maxLen;omega) (by have:=HN8.out;omega) ?_;intro v8 w8 M8 h8 _;obtain ⟨B8,d8,rfl⟩:=h8.form;have q:=h8.box (.head _);have q7:=q.cell 7;(simp at q7);have f7:=q.frozen 7;(dsimp only at f7);clear q;have T6:=aI h8;clear h8 hI hz0 hz1 hz2) | (go_simp;go_at_call 102;refine (num_any' HE.out T4.out.drew).mono ?_;rintro e w5 ⟨t5,st5,rfl,i5,x5,h5⟩;have q:=h5.box (.head _);have q7:=q.cell 7;(simp at q7);clear q;have T5:=aI h5;have X5:=aI x5;have I5:=aI i5;have q1b:∀o,(w5.alloc o).cell? ⟨N1,7,none⟩=some (.slice B7 ns.length d7):=(λo=>by have q:=(T5.out.below ((zf _ _).alloc (ag _) o)).box (.head _);have q:=q.cell 7;simpa using q);clear h5 x5 i5))
     all_goals
      have T7:=aI ((((T6.out.set0 7 (.slice B8 (ns.length+1) d8)).flat (Flat.single (us:=[.int .i64 t5]) ⟨rfl,I5.out⟩))).rswap.fswap)
      have hw2:IntKind.i64.wrap (i - 1)=i - 1:=wrapI (by have:=HI.out;unfold inI at this ⊢;omega)
      have HW2:=aI hw2
      clear T4 T5 T6 q1b
      go_wp2_with fail
      go_roundg (if st5.2=true then 0 else (i - 1).toNat)
      case measure =>
       have h1:=HLF.out
       rw [if_neg (by simp)] at h1
       split <;> omega
      case rel =>
       have h1:=HLF.out
       have h2:=HAL.out
       rw [if_neg (by simp)] at h1
       refine ⟨i - 1,st5,acc++[Sx.ofT t3],ns++[t5],_,_,M8,_,_,by first | rfl | (rw [HW2.out]),by rw [aK,aK];exact T7.out,by have:=HI.out;unfold inI at this ⊢;omega,rfl,λ_=>by have:=H12.out (by simp);omega,by rw [aK,List.length_singleton];split <;> omega,by rw [aK,aK,HNL.out];rfl,λx st' hx=>HX.out _ _ ?_⟩
       rw [show i.toNat=(i - 1).toNat+1 by omega]
       exact Sx.nx_bind X4.out (Sx.nx_bind X5.out hx)
   .have HST:=aI (show Sx.Nx (Sx.picks i.toNat acc ns) (l1,f) (acc,ns) (l1,f) by
     cases f
     .rw [show i.toNat=0 by
        have:¬ 0 < i:=λh=>hgo ⟨h,rfl⟩
        omega]
      exact Sx.nx_ret _ _
     .exact Sx.nx_failed)
    obtain ⟨A,c,M',hv,hc1,hc2,h4,_⟩:=T.out.freeze (α:=ByteArray) rfl rfl (T.out.fact (.head _))
    injection hv with hv1 hv2 hv3
    subst hv1 hv3
    obtain ⟨B,d,M4,hv,hd1,hd2,h5,_⟩:=h4.freeze (α:=Int) rfl rfl (h4.fact (.tail _ (.tail _ (.head _))))
    injection hv with hv1 hv2 hv3
    subst hv1 hv3
    replace T:=aI (show PH (pkP w g) (l1,f) M4 ((N1,65,#[.string (Sx.ofT n1),.string ⟨#[]⟩,.string ⟨#[]⟩,.int .i64 3,.int .i64 0,.int .i64 0,.slice A7 acc.length c7,.slice B7 ns.length d7])::(N,65,#[.string ⟨#[]⟩,.string ⟨#[]⟩,.string ⟨#[]⟩,.int .i64 0,.int .i64 0,.int .i64 0,.slice none 0 0,.slice none 0 0])::bx) rs ((λM W=>SlAt M W B7 ns)::(λM W=>SlAt M W A7 acc)::L) wo from h5.less λP hP=>by
     rcases aL hP with rfl | hP
     .exact .head _
     .rcases aL hP with rfl | hP
      .exact .tail _ (.head _)
      .exact .tail _ (.tail _ (.tail _ (.tail _ hP))))
    clear h4 h5
    have HCC:=aI (show (acc.length<=c7/\c7<=9223372036854775807)/\ns.length<=d7/\d7<=9223372036854775807 from ⟨⟨hc1,hc2⟩,hd1,hd2⟩)
    clear hc1 hc2 hd1 hd2
    have hcase:decide (0 < i)=false∨(decide (0 < i)=true/\f=true):=by
     by_cases h:0 < i
     .exact .inr ⟨ac h,by cases f;exact zU ⟨h,rfl⟩ hgo;rfl⟩
     .exact .inl (qv h)
    clear hgo
    rcases hcase with t1 | ⟨t1,rfl⟩
    all_goals
     have B:=T.out.box (.head _);obtain ⟨z0,z1,z2,z3,z4,z5,z6,z7⟩:=aN8 B.cell
     have C:=T.out.box (.tail _ (.head _));obtain ⟨y0,y1,y2,y3,y4,y5,y6,y7⟩:=aN8 C.cell;obtain ⟨f0,f1,f2,f3,f4,f5,f6,f7⟩:=aN8 C.frozen
     simp at z0 z1 z2 z3 z4 z5 z6 z7 y0 y1 y2 y3 y4 y5 y6 y7
     dsimp only at f0 f1 f2 f3 f4 f5 f6 f7
     clear B C
     have T8:=aI (show PH (pkP w g) _ M4 ((N,65,#[.string (Sx.ofT n1),.string ⟨#[]⟩,.string ⟨#[]⟩,.int .i64 3,.int .i64 0,.int .i64 0,.slice A7 acc.length c7,.slice B7 ns.length d7])::(N1,65,#[.string (Sx.ofT n1),.string ⟨#[]⟩,.string ⟨#[]⟩,.int .i64 3,.int .i64 0,.int .i64 0,.slice A7 acc.length c7,.slice B7 ns.length d7])::bx) rs _ _ from ((((((((T.out.bswap.set0 0 (.string (Sx.ofT n1))).set0 1 (.string ⟨#[]⟩)).set0 2 (.string ⟨#[]⟩)).set0 3 (.int .i64 3)).set0 4 (.int .i64 0)).set0 5 (.int .i64 0)).set0 6 (.slice A7 acc.length c7)).set0 7 (.slice B7 ns.length d7)))
     clear T
     go_wp2_with fail
     clear y0 y1 y2 y3 y4 y5 y6 y7
     have C:=T8.out.box (.head _);obtain ⟨y0,y1,y2,y3,y4,y5,y6,y7⟩:=aN8 C.cell
     simp at y0 y1 y2 y3 y4 y5 y6 y7
     have z:inI 0:=by constructor <;> decide
     have zk:inI 3:=by constructor <;> decide
     have hn:=T8.out.fact (.head _)
     have ha:=T8.out.fact (.tail _ (.head _))
     refine zi (v:=.agg #[.string (Sx.ofT n1),.string ⟨#[]⟩,.string ⟨#[]⟩,.int .i64 3,.int .i64 0,.int .i64 0,.slice A7 acc.length c7,.slice B7 ns.length d7]) ?_ rfl ?_
     .simp [results,Tryz.results147,go_sem,y0,y1,y2,y3,y4,y5,y6,y7]
     .exact ⟨(Sx.ofT n1,Sx.ofT [],Sx.ofT [],3,0,0,acc,ns),_,_,_,rfl,Sx.nx_field HW.out (Sx.nx_bind X1.out (show Sx.Nx (λl=>(Sx.count l).bind λn l=>(Sx.picks n [] [] l).bind λp l=>.ok (Sx.ofT n1,Sx.ofT [],Sx.ofT [],3,0,0,p.1,p.2) l) st1 _ _ from Sx.nx_bind X3.out (Sx.nx_bind (HX.out _ _ HST.out) (Sx.nx_ret (Sx.ofT n1,Sx.ofT [],Sx.ofT [],3,0,0,acc,ns) _)))),(T8.out.unbox.unbox.add (keeps_rep (Sx.ofT n1,Sx.ofT [],Sx.ofT [],3,0,0,acc,ns) _) (fld_rep (ah I1.out (by decide)) empty_size empty_size zk z z ha hn HCC.out.1.1 HCC.out.1.2 HCC.out.2.1 HCC.out.2.2)).less λP hP=>by
       rcases aL hP with rfl | hP
       .exact .head _
       .exact .tail _ (.tail _ (.tail _ hP))⟩
end
section
variable {w:World} {g:Nat} {st:Sx.St} {M:List Nat} {bx:List Box} {rs:List Rw} {L:List (List Nat->World->Prop)} {W:World}
theorem field_any {t:Sx.Tok} {l:List Sx.Tok} (he:SEnv w) (hw:Sx.isWord t.1=true) (h:PH (pkP w g) (t::l,false) M bx rs L W):Calls Tryz.prog 147 #[.pointer (some ⟨g,0,none⟩)] W (RdA (pkP w g) Sx.field (t::l,false) bx rs L):=by
 unfold Sx.isWord at hw
 cases hk:Sx.wordOf t.1 with
 | none=>rw [hk] at hw;cases hw
 | some k =>
  have h9:=Sx.wordOf_lt hk
  by_cases h3:k=3
  .subst h3;exact field3_any he hk h
  .exact fieldA_any (by omega) h3 he hk h
theorem isWord_nil:Sx.isWord []=false:=by decide
theorem someF_any (he:SEnv w) (h:PH (pkP w g) st M bx rs L W) :
  Calls Tryz.prog 144 #[.pointer (some ⟨g,0,none⟩),.func (.func 145) #[] #[],.func (.func 147) #[.pointer (some ⟨g,0,none⟩)] #[]] W (RdL (pkP w g) (λl=>Sx.many Sx.isWord Sx.field l.length [] l) st bx rs L):=by
 have T:=aI ((h.push 65 8).add (keeps_flat ([]:List (Fld)) []) rfl)
 have HE:=aI he
 have HTK:=aI (ph_tok h).1
 have HE9:=aI (λ(st:Sx.St) {M:List Nat} {bx:List Box} {rs:List Rw} {L:List (List Nat->World->Prop)} (W:World) (h:PH (pkP w g) st M bx rs L W)=>ph_env he h)
 clear h he
 obtain ⟨sx,hsx⟩:=aX (Sx.left st)
 have HSX:=aI hsx
 go_enter Tryz.func144,Tryz.ntmps144
 go_wp2_with fail
 go_loopg [7] sx (λr v7 wr=>∃(st1:Sx.St) (acc:List (Fld)) (xs:List Value) (M1:List Nat),PH (pkP w g) st1 M1 bx (⟨65,8,v7,acc.length,xs⟩::rs) ((λM W=>Flat M W acc xs)::L) wr/\Sx.left st1=r/\acc.length+r<=sx/\(∀x st',Sx.Nx (Sx.many Sx.isWord Sx.field st1.1.length acc) st1 x st'->Sx.Nx (λl=>Sx.many Sx.isWord Sx.field l.length [] l) st x st'))
 case atStart=>exact ⟨st,[],[],_,T.out,HSX.out,by simp,λx st' hx=>hx⟩
 case round =>
  obtain ⟨st1,acc,xs,M1,hH,hlf,hal,hnx⟩:=hrel
  obtain ⟨wo,rfl⟩:=aY wr
  replace T:=aI hH
  have HX:=aI hnx
  have HL:=aI hlf
  clear hH hnx hlf
  obtain ⟨l,f⟩:=st1
  obtain ⟨A7,c7,rfl⟩:=T.out.form
  obtain ⟨cs9,hb9,A9,c9,rfl,_⟩:=T.out.pbox
  have z1:=hb9.cell 1
  simp at z1
  clear hb9
  have HA8:=aI (show acc.length<=8193 by have h1:=HTK.out;have h2:=HSX.out;unfold Sx.left at h2;split at h2 <;> omega)
  cases f
  .obtain ⟨bb,hbb⟩:=aX (Sx.isWord (Sx.pk (l,false)))
   cases bb
   .have HST:=aI (Sx.nx_many_stop (begins:=Sx.isWord) (read:=Sx.field) (st:=(l,false)) (f:=l.length) (acc:=acc) (λ_ t r hl=>by obtain rfl:l=t::r:=hl;exact hbb))
    have hb8:Sx.isWord (Sx.pk (l,false))=false:=hbb
    clear hbb
    go_wp2_with (first | (go_at_call 139;(with_reducible refine aS (peek_any T.out) ?_)) | (go_at_call 145;(with_reducible refine aS (kind1_any _ _ (HE9.out _ _ T.out)) ?_)))
    go_ret
    obtain ⟨A,c,M',hv,hc1,hc2,h4,_⟩:=T.out.freeze (α:=_) rfl rfl (T.out.fact (.head _))
    injection hv with hv1 hv2 hv3
    subst hv1 hv3
    exact ⟨acc,_,_,_,M',rfl,hc1,hc2,HA8.out,HX.out _ _ HST.out,h4.less λP hP=>by
     rcases aL hP with rfl | hP
     .exact .head _
     .exact .tail _ (.tail _ hP)⟩
   .obtain ⟨t,r,rfl⟩:∃t r,l=t::r:=by
     cases l with
     | nil=>exact zU (hbb.symm.trans isWord_nil) (by simp)
     | cons t r=>exact ⟨t,r,rfl⟩
    have HBB:=aI (show Sx.isWord t.1=true from hbb)
    have hb8:Sx.isWord (Sx.pk (t::r,false))=true:=hbb
    clear hbb
    go_wp2_with (first | (go_at_call 139;(with_reducible refine aS (peek_any T.out) ?_)) | (go_at_call 145;(with_reducible refine aS (kind1_any _ _ (HE9.out _ _ T.out)) ?_)) | (go_at_call 147;(with_reducible refine (field_any HE.out HBB.out T.out).mono ?_);rintro e w3 ⟨a,us,st3,M3,rfl,x3,h3⟩;obtain ⟨A1,c1,B1,d1,rfl,r1,r2,r3,r4,r5,r6,r7,r8,r9,r10,r11,r12⟩:=rep_fld (h3.fact (.head _));replace T:=aI h3;have X3:=aI x3;clear h3 x3) | (at_builtin;obtain ⟨i0,hI,hz0,hz1,hz2⟩:=zq infoFld;refine wpList_append_ph (by rfl) _ _ 50 (by rfl) 65 i0 _ 8 120 Tryz.underlying50 hI hz0 hz1 hz2 rfl (by decide) (T.out.below (aP _ _)) (by rfl) _ _ 1 1 [.string (Sc.nm a),.string (Sc.of_ a),.string (Sc.up a),.int .i64 (Sc.kd a),.int .i64 (Sc.lo a),.int .i64 (Sc.hi a),.slice A1 (Sc.words a).length c1,.slice B1 (Sc.wts a).length d1] (by rfl) (reads_blk (zj _ _ _) rfl) (by simp [Value.oneCell']) (by have:=HA8.out;unfold maxLen;omega) (by have:=HA8.out;omega) ?_;intro v7 w7 M7 h7 _;replace T:=aI h7;clear h7 hI hz0 hz1 hz2))
    have hlt:=Sx.left_eats Sx.eats_field X3.out
    have HFL:=aI ((T.out.fswap.flat (Flat.single (T.out.fact (.head _)))).less (L':=_::_) λP hP=>by
     rcases aL hP with rfl | hP
     .exact .head _
     .exact .tail _ (.tail _ hP))
    rw [HL.out] at hlt
    go_roundg (Sx.left st3)
    case measure=>exact hlt
    case rel=>exact ⟨st3,acc++[a],_,_,by rw [aK];exact HFL.out,rfl,by rw [aK,List.length_singleton];omega,λx st' hx=>HX.out _ _ (Sx.nx_many_step Sx.eats_field HBB.out X3.out hx)⟩
  .have HST:=aI (Sx.nx_many_stop (begins:=Sx.isWord) (read:=Sx.field) (st:=(l,true)) (f:=l.length) (acc:=acc) (λh=>by cases h))
   go_wp2_with fail
   go_ret
   obtain ⟨A,c,M',hv,hc1,hc2,h4,_⟩:=T.out.freeze (α:=_) rfl rfl (T.out.fact (.head _))
   injection hv with hv1 hv2 hv3
   subst hv1 hv3
   exact ⟨acc,_,_,_,M',rfl,hc1,hc2,HA8.out,HX.out _ _ HST.out,h4.less λP hP=>by
    rcases aL hP with rfl | hP
    .exact .head _
    .exact .tail _ (.tail _ hP)⟩
theorem someL_any (he:SEnv w) {N:Nat} {wd:Sx.Txt} (hwd:wd≠[]) (hN:IsB N wd∈L) (h:PH (pkP w g) st M bx rs L W) :
  Calls Tryz.prog 106 #[.pointer (some ⟨g,0,none⟩),.func (.func 142) #[] #[.pointer (some ⟨N,0,none⟩)],.func (.func 107) #[.pointer (some ⟨g,0,none⟩)] #[]] W (RdL (pkP w g) (λl=>Sx.many (λt=>t == wd) Sx.life l.length [] l) st bx rs L):=by
 have T:=aI ((h.push 57 3).add (keeps_flat ([]:List (Lif)) []) rfl)
 have HE:=aI he
 have HTK:=aI (ph_tok h).1
 have HN:=aI hN
 clear hN
 clear h he
 obtain ⟨sx,hsx⟩:=aX (Sx.left st)
 have HSX:=aI hsx
 go_enter Tryz.func106,Tryz.ntmps106
 go_wp2_with fail
 go_loopg [7] sx (λr v7 wr=>∃(st1:Sx.St) (acc:List (Lif)) (xs:List Value) (M1:List Nat),PH (pkP w g) st1 M1 bx (⟨57,3,v7,acc.length,xs⟩::rs) ((λM W=>Flat M W acc xs)::L) wr/\Sx.left st1=r/\acc.length+r<=sx/\(∀x st',Sx.Nx (Sx.many (λt=>t == wd) Sx.life st1.1.length acc) st1 x st'->Sx.Nx (λl=>Sx.many (λt=>t == wd) Sx.life l.length [] l) st x st'))
 case atStart=>exact ⟨st,[],[],_,T.out,HSX.out,by simp,λx st' hx=>hx⟩
 case round =>
  obtain ⟨st1,acc,xs,M1,hH,hlf,hal,hnx⟩:=hrel
  obtain ⟨wo,rfl⟩:=aY wr
  replace T:=aI hH
  have HX:=aI hnx
  have HL:=aI hlf
  clear hH hnx hlf
  obtain ⟨l,f⟩:=st1
  obtain ⟨A7,c7,rfl⟩:=T.out.form
  obtain ⟨cs9,hb9,A9,c9,rfl,_⟩:=T.out.pbox
  have z1:=hb9.cell 1
  simp at z1
  clear hb9
  have cN:=isb_cell (T.out.fact (.tail _ HN.out))
  have HA8:=aI (show acc.length<=8193 by have h1:=HTK.out;have h2:=HSX.out;unfold Sx.left at h2;split at h2 <;> omega)
  cases f
  .obtain ⟨bb,hbb⟩:∃b,(λt=>t == wd) (Sx.pk (l,false))=b:=⟨_,rfl⟩
   cases bb
   .have HST:=aI (Sx.nx_many_stop (begins:=(λt=>t == wd)) (read:=Sx.life) (st:=(l,false)) (f:=l.length) (acc:=acc) (λ_ t r hl=>by obtain rfl:l=t::r:=hl;exact hbb))
    have hb8:(Sx.pk (l,false) == wd)=false:=hbb
    clear hbb
    go_wp2_with (first | (go_at_call 139;(with_reducible refine aS (peek_any T.out) ?_)) | (go_at_call 142;(with_reducible refine aS (is1_any _ wd N _ cN) ?_)))
    go_ret
    obtain ⟨A,c,M',hv,hc1,hc2,h4,_⟩:=T.out.freeze (α:=_) rfl rfl (T.out.fact (.head _))
    injection hv with hv1 hv2 hv3
    subst hv1 hv3
    exact ⟨acc,_,_,_,M',rfl,hc1,hc2,HA8.out,HX.out _ _ HST.out,h4.less λP hP=>by
     rcases aL hP with rfl | hP
     .exact .head _
     .exact .tail _ (.tail _ hP)⟩
   .obtain ⟨t,r,rfl⟩:∃t r,l=t::r:=by
     cases l with
     | nil=>exact zU (hbb.symm.trans (show (([]:Sx.Txt) == wd)=false by cases wd with | nil=>exact zU rfl hwd | cons _ _=>rfl)) (by simp)
     | cons t r=>exact ⟨t,r,rfl⟩
    have HBB:=aI (show (λt=>t == wd) t.1=true from hbb)
    have hb8:(Sx.pk (t::r,false) == wd)=true:=hbb
    clear hbb
    go_wp2_with (first | (go_at_call 139;(with_reducible refine aS (peek_any T.out) ?_)) | (go_at_call 142;(with_reducible refine aS (is1_any _ wd N _ cN) ?_)) | (go_at_call 107;(with_reducible refine (life_any HE.out T.out).mono ?_);rintro e w3 ⟨a,us,st3,M3,rfl,x3,h3⟩;obtain ⟨A1,c1,B1,d1,rfl,r1,r2,r3,r4,r5,r6,r7⟩:=rep_lif (h3.fact (.head _));replace T:=aI h3;have X3:=aI x3;clear h3 x3) | (at_builtin;obtain ⟨i0,hI,hz0,hz1,hz2⟩:=zq infoLif;refine wpList_append_ph (by rfl) _ _ 24 (by rfl) 57 i0 _ 3 64 Tryz.underlying24 hI hz0 hz1 hz2 rfl (by decide) (T.out.below (aP _ _)) (by rfl) _ _ 1 1 [.string a.1,.slice A1 a.2.1.length c1,.slice B1 a.2.2.length d1] (by rfl) (reads_blk (zj _ _ _) rfl) (by simp [Value.oneCell']) (by have:=HA8.out;unfold maxLen;omega) (by have:=HA8.out;omega) ?_;intro v7 w7 M7 h7 _;replace T:=aI h7;clear h7 hI hz0 hz1 hz2))
    have hlt:=Sx.left_eats Sx.eats_life X3.out
    have HFL:=aI ((T.out.fswap.flat (Flat.single (T.out.fact (.head _)))).less (L':=_::_) λP hP=>by
     rcases aL hP with rfl | hP
     .exact .head _
     .exact .tail _ (.tail _ hP))
    rw [HL.out] at hlt
    go_roundg (Sx.left st3)
    case measure=>exact hlt
    case rel=>exact ⟨st3,acc++[a],_,_,by rw [aK];exact HFL.out,rfl,by rw [aK,List.length_singleton];omega,λx st' hx=>HX.out _ _ (Sx.nx_many_step Sx.eats_life HBB.out X3.out hx)⟩
  .have HST:=aI (Sx.nx_many_stop (begins:=(λt=>t == wd)) (read:=Sx.life) (st:=(l,true)) (f:=l.length) (acc:=acc) (λh=>by cases h))
   go_wp2_with fail
   go_ret
   obtain ⟨A,c,M',hv,hc1,hc2,h4,_⟩:=T.out.freeze (α:=_) rfl rfl (T.out.fact (.head _))
   injection hv with hv1 hv2 hv3
   subst hv1 hv3
   exact ⟨acc,_,_,_,M',rfl,hc1,hc2,HA8.out,HX.out _ _ HST.out,h4.less λP hP=>by
    rcases aL hP with rfl | hP
    .exact .head _
    .exact .tail _ (.tail _ hP)⟩
theorem someR_any (he:SEnv w) {N:Nat} {wd:Sx.Txt} (hwd:wd≠[]) (hN:IsB N wd∈L) (h:PH (pkP w g) st M bx rs L W) :
  Calls Tryz.prog 108 #[.pointer (some ⟨g,0,none⟩),.func (.func 142) #[] #[.pointer (some ⟨N,0,none⟩)],.func (.func 109) #[.pointer (some ⟨g,0,none⟩)] #[]] W (RdL (pkP w g) (λl=>Sx.many (λt=>t == wd) Sx.rule l.length [] l) st bx rs L):=by
 have T:=aI ((h.push 60 5).add (keeps_flat ([]:List (Rul)) []) rfl)
 have HE:=aI he
 have HTK:=aI (ph_tok h).1
 have HN:=aI hN
 clear hN
 clear h he
 obtain ⟨sx,hsx⟩:=aX (Sx.left st)
 have HSX:=aI hsx
 go_enter Tryz.func108,Tryz.ntmps108
 go_wp2_with fail
 go_loopg [7] sx (λr v7 wr=>∃(st1:Sx.St) (acc:List (Rul)) (xs:List Value) (M1:List Nat),PH (pkP w g) st1 M1 bx (⟨60,5,v7,acc.length,xs⟩::rs) ((λM W=>Flat M W acc xs)::L) wr/\Sx.left st1=r/\acc.length+r<=sx/\(∀x st',Sx.Nx (Sx.many (λt=>t == wd) Sx.rule st1.1.length acc) st1 x st'->Sx.Nx (λl=>Sx.many (λt=>t == wd) Sx.rule l.length [] l) st x st'))
 case atStart=>exact ⟨st,[],[],_,T.out,HSX.out,by simp,λx st' hx=>hx⟩
 case round =>
  obtain ⟨st1,acc,xs,M1,hH,hlf,hal,hnx⟩:=hrel
  obtain ⟨wo,rfl⟩:=aY wr
  replace T:=aI hH
  have HX:=aI hnx
  have HL:=aI hlf
  clear hH hnx hlf
  obtain ⟨l,f⟩:=st1
  obtain ⟨A7,c7,rfl⟩:=T.out.form
  obtain ⟨cs9,hb9,A9,c9,rfl,_⟩:=T.out.pbox
  have z1:=hb9.cell 1
  simp at z1
  clear hb9
  have cN:=isb_cell (T.out.fact (.tail _ HN.out))
  have HA8:=aI (show acc.length<=8193 by have h1:=HTK.out;have h2:=HSX.out;unfold Sx.left at h2;split at h2 <;> omega)
  cases f
  .obtain ⟨bb,hbb⟩:∃b,(λt=>t == wd) (Sx.pk (l,false))=b:=⟨_,rfl⟩
   cases bb
   .have HST:=aI (Sx.nx_many_stop (begins:=(λt=>t == wd)) (read:=Sx.rule) (st:=(l,false)) (f:=l.length) (acc:=acc) (λ_ t r hl=>by obtain rfl:l=t::r:=hl;exact hbb))
    have hb8:(Sx.pk (l,false) == wd)=false:=hbb
    clear hbb
    go_wp2_with (first | (go_at_call 139;(with_reducible refine aS (peek_any T.out) ?_)) | (go_at_call 142;(with_reducible refine aS (is1_any _ wd N _ cN) ?_)))
    go_ret
    obtain ⟨A,c,M',hv,hc1,hc2,h4,_⟩:=T.out.freeze (α:=_) rfl rfl (T.out.fact (.head _))
    injection hv with hv1 hv2 hv3
    subst hv1 hv3
    exact ⟨acc,_,_,_,M',rfl,hc1,hc2,HA8.out,HX.out _ _ HST.out,h4.less λP hP=>by
     rcases aL hP with rfl | hP
     .exact .head _
     .exact .tail _ (.tail _ hP)⟩
   .obtain ⟨t,r,rfl⟩:∃t r,l=t::r:=by
     cases l with
     | nil=>exact zU (hbb.symm.trans (show (([]:Sx.Txt) == wd)=false by cases wd with | nil=>exact zU rfl hwd | cons _ _=>rfl)) (by simp)
     | cons t r=>exact ⟨t,r,rfl⟩
    have HBB:=aI (show (λt=>t == wd) t.1=true from hbb)
    have hb8:(Sx.pk (t::r,false) == wd)=true:=hbb
    clear hbb
    go_wp2_with (first | (go_at_call 139;(with_reducible refine aS (peek_any T.out) ?_)) | (go_at_call 142;(with_reducible refine aS (is1_any _ wd N _ cN) ?_)) | (go_at_call 109;(with_reducible refine (rule_any HE.out T.out).mono ?_);rintro e w3 ⟨a,us,st3,M3,rfl,x3,h3⟩;obtain ⟨rfl,r1,r2,r3,r4,r5⟩:=rep_rul (h3.fact (.head _));replace T:=aI h3;have X3:=aI x3;clear h3 x3) | (at_builtin;obtain ⟨i0,hI,hz0,hz1,hz2⟩:=zq infoRul;refine wpList_append_ph (by rfl) _ _ 25 (by rfl) 60 i0 _ 5 72 Tryz.underlying25 hI hz0 hz1 hz2 rfl (by decide) (T.out.below (aP _ _)) (by rfl) _ _ 1 1 [.string a.1,.string a.2.1,.string a.2.2.1,.string a.2.2.2.1,.int .i64 a.2.2.2.2] (by rfl) (reads_blk (zj _ _ _) rfl) (by simp [Value.oneCell']) (by have:=HA8.out;unfold maxLen;omega) (by have:=HA8.out;omega) ?_;intro v7 w7 M7 h7 _;replace T:=aI h7;clear h7 hI hz0 hz1 hz2))
    have hlt:=Sx.left_eats Sx.eats_rule X3.out
    have HFL:=aI ((T.out.fswap.flat (Flat.single (T.out.fact (.head _)))).less (L':=_::_) λP hP=>by
     rcases aL hP with rfl | hP
     .exact .head _
     .exact .tail _ (.tail _ hP))
    rw [HL.out] at hlt
    go_roundg (Sx.left st3)
    case measure=>exact hlt
    case rel=>exact ⟨st3,acc++[a],_,_,by rw [aK];exact HFL.out,rfl,by rw [aK,List.length_singleton];omega,λx st' hx=>HX.out _ _ (Sx.nx_many_step Sx.eats_rule HBB.out X3.out hx)⟩
  .have HST:=aI (Sx.nx_many_stop (begins:=(λt=>t == wd)) (read:=Sx.rule) (st:=(l,true)) (f:=l.length) (acc:=acc) (λh=>by cases h))
   go_wp2_with fail
   go_ret
   obtain ⟨A,c,M',hv,hc1,hc2,h4,_⟩:=T.out.freeze (α:=_) rfl rfl (T.out.fact (.head _))
   injection hv with hv1 hv2 hv3
   subst hv1 hv3
   exact ⟨acc,_,_,_,M',rfl,hc1,hc2,HA8.out,HX.out _ _ HST.out,h4.less λP hP=>by
    rcases aL hP with rfl | hP
    .exact .head _
    .exact .tail _ (.tail _ hP)⟩
end
end
end Go.Proofs.YtobcnhmhgoccnaaGreatDoor
