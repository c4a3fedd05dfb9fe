/- Parts of the proof, joined: W36b. -/
import Derived.Test.YtobcnhmhgoccnaaGreatDoorV2
import Derived.Deep.CutBlock
set_option linter.unusedVariables false
set_option linter.unusedSimpArgs false
set_option linter.unusedSectionVars false
namespace Go.Proofs.YtobcnhmhgoccnaaGreatDoor
open Go Go.RowKit
theorem SlAt.reads_on {α:Type} [Mem α] {G:List Nat} {w:World} {A:Option Addr} {l:List α} (h:SlAt G w A l) (hn:0 < l.length):∃b o xs,A=some ⟨b,o,none⟩/\xs.length=l.length*Mem.sz α/\Flat G w l xs/\∀w',Chg G w w'->∀j u,xs[j]?=some u->w'.cell? ((Addr.mk b o none).add j)=some u:=by
 obtain ⟨xs,hr,hf⟩:=h.reads
 rcases h with rfl | ⟨b,o,rfl,hb,hg,_⟩
 .simp at hn
 .refine ⟨b,o,xs,rfl,hr.1,hf,λw' hc j u hu=>?_⟩
  obtain ⟨ad,ha,_,hcell⟩:=hr.2 hn
  injection ha with ha
  subst ha
  refine hc.cell ?_ (hcell j u hu)
  have:((Addr.mk b o none).add j).block=b:=by unfold Addr.add;split <;> rfl
  rw [this];exact hg
theorem MkH.chg {K:MkK} {M:List Nat} {bx:List Box} {rs:List Rw} {L:List (List Nat->World->Prop)} {W W':World} (h:MkH K M bx rs L W) (hr:K.R W W'):Chg M W W':=hr.chg.mono λg hg=>.inl (by rw [zg.1 hg];exact h.gmM)
def totC (nm:ByteArray):List Value:=[.string Sg.btotal,.string nm,.string Sg.be,.int .i64 6,.int .i64 0,.int .i64 0,.slice none 0 0,.slice none 0 0]
theorem totLit_kept {gm:Nat} {t:TypeId} {sl:Value} {B0 n8:Nat} {us:List Value} {te:TypeId} (hg:gm < B0) {cs:Array Value} (hs:cs.size<=n8):@RG.Kept (lateGrow gm t sl B0 te n8 us) (λv w=>∃N,v=.slice (some ⟨N,0,none⟩) 1 1/\B0<=N/\Blk w N te cs):=by
 rintro v w w' ⟨N,h1,h2,h3⟩ hr
 have hr:LR gm t sl B0 te n8 us w w':=hr
 exact ⟨N,h1,h2,hr.blk h3 (by omega) hs⟩
def PtrT (B:Nat) (t:TypeId) (Q:Array Value->Nat->Prop) (v:Value) (w:World):Prop:=∃cs N i,v=.pointer (some ⟨N,i,none⟩)/\Q cs i/\B<=N/\Blk w N t cs
theorem ptrT_kept (K:MkK) (B:Nat) (t:TypeId) (Q:Array Value->Nat->Prop) (hB:K.gm < B):@RG.Kept K.grow (PtrT B t Q):=by
 rintro v w w' ⟨cs,N,i,h1,h2,h3,h4⟩ hr
 exact ⟨cs,N,i,h1,h2,h3,((MkR.chg hr).block N h4.lt (by simp;omega)).trans h4⟩
def KindP (K:MkK) (bx:List Box) (rs:List Rw) (L:List (List Nat->World->Prop)) (ks:List Knd) (n:Nat) (kv:Value) (e:Ending) (w':World):Prop :=
 ∃k ks' A c kxs' M',e=.returned (.agg #[.string k.1,.int .i64 k.2.1,.int .i64 k.2.2.1,.slice A (Sc.flds k).length c])/\(Sc.flds k).length<=c/\c<=9223372036854775807/\Sg.Kind ks k ks' /\
  MkH K M' bx (⟨52,4,kv,n,kxs'⟩::rs) ((λM W=>SlAt M W A (Sc.flds k))::(λM W=>Flat M W ks' kxs')::L) w'
def KSt (K:MkK) (bx:List Box) (rs:List Rw) (L:List (List Nat->World->Prop)) (rb n:Nat) (kv p:Value) (nm:ByteArray) (lo hi:Int) (fs:List Fld) (ks:List Knd) (w:World):Prop :=
 ∃M kb fv fxs kxs,p=.pointer (some ⟨kb,0,none⟩)/\MkH K M ((kb,52,#[.string nm,.int .i64 lo,.int .i64 hi,fv])::(rb,52,#[.string ⟨#[]⟩,.int .i64 0,.int .i64 0,.slice none 0 0])::bx) (⟨65,8,fv,fs.length,fxs⟩::⟨52,4,kv,n,kxs⟩::rs) ((λM W=>Flat M W fs fxs)::(λM W=>Flat M W ks kxs)::L) w
def KSt2 (K:MkK) (bx:List Box) (rs:List Rw) (L:List (List Nat->World->Prop)) (rb n:Nat) (kv p:Value) (nm:ByteArray) (lo hi:Int) (fs:List Fld) (ks:List Knd) (p9:Value) (nmo:ByteArray) (flo hi2:Int) (w:World):Prop :=
 ∃M kb fb fv fxs kxs,p=.pointer (some ⟨kb,0,none⟩)/\p9=.pointer (some ⟨fb,0,none⟩)/\MkH K M ((fb,65,#[.string Sg.bof,.string nmo,.string Sg.be,.int .i64 1,.int .i64 flo,.int .i64 hi2,.slice none 0 0,.slice none 0 0])::(kb,52,#[.string nm,.int .i64 lo,.int .i64 hi,fv])::(rb,52,#[.string ⟨#[]⟩,.int .i64 0,.int .i64 0,.slice none 0 0])::bx) (⟨65,8,fv,fs.length,fxs⟩::⟨52,4,kv,n,kxs⟩::rs) ((λM W=>Flat M W fs fxs)::(λM W=>Flat M W ks kxs)::L) w
theorem flat_knd {G:List Nat} {w:World} {ks:List Knd} {xs:List Value} (h:Flat G w ks xs) (k:Nat) (hk:k < ks.length):∃B cB,xs[k*4]?=some (.string ks[k].1)/\xs[k*4+1]?=some (.int .i64 ks[k].2.1)/\xs[k*4+2]?=some (.int .i64 ks[k].2.2.1)/\xs[k*4+3]?=some (.slice B (Sc.flds ks[k]).length cB) /\
  SlAt G w B (Sc.flds ks[k])/\(Sc.flds ks[k]).length<=cB/\cB<=9223372036854775807/\ks[k].1.size<=9223372036854775807:=by
 obtain ⟨us,h1,h2⟩:=h.get k hk
 obtain ⟨B,cB,rfl,s1,a1,a2,a3,a4,a5⟩:=rep_knd h1
 exact ⟨B,cB,h2 0 _ rfl,h2 1 _ rfl,h2 2 _ rfl,h2 3 _ rfl,s1,a4,a5,a3⟩
section
variable {K:MkK} {M:List Nat} {bx:List Box} {rs:List Rw} {L:List (List Nat->World->Prop)} {W:World}
theorem MkH.rform {e:TypeId} {size n c:Nat} {A:Option Addr} {xs:List Value} (h:MkH K M bx rs L W) (hr:(⟨e,size,.slice A n c,n,xs⟩:Rw)∈rs) (hn:0 < n):∃g,A=some ⟨g,0,none⟩:=by
 obtain ⟨g,rfl,_⟩:=owns_cell (h.own _ hr) hn
 exact ⟨g,rfl⟩
theorem MkH.rcell {e:TypeId} {size n c g:Nat} {xs:List Value} (h:MkH K M bx rs L W) (hr:(⟨e,size,.slice (some ⟨g,0,none⟩) n c,n,xs⟩:Rw)∈rs) (hn:0 < n) {j:Nat} {u:Value} (hu:xs[j]?=some u):W.cell? ⟨g,j,none⟩=some u:=by
 obtain ⟨g',hg,hc⟩:=owns_cell (h.own _ hr) hn
 obtain rfl:g=g':=by injection hg with h;injection h
 exact hc j u hu
theorem MkH.rfroz {e:TypeId} {size n c g:Nat} {xs:List Value} (h:MkH K M bx rs L W) (hr:(⟨e,size,.slice (some ⟨g,0,none⟩) n c,n,xs⟩:Rw)∈rs) (hn:0 < n) (j:Nat):W.frozen? ⟨g,j,none⟩=false:=by
 obtain ⟨g',cur,hg,hb,_⟩:=owns_blk (h.own _ hr) hn
 obtain rfl:g=g':=by injection hg with h;injection h
 exact hb.frozen j
theorem MkH.swap {x y:Box} (h:MkH K M (x::y::bx) rs L W):MkH K M (y::x::bx) rs L W:=by
 obtain ⟨j,hj,H⟩:=h.it
 exact ⟨h.len,h.base,j,hj,H.bperm (.cons _ (List.Perm.swap _ _ _))⟩
theorem MkH.unbox {x:Box} (h:MkH K M (x::bx) rs L W):MkH K M bx rs L W:=h.boxes (.cons _ (List.Sublist.refl _))
theorem MkH.tail {P:List Nat->World->Prop} (h:MkH K M bx rs (P::L) W):MkH K M bx rs L W:=h.less λ_P hP=>.tail _ hP
theorem MkH.fswap {P Q:List Nat->World->Prop} (h:MkH K M bx rs (P::Q::L) W):MkH K M bx rs (Q::P::L) W:=h.less λR hR=>by
 rcases aL hR with rfl | hR
 .exact .tail _ (.head _)
 .rcases aL hR with rfl | hR
  .exact .head _
  .exact .tail _ (.tail _ hR)
theorem MkH.rowSl {α:Type} [Mem α] {e:TypeId} {v:Value} {l:List α} {xs:List Value} (h:MkH K M bx rs L W) (hr:(⟨e,Mem.sz α,v,l.length,xs⟩:Rw)∈rs) (hf:Flat M W l xs):∃A c,v=.slice A l.length c/\l.length<=c/\c<=9223372036854775807/\SlAt [] W A l:=by
 obtain ⟨A,c,h1,h2,h3,h4⟩:=Rep.of_own (h.own _ hr) (hf.sub (G':=[]) λg hg=>by cases hg) λg _ hg=>by cases hg
 injection h1 with h1 _
 exact ⟨A,c,h1,h2,h3,h4⟩
theorem MkH.drop3 {P Q R:List Nat->World->Prop} (h:MkH K M bx rs (P::Q::R::L) W):MkH K M bx rs (P::Q::L) W:=h.less λS hS=>by
 rcases aL hS with rfl | hS
 .exact .head _
 .rcases aL hS with rfl | hS
  .exact .tail _ (.head _)
  .exact .tail _ (.tail _ (.tail _ hS))
theorem KSt.mk1 {rb n kb m:Nat} {kv fv:Value} {nm:ByteArray} {lo hi:Int} {fs news:List Fld} {ks:List Knd} {us kxs:List Value} (h:MkH K M ((kb,52,#[.string nm,.int .i64 lo,.int .i64 hi,fv])::(rb,52,#[.string ⟨#[]⟩,.int .i64 0,.int .i64 0,.slice none 0 0])::bx) (⟨65,8,fv,fs.length+m,us⟩::⟨52,4,kv,n,kxs⟩::rs) ((λM W=>Flat M W (fs++news) us)::(λM W=>Flat M W ks kxs)::L) W) (hm:news.length=m) :
  KSt K bx rs L rb n kv (.pointer (some ⟨kb,0,none⟩)) nm lo hi (fs++news) ks W:=by
 subst hm
 rw [<-aK] at h
 exact ⟨M,kb,fv,us,kxs,rfl,h⟩
end
theorem ids_at (z:Nat) (h:z < 4):∃lo:Int,Sg.okLo lo/\(#[Value.int .i64 0,.int .i64 1,.int .i64 100,.int .i64 (-3)]:Array Value)[z]?=some (.int .i64 lo):=by
 rcases (show z=0∨z=1∨z=2∨z=3 by omega) with rfl | rfl | rfl | rfl
 all_goals exact ⟨_,by unfold Sg.okLo;decide,rfl⟩
theorem his_at (z:Nat) (h:z < 4):∃hi:Int,2<=hi/\hi<=8/\(#[Value.int .i64 4,.int .i64 3,.int .i64 8,.int .i64 2]:Array Value)[z]?=some (.int .i64 hi):=by
 rcases (show z=0∨z=1∨z=2∨z=3 by omega) with rfl | rfl | rfl | rfl
 all_goals exact ⟨_,by decide,by decide,rfl⟩
theorem okLo_bd {lo:Int} (h:Sg.okLo lo):-3<=lo/\lo<=100:=by rcases h with rfl | rfl | rfl | rfl <;> decide
theorem los_at (z:Nat) (h:z < 6):∃lo:Int,0<=lo/\lo<=4/\(#[Value.int .i64 0,.int .i64 1,.int .i64 2,.int .i64 4,.int .i64 1,.int .i64 2]:Array Value)[z]?=some (.int .i64 lo):=by
 rcases (show z=0∨z=1∨z=2∨z=3∨z=4∨z=5 by omega) with rfl | rfl | rfl | rfl | rfl | rfl
 all_goals exact ⟨_,by decide,by decide,rfl⟩
theorem names_at (n:Nat) (h:n<=2):(#[Value.string ⟨#[112,101,114,115,111,110]⟩,.string ⟨#[111,114,100,101,114]⟩,.string ⟨#[105,116,101,109]⟩]:Array Value)[n]?=some (.string (Sg.kname n)):=by
 rcases (show n=0∨n=1∨n=2 by omega) with rfl | rfl | rfl <;> rfl
def condAt (t:Nat):Code->Option Code
 | .cond (.tmp k) a b=>if k=t then some (.cond (.tmp k) a b) else match condAt t a with
  | some c=>some c
  | none=>condAt t b
 | .cond _ a b=>match condAt t a with
  | some c=>some c
  | none=>condAt t b
 | .seq a b=>match condAt t a with
  | some c=>some c
  | none=>condAt t b
 | .loop c=>condAt t c
 | .block _ c=>condAt t c
 | .scope c=>condAt t c
 | _=>none
noncomputable def upCode:Code:=((Tryz.f21.body.bind (condAt 43)).getD .skip)
def regAt (t:Nat):Code->Option Code
 | .cond _ a b=>match regAt t a with
  | some c=>some c
  | none=>regAt t b
 | .seq a b=>match regAt t a with
  | some c=>some c
  | none=>regAt t b
 | .loop c=>regAt t c
 | .block _ c=>regAt t c
 | .scope c=>regAt t c
 | .region k l b=>if k=t then some (.region k l b) else none
 | _=>none
end Go.Proofs.YtobcnhmhgoccnaaGreatDoor
