/- Parts of the proof, joined: SxNx, SxP0, SxP1, SxP2, SxP3, SxP4, SxP5, SxP6, SxP7. -/
import Derived.Test.YtobcnhmhgoccnaaGreatDoorV21
set_option maxRecDepth 100000
set_option maxHeartbeats 8000000
set_option linter.unusedVariables false
set_option linter.unusedSimpArgs false
set_option linter.unusedSectionVars false
namespace Go.Proofs.YtobcnhmhgoccnaaGreatDoor
open Go Go.RowKit
section
namespace Sx
abbrev St:=List Tok × Bool
def Nx {α:Type} (p:List Tok->Res α) (st:St) (a:α) (st':St):Prop :=
 if st.2=true then st'=st else match p st.1 with
  | .ok x l=>a=x/\st'=(l,false)
  | .bad l=>st'=(l,true)
section
variable {α β:Type} {p q:List Tok->Res α} {st st1 st':St} {a:α} {b:β}
theorem nx_failed {l:List Tok}:Nx p (l,true) a (l,true):=by unfold Nx;rw [if_pos rfl]
theorem nx_of_failed {l:List Tok} (h:Nx p (l,true) a st'):st'=(l,true):=by unfold Nx at h;rwa [if_pos rfl] at h
theorem nx_iff {l:List Tok}:Nx p (l,false) a st'↔match p l with
  | .ok x l=>a=x/\st'=(l,false)
  | .bad l=>st'=(l,true):=by
 unfold Nx
 rw [if_neg (by simp)]
theorem nx_ok {l l':List Tok} (h:p l=.ok a l'):Nx p (l,false) a (l',false):=by rw [nx_iff,h];exact ⟨rfl,rfl⟩
theorem nx_bad {l l':List Tok} (h:p l=.bad l'):Nx p (l,false) a (l',true):=by rw [nx_iff,h]
theorem nx_ret (a:α) (st:St):Nx (λl=>.ok a l) st a st:=by
 obtain ⟨l,f⟩:=st
 cases f
 .exact nx_ok rfl
 .exact nx_failed
theorem nx_bind {f:α->List Tok->Res β} (h:Nx p st a st1) (k:Nx (f a) st1 b st'):Nx (λl=>(p l).bind f) st b st':=by
 obtain ⟨l,e⟩:=st
 cases e
 .rw [nx_iff] at h
  cases hp:p l with
  | ok x m =>
   rw [hp] at h
   obtain ⟨rfl,rfl⟩:=h
   rw [nx_iff] at k ⊢
   show match (p l).bind f with | .ok x l=>b=x/\st'=(l,false) | .bad l=>st'=(l,true)
   rw [hp];exact k
  | bad m =>
   rw [hp] at h
   subst h
   obtain rfl:=nx_of_failed k
   exact nx_bad (show (p l).bind f=_ by rw [hp];rfl)
 .obtain rfl:=nx_of_failed h
  obtain rfl:=nx_of_failed k
  exact nx_failed
theorem nx_map {f:α->β} (h:Nx p st a st'):Nx (λl=>(p l).bind λa l=>.ok (f a) l) st (f a) st':=nx_bind (f:=λa l=>.ok (f a) l) h (nx_ret _ _)
theorem nx_any {a2:α} (h:Nx p st a st') (hf:st'.2=true):Nx p st a2 st':=by
 obtain ⟨l,e⟩:=st
 cases e
 .rw [nx_iff] at h ⊢
  cases hp:p l with
  | ok x m=>rw [hp] at h;obtain ⟨rfl,rfl⟩:=h;cases hf
  | bad m=>rw [hp] at h;exact h
 .obtain rfl:=nx_of_failed h;exact nx_failed
end
def pk (st:St):Txt:=if st.2=true then [] else match st.1 with
 | []=>[]
 | t::_=>t.1
def step (st:St) (r:Bool):Txt × St:=if st.2=true then ([],st) else match st.1 with
 | []=>([],([],true))
 | t::l=>if r=true then (t.1,(l,false)) else ([],(t::l,true))
theorem nx_step {right:Txt->Bool} {st:St} {r:Bool} (h:st.2=false->∀t l,st.1=t::l->r=right t.1):Nx (next right) st (step st r).1 (step st r).2:=by
 obtain ⟨l,e⟩:=st
 cases e
 .cases l with
  | nil=>exact nx_bad rfl
  | cons t l =>
   obtain rfl:=h rfl t l rfl
   by_cases hr:right t.1=true
   .have e1:step (t::l,false) (right t.1)=(t.1,(l,false)):=by simp [step,hr]
    rw [e1]
    exact nx_ok (show (if right t.1=true then Res.ok t.1 l else .bad (t::l))=_ by rw [if_pos hr])
   .have e1:step (t::l,false) (right t.1)=([],(t::l,true)):=by simp [step,hr]
    rw [e1]
    exact nx_bad (show (if right t.1=true then Res.ok t.1 l else .bad (t::l))=_ by rw [if_neg hr])
 .exact nx_failed
theorem nx_step_pk {right:Txt->Bool} {st:St}:Nx (next right) st (step st (right (pk st))).1 (step st (right (pk st))).2:=by
 refine nx_step λhf t l hl=>?_
 obtain ⟨l',e⟩:=st
 subst hf hl
 rfl
section
variable {α:Type} {begins:Txt->Bool} {read:List Tok->Res α}
theorem many_fuel (he:Eats read):∀(n:Nat) (l:List Tok) (f g:Nat) (acc:List α),l.length=n->l.length<=f->l.length<=g->many begins read f acc l=many begins read g acc l:=by
 intro n
 induction n using Nat.strongRecOn with
 | _ n ih =>
  intro l f g acc hl hf hg
  cases l with
  | nil=>cases f <;> cases g <;> rfl
  | cons t r =>
   rw [zm] at hf hg hl
   obtain ⟨f,rfl⟩:∃f',f=f'+1:=⟨f - 1,by omega⟩
   obtain ⟨g,rfl⟩:∃g',g=g'+1:=⟨g - 1,by omega⟩
   show (if begins t.1=true then (read (t::r)).bind λa l=>many begins read f (acc++[a]) l else .ok acc (t::r))=(if begins t.1=true then (read (t::r)).bind λa l=>many begins read g (acc++[a]) l else .ok acc (t::r))
   by_cases hb:begins t.1=true
   .rw [if_pos hb,if_pos hb]
    cases hr:read (t::r) with
    | bad m=>rfl
    | ok a m =>
     have h1:=he _ _ _ hr
     rw [zm] at h1
     show many begins read f (acc++[a]) m=many begins read g (acc++[a]) m
     exact ih m.length (by omega) m f g _ rfl (by omega) (by omega)
   .rw [if_neg hb,if_neg hb]
theorem nx_many_stop {st:St} {f:Nat} {acc:List α} (h:st.2=false->∀t r,st.1=t::r->begins t.1=false):Nx (many begins read f acc) st acc st:=by
 obtain ⟨l,e⟩:=st
 cases e
 .refine nx_ok ?_
  cases f with
  | zero=>rfl
  | succ f =>
   cases l with
   | nil=>rfl
   | cons t r =>
    show (if begins t.1=true then (read (t::r)).bind λa l=>many begins read f (acc++[a]) l else .ok acc (t::r))=_
    rw [if_neg (by rw [h rfl t r rfl];simp)]
 .exact nx_failed
theorem nx_many_step {t:Tok} {r:List Tok} {st1 st':St} {acc xs:List α} {a:α} (he:Eats read) (hb:begins t.1=true) (h:Nx read (t::r,false) a st1) (k:Nx (many begins read st1.1.length (acc++[a])) st1 xs st') :
  Nx (many begins read (t::r).length acc) (t::r,false) xs st':=by
 rw [nx_iff] at h ⊢
 rw [show many begins read (t::r).length acc (t::r)=if begins t.1=true then (read (t::r)).bind λa l=>many begins read r.length (acc++[a]) l else .ok acc (t::r) from rfl,if_pos hb]
 cases hr:read (t::r) with
 | bad m =>
  rw [hr] at h
  subst h
  exact nx_of_failed k
 | ok x m =>
  rw [hr] at h
  obtain ⟨rfl,rfl⟩:=h
  have h1:=he _ _ _ hr
  rw [zm] at h1
  rw [nx_iff] at k
  rw [show (Res.ok a m).bind (λa l=>many begins read r.length (acc++[a]) l)=many begins read r.length (acc++[a]) m from rfl,many_fuel he m.length m r.length m.length _ rfl (by omega) (ag _)]
  exact k
def left (st:St):Nat:=if st.2=true then 0 else st.1.length+1
theorem left_eats {t:Tok} {r:List Tok} {a:α} {st1:St} (he:Eats read) (h:Nx read (t::r,false) a st1):left st1 < left (t::r,false):=by
 rw [nx_iff] at h
 cases hr:read (t::r) with
 | bad m=>rw [hr] at h;subst h;show 0 < _+1;omega
 | ok x m =>
  rw [hr] at h
  obtain ⟨_,rfl⟩:=h
  have:=he _ _ _ hr
  show m.length+1 < (t::r).length+1
  omega
end
end Sx
end
section
structure PK where
 w:World
 g:Nat
 t:TypeId
 C:Sx.St->Array Value->List Nat->World->Prop
 kc:∀st cs,Keeps (C st cs)
structure PH (K:PK) (st:Sx.St) (M:List Nat) (bx:List Box) (rs:List Rw) (L:List (List Nat->World->Prop)) (W:World):Prop where
 it:∃cs,HR K.w [] M ((K.g,K.t,cs)::bx) rs (K.C st cs::L) W
theorem list_swap3 {P Q R:List Nat->World->Prop} {L:List (List Nat->World->Prop)} (h:R∈P::Q::L):R∈Q::P::L:=by
 rcases aL h with rfl | h
 .exact .tail _ (.head _)
 .rcases aL h with rfl | h
  .exact .head _
  .exact .tail _ (.tail _ h)
section
variable {K:PK} {st:Sx.St} {M:List Nat} {bx:List Box} {rs:List Rw} {r:Rw} {L:List (List Nat->World->Prop)} {W W':World}
theorem PH.bl (h:PH K st M bx rs L W):Below K.w.heap.size K.w W:=by obtain ⟨cs,H⟩:=h.it;exact H.h.bl
theorem PH.below (h:PH K st M bx rs L W) (hb:Below W.heap.size W W'):PH K st M bx rs L W':=by obtain ⟨cs,H⟩:=h.it;exact ⟨cs,H.below hb⟩
theorem PH.drew (h:PH K st M bx rs L W):PH K st M bx rs L W.drew:=h.below ⟨rfl,rfl,rfl,ag _,λ_ _=>rfl⟩
theorem PH.new (h:PH K st M bx rs L W) (cs:Array Value) (t:TypeId) {N:Nat} (hN:W.heap.size=N):PH K st (N::M) ((N,t,cs)::bx) rs L (W.alloc (.cells cs t)):=by
 obtain ⟨cs',H⟩:=h.it
 exact ⟨cs',(H.new cs t hN).bperm (List.Perm.swap _ _ _)⟩
theorem PH.made (h:PH K st M bx rs L W) (cs:Array Value) (t:TypeId) {N:Nat} (hN:W.heap.size=N):PH K st M bx rs ((λM W=>N∉M/\Blk W N t cs)::L) (W.alloc (.cells cs t)):=by
 obtain ⟨cs',H⟩:=h.it
 exact ⟨cs',(H.made cs t hN).less λP hP=>list_swap3 hP⟩
theorem PH.set_ {N:Nat} {t:TypeId} {cs:Array Value} {bx1 bx2:List Box} (h:PH K st M (bx1++(N,t,cs)::bx2) rs L W) (i:Nat) (u:Value):PH K st M (bx1++(N,t,cs.setIfInBounds i u)::bx2) rs L (W.setCell ⟨N,i,none⟩ u):=by
 obtain ⟨cs',H⟩:=h.it
 exact ⟨cs',HR.set_ (bx1:=(K.g,K.t,cs')::bx1) H i u⟩
theorem PH.set0 {N:Nat} {t:TypeId} {cs:Array Value} {bx2:List Box} (h:PH K st M ((N,t,cs)::bx2) rs L W) (i:Nat) (u:Value):PH K st M ((N,t,cs.setIfInBounds i u)::bx2) rs L (W.setCell ⟨N,i,none⟩ u):=PH.set_ (bx1:=[]) h i u
theorem PH.push (h:PH K st M bx rs L W) (e:TypeId) (size:Nat):PH K st M bx (⟨e,size,.slice none 0 0,0,[]⟩::rs) L W:=by
 obtain ⟨cs,H⟩:=h.it
 exact ⟨cs,H.push e size⟩
theorem PH.perm {rs':List Rw} (h:PH K st M bx rs L W) (hp:rs.Perm rs'):PH K st M bx rs' L W:=by
 obtain ⟨cs,H⟩:=h.it
 exact ⟨cs,H.perm hp⟩
theorem PH.boxes {bx':List Box} (h:PH K st M bx rs L W) (hb:bx'.Sublist bx):PH K st M bx' rs L W:=by
 obtain ⟨cs,H⟩:=h.it
 exact ⟨cs,H.boxes (hb.cons_cons _)⟩
theorem PH.bperm {bx':List Box} (h:PH K st M bx rs L W) (hb:bx.Perm bx'):PH K st M bx' rs L W:=by
 obtain ⟨cs,H⟩:=h.it
 exact ⟨cs,H.bperm (hb.cons _)⟩
theorem PH.unbox {x:Box} (h:PH K st M (x::bx) rs L W):PH K st M bx rs L W:=h.boxes (.cons _ (List.Sublist.refl _))
theorem PH.bswap {x y:Box} (h:PH K st M (x::y::bx) rs L W):PH K st M (y::x::bx) rs L W:=h.bperm (List.Perm.swap _ _ _)
theorem PH.add (h:PH K st M bx rs L W) {P:List Nat->World->Prop} (hk:Keeps P) (hp:P M W):PH K st M bx rs (P::L) W:=by
 obtain ⟨cs,H⟩:=h.it
 exact ⟨cs,(H.add hk hp).less λP hP=>list_swap3 hP⟩
theorem PH.less {L':List (List Nat->World->Prop)} (h:PH K st M bx rs L W) (hL:∀P∈L',P∈L):PH K st M bx rs L' W:=by
 obtain ⟨cs,H⟩:=h.it
 exact ⟨cs,H.less λP hP=>by
  rcases aL hP with rfl | hP
  .exact .head _
  .exact .tail _ (hL P hP)⟩
theorem PH.tail {P:List Nat->World->Prop} (h:PH K st M bx rs (P::L) W):PH K st M bx rs L W:=h.less λ_P hP=>.tail _ hP
theorem PH.fswap {P Q:List Nat->World->Prop} (h:PH K st M bx rs (P::Q::L) W):PH K st M bx rs (Q::P::L) W:=h.less λ_R hR=>list_swap3 hR
theorem PH.flat {α:Type} [Mem α] {l news:List α} {xs us:List Value} (h:PH K st M bx rs ((λM W=>Flat M W l xs)::L) W) (hu:Flat M W news us):PH K st M bx rs ((λM W=>Flat M W (l++news) (xs++us))::L) W:=by
 obtain ⟨cs,H⟩:=h.it
 exact (h.add (keeps_flat _ _) ((H.fact (.tail _ (.head _))).append hu)).fswap.tail
theorem PH.box {x:Box} (h:PH K st M bx rs L W) (hx:x∈bx):Blk W x.1 x.2.1 x.2.2:=by
 obtain ⟨cs,H⟩:=h.it
 exact H.h.box (.tail _ hx)
theorem PH.pbox (h:PH K st M bx rs L W):∃cs,Blk W K.g K.t cs/\K.C st cs M W:=by
 obtain ⟨cs,H⟩:=h.it
 exact ⟨cs,H.h.box (.head _),H.fact (.head _)⟩
theorem PH.fact {P:List Nat->World->Prop} (h:PH K st M bx rs L W) (hP:P∈L):P M W:=by
 obtain ⟨cs,H⟩:=h.it
 exact H.h.fact (.tail _ hP)
theorem PH.own (h:PH K st M bx rs L W):∀r∈rs,W.ownsRow K.w.heap.size r.e r.size r.v r.n r.xs:=by
 obtain ⟨cs,H⟩:=h.it
 exact H.own
theorem PH.form {e:TypeId} {size n:Nat} {v:Value} {xs:List Value} (h:PH K st M bx (⟨e,size,v,n,xs⟩::rs) L W):∃A c,v=.slice A n c:=zP (h.own _ (.head _))
theorem PH.freeze {α:Type} [Mem α] {l:List α} {e:TypeId} {size n:Nat} {v:Value} {xs:List Value} (h:PH K st M bx (⟨e,size,v,n,xs⟩::rs) L W) (hs:size=Mem.sz α) (hn:n=l.length) (hf:Flat M W l xs) :
  ∃A c M',v=.slice A l.length c/\l.length<=c/\c<=9223372036854775807/\PH K st M' bx rs ((λM W=>SlAt M W A l)::L) W/\∀g∈M',g∈M:=by
 obtain ⟨cs,H⟩:=h.it
 obtain ⟨A,c,M',h1,h2,h3,h4,h5,_⟩:=H.freeze hs hn hf (λ_ h=>by cases h)
 exact ⟨A,c,M',h1,h2,h3,⟨cs,h4.less λP hP=>list_swap3 hP⟩,h5⟩
variable {P:Program}
theorem wpList_append_ph {ops:Array Oper} {rest:List Oper} {o:Oper} {a:Act} {Q:Exit->Act->World->Prop} (hgd:o.guard=none) (s x:Operand) (t:TypeId)
  (ho:o.op=.call { callee:=.builtin .append,args:=#[s,x],argTypes:=#[t,t] })
  (e:TypeId) (i:TypeInfo) (z:Value) (size bytes:Nat) (ht:P.underlying t=some (.slice e)) (hi:P.info? e=some i) (hz:i.zero=some z)
  (hsize:i.size=size) (hby:i.bytes=bytes) (hzs:z.cells.size=size) (hsz:0 < size)
  {v:Value} {n:Nat} {xs:List Value} (H:PH K st M bx (⟨e,size,v,n,xs⟩::rs) L W) (hs:a.eval s=v)
  (B:Nat) (A:Option Addr) (m c:Nat) (news:List Value) (hx:a.eval x=.slice A m c) (hr:Reads W B size A m news) (h1:∀u∈news,u.oneCell'=true)
  (h63:n+m<=maxLen) (hbytes:(n+m)*bytes<=140737488355328)
  (h:∀v' W' M',PH K st M' bx (⟨e,size,v',n+m,xs++news⟩::rs) L W'->(∀g∈M,g∈M')->wpList P ops Q rest (a.put o.dst v') W'):wpList P ops Q (o::rest) a W:=by
 obtain ⟨cs,H'⟩:=H.it
 exact wpList_append_rows hgd s x t ho e i z size bytes ht hi hz hsize hby hzs hsz H' hs B A m c news hx hr h1 h63 hbytes λv' W' M' h2 h3=>h v' W' M' ⟨cs,h2⟩ h3
theorem PH.turn {st':Sx.St} {cs:Array Value} (H:HR K.w [] M ((K.g,K.t,cs)::bx) rs (K.C st cs::L) W) (i:Nat) (u:Value) (hc:K.C st' (cs.setIfInBounds i u) M (W.setCell ⟨K.g,i,none⟩ u)):PH K st' M bx rs L (W.setCell ⟨K.g,i,none⟩ u):=by
 have H1:=(HR.set0 H i u).tail
 exact ⟨_,H1.add (K.kc _ _) hc⟩
end
def RdA {α:Type} [Mem α] (K:PK) (p:List Sx.Tok->Sx.Res α) (st:Sx.St) (bx:List Box) (rs:List Rw) (L:List (List Nat->World->Prop)) (e:Ending) (W':World):Prop :=
 ∃a us st' M',e=.returned (.agg us.toArray)/\Sx.Nx p st a st'/\PH K st' M' bx rs ((λM W=>Mem.rep M W a us)::L) W'
def RdL {α:Type} [Mem α] (K:PK) (p:List Sx.Tok->Sx.Res (List α)) (st:Sx.St) (bx:List Box) (rs:List Rw) (L:List (List Nat->World->Prop)) (e:Ending) (W':World):Prop :=
 ∃l A c st' M',e=.returned (.slice A l.length c)/\l.length<=c/\c<=9223372036854775807/\l.length<=8193/\Sx.Nx p st l st'/\PH K st' M' bx rs ((λM W=>SlAt M W A l)::L) W'
def tokP (t:Sx.Tok):ByteArray × Int:=(Sx.ofT t.1,(t.2:Int))
def TokOk (l:List Sx.Tok):Prop:=l.length<=8192/\∀t∈l,t.1≠[]/\t.1.length<=8192/\t.2<=8192
theorem TokOk.tail {t:Sx.Tok} {l:List Sx.Tok} (h:TokOk (t::l)):TokOk l:=⟨by have:=h.1;rw [zm] at this;omega,λu hu=>h.2 u (.tail _ hu)⟩
def PC (st:Sx.St) (cs:Array Value) (M:List Nat) (W:World):Prop:=∃A c,cs=#[.slice A st.1.length c,.bool st.2]/\st.1.length<=c/\c<=9223372036854775807/\SlAt M W A (st.1.map tokP)/\TokOk st.1
theorem pc_keeps (st:Sx.St) (cs:Array Value):Keeps (PC st cs) :=
 ⟨λ_ _ _ ⟨A,c,h1,h2,h3,h4,h5⟩ hc=>⟨A,c,h1,h2,h3,h4.keep hc,h5⟩,λ_ _ _ ⟨A,c,h1,h2,h3,h4,h5⟩ hs=>⟨A,c,h1,h2,h3,h4.sub hs,h5⟩⟩
@[reducible] def pkP (w:World) (g:Nat):PK:=⟨w,g,142,PC,pc_keeps⟩
theorem tokP_at {G:List Nat} {w:World} {A:Option Addr} {t:Sx.Tok} {l:List Sx.Tok} (h:SlAt G w A ((t::l).map tokP)):∃b o,A=some ⟨b,o,none⟩/\b∉G/\w.cell? ⟨b,o,none⟩=some (.string (Sx.ofT t.1))/\w.cell? ⟨b,o+1,none⟩=some (.int .i64 (t.2:Int)):=by
 obtain ⟨b,o,us,hA,hg,⟨u1,t1,rfl,⟨rfl,_⟩,⟨rfl,_⟩⟩,hc⟩:=h.get 0 (by simp)
 refine ⟨b,o,hA,hg,?_,?_⟩
 .have:=hc 0 _ rfl;rw [show 0*Mem.sz (ByteArray × Int)+0=0 from rfl,zW] at this;exact this
 .have:=hc 1 _ rfl;rw [show 0*Mem.sz (ByteArray × Int)+1=1 from zG 1 ▸ by rw [Nat.zero_mul]] at this;exact this
theorem ofT_size (t:Sx.Txt):(Sx.ofT t).size=t.length:=by unfold Sx.ofT;simp [ByteArray.size]
theorem ofT_list (t:Sx.Txt):(Sx.ofT t).data.toList=t:=by simp [Sx.ofT]
theorem ofT_inj {a b:Sx.Txt} (h:Sx.ofT a=Sx.ofT b):a=b:=by rw [<-ofT_list a,<-ofT_list b,h]
theorem ofT_eqB (a b:Sx.Txt):((Sx.ofT a).toList == (Sx.ofT b).toList)=(a == b):=by
 rw [ByteArray.toList_eq,ByteArray.toList_eq,ofT_list,ofT_list]
theorem ofT_empty {t:Sx.Txt}:(Sx.ofT t).toList.isEmpty=t.isEmpty/\(Sx.ofT t).data.toList.isEmpty=t.isEmpty:=by rw [ByteArray.toList_eq,ofT_list];exact ⟨rfl,rfl⟩
theorem peek_any {w:World} {g:Nat} {st:Sx.St} {M:List Nat} {bx:List Box} {rs:List Rw} {L:List (List Nat->World->Prop)} {W:World} (h:PH (pkP w g) st M bx rs L W) :
  Calls Tryz.prog 139 #[.pointer (some ⟨g,0,none⟩)] W λe W'=>e=.returned (.string (Sx.ofT (Sx.pk st)))/\W=W':=by
 obtain ⟨cs,hb,A,c,rfl,hc1,hc2,hsl,hok⟩:=h.pbox
 obtain ⟨c0,c1⟩:=aN2 hb.cell
 obtain ⟨l,f⟩:=st
 simp at c0 c1
 clear h hb
 cases f
 .cases l with
  | nil =>
   clear hsl hok
   go_enter Tryz.func139,Tryz.ntmps139
   go_wp2_with fail
   go_ret
   exact ⟨rfl,rfl⟩
  | cons t r =>
   obtain ⟨b,o,rfl,_,d0,_⟩:=tokP_at hsl
   obtain ⟨n,hn⟩:=aX ((t::r).length)
   have hn0:0 < n:=by rw [<-hn,zm];omega
   rw [hn] at c0
   have z0:((n:Int) == 0)=false:=beq_eq_false_iff_ne.2 (by omega)
   have z1:(0:Int) < (n:Int):=by omega
   clear hsl hok hn hc1
   go_enter Tryz.func139,Tryz.ntmps139
   go_wp2_with fail
   go_ret
   exact ⟨rfl,rfl⟩
 .clear hsl hok
  go_enter Tryz.func139,Tryz.ntmps139
  go_wp2_with fail
  go_ret
  exact ⟨rfl,rfl⟩
section
variable {w:World} {g:Nat} {st:Sx.St} {M:List Nat} {bx:List Box} {rs:List Rw} {L:List (List Nat->World->Prop)} {W:World}
theorem step_failed (l:List Sx.Tok) (r:Bool):Sx.step (l,true) r=([],(l,true)):=rfl
theorem step_nil (r:Bool):Sx.step ([],false) r=([],([],true)):=rfl
theorem step_no (t:Sx.Tok) (l:List Sx.Tok):Sx.step (t::l,false) false=([],(t::l,true)):=rfl
theorem step_yes (t:Sx.Tok) (l:List Sx.Tok):Sx.step (t::l,false) true=(t.1,(l,false)):=rfl
theorem next_any (r:Bool) (h:PH (pkP w g) st M bx rs L W) :
  Calls Tryz.prog 138 #[.pointer (some ⟨g,0,none⟩),.bool r] W λe W'=>e=.returned (.string (Sx.ofT (Sx.step st r).1))/\PH (pkP w g) (Sx.step st r).2 M bx rs L W':=by
 have CP:=aI (peek_any h)
 obtain ⟨cs,H⟩:=h.it
 obtain ⟨A,c,rfl,hc1,hc2,hsl,hok⟩:=H.fact (.head _)
 have hb:=H.box (.head _)
 obtain ⟨c0,c1⟩:=aN2 hb.cell
 obtain ⟨f0,f1⟩:=aN2 hb.frozen
 have T:=aI H
 obtain ⟨l,f⟩:=st
 simp at c0 c1
 clear h hb H
 have HT:=aI (show PH (pkP w g) (l,true) M bx rs L (W.setCell ⟨g,1,none⟩ (.bool true)) from PH.turn T.out 1 (.bool true) ⟨A,c,rfl,hc1,hc2,hsl.keep (Chg.set_ W (p:=⟨g,1,none⟩) (T.out.h.bs _ (.head _)).1 _),hok⟩)
 cases f
 .cases l with
  | nil =>
   rw [step_nil]
   have z:(Sx.ofT []).toList.isEmpty=true:=ofT_empty.1
   have z2:(Sx.ofT []).data.toList.isEmpty=true:=ofT_empty.2
   unfold Sx.pk at CP
   simp only [Bool.false_eq_true,if_false] at CP
   clear hsl hok hc1 hc2 T
   go_enter Tryz.func138,Tryz.ntmps138
   go_wp2_with (go_at_call 139;(with_reducible refine aS (CP.out) ?_))
   go_ret
   exact ⟨rfl,HT.out⟩
  | cons t l =>
   have htn:=(hok.2 t (.head _)).1
   have z:(Sx.ofT t.1).toList.isEmpty=false:=by rw [ofT_empty.1];cases h:t.1 with | nil=>exact zU h htn | cons _ _=>rfl
   have z2:(Sx.ofT t.1).data.toList.isEmpty=false:=by rw [ofT_empty.2];cases h:t.1 with | nil=>exact zU h htn | cons _ _=>rfl
   unfold Sx.pk at CP
   simp only [Bool.false_eq_true,if_false] at CP
   cases r
   .rw [step_no]
    clear hsl hok hc1 hc2 T htn
    go_enter Tryz.func138,Tryz.ntmps138
    go_wp2_with (go_at_call 139;(with_reducible refine aS (CP.out) ?_))
    go_ret
    exact ⟨rfl,HT.out⟩
   .rw [step_yes]
    obtain ⟨b,o,rfl,_⟩:=tokP_at hsl
    have hd:=hsl.drop (k:=1) (cap:=c) (by simp) (by simpa using hc1)
    rw [show 1*Mem.sz (ByteArray × Int)=2 from rfl] at hd
    obtain ⟨n,hn⟩:=aX ((t::l).length)
    have hln:l.length=n - 1:=by rw [<-hn,zm];omega
    have hn0:1<=n:=by rw [<-hn,zm];omega
    have hc1':n<=c:=by rw [<-hn];exact hc1
    have z1:(1:Int)<=(n:Int):=by omega
    have z3:(n:Int)<=(c:Int):=by omega
    by_cases hcc:c=1
    .subst hcc
     rw [if_pos rfl] at hd
     have HN:=aI (show PH (pkP w g) (l,false) M bx rs L (W.setCell ⟨g,0,none⟩ (.slice (some ⟨b,o,none⟩) l.length 0)) from PH.turn T.out 0 _ ⟨some ⟨b,o,none⟩,0,rfl,by simp at hc1 ⊢;omega,by omega,hd.keep (Chg.set_ W (p:=⟨g,0,none⟩) (T.out.h.bs _ (.head _)).1 _),hok.tail⟩)
     rw [hn] at c0
     rw [hln,show n - 1=0 by omega] at HN
     clear hsl hok hc1 T htn hd hn hln HT
     go_enter Tryz.func138,Tryz.ntmps138
     go_wp2_with (go_at_call 139;(with_reducible refine aS (CP.out) ?_))
     go_ret
     exact ⟨rfl,HN.out⟩
    .rw [if_neg hcc,show (some (⟨b,o,none⟩:Addr)).map (·.add 2)=some ⟨b,o+2,none⟩ from rfl] at hd
     have HN:=aI (show PH (pkP w g) (l,false) M bx rs L (W.setCell ⟨g,0,none⟩ (.slice (some ⟨b,o+2,none⟩) l.length (c - 1))) from PH.turn T.out 0 _ ⟨some ⟨b,o+2,none⟩,c - 1,rfl,by simp at hc1 ⊢;omega,by omega,hd.keep (Chg.set_ W (p:=⟨g,0,none⟩) (T.out.h.bs _ (.head _)).1 _),hok.tail⟩)
     rw [hn] at c0
     rw [hln] at HN
     clear hsl hok hc1 T htn hd hn hln HT
     go_enter Tryz.func138,Tryz.ntmps138
     go_wp2_with (go_at_call 139;(with_reducible refine aS (CP.out) ?_))
     go_ret
     exact ⟨rfl,HN.out⟩
 .rw [step_failed]
  have z:(Sx.ofT []).toList.isEmpty=true:=ofT_empty.1
  have z2:(Sx.ofT []).data.toList.isEmpty=true:=ofT_empty.2
  unfold Sx.pk at CP
  simp only [if_true] at CP
  clear hsl hok hc1 hc2 T
  go_enter Tryz.func138,Tryz.ntmps138
  go_wp2_with (go_at_call 139;(with_reducible refine aS (CP.out) ?_))
  go_ret
  exact ⟨rfl,HT.out⟩
end
namespace Sx
theorem step_len (st:St) (r:Bool) (h:∀t∈st.1,t.1.length<=8192):(step st r).1.length<=8192:=by
 obtain ⟨l,f⟩:=st
 cases f
 .cases l with
  | nil=>simp [step]
  | cons t l=>cases r <;> simp [step];exact h t (.head _)
 .simp [step]
theorem pk_len (st:St) (h:∀t∈st.1,t.1.length<=8192):(pk st).length<=8192:=by
 obtain ⟨l,f⟩:=st
 cases f
 .cases l with
  | nil=>simp [pk]
  | cons t l=>exact h t (.head _)
 .simp [pk]
theorem step_one (st:St) (r:Bool):((step st r).1=pk st/\r=true/\st.2=false/\(step st r).2.2=false)∨((step st r).1=[]/\(step st r).2.2=true):=by
 obtain ⟨l,f⟩:=st
 cases f
 .cases l with
  | nil=>exact .inr ⟨rfl,rfl⟩
  | cons t l =>
    cases r
    .exact .inr ⟨rfl,rfl⟩
    .exact .inl ⟨rfl,rfl,rfl,rfl⟩
 .exact .inr ⟨rfl,rfl⟩
theorem nx_need (st:St) (w:Txt):Nx (need w) st () (step st (pk st == w)).2:=nx_map (f:=λ_=>()) (nx_step_pk (right:=λt=>t == w))
theorem nx_name (st:St):Nx name st (step st (nameB (pk st))).1 (step st (nameB (pk st))).2:=nx_step_pk (right:=nameB)
theorem nx_number (st:St) {n:Int} (h:∀m,Lib.atoiAll (step st (numB (pk st))).1=.ok m->n=m):Nx number st n (step st (numB (pk st))).2:=by
 have h1:=nx_map (f:=numV) (nx_step_pk (right:=numB) (st:=st))
 rcases step_one st (numB (pk st)) with ⟨e1,e2,_⟩ | ⟨_,e2⟩
 .rw [e1] at h1 h;rw [h _ (atoi_numB e2)];exact h1
 .exact nx_any h1 e2
theorem nx_count (st:St) {n:Int} (h:numB (pk st)=true->n=numV (pk st)):Nx (λl=>(count l).bind λn l=>.ok (n:Int) l) st n (step st (numB (pk st) && within n 1 12)).2:=by
 obtain ⟨r,hr⟩:=aX ((numB (pk st) && within (numV (pk st)) 1 12))
 have hr2:(numB (pk st) && within n 1 12)=r:=by
  rw [<-hr]
  cases hb:numB (pk st)
  .rfl
  .rw [h hb]
 rw [hr2]
 have h0:=nx_step_pk (right:=λt=>numB t && within (numV t) 1 12) (st:=st)
 rw [hr] at h0
 have h1:=nx_map (f:=λt=>(numV t).toNat) h0
 have h2:=nx_map (f:=λn:Nat=>(n:Int)) h1
 rcases step_one st r with ⟨e1,e2,_⟩ | ⟨_,e2⟩
 .rw [e1] at h2
  have hb:numB (pk st)=true/\within (numV (pk st)) 1 12=true:=by rw [e2] at hr;exact Bool.and_eq_true_iff.1 hr
  have hw:=within_bd hb.2
  have e:n=((numV (pk st)).toNat:Int):=by rw [h hb.1];omega
  rw [e];exact h2
 .exact nx_any h2 e2
def namesR (st:St):Txt × St:=if (pk st == [45])=true then ([],(step st true).2) else step st (nameB (pk st))
theorem nx_names (st:St):Nx names st (namesR st).1 (namesR st).2:=by
 have h2:=nx_map (f:=λt=>if t == [45] then [] else t) (nx_step_pk (right:=λt=>nameB t || t == [45]) (st:=st))
 unfold namesR
 by_cases hb:(pk st == [45])=true
 .rw [if_pos hb]
  rw [show (nameB (pk st) || pk st == [45])=true by rw [hb,Bool.or_true]] at h2
  rcases step_one st true with ⟨e1,_⟩ | ⟨_,e2⟩
  .rw [e1,hb] at h2;exact h2
  .exact nx_any h2 e2
 .rw [if_neg hb]
  have hf:(pk st == [45])=false:=by simpa using hb
  rw [show (nameB (pk st) || pk st == [45])=nameB (pk st) by rw [hf,Bool.or_false]] at h2
  rcases step_one st (nameB (pk st)) with ⟨e1,_⟩ | ⟨_,e2⟩
  .rw [e1,hf] at h2;rw [e1];exact h2
  .exact nx_any h2 e2
end Sx
theorem nm_ofT (t:Sx.Txt):Sx.nm (Sx.ofT t)=Sx.nameB t:=by unfold Sx.nm;rw [ofT_list]
section
variable {w:World} {g:Nat} {st:Sx.St} {M:List Nat} {bx:List Box} {rs:List Rw} {L:List (List Nat->World->Prop)} {W:World}
theorem ph_tok (h:PH (pkP w g) st M bx rs L W):TokOk st.1:=by
 obtain ⟨cs,hb,A,c,rfl,hc1,hc2,hsl,hok⟩:=h.pbox
 exact hok
theorem ph_pk (h:PH (pkP w g) st M bx rs L W):(Sx.ofT (Sx.pk st)).size<=8192:=by rw [ofT_size];exact Sx.pk_len st λt ht=>((ph_tok h).2 t ht).2.1
theorem ph_step (h:PH (pkP w g) st M bx rs L W) (r:Bool):(Sx.ofT (Sx.step st r).1).size<=8192:=by rw [ofT_size];exact Sx.step_len st r λt ht=>((ph_tok h).2 t ht).2.1
theorem ph_env (he:SEnv w) (h:PH (pkP w g) st M bx rs L W):SEnv W:=he.below h.bl he.sz
theorem need_any (wd:Sx.Txt) (h:PH (pkP w g) st M bx rs L W) :
  Calls Tryz.prog 101 #[.pointer (some ⟨g,0,none⟩),.string (Sx.ofT wd)] W λe W'=>e=.returned (.tuple #[])/\PH (pkP w g) (Sx.step st (Sx.pk st == wd)).2 M bx rs L W':=by
 have T:=aI h
 have q:=ofT_eqB (Sx.pk st) wd
 clear h
 obtain ⟨r,hr⟩:=aX ((Sx.pk st == wd))
 rw [hr] at q ⊢
 clear hr
 go_enter Tryz.func101,Tryz.ntmps101
 go_wp2_with (first | (go_at_call 139;(with_reducible refine aS (peek_any T.out) ?_)) | (go_at_call 138;(with_reducible refine (next_any _ T.out).mono ?_);rintro e w1 ⟨rfl,h1⟩;replace T:=aI h1;clear h1))
 go_end0
 exact ⟨rfl,T.out⟩
theorem name_any (h:PH (pkP w g) st M bx rs L W) :
  Calls Tryz.prog 143 #[.pointer (some ⟨g,0,none⟩)] W λe W'=>e=.returned (.string (Sx.ofT (Sx.step st (Sx.nameB (Sx.pk st))).1))/\PH (pkP w g) (Sx.step st (Sx.nameB (Sx.pk st))).2 M bx rs L W':=by
 have T:=aI h
 have CN:=aI (λw'=>isName_any (Sx.ofT (Sx.pk st)) w' (by have:=ph_pk h;omega))
 simp only [nm_ofT] at CN
 clear h
 obtain ⟨r,hr⟩:=aX (Sx.nameB (Sx.pk st))
 rw [hr] at CN ⊢
 clear hr
 go_enter Tryz.func143,Tryz.ntmps143
 go_wp2_with (first | (go_at_call 139;(with_reducible refine aS (peek_any T.out) ?_)) | (go_at_call 74;(with_reducible refine (CN.out _).mono ?_);rintro e w1 ⟨rfl,h1⟩;replace T:=aI (T.out.below h1);clear h1) | (go_at_call 138;(with_reducible refine (next_any _ T.out).mono ?_);rintro e w1 ⟨rfl,h1⟩;replace T:=aI h1;clear h1))
 go_ret
 exact ⟨rfl,T.out⟩
theorem names_any (h:PH (pkP w g) st M bx rs L W) :
  Calls Tryz.prog 151 #[.pointer (some ⟨g,0,none⟩)] W λe W'=>e=.returned (.string (Sx.ofT (Sx.namesR st).1))/\PH (pkP w g) (Sx.namesR st).2 M bx rs L W':=by
 have T:=aI h
 have q:((Sx.ofT (Sx.pk st)).toList == [45])=(Sx.pk st == [45]):=by rw [ByteArray.toList_eq,ofT_list]
 have CN:=aI (need_any [45] h)
 rw [show Sx.ofT [45]=⟨#[45]⟩ from rfl] at CN
 have CM:=aI (name_any h)
 clear h
 unfold Sx.namesR
 obtain ⟨r,hr⟩:=aX ((Sx.pk st == [45]))
 rw [hr] at q CN ⊢
 cases r
 .rw [if_neg (by simp)]
  clear hr
  go_enter Tryz.func151,Tryz.ntmps151
  go_wp2_with (first | (go_at_call 139;(with_reducible refine aS (peek_any T.out) ?_)) | (go_at_call 143;(with_reducible refine CM.out.mono ?_);rintro e w1 ⟨rfl,h1⟩;replace T:=aI h1;clear h1))
  go_ret
  exact ⟨rfl,T.out⟩
 .rw [if_pos rfl]
  clear hr
  go_enter Tryz.func151,Tryz.ntmps151
  go_wp2_with (first | (go_at_call 139;(with_reducible refine aS (peek_any T.out) ?_)) | (go_at_call 101;(with_reducible refine CN.out.mono ?_);rintro e w1 ⟨rfl,h1⟩;replace T:=aI h1;clear h1))
  go_ret
  exact ⟨rfl,T.out⟩
theorem num_any (he:SEnv w) (h:PH (pkP w g) st M bx rs L W) :
  Calls Tryz.prog 102 #[.pointer (some ⟨g,0,none⟩)] W λe W'=>∃n:Int,e=.returned (.int .i64 n)/\inI n/\Sx.Nx Sx.number st n (Sx.step st (Sx.numB (Sx.pk st))).2/\PH (pkP w g) (Sx.step st (Sx.numB (Sx.pk st))).2 M bx rs L W':=by
 have T:=aI h
 have CN:=aI (λw'=>isNumber_any (Sx.ofT (Sx.pk st)) w' (by have:=ph_pk h;omega))
 simp only [ofT_list] at CN
 have hsz:=ph_step h (Sx.numB (Sx.pk st))
 have HE:=aI (λ(st:Sx.St) (W:World) (h:PH (pkP w g) st M bx rs L W)=>ph_env he h)
 have HX:=aI (λ(n:Int)=>Sx.nx_number st (n:=n))
 obtain ⟨r,hr⟩:=aX (Sx.numB (Sx.pk st))
 rw [hr] at CN hsz HX ⊢
 have CA:=aI (λw'=>atoi_any (Sx.ofT (Sx.step st r).1) w' (by omega))
 simp only [ofT_list] at CA
 clear h hr hsz he
 go_enter Tryz.func102,Tryz.ntmps102
 go_wp2_with (first | (go_at_call 139;(with_reducible refine aS (peek_any T.out) ?_)) | (go_at_call 141;(with_reducible refine (CN.out _).mono ?_);rintro e w1 ⟨rfl,h1⟩;replace T:=aI (T.out.below h1);clear h1) | (go_at_call 138;(with_reducible refine (next_any _ T.out).mono ?_);rintro e w1 ⟨rfl,h1⟩;replace T:=aI h1;clear h1) | (go_at_call 140;(with_reducible refine (CA.out _ (HE.out _ _ T.out)).mono ?_);rintro e w1 ⟨n,ev,rfl,hn,hv,_,h1⟩;replace T:=aI (T.out.below h1);have HV:=aI hv;have HN:=aI hn;clear h1 hv hn))
 go_ret
 exact ⟨_,rfl,HN.out,HX.out _ HV.out,T.out⟩
theorem cnt_any (he:SEnv w) (h:PH (pkP w g) st M bx rs L W) :
  Calls Tryz.prog 148 #[.pointer (some ⟨g,0,none⟩)] W λe W'=>∃(n:Int) (st':Sx.St),e=.returned (.int .i64 n)/\inI n/\Sx.Nx (λl=>(Sx.count l).bind λn l=>.ok (n:Int) l) st n st'/\(st'.2=false->1<=n/\n<=12)/\PH (pkP w g) st' M bx rs L W':=by
 have T:=aI h
 have CN:=aI (λw'=>isNumber_any (Sx.ofT (Sx.pk st)) w' (by have:=ph_pk h;omega))
 have CA:=aI (λw'=>atoi_any (Sx.ofT (Sx.pk st)) w' (by have:=ph_pk h;omega))
 simp only [ofT_list] at CN CA
 have HE:=aI (λ(st:Sx.St) (W:World) (h:PH (pkP w g) st M bx rs L W)=>ph_env he h)
 have HX:=aI (λ(n:Int)=>Sx.nx_count st (n:=n))
 have CW:=aI within_any
 obtain ⟨r,hr⟩:=aX (Sx.numB (Sx.pk st))
 rw [hr] at CN HX
 have HR:=aI hr
 clear h hr he
 have HS:=aI (λr=>Sx.step_one st r)
 go_enter Tryz.func148,Tryz.ntmps148
 cases r
 .go_wp2_with (first | (go_at_call 139;(with_reducible refine aS (peek_any T.out) ?_)) | (go_at_call 141;(with_reducible refine (CN.out _).mono ?_);rintro e w1 ⟨rfl,h1⟩;replace T:=aI (T.out.below h1);clear h1) | (go_at_call 25;(with_reducible refine aS (CW.out _ _ _ _) ?_)) | (go_at_call 138;(with_reducible refine (next_any _ T.out).mono ?_);rintro e w1 ⟨rfl,h1⟩;replace T:=aI h1;clear h1) | (go_at_call 140;(with_reducible refine (CA.out _ (HE.out _ _ T.out)).mono ?_);rintro e w1 ⟨n,ev,rfl,hn,hv,_,h1⟩;replace T:=aI (T.out.below h1);have HV:=aI hv;have HN:=aI hn;clear h1 hv hn))
  go_ret
  refine ⟨_,_,rfl,HN.out,HX.out _ (λhb=>by cases hb),λhf=>?_,T.out⟩
  rcases HS.out false with ⟨_,h,_⟩ | ⟨_,h⟩
  .cases h
  .rw [Bool.false_and] at hf;rw [hf] at h;cases h
 .go_wp2_with (first | (go_at_call 139;(with_reducible refine aS (peek_any T.out) ?_)) | (go_at_call 141;(with_reducible refine (CN.out _).mono ?_);rintro e w1 ⟨rfl,h1⟩;replace T:=aI (T.out.below h1);clear h1) | (go_at_call 25;(with_reducible refine aS (CW.out _ _ _ _) ?_)) | (go_at_call 138;(with_reducible refine (next_any _ T.out).mono ?_);rintro e w1 ⟨rfl,h1⟩;replace T:=aI h1;clear h1) | (go_at_call 140;(with_reducible refine (CA.out _ (HE.out _ _ T.out)).mono ?_);rintro e w1 ⟨n,ev,rfl,hn,hv,_,h1⟩;replace T:=aI (T.out.below h1);have HV:=aI hv;have HN:=aI hn;clear h1 hv hn))
  go_ret
  refine ⟨_,_,rfl,HN.out,HX.out _ (λ_=>HV.out _ (Sx.atoi_numB HR.out)),λhf=>?_,T.out⟩
  rw [Bool.true_and] at hf
  rcases HS.out (Sx.within _ 1 12) with ⟨_,h,_⟩ | ⟨_,h⟩
  .exact within_bd h
  .rw [hf] at h;cases h
end
section
variable {w:World} {g:Nat} {st:Sx.St} {M:List Nat} {bx:List Box} {rs:List Rw} {L:List (List Nat->World->Prop)} {W:World}
theorem needMove_any (h:PH (pkP w g) st M bx rs L W) :
  Calls Tryz.prog 101 #[.pointer (some ⟨g,0,none⟩),.string ⟨#[109,111,118,101]⟩] W λe W'=>∃st',e=.returned (.tuple #[])/\Sx.Nx (Sx.need Sx.sMove) st () st'/\PH (pkP w g) st' M bx rs L W' :=
 (need_any Sx.sMove h).mono λ_ _ ⟨h1,h2⟩=>⟨_,h1,Sx.nx_need _ _,h2⟩
theorem num_any' (he:SEnv w) (h:PH (pkP w g) st M bx rs L W) :
  Calls Tryz.prog 102 #[.pointer (some ⟨g,0,none⟩)] W λe W'=>∃(n:Int) (st':Sx.St),e=.returned (.int .i64 n)/\inI n/\Sx.Nx Sx.number st n st'/\PH (pkP w g) st' M bx rs L W' :=
 (num_any he h).mono λ_ _ ⟨n,h1,h2,h3,h4⟩=>⟨n,_,h1,h2,h3,h4⟩
theorem move_any (he:SEnv w) (h:PH (pkP w g) st M bx rs L W):Calls Tryz.prog 150 #[.pointer (some ⟨g,0,none⟩)] W (RdA (pkP w g) Sx.move st bx rs L):=by
 obtain ⟨N,hN⟩:=aX W.heap.size
 have T:=aI (h.new #[.int .i64 0,.int .i64 0] 58 hN)
 have HE:=aI he
 clear h he
 go_enter Tryz.func150,Tryz.ntmps150
 go_upto_region 3 with (first | (go_at_call 101;(with_reducible refine (needMove_any T.out).mono ?_);rintro e w1 ⟨st1,rfl,x1,h1⟩;replace T:=aI h1;have X1:=aI x1;clear h1 x1) | (go_at_call 102;(with_reducible refine (num_any' HE.out T.out).mono ?_);rintro e w1 ⟨n,st2,rfl,i2,x2,h2⟩;replace T:=aI h2;have X2:=aI x2;have I2:=aI i2;clear h2 x2 i2))
 go_wp2_with (go_at_call 102;(with_reducible refine (num_any' HE.out T.out).mono ?_);rintro e w1 ⟨n3,st3,rfl,i3,x3,h3⟩;replace T:=aI h3;have X3:=aI x3;have I3:=aI i3;clear h3 x3 i3;have z0:=(T.out.box (.head _)).cell 0;have z1:=(T.out.box (.head _)).cell 1;have f0:=(T.out.box (.head _)).frozen 0;have f1:=(T.out.box (.head _)).frozen 1;simp at z0 z1 f0 f1)
 have T2:=aI ((T.out.set0 0 (.int .i64 n)).set0 1 (.int .i64 n3))
 have y0:=(T2.out.box (.head _)).cell 0
 have y1:=(T2.out.box (.head _)).cell 1
 simp at y0 y1
 refine zi (v:=.agg #[.int .i64 n,.int .i64 n3]) ?_ rfl ?_
 .simp [results,Tryz.results150,go_sem,y0,y1]
 .exact ⟨(n,n3),[.int .i64 n,.int .i64 n3],st3,_,rfl,Sx.nx_bind X1.out (Sx.nx_bind X2.out (Sx.nx_bind X3.out (Sx.nx_ret _ _))),T2.out.unbox.add (keeps_rep _ _) ⟨[_],_,rfl,⟨rfl,I2.out⟩,⟨rfl,I3.out⟩⟩⟩
end
def IsB (N:Nat) (wd:Sx.Txt):List Nat->World->Prop:=λM W=>N∉M/\Blk W N 9 #[.string (Sx.ofT wd)]
theorem isb_cell {N:Nat} {wd:Sx.Txt} {M:List Nat} {W:World} (h:IsB N wd M W):W.cell? ⟨N,0,none⟩=some (.string (Sx.ofT wd)):=h.2.cell 0
theorem is1_any (t wd:Sx.Txt) (N:Nat) (W:World) (h:W.cell? ⟨N,0,none⟩=some (.string (Sx.ofT wd))):Calls Tryz.prog 142 #[.string (Sx.ofT t),.pointer (some ⟨N,0,none⟩)] W λe W'=>e=.returned (.bool (t == wd))/\W=W':=by
 have q:=ofT_eqB t wd
 obtain ⟨r,hr⟩:=aX ((t == wd))
 rw [hr] at q ⊢
 clear hr
 go_enter Tryz.func142,Tryz.ntmps142
 go_wp2_with fail
 go_ret
 exact ⟨rfl,rfl⟩
section
variable {w:World} {g:Nat} {st:Sx.St} {M:List Nat} {bx:List Box} {rs:List Rw} {L:List (List Nat->World->Prop)} {W:World}
theorem is_any (wd:Sx.Txt) (h:PH (pkP w g) st M bx rs L W):Calls Tryz.prog 104 #[.string (Sx.ofT wd)] W λe W'=>∃N,e=.returned (.func (.func 142) #[] #[.pointer (some ⟨N,0,none⟩)])/\PH (pkP w g) st M bx rs (IsB N wd::L) W':=by
 have T:=aI (h.made #[.string (Sx.ofT wd)] 9 rfl)
 clear h
 go_enter Tryz.func104,Tryz.ntmps104
 go_wp2_with fail
 go_ret
 exact ⟨_,rfl,T.out⟩
theorem someM_any (he:SEnv w) {N:Nat} {wd:Sx.Txt} (hwd:wd≠[]) (hN:IsB N wd∈L) (h:PH (pkP w g) st M bx rs L W) :
  Calls Tryz.prog 149 #[.pointer (some ⟨g,0,none⟩),.func (.func 142) #[] #[.pointer (some ⟨N,0,none⟩)],.func (.func 150) #[.pointer (some ⟨g,0,none⟩)] #[]] W (RdL (pkP w g) (λl=>Sx.many (λt=>t == wd) Sx.move l.length [] l) st bx rs L):=by
 have T:=aI ((h.push 58 2).add (keeps_flat ([]:List (Int × Int)) []) rfl)
 have HE:=aI he
 have HTK:=aI (ph_tok h).1
 have HN:=aI hN
 clear hN
 clear h he
 obtain ⟨sx,hsx⟩:=aX (Sx.left st)
 have HSX:=aI hsx
 go_enter Tryz.func149,Tryz.ntmps149
 go_wp2_with fail
 go_loopg [7] sx (λr v7 wr=>∃(st1:Sx.St) (acc:List (Int × Int)) (xs:List Value) (M1:List Nat),PH (pkP w g) st1 M1 bx (⟨58,2,v7,acc.length,xs⟩::rs) ((λM W=>Flat M W acc xs)::L) wr/\Sx.left st1=r/\acc.length+r<=sx/\(∀x st',Sx.Nx (Sx.many (λt=>t == wd) Sx.move st1.1.length acc) st1 x st'->Sx.Nx (λl=>Sx.many (λt=>t == wd) Sx.move l.length [] l) st x st'))
 case atStart=>exact ⟨st,[],[],_,T.out,HSX.out,by simp,λx st' hx=>hx⟩
 case round =>
  obtain ⟨st1,acc,xs,M1,hH,hlf,hal,hnx⟩:=hrel
  obtain ⟨wo,rfl⟩:=aY wr
  replace T:=aI hH
  have HX:=aI hnx
  have HL:=aI hlf
  clear hH hnx hlf
  obtain ⟨l,f⟩:=st1
  obtain ⟨A7,c7,rfl⟩:=T.out.form
  obtain ⟨cs9,hb9,A9,c9,rfl,_⟩:=T.out.pbox
  have z1:=hb9.cell 1
  simp at z1
  clear hb9
  have cN:=isb_cell (T.out.fact (.tail _ HN.out))
  have HA8:=aI (show acc.length<=8193 by have h1:=HTK.out;have h2:=HSX.out;unfold Sx.left at h2;split at h2 <;> omega)
  cases f
  .obtain ⟨bb,hbb⟩:∃b,(λt=>t == wd) (Sx.pk (l,false))=b:=⟨_,rfl⟩
   cases bb
   .have HST:=aI (Sx.nx_many_stop (begins:=(λt=>t == wd)) (read:=Sx.move) (st:=(l,false)) (f:=l.length) (acc:=acc) (λ_ t r hl=>by obtain rfl:l=t::r:=hl;exact hbb))
    have hb8:(Sx.pk (l,false) == wd)=false:=hbb
    clear hbb
    go_wp2_with (first | (go_at_call 139;(with_reducible refine aS (peek_any T.out) ?_)) | (go_at_call 142;(with_reducible refine aS (is1_any _ wd N _ cN) ?_)))
    go_ret
    obtain ⟨A,c,M',hv,hc1,hc2,h4,_⟩:=T.out.freeze (α:=_) rfl rfl (T.out.fact (.head _))
    injection hv with hv1 hv2 hv3
    subst hv1 hv3
    exact ⟨acc,_,_,_,M',rfl,hc1,hc2,HA8.out,HX.out _ _ HST.out,h4.less λP hP=>by
     rcases aL hP with rfl | hP
     .exact .head _
     .exact .tail _ (.tail _ hP)⟩
   .obtain ⟨t,r,rfl⟩:∃t r,l=t::r:=by
     cases l with
     | nil=>exact zU (hbb.symm.trans (show (([]:Sx.Txt) == wd)=false by cases wd with | nil=>exact zU rfl hwd | cons _ _=>rfl)) (by simp)
     | cons t r=>exact ⟨t,r,rfl⟩
    have HBB:=aI (show (λt=>t == wd) t.1=true from hbb)
    have hb8:(Sx.pk (t::r,false) == wd)=true:=hbb
    clear hbb
    go_wp2_with (first | (go_at_call 139;(with_reducible refine aS (peek_any T.out) ?_)) | (go_at_call 142;(with_reducible refine aS (is1_any _ wd N _ cN) ?_)) | (go_at_call 150;(with_reducible refine (move_any HE.out T.out).mono ?_);rintro e w3 ⟨a,us,st3,M3,rfl,x3,h3⟩;obtain ⟨rfl,hi1,hi2⟩:=rep_mv (h3.fact (.head _));replace T:=aI h3;have X3:=aI x3;clear h3 x3) | (at_builtin;obtain ⟨i0,hI,hz0,hz1,hz2⟩:=zq infoMv;refine wpList_append_ph (by rfl) _ _ 55 (by rfl) 58 i0 _ 2 16 Tryz.underlying55 hI hz0 hz1 hz2 rfl (by decide) (T.out.below (aP _ _)) (by rfl) _ _ 1 1 [.int .i64 a.1,.int .i64 a.2] (by rfl) (reads_blk (zj _ _ _) rfl) (by simp [Value.oneCell']) (by have:=HA8.out;unfold maxLen;omega) (by have:=HA8.out;omega) ?_;intro v7 w7 M7 h7 _;replace T:=aI h7;clear h7 hI hz0 hz1 hz2))
    have hlt:=Sx.left_eats Sx.eats_move X3.out
    have HFL:=aI ((T.out.fswap.flat (Flat.single (T.out.fact (.head _)))).less (L':=_::_) λP hP=>by
     rcases aL hP with rfl | hP
     .exact .head _
     .exact .tail _ (.tail _ hP))
    rw [HL.out] at hlt
    go_roundg (Sx.left st3)
    case measure=>exact hlt
    case rel=>exact ⟨st3,acc++[a],_,_,by rw [aK];exact HFL.out,rfl,by rw [aK,List.length_singleton];omega,λx st' hx=>HX.out _ _ (Sx.nx_many_step Sx.eats_move HBB.out X3.out hx)⟩
  .have HST:=aI (Sx.nx_many_stop (begins:=(λt=>t == wd)) (read:=Sx.move) (st:=(l,true)) (f:=l.length) (acc:=acc) (λh=>by cases h))
   go_wp2_with fail
   go_ret
   obtain ⟨A,c,M',hv,hc1,hc2,h4,_⟩:=T.out.freeze (α:=_) rfl rfl (T.out.fact (.head _))
   injection hv with hv1 hv2 hv3
   subst hv1 hv3
   exact ⟨acc,_,_,_,M',rfl,hc1,hc2,HA8.out,HX.out _ _ HST.out,h4.less λP hP=>by
    rcases aL hP with rfl | hP
    .exact .head _
    .exact .tail _ (.tail _ hP)⟩
end
section
variable {w:World} {g:Nat} {st:Sx.St} {M:List Nat} {bx:List Box} {rs:List Rw} {L:List (List Nat->World->Prop)} {W:World}
theorem needW_any (wd:Sx.Txt) (b:Array UInt8) (hb:Sx.ofT wd=⟨b⟩) (h:PH (pkP w g) st M bx rs L W) :
  Calls Tryz.prog 101 #[.pointer (some ⟨g,0,none⟩),.string ⟨b⟩] W λe W'=>∃st',e=.returned (.tuple #[])/\Sx.Nx (Sx.need wd) st () st'/\PH (pkP w g) st' M bx rs L W' :=
 hb ▸ (need_any wd h).mono λ_ _ ⟨h1,h2⟩=>⟨_,h1,Sx.nx_need _ _,h2⟩
theorem nameR_any (h:PH (pkP w g) st M bx rs L W) :
  Calls Tryz.prog 143 #[.pointer (some ⟨g,0,none⟩)] W λe W'=>∃(s:Sx.Txt) (st':Sx.St),e=.returned (.string (Sx.ofT s))/\(Sx.ofT s).size<=8192/\Sx.Nx Sx.name st s st'/\PH (pkP w g) st' M bx rs L W':=by
 have hs:=ph_step h (Sx.nameB (Sx.pk st))
 exact (name_any h).mono λ_ _ ⟨h1,h2⟩=>⟨_,_,h1,hs,Sx.nx_name st,h2⟩
theorem namesR_any (h:PH (pkP w g) st M bx rs L W) :
  Calls Tryz.prog 151 #[.pointer (some ⟨g,0,none⟩)] W λe W'=>∃(s:Sx.Txt) (st':Sx.St),e=.returned (.string (Sx.ofT s))/\(Sx.ofT s).size<=8192/\Sx.Nx Sx.names st s st'/\PH (pkP w g) st' M bx rs L W':=by
 have hs:(Sx.ofT (Sx.namesR st).1).size<=8192:=by
  unfold Sx.namesR
  split
  .exact zN _
  .exact ph_step h _
 exact (names_any h).mono λ_ _ ⟨h1,h2⟩=>⟨_,_,h1,hs,Sx.nx_names st,h2⟩
theorem needRule_any (h:PH (pkP w g) st M bx rs L W) :
  Calls Tryz.prog 101 #[.pointer (some ⟨g,0,none⟩),.string ⟨#[114,117,108,101]⟩] W λe W'=>∃st',e=.returned (.tuple #[])/\Sx.Nx (Sx.need Sx.sRule) st () st'/\PH (pkP w g) st' M bx rs L W':=needW_any Sx.sRule _ rfl h
theorem needLife_any (h:PH (pkP w g) st M bx rs L W) :
  Calls Tryz.prog 101 #[.pointer (some ⟨g,0,none⟩),.string ⟨#[108,105,102,101]⟩] W λe W'=>∃st',e=.returned (.tuple #[])/\Sx.Nx (Sx.need Sx.sLife) st () st'/\PH (pkP w g) st' M bx rs L W':=needW_any Sx.sLife _ rfl h
theorem needKind_any (h:PH (pkP w g) st M bx rs L W) :
  Calls Tryz.prog 101 #[.pointer (some ⟨g,0,none⟩),.string ⟨#[107,105,110,100]⟩] W λe W'=>∃st',e=.returned (.tuple #[])/\Sx.Nx (Sx.need Sx.sKind) st () st'/\PH (pkP w g) st' M bx rs L W':=needW_any Sx.sKind _ rfl h
theorem needSchema_any (h:PH (pkP w g) st M bx rs L W) :
  Calls Tryz.prog 101 #[.pointer (some ⟨g,0,none⟩),.string ⟨#[115,99,104,101,109,97]⟩] W λe W'=>∃st',e=.returned (.tuple #[])/\Sx.Nx (Sx.need Sx.sSchema) st () st'/\PH (pkP w g) st' M bx rs L W':=needW_any Sx.sSchema _ rfl h
theorem rule_any (he:SEnv w) (h:PH (pkP w g) st M bx rs L W):Calls Tryz.prog 109 #[.pointer (some ⟨g,0,none⟩)] W (RdA (pkP w g) Sx.rule st bx rs L):=by
 obtain ⟨N,hN⟩:=aX W.heap.size
 have T:=aI (h.new #[.string ⟨#[]⟩,.string ⟨#[]⟩,.string ⟨#[]⟩,.string ⟨#[]⟩,.int .i64 0] 60 hN)
 have HE:=aI he
 clear h he
 go_enter Tryz.func109,Tryz.ntmps109
 go_upto_region 3 with (first | (go_at_call 101;(with_reducible refine (needRule_any T.out).mono ?_);rintro e w1 ⟨st1,rfl,x1,h1⟩;replace T:=aI h1;have X1:=aI x1;clear h1 x1) | (go_at_call 143;(with_reducible refine (nameR_any T.out).mono ?_);rintro e w1 ⟨n,st2,rfl,i2,x2,h2⟩;replace T:=aI h2;have X2:=aI x2;have I2:=aI i2;clear h2 x2 i2))
 obtain ⟨N1,hN1⟩:=aX w1.heap.size
 replace T:=aI (T.out.new #[.string (Sx.ofT n),.string ⟨#[]⟩,.string ⟨#[]⟩,.string ⟨#[]⟩,.int .i64 0] 60 hN1)
 rw [hN1]
 go_upto_region 7 with (first | (go_at_call 143;(first | (with_reducible refine (nameR_any T.out).mono ?_) | (with_reducible refine (nameR_any (T.out.set0 _ _)).mono ?_));rintro e w1 ⟨n3,st3,rfl,i3,x3,h3⟩;replace T:=aI h3;have X3:=aI x3;have I3:=aI i3;clear h3 x3 i3;have B:=T.out.box (.head _);obtain ⟨z0,z1,z2,z3,z4⟩:=aN5 B.cell;obtain ⟨f0,f1,f2,f3,f4⟩:=aN5 B.frozen;simp at z0 z1 z2 z3 z4;clear B) | (go_at_call 151;(with_reducible refine (namesR_any (T.out.set0 1 _)).mono ?_);rintro e w1 ⟨n4,st4,rfl,i4,x4,h4⟩;replace T:=aI h4;have X4:=aI x4;have I4:=aI i4;clear h4 x4 i4;clear z0 z1 z2 z3 z4 f0 f1 f2 f3 f4;have B:=T.out.box (.head _);obtain ⟨z0,z1,z2,z3,z4⟩:=aN5 B.cell;obtain ⟨f0,f1,f2,f3,f4⟩:=aN5 B.frozen;simp at z0 z1 z2 z3 z4;clear B) | (go_at_call 151;(with_reducible refine (namesR_any (T.out.set0 2 _)).mono ?_);rintro e w1 ⟨n5,st5,rfl,i5,x5,h5⟩;replace T:=aI h5;have X5:=aI x5;have I5:=aI i5;clear h5 x5 i5;clear z0 z1 z2 z3 z4 f0 f1 f2 f3 f4;have B:=T.out.box (.head _);obtain ⟨z0,z1,z2,z3,z4⟩:=aN5 B.cell;obtain ⟨f0,f1,f2,f3,f4⟩:=aN5 B.frozen;simp at z0 z1 z2 z3 z4;clear B) | (go_at_call 102;(with_reducible refine (num_any' HE.out (T.out.set0 3 _)).mono ?_);rintro e w1 ⟨n6,st6,rfl,i6,x6,h6⟩;replace T:=aI h6;have X6:=aI x6;have I6:=aI i6;clear h6 x6 i6;clear z0 z1 z2 z3 z4 f0 f1 f2 f3 f4;have B:=T.out.box (.head _);obtain ⟨z0,z1,z2,z3,z4⟩:=aN5 B.cell;obtain ⟨f0,f1,f2,f3,f4⟩:=aN5 B.frozen;simp at z0 z1 z2 z3 z4;clear B))
 have T7:=aI (show PH (pkP w g) st6 (N1::N::M) ((N1,60,#[.string (Sx.ofT n),.string (Sx.ofT n3),.string (Sx.ofT n4),.string (Sx.ofT n5),.int .i64 n6])::(N,60,#[.string ⟨#[]⟩,.string ⟨#[]⟩,.string ⟨#[]⟩,.string ⟨#[]⟩,.int .i64 0])::bx) rs L _ from T.out.set0 4 (.int .i64 n6))
 clear T z0 z1 z2 z3 z4 f0 f1 f2 f3 f4
 generalize w1.setCell ⟨N1,4,none⟩ (.int .i64 n6)=W8 at *
 have B:=T7.out.box (.head _);obtain ⟨z0,z1,z2,z3,z4⟩:=aN5 B.cell
 have C:=T7.out.box (.tail _ (.head _));obtain ⟨y0,y1,y2,y3,y4⟩:=aN5 C.cell;obtain ⟨f0,f1,f2,f3,f4⟩:=aN5 C.frozen
 simp at z0 z1 z2 z3 z4 y0 y1 y2 y3 y4
 clear B C
 have T8:=aI (show PH (pkP w g) st6 (N1::N::M) ((N,60,#[.string (Sx.ofT n),.string (Sx.ofT n3),.string (Sx.ofT n4),.string (Sx.ofT n5),.int .i64 n6])::(N1,60,#[.string (Sx.ofT n),.string (Sx.ofT n3),.string (Sx.ofT n4),.string (Sx.ofT n5),.int .i64 n6])::bx) rs L _ from ((((T7.out.bswap.set0 0 (.string (Sx.ofT n))).set0 1 (.string (Sx.ofT n3))).set0 2 (.string (Sx.ofT n4))).set0 3 (.string (Sx.ofT n5))).set0 4 (.int .i64 n6))
 go_wp2_with fail
 clear y0 y1 y2 y3 y4
 have C:=T8.out.box (.head _);obtain ⟨y0,y1,y2,y3,y4⟩:=aN5 C.cell
 simp at y0 y1 y2 y3 y4
 refine zi (v:=.agg #[.string (Sx.ofT n),.string (Sx.ofT n3),.string (Sx.ofT n4),.string (Sx.ofT n5),.int .i64 n6]) ?_ rfl ?_
 .simp [results,Tryz.results109,go_sem,y0,y1,y2,y3,y4]
 .exact ⟨(Sx.ofT n,Sx.ofT n3,Sx.ofT n4,Sx.ofT n5,n6),_,st6,_,rfl,Sx.nx_bind X1.out (Sx.nx_bind X2.out (Sx.nx_bind X3.out (Sx.nx_bind X4.out (Sx.nx_bind X5.out (Sx.nx_bind X6.out (Sx.nx_ret _ _)))))),T8.out.unbox.unbox.add (keeps_rep _ _) ⟨[_],_,rfl,⟨rfl,ah I2.out (by decide)⟩,[_],_,rfl,⟨rfl,ah I3.out (by decide)⟩,[_],_,rfl,⟨rfl,ah I4.out (by decide)⟩,[_],_,rfl,⟨rfl,ah I5.out (by decide)⟩,⟨rfl,I6.out⟩⟩⟩
end
namespace Sx
theorem nx_count' {st st':St} {n:Int} (h:Nx (λl=>(count l).bind λn l=>.ok (n:Int) l) st n st'):Nx count st n.toNat st':=by
 obtain ⟨l,f⟩:=st
 cases f
 .rw [nx_iff] at h ⊢
  cases hc:count l with
  | bad m=>rw [hc] at h;exact h
  | ok a m=>rw [hc] at h;obtain ⟨rfl,rfl⟩:=h;exact ⟨by simp,rfl⟩
 .obtain rfl:=nx_of_failed h;exact nx_failed
end Sx
theorem infoStr:(Tryz.prog.info? 9).map (λi=>(i.zero,i.size,i.bytes))=some (some (.string ⟨#[]⟩),1,16):=by kernel_rfl
section
variable {K:PK} {w:World} {g:Nat} {st:Sx.St} {M:List Nat} {bx:List Box} {rs:List Rw} {L:List (List Nat->World->Prop)} {W:World} {P:Program}
theorem step_append_ph {K:PK} {ops:Array Oper} {o:Oper} {a:Act} {K':Act->World->Prop} {Q:Exit->Act->World->Prop} {E:Prop} (hgd:o.guard=none) (s x:Operand) (t:TypeId)
  (ho:o.op=.call { callee:=.builtin .append,args:=#[s,x],argTypes:=#[t,t] })
  (e:TypeId) (i:TypeInfo) (z:Value) (size bytes:Nat) (ht:P.underlying t=some (.slice e)) (hi:P.info? e=some i) (hz:i.zero=some z)
  (hsize:i.size=size) (hby:i.bytes=bytes) (hzs:z.cells.size=size) (hsz:0 < size)
  {v:Value} {n:Nat} {xs:List Value} (H:PH K st M bx (⟨e,size,v,n,xs⟩::rs) L W) (hs:a.eval s=v)
  (B:Nat) (A:Option Addr) (m c:Nat) (news:List Value) (hx:a.eval x=.slice A m c) (hr:Reads W B size A m news) (h1:∀u∈news,u.oneCell'=true)
  (h63:n+m<=maxLen) (hbytes:(n+m)*bytes<=140737488355328)
  (h:∀v' W' M',PH K st M' bx (⟨e,size,v',n+m,xs++news⟩::rs) L W'->(∀g∈M,g∈M')->K' (a.put o.dst v') W') :
  if Region.wanted o (yielded ops a.tmps)=true then Oper.wp P o a W K' Q else E:=by
 obtain ⟨cs,H'⟩:=H.it
 exact step_append_rows hgd s x t ho e i z size bytes ht hi hz hsize hby hzs hsz H' hs B A m c news hx hr h1 h63 hbytes λv' W' M' h2 h3=>h v' W' M' ⟨cs,h2⟩ h3
theorem cntR_any (he:SEnv w) (h:PH (pkP w g) st M bx rs L W) :
  Calls Tryz.prog 148 #[.pointer (some ⟨g,0,none⟩)] W λe W'=>∃(n:Int) (st':Sx.St),e=.returned (.int .i64 n)/\inI n/\Sx.Nx Sx.count st n.toNat st'/\(st'.2=false->1<=n/\n<=12)/\PH (pkP w g) st' M bx rs L W' :=
 (cnt_any he h).mono λ_ _ ⟨n,st',h1,h2,h3,h4,h5⟩=>⟨n,st',h1,h2,Sx.nx_count' h3,h4,h5⟩
theorem isMove_any (h:PH (pkP w g) st M bx rs L W):Calls Tryz.prog 104 #[.string ⟨#[109,111,118,101]⟩] W λe W'=>∃N,e=.returned (.func (.func 142) #[] #[.pointer (some ⟨N,0,none⟩)])/\PH (pkP w g) st M bx rs (IsB N Sx.sMove::L) W':=is_any Sx.sMove h
theorem move_ne:Sx.sMove≠[]:=by decide
theorem isb_head (N:Nat) (wd:Sx.Txt) (L:List (List Nat->World->Prop)):IsB N wd∈IsB N wd::L:=.head _
theorem life_any (he:SEnv w) (h:PH (pkP w g) st M bx rs L W):Calls Tryz.prog 107 #[.pointer (some ⟨g,0,none⟩)] W (RdA (pkP w g) Sx.life st bx rs L):=by
 obtain ⟨N,hN⟩:=aX W.heap.size
 have T:=aI (h.new #[.string ⟨#[]⟩,.slice none 0 0,.slice none 0 0] 57 hN)
 have HE:=aI he
 clear h he
 go_enter Tryz.func107,Tryz.ntmps107
 go_upto_region 3 with (first | (go_at_call 101;(with_reducible refine (needLife_any T.out).mono ?_);rintro e w1 ⟨st1,rfl,x1,h1⟩;replace T:=aI h1;have X1:=aI x1;clear h1 x1) | (go_at_call 143;(with_reducible refine (nameR_any T.out).mono ?_);rintro e w1 ⟨n,st2,rfl,i2,x2,h2⟩;replace T:=aI h2;have X2:=aI x2;have I2:=aI i2;clear h2 x2 i2))
 obtain ⟨N1,hN1⟩:=aX w1.heap.size
 replace T:=aI (T.out.new #[.string (Sx.ofT n),.slice none 0 0,.slice none 0 0] 57 hN1)
 rw [hN1]
 go_wp2_with (go_at_call 148;(with_reducible refine (cntR_any HE.out T.out).mono ?_);rintro e w2 ⟨n0,stc,rfl,i3,x3,hc3,h3⟩;replace T:=aI ((h3.push 9 1).add (keeps_flat ([]:List ByteArray) []) rfl);have X3:=aI x3;have I3:=aI i3;have HC3:=aI hc3;clear h3 x3 i3 hc3)
 have HX0:=aI (show ∀x st',Sx.Nx (Sx.states n0.toNat []) stc x st'->Sx.Nx (Sx.states n0.toNat []) stc x st' from λ_ _ h=>h)
 go_loopg [4] (if stc.2=true then 0 else n0.toNat) (λr v4 wr=>∃(i:Int) (st1:Sx.St) (acc:List ByteArray) (xs:List Value) (M1:List Nat) (u:Value),v4=.int .i64 i/\PH (pkP w g) st1 M1 ((N1,57,#[.string (Sx.ofT n),u,.slice none 0 0])::(N,57,#[.string ⟨#[]⟩,.slice none 0 0,.slice none 0 0])::bx) (⟨9,1,u,acc.length,xs⟩::rs) ((λM W=>Flat M W acc xs)::L) wr/\inI i/\(if st1.2=true then 0 else i.toNat)=r/\(st1.2=false->i<=12)/\acc.length+r<=100/\(∀x st',Sx.Nx (Sx.states i.toNat acc) st1 x st'->Sx.Nx (Sx.states n0.toNat []) stc x st'))
 case atStart=>exact ⟨n0,stc,[],[],_,_,rfl,T.out,I3.out,rfl,λh=>(HC3.out h).2,by
  show 0+(if stc.2=true then 0 else n0.toNat)<=100
  split
  .omega
  .rename_i hf;have:=HC3.out (by simpa using hf);omega,HX0.out⟩
 case round =>
  obtain ⟨i,st1,acc,xs,M1,u,rfl,hH,hi,hlf,h12,hal,hnx⟩:=hrel
  obtain ⟨wo,rfl⟩:=aY wr
  replace T:=aI hH
  have HX:=aI hnx
  have HI:=aI hi
  have H12:=aI h12
  have HLF:=aI hlf
  clear hH hnx hlf hi h12 HX0
  obtain ⟨l,f⟩:=st1
  obtain ⟨A7,c7,rfl⟩:=T.out.form
  obtain ⟨cs9,hb9,A9,c9,rfl,_⟩:=T.out.pbox
  have z9:=hb9.cell 1
  simp at z9
  clear hb9
  have HA8:=aI (show acc.length<=100 by omega)
  by_cases hgo:0 < i/\f=false
  .obtain ⟨hi0,rfl⟩:=hgo
   have t1:decide (0 < i)=true:=ac hi0
   have q:=T.out.box (.head _);have q1:=q.cell 1;(simp at q1);clear q
   go_wp2_with fail
   go_region_law (first | (obtain ⟨i0,hI,hz0,hz1,hz2⟩:=zq infoStr;refine step_append_ph (by rfl) _ _ 54 (by rfl) 9 i0 _ 1 16 Tryz.underlying54 hI hz0 hz1 hz2 rfl (by decide) (T2.out.below (aP _ _)) (by rfl) _ _ 1 1 [.string (Sx.ofT t3)] (by rfl) (reads_blk (zj _ _ _) rfl) (by simp [Value.oneCell']) (by have:=HA8.out;unfold maxLen;omega) (by have:=HA8.out;omega) ?_;intro v7 w7 M7 h7 _;obtain ⟨A8,c8,rfl⟩:=h7.form;have q:=h7.box (.head _);have q1:=q.cell 1;(simp at q1);have f1:=q.frozen 1;clear q;have T3:=aI h7;clear h7 hI hz0 hz1 hz2) | (go_simp;go_at_call 143;refine (nameR_any T.out.drew).mono ?_;rintro e w3 ⟨t3,st3,rfl,i3,x3,h3⟩;have q:=h3.box (.head _);have q1:=q.cell 1;(simp at q1);clear q;have T2:=aI h3;have X4:=aI x3;have I4:=aI i3;have q1b:∀o,(w3.alloc o).cell? ⟨N1,1,none⟩=some (.slice A7 acc.length c7):=(λo=>by have q:=(T2.out.below ((zf _ _).alloc (ag _) o)).box (.head _);have q:=q.cell 1;simpa using q);clear h3 x3 i3))
   all_goals
    have T4:=aI (((T3.out.set0 1 (.slice A8 (acc.length+1) c8)).flat (Flat.single (us:=[.string (Sx.ofT t3)]) ⟨rfl,ah I4.out (by decide)⟩)))
    have hw:IntKind.i64.wrap (i - 1)=i - 1:=wrapI (by have:=HI.out;unfold inI at this ⊢;omega)
    have HW:=aI hw
    clear T T2 T3 q1b
    go_wp2_with fail
    go_roundg (if st3.2=true then 0 else (i - 1).toNat)
    case measure =>
     have h1:=HLF.out
     rw [if_neg (by simp)] at h1
     split <;> omega
    case rel =>
     have h1:=HLF.out
     rw [if_neg (by simp)] at h1
     refine ⟨i - 1,st3,acc++[Sx.ofT t3],_,M7,_,by first | rfl | (rw [HW.out]),by rw [aK];exact T4.out,by have:=HI.out;unfold inI at this ⊢;omega,rfl,λ_=>by have:=H12.out (by simp);omega,by rw [aK,List.length_singleton];split <;> omega,λx st' hx=>HX.out _ _ ?_⟩
     rw [show i.toNat=(i - 1).toNat+1 by omega]
     exact Sx.nx_bind X4.out hx
  .have HST:=aI (show Sx.Nx (Sx.states i.toNat acc) (l,f) acc (l,f) by
    cases f
    .rw [show i.toNat=0 by
       have:¬ 0 < i:=λh=>hgo ⟨h,rfl⟩
       omega]
     exact Sx.nx_ret _ _
    .exact Sx.nx_failed)
   obtain ⟨A,c,M',hv,hc1,hc2,h4,_⟩:=T.out.freeze (α:=_) rfl rfl (T.out.fact (.head _))
   injection hv with hv1 hv2 hv3
   subst hv1 hv3
   replace T:=aI (show PH (pkP w g) (l,f) M' ((N1,57,#[.string (Sx.ofT n),.slice A7 acc.length c7,.slice none 0 0])::(N,57,#[.string ⟨#[]⟩,.slice none 0 0,.slice none 0 0])::bx) rs ((λM W=>SlAt M W A7 acc)::L) wo from h4.less λP hP=>by
    rcases aL hP with rfl | hP
    .exact .head _
    .exact .tail _ (.tail _ hP))
   clear h4
   have HCC:=aI (show acc.length<=c7/\c7<=9223372036854775807 from ⟨hc1,hc2⟩)
   clear hc1 hc2
   have hcase:decide (0 < i)=false∨(decide (0 < i)=true/\f=true):=by
    by_cases h:0 < i
    .exact .inr ⟨ac h,by cases f;exact zU ⟨h,rfl⟩ hgo;rfl⟩
    .exact .inl (qv h)
   clear hgo
   rcases hcase with t1 | ⟨t1,rfl⟩
   all_goals
    go_upto_region 8 with (first | (go_at_call 104;(with_reducible refine (isMove_any T.out).mono ?_);rintro e w3 ⟨N3,rfl,h3⟩;replace T:=aI h3;clear h3) | (go_at_call 149;(with_reducible refine (someM_any HE.out move_ne (isb_head _ _ _) T.out).mono ?_);rintro e w4 ⟨ms,A4,c4,st4,M4,rfl,d1,d2,d3,x4,h4⟩;replace T:=aI h4;have X4:=aI x4;have D:=aI (show ms.length<=c4/\c4<=9223372036854775807 from ⟨d1,d2⟩);clear h4 x4 d1 d2 d3;have B:=T.out.box (.head _);obtain ⟨z0,z1,z2⟩:=aN3 B.cell;have f2:=B.frozen 2;(simp at z0 z1 z2);clear B))
    have T7:=aI (show PH (pkP w g) st4 M4 ((N1,57,#[.string (Sx.ofT n),.slice A7 acc.length c7,.slice A4 ms.length c4])::(N,57,#[.string ⟨#[]⟩,.slice none 0 0,.slice none 0 0])::bx) rs _ _ from T.out.set0 2 (.slice A4 ms.length c4))
    clear T z0 z1 z2 f2
    generalize w4.setCell ⟨N1,2,none⟩ (.slice A4 ms.length c4)=W8 at *
    have B:=T7.out.box (.head _);obtain ⟨z0,z1,z2⟩:=aN3 B.cell
    have C:=T7.out.box (.tail _ (.head _));obtain ⟨y0,y1,y2⟩:=aN3 C.cell;obtain ⟨f0,f1,f2⟩:=aN3 C.frozen
    simp at z0 z1 z2 y0 y1 y2
    clear B C
    have T8:=aI (show PH (pkP w g) st4 M4 ((N,57,#[.string (Sx.ofT n),.slice A7 acc.length c7,.slice A4 ms.length c4])::(N1,57,#[.string (Sx.ofT n),.slice A7 acc.length c7,.slice A4 ms.length c4])::bx) rs _ _ from ((T7.out.bswap.set0 0 (.string (Sx.ofT n))).set0 1 (.slice A7 acc.length c7)).set0 2 (.slice A4 ms.length c4))
    go_wp2_with fail
    clear y0 y1 y2
    have C:=T8.out.box (.head _);obtain ⟨y0,y1,y2⟩:=aN3 C.cell
    simp at y0 y1 y2
    have hms:=T8.out.fact (.head _)
    have hac:=T8.out.fact (.tail _ (.tail _ (.head _)))
    refine zi (v:=.agg #[.string (Sx.ofT n),.slice A7 acc.length c7,.slice A4 ms.length c4]) ?_ rfl ?_
    .simp [results,Tryz.results107,go_sem,y0,y1,y2]
    .exact ⟨(Sx.ofT n,acc,ms),_,st4,_,rfl,Sx.nx_bind X1.out (Sx.nx_bind X2.out (Sx.nx_bind X3.out (Sx.nx_bind (HX.out _ _ HST.out) (Sx.nx_bind X4.out (Sx.nx_ret _ _))))),(T8.out.unbox.unbox.add (keeps_rep (Sx.ofT n,acc,ms) [.string (Sx.ofT n),.slice A7 acc.length c7,.slice A4 ms.length c4]) ⟨[_],_,rfl,⟨rfl,ah I2.out (by decide)⟩,[_],_,rfl,⟨_,_,rfl,HCC.out.1,HCC.out.2,hac⟩,⟨_,_,rfl,D.out.1,D.out.2,hms⟩⟩).less λP hP=>by
      rcases aL hP with rfl | hP
      .exact .head _
      .exact .tail _ (.tail _ (.tail _ (.tail _ hP)))⟩
end
namespace Sx
def wordsB:List ByteArray:=wordsL.map ofT
def wordI (t:Txt):Int:=match wordOf t with
 | some k=>(k:Int)
 | none=>-1
theorem idxFrom_words:∀(l:List Txt) (t:Txt) (i:Nat),Lib.idxFromS (l.map ofT) (ofT t) i=match l.findIdx? (· == t) with
  | some k=>((i+k:Nat):Int)
  | none=>-1
 | [],t,i=>rfl
 | u::l,t,i=>by
  rw [List.map_cons,List.findIdx?_cons]
  unfold Lib.idxFromS
  by_cases h:u=t
  .rw [h];simp
  .rw [if_neg (λe=>h (ofT_inj e)),if_neg (by simpa using h),idxFrom_words l t (i+1)]
   cases l.findIdx? (· == t) with
   | none=>rfl
   | some k=>show ((i+1+k:Nat):Int)=((i+(k+1):Nat):Int);congr 1;omega
theorem idx_words (t:Txt):Lib.idxOfS wordsB (ofT t)=wordI t:=by
 unfold Lib.idxOfS wordsB wordI wordOf
 rw [idxFrom_words]
 cases wordsL.findIdx? (· == t) <;> simp
theorem con_words (t:Txt):Lib.containsS wordsB (ofT t)=isWord t:=by
 unfold Lib.containsS
 rw [idx_words]
 unfold wordI isWord
 cases wordOf t with
 | none=>rfl
 | some k=>simp
theorem wordI_some {t:Txt} {k:Nat} (h:wordOf t=some k):wordI t=k:=by unfold wordI;rw [h]
theorem wordOf_lt {t:Txt} {k:Nat} (h:wordOf t=some k):k < 9:=by
 unfold wordOf at h
 rw [List.findIdx?_eq_some_iff_getElem] at h
 exact h.1
end Sx
theorem wordsB_at (k:Nat) (h:k < Sx.wordsB.length):Sx.wordsB.getD k ByteArray.empty=wdS k:=by
 have h9:k < 9:=h
 match k,h9 with
 | 0,_ | 1,_ | 2,_ | 3,_ | 4,_ | 5,_ | 6,_ | 7,_ | 8,_=>rfl
theorem words_cells {W:World} (he:SEnv W):∀j,j < Sx.wordsB.length->W.cell? ⟨0,0+j,none⟩=some (.string (Sx.wordsB.getD j ByteArray.empty)):=λj hj=>by rw [zG,wordsB_at j hj];exact he.words j hj
theorem idxW_any (t:Sx.Txt) (W:World) (he:SEnv W):Calls Tryz.prog 167 #[.slice (some ⟨0,0,none⟩) 9 9,.string (Sx.ofT t)] W λe W'=>e=.returned (.int .i64 (Sx.wordI t))/\W'=W :=
 (Tryz.slices_Index_string 0 0 9 9 Sx.wordsB (Sx.ofT t) W (ag _) (by decide) (words_cells he)).mono λe W' ⟨h1,h2⟩=>⟨by rw [h1,show Sx.wordsB.take 9=Sx.wordsB from rfl,Sx.idx_words],h2⟩
theorem conW_any (t:Sx.Txt) (W:World) (he:SEnv W):Calls Tryz.prog 146 #[.slice (some ⟨0,0,none⟩) 9 9,.string (Sx.ofT t)] W λe W'=>e=.returned (.bool (Sx.isWord t))/\W'=W :=
 (Tryz.slices_Contains_string 0 0 9 9 Sx.wordsB (Sx.ofT t) W (ag _) (by decide) (words_cells he)).mono λe W' ⟨h1,h2⟩=>⟨by rw [h1,show Sx.wordsB.take 9=Sx.wordsB from rfl,Sx.con_words],h2⟩
theorem kind1_any (t:Sx.Txt) (W:World) (he:SEnv W):Calls Tryz.prog 145 #[.string (Sx.ofT t)] W λe W'=>e=.returned (.bool (Sx.isWord t))/\W=W':=by
 have CC:=aI (conW_any t W he)
 clear he
 go_enter Tryz.func145,Tryz.ntmps145
 go_wp2_with (go_at_call 146;(with_reducible refine CC.out.mono ?_);rintro e w2 ⟨rfl,rfl⟩)
 go_ret
 exact ⟨rfl,rfl⟩
end
end Go.Proofs.YtobcnhmhgoccnaaGreatDoor
