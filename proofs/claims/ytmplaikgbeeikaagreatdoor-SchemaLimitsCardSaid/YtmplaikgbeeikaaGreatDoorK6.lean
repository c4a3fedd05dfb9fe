/- Parts of the proof, joined: SxL5, BaseB, M10, Base9, M11, SxLaw3, SxLaw4, SxLaw6, SxNx, SxP0, SxP1, SxP2, SxW10, SxP3, SxP4, SxP5, SxP6, SxP7. -/
import Derived.Test.YtmplaikgbeeikaaGreatDoorK1
import Derived.Test.YtmplaikgbeeikaaGreatDoorK2
import Derived.Test.YtmplaikgbeeikaaGreatDoorK3
import Derived.Test.YtmplaikgbeeikaaGreatDoorK4
import Derived.Test.YtmplaikgbeeikaaGreatDoorK5
import Derived.ArgAppend
import Derived.Deep.Upon
import Derived.WalkLawsBesides
import Derived.Deep.CutBlock
import Derived.Deep.RegionHeld3
import Derived.Deep.LoopGhost
import Derived.Deep.RegionLaw
set_option linter.unusedVariables false
set_option linter.unusedSimpArgs false
set_option linter.unusedSectionVars false
namespace Go.Proofs.YtmplaikgbeeikaaGreatDoor
open Go Go.RowKit
namespace Sx
theorem num_len {n:Int} (h:-1000000000≤n∧n≤1000000000):(num n).length≤12:=Nat.le_trans (Dc.itoa_len n (by omega)) (by decide)
theorem bs_len (s:ByteArray):(bs s).length=s.size:=strLen s
theorem orNone_len {s:ByteArray} (h:s.size≤12):(orNone s).length≤12:=by rw [← orN_list,bs_len];exact orN_sz h (by decide)
theorem words_len (k:Nat):(wordsL.getD k []).length≤12:=by
 rcases Nat.lt_or_ge k 9 with h | h
 ·rcases (show k=0∨k=1∨k=2∨k=3∨k=4∨k=5∨k=6∨k=7∨k=8 by omega) with rfl | rfl | rfl | rfl | rfl | rfl | rfl | rfl | rfl <;> decide
 ·rw [List.getD_eq_getElem?_getD,List.getElem?_eq_none (show wordsL.length≤k from h)];decide
def Short (l:List Txt):Prop:=l.length≤30∧∀ t∈l,t.length≤12
theorem lineT_le:∀ {l:List Txt},(∀ t∈l,t.length≤12)→(lineT l).length≤13*l.length+1
 | [],_=>by simp [lineT]
 | t::l,h=>by
  have h1:=h t (.head _)
  rw [lineT_cons]
  have h2:∀ {l:List Txt},(∀ t∈l,t.length≤12)→(l.flatMap fun u=>32::u).length≤13*l.length:=by
   intro l
   induction l with
   | nil=>intro _;simp
   | cons u l ih =>
    intro h
    have:=ih fun t ht=>h t (.tail _ ht)
    have:=h u (.head _)
    rw [List.flatMap_cons,aK,List.length_cons,List.length_cons]
    omega
  have:=h2 fun t ht=>h t (.tail _ ht)
  simp only [aK,List.length_cons,List.length_nil]
  omega
theorem Short.line {l:List Txt} (h:Short l):(lineT l).length≤391:=by have:=lineT_le h.2;have:=h.1;omega
theorem picks_short:∀ (ws:List ByteArray) (ns:List Int),(∀ w∈ws,w.size≤12)→(∀ n∈ns,0≤n∧n≤1048576)→(picksT ws ns).length≤2*ws.length∧∀ t∈picksT ws ns,t.length≤12
 | [],_,_,_=>⟨Nat.le_refl _,fun t h=>by cases h⟩
 | _::_,[],_,_=>⟨Nat.zero_le _,fun t h=>by cases h⟩
 | w::ws,n::ns,h1,h2=>by
  obtain ⟨a,b⟩:=picks_short ws ns (fun x hx=>h1 x (.tail _ hx)) (fun x hx=>h2 x (.tail _ hx))
  refine ⟨?_,fun t ht=>?_⟩
  ·show (picksT ws ns).length+1+1≤2*(ws.length+1);omega
  ·rcases aL ht with rfl | ht
   ·rw [bs_len];exact h1 w (.head _)
   ·rcases aL ht with rfl | ht
    ·exact num_len (by have:=h2 n (.head _);omega)
    ·exact b t ht
theorem short_of {l:List Txt} (h:l.length≤30) (h2:l.all (fun t=>decide (t.length≤12))=true):Short l:=⟨h,fun t ht=>by simpa using List.all_eq_true.1 h2 t ht⟩
theorem fldT_short {f:Fld} (h:FB f):Short (fldT f):=by
 have h1:decide ((bs (Sc.nm f)).length≤12)=true:=by rw [bs_len];exact decide_eq_true h.nm
 have h2:decide ((bs (Sc.of_ f)).length≤12)=true:=by rw [bs_len];exact decide_eq_true h.of_
 have h3:decide ((bs (Sc.up f)).length≤12)=true:=by rw [bs_len];exact decide_eq_true h.up
 have h4:decide ((num (Sc.lo f)).length≤12)=true:=decide_eq_true (num_len (by have:=h.lo;omega))
 have h5:decide ((num (Sc.hi f)).length≤12)=true:=decide_eq_true (num_len (by have:=h.hi;omega))
 have h6:decide ((orNone (Sc.of_ f)).length≤12)=true:=decide_eq_true (orNone_len h.of_)
 have h7:∀ k,decide ((wordsL.getD k []).length≤12)=true:=fun k=>decide_eq_true (words_len k)
 unfold fldT
 split
 ·exact short_of (by first | decide | exact Nat.le_of_ble_eq_true rfl) (by simp only [List.all_cons,h1,h4,h7,List.all_nil,Bool.and_self])
 split
 ·exact short_of (by first | decide | exact Nat.le_of_ble_eq_true rfl) (by simp only [List.all_cons,h1,h4,h5,h7,List.all_nil,Bool.and_self])
 split
 ·obtain ⟨a,b⟩:=picks_short _ _ h.w h.n
  have hw:=h.ws
  refine ⟨by simp only [List.length_cons];omega,fun t ht=>?_⟩
  rcases aL ht with rfl | ht
  ·exact words_len _
  rcases aL ht with rfl | ht
  ·simpa using h1
  rcases aL ht with rfl | ht
  ·exact num_len (by omega)
  ·exact b t ht
 split
 ·exact short_of (by first | decide | exact Nat.le_of_ble_eq_true rfl) (by simp only [List.all_cons,h1,h2,h7,List.all_nil,Bool.and_self])
 split
 ·exact short_of (by first | decide | exact Nat.le_of_ble_eq_true rfl) (by simp only [List.all_cons,h1,h2,h3,h4,h5,h7,List.all_nil,Bool.and_self])
 split
 ·exact short_of (by first | decide | exact Nat.le_of_ble_eq_true rfl) (by simp only [List.all_cons,h1,h2,h3,h7,List.all_nil,Bool.and_self])
 ·exact short_of (by first | decide | exact Nat.le_of_ble_eq_true rfl) (by simp only [List.all_cons,h1,h4,h5,h6,h7,List.all_nil,Bool.and_self])
structure KB (k:Knd):Prop where
 nm:k.1.size≤12
 lo:0≤k.2.1∧k.2.1≤65536
 hi:0≤k.2.2.1∧k.2.2.1≤65536
 n:(Sc.flds k).length≤10
 f:∀ f∈Sc.flds k,fldB f=true
theorem kndB_bd {k:Knd} (h:kndB k=true):KB k:=by
 unfold kndB at h
 simp only [Bool.and_eq_true,decide_eq_true_eq,List.all_eq_true] at h
 obtain ⟨a,b,c,d⟩:=h
 have:=span_of b
 exact ⟨(nm_sz a).2,by omega,by omega,c,d⟩
structure LB (x:Lif):Prop where
 nm:x.1.size≤12
 n:1≤x.2.1.length∧x.2.1.length≤12
 s:∀ s∈x.2.1,s.size≤12
 m:x.2.2.length≤32
 v:∀ m∈x.2.2,0≤m.1∧m.1≤11∧0≤m.2∧m.2≤11
theorem lifB_bd {x:Lif} (h:lifB x=true):LB x:=by
 unfold lifB at h
 simp only [Bool.and_eq_true,decide_eq_true_eq,List.all_eq_true] at h
 obtain ⟨a,b,c,d,e⟩:=h
 have hb:=within_of b
 refine ⟨(nm_sz a).2,by omega,fun s hs=>(nm_sz (c s hs)).2,d,fun m hm=>?_⟩
 have h1:=within_of (e m hm).1
 have h2:=within_of (e m hm).2
 omega
structure RB (r:Rul):Prop where
 nm:r.1.size≤12
 k:r.2.1.size≤12
 a:r.2.2.1.size≤12
 b:r.2.2.2.1.size≤12
 n:-1048576≤r.2.2.2.2∧r.2.2.2.2≤1048576
theorem emnm_sz {s:ByteArray} (h:em s=true∨nm s=true):s.size≤12:=by
 rcases h with h | h
 ·have:=em_sz h;omega
 ·exact (nm_sz h).2
theorem rulB_bd {r:Rul} (h:rulB r=true):RB r:=by
 unfold rulB most at h
 simp only [Bool.and_eq_true,Bool.or_eq_true] at h
 obtain ⟨a,b,c,d,_,e⟩:=h
 have:=within_of e
 exact ⟨(nm_sz a).2,(nm_sz b).2,emnm_sz c,emnm_sz d,by omega⟩
structure OB (x:Sch):Prop where
 v:0≤x.1∧x.1≤1048576
 nk:(Sc.kinds x).length≤6
 nl:x.2.2.1.length≤6
 nr:x.2.2.2.length≤16
 k:∀ k∈Sc.kinds x,KB k
 l:∀ l∈x.2.2.1,LB l
 r:∀ r∈x.2.2.2,RB r
theorem okB_bd {x:Sch} (h:okB x=true):OB x:=by
 unfold okB most at h
 simp only [Bool.and_eq_true,decide_eq_true_eq,List.all_eq_true] at h
 obtain ⟨a,b,c,d,e,f,g⟩:=h
 have:=within_of a
 exact ⟨by omega,b,c,d,fun k hk=>kndB_bd (e k hk),fun l hl=>lifB_bd (f l hl),fun r hr=>rulB_bd (g r hr)⟩
theorem flat_le {α β:Type} (f:α→List β) (c:Nat):∀ {l:List α},(∀ a∈l,(f a).length≤c)→(l.flatMap f).length≤l.length*c
 | [],_=>by simp
 | a::l,h=>by
  have h1:=flat_le f c (l:=l) fun x hx=>h x (.tail _ hx)
  have h2:=h a (.head _)
  rw [List.flatMap_cons,aK,List.length_cons,Nat.succ_mul]
  omega
theorem flat_all {α β:Type} {f:α→List β} {P:β→Prop} {l:List α} (h:∀ a∈l,∀ b∈f a,P b):∀ b∈l.flatMap f,P b:=fun b hb=>by
 obtain ⟨a,ha,hb⟩:=List.mem_flatMap.1 hb
 exact h a ha b hb
theorem kndL_short {k:Knd} (h:KB k):(kndL k).length≤11∧∀ l∈kndL k,Short l:=by
 have hn:=h.n
 refine ⟨?_,fun l hl=>?_⟩
 ·show ((Sc.flds k).map fldT).length+1≤11;rw [List.length_map];omega
 ·rcases aL hl with rfl | hl
  ·have h1:decide ((bs k.1).length≤12)=true:=by rw [bs_len];exact decide_eq_true h.nm
   have h4:decide ((num k.2.1).length≤12)=true:=decide_eq_true (num_len (by have:=h.lo;omega))
   have h5:decide ((num k.2.2.1).length≤12)=true:=decide_eq_true (num_len (by have:=h.hi;omega))
   exact short_of (by first | decide | exact Nat.le_of_ble_eq_true rfl) (by simp only [List.all_cons,h1,h4,h5,List.all_nil,Bool.and_self];decide)
  ·obtain ⟨f,hf,rfl⟩:=List.mem_map.1 hl
   exact fldT_short (fldB_bd (h.f f hf))
theorem lifL_short {x:Lif} (h:LB x):(lifL x).length≤33∧∀ l∈lifL x,Short l:=by
 have hm:=h.m
 have hn:=h.n
 refine ⟨?_,fun l hl=>?_⟩
 ·show (x.2.2.map _).length+1≤33;rw [List.length_map];omega
 ·rcases aL hl with rfl | hl
  ·refine ⟨by simp only [List.length_cons,List.length_map];omega,fun t ht=>?_⟩
   rcases aL ht with rfl | ht
   ·decide
   rcases aL ht with rfl | ht
   ·rw [bs_len];exact h.nm
   rcases aL ht with rfl | ht
   ·exact num_len (by omega)
   ·obtain ⟨s,hs,rfl⟩:=List.mem_map.1 ht
    rw [bs_len];exact h.s s hs
  ·obtain ⟨m,hm,rfl⟩:=List.mem_map.1 hl
   have hv:=h.v m hm
   have h4:decide ((num m.1).length≤12)=true:=decide_eq_true (num_len (by omega))
   have h5:decide ((num m.2).length≤12)=true:=decide_eq_true (num_len (by omega))
   exact short_of (by first | decide | exact Nat.le_of_ble_eq_true rfl) (by simp only [List.all_cons,h4,h5,List.all_nil,Bool.and_self];decide)
theorem rulL_short {r:Rul} (h:RB r):Short (rulL r):=by
 have h1:decide ((bs r.1).length≤12)=true:=by rw [bs_len];exact decide_eq_true h.nm
 have h2:decide ((bs r.2.1).length≤12)=true:=by rw [bs_len];exact decide_eq_true h.k
 have h3:decide ((orNone r.2.2.1).length≤12)=true:=decide_eq_true (orNone_len h.a)
 have h4:decide ((orNone r.2.2.2.1).length≤12)=true:=decide_eq_true (orNone_len h.b)
 have h5:decide ((num r.2.2.2.2).length≤12)=true:=decide_eq_true (num_len (by have:=h.n;omega))
 exact short_of (by first | decide | exact Nat.le_of_ble_eq_true rfl) (by unfold rulL;simp only [List.all_cons,h1,h2,h3,h4,h5,List.all_nil,Bool.and_self];decide)
theorem linesL_short {x:Sch} (h:OB x):(linesL x).length≤300∧∀ l∈linesL x,Short l:=by
 have hk:=flat_le kndL 11 fun k hk=>(kndL_short (h.k k hk)).1
 have hl:=flat_le lifL 33 fun k hk=>(lifL_short (h.l k hk)).1
 have h1:=h.nk;have h2:=h.nl;have h3:=h.nr
 refine ⟨?_,fun l hl=>?_⟩
 ·show (_++(_++_):List (List Txt)).length+1≤300
  rw [aK,aK,List.length_map]
  omega
 ·rcases aL hl with rfl | hl
  ·have h4:decide ((num x.1).length≤12)=true:=decide_eq_true (num_len (by have:=h.v;omega))
   exact short_of (by first | decide | exact Nat.le_of_ble_eq_true rfl) (by simp only [List.all_cons,h4,List.all_nil,Bool.and_self];decide)
  rcases List.mem_append.1 hl with hl | hl
  ·exact flat_all (fun k hk=>(kndL_short (h.k k hk)).2) l hl
  rcases List.mem_append.1 hl with hl | hl
  ·exact flat_all (fun k hk=>(lifL_short (h.l k hk)).2) l hl
  ·obtain ⟨r,hr,rfl⟩:=List.mem_map.1 hl
   exact rulL_short (h.r r hr)
theorem source_le {x:Sch} (h:OB x):(source x).length≤1000000:=by
 have h1:=linesL_short h
 have h2:=flat_le lineT 391 fun l hl=>(h1.2 l hl).line
 show ((linesL x).flatMap lineT).length≤1000000
 have:=h1.1
 have:(linesL x).length*391≤300*391:=Nat.mul_le_mul_right _ this
 omega
theorem src_step {acc S:Txt} {l:List Txt} {R:List (List Txt)} (h:acc++(l::R).flatMap lineT=S):(acc++lineT l)++R.flatMap lineT=S:=by
 rw [← h,List.flatMap_cons,List.append_assoc]
theorem src_le {acc S:Txt} {R:List (List Txt)} (h:acc++R.flatMap lineT=S):acc.length≤S.length:=by rw [← h,aK];omega
end Sx
end Go.Proofs.YtmplaikgbeeikaaGreatDoor
namespace Go.Proofs.YtmplaikgbeeikaaGreatDoor
open Go Go.RowKit
structure Rw where
 e:TypeId
 size:Nat
 v:Value
 n:Nat
 xs:List Value
def RwApart (r s:Rw):Prop:=∀ g,r.v.ownBlock=some g→s.v.ownBlock≠some g
theorem RwApart.symm {r s:Rw} (h:RwApart r s):RwApart s r:=fun g h1 h2=>h g h2 h1
theorem RwApart.nil {e:TypeId} {size:Nat} {s:Rw}:RwApart ⟨e,size,.slice none 0 0,0,[]⟩ s:=fun g h=>by simp [Value.ownBlock] at h
structure HR (w:World) (G M:List Nat) (bx:List Box) (rs:List Rw) (L:List (List Nat→World→Prop)) (W:World):Prop where
 h:Held w G M bx L W
 ok:∀ r∈rs,RowOk w M bx r.v
 own:∀ r∈rs,W.ownsRow w.heap.size r.e r.size r.v r.n r.xs
 apart:rs.Pairwise RwApart
section
variable {w W W':World} {G M:List Nat} {bx:List Box} {rs:List Rw} {r:Rw} {L:List (List Nat→World→Prop)}
theorem HR.start (h:Held w G M bx L W):HR w G M bx [] L W:=⟨h,fun _ h=>(by cases h),fun _ h=>(by cases h),List.Pairwise.nil⟩
theorem HR.below (h:HR w G M bx rs L W) (hb:Below W.heap.size W W'):HR w G M bx rs L W':=⟨h.h.below hb,h.ok,fun r hr=>owns_below (h.own r hr) hb,h.apart⟩
theorem HR.add (h:HR w G M bx rs L W) {P:List Nat→World→Prop} (hk:Keeps P) (hp:P M W):HR w G M bx rs (P::L) W:=⟨h.h.add hk hp,h.ok,h.own,h.apart⟩
theorem HR.less {L':List (List Nat→World→Prop)} (h:HR w G M bx rs L W) (hL:∀ P∈L',P∈L):HR w G M bx rs L' W:=⟨h.h.less hL (List.Sublist.refl _),h.ok,h.own,h.apart⟩
theorem HR.boxes {bx':List Box} (h:HR w G M bx rs L W) (hb:bx'.Sublist bx):HR w G M bx' rs L W:=⟨h.h.less (fun _ h=>h) hb,fun r hr=>(h.ok r hr).sub (fun _x hx=>hb.subset hx),h.own,h.apart⟩
theorem HR.bperm {bx':List Box} (h:HR w G M bx rs L W) (hb:bx.Perm bx'):HR w G M bx' rs L W :=
 ⟨⟨h.h.bl,h.h.mb,h.h.gm,fun x hx=>h.h.bs x (hb.mem_iff.2 hx),(hb.map _).nodup_iff.1 h.h.nd,h.h.all⟩,fun r hr=>(h.ok r hr).sub (fun _x hx=>hb.mem_iff.2 hx),h.own,h.apart⟩
theorem HR.perm {rs':List Rw} (h:HR w G M bx rs L W) (hp:rs.Perm rs'):HR w G M bx rs' L W :=
 ⟨h.h,fun r hr=>h.ok r (hp.mem_iff.2 hr),fun r hr=>h.own r (hp.mem_iff.2 hr),(hp.pairwise_iff RwApart.symm).1 h.apart⟩
theorem HR.new (h:HR w G M bx rs L W) (cs:Array Value) (t:TypeId) {N:Nat} (hN:W.heap.size=N):HR w G (N::M) ((N,t,cs)::bx) rs L (W.alloc (.cells cs t)) :=
 ⟨h.h.new cs t hN,fun r hr=>(h.ok r hr).new (h.own r hr) hN rfl,fun r hr=>owns_below (h.own r hr) ((Below.refl _ _).alloc (Nat.le_refl _) _),h.apart⟩
theorem HR.push (h:HR w G M bx rs L W) (e:TypeId) (size:Nat):HR w G M bx (⟨e,size,.slice none 0 0,0,[]⟩::rs) L W :=
 ⟨h.h,fun r hr=>by
  rcases aL hr with rfl | hr
  ·exact RowOk.none_
  ·exact h.ok r hr,fun r hr=>by
  rcases aL hr with rfl | hr
  ·exact ownsRow_nil _ _ _ _ h.h.bl.size
  ·exact h.own r hr,List.pairwise_cons.2 ⟨fun s _=>RwApart.nil,h.apart⟩⟩
theorem HR.set_ {N:Nat} {t:TypeId} {cs:Array Value} {bx1 bx2:List Box} (h:HR w G M (bx1++(N,t,cs)::bx2) rs L W) (i:Nat) (u:Value):HR w G M (bx1++(N,t,cs.setIfInBounds i u)::bx2) rs L (W.setCell ⟨N,i,none⟩ u):=by
 have key:∀ r∈rs,HRow w G M (bx1++(N,t,cs.setIfInBounds i u)::bx2) L r.e r.size r.v r.n r.xs (W.setCell ⟨N,i,none⟩ u):=fun r hr=>HRow.set_ ⟨h.h,h.ok r hr,h.own r hr⟩ i u
 exact ⟨h.h.set_ i u,fun r hr=>(key r hr).ok,fun r hr=>(key r hr).own,h.apart⟩
theorem HR.freeze {α:Type} [Mem α] {l:List α} {e:TypeId} {size n:Nat} {v:Value} {xs:List Value} (h:HR w G M bx (⟨e,size,v,n,xs⟩::rs) L W) (hs:size=Mem.sz α) (hn:n=l.length) (hf:Flat M W l xs) (hG:∀ g∈G,g < w.heap.size) :
  ∃ A c M',v=.slice A l.length c∧l.length≤c∧c≤9223372036854775807∧HR w G M' bx rs ((fun M W=>SlAt M W A l)::L) W∧(∀ g∈M',g∈M)∧∀ g∈M,g < w.heap.size→g∈M':=by
 subst hs hn
 obtain ⟨M',hM⟩:∃ M':List Nat,M'=M.filter (fun g=>decide (v.ownBlock≠some g)):=⟨_,rfl⟩
 have hmem:∀ g,g∈M'↔g∈M∧v.ownBlock≠some g:=fun g=>by rw [hM,List.mem_filter];simp
 have hsub:∀ g∈M',g∈M:=fun g hg=>((hmem g).1 hg).1
 have hok:=h.ok _ (.head _)
 have hap:=List.pairwise_cons.1 h.apart
 have hr:Rep M' W l v:=Rep.of_own (h.own _ (.head _)) (hf.sub fun g hg=>.inl (hsub g hg)) fun g hg hm=>((hmem g).1 hm).2 hg
 obtain ⟨A,c,h1,h2,h3,h4⟩:=hr
 injection h1 with h1 _
 refine ⟨A,c,M',h1,h2,h3,⟨⟨h.h.bl,fun g hg=>h.h.mb g (hsub g hg),fun g hg=>(hmem g).2 ⟨h.h.gm g hg,fun he=>?_⟩,fun x hx=>⟨(hmem x.1).2 ⟨(h.h.bs x hx).1,fun he=>(hok _ he).2.2 x hx rfl⟩,(h.h.bs x hx).2⟩,h.h.nd,fun P hP=>?_⟩,fun r hr g hg=>⟨(hmem g).2 ⟨(h.ok r (.tail _ hr) g hg).1,fun he=>hap.1 r hr g he hg⟩,(h.ok r (.tail _ hr) g hg).2⟩,fun r hr=>h.own r (.tail _ hr),hap.2⟩,hsub,fun g hg hlt=>(hmem g).2 ⟨hg,fun he=>?_⟩⟩
 ·have:=hG g hg
  have:=(hok _ he).2.1
  omega
 ·rcases aL hP with rfl | hP
  ·exact ⟨keeps_sl A l,h4⟩
  ·exact ⟨(h.h.all P hP).1,(h.h.all P hP).1.2 _ _ _ (h.h.all P hP).2 fun g hg=>.inl (hsub g hg)⟩
 ·have:=(hok _ he).2.1
  omega
variable {P:Program}
theorem wpList_append_rows {ops:Array Oper} {rest:List Oper} {o:Oper} {a:Act} {Q:Exit→Act→World→Prop} (hgd:o.guard=none) (s x:Operand) (t:TypeId)
  (ho:o.op=.call { callee:=.builtin .append,args:=#[s,x],argTypes:=#[t,t] })
  (e:TypeId) (i:TypeInfo) (z:Value) (size bytes:Nat) (ht:P.underlying t=some (.slice e)) (hi:P.info? e=some i) (hz:i.zero=some z)
  (hsize:i.size=size) (hby:i.bytes=bytes) (hzs:z.cells.size=size) (hsz:0 < size)
  {v:Value} {n:Nat} {xs:List Value} (H:HR w G M bx (⟨e,size,v,n,xs⟩::rs) L W) (hs:a.eval s=v)
  (B:Nat) (A:Option Addr) (m c:Nat) (news:List Value) (hx:a.eval x=.slice A m c) (hr:Reads W B size A m news) (h1:∀ u∈news,u.oneCell'=true)
  (h63:n+m≤maxLen) (hbytes:(n+m)*bytes≤140737488355328)
  (h:∀ v' W' M',HR w G M' bx (⟨e,size,v',n+m,xs++news⟩::rs) L W'→(∀ g∈M,g∈M')→wpList P ops Q rest (a.put o.dst v') W'):wpList P ops Q (o::rest) a W :=
 wpList_append_any W hgd s x t ho w.heap.size e i z size bytes ht hi hz hsize hby hzs hsz v n xs hs (H.own _ (.head _)) B A m c news hx hr h1 h63 hbytes H.h.bl.size fun v' W' h2 h3 h4=>by
  have hok:=H.ok _ (.head _)
  have hap:=List.pairwise_cons.1 H.apart
  obtain ⟨M',k1,k2,k3⟩:=H.h.grown hok h3 h4 h2
  refine h v' W' M' ⟨k1,fun r hr=>?_,fun r hr=>?_,List.pairwise_cons.2 ⟨fun s hs g hg1 hg2=>?_,hap.2⟩⟩ k3
  ·rcases aL hr with rfl | hr
   ·exact k2
   ·exact (H.ok r (.tail _ hr)).mono k3
  ·rcases aL hr with rfl | hr
   ·exact h2
   ·refine World.ownsRow.kept (H.own r (.tail _ hr)) h3 ?_
    cases he:r.v.ownBlock with
    | none=>exact .inl rfl
    | some g=>exact .inr fun e=>hap.1 r hr g e.symm he
  ·rcases h4 with he | he
   ·exact hap.1 s hs g (he ▸ hg1) hg2
   ·have k1:=(World.ownsRow.lt (H.own s (.tail _ hs)) g hg2).2
    rw [he] at hg1
    injection hg1 with hg1
    omega
end
section
variable {w W W':World} {G M:List Nat} {bx:List Box} {rs:List Rw} {r:Rw} {L:List (List Nat→World→Prop)}
theorem HR.box {x:Box} (h:HR w G M bx rs L W) (hx:x∈bx):Blk W x.1 x.2.1 x.2.2:=h.h.box hx
theorem HR.fact {P:List Nat→World→Prop} (h:HR w G M bx rs L W) (hP:P∈L):P M W:=h.h.fact hP
theorem HR.tail {P:List Nat→World→Prop} (h:HR w G M bx rs (P::L) W):HR w G M bx rs L W:=h.less fun _P hP=>.tail _ hP
theorem HR.set0 {N:Nat} {t:TypeId} {cs:Array Value} (h:HR w G M ((N,t,cs)::bx) rs L W) (i:Nat) (u:Value):HR w G M ((N,t,cs.setIfInBounds i u)::bx) rs L (W.setCell ⟨N,i,none⟩ u):=HR.set_ (bx1:=[]) h i u
theorem HR.made (h:HR w G M bx rs L W) (cs:Array Value) (t:TypeId) {N:Nat} (hN:W.heap.size=N):HR w G M bx rs ((fun M W=>N∉M∧Blk W N t cs)::L) (W.alloc (.cells cs t)):=by
 subst hN
 exact (h.below ((Below.refl _ _).alloc (Nat.le_refl _) _)).add (keeps_blk _ t cs) ⟨fun hm=>by have:=h.h.mb _ hm;omega,Blk.new _ _ _⟩
end
theorem flat_intsB {G:List Nat} {w:World}:∀ {l:List Int},(∀ x∈l,inI x)→Flat G w l (intVals l)
 | [],_=>rfl
 | x::l,h=>⟨[.int .i64 x],intVals l,rfl,⟨rfl,h x (.head _)⟩,flat_intsB fun y hy=>h y (.tail _ hy)⟩
theorem infoFld:(Tryz.prog.info? 52).map (fun i=>(i.zero,i.size,i.bytes))=some (some (.agg #[.string ⟨#[]⟩,.string ⟨#[]⟩,.string ⟨#[]⟩,.int .i64 0,.int .i64 0,.int .i64 0,.slice none 0 0,.slice none 0 0]),8,120):=by kernel_rfl
def Late (n8:Nat) (us:List Value) (cur cur':Array Value):Prop:=cur'.size=cur.size∧∀ j,cur'[j]?=cur[j]?∨(n8≤j∧∃ u,us[j - n8]?=some u∧cur'[j]?=some u)
theorem Late.refl (n8:Nat) (us:List Value) (cur:Array Value):Late n8 us cur cur:=⟨rfl,fun _=>.inl rfl⟩
theorem Late.trans {n8:Nat} {us:List Value} {a b c:Array Value} (h:Late n8 us a b) (k:Late n8 us b c):Late n8 us a c :=
 ⟨k.1.trans h.1,fun j=>by
  rcases k.2 j with e | e
  ·rcases h.2 j with f | ⟨f1,u,f2,f3⟩
   ·exact .inl (e.trans f)
   ·exact .inr ⟨f1,u,f2,e.trans f3⟩
  ·exact .inr e⟩
section
variable {gm:Nat} {t:TypeId} {sl:Value} {B0:Nat} {te:TypeId} {n8:Nat} {us:List Value} {W W' W'':World}
def RowN (B0:Nat) (te:TypeId) (size n:Nat) (xs:List Value) (v:Value) (w:World):Prop:=∃ g cap cur,v=.slice (some ⟨g,0,none⟩) n cap∧B0≤g∧Blk w g te cur∧n≤cap∧cap≤maxLen∧cur.size=cap*size∧cur.toList.take (n*size)=xs
theorem RowN.owns {size n:Nat} {xs:List Value} {v:Value} {w:World} (h:RowN B0 te size n xs v w) (hl:xs.length=n*size):w.ownsRow B0 te size v n xs:=by
 obtain ⟨g,cap,cur,h1,h2,h3,h4,h5,h6,h7⟩:=h
 exact ⟨hl,.inr ⟨g,cap,cur,h1,h2,h3,h4,h5,h6,h7⟩⟩
theorem RowN.of_owns {size n base:Nat} {xs:List Value} {v:Value} {w:World} (h:w.ownsRow base te size v n xs) (hn:0 < n) (hb:B0≤base):RowN B0 te size n xs v w:=by
 rcases h.2 with ⟨_,h0⟩ | ⟨g,cap,cur,h1,h2,h3,h4,h5,h6,h7⟩
 ·omega
 ·exact ⟨g,cap,cur,h1,Nat.le_trans hb h2,h3,h4,h5,h6,h7⟩
theorem blk_setCells {g:Nat} {t':TypeId}:∀ (vs:List Value) (o:Nat) (w:World) (cs:Array Value),Blk w g t' cs→∃ cs',Blk (w.setCells g o vs) g t' cs'∧cs'.size=cs.size∧(∀ j,j < o∨o+vs.length≤j→cs'[j]?=cs[j]?)∧∀ j,j < vs.length→o+j < cs.size→cs'[o+j]?=vs[j]?
 | [],o,w,cs,h=>⟨cs,h,rfl,fun _ _=>rfl,fun j hj=>by simp at hj⟩
 | v::vs,o,w,cs,h=>by
  obtain ⟨cs',h1,h2,h3,h4⟩:=blk_setCells vs (o+1) _ _ (h.set_ o v)
  rw [Array.size_setIfInBounds] at h2 h4
  refine ⟨cs',h1,h2,fun j hj=>?_,fun j hj ho=>?_⟩
  ·rw [h3 j (by simp only [List.length_cons] at hj;omega)]
   simp only [List.length_cons] at hj
   rw [Array.getElem?_setIfInBounds_ne (by omega)]
  ·cases j with
   | zero =>
    rw [h3 (o+0) (by omega)]
    have ho':o < cs.size:=by omega
    simp [ho']
   | succ j =>
    have:=h4 j (by simpa using hj) (by omega)
    rw [show o+(j+1)=o+1+j by omega,this]
    simp
theorem setCells_sizes (g:Nat):∀ (vs:List Value) (o:Nat) (w:World),(w.setCells g o vs).heap.size=w.heap.size∧(w.setCells g o vs).tape=w.tape
 | [],_,_=>⟨rfl,rfl⟩
 | v::vs,o,w=>by
  have h:=setCells_sizes g vs (o+1) (w.setCell ⟨g,o,none⟩ v)
  exact ⟨h.1.trans (by simp [World.setCell]),h.2⟩
end
section
variable {w W W':World} {G M:List Nat} {bx:List Box} {rs:List Rw} {r:Rw} {L:List (List Nat→World→Prop)} {P:Program}
theorem step_append_rows {ops:Array Oper} {o:Oper} {a:Act} {K':Act→World→Prop} {Q:Exit→Act→World→Prop} {E:Prop} (hgd:o.guard=none) (s x:Operand) (t:TypeId)
  (ho:o.op=.call { callee:=.builtin .append,args:=#[s,x],argTypes:=#[t,t] })
  (e:TypeId) (i:TypeInfo) (z:Value) (size bytes:Nat) (ht:P.underlying t=some (.slice e)) (hi:P.info? e=some i) (hz:i.zero=some z)
  (hsize:i.size=size) (hby:i.bytes=bytes) (hzs:z.cells.size=size) (hsz:0 < size)
  {v:Value} {n:Nat} {xs:List Value} (H:HR w G M bx (⟨e,size,v,n,xs⟩::rs) L W) (hs:a.eval s=v)
  (B:Nat) (A:Option Addr) (m c:Nat) (news:List Value) (hx:a.eval x=.slice A m c) (hr:Reads W B size A m news) (h1:∀ u∈news,u.oneCell'=true)
  (h63:n+m≤maxLen) (hbytes:(n+m)*bytes≤140737488355328)
  (h:∀ v' W' M',HR w G M' bx (⟨e,size,v',n+m,xs++news⟩::rs) L W'→(∀ g∈M,g∈M')→K' (a.put o.dst v') W'):if Region.wanted o (yielded ops a.tmps)=true then Oper.wp P o a W K' Q else E :=
 step_append_any W hgd s x t ho w.heap.size e i z size bytes ht hi hz hsize hby hzs hsz v n xs hs (H.own _ (.head _)) B A m c news hx hr h1 h63 hbytes H.h.bl.size fun v' W' h2 h3 h4=>by
  have hok:=H.ok _ (.head _)
  have hap:=List.pairwise_cons.1 H.apart
  obtain ⟨M',k1,k2,k3⟩:=H.h.grown hok h3 h4 h2
  refine h v' W' M' ⟨k1,fun r hr=>?_,fun r hr=>?_,List.pairwise_cons.2 ⟨fun s hs g hg1 hg2=>?_,hap.2⟩⟩ k3
  ·rcases aL hr with rfl | hr
   ·exact k2
   ·exact (H.ok r (.tail _ hr)).mono k3
  ·rcases aL hr with rfl | hr
   ·exact h2
   ·refine World.ownsRow.kept (H.own r (.tail _ hr)) h3 ?_
    cases he:r.v.ownBlock with
    | none=>exact .inl rfl
    | some g=>exact .inr fun e=>hap.1 r hr g e.symm he
  ·rcases h4 with he | he
   ·exact hap.1 s hs g (he ▸ hg1) hg2
   ·have k1:=(World.ownsRow.lt (H.own s (.tail _ hs)) g hg2).2
    rw [he] at hg1
    injection hg1 with hg1
    omega
end
theorem infoKnd:(Tryz.prog.info? 49).map (fun i=>(i.zero,i.size,i.bytes))=some (some (.agg #[.string ⟨#[]⟩,.int .i64 0,.int .i64 0,.slice none 0 0]),4,56):=by kernel_rfl
theorem infoMv:(Tryz.prog.info? 56).map (fun i=>(i.zero,i.size,i.bytes))=some (some (.agg #[.int .i64 0,.int .i64 0]),2,16):=by kernel_rfl
theorem infoLif:(Tryz.prog.info? 55).map (fun i=>(i.zero,i.size,i.bytes))=some (some (.agg #[.string ⟨#[]⟩,.slice none 0 0,.slice none 0 0]),3,64):=by kernel_rfl
theorem infoRul:(Tryz.prog.info? 58).map (fun i=>(i.zero,i.size,i.bytes))=some (some (.agg #[.string ⟨#[]⟩,.string ⟨#[]⟩,.string ⟨#[]⟩,.string ⟨#[]⟩,.int .i64 0]),5,72):=by kernel_rfl
namespace Sx
theorem valid_ok {x:Sch} (h:valid x=0):okB x=true∧(source x).length≤8192:=by
 unfold valid at h
 by_cases ho:okB x=true
 ·rw [if_pos ho] at h
  by_cases hl:8192 < (source x).length
  ·rw [if_pos hl] at h;cases h
  ·exact ⟨ho,by omega⟩
 ·rw [if_neg ho] at h;cases h
end Sx
namespace Sx
structure Loc {α:Type} (p:List Tok→Res α):Prop where
 ok:∀ l a m,p l=.ok a m→∃ c,l=c++m∧∀ d,d <+: m→p (c++d)=.ok a d
 bad:∀ l m,p l=.bad m→∃ c,l=c++m∧(p c=.bad []∨∃ a,p c=.ok a [])
theorem loc_nil {α:Type} {p:List Tok→Res α} (h:Loc p):p []=.bad []∨∃ a,p []=.ok a []:=by
 cases hp:p [] with
 | ok a m =>
  obtain ⟨c,e,_⟩:=h.ok [] a m hp
  have:m=[]:=(List.append_eq_nil_iff.1 e.symm).2
  subst this
  exact .inr ⟨a,rfl⟩
 | bad m =>
  obtain ⟨c,e,_⟩:=h.bad [] m hp
  have:m=[]:=(List.append_eq_nil_iff.1 e.symm).2
  subst this
  exact .inl rfl
theorem loc_next (right:Txt→Bool):Loc (next right):=by
 refine ⟨fun l a m h=>?_,fun l m h=>?_⟩
 ·cases l with
  | nil=>cases h
  | cons t l =>
   have h:(if right t.1=true then Res.ok t.1 l else Res.bad (t::l))=.ok a m:=h
   by_cases hr:right t.1=true
   ·rw [if_pos hr] at h
    injection h with h1 h2
    subst h1 h2
    refine ⟨[t],rfl,fun d _=>?_⟩
    show (if right t.1=true then Res.ok t.1 d else Res.bad (t::d))=_
    rw [if_pos hr]
   ·rw [if_neg hr] at h;cases h
 ·cases l with
  | nil =>
   have h:Res.bad []=Res.bad m:=h
   injection h with h
   subst h
   exact ⟨[],rfl,.inl rfl⟩
  | cons t l =>
   have h:(if right t.1=true then Res.ok t.1 l else Res.bad (t::l))=.bad m:=h
   by_cases hr:right t.1=true
   ·rw [if_pos hr] at h;cases h
   ·rw [if_neg hr] at h
    injection h with h
    subst h
    exact ⟨[],rfl,.inl rfl⟩
theorem loc_ret {α:Type} (a:α):Loc (fun l=>Res.ok a l) :=
 ⟨fun l b m h=>by injection h with h1 h2;subst h1 h2;exact ⟨[],rfl,fun d _=>rfl⟩,fun l m h=>by cases h⟩
theorem loc_bind {α β:Type} {p:List Tok→Res α} {f:α→List Tok→Res β} (h:Loc p) (k:∀ a,Loc (f a)):Loc (fun l=>(p l).bind f):=by
 refine ⟨fun l b m hb=>?_,fun l m hb=>?_⟩
 ·have hb:(p l).bind f=.ok b m:=hb
  cases hp:p l with
  | bad l1=>rw [hp] at hb;cases hb
  | ok a l1 =>
   rw [hp] at hb
   have hb:f a l1=.ok b m:=hb
   obtain ⟨c1,e1,g1⟩:=h.ok l a l1 hp
   obtain ⟨c2,e2,g2⟩:=(k a).ok l1 b m hb
   refine ⟨c1++c2,by rw [e1,e2,List.append_assoc],fun d hd=>?_⟩
   show (p (c1++c2++d)).bind f=_
   rw [List.append_assoc,g1 (c2++d) (by rw [e2];exact (List.prefix_append_right_inj _).2 hd)]
   exact g2 d hd
 ·have hb:(p l).bind f=.bad m:=hb
  cases hp:p l with
  | bad l1 =>
   rw [hp] at hb
   have hb:Res.bad l1=(Res.bad m:Res β):=hb
   injection hb with hb
   subst hb
   obtain ⟨c,e,g⟩:=h.bad l l1 hp
   refine ⟨c,e,?_⟩
   rcases g with g | ⟨a,g⟩
   ·exact .inl (by show (p c).bind f=_;rw [g];rfl)
   ·rcases loc_nil (k a) with g2 | ⟨b,g2⟩
    ·exact .inl (by show (p c).bind f=_;rw [g];exact g2)
    ·exact .inr ⟨b,by show (p c).bind f=_;rw [g];exact g2⟩
  | ok a l1 =>
   rw [hp] at hb
   have hb:f a l1=.bad m:=hb
   obtain ⟨c1,e1,g1⟩:=h.ok l a l1 hp
   obtain ⟨c2,e2,g2⟩:=(k a).bad l1 m hb
   refine ⟨c1++c2,by rw [e1,e2,List.append_assoc],?_⟩
   have hc:=g1 c2 (by rw [e2];exact List.prefix_append _ _)
   rcases g2 with g2 | ⟨b,g2⟩
   ·exact .inl (by show (p (c1++c2)).bind f=_;rw [hc];exact g2)
   ·exact .inr ⟨b,by show (p (c1++c2)).bind f=_;rw [hc];exact g2⟩
def Eats {α:Type} (p:List Tok→Res α):Prop:=∀ l a m,p l=.ok a m→m.length < l.length
theorem loc_len {α:Type} {p:List Tok→Res α} (h:Loc p) {l m:List Tok} {a:α} (hp:p l=.ok a m):m.length≤l.length:=by
 obtain ⟨c,e,_⟩:=h.ok l a m hp
 rw [e,aK];omega
theorem eats_next (right:Txt→Bool):Eats (next right):=by
 intro l a m h
 cases l with
 | nil=>cases h
 | cons t l =>
  have h:(if right t.1=true then Res.ok t.1 l else Res.bad (t::l))=.ok a m:=h
  by_cases hr:right t.1=true
  ·rw [if_pos hr] at h
   injection h with _ h2
   subst h2
   simp
  ·rw [if_neg hr] at h;cases h
theorem eats_bind {α β:Type} {p:List Tok→Res α} {f:α→List Tok→Res β} (h:Eats p) (k:∀ a,Loc (f a)):Eats (fun l=>(p l).bind f):=by
 intro l b m hb
 have hb:(p l).bind f=.ok b m:=hb
 cases hp:p l with
 | bad l1=>rw [hp] at hb;cases hb
 | ok a l1 =>
  rw [hp] at hb
  have h1:=h l a l1 hp
  have h2:=loc_len (k a) (show f a l1=.ok b m from hb)
  omega
theorem many_loc {α:Type} {begins:Txt→Bool} {read:List Tok→Res α} (h:Loc read) (he:Eats read):∀ (n:Nat) (l:List Tok) (fuel:Nat) (acc:List α),l.length=n→l.length≤fuel →
  (∀ xs m,many begins read fuel acc l=.ok xs m→∃ c,l=c++m∧∀ d,d <+: m→∀ F,(c++d).length≤F→many begins read F acc (c++d)=.ok xs d) ∧
  (∀ m,many begins read fuel acc l=.bad m→∃ c,l=c++m∧∀ F,c.length≤F→(many begins read F acc c=.bad []∨∃ xs,many begins read F acc c=.ok xs [])):=by
 intro n
 induction n using Nat.strongRecOn with
 | _ n ih =>
  intro l fuel acc hn hf
  have mnil:∀ F,many begins read F acc []=.ok acc []:=fun F=>by cases F <;> rfl
  cases l with
  | nil =>
   rw [mnil]
   refine ⟨fun xs m hm=>?_,fun m hm=>by cases hm⟩
   injection hm with h1 h2
   subst h1 h2
   refine ⟨[],rfl,fun d hd F _=>?_⟩
   rw [List.prefix_nil.1 hd]
   exact mnil F
  | cons t l =>
   obtain ⟨fuel,rfl⟩:∃ f,fuel=f+1:=⟨fuel - 1,by simp at hf;omega⟩
   have step:∀ F u r,many begins read (F+1) acc (u::r)=if begins u.1=true then (read (u::r)).bind fun a l=>many begins read F (acc++[a]) l else .ok acc (u::r):=fun _ _ _=>rfl
   rw [step]
   by_cases hb:begins t.1=true
   ·rw [if_pos hb]
    cases hr:read (t::l) with
    | bad l1 =>
     refine ⟨fun xs m hm=>(by cases hm),fun m hm=>?_⟩
     have hm:Res.bad l1=(Res.bad m:Res (List α)):=hm
     injection hm with hm
     subst hm
     obtain ⟨c,e,g⟩:=h.bad _ _ hr
     refine ⟨c,e,fun F hF=>?_⟩
     cases c with
     | nil=>exact .inr ⟨acc,mnil F⟩
     | cons u c =>
      obtain ⟨F,rfl⟩:∃ f,F=f+1:=⟨F - 1,by simp at hF;omega⟩
      have hu:u=t:=by rw [List.cons_append] at e;injection e with e _;exact e.symm
      rw [step,hu,if_pos hb]
      rw [hu] at g
      rcases g with g | ⟨a,g⟩
      ·exact .inl (by rw [g];rfl)
      ·refine .inr ⟨acc++[a],?_⟩
       rw [g]
       show many begins read F (acc++[a]) []=_
       cases F <;> rfl
    | ok a l1 =>
     have hlt:=he _ _ _ hr
     obtain ⟨c1,e1,g1⟩:=h.ok _ _ _ hr
     obtain ⟨i1,i2⟩:=ih l1.length (by omega) l1 fuel (acc++[a]) rfl (by simp at hf hlt;omega)
     have c1ne:∃ u c',c1=u::c':=by
      cases c1 with
      | nil=>rw [List.nil_append] at e1;rw [← e1] at hlt;omega
      | cons u c'=>exact ⟨u,c',rfl⟩
     obtain ⟨u,c',rfl⟩:=c1ne
     have hu:u=t:=by rw [List.cons_append] at e1;injection e1 with e1 _;exact e1.symm
     subst hu
     refine ⟨fun xs m hm=>?_,fun m hm=>?_⟩
     ·obtain ⟨c2,e2,g2⟩:=i1 xs m hm
      refine ⟨u::c'++c2,by rw [e1,e2,List.append_assoc],fun d hd F hF=>?_⟩
      obtain ⟨F,rfl⟩:∃ f,F=f+1:=⟨F - 1,by simp at hF;omega⟩
      have hc:=g1 (c2++d) (by rw [e2];exact (List.prefix_append_right_inj _).2 hd)
      rw [List.append_assoc] at hF ⊢
      rw [List.cons_append] at hc hF ⊢
      rw [step,if_pos hb,hc]
      exact g2 d hd F (by simp at hF ⊢;omega)
     ·obtain ⟨c2,e2,g2⟩:=i2 m hm
      refine ⟨u::c'++c2,by rw [e1,e2,List.append_assoc],fun F hF=>?_⟩
      obtain ⟨F,rfl⟩:∃ f,F=f+1:=⟨F - 1,by simp at hF;omega⟩
      have hc:=g1 c2 (by rw [e2];exact List.prefix_append _ _)
      rw [List.cons_append] at hc hF ⊢
      rw [step,if_pos hb,hc]
      exact g2 F (by simp at hF;omega)
   ·rw [if_neg hb]
    refine ⟨fun xs m hm=>?_,fun m hm=>by cases hm⟩
    injection hm with h1 h2
    subst h1 h2
    refine ⟨[],rfl,fun d hd F hF=>?_⟩
    rw [List.nil_append] at hF ⊢
    cases d with
    | nil=>exact mnil F
    | cons u d =>
     obtain ⟨F,rfl⟩:∃ f,F=f+1:=⟨F - 1,by simp at hF;omega⟩
     have hu:u=t:=(List.cons_prefix_cons.1 hd).1
     subst hu
     rw [step,if_neg hb]
theorem loc_many {α:Type} {begins:Txt→Bool} {read:List Tok→Res α} (h:Loc read) (he:Eats read):Loc (fun l=>many begins read l.length [] l):=by
 refine ⟨fun l a m hm=>?_,fun l m hm=>?_⟩
 ·obtain ⟨c,e,g⟩:=(many_loc (begins:=begins) h he l.length l l.length [] rfl (Nat.le_refl _)).1 a m hm
  exact ⟨c,e,fun d hd=>g d hd _ (Nat.le_refl _)⟩
 ·obtain ⟨c,e,g⟩:=(many_loc (begins:=begins) h he l.length l l.length [] rfl (Nat.le_refl _)).2 m hm
  exact ⟨c,e,g _ (Nat.le_refl _)⟩
theorem loc_need (w:Txt):Loc (need w):=loc_bind (loc_next _) (fun _=>loc_ret _)
theorem loc_number:Loc number:=loc_bind (loc_next _) (fun _=>loc_ret _)
theorem loc_count:Loc count:=loc_bind (loc_next _) (fun _=>loc_ret _)
theorem loc_name:Loc name:=loc_next _
theorem loc_names:Loc names:=loc_bind (loc_next _) (fun _=>loc_ret _)
theorem loc_picks:∀ (n:Nat) (ws:List ByteArray) (ns:List Int),Loc (picks n ws ns)
 | 0,_,_=>loc_ret _
 | n+1,_,_=>loc_bind loc_name (fun _=>loc_bind loc_number (fun _=>loc_picks n _ _))
theorem loc_states:∀ (n:Nat) (ws:List ByteArray),Loc (states n ws)
 | 0,_=>loc_ret _
 | n+1,_=>loc_bind loc_name (fun _=>loc_states n _)
theorem loc_field1 (k:Nat) (nm:ByteArray):Loc (field1 k nm):=by
 unfold field1
 by_cases k0:k=0
 ·simp only [if_pos k0];exact loc_bind loc_number (fun _=>loc_ret _)
 simp only [if_neg k0]
 by_cases k3:k=3
 ·simp only [if_pos k3];exact loc_bind loc_count (fun _=>loc_bind (loc_picks _ _ _) (fun _=>loc_ret _))
 simp only [if_neg k3]
 by_cases k6:k=6
 ·simp only [if_pos k6];exact loc_bind loc_name (fun _=>loc_ret _)
 simp only [if_neg k6]
 by_cases k8:k=8
 ·simp only [if_pos k8];exact loc_bind loc_name (fun _=>loc_bind loc_name (fun _=>loc_ret _))
 simp only [if_neg k8]
 by_cases k7:k=7
 ·simp only [if_pos k7];exact loc_bind loc_name (fun _=>loc_bind loc_name (fun _=>loc_bind loc_number (fun _=>loc_bind loc_number (fun _=>loc_ret _))))
 simp only [if_neg k7]
 by_cases k2:k=2
 ·simp only [if_pos k2];exact loc_bind loc_number (fun _=>loc_bind loc_number (fun _=>loc_ret _))
 simp only [if_neg k2]
 by_cases k4:k=4
 ·simp only [if_pos k4];exact loc_bind loc_names (fun _=>loc_bind loc_number (fun _=>loc_bind loc_number (fun _=>loc_ret _)))
 ·simp only [if_neg k4];exact loc_bind loc_name (fun _=>loc_bind loc_number (fun _=>loc_bind loc_number (fun _=>loc_ret _)))
theorem field_eq:field=fun l=>(next isWord l).bind fun t l=>(name l).bind fun nm l=>field1 ((wordOf t).getD 0) (ofT nm) l:=by
 funext l
 cases l with
 | nil=>rfl
 | cons t l =>
  show (match wordOf t.1 with
   | none=>Res.bad (t::l)
   | some k=>(name l).bind fun nm l=>field1 k (ofT nm) l)=((if isWord t.1=true then Res.ok t.1 l else Res.bad (t::l))).bind _
  unfold isWord
  cases hw:wordOf t.1 with
  | none=>rfl
  | some k =>
   rw [if_pos (show (some k).isSome=true from rfl)]
   show _=(name l).bind fun nm l=>field1 ((wordOf t.1).getD 0) (ofT nm) l
   rw [hw];rfl
theorem loc_field:Loc field:=by rw [field_eq];exact loc_bind (loc_next _) (fun _=>loc_bind loc_name (fun _=>loc_field1 _ _))
theorem eats_field:Eats field:=by rw [field_eq];exact eats_bind (eats_next _) (fun _=>loc_bind loc_name (fun _=>loc_field1 _ _))
theorem eats_need (w:Txt):Eats (need w):=eats_bind (eats_next _) (fun _=>loc_ret _)
theorem loc_kind1:∀ _:Unit,Loc (fun l=>(name l).bind fun nm l=>(number l).bind fun lo l=>(number l).bind fun hi l=>(many isWord field l.length [] l).bind fun fs l=>Res.ok ((ofT nm,lo,hi,fs):Knd) l):=fun _ =>
 loc_bind loc_name (fun _=>loc_bind loc_number (fun _=>loc_bind loc_number (fun _=>loc_bind (loc_many loc_field eats_field) (fun _=>loc_ret _))))
theorem loc_kind:Loc kind:=loc_bind (loc_need _) loc_kind1
theorem eats_kind:Eats kind:=eats_bind (eats_need _) loc_kind1
theorem loc_move1:∀ _:Unit,Loc (fun l=>(number l).bind fun a l=>(number l).bind fun b l=>Res.ok ((a,b):Int × Int) l):=fun _=>loc_bind loc_number (fun _=>loc_bind loc_number (fun _=>loc_ret _))
theorem loc_move:Loc move:=loc_bind (loc_need _) loc_move1
theorem eats_move:Eats move:=eats_bind (eats_need _) loc_move1
theorem loc_life1:∀ _:Unit,Loc (fun l=>(name l).bind fun nm l=>(count l).bind fun n l=>(states n [] l).bind fun ss l=>(many (fun t=>t == sMove) move l.length [] l).bind fun ms l=>Res.ok ((ofT nm,ss,ms):Lif) l):=fun _ =>
 loc_bind loc_name (fun _=>loc_bind loc_count (fun _=>loc_bind (loc_states _ _) (fun _=>loc_bind (loc_many loc_move eats_move) (fun _=>loc_ret _))))
theorem loc_life:Loc life:=loc_bind (loc_need _) loc_life1
theorem eats_life:Eats life:=eats_bind (eats_need _) loc_life1
theorem loc_rule1:∀ _:Unit,Loc (fun l=>(name l).bind fun nm l=>(name l).bind fun k l=>(names l).bind fun a l=>(names l).bind fun b l=>(number l).bind fun n l=>Res.ok ((ofT nm,ofT k,ofT a,ofT b,n):Rul) l):=fun _ =>
 loc_bind loc_name (fun _=>loc_bind loc_name (fun _=>loc_bind loc_names (fun _=>loc_bind loc_names (fun _=>loc_bind loc_number (fun _=>loc_ret _)))))
theorem loc_rule:Loc rule:=loc_bind (loc_need _) loc_rule1
theorem eats_rule:Eats rule:=eats_bind (eats_need _) loc_rule1
end Sx
namespace Sx
theorem scan_words (s:Txt):∀ (f i:Nat),i≤s.length→∀ t∈(Vm.scan s f i).1.map (fun t=>Vm.piece s t.1 t.2),t.all Vm.isTok=true∧t≠[]
 | 0,_,_,t,h=>by cases h
 | f+1,i,hi,t,h=>by
  have hs2:=(Vm.skipN_le s i).2 hi
  have hw:=Vm.wordAt_le s (Vm.skipN s i) hs2
  rw [Vm.scan_eq] at h
  by_cases he:Vm.wordAt s (Vm.skipN s i)=[]
  ·rw [if_pos he] at h;cases h
  ·rw [if_neg he,List.map_cons] at h
   rcases aL h with rfl | h
   ·rw [Vm.piece_word]
    refine ⟨?_,he⟩
    unfold Vm.wordAt
    exact List.all_eq_true.2 fun c hc=>by
     have:∀ (l:Txt),∀ c∈l.takeWhile Vm.isTok,Vm.isTok c=true:=by
      intro l
      induction l with
      | nil=>intro c hc;cases hc
      | cons d l ih =>
       intro c hc
       rw [List.takeWhile_cons] at hc
       split at hc
       ·rename_i hd
        rcases aL hc with rfl | hc
        ·exact hd
        ·exact ih c hc
       ·cases hc
     exact this _ c hc
   ·exact scan_words s f _ hw t h
end Sx
namespace Sx
abbrev St:=List Tok × Bool
def Nx {α:Type} (p:List Tok→Res α) (st:St) (a:α) (st':St):Prop :=
 if st.2=true then st'=st else match p st.1 with
  | .ok x l=>a=x∧st'=(l,false)
  | .bad l=>st'=(l,true)
section
variable {α β:Type} {p q:List Tok→Res α} {st st1 st':St} {a:α} {b:β}
theorem nx_failed {l:List Tok}:Nx p (l,true) a (l,true):=by unfold Nx;rw [if_pos rfl]
theorem nx_of_failed {l:List Tok} (h:Nx p (l,true) a st'):st'=(l,true):=by unfold Nx at h;rwa [if_pos rfl] at h
theorem nx_iff {l:List Tok}:Nx p (l,false) a st'↔match p l with
  | .ok x l=>a=x∧st'=(l,false)
  | .bad l=>st'=(l,true):=by
 unfold Nx
 rw [if_neg (by simp)]
theorem nx_ok {l l':List Tok} (h:p l=.ok a l'):Nx p (l,false) a (l',false):=by rw [nx_iff,h];exact ⟨rfl,rfl⟩
theorem nx_bad {l l':List Tok} (h:p l=.bad l'):Nx p (l,false) a (l',true):=by rw [nx_iff,h]
theorem nx_ret (a:α) (st:St):Nx (fun l=>.ok a l) st a st:=by
 obtain ⟨l,f⟩:=st
 cases f
 ·exact nx_ok rfl
 ·exact nx_failed
theorem nx_bind {f:α→List Tok→Res β} (h:Nx p st a st1) (k:Nx (f a) st1 b st'):Nx (fun l=>(p l).bind f) st b st':=by
 obtain ⟨l,e⟩:=st
 cases e
 ·rw [nx_iff] at h
  cases hp:p l with
  | ok x m =>
   rw [hp] at h
   obtain ⟨rfl,rfl⟩:=h
   rw [nx_iff] at k ⊢
   show match (p l).bind f with | .ok x l=>b=x∧st'=(l,false) | .bad l=>st'=(l,true)
   rw [hp];exact k
  | bad m =>
   rw [hp] at h
   subst h
   obtain rfl:=nx_of_failed k
   exact nx_bad (show (p l).bind f=_ by rw [hp];rfl)
 ·obtain rfl:=nx_of_failed h
  obtain rfl:=nx_of_failed k
  exact nx_failed
theorem nx_map {f:α→β} (h:Nx p st a st'):Nx (fun l=>(p l).bind fun a l=>.ok (f a) l) st (f a) st':=nx_bind (f:=fun a l=>.ok (f a) l) h (nx_ret _ _)
theorem nx_any {a2:α} (h:Nx p st a st') (hf:st'.2=true):Nx p st a2 st':=by
 obtain ⟨l,e⟩:=st
 cases e
 ·rw [nx_iff] at h ⊢
  cases hp:p l with
  | ok x m=>rw [hp] at h;obtain ⟨rfl,rfl⟩:=h;cases hf
  | bad m=>rw [hp] at h;exact h
 ·obtain rfl:=nx_of_failed h;exact nx_failed
end
def pk (st:St):Txt:=if st.2=true then [] else match st.1 with
 | []=>[]
 | t::_=>t.1
def step (st:St) (r:Bool):Txt × St:=if st.2=true then ([],st) else match st.1 with
 | []=>([],([],true))
 | t::l=>if r=true then (t.1,(l,false)) else ([],(t::l,true))
theorem nx_step {right:Txt→Bool} {st:St} {r:Bool} (h:st.2=false→∀ t l,st.1=t::l→r=right t.1):Nx (next right) st (step st r).1 (step st r).2:=by
 obtain ⟨l,e⟩:=st
 cases e
 ·cases l with
  | nil=>exact nx_bad rfl
  | cons t l =>
   obtain rfl:=h rfl t l rfl
   by_cases hr:right t.1=true
   ·have e1:step (t::l,false) (right t.1)=(t.1,(l,false)):=by simp [step,hr]
    rw [e1]
    exact nx_ok (show (if right t.1=true then Res.ok t.1 l else .bad (t::l))=_ by rw [if_pos hr])
   ·have e1:step (t::l,false) (right t.1)=([],(t::l,true)):=by simp [step,hr]
    rw [e1]
    exact nx_bad (show (if right t.1=true then Res.ok t.1 l else .bad (t::l))=_ by rw [if_neg hr])
 ·exact nx_failed
theorem nx_step_pk {right:Txt→Bool} {st:St}:Nx (next right) st (step st (right (pk st))).1 (step st (right (pk st))).2:=by
 refine nx_step fun hf t l hl=>?_
 obtain ⟨l',e⟩:=st
 subst hf hl
 rfl
section
variable {α:Type} {begins:Txt→Bool} {read:List Tok→Res α}
theorem many_fuel (he:Eats read):∀ (n:Nat) (l:List Tok) (f g:Nat) (acc:List α),l.length=n→l.length≤f→l.length≤g→many begins read f acc l=many begins read g acc l:=by
 intro n
 induction n using Nat.strongRecOn with
 | _ n ih =>
  intro l f g acc hl hf hg
  cases l with
  | nil=>cases f <;> cases g <;> rfl
  | cons t r =>
   rw [List.length_cons] at hf hg hl
   obtain ⟨f,rfl⟩:∃ f',f=f'+1:=⟨f - 1,by omega⟩
   obtain ⟨g,rfl⟩:∃ g',g=g'+1:=⟨g - 1,by omega⟩
   show (if begins t.1=true then (read (t::r)).bind fun a l=>many begins read f (acc++[a]) l else .ok acc (t::r))=(if begins t.1=true then (read (t::r)).bind fun a l=>many begins read g (acc++[a]) l else .ok acc (t::r))
   by_cases hb:begins t.1=true
   ·rw [if_pos hb,if_pos hb]
    cases hr:read (t::r) with
    | bad m=>rfl
    | ok a m =>
     have h1:=he _ _ _ hr
     rw [List.length_cons] at h1
     show many begins read f (acc++[a]) m=many begins read g (acc++[a]) m
     exact ih m.length (by omega) m f g _ rfl (by omega) (by omega)
   ·rw [if_neg hb,if_neg hb]
theorem nx_many_stop {st:St} {f:Nat} {acc:List α} (h:st.2=false→∀ t r,st.1=t::r→begins t.1=false):Nx (many begins read f acc) st acc st:=by
 obtain ⟨l,e⟩:=st
 cases e
 ·refine nx_ok ?_
  cases f with
  | zero=>rfl
  | succ f =>
   cases l with
   | nil=>rfl
   | cons t r =>
    show (if begins t.1=true then (read (t::r)).bind fun a l=>many begins read f (acc++[a]) l else .ok acc (t::r))=_
    rw [if_neg (by rw [h rfl t r rfl];simp)]
 ·exact nx_failed
theorem nx_many_step {t:Tok} {r:List Tok} {st1 st':St} {acc xs:List α} {a:α} (he:Eats read) (hb:begins t.1=true) (h:Nx read (t::r,false) a st1) (k:Nx (many begins read st1.1.length (acc++[a])) st1 xs st') :
  Nx (many begins read (t::r).length acc) (t::r,false) xs st':=by
 rw [nx_iff] at h ⊢
 rw [show many begins read (t::r).length acc (t::r)=if begins t.1=true then (read (t::r)).bind fun a l=>many begins read r.length (acc++[a]) l else .ok acc (t::r) from rfl,if_pos hb]
 cases hr:read (t::r) with
 | bad m =>
  rw [hr] at h
  subst h
  exact nx_of_failed k
 | ok x m =>
  rw [hr] at h
  obtain ⟨rfl,rfl⟩:=h
  have h1:=he _ _ _ hr
  rw [List.length_cons] at h1
  rw [nx_iff] at k
  rw [show (Res.ok a m).bind (fun a l=>many begins read r.length (acc++[a]) l)=many begins read r.length (acc++[a]) m from rfl,many_fuel he m.length m r.length m.length _ rfl (by omega) (Nat.le_refl _)]
  exact k
def left (st:St):Nat:=if st.2=true then 0 else st.1.length+1
theorem left_eats {t:Tok} {r:List Tok} {a:α} {st1:St} (he:Eats read) (h:Nx read (t::r,false) a st1):left st1 < left (t::r,false):=by
 rw [nx_iff] at h
 cases hr:read (t::r) with
 | bad m=>rw [hr] at h;subst h;show 0 < _+1;omega
 | ok x m =>
  rw [hr] at h
  obtain ⟨_,rfl⟩:=h
  have:=he _ _ _ hr
  show m.length+1 < (t::r).length+1
  omega
end
end Sx
structure PK where
 w:World
 g:Nat
 t:TypeId
 C:Sx.St→Array Value→List Nat→World→Prop
 kc:∀ st cs,Keeps (C st cs)
structure PH (K:PK) (st:Sx.St) (M:List Nat) (bx:List Box) (rs:List Rw) (L:List (List Nat→World→Prop)) (W:World):Prop where
 it:∃ cs,HR K.w [] M ((K.g,K.t,cs)::bx) rs (K.C st cs::L) W
theorem list_swap3 {P Q R:List Nat→World→Prop} {L:List (List Nat→World→Prop)} (h:R∈P::Q::L):R∈Q::P::L:=by
 rcases aL h with rfl | h
 ·exact .tail _ (.head _)
 ·rcases aL h with rfl | h
  ·exact .head _
  ·exact .tail _ (.tail _ h)
section
variable {K:PK} {st:Sx.St} {M:List Nat} {bx:List Box} {rs:List Rw} {r:Rw} {L:List (List Nat→World→Prop)} {W W':World}
theorem PH.bl (h:PH K st M bx rs L W):Below K.w.heap.size K.w W:=by obtain ⟨cs,H⟩:=h.it;exact H.h.bl
theorem PH.below (h:PH K st M bx rs L W) (hb:Below W.heap.size W W'):PH K st M bx rs L W':=by obtain ⟨cs,H⟩:=h.it;exact ⟨cs,H.below hb⟩
theorem PH.drew (h:PH K st M bx rs L W):PH K st M bx rs L W.drew:=h.below ⟨rfl,rfl,rfl,Nat.le_refl _,fun _ _=>rfl⟩
theorem PH.new (h:PH K st M bx rs L W) (cs:Array Value) (t:TypeId) {N:Nat} (hN:W.heap.size=N):PH K st (N::M) ((N,t,cs)::bx) rs L (W.alloc (.cells cs t)):=by
 obtain ⟨cs',H⟩:=h.it
 exact ⟨cs',(H.new cs t hN).bperm (List.Perm.swap _ _ _)⟩
theorem PH.made (h:PH K st M bx rs L W) (cs:Array Value) (t:TypeId) {N:Nat} (hN:W.heap.size=N):PH K st M bx rs ((fun M W=>N∉M∧Blk W N t cs)::L) (W.alloc (.cells cs t)):=by
 obtain ⟨cs',H⟩:=h.it
 exact ⟨cs',(H.made cs t hN).less fun P hP=>list_swap3 hP⟩
theorem PH.set_ {N:Nat} {t:TypeId} {cs:Array Value} {bx1 bx2:List Box} (h:PH K st M (bx1++(N,t,cs)::bx2) rs L W) (i:Nat) (u:Value):PH K st M (bx1++(N,t,cs.setIfInBounds i u)::bx2) rs L (W.setCell ⟨N,i,none⟩ u):=by
 obtain ⟨cs',H⟩:=h.it
 exact ⟨cs',HR.set_ (bx1:=(K.g,K.t,cs')::bx1) H i u⟩
theorem PH.set0 {N:Nat} {t:TypeId} {cs:Array Value} {bx2:List Box} (h:PH K st M ((N,t,cs)::bx2) rs L W) (i:Nat) (u:Value):PH K st M ((N,t,cs.setIfInBounds i u)::bx2) rs L (W.setCell ⟨N,i,none⟩ u):=PH.set_ (bx1:=[]) h i u
theorem PH.push (h:PH K st M bx rs L W) (e:TypeId) (size:Nat):PH K st M bx (⟨e,size,.slice none 0 0,0,[]⟩::rs) L W:=by
 obtain ⟨cs,H⟩:=h.it
 exact ⟨cs,H.push e size⟩
theorem PH.perm {rs':List Rw} (h:PH K st M bx rs L W) (hp:rs.Perm rs'):PH K st M bx rs' L W:=by
 obtain ⟨cs,H⟩:=h.it
 exact ⟨cs,H.perm hp⟩
theorem PH.boxes {bx':List Box} (h:PH K st M bx rs L W) (hb:bx'.Sublist bx):PH K st M bx' rs L W:=by
 obtain ⟨cs,H⟩:=h.it
 exact ⟨cs,H.boxes (hb.cons_cons _)⟩
theorem PH.bperm {bx':List Box} (h:PH K st M bx rs L W) (hb:bx.Perm bx'):PH K st M bx' rs L W:=by
 obtain ⟨cs,H⟩:=h.it
 exact ⟨cs,H.bperm (hb.cons _)⟩
theorem PH.unbox {x:Box} (h:PH K st M (x::bx) rs L W):PH K st M bx rs L W:=h.boxes (.cons _ (List.Sublist.refl _))
theorem PH.bswap {x y:Box} (h:PH K st M (x::y::bx) rs L W):PH K st M (y::x::bx) rs L W:=h.bperm (List.Perm.swap _ _ _)
theorem PH.add (h:PH K st M bx rs L W) {P:List Nat→World→Prop} (hk:Keeps P) (hp:P M W):PH K st M bx rs (P::L) W:=by
 obtain ⟨cs,H⟩:=h.it
 exact ⟨cs,(H.add hk hp).less fun P hP=>list_swap3 hP⟩
theorem PH.less {L':List (List Nat→World→Prop)} (h:PH K st M bx rs L W) (hL:∀ P∈L',P∈L):PH K st M bx rs L' W:=by
 obtain ⟨cs,H⟩:=h.it
 exact ⟨cs,H.less fun P hP=>by
  rcases aL hP with rfl | hP
  ·exact .head _
  ·exact .tail _ (hL P hP)⟩
theorem PH.tail {P:List Nat→World→Prop} (h:PH K st M bx rs (P::L) W):PH K st M bx rs L W:=h.less fun _P hP=>.tail _ hP
theorem PH.fswap {P Q:List Nat→World→Prop} (h:PH K st M bx rs (P::Q::L) W):PH K st M bx rs (Q::P::L) W:=h.less fun _R hR=>list_swap3 hR
theorem PH.flat {α:Type} [Mem α] {l news:List α} {xs us:List Value} (h:PH K st M bx rs ((fun M W=>Flat M W l xs)::L) W) (hu:Flat M W news us):PH K st M bx rs ((fun M W=>Flat M W (l++news) (xs++us))::L) W:=by
 obtain ⟨cs,H⟩:=h.it
 exact (h.add (keeps_flat _ _) ((H.fact (.tail _ (.head _))).append hu)).fswap.tail
theorem PH.box {x:Box} (h:PH K st M bx rs L W) (hx:x∈bx):Blk W x.1 x.2.1 x.2.2:=by
 obtain ⟨cs,H⟩:=h.it
 exact H.h.box (.tail _ hx)
theorem PH.pbox (h:PH K st M bx rs L W):∃ cs,Blk W K.g K.t cs∧K.C st cs M W:=by
 obtain ⟨cs,H⟩:=h.it
 exact ⟨cs,H.h.box (.head _),H.fact (.head _)⟩
theorem PH.fact {P:List Nat→World→Prop} (h:PH K st M bx rs L W) (hP:P∈L):P M W:=by
 obtain ⟨cs,H⟩:=h.it
 exact H.h.fact (.tail _ hP)
theorem PH.mb (h:PH K st M bx rs L W):∀ g∈M,g < W.heap.size:=by
 obtain ⟨cs,H⟩:=h.it
 exact H.h.mb
theorem PH.own (h:PH K st M bx rs L W):∀ r∈rs,W.ownsRow K.w.heap.size r.e r.size r.v r.n r.xs:=by
 obtain ⟨cs,H⟩:=h.it
 exact H.own
theorem PH.form {e:TypeId} {size n:Nat} {v:Value} {xs:List Value} (h:PH K st M bx (⟨e,size,v,n,xs⟩::rs) L W):∃ A c,v=.slice A n c:=own_form (h.own _ (.head _))
theorem PH.freeze {α:Type} [Mem α] {l:List α} {e:TypeId} {size n:Nat} {v:Value} {xs:List Value} (h:PH K st M bx (⟨e,size,v,n,xs⟩::rs) L W) (hs:size=Mem.sz α) (hn:n=l.length) (hf:Flat M W l xs) :
  ∃ A c M',v=.slice A l.length c∧l.length≤c∧c≤9223372036854775807∧PH K st M' bx rs ((fun M W=>SlAt M W A l)::L) W∧∀ g∈M',g∈M:=by
 obtain ⟨cs,H⟩:=h.it
 obtain ⟨A,c,M',h1,h2,h3,h4,h5,_⟩:=H.freeze hs hn hf (fun _ h=>by cases h)
 exact ⟨A,c,M',h1,h2,h3,⟨cs,h4.less fun P hP=>list_swap3 hP⟩,h5⟩
variable {P:Program}
theorem wpList_append_ph {ops:Array Oper} {rest:List Oper} {o:Oper} {a:Act} {Q:Exit→Act→World→Prop} (hgd:o.guard=none) (s x:Operand) (t:TypeId)
  (ho:o.op=.call { callee:=.builtin .append,args:=#[s,x],argTypes:=#[t,t] })
  (e:TypeId) (i:TypeInfo) (z:Value) (size bytes:Nat) (ht:P.underlying t=some (.slice e)) (hi:P.info? e=some i) (hz:i.zero=some z)
  (hsize:i.size=size) (hby:i.bytes=bytes) (hzs:z.cells.size=size) (hsz:0 < size)
  {v:Value} {n:Nat} {xs:List Value} (H:PH K st M bx (⟨e,size,v,n,xs⟩::rs) L W) (hs:a.eval s=v)
  (B:Nat) (A:Option Addr) (m c:Nat) (news:List Value) (hx:a.eval x=.slice A m c) (hr:Reads W B size A m news) (h1:∀ u∈news,u.oneCell'=true)
  (h63:n+m≤maxLen) (hbytes:(n+m)*bytes≤140737488355328)
  (h:∀ v' W' M',PH K st M' bx (⟨e,size,v',n+m,xs++news⟩::rs) L W'→(∀ g∈M,g∈M')→wpList P ops Q rest (a.put o.dst v') W'):wpList P ops Q (o::rest) a W:=by
 obtain ⟨cs,H'⟩:=H.it
 exact wpList_append_rows hgd s x t ho e i z size bytes ht hi hz hsize hby hzs hsz H' hs B A m c news hx hr h1 h63 hbytes fun v' W' M' h2 h3=>h v' W' M' ⟨cs,h2⟩ h3
theorem PH.turn {st':Sx.St} {cs:Array Value} (H:HR K.w [] M ((K.g,K.t,cs)::bx) rs (K.C st cs::L) W) (i:Nat) (u:Value) (hc:K.C st' (cs.setIfInBounds i u) M (W.setCell ⟨K.g,i,none⟩ u)):PH K st' M bx rs L (W.setCell ⟨K.g,i,none⟩ u):=by
 have H1:=(HR.set0 H i u).tail
 exact ⟨_,H1.add (K.kc _ _) hc⟩
end
def RdA {α:Type} [Mem α] (K:PK) (p:List Sx.Tok→Sx.Res α) (st:Sx.St) (bx:List Box) (rs:List Rw) (L:List (List Nat→World→Prop)) (e:Ending) (W':World):Prop :=
 ∃ a us st' M',e=.returned (.agg us.toArray)∧Sx.Nx p st a st'∧PH K st' M' bx rs ((fun M W=>Mem.rep M W a us)::L) W'
def RdL {α:Type} [Mem α] (K:PK) (p:List Sx.Tok→Sx.Res (List α)) (st:Sx.St) (bx:List Box) (rs:List Rw) (L:List (List Nat→World→Prop)) (e:Ending) (W':World):Prop :=
 ∃ l A c st' M',e=.returned (.slice A l.length c)∧l.length≤c∧c≤9223372036854775807∧l.length≤8193∧Sx.Nx p st l st'∧PH K st' M' bx rs ((fun M W=>SlAt M W A l)::L) W'
def tokP (t:Sx.Tok):ByteArray × Int:=(Sx.ofT t.1,(t.2:Int))
def TokOk (l:List Sx.Tok):Prop:=l.length≤8192∧∀ t∈l,t.1≠[]∧t.1.length≤8192∧t.2≤8192
theorem TokOk.tail {t:Sx.Tok} {l:List Sx.Tok} (h:TokOk (t::l)):TokOk l:=⟨by have:=h.1;rw [List.length_cons] at this;omega,fun u hu=>h.2 u (.tail _ hu)⟩
def PC (st:Sx.St) (cs:Array Value) (M:List Nat) (W:World):Prop:=∃ A c,cs=#[.slice A st.1.length c,.bool st.2]∧st.1.length≤c∧c≤9223372036854775807∧SlAt M W A (st.1.map tokP)∧TokOk st.1
theorem pc_keeps (st:Sx.St) (cs:Array Value):Keeps (PC st cs) :=
 ⟨fun _ _ _ ⟨A,c,h1,h2,h3,h4,h5⟩ hc=>⟨A,c,h1,h2,h3,h4.keep hc,h5⟩,fun _ _ _ ⟨A,c,h1,h2,h3,h4,h5⟩ hs=>⟨A,c,h1,h2,h3,h4.sub hs,h5⟩⟩
@[reducible] def pkP (w:World) (g:Nat):PK:=⟨w,g,79,PC,pc_keeps⟩
theorem tokP_at {G:List Nat} {w:World} {A:Option Addr} {t:Sx.Tok} {l:List Sx.Tok} (h:SlAt G w A ((t::l).map tokP)):∃ b o,A=some ⟨b,o,none⟩∧b∉G∧w.cell? ⟨b,o,none⟩=some (.string (Sx.ofT t.1))∧w.cell? ⟨b,o+1,none⟩=some (.int .i64 (t.2:Int)):=by
 obtain ⟨b,o,us,hA,hg,⟨u1,t1,rfl,⟨rfl,_⟩,⟨rfl,_⟩⟩,hc⟩:=h.get 0 (by simp)
 refine ⟨b,o,hA,hg,?_,?_⟩
 ·have:=hc 0 _ rfl;rw [show 0*Mem.sz (ByteArray × Int)+0=0 from rfl,Nat.add_zero] at this;exact this
 ·have:=hc 1 _ rfl;rw [show 0*Mem.sz (ByteArray × Int)+1=1 from Nat.zero_add 1 ▸ by rw [Nat.zero_mul]] at this;exact this
theorem ofT_size (t:Sx.Txt):(Sx.ofT t).size=t.length:=by unfold Sx.ofT;simp [ByteArray.size]
theorem ofT_list (t:Sx.Txt):(Sx.ofT t).data.toList=t:=by simp [Sx.ofT]
theorem ofT_inj {a b:Sx.Txt} (h:Sx.ofT a=Sx.ofT b):a=b:=by rw [← ofT_list a,← ofT_list b,h]
theorem ofT_eqB (a b:Sx.Txt):((Sx.ofT a).toList == (Sx.ofT b).toList)=(a == b):=by
 rw [ByteArray.toList_eq,ByteArray.toList_eq,ofT_list,ofT_list]
theorem ofT_empty {t:Sx.Txt}:(Sx.ofT t).toList.isEmpty=t.isEmpty∧(Sx.ofT t).data.toList.isEmpty=t.isEmpty:=by rw [ByteArray.toList_eq,ofT_list];exact ⟨rfl,rfl⟩
set_option maxHeartbeats 2000000 in
theorem peek_any {w:World} {g:Nat} {st:Sx.St} {M:List Nat} {bx:List Box} {rs:List Rw} {L:List (List Nat→World→Prop)} {W:World} (h:PH (pkP w g) st M bx rs L W) :
  Calls Tryz.prog 75 #[.pointer (some ⟨g,0,none⟩)] W fun e W'=>e=.returned (.string (Sx.ofT (Sx.pk st)))∧W=W':=by
 obtain ⟨cs,hb,A,c,rfl,hc1,hc2,hsl,hok⟩:=h.pbox
 have c0:=hb.cell 0
 have c1:=hb.cell 1
 obtain ⟨l,f⟩:=st
 simp at c0 c1
 clear h hb
 cases f
 ·cases l with
  | nil =>
   clear hsl hok
   go_enter Tryz.func75,Tryz.ntmps75
   go_wp2_with fail
   go_ret
   exact ⟨rfl,rfl⟩
  | cons t r =>
   obtain ⟨b,o,rfl,_,d0,_⟩:=tokP_at hsl
   obtain ⟨n,hn⟩:∃ n,(t::r).length=n:=⟨_,rfl⟩
   have hn0:0 < n:=by rw [← hn,List.length_cons];omega
   rw [hn] at c0
   have z0:((n:Int) == 0)=false:=beq_eq_false_iff_ne.2 (by omega)
   have z1:(0:Int) < (n:Int):=by omega
   clear hsl hok hn hc1
   go_enter Tryz.func75,Tryz.ntmps75
   go_wp2_with fail
   go_ret
   exact ⟨rfl,rfl⟩
 ·clear hsl hok
  go_enter Tryz.func75,Tryz.ntmps75
  go_wp2_with fail
  go_ret
  exact ⟨rfl,rfl⟩
section
variable {w:World} {g:Nat} {st:Sx.St} {M:List Nat} {bx:List Box} {rs:List Rw} {L:List (List Nat→World→Prop)} {W:World}
theorem step_failed (l:List Sx.Tok) (r:Bool):Sx.step (l,true) r=([],(l,true)):=rfl
theorem step_nil (r:Bool):Sx.step ([],false) r=([],([],true)):=rfl
theorem step_no (t:Sx.Tok) (l:List Sx.Tok):Sx.step (t::l,false) false=([],(t::l,true)):=rfl
theorem step_yes (t:Sx.Tok) (l:List Sx.Tok):Sx.step (t::l,false) true=(t.1,(l,false)):=rfl
set_option maxHeartbeats 4000000 in
theorem next_any (r:Bool) (h:PH (pkP w g) st M bx rs L W) :
  Calls Tryz.prog 74 #[.pointer (some ⟨g,0,none⟩),.bool r] W fun e W'=>e=.returned (.string (Sx.ofT (Sx.step st r).1))∧PH (pkP w g) (Sx.step st r).2 M bx rs L W':=by
 have CP:=aI (peek_any h)
 obtain ⟨cs,H⟩:=h.it
 obtain ⟨A,c,rfl,hc1,hc2,hsl,hok⟩:=H.fact (.head _)
 have hb:=H.box (.head _)
 have c0:=hb.cell 0
 have c1:=hb.cell 1
 have f0:=hb.frozen 0
 have f1:=hb.frozen 1
 have T:=aI H
 obtain ⟨l,f⟩:=st
 simp at c0 c1
 clear h hb H
 have HT:=aI (show PH (pkP w g) (l,true) M bx rs L (W.setCell ⟨g,1,none⟩ (.bool true)) from PH.turn T.out 1 (.bool true) ⟨A,c,rfl,hc1,hc2,hsl.keep (Chg.set_ W (p:=⟨g,1,none⟩) (T.out.h.bs _ (.head _)).1 _),hok⟩)
 cases f
 ·cases l with
  | nil =>
   rw [step_nil]
   have z:(Sx.ofT []).toList.isEmpty=true:=ofT_empty.1
   have z2:(Sx.ofT []).data.toList.isEmpty=true:=ofT_empty.2
   unfold Sx.pk at CP
   simp only [Bool.false_eq_true,if_false] at CP
   clear hsl hok hc1 hc2 T
   go_enter Tryz.func74,Tryz.ntmps74
   go_wp2_with (go_at_call 75;((with_reducible refine (CP.out).mono ?_));rintro e w1 ⟨rfl,rfl⟩)
   go_ret
   exact ⟨rfl,HT.out⟩
  | cons t l =>
   have htn:=(hok.2 t (.head _)).1
   have z:(Sx.ofT t.1).toList.isEmpty=false:=by rw [ofT_empty.1];cases h:t.1 with | nil=>exact absurd h htn | cons _ _=>rfl
   have z2:(Sx.ofT t.1).data.toList.isEmpty=false:=by rw [ofT_empty.2];cases h:t.1 with | nil=>exact absurd h htn | cons _ _=>rfl
   unfold Sx.pk at CP
   simp only [Bool.false_eq_true,if_false] at CP
   cases r
   ·rw [step_no]
    clear hsl hok hc1 hc2 T htn
    go_enter Tryz.func74,Tryz.ntmps74
    go_wp2_with (go_at_call 75;((with_reducible refine (CP.out).mono ?_));rintro e w1 ⟨rfl,rfl⟩)
    go_ret
    exact ⟨rfl,HT.out⟩
   ·rw [step_yes]
    obtain ⟨b,o,rfl,_⟩:=tokP_at hsl
    have hd:=hsl.drop (k:=1) (cap:=c) (by simp) (by simpa using hc1)
    rw [show 1*Mem.sz (ByteArray × Int)=2 from rfl] at hd
    obtain ⟨n,hn⟩:∃ n,(t::l).length=n:=⟨_,rfl⟩
    have hln:l.length=n - 1:=by rw [← hn,List.length_cons];omega
    have hn0:1≤n:=by rw [← hn,List.length_cons];omega
    have hc1':n≤c:=by rw [← hn];exact hc1
    have z1:(1:Int)≤(n:Int):=by omega
    have z3:(n:Int)≤(c:Int):=by omega
    by_cases hcc:c=1
    ·subst hcc
     rw [if_pos rfl] at hd
     have HN:=aI (show PH (pkP w g) (l,false) M bx rs L (W.setCell ⟨g,0,none⟩ (.slice (some ⟨b,o,none⟩) l.length 0)) from PH.turn T.out 0 _ ⟨some ⟨b,o,none⟩,0,rfl,by simp at hc1 ⊢;omega,by omega,hd.keep (Chg.set_ W (p:=⟨g,0,none⟩) (T.out.h.bs _ (.head _)).1 _),hok.tail⟩)
     rw [hn] at c0
     rw [hln,show n - 1=0 by omega] at HN
     clear hsl hok hc1 T htn hd hn hln HT
     go_enter Tryz.func74,Tryz.ntmps74
     go_wp2_with (go_at_call 75;((with_reducible refine (CP.out).mono ?_));rintro e w1 ⟨rfl,rfl⟩)
     go_ret
     exact ⟨rfl,HN.out⟩
    ·rw [if_neg hcc,show (some (⟨b,o,none⟩:Addr)).map (·.add 2)=some ⟨b,o+2,none⟩ from rfl] at hd
     have HN:=aI (show PH (pkP w g) (l,false) M bx rs L (W.setCell ⟨g,0,none⟩ (.slice (some ⟨b,o+2,none⟩) l.length (c - 1))) from PH.turn T.out 0 _ ⟨some ⟨b,o+2,none⟩,c - 1,rfl,by simp at hc1 ⊢;omega,by omega,hd.keep (Chg.set_ W (p:=⟨g,0,none⟩) (T.out.h.bs _ (.head _)).1 _),hok.tail⟩)
     rw [hn] at c0
     rw [hln] at HN
     clear hsl hok hc1 T htn hd hn hln HT
     go_enter Tryz.func74,Tryz.ntmps74
     go_wp2_with (go_at_call 75;((with_reducible refine (CP.out).mono ?_));rintro e w1 ⟨rfl,rfl⟩)
     go_ret
     exact ⟨rfl,HN.out⟩
 ·rw [step_failed]
  have z:(Sx.ofT []).toList.isEmpty=true:=ofT_empty.1
  have z2:(Sx.ofT []).data.toList.isEmpty=true:=ofT_empty.2
  unfold Sx.pk at CP
  simp only [if_true] at CP
  clear hsl hok hc1 hc2 T
  go_enter Tryz.func74,Tryz.ntmps74
  go_wp2_with (go_at_call 75;((with_reducible refine (CP.out).mono ?_));rintro e w1 ⟨rfl,rfl⟩)
  go_ret
  exact ⟨rfl,HT.out⟩
end
namespace Sx
theorem step_len (st:St) (r:Bool) (h:∀ t∈st.1,t.1.length≤8192):(step st r).1.length≤8192:=by
 obtain ⟨l,f⟩:=st
 cases f
 ·cases l with
  | nil=>simp [step]
  | cons t l=>cases r <;> simp [step];exact h t (.head _)
 ·simp [step]
theorem pk_len (st:St) (h:∀ t∈st.1,t.1.length≤8192):(pk st).length≤8192:=by
 obtain ⟨l,f⟩:=st
 cases f
 ·cases l with
  | nil=>simp [pk]
  | cons t l=>exact h t (.head _)
 ·simp [pk]
theorem step_one (st:St) (r:Bool):((step st r).1=pk st∧r=true∧st.2=false∧(step st r).2.2=false)∨((step st r).1=[]∧(step st r).2.2=true):=by
 obtain ⟨l,f⟩:=st
 cases f
 ·cases l with
  | nil=>exact .inr ⟨rfl,rfl⟩
  | cons t l =>
    cases r
    ·exact .inr ⟨rfl,rfl⟩
    ·exact .inl ⟨rfl,rfl,rfl,rfl⟩
 ·exact .inr ⟨rfl,rfl⟩
theorem nx_need (st:St) (w:Txt):Nx (need w) st () (step st (pk st == w)).2:=nx_map (f:=fun _=>()) (nx_step_pk (right:=fun t=>t == w))
theorem nx_name (st:St):Nx name st (step st (nameB (pk st))).1 (step st (nameB (pk st))).2:=nx_step_pk (right:=nameB)
theorem nx_number (st:St) {n:Int} (h:∀ m,Lib.atoiAll (step st (numB (pk st))).1=.ok m→n=m):Nx number st n (step st (numB (pk st))).2:=by
 have h1:=nx_map (f:=numV) (nx_step_pk (right:=numB) (st:=st))
 rcases step_one st (numB (pk st)) with ⟨e1,e2,_⟩ | ⟨_,e2⟩
 ·rw [e1] at h1 h;rw [h _ (atoi_numB e2)];exact h1
 ·exact nx_any h1 e2
theorem nx_count (st:St) {n:Int} (h:numB (pk st)=true→n=numV (pk st)):Nx (fun l=>(count l).bind fun n l=>.ok (n:Int) l) st n (step st (numB (pk st) && within n 1 12)).2:=by
 obtain ⟨r,hr⟩:∃ r,(numB (pk st) && within (numV (pk st)) 1 12)=r:=⟨_,rfl⟩
 have hr2:(numB (pk st) && within n 1 12)=r:=by
  rw [← hr]
  cases hb:numB (pk st)
  ·rfl
  ·rw [h hb]
 rw [hr2]
 have h0:=nx_step_pk (right:=fun t=>numB t && within (numV t) 1 12) (st:=st)
 rw [hr] at h0
 have h1:=nx_map (f:=fun t=>(numV t).toNat) h0
 have h2:=nx_map (f:=fun n:Nat=>(n:Int)) h1
 rcases step_one st r with ⟨e1,e2,_⟩ | ⟨_,e2⟩
 ·rw [e1] at h2
  have hb:numB (pk st)=true∧within (numV (pk st)) 1 12=true:=by rw [e2] at hr;exact Bool.and_eq_true_iff.1 hr
  have hw:=within_bd hb.2
  have e:n=((numV (pk st)).toNat:Int):=by rw [h hb.1];omega
  rw [e];exact h2
 ·exact nx_any h2 e2
theorem minus_name:nameB [45]=false:=by decide
def namesR (st:St):Txt × St:=if (pk st == [45])=true then ([],(step st true).2) else step st (nameB (pk st))
theorem nx_names (st:St):Nx names st (namesR st).1 (namesR st).2:=by
 have h2:=nx_map (f:=fun t=>if t == [45] then [] else t) (nx_step_pk (right:=fun t=>nameB t || t == [45]) (st:=st))
 unfold namesR
 by_cases hb:(pk st == [45])=true
 ·rw [if_pos hb]
  rw [show (nameB (pk st) || pk st == [45])=true by rw [hb,Bool.or_true]] at h2
  rcases step_one st true with ⟨e1,_⟩ | ⟨_,e2⟩
  ·rw [e1,hb] at h2;exact h2
  ·exact nx_any h2 e2
 ·rw [if_neg hb]
  have hf:(pk st == [45])=false:=by simpa using hb
  rw [show (nameB (pk st) || pk st == [45])=nameB (pk st) by rw [hf,Bool.or_false]] at h2
  rcases step_one st (nameB (pk st)) with ⟨e1,_⟩ | ⟨_,e2⟩
  ·rw [e1,hf] at h2;rw [e1];exact h2
  ·exact nx_any h2 e2
end Sx
theorem nm_ofT (t:Sx.Txt):Sx.nm (Sx.ofT t)=Sx.nameB t:=by unfold Sx.nm;rw [ofT_list]
section
variable {w:World} {g:Nat} {st:Sx.St} {M:List Nat} {bx:List Box} {rs:List Rw} {L:List (List Nat→World→Prop)} {W:World}
theorem ph_tok (h:PH (pkP w g) st M bx rs L W):TokOk st.1:=by
 obtain ⟨cs,hb,A,c,rfl,hc1,hc2,hsl,hok⟩:=h.pbox
 exact hok
theorem ph_pk (h:PH (pkP w g) st M bx rs L W):(Sx.ofT (Sx.pk st)).size≤8192:=by rw [ofT_size];exact Sx.pk_len st fun t ht=>((ph_tok h).2 t ht).2.1
theorem ph_step (h:PH (pkP w g) st M bx rs L W) (r:Bool):(Sx.ofT (Sx.step st r).1).size≤8192:=by rw [ofT_size];exact Sx.step_len st r fun t ht=>((ph_tok h).2 t ht).2.1
theorem ph_env (he:SEnv w) (h:PH (pkP w g) st M bx rs L W):SEnv W:=he.below h.bl he.sz
theorem need_any (wd:Sx.Txt) (h:PH (pkP w g) st M bx rs L W) :
  Calls Tryz.prog 32 #[.pointer (some ⟨g,0,none⟩),.string (Sx.ofT wd)] W fun e W'=>e=.returned (.tuple #[])∧PH (pkP w g) (Sx.step st (Sx.pk st == wd)).2 M bx rs L W':=by
 have T:=aI h
 have q:=ofT_eqB (Sx.pk st) wd
 clear h
 obtain ⟨r,hr⟩:∃ r,(Sx.pk st == wd)=r:=⟨_,rfl⟩
 rw [hr] at q ⊢
 clear hr
 go_enter Tryz.func32,Tryz.ntmps32
 go_wp2_with (first | (go_at_call 75;((with_reducible refine (peek_any T.out).mono ?_));rintro e w1 ⟨rfl,rfl⟩) | (go_at_call 74;((with_reducible refine (next_any _ T.out).mono ?_));rintro e w1 ⟨rfl,h1⟩;replace T:=aI h1;clear h1))
 go_end0
 exact ⟨rfl,T.out⟩
theorem name_any (h:PH (pkP w g) st M bx rs L W) :
  Calls Tryz.prog 79 #[.pointer (some ⟨g,0,none⟩)] W fun e W'=>e=.returned (.string (Sx.ofT (Sx.step st (Sx.nameB (Sx.pk st))).1))∧PH (pkP w g) (Sx.step st (Sx.nameB (Sx.pk st))).2 M bx rs L W':=by
 have T:=aI h
 have CN:=aI (fun w'=>isName_any (Sx.ofT (Sx.pk st)) w' (by have:=ph_pk h;omega))
 simp only [nm_ofT] at CN
 clear h
 obtain ⟨r,hr⟩:∃ r,Sx.nameB (Sx.pk st)=r:=⟨_,rfl⟩
 rw [hr] at CN ⊢
 clear hr
 go_enter Tryz.func79,Tryz.ntmps79
 go_wp2_with (first | (go_at_call 75;((with_reducible refine (peek_any T.out).mono ?_));rintro e w1 ⟨rfl,rfl⟩) | (go_at_call 110;((with_reducible refine (CN.out _).mono ?_));rintro e w1 ⟨rfl,h1⟩;replace T:=aI (T.out.below h1);clear h1) | (go_at_call 74;((with_reducible refine (next_any _ T.out).mono ?_));rintro e w1 ⟨rfl,h1⟩;replace T:=aI h1;clear h1))
 go_ret
 exact ⟨rfl,T.out⟩
theorem names_any (h:PH (pkP w g) st M bx rs L W) :
  Calls Tryz.prog 87 #[.pointer (some ⟨g,0,none⟩)] W fun e W'=>e=.returned (.string (Sx.ofT (Sx.namesR st).1))∧PH (pkP w g) (Sx.namesR st).2 M bx rs L W':=by
 have T:=aI h
 have q:((Sx.ofT (Sx.pk st)).toList == [45])=(Sx.pk st == [45]):=by rw [ByteArray.toList_eq,ofT_list]
 have CN:=aI (need_any [45] h)
 rw [show Sx.ofT [45]=⟨#[45]⟩ from rfl] at CN
 have CM:=aI (name_any h)
 clear h
 unfold Sx.namesR
 obtain ⟨r,hr⟩:∃ r,(Sx.pk st == [45])=r:=⟨_,rfl⟩
 rw [hr] at q CN ⊢
 cases r
 ·rw [if_neg (by simp)]
  clear hr
  go_enter Tryz.func87,Tryz.ntmps87
  go_wp2_with (first | (go_at_call 75;((with_reducible refine (peek_any T.out).mono ?_));rintro e w1 ⟨rfl,rfl⟩) | (go_at_call 79;((with_reducible refine (CM.out).mono ?_));rintro e w1 ⟨rfl,h1⟩;replace T:=aI h1;clear h1))
  go_ret
  exact ⟨rfl,T.out⟩
 ·rw [if_pos rfl]
  clear hr
  go_enter Tryz.func87,Tryz.ntmps87
  go_wp2_with (first | (go_at_call 75;((with_reducible refine (peek_any T.out).mono ?_));rintro e w1 ⟨rfl,rfl⟩) | (go_at_call 32;((with_reducible refine (CN.out).mono ?_));rintro e w1 ⟨rfl,h1⟩;replace T:=aI h1;clear h1))
  go_ret
  exact ⟨rfl,T.out⟩
theorem num_any (he:SEnv w) (h:PH (pkP w g) st M bx rs L W) :
  Calls Tryz.prog 33 #[.pointer (some ⟨g,0,none⟩)] W fun e W'=>∃ n:Int,e=.returned (.int .i64 n)∧inI n∧Sx.Nx Sx.number st n (Sx.step st (Sx.numB (Sx.pk st))).2∧PH (pkP w g) (Sx.step st (Sx.numB (Sx.pk st))).2 M bx rs L W':=by
 have T:=aI h
 have CN:=aI (fun w'=>isNumber_any (Sx.ofT (Sx.pk st)) w' (by have:=ph_pk h;omega))
 simp only [ofT_list] at CN
 have hsz:=ph_step h (Sx.numB (Sx.pk st))
 have HE:=aI (fun (st:Sx.St) (W:World) (h:PH (pkP w g) st M bx rs L W)=>ph_env he h)
 have HX:=aI (fun (n:Int)=>Sx.nx_number st (n:=n))
 obtain ⟨r,hr⟩:∃ r,Sx.numB (Sx.pk st)=r:=⟨_,rfl⟩
 rw [hr] at CN hsz HX ⊢
 have CA:=aI (fun w'=>atoi_any (Sx.ofT (Sx.step st r).1) w' (by omega))
 simp only [ofT_list] at CA
 clear h hr hsz he
 go_enter Tryz.func33,Tryz.ntmps33
 go_wp2_with (first | (go_at_call 75;((with_reducible refine (peek_any T.out).mono ?_));rintro e w1 ⟨rfl,rfl⟩) | (go_at_call 77;((with_reducible refine (CN.out _).mono ?_));rintro e w1 ⟨rfl,h1⟩;replace T:=aI (T.out.below h1);clear h1) | (go_at_call 74;((with_reducible refine (next_any _ T.out).mono ?_));rintro e w1 ⟨rfl,h1⟩;replace T:=aI h1;clear h1) | (go_at_call 76;((with_reducible refine (CA.out _ (HE.out _ _ T.out)).mono ?_));rintro e w1 ⟨n,ev,rfl,hn,hv,_,h1⟩;replace T:=aI (T.out.below h1);have HV:=aI hv;have HN:=aI hn;clear h1 hv hn))
 go_ret
 exact ⟨_,rfl,HN.out,HX.out _ HV.out,T.out⟩
theorem cnt_any (he:SEnv w) (h:PH (pkP w g) st M bx rs L W) :
  Calls Tryz.prog 84 #[.pointer (some ⟨g,0,none⟩)] W fun e W'=>∃ (n:Int) (st':Sx.St),e=.returned (.int .i64 n)∧inI n∧Sx.Nx (fun l=>(Sx.count l).bind fun n l=>.ok (n:Int) l) st n st'∧(st'.2=false→1≤n∧n≤12)∧PH (pkP w g) st' M bx rs L W':=by
 have T:=aI h
 have CN:=aI (fun w'=>isNumber_any (Sx.ofT (Sx.pk st)) w' (by have:=ph_pk h;omega))
 have CA:=aI (fun w'=>atoi_any (Sx.ofT (Sx.pk st)) w' (by have:=ph_pk h;omega))
 simp only [ofT_list] at CN CA
 have HE:=aI (fun (st:Sx.St) (W:World) (h:PH (pkP w g) st M bx rs L W)=>ph_env he h)
 have HX:=aI (fun (n:Int)=>Sx.nx_count st (n:=n))
 have CW:=aI within_any
 obtain ⟨r,hr⟩:∃ r,Sx.numB (Sx.pk st)=r:=⟨_,rfl⟩
 rw [hr] at CN HX
 have HR:=aI hr
 clear h hr he
 have HS:=aI (fun r=>Sx.step_one st r)
 go_enter Tryz.func84,Tryz.ntmps84
 cases r
 ·go_wp2_with (first | (go_at_call 75;((with_reducible refine (peek_any T.out).mono ?_));rintro e w1 ⟨rfl,rfl⟩) | (go_at_call 77;((with_reducible refine (CN.out _).mono ?_));rintro e w1 ⟨rfl,h1⟩;replace T:=aI (T.out.below h1);clear h1) | (go_at_call 52;((with_reducible refine (CW.out _ _ _ _).mono ?_));rintro e w1 ⟨rfl,rfl⟩) | (go_at_call 74;((with_reducible refine (next_any _ T.out).mono ?_));rintro e w1 ⟨rfl,h1⟩;replace T:=aI h1;clear h1) | (go_at_call 76;((with_reducible refine (CA.out _ (HE.out _ _ T.out)).mono ?_));rintro e w1 ⟨n,ev,rfl,hn,hv,_,h1⟩;replace T:=aI (T.out.below h1);have HV:=aI hv;have HN:=aI hn;clear h1 hv hn))
  go_ret
  refine ⟨_,_,rfl,HN.out,HX.out _ (fun hb=>by cases hb),fun hf=>?_,T.out⟩
  rcases HS.out false with ⟨_,h,_⟩ | ⟨_,h⟩
  ·cases h
  ·rw [Bool.false_and] at hf;rw [hf] at h;cases h
 ·go_wp2_with (first | (go_at_call 75;((with_reducible refine (peek_any T.out).mono ?_));rintro e w1 ⟨rfl,rfl⟩) | (go_at_call 77;((with_reducible refine (CN.out _).mono ?_));rintro e w1 ⟨rfl,h1⟩;replace T:=aI (T.out.below h1);clear h1) | (go_at_call 52;((with_reducible refine (CW.out _ _ _ _).mono ?_));rintro e w1 ⟨rfl,rfl⟩) | (go_at_call 74;((with_reducible refine (next_any _ T.out).mono ?_));rintro e w1 ⟨rfl,h1⟩;replace T:=aI h1;clear h1) | (go_at_call 76;((with_reducible refine (CA.out _ (HE.out _ _ T.out)).mono ?_));rintro e w1 ⟨n,ev,rfl,hn,hv,_,h1⟩;replace T:=aI (T.out.below h1);have HV:=aI hv;have HN:=aI hn;clear h1 hv hn))
  go_ret
  refine ⟨_,_,rfl,HN.out,HX.out _ (fun _=>HV.out _ (Sx.atoi_numB HR.out)),fun hf=>?_,T.out⟩
  rw [Bool.true_and] at hf
  rcases HS.out (Sx.within _ 1 12) with ⟨_,h,_⟩ | ⟨_,h⟩
  ·exact within_bd h
  ·rw [hf] at h;cases h
end
section
variable {G:List Nat} {w:World}
theorem rep_lif {x:Lif} {us:List Value} (h:Mem.rep G w x us):∃ A c B d,us=[.string x.1,.slice A x.2.1.length c,.slice B x.2.2.length d]∧SlAt G w A x.2.1∧SlAt G w B x.2.2∧x.1.size≤9223372036854775807∧x.2.1.length≤c∧c≤9223372036854775807∧x.2.2.length≤d∧d≤9223372036854775807:=by
 obtain ⟨u1,t1,rfl,⟨rfl,a1⟩,u2,t2,rfl,⟨A,c,rfl,b1,b2,b3⟩,⟨B,d,rfl,c1,c2,c3⟩⟩:=h
 exact ⟨A,c,B,d,rfl,b3,c3,a1,b1,b2,c1,c2⟩
theorem rep_rul {x:Rul} {us:List Value} (h:Mem.rep G w x us):us=[.string x.1,.string x.2.1,.string x.2.2.1,.string x.2.2.2.1,.int .i64 x.2.2.2.2]∧x.1.size≤9223372036854775807∧x.2.1.size≤9223372036854775807∧x.2.2.1.size≤9223372036854775807∧x.2.2.2.1.size≤9223372036854775807∧inI x.2.2.2.2:=by
 obtain ⟨u1,t1,rfl,⟨rfl,a1⟩,u2,t2,rfl,⟨rfl,a2⟩,u3,t3,rfl,⟨rfl,a3⟩,u4,t4,rfl,⟨rfl,a4⟩,⟨rfl,a5⟩⟩:=h
 exact ⟨rfl,a1,a2,a3,a4,a5⟩
theorem rep_mv {x:Int × Int} {us:List Value} (h:Mem.rep G w x us):us=[.int .i64 x.1,.int .i64 x.2]∧inI x.1∧inI x.2:=by
 obtain ⟨u1,t1,rfl,⟨rfl,a1⟩,⟨rfl,a2⟩⟩:=h
 exact ⟨rfl,a1,a2⟩
end
section
variable {w:World} {g:Nat} {st:Sx.St} {M:List Nat} {bx:List Box} {rs:List Rw} {L:List (List Nat→World→Prop)} {W:World}
theorem needMove_any (h:PH (pkP w g) st M bx rs L W) :
  Calls Tryz.prog 32 #[.pointer (some ⟨g,0,none⟩),.string ⟨#[109,111,118,101]⟩] W fun e W'=>∃ st',e=.returned (.tuple #[])∧Sx.Nx (Sx.need Sx.sMove) st () st'∧PH (pkP w g) st' M bx rs L W' :=
 (need_any Sx.sMove h).mono fun _ _ ⟨h1,h2⟩=>⟨_,h1,Sx.nx_need _ _,h2⟩
theorem num_any' (he:SEnv w) (h:PH (pkP w g) st M bx rs L W) :
  Calls Tryz.prog 33 #[.pointer (some ⟨g,0,none⟩)] W fun e W'=>∃ (n:Int) (st':Sx.St),e=.returned (.int .i64 n)∧inI n∧Sx.Nx Sx.number st n st'∧PH (pkP w g) st' M bx rs L W' :=
 (num_any he h).mono fun _ _ ⟨n,h1,h2,h3,h4⟩=>⟨n,_,h1,h2,h3,h4⟩
set_option maxRecDepth 100000 in
set_option maxHeartbeats 4000000 in
theorem move_any (he:SEnv w) (h:PH (pkP w g) st M bx rs L W):Calls Tryz.prog 86 #[.pointer (some ⟨g,0,none⟩)] W (RdA (pkP w g) Sx.move st bx rs L):=by
 obtain ⟨N,hN⟩:∃ n,W.heap.size=n:=⟨_,rfl⟩
 have T:=aI (h.new #[.int .i64 0,.int .i64 0] 56 hN)
 have HE:=aI he
 clear h he
 go_enter Tryz.func86,Tryz.ntmps86
 go_upto_region 3 with (first | (go_at_call 32;((with_reducible refine (needMove_any T.out).mono ?_));rintro e w1 ⟨st1,rfl,x1,h1⟩;replace T:=aI h1;have X1:=aI x1;clear h1 x1) | (go_at_call 33;((with_reducible refine (num_any' HE.out T.out).mono ?_));rintro e w1 ⟨n,st2,rfl,i2,x2,h2⟩;replace T:=aI h2;have X2:=aI x2;have I2:=aI i2;clear h2 x2 i2))
 go_wp2_with (go_at_call 33;((with_reducible refine (num_any' HE.out T.out).mono ?_));rintro e w1 ⟨n3,st3,rfl,i3,x3,h3⟩;replace T:=aI h3;have X3:=aI x3;have I3:=aI i3;clear h3 x3 i3;have z0:=(T.out.box (.head _)).cell 0;have z1:=(T.out.box (.head _)).cell 1;have f0:=(T.out.box (.head _)).frozen 0;have f1:=(T.out.box (.head _)).frozen 1;simp at z0 z1 f0 f1)
 have T2:=aI ((T.out.set0 0 (.int .i64 n)).set0 1 (.int .i64 n3))
 have y0:=(T2.out.box (.head _)).cell 0
 have y1:=(T2.out.box (.head _)).cell 1
 simp at y0 y1
 refine bodyPost_ret (v:=.agg #[.int .i64 n,.int .i64 n3]) ?_ rfl ?_
 ·simp [results,Tryz.results86,go_sem,y0,y1]
 ·exact ⟨(n,n3),[.int .i64 n,.int .i64 n3],st3,_,rfl,Sx.nx_bind X1.out (Sx.nx_bind X2.out (Sx.nx_bind X3.out (Sx.nx_ret _ _))),T2.out.unbox.add (keeps_rep _ _) ⟨[_],_,rfl,⟨rfl,I2.out⟩,⟨rfl,I3.out⟩⟩⟩
end
def IsB (N:Nat) (wd:Sx.Txt):List Nat→World→Prop:=fun M W=>N∉M∧Blk W N 9 #[.string (Sx.ofT wd)]
theorem isb_cell {N:Nat} {wd:Sx.Txt} {M:List Nat} {W:World} (h:IsB N wd M W):W.cell? ⟨N,0,none⟩=some (.string (Sx.ofT wd)):=h.2.cell 0
theorem is1_any (t wd:Sx.Txt) (N:Nat) (W:World) (h:W.cell? ⟨N,0,none⟩=some (.string (Sx.ofT wd))):Calls Tryz.prog 78 #[.string (Sx.ofT t),.pointer (some ⟨N,0,none⟩)] W fun e W'=>e=.returned (.bool (t == wd))∧W=W':=by
 have q:=ofT_eqB t wd
 obtain ⟨r,hr⟩:∃ r,(t == wd)=r:=⟨_,rfl⟩
 rw [hr] at q ⊢
 clear hr
 go_enter Tryz.func78,Tryz.ntmps78
 go_wp2_with fail
 go_ret
 exact ⟨rfl,rfl⟩
section
variable {w:World} {g:Nat} {st:Sx.St} {M:List Nat} {bx:List Box} {rs:List Rw} {L:List (List Nat→World→Prop)} {W:World}
theorem is_any (wd:Sx.Txt) (h:PH (pkP w g) st M bx rs L W):Calls Tryz.prog 35 #[.string (Sx.ofT wd)] W fun e W'=>∃ N,e=.returned (.func (.func 78) #[] #[.pointer (some ⟨N,0,none⟩)])∧PH (pkP w g) st M bx rs (IsB N wd::L) W':=by
 have T:=aI (h.made #[.string (Sx.ofT wd)] 9 rfl)
 clear h
 go_enter Tryz.func35,Tryz.ntmps35
 go_wp2_with fail
 go_ret
 exact ⟨_,rfl,T.out⟩
set_option maxRecDepth 100000 in
set_option maxHeartbeats 8000000 in
theorem someM_any (he:SEnv w) {N:Nat} {wd:Sx.Txt} (hwd:wd≠[]) (hN:IsB N wd∈L) (h:PH (pkP w g) st M bx rs L W) :
  Calls Tryz.prog 85 #[.pointer (some ⟨g,0,none⟩),.func (.func 78) #[] #[.pointer (some ⟨N,0,none⟩)],.func (.func 86) #[.pointer (some ⟨g,0,none⟩)] #[]] W (RdL (pkP w g) (fun l=>Sx.many (fun t=>t == wd) Sx.move l.length [] l) st bx rs L):=by
 have T:=aI ((h.push 56 2).add (keeps_flat ([]:List (Int × Int)) []) rfl)
 have HE:=aI he
 have HTK:=aI (ph_tok h).1
 have HN:=aI hN
 clear hN
 clear h he
 obtain ⟨sx,hsx⟩:∃ s,Sx.left st=s:=⟨_,rfl⟩
 have HSX:=aI hsx
 go_enter Tryz.func85,Tryz.ntmps85
 go_wp2_with fail
 go_loopg [7] sx (fun r v7 wr=>∃ (st1:Sx.St) (acc:List (Int × Int)) (xs:List Value) (M1:List Nat),PH (pkP w g) st1 M1 bx (⟨56,2,v7,acc.length,xs⟩::rs) ((fun M W=>Flat M W acc xs)::L) wr∧Sx.left st1=r∧acc.length+r≤sx∧(∀ x st',Sx.Nx (Sx.many (fun t=>t == wd) Sx.move st1.1.length acc) st1 x st'→Sx.Nx (fun l=>Sx.many (fun t=>t == wd) Sx.move l.length [] l) st x st'))
 case atStart=>exact ⟨st,[],[],_,T.out,HSX.out,by simp,fun x st' hx=>hx⟩
 case round =>
  obtain ⟨st1,acc,xs,M1,hH,hlf,hal,hnx⟩:=hrel
  obtain ⟨wo,rfl⟩:∃ wo:World,wo=wr:=⟨_,rfl⟩
  replace T:=aI hH
  have HX:=aI hnx
  have HL:=aI hlf
  clear hH hnx hlf
  obtain ⟨l,f⟩:=st1
  obtain ⟨A7,c7,rfl⟩:=T.out.form
  obtain ⟨cs9,hb9,A9,c9,rfl,_⟩:=T.out.pbox
  have z1:=hb9.cell 1
  simp at z1
  clear hb9
  have cN:=isb_cell (T.out.fact (.tail _ HN.out))
  have HA8:=aI (show acc.length≤8193 by have h1:=HTK.out;have h2:=HSX.out;unfold Sx.left at h2;split at h2 <;> omega)
  cases f
  ·obtain ⟨bb,hbb⟩:∃ b,(fun t=>t == wd) (Sx.pk (l,false))=b:=⟨_,rfl⟩
   cases bb
   ·have HST:=aI (Sx.nx_many_stop (begins:=(fun t=>t == wd)) (read:=Sx.move) (st:=(l,false)) (f:=l.length) (acc:=acc) (fun _ t r hl=>by obtain rfl:l=t::r:=hl;exact hbb))
    have hb8:(Sx.pk (l,false) == wd)=false:=hbb
    clear hbb
    go_wp2_with (first | (go_at_call 75;((with_reducible refine (peek_any T.out).mono ?_));rintro e w1 ⟨rfl,rfl⟩) | (go_at_call 78;((with_reducible refine (is1_any _ wd N _ cN).mono ?_));rintro e w1 ⟨rfl,rfl⟩))
    go_ret
    obtain ⟨A,c,M',hv,hc1,hc2,h4,_⟩:=T.out.freeze (α:=_) rfl rfl (T.out.fact (.head _))
    injection hv with hv1 hv2 hv3
    subst hv1 hv3
    exact ⟨acc,_,_,_,M',rfl,hc1,hc2,HA8.out,HX.out _ _ HST.out,h4.less fun P hP=>by
     rcases aL hP with rfl | hP
     ·exact .head _
     ·exact .tail _ (.tail _ hP)⟩
   ·obtain ⟨t,r,rfl⟩:∃ t r,l=t::r:=by
     cases l with
     | nil=>exact absurd (hbb.symm.trans (show (([]:Sx.Txt) == wd)=false by cases wd with | nil=>exact absurd rfl hwd | cons _ _=>rfl)) (by simp)
     | cons t r=>exact ⟨t,r,rfl⟩
    have HBB:=aI (show (fun t=>t == wd) t.1=true from hbb)
    have hb8:(Sx.pk (t::r,false) == wd)=true:=hbb
    clear hbb
    go_wp2_with (first | (go_at_call 75;((with_reducible refine (peek_any T.out).mono ?_));rintro e w1 ⟨rfl,rfl⟩) | (go_at_call 78;((with_reducible refine (is1_any _ wd N _ cN).mono ?_));rintro e w1 ⟨rfl,rfl⟩) | (go_at_call 86;((with_reducible refine (move_any HE.out T.out).mono ?_));rintro e w3 ⟨a,us,st3,M3,rfl,x3,h3⟩;obtain ⟨rfl,hi1,hi2⟩:=rep_mv (h3.fact (.head _));replace T:=aI h3;have X3:=aI x3;clear h3 x3) | (at_builtin;obtain ⟨i0,hI,hz0,hz1,hz2⟩:=info_parts infoMv;refine wpList_append_ph (by rfl) _ _ 53 (by rfl) 56 i0 _ 2 16 Tryz.underlying53 hI hz0 hz1 hz2 rfl (by decide) (T.out.below ((Below.refl _ _).alloc (Nat.le_refl _) _)) (by rfl) _ _ 1 1 [.int .i64 a.1,.int .i64 a.2] (by rfl) (reads_blk (Blk.new _ _ _) rfl) (by simp [Value.oneCell']) (by have:=HA8.out;unfold maxLen;omega) (by have:=HA8.out;omega) ?_;intro v7 w7 M7 h7 _;replace T:=aI h7;clear h7 hI hz0 hz1 hz2))
    have hlt:=Sx.left_eats Sx.eats_move X3.out
    have HFL:=aI ((T.out.fswap.flat (Flat.single (T.out.fact (.head _)))).less (L':=_::_) fun P hP=>by
     rcases aL hP with rfl | hP
     ·exact .head _
     ·exact .tail _ (.tail _ hP))
    rw [HL.out] at hlt
    go_roundg (Sx.left st3)
    case measure=>exact hlt
    case rel=>exact ⟨st3,acc++[a],_,_,by rw [aK];exact HFL.out,rfl,by rw [aK,List.length_singleton];omega,fun x st' hx=>HX.out _ _ (Sx.nx_many_step Sx.eats_move HBB.out X3.out hx)⟩
  ·have HST:=aI (Sx.nx_many_stop (begins:=(fun t=>t == wd)) (read:=Sx.move) (st:=(l,true)) (f:=l.length) (acc:=acc) (fun h=>by cases h))
   go_wp2_with fail
   go_ret
   obtain ⟨A,c,M',hv,hc1,hc2,h4,_⟩:=T.out.freeze (α:=_) rfl rfl (T.out.fact (.head _))
   injection hv with hv1 hv2 hv3
   subst hv1 hv3
   exact ⟨acc,_,_,_,M',rfl,hc1,hc2,HA8.out,HX.out _ _ HST.out,h4.less fun P hP=>by
    rcases aL hP with rfl | hP
    ·exact .head _
    ·exact .tail _ (.tail _ hP)⟩
end
section
variable {w:World} {g:Nat} {st:Sx.St} {M:List Nat} {bx:List Box} {rs:List Rw} {L:List (List Nat→World→Prop)} {W:World}
theorem needW_any (wd:Sx.Txt) (b:Array UInt8) (hb:Sx.ofT wd=⟨b⟩) (h:PH (pkP w g) st M bx rs L W) :
  Calls Tryz.prog 32 #[.pointer (some ⟨g,0,none⟩),.string ⟨b⟩] W fun e W'=>∃ st',e=.returned (.tuple #[])∧Sx.Nx (Sx.need wd) st () st'∧PH (pkP w g) st' M bx rs L W' :=
 hb ▸ (need_any wd h).mono fun _ _ ⟨h1,h2⟩=>⟨_,h1,Sx.nx_need _ _,h2⟩
theorem nameR_any (h:PH (pkP w g) st M bx rs L W) :
  Calls Tryz.prog 79 #[.pointer (some ⟨g,0,none⟩)] W fun e W'=>∃ (s:Sx.Txt) (st':Sx.St),e=.returned (.string (Sx.ofT s))∧(Sx.ofT s).size≤8192∧Sx.Nx Sx.name st s st'∧PH (pkP w g) st' M bx rs L W':=by
 have hs:=ph_step h (Sx.nameB (Sx.pk st))
 exact (name_any h).mono fun _ _ ⟨h1,h2⟩=>⟨_,_,h1,hs,Sx.nx_name st,h2⟩
theorem namesR_any (h:PH (pkP w g) st M bx rs L W) :
  Calls Tryz.prog 87 #[.pointer (some ⟨g,0,none⟩)] W fun e W'=>∃ (s:Sx.Txt) (st':Sx.St),e=.returned (.string (Sx.ofT s))∧(Sx.ofT s).size≤8192∧Sx.Nx Sx.names st s st'∧PH (pkP w g) st' M bx rs L W':=by
 have hs:(Sx.ofT (Sx.namesR st).1).size≤8192:=by
  unfold Sx.namesR
  split
  ·exact Nat.zero_le _
  ·exact ph_step h _
 exact (names_any h).mono fun _ _ ⟨h1,h2⟩=>⟨_,_,h1,hs,Sx.nx_names st,h2⟩
theorem needRule_any (h:PH (pkP w g) st M bx rs L W) :
  Calls Tryz.prog 32 #[.pointer (some ⟨g,0,none⟩),.string ⟨#[114,117,108,101]⟩] W fun e W'=>∃ st',e=.returned (.tuple #[])∧Sx.Nx (Sx.need Sx.sRule) st () st'∧PH (pkP w g) st' M bx rs L W':=needW_any Sx.sRule _ rfl h
theorem needLife_any (h:PH (pkP w g) st M bx rs L W) :
  Calls Tryz.prog 32 #[.pointer (some ⟨g,0,none⟩),.string ⟨#[108,105,102,101]⟩] W fun e W'=>∃ st',e=.returned (.tuple #[])∧Sx.Nx (Sx.need Sx.sLife) st () st'∧PH (pkP w g) st' M bx rs L W':=needW_any Sx.sLife _ rfl h
theorem needKind_any (h:PH (pkP w g) st M bx rs L W) :
  Calls Tryz.prog 32 #[.pointer (some ⟨g,0,none⟩),.string ⟨#[107,105,110,100]⟩] W fun e W'=>∃ st',e=.returned (.tuple #[])∧Sx.Nx (Sx.need Sx.sKind) st () st'∧PH (pkP w g) st' M bx rs L W':=needW_any Sx.sKind _ rfl h
theorem needSchema_any (h:PH (pkP w g) st M bx rs L W) :
  Calls Tryz.prog 32 #[.pointer (some ⟨g,0,none⟩),.string ⟨#[115,99,104,101,109,97]⟩] W fun e W'=>∃ st',e=.returned (.tuple #[])∧Sx.Nx (Sx.need Sx.sSchema) st () st'∧PH (pkP w g) st' M bx rs L W':=needW_any Sx.sSchema _ rfl h
set_option maxRecDepth 100000 in
set_option maxHeartbeats 8000000 in
theorem rule_any (he:SEnv w) (h:PH (pkP w g) st M bx rs L W):Calls Tryz.prog 40 #[.pointer (some ⟨g,0,none⟩)] W (RdA (pkP w g) Sx.rule st bx rs L):=by
 obtain ⟨N,hN⟩:∃ n,W.heap.size=n:=⟨_,rfl⟩
 have T:=aI (h.new #[.string ⟨#[]⟩,.string ⟨#[]⟩,.string ⟨#[]⟩,.string ⟨#[]⟩,.int .i64 0] 58 hN)
 have HE:=aI he
 clear h he
 go_enter Tryz.func40,Tryz.ntmps40
 go_upto_region 3 with (first | (go_at_call 32;((with_reducible refine (needRule_any T.out).mono ?_));rintro e w1 ⟨st1,rfl,x1,h1⟩;replace T:=aI h1;have X1:=aI x1;clear h1 x1) | (go_at_call 79;((with_reducible refine (nameR_any T.out).mono ?_));rintro e w1 ⟨n,st2,rfl,i2,x2,h2⟩;replace T:=aI h2;have X2:=aI x2;have I2:=aI i2;clear h2 x2 i2))
 obtain ⟨N1,hN1⟩:∃ n,w1.heap.size=n:=⟨_,rfl⟩
 replace T:=aI (T.out.new #[.string (Sx.ofT n),.string ⟨#[]⟩,.string ⟨#[]⟩,.string ⟨#[]⟩,.int .i64 0] 58 hN1)
 rw [hN1]
 go_upto_region 7 with (first | (go_at_call 79;(first | (with_reducible refine (nameR_any T.out).mono ?_) | (with_reducible refine (nameR_any (T.out.set0 _ _)).mono ?_));rintro e w1 ⟨n3,st3,rfl,i3,x3,h3⟩;replace T:=aI h3;have X3:=aI x3;have I3:=aI i3;clear h3 x3 i3;have B:=T.out.box (.head _);have z0:=B.cell 0;have z1:=B.cell 1;have z2:=B.cell 2;have z3:=B.cell 3;have z4:=B.cell 4;have f0:=B.frozen 0;have f1:=B.frozen 1;have f2:=B.frozen 2;have f3:=B.frozen 3;have f4:=B.frozen 4;simp at z0 z1 z2 z3 z4;clear B) | (go_at_call 87;((with_reducible refine (namesR_any (T.out.set0 1 _)).mono ?_));rintro e w1 ⟨n4,st4,rfl,i4,x4,h4⟩;replace T:=aI h4;have X4:=aI x4;have I4:=aI i4;clear h4 x4 i4;clear z0 z1 z2 z3 z4 f0 f1 f2 f3 f4;have B:=T.out.box (.head _);have z0:=B.cell 0;have z1:=B.cell 1;have z2:=B.cell 2;have z3:=B.cell 3;have z4:=B.cell 4;have f0:=B.frozen 0;have f1:=B.frozen 1;have f2:=B.frozen 2;have f3:=B.frozen 3;have f4:=B.frozen 4;simp at z0 z1 z2 z3 z4;clear B) | (go_at_call 87;((with_reducible refine (namesR_any (T.out.set0 2 _)).mono ?_));rintro e w1 ⟨n5,st5,rfl,i5,x5,h5⟩;replace T:=aI h5;have X5:=aI x5;have I5:=aI i5;clear h5 x5 i5;clear z0 z1 z2 z3 z4 f0 f1 f2 f3 f4;have B:=T.out.box (.head _);have z0:=B.cell 0;have z1:=B.cell 1;have z2:=B.cell 2;have z3:=B.cell 3;have z4:=B.cell 4;have f0:=B.frozen 0;have f1:=B.frozen 1;have f2:=B.frozen 2;have f3:=B.frozen 3;have f4:=B.frozen 4;simp at z0 z1 z2 z3 z4;clear B) | (go_at_call 33;((with_reducible refine (num_any' HE.out (T.out.set0 3 _)).mono ?_));rintro e w1 ⟨n6,st6,rfl,i6,x6,h6⟩;replace T:=aI h6;have X6:=aI x6;have I6:=aI i6;clear h6 x6 i6;clear z0 z1 z2 z3 z4 f0 f1 f2 f3 f4;have B:=T.out.box (.head _);have z0:=B.cell 0;have z1:=B.cell 1;have z2:=B.cell 2;have z3:=B.cell 3;have z4:=B.cell 4;have f0:=B.frozen 0;have f1:=B.frozen 1;have f2:=B.frozen 2;have f3:=B.frozen 3;have f4:=B.frozen 4;simp at z0 z1 z2 z3 z4;clear B))
 have T7:=aI (show PH (pkP w g) st6 (N1::N::M) ((N1,58,#[.string (Sx.ofT n),.string (Sx.ofT n3),.string (Sx.ofT n4),.string (Sx.ofT n5),.int .i64 n6])::(N,58,#[.string ⟨#[]⟩,.string ⟨#[]⟩,.string ⟨#[]⟩,.string ⟨#[]⟩,.int .i64 0])::bx) rs L _ from T.out.set0 4 (.int .i64 n6))
 clear T z0 z1 z2 z3 z4 f0 f1 f2 f3 f4
 generalize w1.setCell ⟨N1,4,none⟩ (.int .i64 n6)=W8 at *
 have B:=T7.out.box (.head _);have z0:=B.cell 0;have z1:=B.cell 1;have z2:=B.cell 2;have z3:=B.cell 3;have z4:=B.cell 4
 have C:=T7.out.box (.tail _ (.head _));have y0:=C.cell 0;have y1:=C.cell 1;have y2:=C.cell 2;have y3:=C.cell 3;have y4:=C.cell 4;have f0:=C.frozen 0;have f1:=C.frozen 1;have f2:=C.frozen 2;have f3:=C.frozen 3;have f4:=C.frozen 4
 simp at z0 z1 z2 z3 z4 y0 y1 y2 y3 y4
 clear B C
 have T8:=aI (show PH (pkP w g) st6 (N1::N::M) ((N,58,#[.string (Sx.ofT n),.string (Sx.ofT n3),.string (Sx.ofT n4),.string (Sx.ofT n5),.int .i64 n6])::(N1,58,#[.string (Sx.ofT n),.string (Sx.ofT n3),.string (Sx.ofT n4),.string (Sx.ofT n5),.int .i64 n6])::bx) rs L _ from ((((T7.out.bswap.set0 0 (.string (Sx.ofT n))).set0 1 (.string (Sx.ofT n3))).set0 2 (.string (Sx.ofT n4))).set0 3 (.string (Sx.ofT n5))).set0 4 (.int .i64 n6))
 go_wp2_with fail
 clear y0 y1 y2 y3 y4
 have C:=T8.out.box (.head _);have y0:=C.cell 0;have y1:=C.cell 1;have y2:=C.cell 2;have y3:=C.cell 3;have y4:=C.cell 4
 simp at y0 y1 y2 y3 y4
 refine bodyPost_ret (v:=.agg #[.string (Sx.ofT n),.string (Sx.ofT n3),.string (Sx.ofT n4),.string (Sx.ofT n5),.int .i64 n6]) ?_ rfl ?_
 ·simp [results,Tryz.results40,go_sem,y0,y1,y2,y3,y4]
 ·exact ⟨(Sx.ofT n,Sx.ofT n3,Sx.ofT n4,Sx.ofT n5,n6),_,st6,_,rfl,Sx.nx_bind X1.out (Sx.nx_bind X2.out (Sx.nx_bind X3.out (Sx.nx_bind X4.out (Sx.nx_bind X5.out (Sx.nx_bind X6.out (Sx.nx_ret _ _)))))),T8.out.unbox.unbox.add (keeps_rep _ _) ⟨[_],_,rfl,⟨rfl,Nat.le_trans I2.out (by decide)⟩,[_],_,rfl,⟨rfl,Nat.le_trans I3.out (by decide)⟩,[_],_,rfl,⟨rfl,Nat.le_trans I4.out (by decide)⟩,[_],_,rfl,⟨rfl,Nat.le_trans I5.out (by decide)⟩,⟨rfl,I6.out⟩⟩⟩
end
namespace Sx
theorem nx_count' {st st':St} {n:Int} (h:Nx (fun l=>(count l).bind fun n l=>.ok (n:Int) l) st n st'):Nx count st n.toNat st':=by
 obtain ⟨l,f⟩:=st
 cases f
 ·rw [nx_iff] at h ⊢
  cases hc:count l with
  | bad m=>rw [hc] at h;exact h
  | ok a m=>rw [hc] at h;obtain ⟨rfl,rfl⟩:=h;exact ⟨by simp,rfl⟩
 ·obtain rfl:=nx_of_failed h;exact nx_failed
end Sx
theorem infoStr:(Tryz.prog.info? 9).map (fun i=>(i.zero,i.size,i.bytes))=some (some (.string ⟨#[]⟩),1,16):=by kernel_rfl
section
variable {K:PK} {w:World} {g:Nat} {st:Sx.St} {M:List Nat} {bx:List Box} {rs:List Rw} {L:List (List Nat→World→Prop)} {W:World} {P:Program}
theorem step_append_ph {K:PK} {ops:Array Oper} {o:Oper} {a:Act} {K':Act→World→Prop} {Q:Exit→Act→World→Prop} {E:Prop} (hgd:o.guard=none) (s x:Operand) (t:TypeId)
  (ho:o.op=.call { callee:=.builtin .append,args:=#[s,x],argTypes:=#[t,t] })
  (e:TypeId) (i:TypeInfo) (z:Value) (size bytes:Nat) (ht:P.underlying t=some (.slice e)) (hi:P.info? e=some i) (hz:i.zero=some z)
  (hsize:i.size=size) (hby:i.bytes=bytes) (hzs:z.cells.size=size) (hsz:0 < size)
  {v:Value} {n:Nat} {xs:List Value} (H:PH K st M bx (⟨e,size,v,n,xs⟩::rs) L W) (hs:a.eval s=v)
  (B:Nat) (A:Option Addr) (m c:Nat) (news:List Value) (hx:a.eval x=.slice A m c) (hr:Reads W B size A m news) (h1:∀ u∈news,u.oneCell'=true)
  (h63:n+m≤maxLen) (hbytes:(n+m)*bytes≤140737488355328)
  (h:∀ v' W' M',PH K st M' bx (⟨e,size,v',n+m,xs++news⟩::rs) L W'→(∀ g∈M,g∈M')→K' (a.put o.dst v') W') :
  if Region.wanted o (yielded ops a.tmps)=true then Oper.wp P o a W K' Q else E:=by
 obtain ⟨cs,H'⟩:=H.it
 exact step_append_rows hgd s x t ho e i z size bytes ht hi hz hsize hby hzs hsz H' hs B A m c news hx hr h1 h63 hbytes fun v' W' M' h2 h3=>h v' W' M' ⟨cs,h2⟩ h3
theorem cntR_any (he:SEnv w) (h:PH (pkP w g) st M bx rs L W) :
  Calls Tryz.prog 84 #[.pointer (some ⟨g,0,none⟩)] W fun e W'=>∃ (n:Int) (st':Sx.St),e=.returned (.int .i64 n)∧inI n∧Sx.Nx Sx.count st n.toNat st'∧(st'.2=false→1≤n∧n≤12)∧PH (pkP w g) st' M bx rs L W' :=
 (cnt_any he h).mono fun _ _ ⟨n,st',h1,h2,h3,h4,h5⟩=>⟨n,st',h1,h2,Sx.nx_count' h3,h4,h5⟩
theorem isMove_any (h:PH (pkP w g) st M bx rs L W):Calls Tryz.prog 35 #[.string ⟨#[109,111,118,101]⟩] W fun e W'=>∃ N,e=.returned (.func (.func 78) #[] #[.pointer (some ⟨N,0,none⟩)])∧PH (pkP w g) st M bx rs (IsB N Sx.sMove::L) W':=is_any Sx.sMove h
theorem move_ne:Sx.sMove≠[]:=by decide
theorem isb_head (N:Nat) (wd:Sx.Txt) (L:List (List Nat→World→Prop)):IsB N wd∈IsB N wd::L:=.head _
set_option maxRecDepth 100000 in
set_option maxHeartbeats 8000000 in
theorem life_any (he:SEnv w) (h:PH (pkP w g) st M bx rs L W):Calls Tryz.prog 38 #[.pointer (some ⟨g,0,none⟩)] W (RdA (pkP w g) Sx.life st bx rs L):=by
 obtain ⟨N,hN⟩:∃ n,W.heap.size=n:=⟨_,rfl⟩
 have T:=aI (h.new #[.string ⟨#[]⟩,.slice none 0 0,.slice none 0 0] 55 hN)
 have HE:=aI he
 clear h he
 go_enter Tryz.func38,Tryz.ntmps38
 go_upto_region 3 with (first | (go_at_call 32;((with_reducible refine (needLife_any T.out).mono ?_));rintro e w1 ⟨st1,rfl,x1,h1⟩;replace T:=aI h1;have X1:=aI x1;clear h1 x1) | (go_at_call 79;((with_reducible refine (nameR_any T.out).mono ?_));rintro e w1 ⟨n,st2,rfl,i2,x2,h2⟩;replace T:=aI h2;have X2:=aI x2;have I2:=aI i2;clear h2 x2 i2))
 obtain ⟨N1,hN1⟩:∃ n,w1.heap.size=n:=⟨_,rfl⟩
 replace T:=aI (T.out.new #[.string (Sx.ofT n),.slice none 0 0,.slice none 0 0] 55 hN1)
 rw [hN1]
 go_wp2_with (go_at_call 84;((with_reducible refine (cntR_any HE.out T.out).mono ?_));rintro e w2 ⟨n0,stc,rfl,i3,x3,hc3,h3⟩;replace T:=aI ((h3.push 9 1).add (keeps_flat ([]:List ByteArray) []) rfl);have X3:=aI x3;have I3:=aI i3;have HC3:=aI hc3;clear h3 x3 i3 hc3)
 have HX0:=aI (show ∀ x st',Sx.Nx (Sx.states n0.toNat []) stc x st'→Sx.Nx (Sx.states n0.toNat []) stc x st' from fun _ _ h=>h)
 go_loopg [4] (if stc.2=true then 0 else n0.toNat) (fun r v4 wr=>∃ (i:Int) (st1:Sx.St) (acc:List ByteArray) (xs:List Value) (M1:List Nat) (u:Value),v4=.int .i64 i∧PH (pkP w g) st1 M1 ((N1,55,#[.string (Sx.ofT n),u,.slice none 0 0])::(N,55,#[.string ⟨#[]⟩,.slice none 0 0,.slice none 0 0])::bx) (⟨9,1,u,acc.length,xs⟩::rs) ((fun M W=>Flat M W acc xs)::L) wr∧inI i∧(if st1.2=true then 0 else i.toNat)=r∧(st1.2=false→i≤12)∧acc.length+r≤100∧(∀ x st',Sx.Nx (Sx.states i.toNat acc) st1 x st'→Sx.Nx (Sx.states n0.toNat []) stc x st'))
 case atStart=>exact ⟨n0,stc,[],[],_,_,rfl,T.out,I3.out,rfl,fun h=>(HC3.out h).2,by
  show 0+(if stc.2=true then 0 else n0.toNat)≤100
  split
  ·omega
  ·rename_i hf;have:=HC3.out (by simpa using hf);omega,HX0.out⟩
 case round =>
  obtain ⟨i,st1,acc,xs,M1,u,rfl,hH,hi,hlf,h12,hal,hnx⟩:=hrel
  obtain ⟨wo,rfl⟩:∃ wo:World,wo=wr:=⟨_,rfl⟩
  replace T:=aI hH
  have HX:=aI hnx
  have HI:=aI hi
  have H12:=aI h12
  have HLF:=aI hlf
  clear hH hnx hlf hi h12 HX0
  obtain ⟨l,f⟩:=st1
  obtain ⟨A7,c7,rfl⟩:=T.out.form
  obtain ⟨cs9,hb9,A9,c9,rfl,_⟩:=T.out.pbox
  have z9:=hb9.cell 1
  simp at z9
  clear hb9
  have HA8:=aI (show acc.length≤100 by omega)
  by_cases hgo:0 < i∧f=false
  ·obtain ⟨hi0,rfl⟩:=hgo
   have t1:decide (0 < i)=true:=decide_eq_true hi0
   have q:=T.out.box (.head _);have q1:=q.cell 1;(simp at q1);clear q
   have HL:=aI (show Sx.left (l,false)=l.length+1 from rfl)
   go_wp2_with fail
   go_region_law (first | (obtain ⟨i0,hI,hz0,hz1,hz2⟩:=info_parts infoStr;refine step_append_ph (by rfl) _ _ 33 (by rfl) 9 i0 _ 1 16 Tryz.underlying33 hI hz0 hz1 hz2 rfl (by decide) (T2.out.below ((Below.refl _ _).alloc (Nat.le_refl _) _)) (by rfl) _ _ 1 1 [.string (Sx.ofT t3)] (by rfl) (reads_blk (Blk.new _ _ _) rfl) (by simp [Value.oneCell']) (by have:=HA8.out;unfold maxLen;omega) (by have:=HA8.out;omega) ?_;intro v7 w7 M7 h7 _;obtain ⟨A8,c8,rfl⟩:=h7.form;have q:=h7.box (.head _);have q1:=q.cell 1;(simp at q1);have f1:=q.frozen 1;clear q;have T3:=aI h7;clear h7 hI hz0 hz1 hz2) | (go_simp;go_at_call 79;refine (nameR_any T.out.drew).mono ?_;rintro e w3 ⟨t3,st3,rfl,i3,x3,h3⟩;have q:=h3.box (.head _);have q1:=q.cell 1;(simp at q1);clear q;have T2:=aI h3;have X4:=aI x3;have I4:=aI i3;have q1b:∀ o,(w3.alloc o).cell? ⟨N1,1,none⟩=some (.slice A7 acc.length c7):=(fun o=>by have q:=(T2.out.below ((Below.refl _ _).alloc (Nat.le_refl _) o)).box (.head _);have q:=q.cell 1;simpa using q);clear h3 x3 i3))
   all_goals
    have T4:=aI (((T3.out.set0 1 (.slice A8 (acc.length+1) c8)).flat (Flat.single (us:=[.string (Sx.ofT t3)]) ⟨rfl,Nat.le_trans I4.out (by decide)⟩)))
    have hw:IntKind.i64.wrap (i - 1)=i - 1:=wrapI (by have:=HI.out;unfold inI at this ⊢;omega)
    have HW:=aI hw
    clear T T2 T3 q1b
    go_wp2_with fail
    go_roundg (if st3.2=true then 0 else (i - 1).toNat)
    case measure =>
     have h1:=HLF.out
     rw [if_neg (by simp)] at h1
     split <;> omega
    case rel =>
     have h1:=HLF.out
     rw [if_neg (by simp)] at h1
     refine ⟨i - 1,st3,acc++[Sx.ofT t3],_,M7,_,by first | rfl | (rw [HW.out]),by rw [aK];exact T4.out,by have:=HI.out;unfold inI at this ⊢;omega,rfl,fun _=>by have:=H12.out (by simp);omega,by rw [aK,List.length_singleton];split <;> omega,fun x st' hx=>HX.out _ _ ?_⟩
     rw [show i.toNat=(i - 1).toNat+1 by omega]
     exact Sx.nx_bind X4.out hx
  ·have HST:=aI (show Sx.Nx (Sx.states i.toNat acc) (l,f) acc (l,f) by
    cases f
    ·rw [show i.toNat=0 by
       have:¬ 0 < i:=fun h=>hgo ⟨h,rfl⟩
       omega]
     exact Sx.nx_ret _ _
    ·exact Sx.nx_failed)
   obtain ⟨A,c,M',hv,hc1,hc2,h4,_⟩:=T.out.freeze (α:=_) rfl rfl (T.out.fact (.head _))
   injection hv with hv1 hv2 hv3
   subst hv1 hv3
   replace T:=aI (show PH (pkP w g) (l,f) M' ((N1,55,#[.string (Sx.ofT n),.slice A7 acc.length c7,.slice none 0 0])::(N,55,#[.string ⟨#[]⟩,.slice none 0 0,.slice none 0 0])::bx) rs ((fun M W=>SlAt M W A7 acc)::L) wo from h4.less fun P hP=>by
    rcases aL hP with rfl | hP
    ·exact .head _
    ·exact .tail _ (.tail _ hP))
   clear h4
   have HCC:=aI (show acc.length≤c7∧c7≤9223372036854775807 from ⟨hc1,hc2⟩)
   clear hc1 hc2
   have hcase:decide (0 < i)=false∨(decide (0 < i)=true∧f=true):=by
    by_cases h:0 < i
    ·exact .inr ⟨decide_eq_true h,by cases f;exact absurd ⟨h,rfl⟩ hgo;rfl⟩
    ·exact .inl (decide_eq_false h)
   clear hgo
   rcases hcase with t1 | ⟨t1,rfl⟩
   all_goals
    go_upto_region 8 with (first | (go_at_call 35;((with_reducible refine (isMove_any T.out).mono ?_));rintro e w3 ⟨N3,rfl,h3⟩;replace T:=aI h3;clear h3) | (go_at_call 85;((with_reducible refine (someM_any HE.out move_ne (isb_head _ _ _) T.out).mono ?_));rintro e w4 ⟨ms,A4,c4,st4,M4,rfl,d1,d2,d3,x4,h4⟩;replace T:=aI h4;have X4:=aI x4;have D:=aI (show ms.length≤c4∧c4≤9223372036854775807 from ⟨d1,d2⟩);clear h4 x4 d1 d2 d3;have B:=T.out.box (.head _);have z0:=B.cell 0;have z1:=B.cell 1;have z2:=B.cell 2;have f2:=B.frozen 2;(simp at z0 z1 z2);clear B))
    have T7:=aI (show PH (pkP w g) st4 M4 ((N1,55,#[.string (Sx.ofT n),.slice A7 acc.length c7,.slice A4 ms.length c4])::(N,55,#[.string ⟨#[]⟩,.slice none 0 0,.slice none 0 0])::bx) rs _ _ from T.out.set0 2 (.slice A4 ms.length c4))
    clear T z0 z1 z2 f2
    generalize w4.setCell ⟨N1,2,none⟩ (.slice A4 ms.length c4)=W8 at *
    have B:=T7.out.box (.head _);have z0:=B.cell 0;have z1:=B.cell 1;have z2:=B.cell 2
    have C:=T7.out.box (.tail _ (.head _));have y0:=C.cell 0;have y1:=C.cell 1;have y2:=C.cell 2;have f0:=C.frozen 0;have f1:=C.frozen 1;have f2:=C.frozen 2
    simp at z0 z1 z2 y0 y1 y2
    clear B C
    have T8:=aI (show PH (pkP w g) st4 M4 ((N,55,#[.string (Sx.ofT n),.slice A7 acc.length c7,.slice A4 ms.length c4])::(N1,55,#[.string (Sx.ofT n),.slice A7 acc.length c7,.slice A4 ms.length c4])::bx) rs _ _ from ((T7.out.bswap.set0 0 (.string (Sx.ofT n))).set0 1 (.slice A7 acc.length c7)).set0 2 (.slice A4 ms.length c4))
    go_wp2_with fail
    clear y0 y1 y2
    have C:=T8.out.box (.head _);have y0:=C.cell 0;have y1:=C.cell 1;have y2:=C.cell 2
    simp at y0 y1 y2
    have hms:=T8.out.fact (.head _)
    have hac:=T8.out.fact (.tail _ (.tail _ (.head _)))
    refine bodyPost_ret (v:=.agg #[.string (Sx.ofT n),.slice A7 acc.length c7,.slice A4 ms.length c4]) ?_ rfl ?_
    ·simp [results,Tryz.results38,go_sem,y0,y1,y2]
    ·exact ⟨(Sx.ofT n,acc,ms),_,st4,_,rfl,Sx.nx_bind X1.out (Sx.nx_bind X2.out (Sx.nx_bind X3.out (Sx.nx_bind (HX.out _ _ HST.out) (Sx.nx_bind X4.out (Sx.nx_ret _ _))))),(T8.out.unbox.unbox.add (keeps_rep (Sx.ofT n,acc,ms) [.string (Sx.ofT n),.slice A7 acc.length c7,.slice A4 ms.length c4]) ⟨[_],_,rfl,⟨rfl,Nat.le_trans I2.out (by decide)⟩,[_],_,rfl,⟨_,_,rfl,HCC.out.1,HCC.out.2,hac⟩,⟨_,_,rfl,D.out.1,D.out.2,hms⟩⟩).less fun P hP=>by
      rcases aL hP with rfl | hP
      ·exact .head _
      ·exact .tail _ (.tail _ (.tail _ (.tail _ hP)))⟩
end
namespace Sx
def wordsB:List ByteArray:=wordsL.map ofT
def wordI (t:Txt):Int:=match wordOf t with
 | some k=>(k:Int)
 | none=>-1
theorem idxFrom_words:∀ (l:List Txt) (t:Txt) (i:Nat),Lib.idxFromS (l.map ofT) (ofT t) i=match l.findIdx? (· == t) with
  | some k=>((i+k:Nat):Int)
  | none=>-1
 | [],t,i=>rfl
 | u::l,t,i=>by
  rw [List.map_cons,List.findIdx?_cons]
  unfold Lib.idxFromS
  by_cases h:u=t
  ·rw [h];simp
  ·rw [if_neg (fun e=>h (ofT_inj e)),if_neg (by simpa using h),idxFrom_words l t (i+1)]
   cases l.findIdx? (· == t) with
   | none=>rfl
   | some k=>show ((i+1+k:Nat):Int)=((i+(k+1):Nat):Int);congr 1;omega
theorem idx_words (t:Txt):Lib.idxOfS wordsB (ofT t)=wordI t:=by
 unfold Lib.idxOfS wordsB wordI wordOf
 rw [idxFrom_words]
 cases wordsL.findIdx? (· == t) <;> simp
theorem con_words (t:Txt):Lib.containsS wordsB (ofT t)=isWord t:=by
 unfold Lib.containsS
 rw [idx_words]
 unfold wordI isWord
 cases wordOf t with
 | none=>rfl
 | some k=>simp
theorem wordI_some {t:Txt} {k:Nat} (h:wordOf t=some k):wordI t=k:=by unfold wordI;rw [h]
theorem wordOf_lt {t:Txt} {k:Nat} (h:wordOf t=some k):k < 9:=by
 unfold wordOf at h
 rw [List.findIdx?_eq_some_iff_getElem] at h
 exact h.1
end Sx
theorem wordsB_at (k:Nat) (h:k < Sx.wordsB.length):Sx.wordsB.getD k ByteArray.empty=wdS k:=by
 have h9:k < 9:=h
 match k,h9 with
 | 0,_ | 1,_ | 2,_ | 3,_ | 4,_ | 5,_ | 6,_ | 7,_ | 8,_=>rfl
theorem words_cells {W:World} (he:SEnv W):∀ j,j < Sx.wordsB.length→W.cell? ⟨0,0+j,none⟩=some (.string (Sx.wordsB.getD j ByteArray.empty)):=fun j hj=>by rw [Nat.zero_add,wordsB_at j hj];exact he.words j hj
theorem idxW_any (t:Sx.Txt) (W:World) (he:SEnv W):Calls Tryz.prog 126 #[.slice (some ⟨0,0,none⟩) 9 9,.string (Sx.ofT t)] W fun e W'=>e=.returned (.int .i64 (Sx.wordI t))∧W'=W :=
 (Tryz.slices_Index_string 0 0 9 9 Sx.wordsB (Sx.ofT t) W (Nat.le_refl _) (by decide) (words_cells he)).mono fun e W' ⟨h1,h2⟩=>⟨by rw [h1,show Sx.wordsB.take 9=Sx.wordsB from rfl,Sx.idx_words],h2⟩
theorem conW_any (t:Sx.Txt) (W:World) (he:SEnv W):Calls Tryz.prog 82 #[.slice (some ⟨0,0,none⟩) 9 9,.string (Sx.ofT t)] W fun e W'=>e=.returned (.bool (Sx.isWord t))∧W'=W :=
 (Tryz.slices_Contains_string 0 0 9 9 Sx.wordsB (Sx.ofT t) W (Nat.le_refl _) (by decide) (words_cells he)).mono fun e W' ⟨h1,h2⟩=>⟨by rw [h1,show Sx.wordsB.take 9=Sx.wordsB from rfl,Sx.con_words],h2⟩
set_option maxHeartbeats 1000000 in
theorem kind1_any (t:Sx.Txt) (W:World) (he:SEnv W):Calls Tryz.prog 81 #[.string (Sx.ofT t)] W fun e W'=>e=.returned (.bool (Sx.isWord t))∧W=W':=by
 have CC:=aI (conW_any t W he)
 clear he
 go_enter Tryz.func81,Tryz.ntmps81
 go_wp2_with (go_at_call 82;((with_reducible refine (CC.out).mono ?_));rintro e w2 ⟨rfl,rfl⟩)
 go_ret
 exact ⟨rfl,rfl⟩
end Go.Proofs.YtmplaikgbeeikaaGreatDoor
