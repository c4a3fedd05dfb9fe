/- Parts of the proof, joined: BaseA, VmGP, M1, M2, M4, BaseB, M9. -/
import Derived.Test.YtobcnhmhgoccnaaGreatDoorRows
import Derived.WalkSpells
import Derived.WalkLawsBesides
import Derived.BigQuiet
import Derived.Handy
import Derived.Deep.AppendLies
import Derived.Lib.QuietBelow
import Derived.Deep.CutRange
import Derived.Lib.ItoaMem
import Derived.Lib.AtoiTie
import Derived.Deep.MidRow
import Derived.Lib.EndianMore
set_option maxHeartbeats 2000000
set_option linter.unusedVariables false
set_option linter.unusedSimpArgs false
set_option linter.unusedSectionVars false
namespace Go.Proofs.YtobcnhmhgoccnaaGreatDoor
open Go Go.RowKit
theorem aN2 {P : Nat -> Prop} (h : ∀i, P i) : P 0 /\ P 1 := ⟨h 0, h 1⟩
theorem aN3 {P : Nat -> Prop} (h : ∀i, P i) : P 0 /\ P 1 /\ P 2 := ⟨h 0, h 1, h 2⟩
theorem aN4 {P : Nat -> Prop} (h : ∀i, P i) : P 0 /\ P 1 /\ P 2 /\ P 3 := ⟨h 0, h 1, h 2, h 3⟩
theorem aN5 {P : Nat -> Prop} (h : ∀i, P i) : P 0 /\ P 1 /\ P 2 /\ P 3 /\ P 4 := ⟨h 0, h 1, h 2, h 3, h 4⟩
theorem aN6 {P : Nat -> Prop} (h : ∀i, P i) : P 0 /\ P 1 /\ P 2 /\ P 3 /\ P 4 /\ P 5 := ⟨h 0, h 1, h 2, h 3, h 4, h 5⟩
theorem aN7 {P : Nat -> Prop} (h : ∀i, P i) : P 0 /\ P 1 /\ P 2 /\ P 3 /\ P 4 /\ P 5 /\ P 6 := ⟨h 0, h 1, h 2, h 3, h 4, h 5, h 6⟩
theorem aN8 {P : Nat -> Prop} (h : ∀i, P i) : P 0 /\ P 1 /\ P 2 /\ P 3 /\ P 4 /\ P 5 /\ P 6 /\ P 7 := ⟨h 0, h 1, h 2, h 3, h 4, h 5, h 6, h 7⟩
theorem aS {Q : Program} {f : FuncId} {a : Array Value} {w : World} {E : Ending} {K : Ending -> World -> Prop} (h : Calls Q f a w λe w' => e = E /\ w = w') (k : K E w) : Calls Q f a w K := h.mono (by rintro _ _ ⟨rfl, rfl⟩; exact k)
theorem aP (w : World) (o : Obj) : Below w.heap.size w (w.alloc o) := (Below.refl w.heap.size w).alloc (Nat.le_refl _) o
theorem aT {w u v : World} (h : Go.RowKit.Hid (Below w.heap.size w u)) (k : Below u.heap.size u v) : Go.RowKit.Hid (Below w.heap.size w v) := Lib.hid (h.out.trans (k.mono h.out.size))
theorem aX {α : Sort _} (a : α) : ∃z, a = z := ⟨a, rfl⟩
theorem aY {α : Sort _} (a : α) : ∃z, z = a := ⟨a, rfl⟩
theorem aZ {α : Type _} : (∀(l : List α) (i : Nat) (a : α), l.toArray.setIfInBounds i a = (l.set i a).toArray) /\ (∀(a b : α) (l : List α), (a :: l).set 0 b = b :: l) /\ (∀(a b : α) (n : Nat) (l : List α), (a :: l).set (n + 1) b = a :: l.set n b) := ⟨λl i a => List.setIfInBounds_toArray l i a, λ_ _ _ => rfl, λ_ _ _ _ => rfl⟩
theorem aV {α : Type _} : (∀(xs : Array α) (i : Nat) (d : α), xs.getD i d = xs[i]?.getD d) /\ (∀(l : List α) (i : Nat), l.toArray[i]? = l[i]?) /\ (∀(a : α) (l : List α) (i : Nat), (a :: l)[i + 1]? = l[i]?) /\ (∀(a : α) (l : List α), (a :: l)[0]? = some a) /\ (∀(a d : α), (some a).getD d = a) := ⟨λ_ _ _ => Array.getD_eq_getD_getElem?, λ_ _ => List.getElem?_toArray, λ_ _ _ => rfl, λ_ _ => rfl, λ_ _ => rfl⟩
theorem aG3 {w : World} {b o m : Nat} {a c d : Value} (h : ∀j u, [a, c, d][j]? = some u -> w.cell? ⟨b, o + (m + j), none⟩ = some u) : w.cell? ⟨b, o + m, none⟩ = some a /\ w.cell? ⟨b, o + m + 1, none⟩ = some c /\ w.cell? ⟨b, o + m + 2, none⟩ = some d := ⟨h 0 _ rfl, h 1 _ rfl, h 2 _ rfl⟩
theorem aG4 {w : World} {b o m : Nat} {a c d e : Value} (h : ∀j u, [a, c, d, e][j]? = some u -> w.cell? ⟨b, o + (m + j), none⟩ = some u) : w.cell? ⟨b, o + m, none⟩ = some a /\ w.cell? ⟨b, o + m + 1, none⟩ = some c /\ w.cell? ⟨b, o + m + 2, none⟩ = some d /\ w.cell? ⟨b, o + m + 3, none⟩ = some e := ⟨h 0 _ rfl, h 1 _ rfl, h 2 _ rfl, h 3 _ rfl⟩
theorem aG5 {w : World} {b o m : Nat} {a c d e f : Value} (h : ∀j u, [a, c, d, e, f][j]? = some u -> w.cell? ⟨b, o + (m + j), none⟩ = some u) : w.cell? ⟨b, o + m, none⟩ = some a /\ w.cell? ⟨b, o + m + 1, none⟩ = some c /\ w.cell? ⟨b, o + m + 2, none⟩ = some d /\ w.cell? ⟨b, o + m + 3, none⟩ = some e /\ w.cell? ⟨b, o + m + 4, none⟩ = some f := ⟨h 0 _ rfl, h 1 _ rfl, h 2 _ rfl, h 3 _ rfl, h 4 _ rfl⟩
theorem aG8 {w : World} {b o m : Nat} {a c d e f g i k : Value} (h : ∀j u, [a, c, d, e, f, g, i, k][j]? = some u -> w.cell? ⟨b, o + (m + j), none⟩ = some u) : w.cell? ⟨b, o + m, none⟩ = some a /\ w.cell? ⟨b, o + m + 1, none⟩ = some c /\ w.cell? ⟨b, o + m + 2, none⟩ = some d /\ w.cell? ⟨b, o + m + 3, none⟩ = some e /\ w.cell? ⟨b, o + m + 4, none⟩ = some f /\ w.cell? ⟨b, o + m + 5, none⟩ = some g /\ w.cell? ⟨b, o + m + 6, none⟩ = some i /\ w.cell? ⟨b, o + m + 7, none⟩ = some k := ⟨h 0 _ rfl, h 1 _ rfl, h 2 _ rfl, h 3 _ rfl, h 4 _ rfl, h 5 _ rfl, h 6 _ rfl, h 7 _ rfl⟩
theorem aa (n : Nat) : (0 : Int) <= (n : Int) := Int.natCast_nonneg n
theorem ac {p : Prop} [Decidable p] (h : p) : decide p = true := decide_eq_true h
theorem ad {p : Prop} [Decidable p] (h : ¬p) : decide p = false := decide_eq_false h
theorem ag (n : Nat) : n <= n := Nat.le_refl n
theorem ah {a b c : Nat} (h : a <= b) (k : b <= c) : a <= c := Nat.le_trans h k
theorem aj (a b : Nat) : a < b ∨ b <= a := Nat.lt_or_ge a b
section
theorem aA {α : Type _} {xs : Array α} {i : Nat} {d : α} : xs.getD i d = xs[i]?.getD d := Array.getD_eq_getD_getElem?
theorem aB {α : Type _} (l : List α) (i : Nat) (a : α) : l.toArray.setIfInBounds i a = (l.set i a).toArray := List.setIfInBounds_toArray l i a
theorem aC {α : Type _} {a : α} {l : List α} {i : Nat} : (a :: l)[i + 1]? = l[i]? := rfl
theorem aD {α : Type _} {a : α} {l : List α} : (a :: l)[0]? = some a := rfl
theorem aE {α : Type _} {l : List α} {i : Nat} : l.toArray[i]? = l[i]? := List.getElem?_toArray
theorem aF {α : Type _} {a b : α} {l : List α} : (a :: l).set 0 b = b :: l := rfl
theorem aG {α : Type _} {a b : α} {n : Nat} {l : List α} : (a :: l).set (n + 1) b = a :: l.set n b := rfl
theorem aH {α : Type _} {a d : α} : (some a).getD d = a := rfl
theorem aI {p : Prop} (h : p) : Go.RowKit.Hid p := Lib.hid h
theorem aK {α : Type _} {l m : List α} : (l ++ m).length = l.length + m.length := List.length_append
theorem aL {α : Type _} {a b : α} {l : List α} (h : a ∈ b :: l) : a = b ∨ a ∈ l := List.mem_cons.1 h
theorem ret_int {k:IntKind} {a b:Int} (h:a=b):Ending.returned (.int k a)=.returned (.int k b):=by rw [h]
theorem ret_bool {a b:Bool} (h:a=b):Ending.returned (.bool a)=.returned (.bool b):=by rw [h]
theorem str_eq {a:ByteArray} {l:List UInt8} (h:a.data.toList=l):a=⟨l.toArray⟩:=by
 subst h;cases a;simp
theorem block_of_add (a:Addr) (n:Nat):(a.add n).block=a.block:=by unfold Addr.add;split <;> rfl
def Reads (w:World) (B size:Nat) (A:Option Addr) (n:Nat) (xs:List Value):Prop :=
 xs.length=n*size/\(0 < n->∃ad,A=some ad/\ad.block < B/\∀j u,xs[j]?=some u->w.cell? (ad.add j)=some u)
section
variable {w w':World} {B B' size n:Nat} {A:Option Addr} {xs:List Value}
theorem Reads.none_:Reads w B size A 0 []:=⟨by simp,λh=>absurd h (by omega)⟩
theorem Reads.at_ {k:Nat} (h:Reads w B 1 A n xs) (hk:k < n):∃ad u,A=some ad/\ad.block < B/\xs[k]?=some u/\w.cell? (ad.add k)=some u:=by
 obtain ⟨ad,e,hb,hc⟩:=h.2 (by omega)
 have hl:k < xs.length:=by have:=h.1;omega
 exact ⟨ad,xs[k],e,hb,List.getElem?_eq_getElem hl,hc k _ (List.getElem?_eq_getElem hl)⟩
theorem Reads.keep (h:Reads w B size A n xs) (hk:∀p:Addr,p.block < B->w'.cell? p=w.cell? p):Reads w' B size A n xs :=
 ⟨h.1,λhn=>by
  obtain ⟨ad,e,hb,hc⟩:=h.2 hn
  exact ⟨ad,e,hb,λj u hu=>(hk _ (by rw [block_of_add];exact hb)).trans (hc j u hu)⟩⟩
theorem Reads.below (h:Reads w B size A n xs) (hb:Below B w w'):Reads w' B size A n xs:=h.keep λ_ hp=>hb.cell hp
theorem Reads.of_own {base:Nat} {e:TypeId} {c:Nat} (h:w.ownsRow base e size (.slice A n c) n xs):Reads w w.heap.size size A n xs:=by
 refine ⟨h.1,λhn=>?_⟩
 obtain ⟨g,cap,hv,_,hlt⟩:=h.form hn
 have hA:A=some ⟨g,0,none⟩:=by injection hv
 subst hA
 exact ⟨_,rfl,hlt,h.cells (g:=g) rfl⟩
end
def Blk (w:World) (g:Nat) (t:TypeId) (cs:Array Value):Prop:=w.heap[g]?=some (.cells cs t (0,0))
section
variable {w w':World} {g:Nat} {t:TypeId} {cs:Array Value}
theorem Blk.lt (h:Blk w g t cs):g < w.heap.size:=by
 rcases aj g w.heap.size with hlt | hge
 .exact hlt
 .unfold Blk at h;rw [Array.getElem?_eq_none hge] at h;cases h
theorem Blk.cell (h:Blk w g t cs) (i:Nat):w.cell? ⟨g,i,none⟩=cs[i]?:=cell_of_row w g i cs t (0,0) h
theorem Blk.frozen (h:Blk w g t cs) (i:Nat):w.frozen? ⟨g,i,none⟩=false:=by
 unfold Blk at h
 simp [World.frozen?,h]
theorem Blk.new (w:World) (t:TypeId) (cs:Array Value):Blk (w.alloc (.cells cs t)) w.heap.size t cs:=heap_alloc_new w _
theorem aW (w : World) (c : Array Value) (t : TypeId) : ∃X, w.alloc (.cells c t) = X /\ Go.RowKit.Hid (Below w.heap.size w X) /\ Blk X w.heap.size t c := ⟨_, rfl, Lib.hid (aP _ _), Blk.new w _ _⟩
theorem aM3 {w : World} {g : Nat} {t : TypeId} {a c d : Value} (h : Blk w g t #[a, c, d]) : w.cell? ⟨g, 0, none⟩ = some a /\ w.cell? ⟨g, 1, none⟩ = some c /\ w.cell? ⟨g, 2, none⟩ = some d := ⟨h.cell 0, h.cell 1, h.cell 2⟩
theorem aM4 {w : World} {g : Nat} {t : TypeId} {a c d e : Value} (h : Blk w g t #[a, c, d, e]) : w.cell? ⟨g, 0, none⟩ = some a /\ w.cell? ⟨g, 1, none⟩ = some c /\ w.cell? ⟨g, 2, none⟩ = some d /\ w.cell? ⟨g, 3, none⟩ = some e := ⟨h.cell 0, h.cell 1, h.cell 2, h.cell 3⟩
theorem aM5 {w : World} {g : Nat} {t : TypeId} {a c d e f : Value} (h : Blk w g t #[a, c, d, e, f]) : w.cell? ⟨g, 0, none⟩ = some a /\ w.cell? ⟨g, 1, none⟩ = some c /\ w.cell? ⟨g, 2, none⟩ = some d /\ w.cell? ⟨g, 3, none⟩ = some e /\ w.cell? ⟨g, 4, none⟩ = some f := ⟨h.cell 0, h.cell 1, h.cell 2, h.cell 3, h.cell 4⟩
theorem aM8 {w : World} {g : Nat} {t : TypeId} {a c d e f i j k : Value} (h : Blk w g t #[a, c, d, e, f, i, j, k]) : w.cell? ⟨g, 0, none⟩ = some a /\ w.cell? ⟨g, 1, none⟩ = some c /\ w.cell? ⟨g, 2, none⟩ = some d /\ w.cell? ⟨g, 3, none⟩ = some e /\ w.cell? ⟨g, 4, none⟩ = some f /\ w.cell? ⟨g, 5, none⟩ = some i /\ w.cell? ⟨g, 6, none⟩ = some j /\ w.cell? ⟨g, 7, none⟩ = some k := ⟨h.cell 0, h.cell 1, h.cell 2, h.cell 3, h.cell 4, h.cell 5, h.cell 6, h.cell 7⟩
theorem Blk.alloc (h:Blk w g t cs) (o:Obj):Blk (w.alloc o) g t cs:=(Below.heap_alloc w o g h.lt).trans h
theorem Blk.set_ (h:Blk w g t cs) (i:Nat) (u:Value):Blk (w.setCell ⟨g,i,none⟩ u) g t (cs.setIfInBounds i u):=by
 unfold Blk at h ⊢
 simp [World.setCell,Array.getElem?_modify,h]
theorem Blk.far (h:Blk w g t cs) {p:Addr} (hp:g≠p.block) (u:Value):Blk (w.setCell p u) g t cs:=(Below.heap_setCell w p u g hp).trans h
theorem Blk.below {B:Nat} (h:Blk w g t cs) (hb:Below B w w') (hg:g < B):Blk w' g t cs:=(hb.block g hg).trans h
theorem Blk.grown {row:Option Nat} (h:Blk w g t cs) (hb:w.grownBy w' row) (hg:some g≠row):Blk w' g t cs:=(hb.block g h.lt hg).trans h
end
section
variable {P:Program} (w:World)
theorem run_append_of_nil (base:Nat) (t ty e:TypeId) (i:TypeInfo) (size:Nat) (ht:P.underlying t=some (.slice e)) (hi:P.info? e=some i)
  (v:Value) (n:Nat) (xs:List Value) (hown:w.ownsRow base e size v n xs) (c:Nat):(Builtin.append_ #[t,t] ty #[v,.slice none 0 c]).run P w=.ok v w:=by
 rcases hown.2 with ⟨rfl,rfl⟩ | ⟨g,cap,cur,rfl,_,_,hnc,_⟩
 .simp [Builtin.append_,run_underlying ht,sizeOf,typeInfo,hi,Builtin.lenOf,Builtin.firstCells]
 .simp [Builtin.append_,run_underlying ht,sizeOf,typeInfo,hi,Builtin.lenOf,Builtin.firstCells,hnc,storeCells]
theorem run_append_any (base:Nat) (t ty e:TypeId) (i:TypeInfo) (z:Value) (size bytes:Nat) (ht:P.underlying t=some (.slice e)) (hi:P.info? e=some i) (hz:i.zero=some z)
  (hsize:i.size=size) (hby:i.bytes=bytes) (hzs:z.cells.size=size) (hsz:0 < size)
  (v:Value) (n:Nat) (xs:List Value) (hown:w.ownsRow base e size v n xs)
  (B:Nat) (A:Option Addr) (m c:Nat) (news:List Value) (hr:Reads w B size A m news) (h1:∀u∈news,u.oneCell'=true)
  (h63:n+m<=maxLen) (hbytes:(n+m)*bytes<=140737488355328) (hbase:base<=w.heap.size) :
  ∃v' w',(Builtin.append_ #[t,t] ty #[v,.slice A m c]).run P w=.ok v' w'/\w'.ownsRow base e size v' (n+m) (xs++news)/\w.grownBy w' v.ownBlock /\
   (v'.ownBlock=v.ownBlock∨v'.ownBlock=some w.heap.size):=by
 rcases A with _ | ad
 .have hm:m=0:=by
   rcases Nat.eq_zero_or_pos m with h0 | h0
   .exact h0
   .obtain ⟨ad,h,_⟩:=hr.2 h0
    cases h
  subst hm
  have hn:news=[]:=List.eq_nil_of_length_eq_zero (by simpa using hr.1)
  subst hn
  exact ⟨v,w,run_append_of_nil w base t ty e i size ht hi v n xs hown c,by simpa using hown,World.grownBy.refl w _,.inl rfl⟩
 .have hcells:∀j u,news[j]?=some u->w.cell? (ad.add j)=some u:=by
   intro j u hu
   rcases Nat.eq_zero_or_pos m with h0 | h0
   .subst h0
    have hn:news=[]:=List.eq_nil_of_length_eq_zero (by simpa using hr.1)
    subst hn
    simp at hu
   .obtain ⟨ad',h,_,hc⟩:=hr.2 h0
    injection h with h
    subst h
    exact hc j u hu
  obtain ⟨v',w',hrun,h2,h3,_,h5⟩:=run_append_own_at (P:=P) w base t ty e i z size bytes ht hi hz hsize hby hzs hsz v n xs hown ad m c news hr.1 hcells h1 h63 hbytes hbase
  exact ⟨v',w',hrun,h2,h3,h5⟩
theorem wp_append_any {o:Oper} {a:Act} {K:Act->World->Prop} {Q:Exit->Act->World->Prop} (s x:Operand) (t:TypeId)
  (ho:o.op=.call { callee:=.builtin .append,args:=#[s,x],argTypes:=#[t,t] })
  (base:Nat) (e:TypeId) (i:TypeInfo) (z:Value) (size bytes:Nat) (ht:P.underlying t=some (.slice e)) (hi:P.info? e=some i) (hz:i.zero=some z)
  (hsize:i.size=size) (hby:i.bytes=bytes) (hzs:z.cells.size=size) (hsz:0 < size)
  (v:Value) (n:Nat) (xs:List Value) (hs:a.eval s=v) (hown:w.ownsRow base e size v n xs)
  (B:Nat) (A:Option Addr) (m c:Nat) (news:List Value) (hx:a.eval x=.slice A m c) (hr:Reads w B size A m news) (h1:∀u∈news,u.oneCell'=true)
  (h63:n+m<=maxLen) (hbytes:(n+m)*bytes<=140737488355328) (hbase:base<=w.heap.size)
  (h:∀v' w',w'.ownsRow base e size v' (n+m) (xs++news)->w.grownBy w' v.ownBlock->(v'.ownBlock=v.ownBlock∨v'.ownBlock=some w.heap.size)->K (a.put o.dst v') w'):o.wp P a w K Q:=by
 obtain ⟨v',w',hrun,h2,h3,h4⟩:=run_append_any (P:=P) w base t o.type e i z size bytes ht hi hz hsize hby hzs hsz v n xs hown B A m c news hr h1 h63 hbytes hbase
 unfold Oper.wp execOp
 simp only [ho,resolve,invoke,builtin,Sem.run_bind,Sem.run_pure,Result.andThen_ok,List.map_toArray,List.map_cons,List.map_nil,hs,hx,hrun]
 exact h v' w' h2 h3 h4
theorem wpList_append_any {ops:Array Oper} {rest:List Oper} {o:Oper} {a:Act} {Q:Exit->Act->World->Prop} (hgd:o.guard=none) (s x:Operand) (t:TypeId)
  (ho:o.op=.call { callee:=.builtin .append,args:=#[s,x],argTypes:=#[t,t] })
  (base:Nat) (e:TypeId) (i:TypeInfo) (z:Value) (size bytes:Nat) (ht:P.underlying t=some (.slice e)) (hi:P.info? e=some i) (hz:i.zero=some z)
  (hsize:i.size=size) (hby:i.bytes=bytes) (hzs:z.cells.size=size) (hsz:0 < size)
  (v:Value) (n:Nat) (xs:List Value) (hs:a.eval s=v) (hown:w.ownsRow base e size v n xs)
  (B:Nat) (A:Option Addr) (m c:Nat) (news:List Value) (hx:a.eval x=.slice A m c) (hr:Reads w B size A m news) (h1:∀u∈news,u.oneCell'=true)
  (h63:n+m<=maxLen) (hbytes:(n+m)*bytes<=140737488355328) (hbase:base<=w.heap.size)
  (h:∀v' w',w'.ownsRow base e size v' (n+m) (xs++news)->w.grownBy w' v.ownBlock->(v'.ownBlock=v.ownBlock∨v'.ownBlock=some w.heap.size)->wpList P ops Q rest (a.put o.dst v') w'):wpList P ops Q (o::rest) a w :=
 wpList_plain hgd λ_ hK=>wp_append_any w s x t ho base e i z size bytes ht hi hz hsize hby hzs hsz v n xs hs hown B A m c news hx hr h1 h63 hbytes hbase λv' w' h2 h3 h4=>hK _ _ (h v' w' h2 h3 h4)
theorem step_append_any {ops:Array Oper} {o:Oper} {a:Act} {K:Act->World->Prop} {Q:Exit->Act->World->Prop} {E:Prop} (hgd:o.guard=none) (s x:Operand) (t:TypeId)
  (ho:o.op=.call { callee:=.builtin .append,args:=#[s,x],argTypes:=#[t,t] })
  (base:Nat) (e:TypeId) (i:TypeInfo) (z:Value) (size bytes:Nat) (ht:P.underlying t=some (.slice e)) (hi:P.info? e=some i) (hz:i.zero=some z)
  (hsize:i.size=size) (hby:i.bytes=bytes) (hzs:z.cells.size=size) (hsz:0 < size)
  (v:Value) (n:Nat) (xs:List Value) (hs:a.eval s=v) (hown:w.ownsRow base e size v n xs)
  (B:Nat) (A:Option Addr) (m c:Nat) (news:List Value) (hx:a.eval x=.slice A m c) (hr:Reads w B size A m news) (h1:∀u∈news,u.oneCell'=true)
  (h63:n+m<=maxLen) (hbytes:(n+m)*bytes<=140737488355328) (hbase:base<=w.heap.size)
  (h:∀v' w',w'.ownsRow base e size v' (n+m) (xs++news)->w.grownBy w' v.ownBlock->(v'.ownBlock=v.ownBlock∨v'.ownBlock=some w.heap.size)->K (a.put o.dst v') w') :
  if Region.wanted o (yielded ops a.tmps)=true then Oper.wp P o a w K Q else E:=by
 have hw:Region.wanted o (yielded ops a.tmps)=true:=by simp [Region.wanted,hgd]
 rw [if_pos hw]
 exact wp_append_any w s x t ho base e i z size bytes ht hi hz hsize hby hzs hsz v n xs hs hown B A m c news hx hr h1 h63 hbytes hbase h
end
def byteVals (l:List UInt8):List Value:=l.map λc=>.int .u8 c.toNat
theorem byteVals_cons (c:UInt8) (l:List UInt8):byteVals (c::l)=.int .u8 c.toNat::byteVals l:=rfl
theorem byteVals_append (a b:List UInt8):byteVals (a++b)=byteVals a++byteVals b:=by simp [byteVals]
theorem byteVals_one (l:List UInt8):∀u∈byteVals l,u.oneCell'=true:=by
 intro u hu
 simp only [byteVals,List.mem_map] at hu
 obtain ⟨c,_,rfl⟩:=hu
 rfl
theorem byteVals_length (l:List UInt8):(byteVals l).length=l.length:=by simp [byteVals]
theorem foldl_bytes (l:List UInt8):∀(s:ByteArray),((l.map λc=>(c.toNat:Int)).foldl (λr n=>r.push (UInt8.ofNat n.toNat)) s).data.toList=s.data.toList++l:=by
 induction l with
 | nil=>intro s;simp
 | cons c l ih =>
  intro s
  simp only [List.map_cons,List.foldl_cons]
  rw [ih]
  simp [ByteArray.push]
theorem run_str_own {P:Program} (w:World) (src dst e:TypeId) (hs:P.underlying src=some (.slice e)) (he:P.underlying e=some (.int .u8)) (hd:P.underlying dst=some .string)
  {base n:Nat} {v:Value} {l:List UInt8} (h:w.ownsRow base e 1 v n (byteVals l)):(convert src dst v).run P w=.ok (.string ⟨l.toArray⟩) w:=by
 have hl:l.length=n:=by have:=h.1;rw [byteVals_length] at this;omega
 rcases h.2 with ⟨rfl,rfl⟩ | ⟨g,cap,cur,rfl,_⟩
 .obtain rfl:l=[]:=List.eq_nil_of_length_eq_zero hl
  rw [run_convert_bytes_string w src dst e none 0 0 hs he hd]
  rfl
 .rw [run_convert_bytes_string w src dst e _ n cap hs he hd]
  have hc:=h.cells (g:=g) rfl
  have hld:=run_loadCells_list (P:=P) (w:=w) ⟨g,0,none⟩ (byteVals l) hc
  rw [byteVals_length,hl] at hld
  rw [run_bytesToString w ⟨g,0,none⟩ n cap (l.map λc=>(c.toNat:Int)) (by rw [hld];simp [byteVals])]
  congr 2
  have:=foldl_bytes l ByteArray.empty
  generalize List.foldl _ _ _=r at this ⊢
  cases r
  simp at this
  subst this
  simp
theorem own_form {w:World} {base size n:Nat} {e:TypeId} {v:Value} {xs:List Value} (h:w.ownsRow base e size v n xs):∃A c,v=.slice A n c:=by
 rcases h.2 with ⟨rfl,rfl⟩ | ⟨g,cap,cur,rfl,_⟩
 .exact ⟨_,_,rfl⟩
 .exact ⟨_,_,rfl⟩
theorem own_lit {w:World} {base:Nat} {e:TypeId} (u:Value) (hb:base<=w.heap.size):(w.alloc (.cells #[u] e)).ownsRow base e 1 (.slice (some ⟨w.heap.size,0,none⟩) 1 1) 1 [u] :=
 World.ownsRow_lit w #[u] 1 hb (by decide) rfl
def intVals (L:List Int):List Value:=L.map (Value.int .i64)
theorem intVals_length (L:List Int):(intVals L).length=L.length:=by simp [intVals]
theorem intVals_append (a b:List Int):intVals (a++b)=intVals a++intVals b:=by simp [intVals]
theorem intVals_one (L:List Int):∀u∈intVals L,u.oneCell'=true:=ints_oneCell .i64 L
theorem intVals_get {L:List Int} {j:Nat} (h:j < L.length):(intVals L)[j]?=some (.int .i64 (L.getD j 0)):=by
 simp [intVals,List.getD,List.getElem?_eq_getElem h]
def Ints (w:World) (B:Nat) (A:Option Addr) (n:Nat) (L:List Int):Prop:=Reads w B 1 A n (intVals L)
section
variable {w w':World} {B n:Nat} {A:Option Addr} {L:List Int}
theorem Ints.len (h:Ints w B A n L):L.length=n:=by have:=h.1;rw [intVals_length] at this;omega
theorem Ints.nil:Ints w B A 0 []:=⟨by simp [intVals],λh=>absurd h (by omega)⟩
theorem Ints.form (h:Ints w B A n L) (hn:0 < n):∃b off,A=some ⟨b,off,none⟩/\b < B/\∀j,j < L.length->w.cell? ⟨b,off+j,none⟩=some (.int .i64 (L.getD j 0)):=by
 obtain ⟨ad,u,rfl,hb,hx,hc⟩:=h.at_ (k:=0) hn
 have hs:=World.cell?_spot hc
 obtain ⟨b,off,spot⟩:=ad
 have hsp:spot=none:=by simpa [Addr.add] using hs
 subst hsp
 refine ⟨b,off,rfl,hb,λj hj=>?_⟩
 have hjn:j < n:=by rw [<-h.len];exact hj
 obtain ⟨ad',u',e,_,hx',hc'⟩:=h.at_ hjn
 injection e with e
 subst e
 rw [intVals_get hj] at hx'
 injection hx' with hx'
 subst hx'
 have:(⟨b,off,none⟩:Addr).add j=⟨b,off+j,none⟩:=by
  unfold Addr.add
  by_cases h0:j=0
  .subst h0;rfl
  .rw [if_neg h0]
 rw [this] at hc'
 exact hc'
end
class Grow where
 R:World->World->Prop
 refl:∀w,R w w
 trans:∀{a b c},R a b->R b c->R a c
 below:∀{w w':World},Below w.heap.size w w'->R w w'
namespace RG
section
variable [Grow]
inductive Spec where
 | exact (c:Value)
 | typed (T:Value->World->Prop)
end
namespace Spec
section
variable [Grow]
def holds:Spec->Value->World->Prop
 | .exact c,v,_=>v=c
 | .typed T,v,w=>T v w
def val:Spec->Value->Value
 | .exact c,_=>c
 | .typed _,v=>v
end
end Spec
section
variable [Grow]
def Kept (T:Value->World->Prop):Prop:=∀v w w',T v w->Grow.R w w'->T v w'
def depsOf (o:Oper):List Nat:=(o.after.toList.filter (Region.binds .any)).map (·.on)
def valAt (o:Oper) (a:Act):Value:=match o.dst with
 | some d=>a.tmps.getD d undef
 | none=>undef
def PostT (o:Oper) (a:Act) (w:World) (R:Value->World->Prop) (e:Exit) (a':Act) (w':World):Prop:=e=.normal/\a'.defers=a.defers/\Grow.R w w'/\R (valAt o a') w'
def Gives (P:Program) (ops:Array Oper) (o:Oper) (a:Act) (w:World) (R:Value->World->Prop):Prop:=wpList P ops (PostT o a w R) [o] a w
theorem postT_mk {o:Oper} {a a':Act} {w w':World} {R:Value->World->Prop} (hd:a'.defers=a.defers) (hb:Grow.R w w') (hr:R (valAt o a') w'):PostT o a w R .normal a' w':=⟨rfl,hd,hb,hr⟩
theorem postT_val {o:Oper} {a a':Act} {w w':World} {c:Value} (hd:a'.defers=a.defers) (hb:Grow.R w w') (hv:valAt o a'=c):PostT o a w (λv _=>v=c) .normal a' w':=⟨rfl,hd,hb,hv⟩
def factsOn:List (Nat × (World->Prop))->List Nat->World->Prop
 | [],_,_=>True
 | p::r,ds,w=>(ds.contains p.1=true->p.2 w)/\factsOn r ds w
def allFacts:List (Nat × (World->Prop))->World->Prop
 | [],_=>True
 | p::r,w=>p.2 w/\allFacts r w
end
section
variable (P:Program) (ops:Array Oper) (C:World->Prop) (Q:Act->World->Prop)
section
variable [Grow]
def wpT:List Oper->List Spec->Nat->List (Nat × (World->Prop))->Act->Prop
 | [],_,_,fs,a=>∀w,C w->allFacts fs w->Q a w
 | _::_,[],_,_,_=>False
 | o::os,.exact c::ss,k,fs,a =>
  (∀w,C w->factsOn fs (depsOf o) w->Gives P ops o a w (λv _=>v=c))/\wpT os ss (k+1) fs (a.put o.dst c)
 | o::os,.typed T::ss,k,fs,a =>
  (Kept T/\∀w,C w->factsOn fs (depsOf o) w->Gives P ops o a w T)/\∀v,wpT os ss (k+1) ((k,T v)::fs) (a.put o.dst v)
end
end
section
variable [Grow]
def frameAt (vs:Nat->Value):List Oper->List Spec->Nat->Act->Nat->Act
 | o::os,s::ss,k,a,j+1=>frameAt vs os ss (k+1) (a.put o.dst (s.val (vs k))) j
 | _,_,_,a,_=>a
end
section
variable {P:Program} {ops:Array Oper} {C:World->Prop} {Q:Act->World->Prop}
section
variable [Grow]
def HoldsAt (SS:List Spec) (vs:Nat->Value) (i:Nat) (w:World):Prop:=∀s,SS[i]?=some s->s.holds (vs i) w
end
theorem factsOn_of {H:Nat->World->Prop} {ds:List Nat} {w:World} (hd:∀i∈ds,H i w):∀{fs:List (Nat × (World->Prop))},(∀p∈fs,∀w,H p.1 w->p.2 w)->factsOn fs ds w
 | [],_=>trivial
 | p::_,h=>⟨λhc=>h p List.mem_cons_self w (hd _ (by simpa using hc)),factsOn_of hd (λq hq=>h q (List.mem_cons_of_mem _ hq))⟩
theorem allFacts_of {H:Nat->World->Prop} {w:World}:∀{fs:List (Nat × (World->Prop))},(∀p∈fs,∀w,H p.1 w->p.2 w)->(∀p∈fs,H p.1 w)->allFacts fs w
 | [],_,_=>trivial
 | p::_r,h,hh=>⟨h p List.mem_cons_self w (hh p List.mem_cons_self),allFacts_of (λq hq=>h q (List.mem_cons_of_mem _ hq)) (λq hq=>hh q (List.mem_cons_of_mem _ hq))⟩
section
variable [Grow]
theorem wpT_extract (SS:List Spec) (vs:Nat->Value):∀(os:List Oper) (ss:List Spec) (k:Nat) (fs:List (Nat × (World->Prop))) (a:Act),
  (∀j,ss[j]?=SS[k+j]?)->(∀p∈fs,p.1 < k/\∀w,HoldsAt SS vs p.1 w->p.2 w)->wpT P ops C Q os ss k fs a ->
  (∀j o,os[j]?=some o->∃s,ss[j]?=some s/\(∀T,s=.typed T->Kept T) /\
   ∀w,C w->(∀i∈depsOf o,HoldsAt SS vs i w)->Gives P ops o (frameAt vs os ss k a j) w s.holds) /\
  (∀w,C w->(∀i,i < k+os.length->HoldsAt SS vs i w)->Q (frameAt vs os ss k a os.length) w)
 | [],ss,k,fs,a,hss,hfs,h=>by
  refine ⟨λj o ho=>by simp at ho,λw hw hH=>?_⟩
  have e:frameAt vs [] ss k a 0=a:=by cases ss <;> rfl
  rw [List.length_nil,e]
  exact h w hw (allFacts_of (H:=HoldsAt SS vs) (λp hp=>(hfs p hp).2) (λp hp=>hH _ (by have:=(hfs p hp).1;simp;exact this)))
 | o::os,[],k,fs,a,_,_,h=>h.elim
 | o::os,.exact c::ss,k,fs,a,hss,hfs,h=>by
  obtain ⟨h1,h2⟩:=h
  obtain ⟨r1,r2⟩:=wpT_extract SS vs os ss (k+1) fs (a.put o.dst c) (λj=>by have:=hss (j+1);rw [aC] at this;rw [this];congr 1;omega) (λp hp=>⟨by have:=(hfs p hp).1;omega,(hfs p hp).2⟩) h2
  refine ⟨λj o' ho=>?_,λw hw hH=>?_⟩
  .cases j with
   | zero =>
    simp at ho;subst ho
    exact ⟨.exact c,rfl,(λT hT=>by cases hT),λw hC hd=>h1 w hC (factsOn_of (H:=HoldsAt SS vs) hd (λp hp=>(hfs p hp).2))⟩
   | succ j=>exact r1 j o' (by simpa using ho)
  .exact r2 w hw (λi hi=>hH i (by simp at hi ⊢;omega))
 | o::os,.typed T::ss,k,fs,a,hss,hfs,h=>by
  obtain ⟨⟨hk,h1⟩,h2⟩:=h
  have hk0:SS[k]?=some (.typed T):=by have:=hss 0;simpa using this.symm
  obtain ⟨r1,r2⟩:=wpT_extract SS vs os ss (k+1) ((k,T (vs k))::fs) (a.put o.dst (vs k)) (λj=>by have:=hss (j+1);rw [aC] at this;rw [this];congr 1;omega)
   (λp hp=>by
    rcases aL hp with rfl | hp
    .exact ⟨Nat.lt_succ_self _,λw hH=>hH _ hk0⟩
    .exact ⟨by have:=(hfs p hp).1;omega,(hfs p hp).2⟩) (h2 _)
  refine ⟨λj o' ho=>?_,λw hw hH=>?_⟩
  .cases j with
   | zero =>
    simp at ho;subst ho
    exact ⟨.typed T,rfl,λT' hT=>by injection hT with hT;subst hT;exact hk,λw hC hd=>h1 w hC (factsOn_of (H:=HoldsAt SS vs) hd (λp hp=>(hfs p hp).2))⟩
   | succ j=>exact r1 j o' (by simpa using ho)
  .exact r2 w hw (λi hi=>hH i (by simp at hi ⊢;omega))
def covB (ops:Array Oper):Nat->List Nat->Bool
 | 0,_=>true
 | i+1,S=>S.contains i && covB ops i (S++(match ops[i]? with | some o=>depsOf o | none=>[]))
end
theorem cov_all {listed:Array Bool}:∀(k:Nat) (S:List Nat),(∀(i:Nat) (o:Oper),i < k->ops[i]?=some o->listed.getD i false=true->∀e∈o.after,Region.binds .any e=true->listed.getD e.on false=true)->covB ops k S=true->(∀i∈S,listed.getD i false=true)->∀i,i < k->listed.getD i false=true
 | 0,_,_,_,_,i,hi=>by omega
 | k+1,S,hc,h,hS,i,hi=>by
  unfold covB at h
  rw [Bool.and_eq_true] at h
  have hk:listed.getD k false=true:=hS k (by simpa using h.1)
  rcases aj i k with hik | hik
  .refine cov_all k _ (λi o hi=>hc i o (by omega)) h.2 (λx hx=>?_) i hik
   rcases List.mem_append.1 hx with hx | hx
   .exact hS x hx
   .cases ho:ops[k]? with
    | none=>rw [ho] at hx;cases hx
    | some o =>
     rw [ho] at hx
     unfold depsOf at hx
     simp only [List.mem_map,List.mem_filter] at hx
     obtain ⟨e,⟨he,hb⟩,rfl⟩:=hx
     exact hc k o (Nat.lt_succ_self _) ho hk e (by simpa using he) hb
  .have:i=k:=by omega
   rw [this];exact hk
section
variable [Grow]
def typedB0 (ops:Array Oper) (size m:Nat):Bool :=
 Region.noSelect ops && (List.range m).all (λj=>match ops[j]? with
  | none=>false
  | some o =>
   (match o.dst with | some d=>decide (d < size) | none=>false) &&
   (List.range m).all λi=>match ops[i]? with
    | none=>false
    | some x=>(decide (i=j) || x.dst != o.dst) && (match x.dst with | some t=>!(o.looksAt ops).contains t || (decide (i < j) && (depsOf o).contains i) || (decide (j < i) && (depsOf x).contains j) | none=>true)) &&
 decide (m<=ops.size) && (List.range ops.size).all λj=>match ops[j]? with
  | none=>true
  | some o=>(o.after.all λe=>!Region.binds .any e || decide (e.on < j)) && (decide (j < m) || covB ops m (depsOf o) || (depsOf o).any λd=>decide (m<=d))
def chainB (ops:Array Oper) (m:Nat):Bool:=(List.range ops.size).all λj=>match ops[j]? with
  | none=>true
  | some o=>decide (j < m) || covB ops j (depsOf o)
def typedB (ops:Array Oper) (size m:Nat):Bool:=typedB0 ops size m && chainB ops m
structure Typed (ops:Array Oper) (size m:Nat):Prop where
 sel:Region.noSelect ops=true
 dst:∀(j:Nat) (o:Oper),j < m->ops[j]?=some o->∃d,o.dst=some d/\d < size
 back:∀(j:Nat) (o:Oper),ops[j]?=some o->∀e∈o.after,Region.binds .any e=true->e.on < j
 apart:∀(j:Nat) (o:Oper) (i:Nat) (x:Oper),j < m->i < m->ops[j]?=some o->ops[i]?=some x->i≠j->x.dst≠o.dst
 looks:∀(j:Nat) (o:Oper) (i:Nat) (x:Oper) (t:Tmp),j < m->i < m->ops[j]?=some o->ops[i]?=some x->x.dst=some t->t∈o.looksAt ops->(i < j/\i∈depsOf o)∨(j < i/\j∈depsOf x)
 le:m<=ops.size
 tail:∀(j:Nat) (o:Oper),m<=j->ops[j]?=some o->covB ops m (depsOf o)=true∨∃d∈depsOf o,m<=d
end
theorem typed_of {size m:Nat} (h:typedB0 ops size m=true):Typed ops size m:=by
 unfold typedB0 at h
 rw [Bool.and_eq_true,Bool.and_eq_true,Bool.and_eq_true] at h
 obtain ⟨⟨⟨hs,h⟩,hle⟩,ht⟩:=h
 rw [List.all_eq_true] at h ht
 have key:∀j o,j < m->ops[j]?=some o->_:=λj o hj ho=>h j (List.mem_range.2 hj)
 refine ⟨hs,λj o hj ho=>?_,λj o ho e he hb=>?_,λj o i x hj hi ho hx hne=>?_,λj o i x t hj hi ho hx hd ht=>?_,by simpa using hle,λj o hj ho=>?_⟩
 .have:=key j o hj ho
  simp only [ho,Bool.and_eq_true] at this
  have h1:=this.1
  cases hd:o.dst with
  | none=>rw [hd] at h1;simp at h1
  | some d=>rw [hd] at h1;exact ⟨d,rfl,by simpa using h1⟩
 .have:=ht j (List.mem_range.2 (Array.getElem?_eq_some_iff.1 ho).1)
  simp only [ho,Bool.and_eq_true] at this
  have h1:=Array.all_eq_true_iff_forall_mem.1 this.1 e he
  rw [hb] at h1
  simpa using h1
 .have:=key j o hj ho
  simp only [ho,Bool.and_eq_true,List.all_eq_true] at this
  have h1:=this.2 i (List.mem_range.2 hi)
  simp only [hx,Bool.and_eq_true,Bool.or_eq_true,decide_eq_true_eq] at h1
  rcases h1.1 with h1 | h1
  .exact absurd h1 hne
  .simpa using h1
 .have:=key j o hj ho
  simp only [ho,Bool.and_eq_true,List.all_eq_true] at this
  have h1:=this.2 i (List.mem_range.2 hi)
  simp only [hx,hd,Bool.and_eq_true,Bool.or_eq_true,decide_eq_true_eq] at h1
  rcases h1.2 with (h1 | h1) | h1
  .simp [ht] at h1
  .exact .inl ⟨h1.1,by simpa using h1.2⟩
  .exact .inr ⟨h1.1,by simpa using h1.2⟩
 .have:=ht j (List.mem_range.2 (Array.getElem?_eq_some_iff.1 ho).1)
  simp only [ho,Bool.and_eq_true,Bool.or_eq_true,decide_eq_true_eq] at this
  rcases this.2 with (h1 | h1) | h1
  .omega
  .exact .inl h1
  .refine .inr ?_
   rw [List.any_eq_true] at h1
   obtain ⟨d,hd,h1⟩:=h1
   exact ⟨d,hd,by simpa using h1⟩
section
variable [Grow]
def lead (ops:Array Oper) (m:Nat):List Oper:=ops.toList.take m
end
theorem lead_get {m i:Nat} (h:i < m):(lead ops m)[i]?=ops[i]?:=by unfold lead;rw [List.getElem?_take,if_pos h];simp
theorem lead_some {m i:Nat} {o:Oper} (h:(lead ops m)[i]?=some o):i < m/\ops[i]?=some o:=by
 unfold lead at h
 rw [List.getElem?_take] at h
 split at h
 .rename_i hl;exact ⟨hl,by simpa using h⟩
 .cases h
theorem lead_length {m:Nat} (h:m<=ops.size):(lead ops m).length=m:=by unfold lead;rw [List.length_take,Array.length_toList];omega
theorem put_size (a:Act) (d:Option Tmp) (v:Value):(a.put d v).tmps.size=a.tmps.size:=by cases d <;> simp [Act.put]
theorem put_defers (a:Act) (d:Option Tmp) (v:Value):(a.put d v).defers=a.defers:=by cases d <;> rfl
theorem put_same (a:Act) (d:Tmp) (v:Value) (h:d < a.tmps.size):(a.put (some d) v).tmps.getD d undef=v:=by simp [Act.put,h]
theorem put_other (a:Act) (d:Option Tmp) (v:Value) (t:Tmp) (h:d≠some t):(a.put d v).tmps.getD t undef=a.tmps.getD t undef:=by
 cases d with
 | none=>rfl
 | some d =>
  have hne:d≠t:=λe=>h (by rw [e])
  simp [Act.put,Array.getElem?_setIfInBounds_ne hne]
theorem frame_get (vs:Nat->Value):∀(os:List Oper) (ss:List Spec) (k:Nat) (a:Act) (j:Nat),
  (frameAt vs os ss k a j).defers=a.defers/\(frameAt vs os ss k a j).tmps.size=a.tmps.size /\
  (∀t,(∀i o,i < j->os[i]?=some o->o.dst≠some t)->(frameAt vs os ss k a j).tmps.getD t undef=a.tmps.getD t undef) /\
  (∀i o s d,i < j->os[i]?=some o->ss[i]?=some s->o.dst=some d->d < a.tmps.size->(∀i' o',i'≠i->os[i']?=some o'->o'.dst≠some d)->(frameAt vs os ss k a j).tmps.getD d undef=s.val (vs (k+i)))
 | [],ss,k,a,j=>by
  have e:frameAt vs [] ss k a j=a:=by cases ss <;> rfl
  rw [e]
  exact ⟨rfl,rfl,λ_ _=>rfl,λi o s d _ h=>by simp at h⟩
 | o::os,[],k,a,j=>by
  have e:frameAt vs (o::os) [] k a j=a:=rfl
  rw [e]
  exact ⟨rfl,rfl,λ_ _=>rfl,λi o s d _ _ h=>by simp at h⟩
 | o::os,s::ss,k,a,0=>⟨rfl,rfl,λ_ _=>rfl,λi o s d h=>by omega⟩
 | o::os,s::ss,k,a,j+1=>by
  obtain ⟨h1,h2,h3,h4⟩:=frame_get vs os ss (k+1) (a.put o.dst (s.val (vs k))) j
  refine ⟨by rw [frameAt,h1,put_defers],by rw [frameAt,h2,put_size],λt ht=>?_,λi o' s' d hi ho hs hd hlt hap=>?_⟩
  .rw [frameAt,h3 t (λi o' hi ho=>ht (i+1) o' (by omega) (by simpa using ho)),put_other]
   exact ht 0 o (by omega) rfl
  .cases i with
   | zero =>
    simp at ho hs;subst ho;subst hs
    rw [frameAt,h3 d (λi' o' hi' ho'=>hap (i'+1) o' (by omega) (by simpa using ho')),hd,put_same _ _ _ hlt]
    rfl
   | succ i =>
    rw [frameAt,h4 i o' s' d (by omega) (by simpa using ho) (by simpa using hs) hd (by rw [put_size];exact hlt) (λi' o'' hne ho''=>hap (i'+1) o'' (by omega) (by simpa using ho''))]
    congr 2;omega
theorem act_ext {a b:Act} (hd:a.defers=b.defers) (hs:a.tmps.size=b.tmps.size) (h:∀t,a.tmps.getD t undef=b.tmps.getD t undef):a=b:=by
 obtain ⟨ta,da⟩:=a
 obtain ⟨tb,db⟩:=b
 simp only at hd hs h
 subst hd
 congr 1
 apply Array.ext hs
 intro i h1 h2
 have:=h i
 simpa [h1,h2] using this
theorem eval_same {a b:Act} {x:Operand} (h:∀t,x=.tmp t->a.tmps.getD t undef=b.tmps.getD t undef):a.eval x=b.eval x:=by
 cases x with
 | tmp t=>exact h t rfl
 | _=>rfl
theorem wanted_same (o:Oper) {a b:Act} (hs:a.tmps.size=b.tmps.size) (h:∀t∈o.looksAt ops,a.tmps.getD t undef=b.tmps.getD t undef):Region.wanted o (yielded ops a.tmps)=Region.wanted o (yielded ops b.tmps):=by
 unfold Region.wanted
 cases hg:o.guard with
 | none=>rfl
 | some gw =>
  obtain ⟨g,want⟩:=gw
  have hy:yielded ops a.tmps g=yielded ops b.tmps g:=by
   unfold yielded
   cases ht:(ops[g]?).bind (·.dst) with
   | none=>rfl
   | some t =>
    have he:=h t (by simp [Oper.looksAt,hg,ht])
    simp only [Option.bind_some]
    by_cases hlt:t < a.tmps.size
    .have hlt':t < b.tmps.size:=by rw [<-hs];exact hlt
     simp only [Array.getElem?_eq_getElem hlt,Array.getElem?_eq_getElem hlt']
     simp only [Array.getD,hlt,hlt',dif_pos] at he
     rw [show a.tmps[t]=b.tmps[t] from he]
    .rw [Array.getElem?_eq_none (Nat.le_of_not_lt hlt),Array.getElem?_eq_none (by rw [<-hs];exact Nat.le_of_not_lt hlt)]
  simp only [hy]
theorem exec_same (o:Oper) (hs:∀cs b,o.op≠.select cs b) {a b:Act} (h:∀t∈o.looksAt ops,a.tmps.getD t undef=b.tmps.getD t undef):execOp a.eval o=execOp b.eval o :=
 execOp_congr o hs λx hx=>eval_same λt ht=>h t (by
  subst ht
  exact List.mem_append_left _ (List.mem_filterMap.2 ⟨.tmp t,by simpa using hx,rfl⟩))
theorem valAt_put {o:Oper} {a:Act} {d:Tmp} (hd:o.dst=some d) (hda:d < a.tmps.size) (v:Value):valAt o (a.put o.dst v)=v:=by
 simp only [valAt,hd];exact put_same _ _ _ hda
section
variable [Grow]
theorem gives_at {o:Oper} {a b:Act} {w:World} {R:Value->World->Prop} {Q':Exit->Act->World->Prop} {d:Tmp} (hd:o.dst=some d) (hda:d < a.tmps.size) (he:execOp a.eval o=execOp b.eval o)
  (hw:Region.wanted o (yielded ops a.tmps)=true) (h:Gives P ops o a w R):o.wp P b w (λa' w'=>∃v,a'=b.put o.dst v/\Grow.R w w'/\R v w') Q':=by
 unfold Gives wpList at h
 rw [if_pos hw] at h
 rcases h with h | ⟨_,_,_,h,_,_⟩
 case inr=>cases h
 simp only [wpList] at h
 unfold Oper.wp at *
 rw [he] at h
 generalize (execOp b.eval o).run P w=r at *
 have key:∀v w',PostT o a w R .normal (a.put o.dst v) w'->∃v',b.put o.dst v=b.put o.dst v'/\Grow.R w w'/\R v' w':=λv w' ⟨_,_,hb,hr⟩=>⟨v,rfl,hb,by rwa [valAt_put hd hda] at hr⟩
 cases r with
 | ok n w' =>
  cases n <;> simp only [Oper.upon] at h ⊢
  case value v=>exact key _ _ h
  case skip=>exact key _ _ h
  case defer f =>
   have e:=h.2.1
   rw [put_defers] at e
   simp at e
  case enter f args =>
   refine Calls.mono h λe w'' he=>?_
   cases e with
   | returned u=>exact key _ _ he
   | panicked c=>cases he.1
   | outgrown=>obtain ⟨_,_,he⟩:=he;cases he.1
  case row row args=>exact Rows.mono h λu w'' he=>key _ _ he
 | halt x w' =>
  cases x <;> simp only [Oper.upon] at h
  case panic u=>cases h.1
theorem gives_skip {o:Oper} {a:Act} {w:World} {R:Value->World->Prop} {d:Tmp} (hd:o.dst=some d) (hda:d < a.tmps.size) (hw:Region.wanted o (yielded ops a.tmps)=false) (h:Gives P ops o a w R):R undef w:=by
 unfold Gives wpList at h
 rw [if_neg (by rw [hw];simp)] at h
 have:=h.2.2.2
 rwa [valAt_put hd hda] at this
end
section
variable [Grow]
structure Mid (P:Program) (ops:Array Oper) (C:World->Prop) (SS:List Spec) (m:Nat) (a0:Act) (listed:Array Bool) (a:Act) (w:World):Prop where
 cls:C w
 defers:a.defers=a0.defers
 size:a.tmps.size=a0.tmps.size
 far:∀t,(∀(i:Nat) (o:Oper),i < m->ops[i]?=some o->o.dst≠some t)->a.tmps.getD t undef=a0.tmps.getD t undef
 near:∀(i:Nat) (o:Oper) (s:Spec) (d:Tmp),i < m->ops[i]?=some o->listed.getD i false=true->SS[i]?=some s->o.dst=some d->s.holds (a.tmps.getD d undef) w
 list:listed.size=ops.size
 tail:∀j,m<=j->listed.getD j false=false
 closed:∀(i:Nat) (o:Oper),i < m->ops[i]?=some o->listed.getD i false=true->∀e∈o.after,Region.binds .any e=true->listed.getD e.on false=true
 still:∀(i:Nat) (o:Oper) (d:Tmp),i < m->ops[i]?=some o->listed.getD i false=false->o.dst=some d->a.tmps.getD d undef=a0.tmps.getD d undef
def valsOf (ops:Array Oper) (a:Act) (i:Nat):Value:=match ops[i]? with
 | some o=>(match o.dst with | some d=>a.tmps.getD d undef | none=>undef)
 | none=>undef
end
theorem valsOf_at {a:Act} {i:Nat} {o:Oper} {d:Tmp} (ho:ops[i]?=some o) (hd:o.dst=some d):valsOf ops a i=a.tmps.getD d undef:=by
 simp only [valsOf,ho,hd]
section
variable {SS:List Spec} {m:Nat} {a0 a:Act} {listed:Array Bool} {w w':World}
theorem Mid.holdsAt (h:Mid P ops C SS m a0 listed a w) (ht:Typed ops a0.tmps.size m) {i:Nat} (him:i < m) (hi:listed.getD i false=true):HoldsAt SS (valsOf ops a) i w:=by
 intro s hs
 have hlt:i < ops.size:=by have:=ht.le;omega
 obtain ⟨d,hd,_⟩:=ht.dst i _ him (Array.getElem?_eq_getElem hlt)
 rw [valsOf_at (Array.getElem?_eq_getElem hlt) hd]
 exact h.near i _ s d him (Array.getElem?_eq_getElem hlt) hi hs hd
theorem holds_val {s:Spec} {v:Value} {w:World} (h:s.holds v w):s.val v=v:=by
 cases s with
 | exact c=>exact h.symm
 | typed T=>rfl
theorem Mid.agree (h:Mid P ops C SS m a0 listed a w) (ht:Typed ops a0.tmps.size m) {j:Nat} {o:Oper} (hjm:j < m) (hj:ops[j]?=some o)
  (hjl:listed.getD j false=false) (hall:∀e∈o.after,Region.binds .any e=true->listed.getD e.on false=true) (hSS:∀i,i < m->∃s,SS[i]?=some s) :
  ∀t∈o.looksAt ops,(frameAt (valsOf ops a) (lead ops m) SS 0 a0 j).tmps.getD t undef=a.tmps.getD t undef:=by
 intro t hlt
 obtain ⟨_,_,f3,f4⟩:=frame_get (valsOf ops a) (lead ops m) SS 0 a0 j
 by_cases hex:∃(i:Nat) (x:Oper),i < m/\ops[i]?=some x/\x.dst=some t
 .obtain ⟨i,x,him,hx,hd⟩:=hex
  rcases ht.looks j o i x t hjm him hj hx hd hlt with ⟨hij,hdep⟩ | ⟨hij,hdep⟩
  case inr =>
   have hil:listed.getD i false=false:=by
    cases hl:listed.getD i false with
    | false=>rfl
    | true =>
     unfold depsOf at hdep
     simp only [List.mem_map,List.mem_filter] at hdep
     obtain ⟨e,⟨he,hb⟩,rfl⟩:=hdep
     have:=h.closed i x him hx hl e (by simpa using he) hb
     rw [hjl] at this;cases this
   rw [h.still i x t him hx hil hd,f3 t (λi' x' hi' hx'=>by
    obtain ⟨hm',hx''⟩:=lead_some hx'
    rw [<-hd];exact λe=>ht.apart i x i' x' him hm' hx hx'' (by omega) e)]
  obtain ⟨s,hs⟩:=hSS i him
  obtain ⟨d',hd',hsz⟩:=ht.dst i x him hx
  obtain rfl:t=d':=by rw [hd] at hd';injection hd'
  rw [f4 i x s t hij (by rw [lead_get him];exact hx) hs hd hsz (λi' o' hne ho'=>by
   obtain ⟨hm',ho''⟩:=lead_some ho'
   rw [<-hd];exact λe=>ht.apart i x i' o' him hm' hx ho'' hne e),Nat.zero_add,valsOf_at hx hd]
  unfold depsOf at hdep
  simp only [List.mem_map,List.mem_filter] at hdep
  obtain ⟨e,⟨he,hb⟩,rfl⟩:=hdep
  exact holds_val (h.near _ x s t him hx (hall e (by simpa using he) hb) hs hd)
 .have hno:∀(i:Nat) (x:Oper),i < m->ops[i]?=some x->x.dst≠some t:=λi x him hx hd=>hex ⟨i,x,him,hx,hd⟩
  rw [f3 t (λi x _ hx=>by obtain ⟨hm',hx'⟩:=lead_some hx;exact hno i x hm' hx'),h.far t hno]
theorem Mid.all (h:Mid P ops C SS m a0 listed a w) (ht:Typed ops a0.tmps.size m) (hall:∀i,i < m->listed.getD i false=true) (hSS:∀i,i < m->∃s,SS[i]?=some s) :
  frameAt (valsOf ops a) (lead ops m) SS 0 a0 m=a:=by
 obtain ⟨f1,f2,f3,f4⟩:=frame_get (valsOf ops a) (lead ops m) SS 0 a0 m
 refine act_ext (f1.trans h.defers.symm) (f2.trans h.size.symm) λt=>?_
 by_cases hex:∃(i:Nat) (x:Oper),i < m/\ops[i]?=some x/\x.dst=some t
 .obtain ⟨i,x,him,hx,hd⟩:=hex
  obtain ⟨s,hs⟩:=hSS i him
  obtain ⟨d',hd',hsz⟩:=ht.dst i x him hx
  obtain rfl:t=d':=by rw [hd] at hd';injection hd'
  rw [f4 i x s t him (by rw [lead_get him];exact hx) hs hd hsz (λi' o' hne ho'=>by
   obtain ⟨hm',ho''⟩:=lead_some ho'
   rw [<-hd];exact λe=>ht.apart i x i' o' him hm' hx ho'' hne e),Nat.zero_add,valsOf_at hx hd]
  exact holds_val (h.near _ x s t him hx (hall i him) hs hd)
 .have hno:∀(i:Nat) (x:Oper),i < m->ops[i]?=some x->x.dst≠some t:=λi x him hx hd=>hex ⟨i,x,him,hx,hd⟩
  rw [f3 t (λi x _ hx=>by obtain ⟨hm',hx'⟩:=lead_some hx;exact hno i x hm' hx'),h.far t hno]
section
variable [Grow]
theorem Mid.put (h:Mid P ops C SS m a0 listed a w) (ht:Typed ops a0.tmps.size m) (hC:∀w w',C w->Grow.R w w'->C w') (hK:∀(i:Nat) T,i < m->SS[i]?=some (Spec.typed T)->Kept T)
  {j:Nat} {o:Oper} {s:Spec} {v:Value} (hall:∀e∈o.after,Region.binds .any e=true->listed.getD e.on false=true) (hjm:j < m) (hj:ops[j]?=some o) (hs:SS[j]?=some s) (hb:Grow.R w w') (hv:s.holds v w'):Mid P ops C SS m a0 (listed.setIfInBounds j true) (a.put o.dst v) w':=by
 obtain ⟨d,hd,hsz⟩:=ht.dst j o hjm hj
 refine ⟨hC _ _ h.cls hb,by rw [put_defers];exact h.defers,by rw [put_size];exact h.size,λt hno=>?_,λi x s' d' him hx hl hs' hd'=>?_,by simpa using h.list,λj' hj'=>by rw [getD_set_ne false (by omega)];exact h.tail j' hj',λi x him hx hl e he hb=>?_,λi x d' him hx hl hd'=>?_⟩
 .rw [put_other _ _ _ _ (hno j o hjm hj)];exact h.far t hno
 .by_cases hij:i=j
  .subst hij
   rw [hj] at hx;injection hx with hx;subst hx
   rw [hs] at hs';injection hs' with hs';subst hs'
   rw [hd] at hd';injection hd' with hd';subst hd'
   rw [hd,put_same _ _ _ (by rw [h.size];exact hsz)]
   exact hv
  .rw [put_other _ _ _ _ (by rw [<-hd'];exact λe=>ht.apart i x j o him hjm hx hj (Ne.symm hij) e)]
   have hl':listed.getD i false=true:=by rw [getD_set_ne false (Ne.symm hij)] at hl;exact hl
   have hn:=h.near i x s' d' him hx hl' hs' hd'
   cases s' with
   | exact c=>exact hn
   | typed T=>exact hK i T him hs' _ _ _ hn hb
 .by_cases hij:i=j
  .subst hij
   rw [hj] at hx;injection hx with hx;subst hx
   exact getD_set_true (hall e he hb)
  .rw [getD_set_ne false (Ne.symm hij)] at hl
   exact getD_set_true (h.closed i x him hx hl e he hb)
 .by_cases hij:i=j
  .subst hij
   exfalso
   have hz:i < listed.size:=by rw [h.list];exact (Array.getElem?_eq_some_iff.1 hj).1
   simp [hz] at hl
  .rw [put_other _ _ _ _ (by rw [<-hd'];exact λe=>ht.apart i x j o him hjm hx hj (Ne.symm hij) e)]
   exact h.still i x d' him hx (by rw [getD_set_ne false (Ne.symm hij)] at hl;exact hl) hd'
end
end
section
variable [Grow]
def upTo (n j:Nat):Array Bool:=Array.ofFn (n:=n) λi=>decide (i.val < j)
end
theorem upTo_size (n j:Nat):(upTo n j).size=n:=by simp [upTo]
theorem upTo_get {n j i:Nat} (h:i < n) (d:Bool):(upTo n j).getD i d=decide (i < j):=by
 unfold upTo
 rw [aA,Array.getElem?_ofFn,dif_pos h]
 rfl
theorem upTo_set {n j:Nat} (_h:j < n):(upTo n j).setIfInBounds j true=upTo n (j+1):=by
 apply Array.ext (by simp [upTo])
 intro i h1 h2
 have hn:i < n:=by rw [upTo_size] at h2;exact h2
 by_cases e:j=i
 .subst e;simp [upTo]
 .rw [Array.getElem_setIfInBounds_ne (by rw [upTo_size];exact hn) e]
  simp only [upTo,Array.getElem_ofFn]
  by_cases hij:i < j
  .have:=Nat.lt_succ_of_lt hij;simp [hij];omega
  .have:¬i < j+1:=by omega
   simp [hij,this]
section
variable [Grow]
def tailQ (P:Program) (ops:Array Oper) (m:Nat) (Q':Exit->Act->World->Prop) (a:Act) (w:World):Prop:=wpAny P .any ops Q' (ops.size - m) (upTo ops.size m) a w
end
theorem left_upTo (n:Nat):∀j,j<=n->((List.range n).filter λi=>!(upTo n j).getD i false).length=n - j:=by
 intro j hj
 have e:((List.range n).filter λi=>!(upTo n j).getD i false)=(List.range n).filter λi=>decide (j<=i):=List.filter_congr λi hi=>by
  rw [upTo_get (List.mem_range.1 hi)]
  by_cases h:i < j
  .have:¬j<=i:=by omega
   simp [h,this]
  .have:j<=i:=by omega
   simp [h,this]
 rw [e]
 clear e
 induction n with
 | zero=>simp
 | succ n ih =>
  rw [List.range_succ,List.filter_append,aK]
  rcases aj n j with h | h
  .have hnj:j=n+1:=by omega
   subst hnj
   have e0:(List.range n).filter (λi=>decide (n+1<=i))=[]:=by
    rw [List.filter_eq_nil_iff]
    intro i hi
    have:=List.mem_range.1 hi
    simp;omega
   rw [e0]
   simp
  .rw [ih h]
   simp [h];omega
theorem filter_one {α:Type} (p q:α->Bool) {x:α}:∀(l:List α),l.Nodup->x∈l->p x=true->q x=false->(∀y∈l,y≠x->q y=p y)->(l.filter p).length=(l.filter q).length+1
 | [],_,h,_,_,_=>by cases h
 | y::l,hn,h,hp,hq,hs=>by
  rw [List.nodup_cons] at hn
  rcases aL h with rfl | h
  .rw [List.filter_cons,List.filter_cons,if_pos hp,if_neg (by rw [hq];simp)]
   have:l.filter q=l.filter p:=List.filter_congr λz hz=>hs z (List.mem_cons_of_mem _ hz) (λe=>hn.1 (e ▸ hz))
   rw [this,List.length_cons]
  .have ih:=filter_one p q l hn.2 h hp hq (λz hz=>hs z (List.mem_cons_of_mem _ hz))
   have hyx:y≠x:=λe=>hn.1 (e ▸ h)
   have hy:=hs y List.mem_cons_self hyx
   rw [List.filter_cons,List.filter_cons,hy]
   split
   .rw [List.length_cons,List.length_cons,ih]
   .exact ih
section
variable [Grow]
theorem wpAny_typed {SS:List Spec} {m:Nat} {a0:Act} {Q':Exit->Act->World->Prop} (ht:Typed ops a0.tmps.size m) (hC:∀w w',C w->Grow.R w w'->C w')
  (h:wpT P ops C (tailQ P ops m Q') (lead ops m) SS 0 [] a0):∀(fuel:Nat) (listed:Array Bool) (a:Act) (w:World),((List.range ops.size).filter λi=>!listed.getD i false).length=fuel->Mid P ops C SS m a0 listed a w->wpAny P .any ops Q' fuel listed a w:=by
 have ext:=λvs=>wpT_extract (P:=P) (ops:=ops) (C:=C) (Q:=tailQ P ops m Q') SS vs (lead ops m) SS 0 [] a0 (λj=>by rw [Nat.zero_add]) (λp hp=>by cases hp) h
 have hle:=ht.le
 have hSS:∀i,i < m->∃s,SS[i]?=some s:=λi hi=>by
  obtain ⟨s,hs,_⟩:=(ext (λ_=>undef)).1 i ops[i] (by rw [lead_get hi];exact Array.getElem?_eq_getElem (by omega))
  exact ⟨s,hs⟩
 have hK:∀(i:Nat) T,i < m->SS[i]?=some (Spec.typed T)->Kept T:=λi T hlt hi=>by
  obtain ⟨s,hs,hk,_⟩:=(ext (λ_=>undef)).1 i ops[i] (by rw [lead_get hlt];exact Array.getElem?_eq_getElem (by omega))
  rw [hi] at hs;injection hs with hs;subst hs
  exact hk T rfl
 -- nothing of the first m waits: all of them have come up,and the frame is the walk's
 have full:∀(listed:Array Bool) (a:Act) (w:World),Mid P ops C SS m a0 listed a w->(∀i,i < m->listed.getD i false=true)->tailQ P ops m Q' a w:=λlisted a w hm hall=>by
  have hf:=(ext (valsOf ops a)).2 w hm.cls (λi hi=>by
   have hi':i < m:=by rw [lead_length hle] at hi;omega
   exact hm.holdsAt ht hi' (hall i hi'))
  rw [lead_length hle,hm.all ht hall hSS] at hf
  exact hf
 have alld:∀(listed:Array Bool) (a:Act) (w:World),Mid P ops C SS m a0 listed a w->Region.ready .any ops listed=[]->∀i,i < m->listed.getD i false=true:=λlisted a w hm hr i=>by
  induction i using Nat.strongRecOn with
  | ind i ih =>
   intro hi
   cases hl:listed.getD i false with
   | true=>rfl
   | false =>
    have hio:i < ops.size:=by omega
    have hmem:i∈Region.ready .any ops listed:=mem_ready.2 ⟨by
     have hz:i < listed.size:=by rw [hm.list];exact hio
     simpa [hz] using hl,ops[i],Array.getElem?_eq_getElem hio,λe he hb=>by
      have:=ht.back i _ (Array.getElem?_eq_getElem hio) e he hb
      exact ih e.on this (by omega)⟩
    rw [hr] at hmem;cases hmem
 have atEnd:∀(fuel:Nat) (listed:Array Bool) (a:Act) (w:World),((List.range ops.size).filter λi=>!listed.getD i false).length=fuel->Mid P ops C SS m a0 listed a w->(∀i,i < m->listed.getD i false=true)->wpAny P .any ops Q' fuel listed a w:=λfuel listed a w hf hm hall=>by
  have e:listed=upTo ops.size m:=by
   apply Array.ext (by rw [hm.list,upTo_size])
   intro i h1 h2
   have hz:i < ops.size:=by rw [upTo_size] at h2;exact h2
   have e1:listed.getD i false=listed[i]:=by simp [Array.getD,h1]
   have e2:(upTo ops.size m).getD i false=(upTo ops.size m)[i]:=by simp [Array.getD,h2]
   rw [<-e1,<-e2,upTo_get hz]
   rcases aj i m with h' | h'
   .rw [hall i h'];simp [h']
   .rw [hm.tail i h']
    have:¬i < m:=by omega
    simp [this]
  have hq:=full listed a w hm hall
  unfold tailQ at hq
  rw [e,left_upTo _ _ hle] at hf
  rw [e,<-hf]
  exact hq
 intro fuel
 induction fuel with
 | zero =>
  intro listed a w hf hm
  refine atEnd 0 listed a w hf hm λi hi=>?_
  cases hl:listed.getD i false with
  | true=>rfl
  | false =>
   have:i∈(List.range ops.size).filter λi=>!listed.getD i false:=List.mem_filter.2 ⟨List.mem_range.2 (by omega),by rw [hl];rfl⟩
   rw [List.eq_nil_of_length_eq_zero hf] at this
   cases this
 | succ fuel ih =>
  intro listed a w hf hm
  by_cases hend:∀i,i < m->listed.getD i false=true
  .exact atEnd _ listed a w hf hm hend
  refine ⟨λhr=>absurd (alld listed a w hm hr) hend,λj hj=>?_⟩
  obtain ⟨h0,o,ho,hall⟩:=mem_ready.1 hj
  have hlt:=(Array.getElem?_eq_some_iff.1 ho).1
  have hz:j < listed.size:=by rw [hm.list];exact hlt
  have hl0:listed.getD j false=false:=by simp [hz] at h0 ⊢;exact h0
  have hcount:((List.range ops.size).filter λi=>!(listed.setIfInBounds j true).getD i false).length=fuel:=by
   have:=filter_one (x:=j) (λi=>!listed.getD i false) (λi=>!(listed.setIfInBounds j true).getD i false) (List.range ops.size) List.nodup_range (List.mem_range.2 hlt) (by rw [hl0];rfl) (by simp [hz]) (λi _ h=>by
    rw [getD_set_ne false (Ne.symm h)])
   omega
  have hjm:j < m:=by
   rcases aj j m with h' | h'
   .exact h'
   .have hdl:∀i∈depsOf o,listed.getD i false=true:=λi hi=>by
     unfold depsOf at hi
     simp only [List.mem_map,List.mem_filter] at hi
     obtain ⟨e,⟨he,hb⟩,rfl⟩:=hi
     exact hall e (by simpa using he) hb
    rcases ht.tail j o h' ho with hcv | ⟨d,hd,hmd⟩
    .exact absurd (cov_all m (depsOf o) (λi o' hi ho' hl=>hm.closed i o' hi ho' hl) hcv hdl) hend
    .have h1:=hdl d hd
     rw [hm.tail d hmd] at h1;cases h1
  obtain ⟨s,hs,_,hcase⟩:=(ext (valsOf ops a)).1 j o (by rw [lead_get hjm];exact ho)
  have hag:=hm.agree ht hjm ho hl0 hall hSS
  obtain ⟨f1,f2,_,_⟩:=frame_get (valsOf ops a) (lead ops m) SS 0 a0 j
  have hsz:(frameAt (valsOf ops a) (lead ops m) SS 0 a0 j).tmps.size=a.tmps.size:=f2.trans hm.size.symm
  obtain ⟨d,hd,hdl⟩:=ht.dst j o hjm ho
  have hg1:=hcase w hm.cls (λi hi=>by
    unfold depsOf at hi
    simp only [List.mem_map,List.mem_filter] at hi
    obtain ⟨e,⟨he,hb⟩,rfl⟩:=hi
    exact hm.holdsAt ht (by have:=ht.back j o ho e (by simpa using he) hb;omega) (hall e (by simpa using he) hb))
  unfold wpOp
  simp only [ho]
  have hws:=wanted_same (ops:=ops) o hsz hag
  cases hw:Region.wanted o (yielded ops a.tmps)
  .rw [if_neg (by simp)]
   exact ih _ _ _ hcount (hm.put ht hC hK hall hjm ho hs (Grow.refl _) (gives_skip hd (by rw [f2];exact hdl) (hws.trans hw) hg1))
  .rw [if_pos rfl]
   refine .inl ?_
   refine Oper.wp_mono ?_ (gives_at hd (by rw [f2];exact hdl) (exec_same (ops:=ops) o (λcs b=>Region.noSelect_spec ht.sel j o cs b ho) hag) (hws.trans hw) hg1)
   rintro a' w' ⟨v,rfl,hb,hv⟩
   exact ih _ _ _ hcount (hm.put ht hC hK hall hjm ho hs hb hv)
end
theorem wpAny_chain {Q':Exit->Act->World->Prop} {m:Nat} (hback:∀(j:Nat) (o:Oper),ops[j]?=some o->∀e∈o.after,Region.binds .any e=true->e.on < j)
  (hch:∀(j:Nat) (o:Oper),m<=j->ops[j]?=some o->covB ops j (depsOf o)=true):∀(n j:Nat) (a:Act) (w:World),ops.size - j=n->m<=j->j<=ops.size->wpList P ops Q' (ops.toList.drop j) a w->wpAny P .any ops Q' n (upTo ops.size j) a w
 | 0,j,a,w,hn,hm,hj,h=>by
  have e:j=ops.size:=by omega
  refine ⟨?_,?_⟩
  .rw [List.eq_nil_iff_forall_not_mem]
   intro i hi
   obtain ⟨h0,o',ho',_⟩:=mem_ready.1 hi
   have hlt:=(Array.getElem?_eq_some_iff.1 ho').1
   rw [upTo_get hlt] at h0
   simp at h0;omega
  .rw [List.drop_eq_nil_iff.2 (by rw [Array.length_toList];omega)] at h
   exact h
 | n+1,j,a,w,hn,hm,hj,h=>by
  have hlt:j < ops.size:=by omega
  have hno:∀i∈Region.ready .any ops (upTo ops.size j),i=j:=λi hi=>by
   obtain ⟨h0,o',ho',hall⟩:=mem_ready.1 hi
   have hil:=(Array.getElem?_eq_some_iff.1 ho').1
   rw [upTo_get hil] at h0
   have hij:j<=i:=by simpa using h0
   rcases Nat.eq_or_lt_of_le hij with h' | h'
   .exact h'.symm
   .have:=cov_all (ops:=ops) (listed:=upTo ops.size j) i (depsOf o') (λx ox hx hox hl e he hb=>by
     have hxs:=(Array.getElem?_eq_some_iff.1 hox).1
     rw [upTo_get hxs] at hl
     have hxj:x < j:=by simpa using hl
     have:=hback x ox hox e he hb
     rw [upTo_get (by omega)]
     simp;omega) (hch i o' (by omega) ho') (λx hx=>by
     unfold depsOf at hx
     simp only [List.mem_map,List.mem_filter] at hx
     obtain ⟨e,⟨he,hb⟩,rfl⟩:=hx
     exact hall e (by simpa using he) hb) j h'
    rw [upTo_get hlt] at this
    simp at this
  have hmem:j∈Region.ready .any ops (upTo ops.size j):=mem_ready.2 ⟨by rw [upTo_get hlt];simp,ops[j],Array.getElem?_eq_getElem hlt,λe he hb=>by
   have:=hback j _ (Array.getElem?_eq_getElem hlt) e he hb
   rw [upTo_get (by omega)]
   simp;omega⟩
  refine ⟨λhr=>absurd hmem (by rw [hr];exact List.not_mem_nil),λi hi=>?_⟩
  obtain rfl:=hno i hi
  rw [List.drop_eq_getElem_cons (by rw [Array.length_toList];omega)] at h
  have next:∀(a:Act) (w:World),wpList P ops Q' (ops.toList.drop (i+1)) a w->wpAny P .any ops Q' n ((upTo ops.size i).setIfInBounds i true) a w:=λa w hq=>by
   rw [upTo_set hlt]
   exact wpAny_chain hback hch n (i+1) a w (by omega) (by omega) (by omega) hq
  unfold wpOp
  simp only [Array.getElem?_eq_getElem hlt]
  unfold wpList at h
  have eo:ops.toList[i]'(by rw [Array.length_toList];exact hlt)=ops[i]:=by simp
  rw [eo] at h
  split
  .rename_i hw
   rw [if_pos hw] at h
   exact h.imp (Oper.wp_mono (λa w hq=>next a w hq)) id
  .rename_i hw
   rw [if_neg hw] at h
   exact next _ _ h
section
variable [Grow]
theorem wp_region_typed0 {id:Nat} {l:List Oper} {a:Act} {w:World} {SS:List Spec} {Q':Exit->Act->World->Prop} {n m:Nat} {l1 l2:List Oper} (hl:l=l1++l2) (hlm:l1.length=m) (hm:P.follows .mixedOrders=true) (hn:a.tmps.size=n) (hB:typedB0 l.toArray n m=true)
  (hw:C w.drew) (hC:∀w w',C w->Grow.R w w'->C w') (h:wpT P l.toArray C (λa w=>wpAny P .any l.toArray Q' (l.toArray.size - m) (upTo l.toArray.size m) a w) l1 SS 0 [] a):(Code.region id l.toArray true).wp P Q' a w:=by
 have ht:=typed_of hB
 rw [<-hn] at ht
 have e1:lead l.toArray m=l1:=by unfold lead;rw [hl,<-hlm];simp
 have hz:∀i,(Array.replicate l.toArray.size false).getD i false=false:=λi=>by
   rcases aj i l.toArray.size with h' | h'
   .rw [aA,Array.getElem?_replicate,if_pos h'];rfl
   .rw [aA,Array.getElem?_replicate,if_neg (Nat.not_lt.2 h')];rfl
 refine wp_region_any hm (wpAny_typed (C:=C) (SS:=SS) (m:=m) ht hC (by rw [e1];exact h) _ _ _ _ ?_ ?_)
 .rw [List.filter_eq_self.2 (λi _=>by rw [hz i];rfl),List.length_range]
 .exact ⟨hw,rfl,rfl,λ_ _=>rfl,(λi o s d _ _ hl=>by rw [hz i] at hl;cases hl),by simp,λj _=>hz j,(λi o _ _ hl=>by rw [hz i] at hl;cases hl),λ_ _ _ _ _ _ _=>rfl⟩
theorem wpT_mono {Q1 Q2:Act->World->Prop} (hq:∀a w,Q1 a w->Q2 a w):∀(os:List Oper) (ss:List Spec) (k:Nat) (fs:List (Nat × (World->Prop))) (a:Act),wpT P ops C Q1 os ss k fs a->wpT P ops C Q2 os ss k fs a
 | [],_,_,_,_,h=>λw h1 h2=>hq _ _ (h w h1 h2)
 | _::_,[],_,_,_,h=>h
 | _::os,.exact _::ss,_,_,_,h=>⟨h.1,wpT_mono hq os ss _ _ _ h.2⟩
 | _::os,.typed _::ss,_,_,_,h=>⟨h.1,λv=>wpT_mono hq os ss _ _ _ (h.2 v)⟩
theorem wp_region_typed {id:Nat} {l:List Oper} {a:Act} {w:World} {SS:List Spec} {Q':Exit->Act->World->Prop} {n m:Nat} {l1 l2:List Oper} (hl:l=l1++l2) (hlm:l1.length=m) (hm:P.follows .mixedOrders=true) (hn:a.tmps.size=n) (hB:typedB l.toArray n m=true)
  (hw:C w.drew) (hC:∀w w',C w->Grow.R w w'->C w') (h:wpT P l.toArray C (λa w=>wpList P l.toArray Q' l2 a w) l1 SS 0 [] a):(Code.region id l.toArray true).wp P Q' a w:=by
 unfold typedB at hB
 rw [Bool.and_eq_true] at hB
 have ht:=typed_of hB.1
 have hc:=hB.2
 unfold chainB at hc
 rw [List.all_eq_true] at hc
 refine wp_region_typed0 hl hlm hm hn hB.1 hw hC (wpT_mono (λa w hq=>?_) _ _ _ _ _ h)
 have e2:l.toArray.toList.drop m=l2:=by rw [hl,<-hlm];simp
 rw [<-e2] at hq
 refine wpAny_chain ht.back (λj o hj ho=>?_) _ m a w rfl (ag _) ht.le hq
 have:=hc j (List.mem_range.2 (Array.getElem?_eq_some_iff.1 ho).1)
 simp only [ho,Bool.or_eq_true,decide_eq_true_eq] at this
 rcases this with h' | h'
 .omega
 .exact h'
end
section
variable {o:Oper} {os:List Oper} {ss:List Spec} {k:Nat} {fs:List (Nat × (World->Prop))} {a:Act}
section
variable [Grow]
theorem wpT_exact {c:Value} (h:∀w,C w->factsOn fs (depsOf o) w->Gives P ops o a w (λv _=>v=c)) (hr:wpT P ops C Q os ss (k+1) fs (a.put o.dst c)):wpT P ops C Q (o::os) (.exact c::ss) k fs a:=⟨h,hr⟩
theorem wpT_typed {T:Value->World->Prop} (hk:Kept T) (h:∀w,C w->factsOn fs (depsOf o) w->Gives P ops o a w T) (hr:∀v,wpT P ops C Q os ss (k+1) ((k,T v)::fs) (a.put o.dst v)):wpT P ops C Q (o::os) (.typed T::ss) k fs a:=⟨⟨hk,h⟩,hr⟩
theorem wpT_done (h:∀w,C w->allFacts fs w->Q a w):wpT P ops C Q [] [] k fs a:=h
end
end
end
end RG
@[reducible] def BG:Grow:=⟨λw w'=>Below w.heap.size w w',λw=>Below.refl _ w,λh k=>h.trans (k.mono h.size),λh=>h⟩
def Kept (T:Value->World->Prop):Prop:=∀v w w',T v w->Below w.heap.size w w'->T v w'
def valAt (o:Oper) (a:Act):Value:=match o.dst with
 | some d=>a.tmps.getD d undef
 | none=>undef
def PostT (o:Oper) (a:Act) (w:World) (R:Value->World->Prop) (e:Exit) (a':Act) (w':World):Prop:=e=.normal/\a'.defers=a.defers/\Below w.heap.size w w'/\R (valAt o a') w'
def Gives (P:Program) (ops:Array Oper) (o:Oper) (a:Act) (w:World) (R:Value->World->Prop):Prop:=wpList P ops (PostT o a w R) [o] a w
theorem postT_mk {o:Oper} {a a':Act} {w w':World} {R:Value->World->Prop} (hd:a'.defers=a.defers) (hb:Below w.heap.size w w') (hr:R (valAt o a') w'):PostT o a w R .normal a' w':=⟨rfl,hd,hb,hr⟩
theorem postT_val {o:Oper} {a a':Act} {w w':World} {c:Value} (hd:a'.defers=a.defers) (hb:Below w.heap.size w w') (hv:valAt o a'=c):PostT o a w (λv _=>v=c) .normal a' w':=⟨rfl,hd,hb,hv⟩
abbrev wpT (P:Program) (ops:Array Oper) (C:World->Prop) (Q:Act->World->Prop):=@RG.wpT P ops C Q BG
section
variable {P:Program} {ops:Array Oper} {C:World->Prop} {Q:Act->World->Prop}
theorem wp_region_typed {id:Nat} {l:List Oper} {a:Act} {w:World} {SS:List RG.Spec} {Q':Exit->Act->World->Prop} {n m:Nat} {l1 l2:List Oper} (hl:l=l1++l2) (hlm:l1.length=m) (hm:P.follows .mixedOrders=true) (hn:a.tmps.size=n) (hB:RG.typedB l.toArray n m=true)
  (hw:C w.drew) (hC:∀w w',C w->Below w.heap.size w w'->C w') (h:wpT P l.toArray C (λa w=>wpList P l.toArray Q' l2 a w) l1 SS 0 [] a):(Code.region id l.toArray true).wp P Q' a w :=
 letI:Grow:=BG
 RG.wp_region_typed hl hlm hm hn hB hw hC h
variable {o:Oper} {os:List Oper} {ss:List RG.Spec} {k:Nat} {fs:List (Nat × (World->Prop))} {a:Act}
theorem wpT_exact {c:Value} (h:∀w,C w->RG.factsOn fs (RG.depsOf o) w->Gives P ops o a w (λv _=>v=c)) (hr:wpT P ops C Q os ss (k+1) fs (a.put o.dst c)):wpT P ops C Q (o::os) (.exact c::ss) k fs a :=
 letI:Grow:=BG
 RG.wpT_exact h hr
theorem wpT_typed {T:Value->World->Prop} (hk:Kept T) (h:∀w,C w->RG.factsOn fs (RG.depsOf o) w->Gives P ops o a w T) (hr:∀v,wpT P ops C Q os ss (k+1) ((k,T v)::fs) (a.put o.dst v)):wpT P ops C Q (o::os) (.typed T::ss) k fs a :=
 letI:Grow:=BG
 RG.wpT_typed hk h hr
theorem wpT_done (h:∀w,C w->RG.allFacts fs w->Q a w):wpT P ops C Q [] [] k fs a:=h
end
theorem own_below {w w':World} {base n:Nat} {e:TypeId} {v:Value} {xs:List Value} (h:w.ownsRow base e 1 v n xs) (hb:Below w.heap.size w w'):w'.ownsRow base e 1 v n xs :=
 h.kept (row:=none) ⟨hb.os,hb.tape,hb.output,hb.size,λi hi _=>hb.block i hi⟩ (by cases v <;> simp [Value.ownBlock];rename_i a _ _;cases a <;> simp)
def inI (n:Int):Prop:=-9223372036854775808<=n/\n<=9223372036854775807
def around (n m:Int):Int:=if m < 1 then 0 else (if n < 0 then -(n+1) else n) % m
theorem around_bd (n m:Int) (h:1<=m):0<=around n m/\around n m < m:=by
 unfold around
 rw [if_neg (by omega)]
 exact ⟨Int.emod_nonneg _ (by omega),Int.emod_lt_of_pos _ (by omega)⟩
theorem around_lo {n m:Int} (h:m < 1):around n m=0:=by unfold around;rw [if_pos h]
theorem around_neg {n m:Int} (h0:n < 0) (hm:¬m < 1):around n m=-((n+1).tmod m):=by
 unfold around
 rw [if_neg hm,if_pos h0,<-Int.neg_tmod,Int.tmod_eq_emod_of_nonneg (by omega)]
theorem around_pos {n m:Int} (h0:¬n < 0) (hm:¬m < 1):around n m=n % m:=by
 unfold around
 rw [if_neg hm,if_neg h0]
theorem tdiv_in (n k:Int) (h1:-9223372036854775808<=n) (h2:n<=9223372036854775807) (hk:1<=k):-9223372036854775808<=n.tdiv k/\n.tdiv k<=9223372036854775807:=by
 by_cases h0:0<=n
 .rw [Int.tdiv_eq_ediv_of_nonneg h0]
  have:=Int.ediv_le_self k h0
  have:=Int.ediv_nonneg h0 (show 0<=k by omega)
  omega
 .have e:n.tdiv k=-((-n) / k):=by rw [<-Int.tdiv_eq_ediv_of_nonneg (by omega),Int.neg_tdiv,Int.neg_neg]
  rw [e]
  have:=Int.ediv_le_self k (show 0<=-n by omega)
  have:=Int.ediv_nonneg (show 0<=-n by omega) (show 0<=k by omega)
  omega
def AllI (L:List Int):Prop:=∀x∈L,-9223372036854775808<=x/\x<=9223372036854775807
def AtBlk (B:Nat) (t:TypeId) (cs:Array Value) (v:Value) (w:World):Prop:=∃g,v=.pointer (some ⟨g,0,none⟩)/\B<=g/\Blk w g t cs
theorem atBlk_kept (B:Nat) (t:TypeId) (cs:Array Value):Kept (AtBlk B t cs):=λ_ _ _ ⟨g,h1,h2,h3⟩ hb=>⟨g,h1,h2,h3.below hb h3.lt⟩
def SlBlk (n:Nat) (t:TypeId) (cs:Array Value) (v:Value) (w:World):Prop:=∃g,v=.slice (some ⟨g,0,none⟩) n n/\Blk w g t cs
theorem slBlk_kept (n:Nat) (t:TypeId) (cs:Array Value):Kept (SlBlk n t cs):=λ_ _ _ ⟨g,h1,h2⟩ hb=>⟨g,h1,h2.below hb h2.lt⟩
def AtCell (u:Value) (v:Value) (w:World):Prop:=∃a,v=.pointer (some a)/\w.cell? a=some u
theorem atCell_kept (u:Value):Kept (AtCell u):=λ_ _ _ ⟨a,h1,h2⟩ hb=>⟨a,h1,(hb.cell (World.block_lt_of_cell? _ _ h2)).trans h2⟩
end
section
structure Chg (G:List Nat) (w w':World):Prop where
 os:w'.os=w.os
 tape:w'.tape=w.tape
 output:w'.output=w.output
 size:w.heap.size<=w'.heap.size
 block:∀k,k < w.heap.size->k∉G->w'.heap[k]?=w.heap[k]?
section
variable {G G':List Nat} {w w' w'':World}
theorem Chg.refl (G:List Nat) (w:World):Chg G w w:=⟨rfl,rfl,rfl,ag _,λ_ _ _=>rfl⟩
theorem Chg.trans (h:Chg G w w') (k:Chg G w' w''):Chg G w w'' :=
 ⟨k.os.trans h.os,k.tape.trans h.tape,k.output.trans h.output,ah h.size k.size,λi hi hg=>(k.block i (Nat.lt_of_lt_of_le hi h.size) hg).trans (h.block i hi hg)⟩
theorem Chg.mono (h:Chg G w w') (hs:∀g∈G,g∈G'∨w.heap.size<=g):Chg G' w w' :=
 ⟨h.os,h.tape,h.output,h.size,λk hk hg=>h.block k hk λhm=>(hs k hm).elim hg λhl=>by omega⟩
theorem Chg.of_below (h:Below w.heap.size w w'):Chg G w w':=⟨h.os,h.tape,h.output,h.size,λk hk _=>h.block k hk⟩
theorem Chg.alloc (w:World) (o:Obj):Chg G w (w.alloc o):=Chg.of_below (aP _ _)
theorem Chg.set_ (w:World) {p:Addr} (hp:p.block∈G) (u:Value):Chg G w (w.setCell p u) :=
 ⟨rfl,rfl,rfl,by simp [World.setCell],λk _ hg=>Below.heap_setCell _ _ _ _ (λe=>hg (e ▸ hp))⟩
theorem Chg.grown {row:Option Nat} (h:w.grownBy w' row) (hr:∀g,row=some g->g∈G):Chg G w w' :=
 ⟨h.os,h.tape,h.output,h.size,λk hk hg=>h.block k hk λe=>hg (hr k e.symm)⟩
theorem Chg.cell (h:Chg G w w') {p:Addr} {u:Value} (hg:p.block∉G) (hc:w.cell? p=some u):w'.cell? p=some u :=
 (World.cell?_of_block (h.block _ (World.block_lt_of_cell? _ _ hc) hg)).trans hc
end
class Mem (α:Type) where
 sz:Nat
 rep:List Nat->World->α->List Value->Prop
 len:∀{G:List Nat} {w:World} {a:α} {vs:List Value},rep G w a vs->vs.length=sz
 keep:∀{G:List Nat} {w w':World} {a:α} {vs:List Value},rep G w a vs->Chg G w w'->rep G w' a vs
 sub:∀{G G':List Nat} {w:World} {a:α} {vs:List Value},rep G w a vs->(∀g∈G',g∈G∨w.heap.size<=g)->rep G' w a vs
 one:∀{G:List Nat} {w:World} {a:α} {vs:List Value},rep G w a vs->∀u∈vs,u.oneCell'=true
instance:Mem Int where
 sz:=1
 rep _ _ a vs:=vs=[.int .i64 a]/\inI a
 len h:=by rw [h.1];rfl
 keep h _:=h
 sub h _:=h
 one h:=by rw [h.1];intro u hu;rw [List.mem_singleton] at hu;subst hu;rfl
instance:Mem UInt8 where
 sz:=1
 rep _ _ a vs:=vs=[.int .u8 a.toNat]
 len h:=by rw [h];rfl
 keep h _:=h
 sub h _:=h
 one h:=by rw [h];intro u hu;rw [List.mem_singleton] at hu;subst hu;rfl
instance:Mem Bool where
 sz:=1
 rep _ _ a vs:=vs=[.bool a]
 len h:=by rw [h];rfl
 keep h _:=h
 sub h _:=h
 one h:=by rw [h];intro u hu;rw [List.mem_singleton] at hu;subst hu;rfl
instance:Mem ByteArray where
 sz:=1
 rep _ _ a vs:=vs=[.string a]/\a.size<=9223372036854775807
 len h:=by rw [h.1];rfl
 keep h _:=h
 sub h _:=h
 one h:=by rw [h.1];intro u hu;rw [List.mem_singleton] at hu;subst hu;rfl
instance {α β:Type} [Mem α] [Mem β]:Mem (α × β) where
 sz:=Mem.sz α+Mem.sz β
 rep G w a vs:=∃us ts,vs=us++ts/\Mem.rep G w a.1 us/\Mem.rep G w a.2 ts
 len h:=by obtain ⟨us,ts,rfl,h1,h2⟩:=h;rw [aK,Mem.len h1,Mem.len h2]
 keep h hc:=by obtain ⟨us,ts,rfl,h1,h2⟩:=h;exact ⟨us,ts,rfl,Mem.keep h1 hc,Mem.keep h2 hc⟩
 sub h hc:=by obtain ⟨us,ts,rfl,h1,h2⟩:=h;exact ⟨us,ts,rfl,Mem.sub h1 hc,Mem.sub h2 hc⟩
 one h:=by
  obtain ⟨us,ts,rfl,h1,h2⟩:=h
  intro u hu
  rcases List.mem_append.1 hu with hu | hu
  .exact Mem.one h1 u hu
  .exact Mem.one h2 u hu
def SlAt {α:Type} [Mem α] (G:List Nat) (w:World) (A:Option Addr) (l:List α):Prop :=
 l=[]∨∃b o,A=some ⟨b,o,none⟩/\b < w.heap.size/\b∉G/\∀i (h:i < l.length),∃us,Mem.rep G w l[i] us/\∀j u,us[j]?=some u->w.cell? ⟨b,o+(i*Mem.sz α+j),none⟩=some u
section
variable {α:Type} [Mem α] {G G':List Nat} {w w':World} {A:Option Addr} {l:List α}
theorem SlAt.nil:SlAt (α:=α) G w A []:=.inl rfl
theorem SlAt.keep (h:SlAt G w A l) (hc:Chg G w w'):SlAt G w' A l:=by
 rcases h with h | ⟨b,o,hA,hb,hg,h⟩
 .exact .inl h
 .refine .inr ⟨b,o,hA,Nat.lt_of_lt_of_le hb hc.size,hg,λi hi=>?_⟩
  obtain ⟨us,h1,h2⟩:=h i hi
  exact ⟨us,Mem.keep h1 hc,λj u hu=>hc.cell hg (h2 j u hu)⟩
theorem SlAt.sub (h:SlAt G w A l) (hs:∀g∈G',g∈G∨w.heap.size<=g):SlAt G' w A l:=by
 rcases h with h | ⟨b,o,hA,hb,hg,h⟩
 .exact .inl h
 .refine .inr ⟨b,o,hA,hb,λhm=>(hs b hm).elim hg (λhl=>by omega),λi hi=>?_⟩
  obtain ⟨us,h1,h2⟩:=h i hi
  exact ⟨us,Mem.sub h1 hs,h2⟩
theorem SlAt.get (h:SlAt G w A l) (i:Nat) (hi:i < l.length):∃b o us,A=some ⟨b,o,none⟩/\b∉G/\Mem.rep G w l[i] us/\∀j u,us[j]?=some u->w.cell? ⟨b,o+(i*Mem.sz α+j),none⟩=some u:=by
 rcases h with h | ⟨b,o,hA,hb,hg,h⟩
 .subst h;simp at hi
 .obtain ⟨us,h1,h2⟩:=h i hi
  exact ⟨b,o,us,hA,hg,h1,h2⟩
theorem SlAt.take (h:SlAt G w A l) (k:Nat):SlAt G w A (l.take k):=by
 rcases h with h | ⟨b,o,hA,hb,hg,h⟩
 .subst h;simp [SlAt]
 .refine .inr ⟨b,o,hA,hb,hg,λi hi=>?_⟩
  rw [List.length_take] at hi
  obtain ⟨us,h1,h2⟩:=h i (by omega)
  exact ⟨us,by rw [List.getElem_take];exact h1,h2⟩
theorem SlAt.drop (h:SlAt G w A l) {k cap:Nat} (hk:k<=l.length) (hc:l.length<=cap):SlAt G w (if cap=k then A else A.map (·.add (k*Mem.sz α))) (l.drop k):=by
 by_cases hkl:k=l.length
 .left;simp [hkl]
 .rcases h with h | ⟨b,o,hA,hb,hg,h⟩
  .subst h;simp at hkl;exact absurd (by simpa using hk) hkl
  .subst hA
   rw [if_neg (by omega)]
   refine .inr ⟨b,o+k*Mem.sz α,?_,hb,hg,λi hi=>?_⟩
   .simp only [Option.map_some,Addr.add]
    split
    .rename_i h0;rw [h0];rfl
    .rfl
   .rw [List.length_drop] at hi
    obtain ⟨us,h1,h2⟩:=h (k+i) (by omega)
    refine ⟨us,by rw [List.getElem_drop];exact h1,λj u hu=>?_⟩
    have e:o+k*Mem.sz α+(i*Mem.sz α+j)=o+((k+i)*Mem.sz α+j):=by rw [Nat.add_mul];omega
    rw [e];exact h2 j u hu
end
instance {α:Type} [Mem α]:Mem (List α) where
 sz:=1
 rep G w l vs:=∃A c,vs=[.slice A l.length c]/\l.length<=c/\c<=9223372036854775807/\SlAt G w A l
 len h:=by obtain ⟨A,c,rfl,_⟩:=h;rfl
 keep h hc:=by obtain ⟨A,c,h1,h2,h3,h4⟩:=h;exact ⟨A,c,h1,h2,h3,h4.keep hc⟩
 sub h hc:=by obtain ⟨A,c,h1,h2,h3,h4⟩:=h;exact ⟨A,c,h1,h2,h3,h4.sub hc⟩
 one h:=by obtain ⟨A,c,rfl,_⟩:=h;intro u hu;rw [List.mem_singleton] at hu;subst hu;rfl
def Rep {α:Type} [Mem α] (G:List Nat) (w:World) (a:α) (v:Value):Prop:=Mem.rep G w a [v]
def RepS {α:Type} [Mem α] (G:List Nat) (w:World) (a:α) (v:Value):Prop:=∃us,v=.agg us.toArray/\Mem.rep G w a us
def Flat {α:Type} [Mem α] (G:List Nat) (w:World):List α->List Value->Prop
 | [],xs=>xs=[]
 | a::l,xs=>∃us ts,xs=us++ts/\Mem.rep G w a us/\Flat G w l ts
section
variable {α:Type} [Mem α] {G G':List Nat} {w w':World}
theorem Flat.len:∀{l:List α} {xs:List Value},Flat G w l xs->xs.length=l.length*Mem.sz α
 | [],xs,h=>by rw [show xs=[] from h];simp
 | a::l,xs,h=>by
  obtain ⟨us,ts,rfl,h1,h2⟩:=h
  rw [aK,Mem.len h1,Flat.len h2,List.length_cons,Nat.add_mul];omega
theorem Flat.keep (hc:Chg G w w'):∀{l:List α} {xs:List Value},Flat G w l xs->Flat G w' l xs
 | [],_,h=>h
 | _::_,_,h=>by
  obtain ⟨us,ts,rfl,h1,h2⟩:=h
  exact ⟨us,ts,rfl,Mem.keep h1 hc,Flat.keep hc h2⟩
theorem Flat.sub (hs:∀g∈G',g∈G∨w.heap.size<=g):∀{l:List α} {xs:List Value},Flat G w l xs->Flat G' w l xs
 | [],_,h=>h
 | _::_,_,h=>by
  obtain ⟨us,ts,rfl,h1,h2⟩:=h
  exact ⟨us,ts,rfl,Mem.sub h1 hs,Flat.sub hs h2⟩
theorem Flat.one:∀{l:List α} {xs:List Value},Flat G w l xs->∀u∈xs,u.oneCell'=true
 | [],xs,h,u,hu=>by rw [show xs=[] from h] at hu;cases hu
 | _::_,_,h,u,hu=>by
  obtain ⟨us,ts,rfl,h1,h2⟩:=h
  rcases List.mem_append.1 hu with hu | hu
  .exact Mem.one h1 u hu
  .exact Flat.one h2 u hu
theorem Flat.append:∀{l m:List α} {xs ys:List Value},Flat G w l xs->Flat G w m ys->Flat G w (l++m) (xs++ys)
 | [],m,xs,ys,h,hm=>by rw [show xs=[] from h];exact hm
 | a::l,m,xs,ys,h,hm=>by
  obtain ⟨us,ts,rfl,h1,h2⟩:=h
  exact ⟨us,ts++ys,by rw [List.append_assoc],h1,Flat.append h2 hm⟩
theorem Flat.single {a:α} {us:List Value} (h:Mem.rep G w a us):Flat G w [a] us:=⟨us,[],by simp,h,rfl⟩
theorem Flat.get:∀{l:List α} {xs:List Value},Flat G w l xs->∀i (hi:i < l.length),∃us,Mem.rep G w l[i] us/\∀j u,us[j]?=some u->xs[i*Mem.sz α+j]?=some u
 | [],_,_,i,hi=>by simp at hi
 | a::l,xs,h,i,hi=>by
  obtain ⟨us,ts,rfl,h1,h2⟩:=h
  cases i with
  | zero =>
   refine ⟨us,h1,λj u hu=>?_⟩
   rw [Nat.zero_mul,Nat.zero_add,List.getElem?_append_left (List.getElem?_eq_some_iff.1 hu).1];exact hu
  | succ i =>
   obtain ⟨vs,h3,h4⟩:=Flat.get h2 i (by simpa using hi)
   refine ⟨vs,h3,λj u hu=>?_⟩
   have hl:=Mem.len h1
   rw [List.getElem?_append_right (by rw [hl,Nat.add_mul];omega),hl]
   have e:(i+1)*Mem.sz α+j - Mem.sz α=i*Mem.sz α+j:=by rw [Nat.add_mul];omega
   rw [e];exact h4 j u hu
theorem SlAt.of_cells {l:List α} {xs:List Value} {g:Nat} (hf:Flat G w l xs) (hlt:g < w.heap.size) (hg:g∉G) (hc:∀j u,xs[j]?=some u->w.cell? ⟨g,j,none⟩=some u):SlAt G w (some ⟨g,0,none⟩) l:=by
 refine .inr ⟨g,0,rfl,hlt,hg,λi hi=>?_⟩
 obtain ⟨us,h1,h2⟩:=hf.get i hi
 refine ⟨us,h1,λj u hu=>?_⟩
 rw [Nat.zero_add];exact hc _ _ (h2 j u hu)
theorem SlAt.of_blk {l:List α} {xs:List Value} {g:Nat} {t:TypeId} (hf:Flat G w l xs) (hb:Blk w g t xs.toArray) (hg:g∉G):SlAt G w (some ⟨g,0,none⟩) l :=
 SlAt.of_cells hf hb.lt hg λj u hu=>by rw [hb.cell j];simpa using hu
theorem Rep.of_own {l:List α} {xs:List Value} {base:Nat} {e:TypeId} {v:Value} (h:w.ownsRow base e (Mem.sz α) v l.length xs) (hf:Flat G w l xs) (hg:∀g,v.ownBlock=some g->g∉G):Rep G w l v:=by
 rcases h.2 with ⟨rfl,h0⟩ | ⟨g,cap,cur,hv,_,hh,hnc,hcm,hcs,htk⟩
 .obtain rfl:l=[]:=List.eq_nil_of_length_eq_zero h0
  exact ⟨none,0,rfl,by simp,by omega,.nil⟩
 .subst hv
  refine ⟨some ⟨g,0,none⟩,cap,rfl,hnc,by unfold maxLen at hcm;omega,?_⟩
  have hlt:g < w.heap.size:=by
   rcases aj g w.heap.size with h' | h'
   .exact h'
   .rw [Array.getElem?_eq_none h'] at hh;cases hh
  refine SlAt.of_cells hf hlt (hg g rfl) λj u hu=>?_
  have:=h.cells (g:=g) rfl j u hu
  rw [Addr.add_lit,Nat.zero_add] at this
  exact this
end
def Keeps (P:List Nat->World->Prop):Prop:=(∀M W W',P M W->Chg M W W'->P M W')/\∀M M' W,P M W->(∀g∈M',g∈M∨W.heap.size<=g)->P M' W
section
variable {α:Type} [Mem α]
theorem keeps_rep (a:α) (vs:List Value):Keeps (λM W=>Mem.rep M W a vs):=⟨λ_ _ _ h hc=>Mem.keep h hc,λ_ _ _ h hs=>Mem.sub h hs⟩
theorem keeps_sl (A:Option Addr) (l:List α):Keeps (λM W=>SlAt M W A l):=⟨λ_ _ _ h hc=>h.keep hc,λ_ _ _ h hs=>h.sub hs⟩
theorem keeps_flat (l:List α) (xs:List Value):Keeps (λM W=>Flat M W l xs):=⟨λ_ _ _ h hc=>h.keep hc,λ_ _ _ h hs=>h.sub hs⟩
end
abbrev Box:=Nat × TypeId × Array Value
structure Held (w:World) (G M:List Nat) (bx:List Box) (L:List (List Nat->World->Prop)) (W:World):Prop where
 bl:Below w.heap.size w W
 mb:∀g∈M,g < W.heap.size
 gm:∀g∈G,g∈M
 bs:∀x∈bx,x.1∈M/\w.heap.size<=x.1/\Blk W x.1 x.2.1 x.2.2
 nd:(bx.map (·.1)).Nodup
 all:∀P∈L,Keeps P/\P M W
section
variable {w W W':World} {G M:List Nat} {bx:List Box} {L:List (List Nat->World->Prop)}
theorem held0 (w:World) (G:List Nat) (hG:∀g∈G,g < w.heap.size):Held w G G [] [] w:=⟨Below.refl _ _,hG,λ_ h=>h,λ_ h=>(by cases h),List.nodup_nil,λ_ h=>(by cases h)⟩
theorem Held.below (h:Held w G M bx L W) (hb:Below W.heap.size W W'):Held w G M bx L W' :=
 ⟨h.bl.trans (hb.mono h.bl.size),λg hg=>Nat.lt_of_lt_of_le (h.mb g hg) hb.size,h.gm,λx hx=>⟨(h.bs x hx).1,(h.bs x hx).2.1,(h.bs x hx).2.2.below hb (h.bs x hx).2.2.lt⟩,h.nd,λP hP=>⟨(h.all P hP).1,(h.all P hP).1.1 _ _ _ (h.all P hP).2 (Chg.of_below hb)⟩⟩
theorem Held.new (h:Held w G M bx L W) (cs:Array Value) (t:TypeId) {N:Nat} (hN:W.heap.size=N):Held w G (N::M) ((N,t,cs)::bx) L (W.alloc (.cells cs t)):=by
 subst hN
 refine ⟨h.bl.alloc h.bl.size _,λg hg=>?_,λg hg=>.tail _ (h.gm g hg),λx hx=>?_,?_,λP hP=>⟨(h.all P hP).1,?_⟩⟩
 .rcases aL hg with rfl | hg
  .simp
  .have:=h.mb g hg;simp;omega
 .rcases aL hx with rfl | hx
  .exact ⟨.head _,h.bl.size,Blk.new _ _ _⟩
  .exact ⟨.tail _ (h.bs x hx).1,(h.bs x hx).2.1,(h.bs x hx).2.2.alloc _⟩
 .rw [List.map_cons,List.nodup_cons]
  refine ⟨λhm=>?_,h.nd⟩
  obtain ⟨x,hx,he⟩:=List.mem_map.1 hm
  have:=(h.bs x hx).2.2.lt
  simp only at he
  omega
 .refine (h.all P hP).1.1 _ _ _ ((h.all P hP).1.2 M _ _ (h.all P hP).2 λg hg=>?_) (Chg.alloc _ _)
  rcases aL hg with rfl | hg
  .exact .inr (ag _)
  .exact .inl hg
theorem Held.add (h:Held w G M bx L W) {P:List Nat->World->Prop} (hk:Keeps P) (hp:P M W):Held w G M bx (P::L) W :=
 ⟨h.bl,h.mb,h.gm,h.bs,h.nd,λQ hQ=>by
  rcases aL hQ with rfl | hQ
  .exact ⟨hk,hp⟩
  .exact h.all Q hQ⟩
theorem Held.set_ {N:Nat} {t:TypeId} {cs:Array Value} {bx1 bx2:List Box} (h:Held w G M (bx1++(N,t,cs)::bx2) L W) (i:Nat) (u:Value):Held w G M (bx1++(N,t,cs.setIfInBounds i u)::bx2) L (W.setCell ⟨N,i,none⟩ u):=by
 have hN:=h.bs (N,t,cs) (List.mem_append_right _ (.head _))
 have nd:=h.nd
 rw [List.map_append,List.map_cons,List.nodup_append,List.nodup_cons] at nd
 refine ⟨h.bl.setCell (p:=⟨N,i,none⟩) hN.2.1 u,λg hg=>by simpa [World.setCell] using h.mb g hg,h.gm,λx hx=>?_,by simpa using h.nd,λP hP=>⟨(h.all P hP).1,(h.all P hP).1.1 _ _ _ (h.all P hP).2 (Chg.set_ W (p:=⟨N,i,none⟩) hN.1 u)⟩⟩
 have far:∀x:Box,x.1≠N->Blk W x.1 x.2.1 x.2.2->Blk (W.setCell ⟨N,i,none⟩ u) x.1 x.2.1 x.2.2:=λx hne hb=>hb.far hne u
 rcases List.mem_append.1 hx with hx | hx
 .have:=h.bs x (List.mem_append_left _ hx)
  refine ⟨this.1,this.2.1,far x (λe=>?_) this.2.2⟩
  exact nd.2.2 x.1 (List.mem_map.2 ⟨x,hx,rfl⟩) N (.head _) e
 .rcases aL hx with rfl | hx
  .exact ⟨hN.1,hN.2.1,hN.2.2.set_ i u⟩
  .have:=h.bs x (List.mem_append_right _ (.tail _ hx))
   refine ⟨this.1,this.2.1,far x (λe=>?_) this.2.2⟩
   exact nd.2.1.1 (e ▸ List.mem_map.2 ⟨x,hx,rfl⟩)
theorem Held.box {x:Box} (h:Held w G M bx L W) (hx:x∈bx):Blk W x.1 x.2.1 x.2.2:=(h.bs x hx).2.2
theorem Held.fact {P:List Nat->World->Prop} (h:Held w G M bx L W) (hP:P∈L):P M W:=(h.all P hP).2
theorem Held.less {L':List (List Nat->World->Prop)} {bx':List Box} (h:Held w G M bx L W) (hL:∀P∈L',P∈L) (hb:bx'.Sublist bx):Held w G M bx' L' W :=
 ⟨h.bl,h.mb,h.gm,λx hx=>h.bs x (hb.subset hx),(hb.map _).nodup h.nd,λP hP=>h.all P (hL P hP)⟩
def RowOk (w:World) (M:List Nat) (bx:List Box) (v:Value):Prop:=∀g,v.ownBlock=some g->g∈M/\w.heap.size<=g/\∀x∈bx,x.1≠g
theorem Held.grown {v v':Value} {base size n:Nat} {e:TypeId} {xs:List Value} (h:Held w G M bx L W) (hv:RowOk w M bx v) (hg:W.grownBy W' v.ownBlock) (hv':v'.ownBlock=v.ownBlock∨v'.ownBlock=some W.heap.size) (hown:W'.ownsRow base e size v' n xs) :
  ∃M',Held w G M' bx L W'/\RowOk w M' bx v'/\∀g∈M,g∈M':=by
 have hbl:Below w.heap.size w W':=h.bl.grown hg h.bl.size λk hk=>(hv k hk).2.1
 have hbs:∀x∈bx,Blk W' x.1 x.2.1 x.2.2:=λx hx=>(h.bs x hx).2.2.grown hg λhe=>(hv x.1 he.symm).2.2 x hx rfl
 have hch:Chg M W W':=Chg.grown hg λg he=>(hv g he).1
 rcases hv' with he | he
 .refine ⟨M,⟨hbl,λg hm=>Nat.lt_of_lt_of_le (h.mb g hm) hg.size,h.gm,λx hx=>⟨(h.bs x hx).1,(h.bs x hx).2.1,hbs x hx⟩,h.nd,λP hP=>⟨(h.all P hP).1,(h.all P hP).1.1 _ _ _ (h.all P hP).2 hch⟩⟩,λg hg'=>hv g (he ▸ hg'),λ_ hm=>hm⟩
 .have hlt:W.heap.size < W'.heap.size:=by
   rcases hown.2 with ⟨rfl,_⟩ | ⟨g,cap,cur,rfl,_,hh,_⟩
   .simp [Value.ownBlock] at he
   .simp only [Value.ownBlock,Option.some.injEq] at he
    subst he
    rcases aj W.heap.size W'.heap.size with h' | h'
    .exact h'
    .rw [Array.getElem?_eq_none h'] at hh;cases hh
  refine ⟨W.heap.size::M,⟨hbl,λg hm=>?_,λg hm=>.tail _ (h.gm g hm),λx hx=>⟨.tail _ (h.bs x hx).1,(h.bs x hx).2.1,hbs x hx⟩,h.nd,λP hP=>⟨(h.all P hP).1,?_⟩⟩,λg hg'=>?_,λ_ hm=>.tail _ hm⟩
  .rcases aL hm with rfl | hm
   .exact hlt
   .exact Nat.lt_of_lt_of_le (h.mb g hm) hg.size
  .refine (h.all P hP).1.1 _ _ _ ((h.all P hP).1.2 M _ _ (h.all P hP).2 λg hm=>?_) (hch.mono λg hm=>.inl (.tail _ hm))
   rcases aL hm with rfl | hm
   .exact .inr (ag _)
   .exact .inl hm
  .rw [he] at hg'
   obtain rfl:=Option.some.inj hg'
   exact ⟨.head _,h.bl.size,λx hx=>by have:=(h.bs x hx).2.2.lt;omega⟩
end
theorem wrapI {z:Int} (h:inI z):IntKind.i64.wrap z=z:=by
 unfold inI at h
 unfold IntKind.wrap IntKind.signed IntKind.bits
 simp
 omega
theorem RowOk.none_ {w:World} {M:List Nat} {bx:List Box} {n c:Nat}:RowOk w M bx (.slice none n c):=λg h=>by simp [Value.ownBlock] at h
theorem RowOk.mono {w:World} {M M':List Nat} {bx:List Box} {v:Value} (h:RowOk w M bx v) (hm:∀g∈M,g∈M'):RowOk w M' bx v:=λg hg=>⟨hm g (h g hg).1,(h g hg).2⟩
theorem RowOk.sub {w:World} {M:List Nat} {bx bx':List Box} {v:Value} (h:RowOk w M bx v) (hb:∀x∈bx',x∈bx):RowOk w M bx' v:=λg hg=>⟨(h g hg).1,(h g hg).2.1,λx hx=>(h g hg).2.2 x (hb x hx)⟩
theorem RowOk.new {w W:World} {M:List Nat} {bx:List Box} {v:Value} {N base size n:Nat} {e:TypeId} {xs:List Value} {x:Box} (h:RowOk w M bx v) (hown:W.ownsRow base e size v n xs) (hN:W.heap.size=N) (hx:x.1=N):RowOk w (N::M) (x::bx) v:=by
 intro g hg
 refine ⟨.tail _ (h g hg).1,(h g hg).2.1,λy hy=>?_⟩
 rcases aL hy with rfl | hy
 .rw [hx,<-hN]
  rcases hown.2 with ⟨rfl,_⟩ | ⟨g',cap,cur,rfl,_,hh,_⟩
  .simp [Value.ownBlock] at hg
  .simp only [Value.ownBlock,Option.some.injEq] at hg
   subst hg
   intro he
   rw [Array.getElem?_eq_none (by omega)] at hh;cases hh
 .exact (h g hg).2.2 y hy
theorem ownsRow_nil (w:World) (base:Nat) (e:TypeId) (size:Nat) (_hb:base<=w.heap.size):w.ownsRow base e size (.slice none 0 0) 0 []:=⟨by simp,.inl ⟨rfl,rfl⟩⟩
theorem owns_below {w w':World} {base n size:Nat} {e:TypeId} {v:Value} {xs:List Value} (h:w.ownsRow base e size v n xs) (hb:Below w.heap.size w w'):w'.ownsRow base e size v n xs:=by
 refine ⟨h.1,?_⟩
 rcases h.2 with h' | ⟨g,cap,cur,h1,h2,h3,h4⟩
 .exact .inl h'
 .refine .inr ⟨g,cap,cur,h1,h2,?_,h4⟩
  have hlt:g < w.heap.size:=by
   rcases aj g w.heap.size with h' | h'
   .exact h'
   .rw [Array.getElem?_eq_none h'] at h3;cases h3
  exact (hb.block g hlt).trans h3
theorem reads_blk {w:World} {g size m:Nat} {t:TypeId} {cs:Array Value} (h:Blk w g t cs) (hl:cs.size=m*size):Reads w w.heap.size size (some ⟨g,0,none⟩) m cs.toList :=
 ⟨by simpa using hl,λ_=>⟨_,rfl,h.lt,λj u hu=>by rw [Addr.add_lit,Nat.zero_add,h.cell j];simpa using hu⟩⟩
structure HRow (w:World) (G M:List Nat) (bx:List Box) (L:List (List Nat->World->Prop)) (e:TypeId) (size:Nat) (v:Value) (n:Nat) (xs:List Value) (W:World):Prop where
 h:Held w G M bx L W
 ok:RowOk w M bx v
 own:W.ownsRow w.heap.size e size v n xs
section
variable {w W W':World} {G M:List Nat} {bx:List Box} {L:List (List Nat->World->Prop)} {e:TypeId} {size n:Nat} {v:Value} {xs:List Value}
theorem HRow.below (h:HRow w G M bx L e size v n xs W) (hb:Below W.heap.size W W'):HRow w G M bx L e size v n xs W':=⟨h.h.below hb,h.ok,owns_below h.own hb⟩
theorem HRow.start (h:Held w G M bx L W):HRow w G M bx L e size (.slice none 0 0) 0 [] W:=⟨h,RowOk.none_,ownsRow_nil _ _ _ _ h.bl.size⟩
theorem HRow.add (h:HRow w G M bx L e size v n xs W) {P:List Nat->World->Prop} (hk:Keeps P) (hp:P M W):HRow w G M bx (P::L) e size v n xs W:=⟨h.h.add hk hp,h.ok,h.own⟩
theorem HRow.less {L':List (List Nat->World->Prop)} (h:HRow w G M bx L e size v n xs W) (hL:∀P∈L',P∈L):HRow w G M bx L' e size v n xs W:=⟨h.h.less hL (List.Sublist.refl _),h.ok,h.own⟩
theorem HRow.rest (h:HRow w G M bx L e size v n xs W) {b:Box} {bx':List Box} (hb:bx=b::bx'):HRow w G M bx' L e size v n xs W:=⟨h.h.less (λ_ h=>h) (hb ▸ .cons _ (List.Sublist.refl _)),h.ok.sub (λ_x hx=>hb ▸ .tail _ hx),h.own⟩
theorem HRow.freeze {α:Type} [Mem α] {l:List α} (h:HRow w G M bx L e size v n xs W) (hs:size=Mem.sz α) (hn:n=l.length) (hf:Flat M W l xs) (hG:∀g∈G,g < w.heap.size) :
  ∃A c,v=.slice A l.length c/\l.length<=c/\c<=9223372036854775807/\Held w G (bx.map (·.1)++G) bx ((λM W=>SlAt M W A l)::L) W:=by
 subst hs hn
 have hsub:∀g∈bx.map (·.1)++G,g∈M:=λg hg=>by
  rcases List.mem_append.1 hg with hg | hg
  .obtain ⟨x,hx,rfl⟩:=List.mem_map.1 hg
   exact (h.h.bs x hx).1
  .exact h.h.gm g hg
 have hr:Rep (bx.map (·.1)++G) W l v:=Rep.of_own h.own (hf.sub λg hg=>.inl (hsub g hg)) λg hg hm=>by
  rcases List.mem_append.1 hm with hm | hm
  .obtain ⟨x,hx,rfl⟩:=List.mem_map.1 hm
   exact (h.ok _ hg).2.2 x hx rfl
  .have:=hG g hm
   have:=(h.ok _ hg).2.1
   omega
 obtain ⟨A,c,h1,h2,h3,h4⟩:=hr
 injection h1 with h1 _
 refine ⟨A,c,h1,h2,h3,⟨h.h.bl,λg hg=>h.h.mb g (hsub g hg),λg hg=>List.mem_append_right _ hg,λx hx=>⟨List.mem_append_left _ (List.mem_map.2 ⟨x,hx,rfl⟩),(h.h.bs x hx).2⟩,h.h.nd,λP hP=>?_⟩⟩
 rcases aL hP with rfl | hP
 .exact ⟨keeps_sl A l,h4⟩
 .exact ⟨(h.h.all P hP).1,(h.h.all P hP).1.2 _ _ _ (h.h.all P hP).2 λg hg=>.inl (hsub g hg)⟩
end
theorem owns_mono {w:World} {base base' size n:Nat} {e:TypeId} {v:Value} {xs:List Value} (h:w.ownsRow base e size v n xs) (hb:base'<=base):w.ownsRow base' e size v n xs:=by
 refine ⟨h.1,?_⟩
 rcases h.2 with h' | ⟨g,cap,cur,h1,h2,h3⟩
 .exact .inl h'
 .exact .inr ⟨g,cap,cur,h1,ah hb h2,h3⟩
theorem Held.take {w W W':World} {G M:List Nat} {bx:List Box} {L:List (List Nat->World->Prop)} {e:TypeId} {size n:Nat} {v:Value} {xs:List Value} (h:Held w G M bx L W) (hb:Below W.heap.size W W') (hown:W'.ownsRow W.heap.size e size v n xs) :
  ∃M',HRow w G M' bx L e size v n xs W'/\∀g∈M,g∈M':=by
 have h':=h.below hb
 have hown':=owns_mono hown h.bl.size
 rcases hown.2 with ⟨rfl,_⟩ | ⟨g,cap,cur,rfl,hg,hh,_⟩
 .exact ⟨M,⟨h',RowOk.none_,hown'⟩,λ_ h=>h⟩
 .have hlt:g < W'.heap.size:=by
   rcases aj g W'.heap.size with h' | h'
   .exact h'
   .rw [Array.getElem?_eq_none h'] at hh;cases hh
  refine ⟨g::M,⟨⟨h'.bl,λk hk=>?_,λk hk=>.tail _ (h.gm k hk),λx hx=>⟨.tail _ (h'.bs x hx).1,(h'.bs x hx).2⟩,h.nd,λP hP=>⟨(h.all P hP).1,?_⟩⟩,λk hk=>?_,hown'⟩,λk hk=>.tail _ hk⟩
  .rcases aL hk with rfl | hk
   .exact hlt
   .exact h'.mb k hk
  .refine (h.all P hP).1.1 _ _ _ ((h.all P hP).1.2 M _ _ (h.all P hP).2 λk hk=>?_) (Chg.of_below hb)
   rcases aL hk with rfl | hk
   .exact .inr hg
   .exact .inl hk
  .simp only [Value.ownBlock,Option.some.injEq] at hk
   subst hk
   refine ⟨.head _,ah h.bl.size hg,λx hx he=>?_⟩
   have:=(h.bs x hx).2.2.lt
   omega
theorem HRow.set_ {w W:World} {G M:List Nat} {bx1 bx2:List Box} {L:List (List Nat->World->Prop)} {e:TypeId} {size n:Nat} {v:Value} {xs:List Value} {N:Nat} {t:TypeId} {cs:Array Value} (h:HRow w G M (bx1++(N,t,cs)::bx2) L e size v n xs W) (i:Nat) (u:Value) :
  HRow w G M (bx1++(N,t,cs.setIfInBounds i u)::bx2) L e size v n xs (W.setCell ⟨N,i,none⟩ u):=by
 refine ⟨h.h.set_ i u,λg hg=>⟨(h.ok g hg).1,(h.ok g hg).2.1,λx hx=>?_⟩,?_⟩
 .rcases List.mem_append.1 hx with hx | hx
  .exact (h.ok g hg).2.2 x (List.mem_append_left _ hx)
  .rcases aL hx with rfl | hx
   .exact (h.ok g hg).2.2 (N,t,cs) (List.mem_append_right _ (.head _))
   .exact (h.ok g hg).2.2 x (List.mem_append_right _ (.tail _ hx))
 .refine h.own.kept (row:=some N) ⟨rfl,rfl,rfl,by simp [World.setCell],λk _ hk=>Below.heap_setCell _ _ _ _ (λe=>hk (by rw [e]))⟩ (.inr λhe=>?_)
  exact (h.ok N he).2.2 (N,t,cs) (List.mem_append_right _ (.head _)) rfl
theorem HRow.lit (w:World) (e:TypeId) (u:Value):HRow w [] [w.heap.size] [] [] e 1 (.slice (some ⟨w.heap.size,0,none⟩) 1 1) 1 [u] (w.alloc (.cells #[u] e)) :=
 ⟨⟨(Below.refl _ _).alloc (ag _) _,λg hg=>by rw [List.mem_singleton.1 hg];simp,λ_ h=>(by cases h),λ_ h=>(by cases h),List.nodup_nil,λ_ h=>(by cases h)⟩,λg hg=>by
  simp only [Value.ownBlock,Option.some.injEq] at hg
  subst hg
  exact ⟨.head _,ag _,λ_ h=>(by cases h)⟩,own_lit (w:=w) (base:=w.heap.size) (e:=e) u (ag _)⟩
theorem flat_bytes {G:List Nat} {w:World}:∀l:List UInt8,Flat G w l (byteVals l)
 | []=>rfl
 | c::l=>⟨[.int .u8 c.toNat],byteVals l,rfl,rfl,flat_bytes l⟩
theorem byteVals_snoc (l:List UInt8) (b:UInt8):byteVals l++[.int .u8 b.toNat]=byteVals (l++[b]):=by simp [byteVals]
section
variable {P:Program}
theorem wpList_append_row {ops:Array Oper} {rest:List Oper} {o:Oper} {a:Act} {Q:Exit->Act->World->Prop} (hgd:o.guard=none) (s x:Operand) (t:TypeId)
  (ho:o.op=.call { callee:=.builtin .append,args:=#[s,x],argTypes:=#[t,t] })
  (e:TypeId) (i:TypeInfo) (z:Value) (size bytes:Nat) (ht:P.underlying t=some (.slice e)) (hi:P.info? e=some i) (hz:i.zero=some z)
  (hsize:i.size=size) (hby:i.bytes=bytes) (hzs:z.cells.size=size) (hsz:0 < size)
  {w W:World} {G M:List Nat} {bx:List Box} {L:List (List Nat->World->Prop)}
  {v:Value} {n:Nat} {xs:List Value} (H:HRow w G M bx L e size v n xs W) (hs:a.eval s=v)
  (B:Nat) (A:Option Addr) (m c:Nat) (news:List Value) (hx:a.eval x=.slice A m c) (hr:Reads W B size A m news) (h1:∀u∈news,u.oneCell'=true)
  (h63:n+m<=maxLen) (hbytes:(n+m)*bytes<=140737488355328)
  (h:∀v' W' M',HRow w G M' bx L e size v' (n+m) (xs++news) W'->(∀g∈M,g∈M')->wpList P ops Q rest (a.put o.dst v') W'):wpList P ops Q (o::rest) a W :=
 wpList_append_any W hgd s x t ho w.heap.size e i z size bytes ht hi hz hsize hby hzs hsz v n xs hs H.own B A m c news hx hr h1 h63 hbytes H.h.bl.size λv' W' h2 h3 h4=>by
  obtain ⟨M',k1,k2,k3⟩:=H.h.grown H.ok h3 h4 h2
  exact h v' W' M' ⟨k1,k2,h2⟩ k3
end
structure HRow2 (w:World) (G M:List Nat) (bx:List Box) (L:List (List Nat->World->Prop)) (e1:TypeId) (s1:Nat) (v1:Value) (n1:Nat) (xs1:List Value) (e2:TypeId) (s2:Nat) (v2:Value) (n2:Nat) (xs2:List Value) (W:World):Prop where
 r1:HRow w G M bx L e1 s1 v1 n1 xs1 W
 k2:RowOk w M bx v2
 o2:W.ownsRow w.heap.size e2 s2 v2 n2 xs2
section
variable {w W W':World} {G M:List Nat} {bx:List Box} {L:List (List Nat->World->Prop)} {e1 e2:TypeId} {s1 s2 n1 n2:Nat} {v1 v2:Value} {xs1 xs2:List Value}
theorem HRow2.swap (h:HRow2 w G M bx L e1 s1 v1 n1 xs1 e2 s2 v2 n2 xs2 W):HRow2 w G M bx L e2 s2 v2 n2 xs2 e1 s1 v1 n1 xs1 W:=⟨⟨h.r1.h,h.k2,h.o2⟩,h.r1.ok,h.r1.own⟩
theorem HRow2.below (h:HRow2 w G M bx L e1 s1 v1 n1 xs1 e2 s2 v2 n2 xs2 W) (hb:Below W.heap.size W W'):HRow2 w G M bx L e1 s1 v1 n1 xs1 e2 s2 v2 n2 xs2 W':=⟨h.r1.below hb,h.k2,owns_below h.o2 hb⟩
theorem HRow2.drew (h:HRow2 w G M bx L e1 s1 v1 n1 xs1 e2 s2 v2 n2 xs2 W):HRow2 w G M bx L e1 s1 v1 n1 xs1 e2 s2 v2 n2 xs2 W.drew:=h.below ⟨rfl,rfl,rfl,ag _,λ_ _=>rfl⟩
theorem HRow2.reset (h:HRow w G M bx L e1 s1 v1 n1 xs1 W):HRow2 w G M bx L e1 s1 v1 n1 xs1 e2 s2 (.slice none 0 0) 0 [] W:=⟨h,RowOk.none_,ownsRow_nil _ _ _ _ h.h.bl.size⟩
theorem HRow2.apart (h:HRow2 w G M bx L e1 s1 v1 n1 xs1 e2 s2 v2 n2 xs2 W) (hne:e1≠e2):v2.ownBlock=none∨v2.ownBlock≠v1.ownBlock:=by
 rcases h.o2.2 with ⟨rfl,_⟩ | ⟨g2,cap2,cur2,rfl,_,hh2,_⟩
 .exact .inl rfl
 .rcases h.r1.own.2 with ⟨rfl,_⟩ | ⟨g1,cap1,cur1,rfl,_,hh1,_⟩
  .right;simp [Value.ownBlock]
  .right
   simp only [Value.ownBlock,ne_eq,Option.some.injEq]
   intro he
   subst he
   rw [hh1] at hh2
   injection hh2 with hh2
   injection hh2 with _ hh2 _
   exact hne hh2
variable {P:Program}
theorem wpList_append_row2 {ops:Array Oper} {rest:List Oper} {o:Oper} {a:Act} {Q:Exit->Act->World->Prop} (hgd:o.guard=none) (s x:Operand) (t:TypeId)
  (ho:o.op=.call { callee:=.builtin .append,args:=#[s,x],argTypes:=#[t,t] })
  (i:TypeInfo) (z:Value) (bytes:Nat) (ht:P.underlying t=some (.slice e1)) (hi:P.info? e1=some i) (hz:i.zero=some z)
  (hsize:i.size=s1) (hby:i.bytes=bytes) (hzs:z.cells.size=s1) (hsz:0 < s1)
  (H:HRow2 w G M bx L e1 s1 v1 n1 xs1 e2 s2 v2 n2 xs2 W) (hne:e1≠e2) (hs:a.eval s=v1)
  (B:Nat) (A:Option Addr) (m c:Nat) (news:List Value) (hx:a.eval x=.slice A m c) (hr:Reads W B s1 A m news) (h1:∀u∈news,u.oneCell'=true)
  (h63:n1+m<=maxLen) (hbytes:(n1+m)*bytes<=140737488355328)
  (h:∀v' W' M',HRow2 w G M' bx L e1 s1 v' (n1+m) (xs1++news) e2 s2 v2 n2 xs2 W'->(∀g∈M,g∈M')->wpList P ops Q rest (a.put o.dst v') W'):wpList P ops Q (o::rest) a W :=
 wpList_append_any W hgd s x t ho w.heap.size e1 i z s1 bytes ht hi hz hsize hby hzs hsz v1 n1 xs1 hs H.r1.own B A m c news hx hr h1 h63 hbytes H.r1.h.bl.size λv' W' h2 h3 h4=>by
  obtain ⟨M',k1,k2,k3⟩:=H.r1.h.grown H.r1.ok h3 h4 h2
  exact h v' W' M' ⟨⟨k1,k2,h2⟩,H.k2.mono k3,H.o2.kept h3 (H.apart hne)⟩ k3
end
theorem keeps_blk (g:Nat) (t:TypeId) (cs:Array Value):Keeps (λM W=>g∉M/\Blk W g t cs) :=
 ⟨λ_ _ _ h hc=>⟨h.1,(hc.block g h.2.lt h.1).trans h.2⟩,λ_ _ _ h hs=>⟨λhm=>(hs g hm).elim h.1 λhl=>by have:=h.2.lt;omega,h.2⟩⟩
theorem Held.made {w W:World} {L:List (List Nat->World->Prop)} (h:Held w [] [] [] L W) (cs:Array Value) (t:TypeId) {N:Nat} (hN:W.heap.size=N):Held w [] [] [] ((λM W=>N∉M/\Blk W N t cs)::L) (W.alloc (.cells cs t)) :=
 (h.below (aP _ _)).add (keeps_blk N t cs) ⟨by simp,by subst hN;exact Blk.new _ _ _⟩
theorem owns_cell {w:World} {base size n c:Nat} {e:TypeId} {A:Option Addr} {xs:List Value} (h:w.ownsRow base e size (.slice A n c) n xs) (hn:0 < n):∃g,A=some ⟨g,0,none⟩/\∀j u,xs[j]?=some u->w.cell? ⟨g,j,none⟩=some u:=by
 rcases h.2 with ⟨hv,h0⟩ | ⟨g,cap,cur,hv,_⟩
 .omega
 .injection hv with h1 h2 h3
  refine ⟨g,h1,λj u hu=>?_⟩
  subst h1
  have:=h.cells (g:=g) rfl j u hu
  rw [Addr.add_lit,Nat.zero_add] at this
  exact this
namespace Dc
open Go.Lib
def isDig (c:UInt8):Bool:=decide (48<=c.toNat) && decide (c.toNat<=57)
theorem decDigits_lt:∀k u,u < 10 ^ k->1<=k->(decDigits u).length<=k:=by
  intro k
  induction k with
  | zero=>intro u _ h;omega
  | succ k ih =>
   intro u hu _
   rw [decDigits]
   split
   .simp
   .rename_i h10
    rw [Nat.pow_succ] at hu
    have hk:1<=k:=by
     rcases Nat.eq_zero_or_pos k with rfl | h'
     .simp at hu;omega
     .exact h'
    have:=ih (u / 10) (by omega) hk
    simp;omega
theorem decDigits_len (u:Nat) (h:u < 10000000000):(decDigits u).length<=10:=decDigits_lt 10 u h (by omega)
theorem itoa_len (n:Int) (h:n.natAbs < 10000000000):(itoa n).length<=11:=by
 unfold itoa
 have a:=decDigits_len n.natAbs h
 split
 .simp;omega
 .have b:=decDigits_len n.toNat (by omega);omega
def decV (l:List UInt8):Nat:=l.foldl (λa c=>10*a+(c.toNat - 48)) 0
theorem foldl_lt:∀(l:List UInt8) (a:Nat),l.all isDig=true->l.foldl (λa c=>10*a+(c.toNat - 48)) a < (a+1)*10 ^ l.length
 | [],a,_=>by simp
 | c::l,a,h=>by
  rw [List.all_cons,Bool.and_eq_true] at h
  have hc:=h.1
  simp only [isDig,Bool.and_eq_true,decide_eq_true_eq] at hc
  have ih:=foldl_lt l (10*a+(c.toNat - 48)) h.2
  rw [List.foldl_cons,List.length_cons,Nat.pow_succ]
  refine Nat.lt_of_lt_of_le ih ?_
  have:(10*a+(c.toNat - 48)+1)<=(a+1)*10:=by omega
  calc (10*a+(c.toNat - 48)+1)*10 ^ l.length<=((a+1)*10)*10 ^ l.length:=Nat.mul_le_mul_right _ this
   _=(a+1)*(10 ^ l.length*10):=by rw [Nat.mul_assoc,Nat.mul_comm 10]
theorem decV_lt (l:List UInt8) (h:l.all isDig=true):decV l < 10 ^ l.length:=by
 have:=foldl_lt l 0 h
 simpa [decV] using this
end Dc
abbrev Fld:=ByteArray × ByteArray × ByteArray × Int × Int × Int × List ByteArray × List Int
abbrev Knd:=ByteArray × Int × Int × List Fld
abbrev Lif:=ByteArray × List ByteArray × List (Int × Int)
abbrev Rul:=ByteArray × ByteArray × ByteArray × ByteArray × Int
abbrev Sch:=Int × List Knd × List Lif × List Rul
namespace Sc
def nm (f:Fld):ByteArray:=f.1
def of_ (f:Fld):ByteArray:=f.2.1
def up (f:Fld):ByteArray:=f.2.2.1
def kd (f:Fld):Int:=f.2.2.2.1
def lo (f:Fld):Int:=f.2.2.2.2.1
def hi (f:Fld):Int:=f.2.2.2.2.2.1
def words (f:Fld):List ByteArray:=f.2.2.2.2.2.2.1
def wts (f:Fld):List Int:=f.2.2.2.2.2.2.2
def flds (k:Knd):List Fld:=k.2.2.2
def kinds (x:Sch):List Knd:=x.2.1
end Sc
section
variable {G:List Nat} {w:World}
theorem rep_fld {f:Fld} {us:List Value} (h:Mem.rep G w f us):∃A c B d,us=[.string (Sc.nm f),.string (Sc.of_ f),.string (Sc.up f),.int .i64 (Sc.kd f),.int .i64 (Sc.lo f),.int .i64 (Sc.hi f),.slice A (Sc.words f).length c,.slice B (Sc.wts f).length d] /\
  SlAt G w A (Sc.words f)/\SlAt G w B (Sc.wts f)/\inI (Sc.kd f)/\inI (Sc.lo f)/\inI (Sc.hi f)/\(Sc.nm f).size<=9223372036854775807/\(Sc.of_ f).size<=9223372036854775807/\(Sc.up f).size<=9223372036854775807 /\
  (Sc.words f).length<=c/\c<=9223372036854775807/\(Sc.wts f).length<=d/\d<=9223372036854775807:=by
 obtain ⟨u1,t1,rfl,⟨rfl,a1⟩,u2,t2,rfl,⟨rfl,a2⟩,u3,t3,rfl,⟨rfl,a3⟩,u4,t4,rfl,⟨rfl,a4⟩,u5,t5,rfl,⟨rfl,a5⟩,u6,t6,rfl,⟨rfl,a6⟩,u7,t7,rfl,⟨A,c,rfl,b1,b2,b3⟩,⟨B,d,rfl,e1,e2,e3⟩⟩:=h
 exact ⟨A,c,B,d,rfl,b3,e3,a4,a5,a6,a1,a2,a3,b1,b2,e1,e2⟩
theorem rep_f8 {G : List Nat} {w : World} {nm of_ up : ByteArray} {kd lo hi : Int} {ws : List ByteArray} {ns : List Int} {us : List Value} (h : Mem.rep G w ((nm, of_, up, kd, lo, hi, ws, ns) : Fld) us) : ∃A c B d, us = [.string nm, .string of_, .string up, .int .i64 kd, .int .i64 lo, .int .i64 hi, .slice A ws.length c, .slice B ns.length d] /\ SlAt G w A ws /\ SlAt G w B ns /\ inI kd /\ inI lo /\ inI hi /\ nm.size <= 9223372036854775807 /\ of_.size <= 9223372036854775807 /\ up.size <= 9223372036854775807 /\ ws.length <= c /\ c <= 9223372036854775807 /\ ns.length <= d /\ d <= 9223372036854775807 := rep_fld h
theorem rep_knd {k:Knd} {us:List Value} (h:Mem.rep G w k us):∃A c,us=[.string k.1,.int .i64 k.2.1,.int .i64 k.2.2.1,.slice A (Sc.flds k).length c]/\SlAt G w A (Sc.flds k)/\inI k.2.1/\inI k.2.2.1/\k.1.size<=9223372036854775807/\(Sc.flds k).length<=c/\c<=9223372036854775807:=by
 obtain ⟨u1,t1,rfl,⟨rfl,a1⟩,u2,t2,rfl,⟨rfl,a2⟩,u3,t3,rfl,⟨rfl,a3⟩,⟨A,c,rfl,b1,b2,b3⟩⟩:=h
 exact ⟨A,c,rfl,b3,a2,a3,a1,b1,b2⟩
theorem rep_sch {x:Sch} {us:List Value} (h:Mem.rep G w x us):∃A c B d C e,us=[.int .i64 x.1,.slice A (Sc.kinds x).length c,.slice B x.2.2.1.length d,.slice C x.2.2.2.length e]/\SlAt G w A (Sc.kinds x)/\SlAt G w B x.2.2.1/\SlAt G w C x.2.2.2/\inI x.1 /\
  (Sc.kinds x).length<=c/\c<=9223372036854775807/\x.2.2.1.length<=d/\d<=9223372036854775807/\x.2.2.2.length<=e/\e<=9223372036854775807:=by
 obtain ⟨u1,t1,rfl,⟨rfl,a1⟩,u2,t2,rfl,⟨A,c,rfl,b1,b2,b3⟩,u3,t3,rfl,⟨B,d,rfl,c1,c2,c3⟩,⟨C,e,rfl,d1,d2,d3⟩⟩:=h
 exact ⟨A,c,B,d,C,e,rfl,b3,c3,d3,a1,b1,b2,c1,c2,d1,d2⟩
theorem knd_at {A:Option Addr} {l:List Knd} (h:SlAt G w A l) (k:Nat) (hk:k < l.length):∃b o B c,A=some ⟨b,o,none⟩/\b∉G /\
  w.cell? ⟨b,o+k*4,none⟩=some (.string l[k].1)/\w.cell? ⟨b,o+k*4+1,none⟩=some (.int .i64 l[k].2.1)/\w.cell? ⟨b,o+k*4+2,none⟩=some (.int .i64 l[k].2.2.1)/\w.cell? ⟨b,o+k*4+3,none⟩=some (.slice B (Sc.flds l[k]).length c) /\
  SlAt G w B (Sc.flds l[k])/\(Sc.flds l[k]).length<=c/\c<=9223372036854775807/\inI l[k].2.1/\inI l[k].2.2.1/\l[k].1.size<=9223372036854775807:=by
 obtain ⟨b,o,us,hA,hg,hr,hc⟩:=h.get k hk
 obtain ⟨B,c,rfl,s1,a1,a2,a3,a4,a5⟩:=rep_knd hr
 exact ⟨b,o,B,c,hA,hg,hc 0 _ rfl,hc 1 _ rfl,hc 2 _ rfl,hc 3 _ rfl,s1,a4,a5,a1,a2,a3⟩
theorem fld_at {A:Option Addr} {l:List Fld} (h:SlAt G w A l) (k:Nat) (hk:k < l.length):∃b o B c C d,A=some ⟨b,o,none⟩/\b∉G /\
  w.cell? ⟨b,o+k*8,none⟩=some (.string (Sc.nm l[k]))/\w.cell? ⟨b,o+k*8+1,none⟩=some (.string (Sc.of_ l[k]))/\w.cell? ⟨b,o+k*8+2,none⟩=some (.string (Sc.up l[k]))/\w.cell? ⟨b,o+k*8+3,none⟩=some (.int .i64 (Sc.kd l[k])) /\
  w.cell? ⟨b,o+k*8+4,none⟩=some (.int .i64 (Sc.lo l[k]))/\w.cell? ⟨b,o+k*8+5,none⟩=some (.int .i64 (Sc.hi l[k]))/\w.cell? ⟨b,o+k*8+6,none⟩=some (.slice B (Sc.words l[k]).length c)/\w.cell? ⟨b,o+k*8+7,none⟩=some (.slice C (Sc.wts l[k]).length d) /\
  SlAt G w B (Sc.words l[k])/\SlAt G w C (Sc.wts l[k])/\inI (Sc.kd l[k])/\inI (Sc.lo l[k])/\inI (Sc.hi l[k])/\(Sc.nm l[k]).size<=9223372036854775807:=by
 obtain ⟨b,o,us,hA,hg,hr,hc⟩:=h.get k hk
 obtain ⟨B,c,C,d,rfl,s1,s2,a1,a2,a3,a4,a5,a6,a7⟩:=rep_fld hr
 exact ⟨b,o,B,c,C,d,hA,hg,hc 0 _ rfl,hc 1 _ rfl,hc 2 _ rfl,hc 3 _ rfl,hc 4 _ rfl,hc 5 _ rfl,hc 6 _ rfl,hc 7 _ rfl,s1,s2,a1,a2,a3,a4⟩
theorem lst_at {α:Type} [Mem α] {A:Option Addr} {l:List (List α)} (h:SlAt G w A l) (k:Nat) (hk:k < l.length):∃b o B c,A=some ⟨b,o,none⟩/\b∉G/\w.cell? ⟨b,o+k,none⟩=some (.slice B l[k].length c)/\SlAt G w B l[k]/\l[k].length<=c/\c<=9223372036854775807:=by
 obtain ⟨b,o,us,hA,hg,⟨B,c,rfl,b1,b2,b3⟩,hc⟩:=h.get k hk
 refine ⟨b,o,B,c,hA,hg,?_,b3,b1,b2⟩
 have:=hc 0 _ rfl
 rw [show k*Mem.sz (List α)+0=k from Nat.mul_one k] at this
 exact this
theorem int_at {A:Option Addr} {l:List Int} (h:SlAt G w A l) (k:Nat) (hk:k < l.length):∃b o,A=some ⟨b,o,none⟩/\b∉G/\w.cell? ⟨b,o+k,none⟩=some (.int .i64 l[k])/\inI l[k]:=by
 obtain ⟨b,o,us,hA,hg,⟨rfl,hi⟩,hc⟩:=h.get k hk
 refine ⟨b,o,hA,hg,?_,hi⟩
 have:=hc 0 _ rfl
 rw [show k*Mem.sz Int+0=k from Nat.mul_one k] at this
 exact this
theorem str_at {A:Option Addr} {l:List ByteArray} (h:SlAt G w A l) (k:Nat) (hk:k < l.length):∃b o,A=some ⟨b,o,none⟩/\b∉G/\w.cell? ⟨b,o+k,none⟩=some (.string l[k])/\l[k].size<=9223372036854775807:=by
 obtain ⟨b,o,us,hA,hg,⟨rfl,hi⟩,hc⟩:=h.get k hk
 refine ⟨b,o,hA,hg,?_,hi⟩
 have:=hc 0 _ rfl
 rw [show k*Mem.sz ByteArray+0=k from Nat.mul_one k] at this
 exact this
end
namespace Vm
def isBlank (c:UInt8):Bool:=c == 32 || c == 10
def isTok (c:UInt8):Bool:=decide (33<=c.toNat) && decide (c.toNat<=126)
def skipN (s:List UInt8) (at_:Nat):Nat:=at_+((s.drop at_).takeWhile isBlank).length
def wordAt (s:List UInt8) (at_:Nat):List UInt8:=(s.drop at_).takeWhile isTok
def neg (w:List UInt8):Bool:=w.head? == some 45
def digs (w:List UInt8):List UInt8:=if neg w then w.tail else w
end Vm
namespace Vm
def scan (s:List UInt8):Nat->Nat->List (Nat × Nat) × Nat
 | 0,i=>([],i)
 | fuel+1,i=>if wordAt s (skipN s i)=[] then ([],skipN s i) else
   ((skipN s i,skipN s i+(wordAt s (skipN s i)).length)::(scan s fuel (skipN s i+(wordAt s (skipN s i)).length)).1,(scan s fuel (skipN s i+(wordAt s (skipN s i)).length)).2)
def piece (s:List UInt8) (a e:Nat):List UInt8:=(s.take e).drop a
theorem take_takeWhile (p:UInt8->Bool):∀l:List UInt8,l.take (l.takeWhile p).length=l.takeWhile p
 | []=>rfl
 | c::l=>by
  rw [List.takeWhile_cons]
  split
  .simp [take_takeWhile p l]
  .rfl
theorem scan_eq (s:List UInt8) (fuel i:Nat):scan s (fuel+1) i=if wordAt s (skipN s i)=[] then ([],skipN s i) else
   ((skipN s i,skipN s i+(wordAt s (skipN s i)).length)::(scan s fuel (skipN s i+(wordAt s (skipN s i)).length)).1,(scan s fuel (skipN s i+(wordAt s (skipN s i)).length)).2):=rfl
end Vm
namespace En
def nd (m:Nat):Nat:=if m < 1 then 0 else if m < 256 then 1 else if m < 65536 then 2 else if m < 16777216 then 3 else if m < 4294967296 then 4 else if m < 1099511627776 then 5 else if m < 281474976710656 then 6 else if m < 72057594037927936 then 7 else 8
def dg (m i:Nat):Nat:=m / 256 ^ i % 256
def mag (n:Int):Nat:=if n < 0 then (-1 - n).toNat else n.toNat
def flip (n:Int) (d:Nat):UInt8:=UInt8.ofNat (if n < 0 then 255 - d else d)
def head (n:Int):UInt8:=UInt8.ofNat (if n < 0 then 127 - nd (mag n) else 128+nd (mag n))
def tl (n:Int) (k:Nat):List UInt8:=(List.range k).reverse.map λi=>flip n (dg (mag n) i)
def int (n:Int):List UInt8:=head n::tl n (nd (mag n))
def ints (l:List Int):List UInt8:=int l.length++(l.map int).flatten
theorem nd_cases (m:Nat):(m < 1/\nd m=0)∨(1<=m/\m < 256/\nd m=1)∨(256<=m/\m < 65536/\nd m=2)∨(65536<=m/\m < 16777216/\nd m=3)∨(16777216<=m/\m < 4294967296/\nd m=4)∨(4294967296<=m/\m < 1099511627776/\nd m=5)∨(1099511627776<=m/\m < 281474976710656/\nd m=6)∨(281474976710656<=m/\m < 72057594037927936/\nd m=7)∨(72057594037927936<=m/\nd m=8):=by
 unfold nd
 by_cases h0:m < 1
 .rw [if_pos h0];omega
 .rw [if_neg h0]
  by_cases h1:m < 256
  .rw [if_pos h1];omega
  .rw [if_neg h1]
   by_cases h2:m < 65536
   .rw [if_pos h2];omega
   .rw [if_neg h2]
    by_cases h3:m < 16777216
    .rw [if_pos h3];omega
    .rw [if_neg h3]
     by_cases h4:m < 4294967296
     .rw [if_pos h4];omega
     .rw [if_neg h4]
      by_cases h5:m < 1099511627776
      .rw [if_pos h5];omega
      .rw [if_neg h5]
       by_cases h6:m < 281474976710656
       .rw [if_pos h6];omega
       .rw [if_neg h6]
        by_cases h7:m < 72057594037927936
        .rw [if_pos h7];omega
        .rw [if_neg h7]
         omega
theorem nd_le (m:Nat):nd m<=8:=by have:=nd_cases m;omega
theorem nd_lt (m:Nat) (h:m < 9223372036854775808):m < 256 ^ nd m:=by
 rcases nd_cases m with hc | hc | hc | hc | hc | hc | hc | hc | hc
 .obtain ⟨h1,h2⟩:=hc;rw [h2];omega
 all_goals (first | (obtain ⟨h1,h2,h3⟩:=hc;rw [h3];simp;omega) | (obtain ⟨h1,h3⟩:=hc;rw [h3];simp;omega))
theorem nd_ge (m:Nat) (h:nd m≠0):256 ^ (nd m - 1)<=m:=by
 rcases nd_cases m with hc | hc | hc | hc | hc | hc | hc | hc | hc
 .exact absurd hc.2 h
 all_goals (first | (obtain ⟨h1,h2,h3⟩:=hc;rw [h3];simp;omega) | (obtain ⟨h1,h3⟩:=hc;rw [h3];simp;omega))
theorem nd_at {m j:Nat} (h:m < 9223372036854775808):j < nd m↔0 < m / 256 ^ j:=by
 constructor
 .intro hj
  apply Nat.div_pos _ (Nat.pow_pos (by omega))
  exact ah (Nat.pow_le_pow_right (by omega) (by omega)) (nd_ge m (by omega))
 .intro hj
  rcases aj j (nd m) with h' | h'
  .exact h'
  .have h1:=nd_lt m h
   have h2:256 ^ nd m<=256 ^ j:=Nat.pow_le_pow_right (by omega) h'
   rw [Nat.div_eq_of_lt (by omega)] at hj
   omega
theorem mag_lt {n:Int} (h:inI n):mag n < 9223372036854775808:=by unfold mag;unfold inI at h;split <;> omega
theorem dg_lt (m i:Nat):dg m i < 256:=Nat.mod_lt _ (by omega)
theorem tl_snoc (n:Int) (k i:Nat) (h:i < k):(tl n k).take (k - i)=(tl n k).take (k - (i+1))++[flip n (dg (mag n) i)]:=by
 have hl:(tl n k).length=k:=by simp [tl]
 rw [show k - i=(k - (i+1))+1 by omega,List.take_succ_eq_append_getElem (by rw [hl];omega)]
 congr 2
 simp only [tl,List.getElem_map,List.getElem_reverse,List.getElem_range,List.length_range]
 congr 2
 omega
theorem tl_length (n:Int) (k:Nat):(tl n k).length=k:=by simp [tl]
theorem int_length (n:Int):(int n).length=1+nd (mag n):=by simp [int,tl_length];omega
theorem int_le (n:Int):(int n).length<=9:=by rw [int_length];have:=nd_le (mag n);omega
end En
theorem wpList_val {P:Program} {ops:Array Oper} {rest:List Oper} {o:Oper} {a:Act} {w:World} {Q:Exit->Act->World->Prop} {v:Value} (hg:o.guard=none) (h:(execOp a.eval o).run P w=.ok (.value v) w) (hr:wpList P ops Q rest (a.put o.dst v) w):wpList P ops Q (o::rest) a w :=
 wpList_plain hg λ_ hK=>by
  simp only [Oper.wp,h,Oper.upon]
  exact hK _ _ hr
theorem cells4 {w:World} {g:Nat} {t:TypeId} {a b c d:Value} (h:Blk w g t #[a,b,c,d]):w.cell? ⟨g,0,none⟩=some a/\w.cell? ⟨g,1,none⟩=some b/\w.cell? ⟨g,2,none⟩=some c/\w.cell? ⟨g,3,none⟩=some d:=⟨h.cell 0,h.cell 1,h.cell 2,h.cell 3⟩
theorem addr_inj {b o b' o':Nat} (h:(some ⟨b,o,none⟩:Option Addr)=some ⟨b',o',none⟩):b=b'/\o=o':=by
 injection h with h;injection h with h1 h2;exact ⟨h1,h2⟩
theorem atCell_of {w:World} {g i:Nat} {u:Value} (h:w.cell? ⟨g,i,none⟩=some u):AtCell u (.pointer (some ⟨g,i,none⟩)) w:=⟨_,rfl,h⟩
theorem getD_in {α:Type} {l:List α} {k:Nat} {d:α} (h:k < l.length):l.getD k d=l[k]:=by rw [List.getD_eq_getElem?_getD,List.getElem?_eq_getElem h];rfl
theorem cell_box1 (w:World) (t:TypeId) (u:Value):(w.alloc (.cells #[u] t)).cell? ⟨w.heap.size,0,none⟩=some u:=(Blk.new w t #[u]).cell 0
theorem take_snoc' {α:Type} (l:List α) (k:Nat) (h:k < l.length):l.take (k+1)=l.take k++[l[k]]:=List.take_succ_eq_append_getElem h
theorem byte_at {G:List Nat} {w:World} {A:Option Addr} {l:List UInt8} (h:SlAt G w A l) (k:Nat) (hk:k < l.length):∃b o,A=some ⟨b,o,none⟩/\b∉G/\w.cell? ⟨b,o+k,none⟩=some (.int .u8 l[k].toNat):=by
 obtain ⟨b,o,us,hA,hg,hr,hc⟩:=h.get k hk
 refine ⟨b,o,hA,hg,?_⟩
 have:=hc 0 _ (by rw [show us=[_] from hr];rfl)
 rw [show k*Mem.sz UInt8+0=k from Nat.mul_one k] at this
 exact this
theorem eq_prefix {α:Type} {a b:List α} {k n:Nat} (ha:a.length=n) (hb:b.length=n) (hk:n<=k) (h:∀j (h1:j < a.length) (h2:j < b.length),j < k->a[j]=b[j]):a=b :=
 List.ext_getElem (by omega) λj h1 h2=>h j h1 h2 (by omega)
theorem dec_of_len {α:Type} [DecidableEq α] {a b:List α} (h:a.length≠b.length):decide (a=b)=false:=ad λe=>h (by rw [e])
theorem dec_of_get {α:Type} [DecidableEq α] {a b:List α} {k:Nat} (h1:k < a.length) (h2:k < b.length) (h:a[k]≠b[k]):decide (a=b)=false:=ad λe=>h (by subst e;rfl)
set_option maxRecDepth 100000 in
theorem same_any (a b:List UInt8) (A B:Option Addr) (c d:Nat) (w:World) (ha:SlAt [] w A a) (hb:SlAt [] w B b) (hm:a.length<=9223372036854775807) (hm':b.length<=9223372036854775807) :
  Calls Tryz.prog 11 #[.slice A a.length c,.slice B b.length d] w λe w'=>e=.returned (.bool (decide (a=b)))/\Below w.heap.size w w':=by
 obtain ⟨n,hn⟩:=aX a.length
 obtain ⟨m,hm2⟩:=aX b.length
 rw [hn,hm2]
 rw [hn] at hm
 rw [hm2] at hm'
 by_cases he:n=m
 .subst he
  have HA:=aI ha;have HB:=aI hb;have HN:=aI hn;have HM:=aI hm2
  obtain ⟨r,hr⟩:∃r,decide (a=b)=r:=⟨_,rfl⟩
  rw [hr]
  have HR:=aI hr
  clear ha hb hn hm2 hr
  go_enter Tryz.func11,Tryz.ntmps11
  go_wp2_with fail
  go_loopg [5] n (λr i wr=>∃k:Nat,k+r=n/\i=.int .i64 k/\Below w.heap.size w wr/\∀j (h1:j < a.length) (h2:j < b.length),j < k->a[j]=b[j])
  case atStart=>exact ⟨0,by omega,rfl,Below.refl _ _,λ_ _ _ h=>by omega⟩
  case round =>
   obtain ⟨k,hk,rfl,hbl,hall⟩:=hrel
   have HL:=aI hbl;have HE:=aI hall
   clear hbl hall
   obtain ⟨wo,rfl⟩:=aY wr
   by_cases hlt:k < n
   .have hka:k < a.length:=by rw [HN.out];exact hlt
    have hkb:k < b.length:=by rw [HM.out];exact hlt
    have k0:(0:Int)<=(k:Int):=Int.natCast_nonneg _
    have k1:(k:Int) < (n:Int):=by omega
    obtain ⟨b1,o1,rfl,_,c1⟩:=byte_at (HA.out.keep (Chg.of_below HL.out)) k hka
    obtain ⟨b2,o2,rfl,_,c2⟩:=byte_at (HB.out.keep (Chg.of_below HL.out)) k hkb
    by_cases hx:a[k]=b[k]
    .have HX:=aI hx
     rw [<-hx] at c2
     clear hx
     generalize a[k].toNat=x at c1 c2
     have t1:((x:Int) != (x:Int))=false:=by simp
     go_wp2_with fail
     go_quiet (fail)
     go_wp2_with fail
     go_roundg (gk - 1)
     case measure=>omega
     case rel =>
      refine ⟨k+1,by omega,by go_num,?_,λj h1 h2 hj=>?_⟩
      .first | exact HL.out.drewN _ | exact HL.out.drew | exact ⟨HL.out.os,HL.out.tape,HL.out.output,HL.out.size,HL.out.block⟩
      .rcases aj j k with h' | h'
       .exact HE.out j h1 h2 h'
       .obtain rfl:j=k:=by omega
        exact HX.out
    .have HF:=aI (HR.out.symm.trans (dec_of_get hka hkb hx))
     have t1:(((a[k].toNat:Nat):Int) != ((b[k].toNat:Nat):Int))=true:=by
      rw [bne_iff_ne];intro h;exact hx (UInt8.toNat_inj.1 (by omega))
     generalize a[k].toNat=x at *
     generalize b[k].toNat=y at *
     clear hx
     go_wp2_with fail
     go_quiet (fail)
     go_wp2_with fail
     go_ret
     exact ⟨ret_bool HF.out.symm,by first | exact HL.out.drewN _ | exact HL.out.drew | exact ⟨HL.out.os,HL.out.tape,HL.out.output,HL.out.size,HL.out.block⟩⟩
   .have hkn:k=n:=by omega
    subst hkn
    have HF:=aI (HR.out.symm.trans (decide_eq_true (eq_prefix HN.out HM.out (ag _) HE.out)))
    go_wp2_with fail
    go_ret
    exact ⟨ret_bool HF.out.symm,HL.out⟩
 .have HR:=aI (dec_of_len (a:=a) (b:=b) (by omega))
  have t1:((n:Int) != (m:Int))=true:=by rw [bne_iff_ne];omega
  have t2:(n != m)=true:=by rw [bne_iff_ne];omega
  clear ha hb hn hm2
  go_enter Tryz.func11,Tryz.ntmps11
  go_wp2_with fail
  go_ret
  exact ⟨ret_bool HR.out.symm,Below.refl _ _⟩
theorem around_any (n m:Int) (w:World) (h1:-9223372036854775808<=n) (h2:n<=9223372036854775807) :
  Calls Tryz.prog 23 #[.int .i64 n,.int .i64 m] w λe w'=>e=.returned (.int .i64 (around n m))/\w=w':=by
 by_cases h0:n < 0
 .by_cases hm:m < 1
  .go_enter Tryz.func23,Tryz.ntmps23
   go_wp2
   go_ret
   exact ⟨ret_int (around_lo (by omega)).symm,rfl⟩
  .go_enter Tryz.func23,Tryz.ntmps23
   go_wp2
   go_ret
   exact ⟨ret_int (around_neg (by omega) (by omega)).symm,rfl⟩
 .by_cases hm:m < 1
  .go_enter Tryz.func23,Tryz.ntmps23
   go_wp2
   go_ret
   exact ⟨ret_int (around_lo (by omega)).symm,rfl⟩
  .go_enter Tryz.func23,Tryz.ntmps23
   go_wp2
   go_ret
   exact ⟨ret_int (around_pos (by omega) (by omega)).symm,rfl⟩
structure MkR (gm:Nat) (t:TypeId) (sl:Value) (W W':World):Prop where
 chg:Chg [gm] W W'
 box:∀i,inI i->Blk W gm t #[sl,.int .i64 i]->∃i',inI i'/\Blk W' gm t #[sl,.int .i64 i']
section
variable {gm:Nat} {t:TypeId} {sl:Value} {W W' W'':World}
theorem MkR.refl (gm:Nat) (t:TypeId) (sl:Value) (W:World):MkR gm t sl W W:=⟨Chg.refl _ _,λi h1 h2=>⟨i,h1,h2⟩⟩
theorem MkR.trans (h:MkR gm t sl W W') (k:MkR gm t sl W' W''):MkR gm t sl W W'' :=
 ⟨h.chg.trans k.chg,λi h1 h2=>by obtain ⟨i',h1',h2'⟩:=h.box i h1 h2;exact k.box i' h1' h2'⟩
theorem MkR.below (h:Below W.heap.size W W'):MkR gm t sl W W':=⟨Chg.of_below h,λi h1 h2=>⟨i,h1,h2.below h h2.lt⟩⟩
theorem MkR.set_ (i:Int) (_hi:inI i) (_hb:Blk W gm t #[sl,.int .i64 i]) (j:Int) (hj:inI j):MkR gm t sl W (W.setCell ⟨gm,1,none⟩ (.int .i64 j)) :=
 ⟨Chg.set_ W (p:=⟨gm,1,none⟩) (.head _) _,λ_i' _ hb'=>⟨j,hj,hb'.set_ 1 _⟩⟩
@[reducible] def mkGrow (gm:Nat) (t:TypeId) (sl:Value):Grow:=⟨MkR gm t sl,MkR.refl gm t sl,MkR.trans,MkR.below⟩
variable {w:World} {G M:List Nat} {bx:List Box} {L:List (List Nat->World->Prop)}
theorem Held.mkr {i:Int} (h:Held w G M ((gm,t,#[sl,.int .i64 i])::bx) L W) (hi:inI i) (hr:MkR gm t sl W W'):∃i',inI i'/\Held w G M ((gm,t,#[sl,.int .i64 i'])::bx) L W':=by
 have hb:=h.bs (gm,t,#[sl,.int .i64 i]) (.head _)
 obtain ⟨i',hi',hb'⟩:=hr.box i hi hb.2.2
 have nd:=h.nd
 rw [List.map_cons,List.nodup_cons] at nd
 refine ⟨i',hi',⟨⟨hr.chg.os.trans h.bl.os,hr.chg.tape.trans h.bl.tape,hr.chg.output.trans h.bl.output,ah h.bl.size hr.chg.size,λk hk=>?_⟩,λg hg=>Nat.lt_of_lt_of_le (h.mb g hg) hr.chg.size,h.gm,λx hx=>?_,h.nd,λP hP=>⟨(h.all P hP).1,?_⟩⟩⟩
 .refine (hr.chg.block k (Nat.lt_of_lt_of_le hk h.bl.size) λhm=>?_).trans (h.bl.block k hk)
  have e:k=gm:=by simpa using hm
  have:=hb.2.1
  simp only at this
  omega
 .rcases aL hx with rfl | hx'
  .exact ⟨hb.1,hb.2.1,hb'⟩
  .have h1:=h.bs x (.tail _ hx')
   refine ⟨h1.1,h1.2.1,(hr.chg.block x.1 h1.2.2.lt λhm=>?_).trans h1.2.2⟩
   have e:x.1=gm:=by simpa using hm
   exact nd.1 (e ▸ List.mem_map.2 ⟨x,hx',rfl⟩)
 .exact (h.all P hP).1.1 _ _ _ (h.all P hP).2 (hr.chg.mono λg hg=>by rw [List.mem_singleton.1 hg];exact .inl hb.1)
end
structure Rw where
 e:TypeId
 size:Nat
 v:Value
 n:Nat
 xs:List Value
def RwApart (r s:Rw):Prop:=∀g,r.v.ownBlock=some g->s.v.ownBlock≠some g
theorem RwApart.symm {r s:Rw} (h:RwApart r s):RwApart s r:=λg h1 h2=>h g h2 h1
theorem RwApart.nil {e:TypeId} {size:Nat} {s:Rw}:RwApart ⟨e,size,.slice none 0 0,0,[]⟩ s:=λg h=>by simp [Value.ownBlock] at h
structure HR (w:World) (G M:List Nat) (bx:List Box) (rs:List Rw) (L:List (List Nat->World->Prop)) (W:World):Prop where
 h:Held w G M bx L W
 ok:∀r∈rs,RowOk w M bx r.v
 own:∀r∈rs,W.ownsRow w.heap.size r.e r.size r.v r.n r.xs
 apart:rs.Pairwise RwApart
section
variable {w W W':World} {G M:List Nat} {bx:List Box} {rs:List Rw} {r:Rw} {L:List (List Nat->World->Prop)}
theorem HR.start (h:Held w G M bx L W):HR w G M bx [] L W:=⟨h,λ_ h=>(by cases h),λ_ h=>(by cases h),List.Pairwise.nil⟩
theorem HR.below (h:HR w G M bx rs L W) (hb:Below W.heap.size W W'):HR w G M bx rs L W':=⟨h.h.below hb,h.ok,λr hr=>owns_below (h.own r hr) hb,h.apart⟩
theorem HR.drew (h:HR w G M bx rs L W):HR w G M bx rs L W.drew:=h.below ⟨rfl,rfl,rfl,ag _,λ_ _=>rfl⟩
theorem HR.drewN (h:HR w G M bx rs L W) (n:Nat):HR w G M bx rs L (W.drewN n):=h.below ⟨rfl,rfl,rfl,ag _,λ_ _=>rfl⟩
theorem HR.add (h:HR w G M bx rs L W) {P:List Nat->World->Prop} (hk:Keeps P) (hp:P M W):HR w G M bx rs (P::L) W:=⟨h.h.add hk hp,h.ok,h.own,h.apart⟩
theorem HR.less {L':List (List Nat->World->Prop)} (h:HR w G M bx rs L W) (hL:∀P∈L',P∈L):HR w G M bx rs L' W:=⟨h.h.less hL (List.Sublist.refl _),h.ok,h.own,h.apart⟩
theorem HR.boxes {bx':List Box} (h:HR w G M bx rs L W) (hb:bx'.Sublist bx):HR w G M bx' rs L W:=⟨h.h.less (λ_ h=>h) hb,λr hr=>(h.ok r hr).sub (λ_x hx=>hb.subset hx),h.own,h.apart⟩
theorem HR.bperm {bx':List Box} (h:HR w G M bx rs L W) (hb:bx.Perm bx'):HR w G M bx' rs L W :=
 ⟨⟨h.h.bl,h.h.mb,h.h.gm,λx hx=>h.h.bs x (hb.mem_iff.2 hx),(hb.map _).nodup_iff.1 h.h.nd,h.h.all⟩,λr hr=>(h.ok r hr).sub (λ_x hx=>hb.mem_iff.2 hx),h.own,h.apart⟩
theorem HR.perm {rs':List Rw} (h:HR w G M bx rs L W) (hp:rs.Perm rs'):HR w G M bx rs' L W :=
 ⟨h.h,λr hr=>h.ok r (hp.mem_iff.2 hr),λr hr=>h.own r (hp.mem_iff.2 hr),(hp.pairwise_iff RwApart.symm).1 h.apart⟩
theorem HR.drop (h:HR w G M bx (r::rs) L W):HR w G M bx rs L W:=⟨h.h,λs hs=>h.ok s (.tail _ hs),λs hs=>h.own s (.tail _ hs),(List.pairwise_cons.1 h.apart).2⟩
theorem HR.new (h:HR w G M bx rs L W) (cs:Array Value) (t:TypeId) {N:Nat} (hN:W.heap.size=N):HR w G (N::M) ((N,t,cs)::bx) rs L (W.alloc (.cells cs t)) :=
 ⟨h.h.new cs t hN,λr hr=>(h.ok r hr).new (h.own r hr) hN rfl,λr hr=>owns_below (h.own r hr) (aP _ _),h.apart⟩
theorem HR.push (h:HR w G M bx rs L W) (e:TypeId) (size:Nat):HR w G M bx (⟨e,size,.slice none 0 0,0,[]⟩::rs) L W :=
 ⟨h.h,λr hr=>by
  rcases aL hr with rfl | hr
  .exact RowOk.none_
  .exact h.ok r hr,λr hr=>by
  rcases aL hr with rfl | hr
  .exact ownsRow_nil _ _ _ _ h.h.bl.size
  .exact h.own r hr,List.pairwise_cons.2 ⟨λs _=>RwApart.nil,h.apart⟩⟩
theorem HR.take (h:HR w G M bx rs L W) (hb:Below W.heap.size W W') {e:TypeId} {size n:Nat} {v:Value} {xs:List Value} (hown:W'.ownsRow W.heap.size e size v n xs) :
  ∃M',HR w G M' bx (⟨e,size,v,n,xs⟩::rs) L W'/\∀g∈M,g∈M':=by
 obtain ⟨M',h',hs⟩:=h.h.take hb hown
 refine ⟨M',⟨h'.h,λr hr=>?_,λr hr=>?_,List.pairwise_cons.2 ⟨λs hs' g h1 h2=>?_,h.apart⟩⟩,hs⟩
 .rcases aL hr with rfl | hr
  .exact h'.ok
  .exact (h.ok r hr).mono hs
 .rcases aL hr with rfl | hr
  .exact h'.own
  .exact owns_below (h.own r hr) hb
 .have k1:=(World.ownsRow.lt (h.own s hs') g h2).2
  have k2:=(World.ownsRow.lt hown g h1).1
  omega
theorem HR.set_ {N:Nat} {t:TypeId} {cs:Array Value} {bx1 bx2:List Box} (h:HR w G M (bx1++(N,t,cs)::bx2) rs L W) (i:Nat) (u:Value):HR w G M (bx1++(N,t,cs.setIfInBounds i u)::bx2) rs L (W.setCell ⟨N,i,none⟩ u):=by
 have key:∀r∈rs,HRow w G M (bx1++(N,t,cs.setIfInBounds i u)::bx2) L r.e r.size r.v r.n r.xs (W.setCell ⟨N,i,none⟩ u):=λr hr=>HRow.set_ ⟨h.h,h.ok r hr,h.own r hr⟩ i u
 exact ⟨h.h.set_ i u,λr hr=>(key r hr).ok,λr hr=>(key r hr).own,h.apart⟩
theorem HR.setRow {e:TypeId} {size n c g k:Nat} {xs:List Value} (h:HR w G M bx (⟨e,size,.slice (some ⟨g,0,none⟩) n c,n,xs⟩::rs) L W) (u:Value) (_hk:k < n*size) :
  HR w G M bx (⟨e,size,.slice (some ⟨g,0,none⟩) n c,n,xs.set k u⟩::rs) L (W.setCell ⟨g,k,none⟩ u):=by
 have hok:=h.ok _ (.head _) g rfl
 have hown:=h.own _ (.head _)
 have hgr:W.grownBy (W.setCell ⟨g,k,none⟩ u) (some g):=⟨rfl,rfl,rfl,by simp [World.setCell],λj _ hj=>Below.heap_setCell _ _ _ _ (λe=>hj (by rw [e]))⟩
 have hap:=(List.pairwise_cons.1 h.apart)
 refine ⟨⟨h.h.bl.setCell (p:=⟨g,k,none⟩) hok.2.1 u,λj hj=>by simpa [World.setCell] using h.h.mb j hj,h.h.gm,λx hx=>⟨(h.h.bs x hx).1,(h.h.bs x hx).2.1,(h.h.bs x hx).2.2.far (hok.2.2 x hx) u⟩,h.h.nd,λP hP=>⟨(h.h.all P hP).1,(h.h.all P hP).1.1 _ _ _ (h.h.all P hP).2 (Chg.set_ W (p:=⟨g,k,none⟩) hok.1 u)⟩⟩,λr hr=>?_,λr hr=>?_,List.pairwise_cons.2 ⟨λs hs=>hap.1 s hs,hap.2⟩⟩
 .rcases aL hr with rfl | hr
  .exact h.ok ⟨e,size,.slice (some ⟨g,0,none⟩) n c,n,xs⟩ (.head _)
  .exact h.ok r (.tail _ hr)
 .rcases aL hr with rfl | hr
  .refine ⟨by rw [List.length_set];exact hown.1,?_⟩
   rcases hown.2 with ⟨h1,_⟩ | ⟨g',cap,cur,h1,h2,h3,h4,h5,h6,h7⟩
   .cases h1
   .injection h1 with h1 _ h1c
    injection h1 with h1
    injection h1 with h1
    subst h1
    refine .inr ⟨g,cap,cur.setIfInBounds k u,by rw [h1c],h2,?_,h4,h5,by rw [Array.size_setIfInBounds];exact h6,?_⟩
    .exact Blk.set_ h3 k u
    .simp only at h7
     rw [Array.toList_setIfInBounds,List.take_set,h7]
  .exact World.ownsRow.kept (h.own r (.tail _ hr)) hgr (.inr λhe=>hap.1 r hr g rfl he)
theorem HR.freeze {α:Type} [Mem α] {l:List α} {e:TypeId} {size n:Nat} {v:Value} {xs:List Value} (h:HR w G M bx (⟨e,size,v,n,xs⟩::rs) L W) (hs:size=Mem.sz α) (hn:n=l.length) (hf:Flat M W l xs) (hG:∀g∈G,g < w.heap.size) :
  ∃A c M',v=.slice A l.length c/\l.length<=c/\c<=9223372036854775807/\HR w G M' bx rs ((λM W=>SlAt M W A l)::L) W/\(∀g∈M',g∈M)/\∀g∈M,g < w.heap.size->g∈M':=by
 subst hs hn
 obtain ⟨M',hM⟩:∃M':List Nat,M'=M.filter (λg=>decide (v.ownBlock≠some g)):=⟨_,rfl⟩
 have hmem:∀g,g∈M'↔g∈M/\v.ownBlock≠some g:=λg=>by rw [hM,List.mem_filter];simp
 have hsub:∀g∈M',g∈M:=λg hg=>((hmem g).1 hg).1
 have hok:=h.ok _ (.head _)
 have hap:=List.pairwise_cons.1 h.apart
 have hr:Rep M' W l v:=Rep.of_own (h.own _ (.head _)) (hf.sub λg hg=>.inl (hsub g hg)) λg hg hm=>((hmem g).1 hm).2 hg
 obtain ⟨A,c,h1,h2,h3,h4⟩:=hr
 injection h1 with h1 _
 refine ⟨A,c,M',h1,h2,h3,⟨⟨h.h.bl,λg hg=>h.h.mb g (hsub g hg),λg hg=>(hmem g).2 ⟨h.h.gm g hg,λhe=>?_⟩,λx hx=>⟨(hmem x.1).2 ⟨(h.h.bs x hx).1,λhe=>(hok _ he).2.2 x hx rfl⟩,(h.h.bs x hx).2⟩,h.h.nd,λP hP=>?_⟩,λr hr g hg=>⟨(hmem g).2 ⟨(h.ok r (.tail _ hr) g hg).1,λhe=>hap.1 r hr g he hg⟩,(h.ok r (.tail _ hr) g hg).2⟩,λr hr=>h.own r (.tail _ hr),hap.2⟩,hsub,λg hg hlt=>(hmem g).2 ⟨hg,λhe=>?_⟩⟩
 .have:=hG g hg
  have:=(hok _ he).2.1
  omega
 .rcases aL hP with rfl | hP
  .exact ⟨keeps_sl A l,h4⟩
  .exact ⟨(h.h.all P hP).1,(h.h.all P hP).1.2 _ _ _ (h.h.all P hP).2 λg hg=>.inl (hsub g hg)⟩
 .have:=(hok _ he).2.1
  omega
theorem HR.mkr {gm:Nat} {t:TypeId} {sl:Value} {i:Int} (h:HR w G M ((gm,t,#[sl,.int .i64 i])::bx) rs L W) (hi:inI i) (hr:MkR gm t sl W W'):∃i',inI i'/\HR w G M ((gm,t,#[sl,.int .i64 i'])::bx) rs L W':=by
 obtain ⟨i',hi',h'⟩:=h.h.mkr hi hr
 have key:∀r∈rs,∀g,r.v.ownBlock=some g->g≠gm:=λr hr g hg e=>(h.ok r hr g hg).2.2 _ (.head _) e.symm
 refine ⟨i',hi',h',λr hr g hg=>⟨(h.ok r hr g hg).1,(h.ok r hr g hg).2.1,λx hx=>?_⟩,λr hrs=>?_,h.apart⟩
 .rcases aL hx with rfl | hx
  .exact λe=>key r hr g hg e.symm
  .exact (h.ok r hr g hg).2.2 x (.tail _ hx)
 .have hk:=key r hrs
  refine World.ownsRow.kept (row:=some gm) (h.own r hrs) ⟨hr.chg.os,hr.chg.tape,hr.chg.output,hr.chg.size,λk hk hne=>hr.chg.block k hk λhm=>hne (by rw [List.mem_singleton.1 hm])⟩ (.inr λhe=>hk gm he rfl)
variable {P:Program}
theorem wpList_append_rows {ops:Array Oper} {rest:List Oper} {o:Oper} {a:Act} {Q:Exit->Act->World->Prop} (hgd:o.guard=none) (s x:Operand) (t:TypeId)
  (ho:o.op=.call { callee:=.builtin .append,args:=#[s,x],argTypes:=#[t,t] })
  (e:TypeId) (i:TypeInfo) (z:Value) (size bytes:Nat) (ht:P.underlying t=some (.slice e)) (hi:P.info? e=some i) (hz:i.zero=some z)
  (hsize:i.size=size) (hby:i.bytes=bytes) (hzs:z.cells.size=size) (hsz:0 < size)
  {v:Value} {n:Nat} {xs:List Value} (H:HR w G M bx (⟨e,size,v,n,xs⟩::rs) L W) (hs:a.eval s=v)
  (B:Nat) (A:Option Addr) (m c:Nat) (news:List Value) (hx:a.eval x=.slice A m c) (hr:Reads W B size A m news) (h1:∀u∈news,u.oneCell'=true)
  (h63:n+m<=maxLen) (hbytes:(n+m)*bytes<=140737488355328)
  (h:∀v' W' M',HR w G M' bx (⟨e,size,v',n+m,xs++news⟩::rs) L W'->(∀g∈M,g∈M')->wpList P ops Q rest (a.put o.dst v') W'):wpList P ops Q (o::rest) a W :=
 wpList_append_any W hgd s x t ho w.heap.size e i z size bytes ht hi hz hsize hby hzs hsz v n xs hs (H.own _ (.head _)) B A m c news hx hr h1 h63 hbytes H.h.bl.size λv' W' h2 h3 h4=>by
  have hok:=H.ok _ (.head _)
  have hap:=List.pairwise_cons.1 H.apart
  obtain ⟨M',k1,k2,k3⟩:=H.h.grown hok h3 h4 h2
  refine h v' W' M' ⟨k1,λr hr=>?_,λr hr=>?_,List.pairwise_cons.2 ⟨λs hs g hg1 hg2=>?_,hap.2⟩⟩ k3
  .rcases aL hr with rfl | hr
   .exact k2
   .exact (H.ok r (.tail _ hr)).mono k3
  .rcases aL hr with rfl | hr
   .exact h2
   .refine World.ownsRow.kept (H.own r (.tail _ hr)) h3 ?_
    cases he:r.v.ownBlock with
    | none=>exact .inl rfl
    | some g=>exact .inr λe=>hap.1 r hr g e.symm he
  .rcases h4 with he | he
   .exact hap.1 s hs g (he ▸ hg1) hg2
   .have k1:=(World.ownsRow.lt (H.own s (.tail _ hs)) g hg2).2
    rw [he] at hg1
    injection hg1 with hg1
    omega
end
theorem owns_blk' {w:World} {base size n c:Nat} {e:TypeId} {A:Option Addr} {xs:List Value} (h:w.ownsRow base e size (.slice A n c) n xs) (hn:0 < n):∃g cur,A=some ⟨g,0,none⟩/\Blk w g e cur/\cur.toList.take (n*size)=xs:=by
 rcases h.2 with ⟨hv,h0⟩ | ⟨g,cap,cur,hv,_,hh,_,_,_,ht⟩
 .omega
 .injection hv with h1 h2 h3
  exact ⟨g,cur,h1,hh,ht⟩
section
variable {w W W':World} {G M:List Nat} {bx:List Box} {rs:List Rw} {r:Rw} {L:List (List Nat->World->Prop)}
theorem HR.form {e:TypeId} {size n:Nat} {v:Value} {xs:List Value} (h:HR w G M bx rs L W) (hr:(⟨e,size,v,n,xs⟩:Rw)∈rs):∃A c,v=.slice A n c:=own_form (h.own _ hr)
theorem HR.rform {e:TypeId} {size n c:Nat} {A:Option Addr} {xs:List Value} (h:HR w G M bx rs L W) (hr:(⟨e,size,.slice A n c,n,xs⟩:Rw)∈rs) (hn:0 < n):∃g,A=some ⟨g,0,none⟩:=by
 obtain ⟨g,rfl,_⟩:=owns_cell (h.own _ hr) hn
 exact ⟨g,rfl⟩
theorem HR.rcell {e:TypeId} {size n c g:Nat} {xs:List Value} (h:HR w G M bx rs L W) (hr:(⟨e,size,.slice (some ⟨g,0,none⟩) n c,n,xs⟩:Rw)∈rs) (hn:0 < n) {j:Nat} {u:Value} (hu:xs[j]?=some u):W.cell? ⟨g,j,none⟩=some u:=by
 obtain ⟨g',hg,hc⟩:=owns_cell (h.own _ hr) hn
 obtain rfl:g=g':=by injection hg with h;injection h
 exact hc j u hu
theorem HR.rfroz {e:TypeId} {size n c g:Nat} {xs:List Value} (h:HR w G M bx rs L W) (hr:(⟨e,size,.slice (some ⟨g,0,none⟩) n c,n,xs⟩:Rw)∈rs) (hn:0 < n) (j:Nat):W.frozen? ⟨g,j,none⟩=false:=by
 obtain ⟨g',cur,hg,hb,_⟩:=owns_blk' (h.own _ hr) hn
 obtain rfl:g=g':=by injection hg with h;injection h
 exact hb.frozen j
theorem HR.box {x:Box} (h:HR w G M bx rs L W) (hx:x∈bx):Blk W x.1 x.2.1 x.2.2:=h.h.box hx
theorem HR.fact {P:List Nat->World->Prop} (h:HR w G M bx rs L W) (hP:P∈L):P M W:=h.h.fact hP
theorem HR.tail {P:List Nat->World->Prop} (h:HR w G M bx rs (P::L) W):HR w G M bx rs L W:=h.less λ_P hP=>.tail _ hP
theorem HR.bswap {x y:Box} (h:HR w G M (x::y::bx) rs L W):HR w G M (y::x::bx) rs L W:=h.bperm (List.Perm.swap _ _ _)
theorem HR.rswap {r s:Rw} (h:HR w G M bx (r::s::rs) L W):HR w G M bx (s::r::rs) L W:=h.perm (List.Perm.swap _ _ _)
theorem HR.unbox {x:Box} (h:HR w G M (x::bx) rs L W):HR w G M bx rs L W:=h.boxes (.cons _ (List.Sublist.refl _))
theorem HR.set0 {N:Nat} {t:TypeId} {cs:Array Value} (h:HR w G M ((N,t,cs)::bx) rs L W) (i:Nat) (u:Value):HR w G M ((N,t,cs.setIfInBounds i u)::bx) rs L (W.setCell ⟨N,i,none⟩ u):=HR.set_ (bx1:=[]) h i u
theorem HR.made (h:HR w G M bx rs L W) (cs:Array Value) (t:TypeId) {N:Nat} (hN:W.heap.size=N):HR w G M bx rs ((λM W=>N∉M/\Blk W N t cs)::L) (W.alloc (.cells cs t)):=by
 subst hN
 exact (h.below (aP _ _)).add (keeps_blk _ t cs) ⟨λhm=>by have:=h.h.mb _ hm;omega,Blk.new _ _ _⟩
theorem HR.rowSl {α:Type} [Mem α] {e:TypeId} {v:Value} {l:List α} {xs:List Value} (h:HR w G M bx rs L W) (hr:(⟨e,Mem.sz α,v,l.length,xs⟩:Rw)∈rs) (hf:Flat M W l xs):∃A c,v=.slice A l.length c/\l.length<=c/\c<=9223372036854775807/\SlAt [] W A l:=by
 obtain ⟨A,c,h1,h2,h3,h4⟩:=Rep.of_own (h.own _ hr) (hf.sub (G':=[]) λg hg=>by cases hg) λg _ hg=>by cases hg
 injection h1 with h1 _
 exact ⟨A,c,h1,h2,h3,h4⟩
end
theorem flat_intsB {G:List Nat} {w:World}:∀{l:List Int},(∀x∈l,inI x)->Flat G w l (intVals l)
 | [],_=>rfl
 | x::l,h=>⟨[.int .i64 x],intVals l,rfl,⟨rfl,h x (.head _)⟩,flat_intsB λy hy=>h y (.tail _ hy)⟩
theorem at_some {G:List Nat} (A:Option Addr) (c:Nat) (l:List Int) (i m:Int) (w:World) (hs:SlAt G w A l) (_hl:l.length<=9223372036854775807) (hi:inI i) (hm:1<=m) (hm2:m<=9223372036854775807) :
  Calls Tryz.prog 68 #[.slice A l.length c,.int .i64 i,.int .i64 m] w λe w'=>∃v:Int,e=.returned (.int .i64 v)/\0<=v/\v < m/\w=w':=by
 obtain ⟨i1,i2⟩:=hi
 by_cases h0:i < 0
 .clear hs
  go_enter Tryz.func68,Tryz.ntmps68
  go_wp2_with fail
  go_ret
  exact ⟨0,rfl,by omega,by omega,rfl⟩
 .obtain ⟨k,rfl⟩:∃k:Nat,i=k:=⟨i.toNat,by omega⟩
  by_cases hlt:k < l.length
  .obtain ⟨b1,o1,rfl,_,d1,q⟩:=int_at hs k hlt
   obtain ⟨q1,q2⟩:=q
   have HB:=aI (around_bd l[k] m hm)
   generalize l[k]=x at d1 q1 q2 HB
   generalize l.length=n at *
   clear hs
   go_enter Tryz.func68,Tryz.ntmps68
   go_wp2_with (go_at_call 23;refine (around_any _ _ _ (by omega) (by omega)).mono ?_;rintro e w' ⟨rfl,rfl⟩)
   go_ret
   exact ⟨_,rfl,HB.out.1,HB.out.2,rfl⟩
  .generalize l.length=n at *
   clear hs
   go_enter Tryz.func68,Tryz.ntmps68
   go_wp2_with fail
   go_ret
   exact ⟨0,rfl,by omega,by omega,rfl⟩
theorem wrap_in (x:Int):inI (IntKind.i64.wrap x):=by
 unfold inI IntKind.wrap IntKind.signed IntKind.bits
 simp
 split <;> omega
theorem take_any {gm:Nat} {A:Option Addr} {c:Nat} {l:List Int} {i:Int} (n:Int) (w:World) (hb:Blk w gm 48 #[.slice A l.length c,.int .i64 i]) (hi:inI i) (hs:SlAt [gm] w A l) (hl:l.length<=9223372036854775807) (h1:1<=n) (h2:n<=9223372036854775807) :
  Calls Tryz.prog 20 #[.pointer (some ⟨gm,0,none⟩),.int .i64 n] w λe w'=>∃v:Int,e=.returned (.int .i64 v)/\0<=v/\v < n/\MkR gm 48 (.slice A l.length c) w w':=by
 obtain ⟨i1,e1⟩:=aX (IntKind.i64.wrap (i+1))
 obtain ⟨i2,e2⟩:=aX (IntKind.i64.wrap (i1 - 1))
 have k1:inI i1:=e1 ▸ wrap_in (i+1)
 have k2:=aI (show inI i2 from e2 ▸ wrap_in (i1 - 1))
 have f1:=hb.frozen 1
 obtain ⟨c0,c1⟩:=aN2 hb.cell
 have b2:=hb.set_ 1 (.int .i64 i1)
 obtain ⟨d0,d1⟩:=aN2 b2.cell
 have hr:=aI (MkR.set_ (sl:=.slice A l.length c) i hi hb _ k1)
 have HS2:=aI (hs.keep hr.out.chg)
 have HL:=aI hl
 clear hb hi hs hl b2 k1
 simp at c0 c1 d0 d1
 go_enter Tryz.func20,Tryz.ntmps20
 go_wp2_with fail
 apply wp_region_typed (C:=λw'=>Below (w.setCell ⟨gm,1,none⟩ (.int .i64 i1)).heap.size (w.setCell ⟨gm,1,none⟩ (.int .i64 i1)) w') (n:=23) (m:=12) (l1:=[_,_,_,_,_,_,_,_,_,_,_,_]) (l2:=[])
 .rfl
 .rfl
 .kernel_rfl
 .rfl
 .kernel_rfl
 .exact ⟨rfl,rfl,rfl,ag _,λ_ _=>rfl⟩
 .exact λu u' h hb=>(by first | exact h.below hb | exact h.trans (hb.mono h.size))
 iterate 10 ((apply wpT_exact;· (intro w' hC hf;unfold Gives;have q0:=(hC.cell (World.block_lt_of_cell? _ _ d0)).trans d0;have q1:=(hC.cell (World.block_lt_of_cell? _ _ d1)).trans d1;clear hf hC;go_wp2_with (fail);apply postT_val rfl (Below.refl _ _);simp only [valAt,aV];exact rfl));(try simp only [Act.put,aZ]))
 apply wpT_typed (T:=λv _=>∃z:Int,v=.int .i64 z/\0<=z/\z < n) (λv w w' h _=>h)
 .intro w' hC hf;unfold Gives;clear hf
  have HC:=aI hC;clear hC
  go_wp2_with (go_at_call 68;refine (at_some A c l i2 n _ (HS2.out.keep (Chg.of_below HC.out)) HL.out k2.out h1 h2).mono ?_;rintro e w' ⟨v,rfl,v1,v2,rfl⟩)

  refine postT_mk rfl (Below.refl _ _) ?_;simp only [valAt,aV];exact ⟨_,rfl,v1,v2⟩
 intro v;(try simp only [Act.put,aZ])
 apply wpT_typed (T:=λv _=>∃z:Int,v=.int .i64 z/\0<=z/\z < n) (λv w w' h _=>h)
 .intro w' hC hf;unfold Gives;obtain ⟨z,rfl,z1,z2⟩:=hf.1 rfl;clear hf hC
  go_wp2_with fail
  refine postT_mk rfl (Below.refl _ _) ?_;simp only [valAt,aV];exact ⟨_,rfl,z1,z2⟩
 intro v2;(try simp only [Act.put,aZ])
 apply wpT_done
 intro w4 hC hall
 obtain ⟨z,rfl,z1,z2⟩:=hall.1
 have HC:=aI hC;clear hC hall
 go_wp2_with fail
 go_ret
 exact ⟨_,rfl,z1,z2,hr.out.trans (MkR.below HC.out)⟩
structure MkK where
 w:World
 G:List Nat
 gm:Nat
 A:Option Addr
 l:List Int
 c:Nat
def MkK.sl (K:MkK):Value:=.slice K.A K.l.length K.c
def MkK.R (K:MkK):World->World->Prop:=MkR K.gm 48 K.sl
def MkK.p (K:MkK):Value:=.pointer (some ⟨K.gm,0,none⟩)
@[reducible] def MkK.grow (K:MkK):Grow:=mkGrow K.gm 48 K.sl
structure MkH (K:MkK) (M:List Nat) (bx:List Box) (rs:List Rw) (L:List (List Nat->World->Prop)) (W:World):Prop where
 len:K.l.length<=9223372036854775807
 base:∀g∈K.G,g < K.w.heap.size
 it:∃i,inI i/\HR K.w K.G M ((K.gm,48,#[K.sl,.int .i64 i])::bx) rs ((λM W=>SlAt M W K.A K.l)::L) W
section
variable {K:MkK} {M:List Nat} {bx:List Box} {rs:List Rw} {r:Rw} {L:List (List Nat->World->Prop)} {W W':World}
theorem MkH.take (h:MkH K M bx rs L W) (n:Int) (h1:1<=n) (h2:n<=9223372036854775807) :
  Calls Tryz.prog 20 #[K.p,.int .i64 n] W λe w'=>∃v:Int,e=.returned (.int .i64 v)/\0<=v/\v < n/\K.R W w':=by
 obtain ⟨i,hi,H⟩:=h.it
 exact take_any n W (H.h.box (.head _)) hi ((H.h.fact (.head _)).sub λg hg=>by rw [List.mem_singleton.1 hg];exact .inl (H.h.bs _ (.head _)).1) h.len h1 h2
theorem MkH.turn (h:MkH K M bx rs L W) (hr:K.R W W'):MkH K M bx rs L W':=by
 obtain ⟨i,hi,H⟩:=h.it
 obtain ⟨i',hi',H'⟩:=H.mkr hi hr
 exact ⟨h.len,h.base,i',hi',H'⟩
theorem MkH.below (h:MkH K M bx rs L W) (hb:Below W.heap.size W W'):MkH K M bx rs L W':=h.turn (MkR.below hb)
theorem MkH.drew (h:MkH K M bx rs L W):MkH K M bx rs L W.drew:=h.below ⟨rfl,rfl,rfl,ag _,λ_ _=>rfl⟩
theorem MkH.drewN (h:MkH K M bx rs L W) (n:Nat):MkH K M bx rs L (W.drewN n):=h.below ⟨rfl,rfl,rfl,ag _,λ_ _=>rfl⟩
theorem MkH.new (h:MkH K M bx rs L W) (cs:Array Value) (t:TypeId) {N:Nat} (hN:W.heap.size=N):MkH K (N::M) ((N,t,cs)::bx) rs L (W.alloc (.cells cs t)):=by
 obtain ⟨i,hi,H⟩:=h.it
 exact ⟨h.len,h.base,i,hi,(H.new cs t hN).bperm (List.Perm.swap _ _ _)⟩
theorem MkH.set_ {N:Nat} {t:TypeId} {cs:Array Value} {bx1 bx2:List Box} (h:MkH K M (bx1++(N,t,cs)::bx2) rs L W) (i:Nat) (u:Value):MkH K M (bx1++(N,t,cs.setIfInBounds i u)::bx2) rs L (W.setCell ⟨N,i,none⟩ u):=by
 obtain ⟨j,hj,H⟩:=h.it
 exact ⟨h.len,h.base,j,hj,HR.set_ (bx1:=(K.gm,48,#[K.sl,.int .i64 j])::bx1) H i u⟩
theorem MkH.set0 {N:Nat} {t:TypeId} {cs:Array Value} {bx2:List Box} (h:MkH K M ((N,t,cs)::bx2) rs L W) (i:Nat) (u:Value):MkH K M ((N,t,cs.setIfInBounds i u)::bx2) rs L (W.setCell ⟨N,i,none⟩ u):=MkH.set_ (bx1:=[]) h i u
theorem MkH.push (h:MkH K M bx rs L W) (e:TypeId) (size:Nat):MkH K M bx (⟨e,size,.slice none 0 0,0,[]⟩::rs) L W:=by
 obtain ⟨j,hj,H⟩:=h.it
 exact ⟨h.len,h.base,j,hj,H.push e size⟩
theorem MkH.perm {rs':List Rw} (h:MkH K M bx rs L W) (hp:rs.Perm rs'):MkH K M bx rs' L W:=by
 obtain ⟨j,hj,H⟩:=h.it
 exact ⟨h.len,h.base,j,hj,H.perm hp⟩
theorem MkH.boxes {bx':List Box} (h:MkH K M bx rs L W) (hb:bx'.Sublist bx):MkH K M bx' rs L W:=by
 obtain ⟨j,hj,H⟩:=h.it
 exact ⟨h.len,h.base,j,hj,H.boxes (hb.cons_cons _)⟩
theorem MkH.add (h:MkH K M bx rs L W) {P:List Nat->World->Prop} (hk:Keeps P) (hp:P M W):MkH K M bx rs (P::L) W:=by
 obtain ⟨j,hj,H⟩:=h.it
 exact ⟨h.len,h.base,j,hj,(H.add hk hp).less λP hP=>by
  rcases aL hP with rfl | hP
  .exact .tail _ (.head _)
  .rcases aL hP with rfl | hP
   .exact .head _
   .exact .tail _ (.tail _ hP)⟩
theorem MkH.less {L':List (List Nat->World->Prop)} (h:MkH K M bx rs L W) (hL:∀P∈L',P∈L):MkH K M bx rs L' W:=by
 obtain ⟨j,hj,H⟩:=h.it
 exact ⟨h.len,h.base,j,hj,H.less λP hP=>by
  rcases aL hP with rfl | hP
  .exact .head _
  .exact .tail _ (hL P hP)⟩
theorem MkH.box {x:Box} (h:MkH K M bx rs L W) (hx:x∈bx):Blk W x.1 x.2.1 x.2.2:=by
 obtain ⟨j,hj,H⟩:=h.it
 exact H.h.box (.tail _ hx)
theorem MkH.fact {P:List Nat->World->Prop} (h:MkH K M bx rs L W) (hP:P∈L):P M W:=by
 obtain ⟨j,hj,H⟩:=h.it
 exact H.h.fact (.tail _ hP)
theorem MkH.mb (h:MkH K M bx rs L W):∀g∈M,g < W.heap.size:=by
 obtain ⟨j,hj,H⟩:=h.it
 exact H.h.mb
theorem MkH.gmM (h:MkH K M bx rs L W):K.gm∈M:=by
 obtain ⟨j,hj,H⟩:=h.it
 exact (H.h.bs _ (.head _)).1
theorem MkH.own (h:MkH K M bx rs L W):∀r∈rs,W.ownsRow K.w.heap.size r.e r.size r.v r.n r.xs:=by
 obtain ⟨j,hj,H⟩:=h.it
 exact H.own
theorem MkH.form {e:TypeId} {size n:Nat} {v:Value} {xs:List Value} (h:MkH K M bx (⟨e,size,v,n,xs⟩::rs) L W):∃A c,v=.slice A n c:=own_form (h.own _ (.head _))
theorem MkH.setRow {e:TypeId} {size n c g k:Nat} {xs:List Value} (h:MkH K M bx (⟨e,size,.slice (some ⟨g,0,none⟩) n c,n,xs⟩::rs) L W) (u:Value) (hk:k < n*size) :
  MkH K M bx (⟨e,size,.slice (some ⟨g,0,none⟩) n c,n,xs.set k u⟩::rs) L (W.setCell ⟨g,k,none⟩ u):=by
 obtain ⟨j,hj,H⟩:=h.it
 exact ⟨h.len,h.base,j,hj,H.setRow u hk⟩
theorem MkH.freeze {α:Type} [Mem α] {l:List α} {e:TypeId} {size n:Nat} {v:Value} {xs:List Value} (h:MkH K M bx (⟨e,size,v,n,xs⟩::rs) L W) (hs:size=Mem.sz α) (hn:n=l.length) (hf:Flat M W l xs) :
  ∃A c M',v=.slice A l.length c/\l.length<=c/\c<=9223372036854775807/\MkH K M' bx rs ((λM W=>SlAt M W A l)::L) W/\∀g∈M',g∈M:=by
 obtain ⟨j,hj,H⟩:=h.it
 obtain ⟨A,c,M',h1,h2,h3,h4,h5,_⟩:=H.freeze hs hn hf h.base
 refine ⟨A,c,M',h1,h2,h3,⟨h.len,h.base,j,hj,h4.less λP hP=>?_⟩,h5⟩
 rcases aL hP with rfl | hP
 .exact .tail _ (.head _)
 .rcases aL hP with rfl | hP
  .exact .head _
  .exact .tail _ (.tail _ hP)
variable {P:Program}
theorem wpList_append_mk {ops:Array Oper} {rest:List Oper} {o:Oper} {a:Act} {Q:Exit->Act->World->Prop} (hgd:o.guard=none) (s x:Operand) (t:TypeId)
  (ho:o.op=.call { callee:=.builtin .append,args:=#[s,x],argTypes:=#[t,t] })
  (e:TypeId) (i:TypeInfo) (z:Value) (size bytes:Nat) (ht:P.underlying t=some (.slice e)) (hi:P.info? e=some i) (hz:i.zero=some z)
  (hsize:i.size=size) (hby:i.bytes=bytes) (hzs:z.cells.size=size) (hsz:0 < size)
  {v:Value} {n:Nat} {xs:List Value} (H:MkH K M bx (⟨e,size,v,n,xs⟩::rs) L W) (hs:a.eval s=v)
  (B:Nat) (A:Option Addr) (m c:Nat) (news:List Value) (hx:a.eval x=.slice A m c) (hr:Reads W B size A m news) (h1:∀u∈news,u.oneCell'=true)
  (h63:n+m<=maxLen) (hbytes:(n+m)*bytes<=140737488355328)
  (h:∀v' W' M',MkH K M' bx (⟨e,size,v',n+m,xs++news⟩::rs) L W'->(∀g∈M,g∈M')->wpList P ops Q rest (a.put o.dst v') W'):wpList P ops Q (o::rest) a W:=by
 obtain ⟨j,hj,H'⟩:=H.it
 exact wpList_append_rows hgd s x t ho e i z size bytes ht hi hz hsize hby hzs hsz H' hs B A m c news hx hr h1 h63 hbytes λv' W' M' h2 h3=>h v' W' M' ⟨H.len,H.base,j,hj,h2⟩ h3
end
theorem slAt_blk {α:Type} [Mem α] {G:List Nat} {w:World} {g:Nat} {t:TypeId} {cs:Array Value} {l:List α} (h:Blk w g t cs) (hg:g∉G) (hf:Flat G w l cs.toList):SlAt G w (some ⟨g,0,none⟩) l:=by
 refine .inr ⟨g,0,rfl,h.lt,hg,λi hi=>?_⟩
 obtain ⟨us,h1,h2⟩:=hf.get i hi
 refine ⟨us,h1,λj u hu=>?_⟩
 rw [Nat.zero_add,h.cell]
 have:=h2 j u hu
 simpa using this
def LitT (B n:Nat) (t:TypeId) (Q:Array Value->Prop) (v:Value) (w:World):Prop:=∃cs N,v=.slice (some ⟨N,0,none⟩) n n/\Q cs/\B<=N/\Blk w N t cs
theorem litT_kept (K:MkK) (B n:Nat) (t:TypeId) (Q:Array Value->Prop) (hB:K.gm < B):@RG.Kept K.grow (LitT B n t Q):=by
 rintro v w w' ⟨cs,N,h1,h2,h3,h4⟩ hr
 exact ⟨cs,N,h1,h2,h3,((MkR.chg hr).block N h4.lt (by simp;omega)).trans h4⟩
theorem MkH.gmLt {K:MkK} {M:List Nat} {bx:List Box} {rs:List Rw} {L:List (List Nat->World->Prop)} {W:World} (h:MkH K M bx rs L W):K.gm < W.heap.size:=h.mb _ h.gmM
theorem MkK.drew (K:MkK) (W:World):K.R W W.drew:=MkR.below ⟨rfl,rfl,rfl,ag _,λ_ _=>rfl⟩
theorem MkK.grown (K:MkK) {W W':World} (h:Below W.heap.size W W'):K.R W W':=MkR.below h
theorem MkK.size (K:MkK) {W W':World} (h:K.R W W'):W.heap.size<=W'.heap.size:=h.chg.size
theorem MkH.lit {K:MkK} {M:List Nat} {bx:List Box} {rs:List Rw} {L:List (List Nat->World->Prop)} {W:World} {α:Type} [Mem α] {l:List α} {t:TypeId} {cs:Array Value} (h:MkH K M bx rs L W) {N:Nat} (hb:Blk W N t cs) (hN:N∉M) (hf:Flat M W l cs.toList):MkH K M bx rs ((λM W=>SlAt M W (some ⟨N,0,none⟩) l)::L) W :=
 h.add (keeps_sl _ l) (slAt_blk hb hN hf)
theorem fld_mk {G:List Nat} {w:World} {nm of_ up:ByteArray} {kd lo hi:Int} {ws:List ByteArray} {wt:List Int} {vw vt:Value} (h1:nm.size<=9223372036854775807) (h2:of_.size<=9223372036854775807) (h3:up.size<=9223372036854775807) (h4:inI kd) (h5:inI lo) (h6:inI hi) (h7:Rep G w ws vw) (h8:Rep G w wt vt) :
  Mem.rep G w ((nm,of_,up,kd,lo,hi,ws,wt):Fld) [.string nm,.string of_,.string up,.int .i64 kd,.int .i64 lo,.int .i64 hi,vw,vt] :=
 ⟨[_],_,rfl,⟨rfl,h1⟩,[_],_,rfl,⟨rfl,h2⟩,[_],_,rfl,⟨rfl,h3⟩,[_],_,rfl,⟨rfl,h4⟩,[_],_,rfl,⟨rfl,h5⟩,[_],_,rfl,⟨rfl,h6⟩,[_],_,rfl,h7,h8⟩
theorem rep_nil {α:Type} [Mem α] {G:List Nat} {w:World}:Rep G w ([]:List α) (.slice none 0 0):=⟨none,0,rfl,ag _,by decide,SlAt.nil⟩
end
theorem aR {W:World}:∀w w',Below W.heap.size W w->Below w.heap.size w w'->Below W.heap.size W w':=λ_ _ h hb=>h.trans (hb.mono h.size)
section
variable {P:Program} {ops:Array Oper} {C:World->Prop} {Q:Act->World->Prop} {a:Act} {w:World}
variable {o:Oper} {os:List Oper} {ss:List RG.Spec} {k:Nat} {fs:List (Nat × (World->Prop))}
theorem aJ {c:Value} (h:∀w,C w->RG.factsOn fs (RG.depsOf o) w->wpList P ops (PostT o a w λv _=>v=c) [o] a w) (hr:wpT P ops C Q os ss (k+1) fs (a.put o.dst c)):wpT P ops C Q (o::os) (.exact c::ss) k fs a:=wpT_exact h hr
theorem aHx [Grow] {c:Value} (h:∀w,C w->RG.factsOn fs (RG.depsOf o) w->wpList P ops (RG.PostT o a w λv _=>v=c) [o] a w) (hr:RG.wpT P ops C Q os ss (k+1) fs (a.put o.dst c)):RG.wpT P ops C Q (o::os) (.exact c::ss) k fs a:=RG.wpT_exact h hr
theorem aO {c:Value} {t t':Array Value} {d:List Deferred} (hv:valAt o ⟨t',d⟩=c):PostT o ⟨t,d⟩ w (λv _=>v=c) .normal ⟨t',d⟩ w:=postT_val rfl (Below.refl _ _) hv
theorem aBx [Grow] {c:Value} {t t':Array Value} {d:List Deferred} (hv:RG.valAt o ⟨t',d⟩=c):RG.PostT o ⟨t,d⟩ w (λv _=>v=c) .normal ⟨t',d⟩ w:=RG.postT_val rfl (Grow.refl _) hv
end
theorem zn:(∀(a:Act) (d:Option Tmp) (v:Value),a.put d v=match d with|some d=>{a with tmps:=a.tmps.setIfInBounds d v}|none=>a) /\ (∀(l:List Value) (i:Nat) (a:Value),l.toArray.setIfInBounds i a=(l.set i a).toArray) /\ (∀(a b:Value) (l:List Value),(a::l).set 0 b=b::l) /\ (∀(a b:Value) (n:Nat) (l:List Value),(a::l).set (n+1) b=a::l.set n b):=⟨fun a d v=>by cases d<;>rfl,aZ⟩
theorem zC:(∀(o:Oper) (a:Act),valAt o a=match o.dst with|some d=>a.tmps.getD d undef|none=>undef) /\ (∀(o:Oper) (a:Act),RG.valAt o a=match o.dst with|some d=>a.tmps.getD d undef|none=>undef) /\ (∀(xs:Array Value) (i:Nat) (d:Value),xs.getD i d=xs[i]?.getD d) /\ (∀(l:List Value) (i:Nat),l.toArray[i]?=l[i]?) /\ (∀(a:Value) (l:List Value) (i:Nat),(a::l)[i+1]?=l[i]?) /\ (∀(a:Value) (l:List Value),(a::l)[0]?=some a) /\ (∀(a d:Value),(some a).getD d=a):=⟨fun o a=>by unfold valAt;cases o.dst<;>rfl,fun o a=>by unfold RG.valAt;cases o.dst<;>rfl,aV⟩
abbrev za:=@Chg.of_below
abbrev zb:=@RG.wpT_typed
abbrev zc:=@World.block_lt_of_cell?
abbrev zd:=@RG.postT_mk
abbrev ze:=@List.getElem_mem
abbrev zf:=@Below.refl
abbrev zg:=@List.mem_singleton
abbrev zi:=@bodyPost_ret
abbrev zj:=@Blk.new
abbrev zm:=@List.length_cons
abbrev zo:=@List.append_assoc
abbrev zp:=@List.getElem?_eq_getElem
abbrev zq:=@info_parts
abbrev zr:=@List.not_mem_nil
abbrev zt:=@congrArg
abbrev zu:=@List.length_map
abbrev zv:=@Nat.le_of_ble_eq_true
abbrev zw:=@Bool.and_eq_true
abbrev zx:=@RG.wp_region_typed
abbrev zy:=@wp_region_typed
abbrev zA:=@List.nil_append
abbrev zB:=@List.mem_cons
abbrev zD:=@decide_eq_true_eq
abbrev zE:=@List.mem_append
abbrev zF:=@wpT_typed
abbrev zG:=@Nat.zero_add
abbrev zI:=@List.length_take
abbrev zJ:=@postT_mk
abbrev zK:=@List.append_nil
abbrev zL:=@List.getElem?_append_right
abbrev zM:=@List.cons_append
abbrev zN:=@Nat.zero_le
abbrev zO:=@Nat.mul_one
abbrev zP:=@own_form
abbrev zQ:=@or_false
abbrev zR:=@List.flatMap_cons
abbrev zS:=@List.size_toArray
abbrev zT:=@List.eq_nil_of_length_eq_zero
abbrev zU:=@absurd
abbrev zV:=@Array.getElem?_eq_none
abbrev zW:=@Nat.add_zero
abbrev zX:=@List.getElem?_append_left
abbrev zY:=@List.map_append
abbrev zZ:=@List.flatMap_nil
abbrev qr:=@Nat.lt_of_lt_of_le
abbrev qt:=@List.length_nil
abbrev qv:=@decide_eq_false
end Go.Proofs.YtobcnhmhgoccnaaGreatDoor
