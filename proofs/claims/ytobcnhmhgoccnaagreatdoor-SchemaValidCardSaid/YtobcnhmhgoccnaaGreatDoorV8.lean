/- Parts of the proof, joined: SxPlain, SxL0, M5, M6. -/
import Derived.Test.YtobcnhmhgoccnaaGreatDoorV1
set_option maxRecDepth 100000
set_option maxHeartbeats 4000000
set_option linter.unusedVariables false
set_option linter.unusedSimpArgs false
set_option linter.unusedSectionVars false
namespace Go.Proofs.YtobcnhmhgoccnaaGreatDoor
open Go Go.RowKit
section
namespace Sx
def letterB (c:UInt8):Bool:=decide (97<=c.toNat) && decide (c.toNat<=122)
def alnumB (c:UInt8):Bool:=letterB c || Dc.isDig c
def nameB (s:List UInt8):Bool:=decide (1<=s.length) && decide (s.length<=12) && letterB (s.headD 0) && s.all alnumB
def nm (s:ByteArray):Bool:=nameB s.data.toList
def em (s:ByteArray):Bool:=decide (s.size=0)
def within (n a b:Int):Bool:=decide (a<=n) && decide (n<=b)
def span (lo hi a b:Int):Bool:=decide (a<=lo) && (decide (lo<=hi) && decide (hi<=b))
def most:Int:=1048576
def pickB (ws:List ByteArray) (ns:List Int):Bool:=ns.all (λn=>within n 0 most) && (within ws.length 1 12 && (decide (ws.length=ns.length) && (decide (0 < ns.sum) && ws.all nm)))
def noW (f:Fld):Bool:=decide ((Sc.words f).length=0) && decide ((Sc.wts f).length=0)
def fldB (f:Fld):Bool:=nm (Sc.nm f) &&
 (if Sc.kd f=0 then em (Sc.of_ f) && (em (Sc.up f) && (decide (Sc.hi f=0) && (noW f && within (Sc.lo f) (-most) most)))
 else if Sc.kd f=1 then em (Sc.up f) && (noW f && (nm (Sc.of_ f) && span (Sc.lo f) (Sc.hi f) 0 65536))
 else if Sc.kd f=2 then em (Sc.of_ f) && (em (Sc.up f) && (noW f && span (Sc.lo f) (Sc.hi f) (-most) most))
 else if Sc.kd f=3 then em (Sc.of_ f) && (em (Sc.up f) && (decide (Sc.lo f=0) && (decide (Sc.hi f=0) && pickB (Sc.words f) (Sc.wts f))))
 else if Sc.kd f=4 then em (Sc.up f) && (noW f && ((em (Sc.of_ f) || nm (Sc.of_ f)) && span (Sc.lo f) (Sc.hi f) (-most) most))
 else if Sc.kd f=5 then em (Sc.up f) && (noW f && (nm (Sc.of_ f) && span (Sc.lo f) (Sc.hi f) 0 32))
 else if Sc.kd f=6 then em (Sc.up f) && (noW f && (decide (Sc.lo f=0) && (decide (Sc.hi f=0) && nm (Sc.of_ f))))
 else if Sc.kd f=7 then noW f && (nm (Sc.of_ f) && (nm (Sc.up f) && span (Sc.lo f) (Sc.hi f) 0 most))
 else if Sc.kd f=8 then noW f && (decide (Sc.lo f=0) && (decide (Sc.hi f=0) && (nm (Sc.of_ f) && nm (Sc.up f))))
 else false)
def kndB (k:Knd):Bool:=nm k.1 && (span k.2.1 k.2.2.1 0 65536 && (decide ((Sc.flds k).length<=10) && (Sc.flds k).all fldB))
def lifB (x:Lif):Bool:=nm x.1 && (within x.2.1.length 1 12 && (x.2.1.all nm && (decide (x.2.2.length<=32) && x.2.2.all λm=>within m.1 0 ((x.2.1.length:Int) - 1) && within m.2 0 ((x.2.1.length:Int) - 1))))
def rulB (r:Rul):Bool:=nm r.1 && (nm r.2.1 && ((em r.2.2.1 || nm r.2.2.1) && ((em r.2.2.2.1 || nm r.2.2.2.1) && (!(em r.2.2.1 && em r.2.2.2.1) && within r.2.2.2.2 (-most) most))))
def okB (x:Sch):Bool:=within x.1 0 most && (decide ((Sc.kinds x).length<=6) && (decide (x.2.2.1.length<=6) && (decide (x.2.2.2.length<=16) && ((Sc.kinds x).all kndB && (x.2.2.1.all lifB && x.2.2.2.all rulB)))))
abbrev Txt:=List UInt8
def wordsL:List Txt:=[[107,101,121],[114,101,102],[110,117,109],[112,105,99,107],[100,97,121],[115,116,101,112],[115,117,109],[115,104,97,114,101],[99,111,112,121]]
def sSchema:Txt:=[115,99,104,101,109,97]
def sKind:Txt:=[107,105,110,100]
def sLife:Txt:=[108,105,102,101]
def sMove:Txt:=[109,111,118,101]
def sRule:Txt:=[114,117,108,101]
def bs (s:ByteArray):Txt:=s.data.toList
def num (n:Int):Txt:=Lib.itoa n
def orNone (s:ByteArray):Txt:=if em s=true then [45] else bs s
def lineT:List Txt->Txt
 | []=>[10]
 | [t]=>t++[10]
 | t::u::l=>t++32::lineT (u::l)
def picksT:List ByteArray->List Int->List Txt
 | w::ws,n::ns=>bs w::num n::picksT ws ns
 | _,_=>[]
def fldT (f:Fld):List Txt :=
 if Sc.kd f=0 then [wordsL.getD 0 [],bs (Sc.nm f),num (Sc.lo f)]
 else if Sc.kd f=2 then [wordsL.getD 2 [],bs (Sc.nm f),num (Sc.lo f),num (Sc.hi f)]
 else if Sc.kd f=3 then wordsL.getD 3 []::bs (Sc.nm f)::num (Sc.words f).length::picksT (Sc.words f) (Sc.wts f)
 else if Sc.kd f=6 then [wordsL.getD 6 [],bs (Sc.nm f),bs (Sc.of_ f)]
 else if Sc.kd f=7 then [wordsL.getD 7 [],bs (Sc.nm f),bs (Sc.up f),bs (Sc.of_ f),num (Sc.lo f),num (Sc.hi f)]
 else if Sc.kd f=8 then [wordsL.getD 8 [],bs (Sc.nm f),bs (Sc.up f),bs (Sc.of_ f)]
 else [wordsL.getD (Sc.kd f).toNat [],bs (Sc.nm f),orNone (Sc.of_ f),num (Sc.lo f),num (Sc.hi f)]
def kndL (k:Knd):List (List Txt):=[sKind,bs k.1,num k.2.1,num k.2.2.1]::(Sc.flds k).map fldT
def lifL (x:Lif):List (List Txt):=(sLife::bs x.1::num x.2.1.length::x.2.1.map bs)::x.2.2.map λm=>[sMove,num m.1,num m.2]
def rulL (r:Rul):List Txt:=[sRule,bs r.1,bs r.2.1,orNone r.2.2.1,orNone r.2.2.2.1,num r.2.2.2.2]
def linesL (x:Sch):List (List Txt):=[sSchema,num x.1]::((Sc.kinds x).flatMap kndL++(x.2.2.1.flatMap lifL++x.2.2.2.map rulL))
def source (x:Sch):Txt:=(linesL x).flatMap lineT
def valid (x:Sch):Int:=if okB x=true then (if 8192 < (source x).length then 4 else 0) else 1
def print (x:Sch):Txt:=if valid x=0 then source x else []
abbrev Tok:=Txt × Nat
def toks (s:Txt):List Tok:=(Vm.scan s (s.length+1) 0).1.map λt=>(Vm.piece s t.1 t.2,t.1)
def stopAt (s:Txt):Nat:=(Vm.scan s (s.length+1) 0).2
inductive Res (α:Type) where
 | ok (a:α) (l:List Tok)
 | bad (l:List Tok)
def Res.bind {α β:Type}:Res α->(α->List Tok->Res β)->Res β
 | .ok a l,f=>f a l
 | .bad l,_=>.bad l
def next (right:Txt->Bool):List Tok->Res Txt
 | []=>.bad []
 | t::l=>if right t.1=true then .ok t.1 l else .bad (t::l)
def neg (w:Txt):Bool:=w.head? == some 45
def digs (w:Txt):Txt:=if neg w=true then w.tail else w
def numB (w:Txt):Bool:=decide (1<=(digs w).length) && (decide ((digs w).length<=9) && (digs w).all Dc.isDig)
def numV (w:Txt):Int:=if neg w=true then -(Dc.decV (digs w):Int) else (Dc.decV (digs w):Int)
def need (w:Txt) (l:List Tok):Res Unit:=(next (λt=>t == w) l).bind λ_ l=>.ok () l
def number (l:List Tok):Res Int:=(next numB l).bind λt l=>.ok (numV t) l
def count (l:List Tok):Res Nat:=(next (λt=>numB t && within (numV t) 1 12) l).bind λt l=>.ok (numV t).toNat l
def name (l:List Tok):Res Txt:=next nameB l
def names (l:List Tok):Res Txt:=(next (λt=>nameB t || t == [45]) l).bind λt l=>.ok (if t == [45] then [] else t) l
def ofT (t:Txt):ByteArray:=⟨t.toArray⟩
def many {α:Type} (begins:Txt->Bool) (read:List Tok->Res α):Nat->List α->List Tok->Res (List α)
 | 0,acc,l=>.ok acc l
 | fuel+1,acc,l=>match l with
  | []=>.ok acc []
  | t::r=>if begins t.1=true then (read (t::r)).bind λa l=>many begins read fuel (acc++[a]) l else .ok acc (t::r)
def picks:Nat->List ByteArray->List Int->List Tok->Res (List ByteArray × List Int)
 | 0,ws,ns,l=>.ok (ws,ns) l
 | n+1,ws,ns,l=>(name l).bind λw l=>(number l).bind λv l=>picks n (ws++[ofT w]) (ns++[v]) l
def states:Nat->List ByteArray->List Tok->Res (List ByteArray)
 | 0,ws,l=>.ok ws l
 | n+1,ws,l=>(name l).bind λw l=>states n (ws++[ofT w]) l
def wordOf (t:Txt):Option Nat:=wordsL.findIdx? (· == t)
def isWord (t:Txt):Bool:=(wordOf t).isSome
def field1 (k:Nat) (nm:ByteArray) (l:List Tok):Res Fld :=
 if k=0 then (number l).bind λlo l=>.ok (nm,ofT [],ofT [],0,lo,0,[],[]) l
 else if k=3 then (count l).bind λn l=>(picks n [] [] l).bind λp l=>.ok (nm,ofT [],ofT [],3,0,0,p.1,p.2) l
 else if k=6 then (name l).bind λo l=>.ok (nm,ofT o,ofT [],6,0,0,[],[]) l
 else if k=8 then (name l).bind λu l=>(name l).bind λo l=>.ok (nm,ofT o,ofT u,8,0,0,[],[]) l
 else if k=7 then (name l).bind λu l=>(name l).bind λo l=>(number l).bind λlo l=>(number l).bind λhi l=>.ok (nm,ofT o,ofT u,7,lo,hi,[],[]) l
 else if k=2 then (number l).bind λlo l=>(number l).bind λhi l=>.ok (nm,ofT [],ofT [],2,lo,hi,[],[]) l
 else ((if k=4 then names l else name l)).bind λo l=>(number l).bind λlo l=>(number l).bind λhi l=>.ok (nm,ofT o,ofT [],(k:Int),lo,hi,[],[]) l
def field:List Tok->Res Fld
 | []=>.bad []
 | t::l=>match wordOf t.1 with
  | none=>.bad (t::l)
  | some k=>(name l).bind λnm l=>field1 k (ofT nm) l
def kind (l:List Tok):Res Knd :=
 (need sKind l).bind λ_ l=>(name l).bind λnm l=>(number l).bind λlo l=>(number l).bind λhi l=>(many isWord field l.length [] l).bind λfs l=>.ok (ofT nm,lo,hi,fs) l
def move (l:List Tok):Res (Int × Int):=(need sMove l).bind λ_ l=>(number l).bind λa l=>(number l).bind λb l=>.ok (a,b) l
def life (l:List Tok):Res Lif :=
 (need sLife l).bind λ_ l=>(name l).bind λnm l=>(count l).bind λn l=>(states n [] l).bind λss l=>(many (λt=>t == sMove) move l.length [] l).bind λms l=>.ok (ofT nm,ss,ms) l
def rule (l:List Tok):Res Rul :=
 (need sRule l).bind λ_ l=>(name l).bind λnm l=>(name l).bind λk l=>(names l).bind λa l=>(names l).bind λb l=>(number l).bind λn l=>.ok (ofT nm,ofT k,ofT a,ofT b,n) l
def schema (l:List Tok):Res Sch :=
 (need sSchema l).bind λ_ l=>(number l).bind λv l=>(many (λt=>t == sKind) kind l.length [] l).bind λks l=>(many (λt=>t == sLife) life l.length [] l).bind λls l=>(many (λt=>t == sRule) rule l.length [] l).bind λrs l=>.ok (v,ks,ls,rs) l
def noSch:Sch:=(0,[],[],[])
def parse (s:Txt):Sch × Int × Int :=
 if 8192 < s.length then (noSch,8192,4) else
 match schema (toks s) with
 | .bad []=>(noSch,(stopAt s:Int),2)
 | .bad (t::_)=>(noSch,(t.2:Int),2)
 | .ok x []=>if stopAt s < s.length then (noSch,(stopAt s:Int),2) else if valid x=0 then (x,0,0) else (noSch,0,4)
 | .ok _ (t::_)=>(noSch,(t.2:Int),2)
end Sx
end
section
namespace Sx
inductive Av where
 | n (z:Int)
 | s (b:ByteArray)
def Av.t:Av->Txt
 | .n z=>num z
 | .s b=>bs b
def Av.ok:Av->Prop
 | .n z=>z.natAbs < 10000000000
 | .s b=>b.size<=100
def lineP (w:Txt) (l:List Av):Txt:=w++l.flatMap λa=>32::a.t
theorem lineP_nil (w:Txt):lineP w []=w:=by simp [lineP]
theorem lineP_snoc (w:Txt) (l:List Av) (a:Av):lineP w l++[32]++a.t=lineP w (l++[a]):=by simp [lineP]
theorem lineT_cons (t:Txt):∀l:List Txt,lineT (t::l)=t++(l.flatMap λu=>32::u)++[10]
 | []=>by simp [lineT]
 | u::l=>by
  have h:=lineT_cons u l
  show t++32::lineT (u::l)=_
  rw [h]
  simp
theorem lineP_end (w:Txt) (l:List Av):lineP w l++[10]=lineT (w::l.map Av.t):=by
 rw [lineT_cons]
 unfold lineP
 rw [List.flatMap_map]
theorem Av.len {a:Av} (h:a.ok):a.t.length<=100:=by
 cases a with
 | n z=>exact Nat.le_trans (Dc.itoa_len z h) (by decide)
 | s b=>exact h
theorem lineP_le (w:Txt):∀{l:List Av},(∀a∈l,a.ok)->(lineP w l).length<=w.length+101*l.length
 | [],_=>by simp [lineP]
 | a::l,h=>by
  have h1:=lineP_le w (l:=l) λx hx=>h x (.tail _ hx)
  have h2:=Av.len (h a (.head _))
  unfold lineP at h1 ⊢
  simp only [zR,aK,zm] at h1 ⊢
  omega
end Sx
instance:Mem Sx.Av where
 sz:=1
 rep _ _ a vs:=match a with
  | .n z=>vs=[.iface 3 (.int .i64 z)]/\inI z
  | .s b=>vs=[.iface 9 (.string b)]/\b.size<=9223372036854775807
 len {_ _ a _} h:=by cases a <;> (rw [h.1];rfl)
 keep {_ _ _ a _} h _:=by cases a <;> exact h
 sub {_ _ _ a _} h _:=by cases a <;> exact h
 one {_ _ a _} h:=by cases a <;> (rw [h.1];intro u hu;rw [zg] at hu;subst hu;rfl)
theorem infoU8:(Tryz.prog.info? 5).map (λi=>(i.zero,i.size,i.bytes))=some (some (.int .u8 0),1,1):=by kernel_rfl
def BytesP (l:List UInt8) (w:World) (e:Ending) (w':World):Prop:=∃v,e=.returned v/\w'.ownsRow w.heap.size 5 1 v l.length (byteVals l)/\Below w.heap.size w w'
theorem byte_one (b:UInt8):∀u∈[Value.int .u8 b.toNat],u.oneCell'=true:=by intro u hu;rw [zg] at hu;subst hu;rfl
def lows (m k:Nat):List UInt8:=(List.range k).map λi=>UInt8.ofNat (En.dg m i)
theorem lows_snoc (m k:Nat):lows m k++[UInt8.ofNat (En.dg m k)]=lows m (k+1):=by simp [lows,List.range_succ]
theorem lows_length (m k:Nat):(lows m k).length=k:=by simp [lows]
theorem wrapU8 {q:Nat}:IntKind.u8.wrap ((q:Int) % 256)=((UInt8.ofNat (q % 256)).toNat:Int):=by
 have:(UInt8.ofNat (q % 256)).toNat=q % 256:=by simp
 rw [this];simp only [IntKind.wrap,IntKind.signed,IntKind.bits];simp
theorem rInt_any (n:Int) (w:World) (hn:inI n):Calls Tryz.prog 50 #[.int .i64 n] w (BytesP (En.int n) w):=by
 obtain ⟨i0,hi,hz0,hz1,hz2⟩:=zq infoU8
 obtain ⟨m,hm⟩:=aX (En.mag n)
 have hm63:=En.mag_lt hn
 rw [hm] at hm63
 obtain ⟨k,hk⟩:=aX (En.nd m)
 have hk8:=En.nd_le m
 rw [hk] at hk8
 have HAT:=aI (λj=>En.nd_at (j:=j) hm63)
 have HK:=aI hk
 have HM:=aI hm
 have T:=aI (HRow.start (e:=5) (size:=1) (held0 w [] (λ_ h=>by cases h)))
 have hn':=hn
 unfold inI at hn'
 by_cases h0:n < 0
 .have hneg:(m:Int)=-1 - n:=by rw [<-hm];unfold En.mag;rw [if_pos h0];omega
  have d0:decide (n < 0)=true:=ac h0
  have d1:decide (0<=n)=false:=ad (by omega)
  have w0:IntKind.i64.wrap (-1 - n)=(m:Int):=by rw [<-hneg];exact wrapI (by unfold inI;omega)
  have hhead:En.head n=UInt8.ofNat (127 - k):=by unfold En.head;rw [if_pos h0,hm,hk]
  obtain ⟨b0,hb0⟩:=aX (En.head n)
  have hint:En.int n=b0::En.tl n k:=by unfold En.int;rw [hb0,hm,hk]
  have HIN:=aI hint
  have wh:IntKind.u8.wrap (127 - (k:Int))=(b0.toNat:Int):=by
   rw [<-hb0,hhead]
   have:(UInt8.ofNat (127 - k)).toNat=127 - k:=by simp;omega
   rw [this];simp only [IntKind.wrap,IntKind.signed,IntKind.bits];simp;omega
  clear hm hk hneg hhead hb0 hint
  go_enter Tryz.func50,Tryz.ntmps50
  go_wp2_with fail
  go_loopg [3,4] k (λr a v wr=>∃(j:Nat) (M:List Nat),j+r=k/\a=.int .i64 ((m / 256 ^ j:Nat):Int)/\HRow w [] M [] [] 5 1 v j (byteVals (lows m j)) wr)
  case atStart=>exact ⟨0,_,by omega,by simp,T.out⟩
  case round =>
   obtain ⟨j,M,hj,rfl,hH⟩:=hrel
   obtain ⟨wo,rfl⟩:=aY wr
   replace T:=aI hH
   clear hH
   have hat:=HAT.out j
   rw [HK.out] at hat
   obtain ⟨q,hq⟩:=aX (m / 256 ^ j)
   rw [hq] at hat ⊢
   have hqm:q<=m:=by rw [<-hq];exact Nat.div_le_self _ _
   by_cases hlt:j < k
   .have q0:0 < q:=hat.1 hlt
    have q1:decide ((0:Int) < (q:Int))=true:=ac (by omega)
    obtain ⟨b,hb⟩:=aX (UInt8.ofNat (q % 256))
    have wb:IntKind.u8.wrap ((q:Int) % 256)=(b.toNat:Int):=by rw [<-hb];exact wrapU8
    have HSN:=aI (show lows m j++[b]=lows m (j+1) by rw [<-lows_snoc,<-hb,<-hq];rfl)
    obtain ⟨q',hq'⟩:∃q',q / 256=q':=⟨_,rfl⟩
    have HQ:=aI (show m / 256 ^ (j+1)=q' by rw [Nat.pow_succ,<-Nat.div_div_eq_div_mul,hq,hq'])
    have wq:(q:Int) / 256=(q':Int):=by rw [<-hq'];rfl
    clear hat hb hq hq'
    go_wp2_with (at_builtin;refine wpList_append_row (by rfl) _ _ 35 (by rfl) 5 i0 _ 1 1 Tryz.underlying35 hi hz0 hz1 hz2 rfl (by decide) (T.out.below (aP _ _)) (by rfl) _ _ 1 1 [.int .u8 b.toNat] (by rfl) (reads_blk (zj _ _ _) rfl) (byte_one b) (by unfold maxLen;omega) (by omega) ?_;intro v' w' M' h' _;rw [byteVals_snoc] at h';replace T:=aI h';clear h')
    rw [HSN.out] at T
    go_roundg (gk - 1)
    case measure=>omega
    case rel=>exact ⟨j+1,_,by omega,by rw [HQ.out],T.out⟩
   .have q0:q=0:=by have:=hat.2;omega
    subst q0
    have hjk:j=k:=by omega
    subst hjk
    clear hat hq
    obtain ⟨A,c,rfl,hlc,hcm,hF⟩:=T.out.freeze (l:=lows m j) rfl (lows_length m j).symm (flat_bytes _) (λ_ h=>by cases h)
    rw [lows_length] at hlc ⊢
    replace T:=aI (HRow.start (e:=5) (size:=1) hF)
    clear hF
    go_wp2_with (at_builtin;refine wpList_append_row (by rfl) _ _ 35 (by rfl) 5 i0 _ 1 1 Tryz.underlying35 hi hz0 hz1 hz2 rfl (by decide) (T.out.below (aP _ _)) (by rfl) _ _ 1 1 [.int .u8 b0.toNat] (by rfl) (reads_blk (zj _ _ _) rfl) (byte_one b0) (by unfold maxLen;omega) (by omega) ?_;intro v' w' M' h' _;replace T:=aI h';clear h')
    go_loopg [6,7] j (λr v i wr=>∃M:List Nat,r<=j/\i=.int .i64 ((r:Int) - 1)/\HRow w [] M [] [λM W=>SlAt M W A (lows m j)] 5 1 v (1+(j - r)) (byteVals (b0::(En.tl n j).take (j - r))) wr)
    case atStart=>exact ⟨_,ag _,rfl,by have:=T.out;rw [Nat.sub_self];exact this⟩
    case round =>
     obtain ⟨M,hr,rfl,hH⟩:=hrel
     obtain ⟨wo,rfl⟩:=aY wr
     replace T:=aI hH
     clear hH
     by_cases hg:gk=0
     .subst hg
      have e1:((0:Nat):Int) - 1=-1:=rfl
      rw [e1]
      clear e1
      go_wp2_with fail
      go_ret
      have h:=T.out.own
      rw [Nat.sub_zero,List.take_of_length_le (Nat.le_of_eq (En.tl_length _ _)),<-HIN.out] at h
      exact ⟨_,rfl,by rw [HIN.out,zm,En.tl_length,Nat.add_comm,<-HIN.out];exact h,T.out.h.bl⟩
     .obtain ⟨i,rfl⟩:∃i,gk=i+1:=⟨gk - 1,by omega⟩
      have e1:((i+1:Nat):Int) - 1=(i:Int):=by omega
      rw [e1]
      clear e1
      have k0:(0:Int)<=(i:Int):=aa _
      have k1:(i:Int) < (j:Int):=by omega
      have hil:i < (lows m j).length:=by rw [lows_length];omega
      obtain ⟨bb,oo,rfl,_,c1⟩:=byte_at (T.out.h.fact (.head _)) i hil
      have hx:((lows m j)[i]).toNat=En.dg m i:=by have:=En.dg_lt m i;simp [lows];omega
      rw [hx] at c1
      have hd:=En.dg_lt m i
      obtain ⟨b,hb⟩:=aX (En.flip n (En.dg m i))
      have hbn:(b.toNat:Int)=255 - (En.dg m i:Int):=by rw [<-hb];unfold En.flip;rw [if_pos h0];simp;omega
      have HSN:=aI (show (En.tl n j).take (j - (i+1))++[b]=(En.tl n j).take (j - i) by rw [En.tl_snoc _ _ _ (show i < j by omega),HM.out,hb])
      obtain ⟨x,hxx⟩:=aX (En.dg m i)
      rw [hxx] at c1 hd hbn
      have wb:IntKind.u8.wrap (255 - (x:Int))=(b.toNat:Int):=by rw [hbn];simp only [IntKind.wrap,IntKind.signed,IntKind.bits];simp;omega
      clear hx hil hb hbn hxx
      go_wp2_with (at_builtin;refine wpList_append_row (by rfl) _ _ 35 (by rfl) 5 i0 _ 1 1 Tryz.underlying35 hi hz0 hz1 hz2 rfl (by decide) (T.out.below (aP _ _)) (by rfl) _ _ 1 1 [.int .u8 b.toNat] (by rfl) (reads_blk (zj _ _ _) rfl) (byte_one b) (by unfold maxLen;omega) (by omega) ?_;intro v' w' M' h' _;rw [byteVals_snoc] at h';replace T:=aI h';clear h')
      rw [zM,HSN.out] at T
      go_roundg i
      case measure=>omega
      case rel=>exact ⟨_,by omega,rfl,by have:=T.out;rw [show 1+(j - (i+1))+1=1+(j - i) by omega] at this;exact this⟩
 .have hneg:(m:Int)=n:=by rw [<-hm];unfold En.mag;rw [if_neg h0];omega
  have d0:decide (n < 0)=false:=ad h0
  have d1:decide (0<=n)=true:=ac (by omega)
  obtain rfl:=hneg
  have hhead:En.head (m:Int)=UInt8.ofNat (128+k):=by unfold En.head;rw [if_neg h0,hm,hk]
  obtain ⟨b0,hb0⟩:=aX (En.head (m:Int))
  have hint:En.int (m:Int)=b0::En.tl (m:Int) k:=by unfold En.int;rw [hb0,hm,hk]
  have HIN:=aI hint
  have wh:IntKind.u8.wrap (128+(k:Int))=(b0.toNat:Int):=by
   rw [<-hb0,hhead]
   have:(UInt8.ofNat (128+k)).toNat=128+k:=by simp;omega
   rw [this];simp only [IntKind.wrap,IntKind.signed,IntKind.bits];simp;omega
  clear hm hk hhead hb0 hint
  go_enter Tryz.func50,Tryz.ntmps50
  go_wp2_with fail
  go_loopg [3,4] k (λr a v wr=>∃(j:Nat) (M:List Nat),j+r=k/\a=.int .i64 ((m / 256 ^ j:Nat):Int)/\HRow w [] M [] [] 5 1 v j (byteVals (lows m j)) wr)
  case atStart=>exact ⟨0,_,by omega,by simp,T.out⟩
  case round =>
   obtain ⟨j,M,hj,rfl,hH⟩:=hrel
   obtain ⟨wo,rfl⟩:=aY wr
   replace T:=aI hH
   clear hH
   have hat:=HAT.out j
   rw [HK.out] at hat
   obtain ⟨q,hq⟩:=aX (m / 256 ^ j)
   rw [hq] at hat ⊢
   have hqm:q<=m:=by rw [<-hq];exact Nat.div_le_self _ _
   by_cases hlt:j < k
   .have q0:0 < q:=hat.1 hlt
    have q1:decide ((0:Int) < (q:Int))=true:=ac (by omega)
    obtain ⟨b,hb⟩:=aX (UInt8.ofNat (q % 256))
    have wb:IntKind.u8.wrap ((q:Int) % 256)=(b.toNat:Int):=by rw [<-hb];exact wrapU8
    have HSN:=aI (show lows m j++[b]=lows m (j+1) by rw [<-lows_snoc,<-hb,<-hq];rfl)
    obtain ⟨q',hq'⟩:∃q',q / 256=q':=⟨_,rfl⟩
    have HQ:=aI (show m / 256 ^ (j+1)=q' by rw [Nat.pow_succ,<-Nat.div_div_eq_div_mul,hq,hq'])
    have wq:(q:Int) / 256=(q':Int):=by rw [<-hq'];rfl
    clear hat hb hq hq'
    go_wp2_with (at_builtin;refine wpList_append_row (by rfl) _ _ 35 (by rfl) 5 i0 _ 1 1 Tryz.underlying35 hi hz0 hz1 hz2 rfl (by decide) (T.out.below (aP _ _)) (by rfl) _ _ 1 1 [.int .u8 b.toNat] (by rfl) (reads_blk (zj _ _ _) rfl) (byte_one b) (by unfold maxLen;omega) (by omega) ?_;intro v' w' M' h' _;rw [byteVals_snoc] at h';replace T:=aI h';clear h')
    rw [HSN.out] at T
    go_roundg (gk - 1)
    case measure=>omega
    case rel=>exact ⟨j+1,_,by omega,by rw [HQ.out],T.out⟩
   .have q0:q=0:=by have:=hat.2;omega
    subst q0
    have hjk:j=k:=by omega
    subst hjk
    clear hat hq
    obtain ⟨A,c,rfl,hlc,hcm,hF⟩:=T.out.freeze (l:=lows m j) rfl (lows_length m j).symm (flat_bytes _) (λ_ h=>by cases h)
    rw [lows_length] at hlc ⊢
    replace T:=aI (HRow.start (e:=5) (size:=1) hF)
    clear hF
    go_wp2_with (at_builtin;refine wpList_append_row (by rfl) _ _ 35 (by rfl) 5 i0 _ 1 1 Tryz.underlying35 hi hz0 hz1 hz2 rfl (by decide) (T.out.below (aP _ _)) (by rfl) _ _ 1 1 [.int .u8 b0.toNat] (by rfl) (reads_blk (zj _ _ _) rfl) (byte_one b0) (by unfold maxLen;omega) (by omega) ?_;intro v' w' M' h' _;replace T:=aI h';clear h')
    go_loopg [6,7] j (λr v i wr=>∃M:List Nat,r<=j/\i=.int .i64 ((r:Int) - 1)/\HRow w [] M [] [λM W=>SlAt M W A (lows m j)] 5 1 v (1+(j - r)) (byteVals (b0::(En.tl (m:Int) j).take (j - r))) wr)
    case atStart=>exact ⟨_,ag _,rfl,by have:=T.out;rw [Nat.sub_self];exact this⟩
    case round =>
     obtain ⟨M,hr,rfl,hH⟩:=hrel
     obtain ⟨wo,rfl⟩:=aY wr
     replace T:=aI hH
     clear hH
     by_cases hg:gk=0
     .subst hg
      have e1:((0:Nat):Int) - 1=-1:=rfl
      rw [e1]
      clear e1
      go_wp2_with fail
      go_ret
      have h:=T.out.own
      rw [Nat.sub_zero,List.take_of_length_le (Nat.le_of_eq (En.tl_length _ _)),<-HIN.out] at h
      exact ⟨_,rfl,by rw [HIN.out,zm,En.tl_length,Nat.add_comm,<-HIN.out];exact h,T.out.h.bl⟩
     .obtain ⟨i,rfl⟩:∃i,gk=i+1:=⟨gk - 1,by omega⟩
      have e1:((i+1:Nat):Int) - 1=(i:Int):=by omega
      rw [e1]
      clear e1
      have k0:(0:Int)<=(i:Int):=aa _
      have k1:(i:Int) < (j:Int):=by omega
      have hil:i < (lows m j).length:=by rw [lows_length];omega
      obtain ⟨bb,oo,rfl,_,c1⟩:=byte_at (T.out.h.fact (.head _)) i hil
      have hx:((lows m j)[i]).toNat=En.dg m i:=by have:=En.dg_lt m i;simp [lows];omega
      rw [hx] at c1
      have hd:=En.dg_lt m i
      obtain ⟨b,hb⟩:=aX (En.flip (m:Int) (En.dg m i))
      have hbn:(b.toNat:Int)=(En.dg m i:Int):=by rw [<-hb];unfold En.flip;rw [if_neg (by omega)];simp;omega
      have HSN:=aI (show (En.tl (m:Int) j).take (j - (i+1))++[b]=(En.tl (m:Int) j).take (j - i) by rw [En.tl_snoc _ _ _ (show i < j by omega),HM.out,hb])
      obtain ⟨x,hxx⟩:=aX (En.dg m i)
      rw [hxx] at c1 hd hbn
      have wb:(x:Int)=(b.toNat:Int):=by exact hbn.symm
      clear hx hil hb hbn hxx
      rw [wb] at c1
      clear wb hd
      go_wp2_with (at_builtin;refine wpList_append_row (by rfl) _ _ 35 (by rfl) 5 i0 _ 1 1 Tryz.underlying35 hi hz0 hz1 hz2 rfl (by decide) (T.out.below (aP _ _)) (by rfl) _ _ 1 1 [.int .u8 b.toNat] (by rfl) (reads_blk (zj _ _ _) rfl) (byte_one b) (by unfold maxLen;omega) (by omega) ?_;intro v' w' M' h' _;rw [byteVals_snoc] at h';replace T:=aI h';clear h')
      rw [zM,HSN.out] at T
      go_roundg i
      case measure=>omega
      case rel=>exact ⟨_,by omega,rfl,by have:=T.out;rw [show 1+(j - (i+1))+1=1+(j - i) by omega] at this;exact this⟩
theorem acc_len (l:List Int) (k:Nat):((l.take k).map En.int).flatten.length<=9*k:=by
 induction l generalizing k with
 | nil=>simp
 | cons a l ih =>
  cases k with
  | zero=>simp
  | succ k =>
   simp only [List.take_succ_cons,List.map_cons,List.flatten_cons,aK]
   have:=ih k;have:=En.int_le a;omega
def accI (l:List Int) (k:Nat):List UInt8:=En.int l.length++((l.take k).map En.int).flatten
theorem accI_le (l:List Int) (k:Nat):(accI l k).length<=9*(k+1):=by
 unfold accI;rw [aK];have:=acc_len l k;have:=En.int_le l.length;omega
theorem accI_snoc (l:List Int) (k:Nat) (h:k < l.length):accI l k++En.int l[k]=accI l (k+1):=by
 unfold accI;rw [take_snoc' l k h,zY,List.flatten_append,zo];simp
theorem accI_all (l:List Int):accI l l.length=En.ints l:=by unfold accI En.ints;rw [List.take_length]
theorem accI_zero (l:List Int):accI l 0=En.int l.length:=by unfold accI;simp
theorem reads_own {w:World} {base:Nat} {e:TypeId} {size n c:Nat} {A:Option Addr} {xs:List Value} (h:w.ownsRow base e size (.slice A n c) n xs):Reads w w.heap.size size A n xs:=Reads.of_own h
theorem rInts_any (l:List Int) (A:Option Addr) (c:Nat) (w:World) (hl:SlAt [] w A l) (hm:l.length<=1000000):Calls Tryz.prog 52 #[.slice A l.length c] w (BytesP (En.ints l) w):=by
 obtain ⟨i0,hi,hz0,hz1,hz2⟩:=zq infoU8
 obtain ⟨n,hn⟩:=aX l.length
 rw [hn]
 rw [hn] at hm
 have T0:=aI ((held0 w [] (λ_ h=>by cases h)).add (keeps_sl A l) hl)
 have HN:=aI hn
 have CI:=aI (rInt_any (n:Int) w (by unfold inI;omega))
 have HZ:=aI (show En.int (n:Int)=accI l 0 by rw [accI_zero,hn])
 have HEND:=aI (show accI l n=En.ints l by rw [<-hn];exact accI_all l)
 clear hl hn
 go_enter Tryz.func52,Tryz.ntmps52
 go_wp2_with (go_at_call 50;(with_reducible refine CI.out.mono ?_);rintro e w1 ⟨v,rfl,hown,hb⟩;obtain ⟨M1,h1,_⟩:=T0.out.take hb hown;have T:=aI h1;clear h1 hown hb)
 rw [HZ.out] at T
 go_loopg [3,4] n (λr v i wr=>∃(k:Nat) (M:List Nat),k+r=n/\i=.int .i64 k/\HRow w [] M [] [λM W=>SlAt M W A l] 5 1 v (accI l k).length (byteVals (accI l k)) wr)
 case atStart=>exact ⟨0,_,by omega,rfl,T.out⟩
 case round =>
  obtain ⟨k,M,hk,rfl,hH⟩:=hrel
  obtain ⟨wo,rfl⟩:=aY wr
  replace T:=aI hH
  clear hH
  by_cases hlt:k < n
  .have hkl:k < l.length:=by rw [HN.out];exact hlt
   have k0:(0:Int)<=(k:Int):=aa _
   have k1:(k:Int) < (n:Int):=by omega
   obtain ⟨b,o,rfl,_,c0,hx⟩:=int_at (T.out.h.fact (.head _)) k hkl
   have HSN:=aI (accI_snoc l k hkl)
   have hle:=accI_le l k
   obtain ⟨x,hxx⟩:=aX (l[k])
   rw [hxx] at c0 hx HSN
   have CX:=aI (rInt_any x wo hx)
   have hxl:=En.int_le x
   obtain ⟨na,hna⟩:=aX ((accI l k).length)
   obtain ⟨nb,hnb⟩:=aX ((En.int x).length)
   rw [hna] at hle T
   rw [hnb] at hxl
   have HNL:=aI (show na+nb=(accI l (k+1)).length by rw [<-HSN.out,aK,hna,hnb])
   unfold BytesP at CX
   rw [hnb] at CX
   clear hna hnb hxx hx
   go_wp2_with (first | (go_at_call 50;(with_reducible refine CX.out.mono ?_);rintro e w1 ⟨v,rfl,hown,hb⟩;obtain ⟨Ab,cb,rfl⟩:=zP hown;replace T:=aI (T.out.below hb);have HR:=aI (reads_own hown);clear hown hb) | (at_builtin;refine wpList_append_row (by rfl) _ _ 35 (by rfl) 5 i0 _ 1 1 Tryz.underlying35 hi hz0 hz1 hz2 rfl (by decide) T.out (by rfl) _ _ nb _ (byteVals (En.int x)) (by rfl) HR.out (byteVals_one _) (by unfold maxLen;omega) (by omega) ?_;intro v' w' M' h' _;rw [<-byteVals_append,HSN.out,HNL.out] at h';replace T:=aI h';clear h' HR))
   go_roundg (gk - 1)
   case measure=>omega
   case rel=>exact ⟨k+1,_,by omega,by go_num,T.out⟩
  .have hkn:k=n:=by omega
   subst hkn
   rw [HEND.out] at T
   go_wp2_with fail
   go_ret
   exact ⟨_,rfl,T.out.own,T.out.h.bl⟩
theorem xor255F:∀x:Fin 256,bits .xor .u8 ((x.val:Nat):Int) 255=255 - (x.val:Int):=by decide +kernel
theorem xor0F:∀x:Fin 256,bits .xor .u8 ((x.val:Nat):Int) 0=(x.val:Int):=by decide +kernel
theorem xor255 (x:Nat) (h:x < 256):bits .xor .u8 (x:Int) 255=255 - (x:Int):=xor255F ⟨x,h⟩
theorem xor0 (x:Nat) (h:x < 256):bits .xor .u8 (x:Int) 0=(x:Int):=xor0F ⟨x,h⟩
theorem xorMax (U:Nat) (h:U < 18446744073709551616):bits .xor .u64 IntKind.u64.max (U:Int)=18446744073709551615 - (U:Int):=by
 unfold bits
 have h1:BitVec.ofInt 64 18446744073709551615=BitVec.allOnes 64:=by decide
 show IntKind.u64.wrap ((BitVec.ofInt 64 IntKind.u64.max ^^^ BitVec.ofInt 64 (U:Int)).toNat:Int)=_
 rw [show IntKind.u64.max=18446744073709551615 from rfl,h1,BitVec.allOnes_xor,BitVec.toNat_not,BitVec.toNat_ofInt]
 simp only [IntKind.wrap,IntKind.signed,IntKind.bits]
 simp
 omega
theorem shr_is (m i:Nat):(m:Int) / 2 ^ (8*i)=((m / 256 ^ i:Nat):Int):=by
 have e:(2:Nat) ^ (8*i)=256 ^ i:=by rw [Nat.pow_mul]
 rw [<-e,Int.natCast_ediv,Int.natCast_pow];rfl
theorem int_any (n:Int) (w:World) (hn:inI n):Calls Tryz.prog 17 #[.int .i64 n] w (BytesP (En.int n) w):=by
 obtain ⟨i0,hi,hz0,hz1,hz2⟩:=zq infoU8
 obtain ⟨m,hm⟩:=aX (En.mag n)
 have hm63:=En.mag_lt hn
 rw [hm] at hm63
 obtain ⟨k,hk⟩:=aX (En.nd m)
 have hk8:=En.nd_le m
 rw [hk] at hk8
 have HAT:=aI (λj=>En.nd_at (j:=j) hm63)
 have hn':=hn
 unfold inI at hn'
 by_cases h0:n < 0
 .have hneg:(m:Int)=-1 - n:=by rw [<-hm];unfold En.mag;rw [if_pos h0];omega
  have d0:decide (n < 0)=true:=ac h0
  obtain ⟨U,hU⟩:∃U:Nat,(U:Int)=18446744073709551616+n:=⟨(18446744073709551616+n).toNat,by omega⟩
  have wU:IntKind.u64.wrap n=(U:Int):=by simp only [IntKind.wrap,IntKind.signed,IntKind.bits];simp;omega
  have wX:bits BinOp.xor IntKind.u64 IntKind.u64.max (U:Int)=(m:Int):=by rw [xorMax _ (by omega)];omega
  clear hU hneg
  have HM:=aI hm
  have HK:=aI hk
  clear hm hk
  go_enter Tryz.func17,Tryz.ntmps17
  go_wp2_with fail
  go_step3
  go_wp2_with fail
  go_step3
  go_wp2_with fail
  go_loopg [5] 8 (λr i wr=>wr=w/\i=.int .i64 r/\k<=r/\r<=8)
  case atStart=>exact ⟨rfl,rfl,hk8,ag _⟩
  case round =>
   obtain ⟨rfl,rfl,hkr,hr8⟩:=hrel
   obtain ⟨w,rfl⟩:=aY wr
   have hat:=HAT.out (gk - 1)
   rw [HK.out] at hat
   have hsh:=shr_is m (gk - 1)
   obtain ⟨q,hq⟩:=aX (m / 256 ^ (gk - 1))
   rw [hq] at hat hsh
   clear hq
   by_cases hz:gk=0
   .subst hz
    have hk0:k=0:=by omega
    subst hk0
    clear hat hsh
    have t1:decide ((0:Int) < ((0:Nat):Int))=false:=rfl
    have hk8':0<=8:=by first | omega | exact hk8
    obtain ⟨b0,hb0⟩:=aX (En.head n)
    have HIN:=aI (show En.int n=b0::En.tl n 0 by unfold En.int;rw [hb0,HM.out,HK.out])
    have wh:bits .xor .u8 (128+((0:Nat):Int)) 255=(b0.toNat:Int):=by
     rw [<-hb0];unfold En.head;rw [if_pos h0,HM.out,HK.out,show (128+((0:Nat):Int))=((128+0:Nat):Int) by omega,xor255 _ (by omega)]
     simp <;> omega
    clear hb0
    rw [show (128+((0:Nat):Int))=128 from rfl] at wh
    have T:=aI (HRow.lit w 5 (.int .u8 b0.toNat))
    go_wp2_with fail

    go_loopg [6,7] 0 (λr v i wr=>∃M:List Nat,r<=0/\i=.int .i64 ((r:Int) - 1)/\HRow w [] M [] [] 5 1 v (1+(0 - r)) (byteVals (b0::(En.tl n 0).take (0 - r))) wr)
    case atStart=>exact ⟨_,ag _,rfl,by have:=T.out;rw [Nat.sub_self];exact this⟩
    case round =>
     obtain ⟨M,hr,rfl,hH⟩:=hrel
     obtain ⟨wo,rfl⟩:=aY wr
     replace T:=aI hH
     clear hH
     by_cases hg:gk=0
     .subst hg
      have e1:((0:Nat):Int) - 1=-1:=rfl
      rw [e1]
      clear e1
      go_wp2_with fail
      try rw [Exit.noGoto_ret]
      go_ret
      have h:=T.out.own
      rw [Nat.sub_zero,List.take_of_length_le (Nat.le_of_eq (En.tl_length _ _)),<-HIN.out] at h
      exact ⟨_,rfl,by rw [HIN.out,zm,En.tl_length,Nat.add_comm,<-HIN.out];exact h,T.out.h.bl⟩
     .exact zU (Nat.le_zero.1 hr) hg
   .have t1:decide ((0:Int) < (gk:Int))=true:=ac (by omega)
    have t5:decide (0 < gk)=true:=ac (by omega)
    have t3:(1:Int)<=(gk:Int):=by omega
    have t4:(gk:Int)<=8:=by omega
    by_cases hkk:k=gk
    .subst hkk
     have q0:0 < q:=hat.1 (by omega)
     have t2:decide (0 < q)=true:=ac q0
     clear hat
     have hk8':k<=8:=by first | omega | exact hk8
     obtain ⟨b0,hb0⟩:=aX (En.head n)
     have HIN:=aI (show En.int n=b0::En.tl n k by unfold En.int;rw [hb0,HM.out,HK.out])
     have wh:bits .xor .u8 (128+((k:Nat):Int)) 255=(b0.toNat:Int):=by
      rw [<-hb0];unfold En.head;rw [if_pos h0,HM.out,HK.out,show (128+((k:Nat):Int))=((128+k:Nat):Int) by omega,xor255 _ (by omega)]
      simp <;> omega
     clear hb0
     have T:=aI (HRow.lit w 5 (.int .u8 b0.toNat))
     go_wp2_with fail
     try rw [hsh]
     go_loopg [6,7] k (λr v i wr=>∃M:List Nat,r<=k/\i=.int .i64 ((r:Int) - 1)/\HRow w [] M [] [] 5 1 v (1+(k - r)) (byteVals (b0::(En.tl n k).take (k - r))) wr)
     case atStart=>exact ⟨_,ag _,rfl,by have:=T.out;rw [Nat.sub_self];exact this⟩
     case round =>
      obtain ⟨M,hr,rfl,hH⟩:=hrel
      obtain ⟨wo,rfl⟩:=aY wr
      replace T:=aI hH
      clear hH
      by_cases hg:gk=0
      .subst hg
       have e1:((0:Nat):Int) - 1=-1:=rfl
       rw [e1]
       clear e1
       go_wp2_with fail
       try rw [Exit.noGoto_ret]
       go_ret
       have h:=T.out.own
       rw [Nat.sub_zero,List.take_of_length_le (Nat.le_of_eq (En.tl_length _ _)),<-HIN.out] at h
       exact ⟨_,rfl,by rw [HIN.out,zm,En.tl_length,Nat.add_comm,<-HIN.out];exact h,T.out.h.bl⟩
      .obtain ⟨i,rfl⟩:∃i,gk=i+1:=⟨gk - 1,by omega⟩
       have e1:((i+1:Nat):Int) - 1=(i:Int):=by omega
       rw [e1]
       clear e1
       have k0:(0:Int)<=(i:Int):=aa _
       have k1:(i:Int) < 8:=by omega
       obtain ⟨b,hb⟩:=aX (En.flip n (En.dg m i))
       have HSN:=aI (show (En.tl n k).take (k - (i+1))++[b]=(En.tl n k).take (k - i) by rw [En.tl_snoc _ _ _ (show i < k by omega),HM.out,hb])
       have hd:=En.dg_lt m i
       have wx:bits .xor .u8 ((En.dg m i:Nat):Int) 255=(b.toNat:Int):=by
        rw [xor255 _ hd,<-hb];unfold En.flip;rw [if_pos h0];simp;omega
       obtain ⟨x,hxx⟩:=aX (En.dg m i)
       have hsh:=shr_is m i
       obtain ⟨q,hq⟩:=aX (m / 256 ^ i)
       have hdx:q % 256=x:=by rw [<-hq,<-hxx];rfl
       have hqm:q<=m:=by rw [<-hq];exact Nat.div_le_self _ _
       rw [hq] at hsh
       rw [hxx] at wx hd
       have wb:IntKind.u8.wrap (q:Int)=(x:Int):=by rw [<-hdx];simp only [IntKind.wrap,IntKind.signed,IntKind.bits];simp
       clear hb hxx hq hdx
       go_wp2_with (at_builtin;refine wpList_append_row (by rfl) _ _ 35 (by rfl) 5 i0 _ 1 1 Tryz.underlying35 hi hz0 hz1 hz2 rfl (by decide) (T.out.below (aP _ _)) (by rfl) _ _ 1 1 [.int .u8 b.toNat] (by rfl) (reads_blk (zj _ _ _) rfl) (byte_one b) (by unfold maxLen;omega) (by omega) ?_;intro v' w' M' h' _;rw [byteVals_snoc] at h';replace T:=aI h';clear h')
       rw [zM,HSN.out] at T
       go_roundg i
       case measure=>omega
       case rel=>exact ⟨_,by omega,rfl,by have:=T.out;rw [show 1+(k - (i+1))+1=1+(k - i) by omega] at this;exact this⟩
    .have q0:q=0:=by have:=hat.2;omega
     subst q0
     clear hat
     go_wp2_with fail
     go_roundg (gk - 1)
     case measure=>omega
     case rel=>exact ⟨rfl,by rw [show ((gk - 1:Nat):Int)=(gk:Int) - 1 by omega],by omega,by omega⟩
 .have hneg:(m:Int)=n:=by rw [<-hm];unfold En.mag;rw [if_neg h0];omega
  obtain rfl:=hneg
  have HM:=aI hm
  have HK:=aI hk
  clear hm hk
  go_enter Tryz.func17,Tryz.ntmps17
  go_wp2_with fail
  go_step3
  go_wp2_with fail
  go_step3
  go_wp2_with fail
  go_loopg [5] 8 (λr i wr=>wr=w/\i=.int .i64 r/\k<=r/\r<=8)
  case atStart=>exact ⟨rfl,rfl,hk8,ag _⟩
  case round =>
   obtain ⟨rfl,rfl,hkr,hr8⟩:=hrel
   obtain ⟨w,rfl⟩:=aY wr
   have hat:=HAT.out (gk - 1)
   rw [HK.out] at hat
   have hsh:=shr_is m (gk - 1)
   obtain ⟨q,hq⟩:=aX (m / 256 ^ (gk - 1))
   rw [hq] at hat hsh
   clear hq
   by_cases hz:gk=0
   .subst hz
    have hk0:k=0:=by omega
    subst hk0
    clear hat hsh
    have t1:decide ((0:Int) < ((0:Nat):Int))=false:=rfl
    have hk8':0<=8:=by first | omega | exact hk8
    obtain ⟨b0,hb0⟩:=aX (En.head (m:Int))
    have HIN:=aI (show En.int (m:Int)=b0::En.tl (m:Int) 0 by unfold En.int;rw [hb0,HM.out,HK.out])
    have wh:bits .xor .u8 (128+((0:Nat):Int)) 0=(b0.toNat:Int):=by
     rw [<-hb0];unfold En.head;rw [if_neg (by omega),HM.out,HK.out,show (128+((0:Nat):Int))=((128+0:Nat):Int) by omega,xor0 _ (by omega)]
     simp <;> omega
    clear hb0
    rw [show (128+((0:Nat):Int))=128 from rfl] at wh
    have T:=aI (HRow.lit w 5 (.int .u8 b0.toNat))
    go_wp2_with fail

    go_loopg [6,7] 0 (λr v i wr=>∃M:List Nat,r<=0/\i=.int .i64 ((r:Int) - 1)/\HRow w [] M [] [] 5 1 v (1+(0 - r)) (byteVals (b0::(En.tl (m:Int) 0).take (0 - r))) wr)
    case atStart=>exact ⟨_,ag _,rfl,by have:=T.out;rw [Nat.sub_self];exact this⟩
    case round =>
     obtain ⟨M,hr,rfl,hH⟩:=hrel
     obtain ⟨wo,rfl⟩:=aY wr
     replace T:=aI hH
     clear hH
     by_cases hg:gk=0
     .subst hg
      have e1:((0:Nat):Int) - 1=-1:=rfl
      rw [e1]
      clear e1
      go_wp2_with fail
      try rw [Exit.noGoto_ret]
      go_ret
      have h:=T.out.own
      rw [Nat.sub_zero,List.take_of_length_le (Nat.le_of_eq (En.tl_length _ _)),<-HIN.out] at h
      exact ⟨_,rfl,by rw [HIN.out,zm,En.tl_length,Nat.add_comm,<-HIN.out];exact h,T.out.h.bl⟩
     .exact zU (Nat.le_zero.1 hr) hg
   .have t1:decide ((0:Int) < (gk:Int))=true:=ac (by omega)
    have t5:decide (0 < gk)=true:=ac (by omega)
    have t3:(1:Int)<=(gk:Int):=by omega
    have t4:(gk:Int)<=8:=by omega
    by_cases hkk:k=gk
    .subst hkk
     have q0:0 < q:=hat.1 (by omega)
     have t2:decide (0 < q)=true:=ac q0
     clear hat
     have hk8':k<=8:=by first | omega | exact hk8
     obtain ⟨b0,hb0⟩:=aX (En.head (m:Int))
     have HIN:=aI (show En.int (m:Int)=b0::En.tl (m:Int) k by unfold En.int;rw [hb0,HM.out,HK.out])
     have wh:bits .xor .u8 (128+((k:Nat):Int)) 0=(b0.toNat:Int):=by
      rw [<-hb0];unfold En.head;rw [if_neg (by omega),HM.out,HK.out,show (128+((k:Nat):Int))=((128+k:Nat):Int) by omega,xor0 _ (by omega)]
      simp <;> omega
     clear hb0
     have T:=aI (HRow.lit w 5 (.int .u8 b0.toNat))
     go_wp2_with fail
     try rw [hsh]
     go_loopg [6,7] k (λr v i wr=>∃M:List Nat,r<=k/\i=.int .i64 ((r:Int) - 1)/\HRow w [] M [] [] 5 1 v (1+(k - r)) (byteVals (b0::(En.tl (m:Int) k).take (k - r))) wr)
     case atStart=>exact ⟨_,ag _,rfl,by have:=T.out;rw [Nat.sub_self];exact this⟩
     case round =>
      obtain ⟨M,hr,rfl,hH⟩:=hrel
      obtain ⟨wo,rfl⟩:=aY wr
      replace T:=aI hH
      clear hH
      by_cases hg:gk=0
      .subst hg
       have e1:((0:Nat):Int) - 1=-1:=rfl
       rw [e1]
       clear e1
       go_wp2_with fail
       try rw [Exit.noGoto_ret]
       go_ret
       have h:=T.out.own
       rw [Nat.sub_zero,List.take_of_length_le (Nat.le_of_eq (En.tl_length _ _)),<-HIN.out] at h
       exact ⟨_,rfl,by rw [HIN.out,zm,En.tl_length,Nat.add_comm,<-HIN.out];exact h,T.out.h.bl⟩
      .obtain ⟨i,rfl⟩:∃i,gk=i+1:=⟨gk - 1,by omega⟩
       have e1:((i+1:Nat):Int) - 1=(i:Int):=by omega
       rw [e1]
       clear e1
       have k0:(0:Int)<=(i:Int):=aa _
       have k1:(i:Int) < 8:=by omega
       obtain ⟨b,hb⟩:=aX (En.flip (m:Int) (En.dg m i))
       have HSN:=aI (show (En.tl (m:Int) k).take (k - (i+1))++[b]=(En.tl (m:Int) k).take (k - i) by rw [En.tl_snoc _ _ _ (show i < k by omega),HM.out,hb])
       have hd:=En.dg_lt m i
       have wx:bits .xor .u8 ((En.dg m i:Nat):Int) 0=(b.toNat:Int):=by
        rw [xor0 _ hd,<-hb];unfold En.flip;rw [if_neg (by omega)];simp;omega
       obtain ⟨x,hxx⟩:=aX (En.dg m i)
       have hsh:=shr_is m i
       obtain ⟨q,hq⟩:=aX (m / 256 ^ i)
       have hdx:q % 256=x:=by rw [<-hq,<-hxx];rfl
       have hqm:q<=m:=by rw [<-hq];exact Nat.div_le_self _ _
       rw [hq] at hsh
       rw [hxx] at wx hd
       have wb:IntKind.u8.wrap (q:Int)=(x:Int):=by rw [<-hdx];simp only [IntKind.wrap,IntKind.signed,IntKind.bits];simp
       clear hb hxx hq hdx
       go_wp2_with (at_builtin;refine wpList_append_row (by rfl) _ _ 35 (by rfl) 5 i0 _ 1 1 Tryz.underlying35 hi hz0 hz1 hz2 rfl (by decide) (T.out.below (aP _ _)) (by rfl) _ _ 1 1 [.int .u8 b.toNat] (by rfl) (reads_blk (zj _ _ _) rfl) (byte_one b) (by unfold maxLen;omega) (by omega) ?_;intro v' w' M' h' _;rw [byteVals_snoc] at h';replace T:=aI h';clear h')
       rw [zM,HSN.out] at T
       go_roundg i
       case measure=>omega
       case rel=>exact ⟨_,by omega,rfl,by have:=T.out;rw [show 1+(k - (i+1))+1=1+(k - i) by omega] at this;exact this⟩
    .have q0:q=0:=by have:=hat.2;omega
     subst q0
     clear hat
     go_wp2_with fail
     go_roundg (gk - 1)
     case measure=>omega
     case rel=>exact ⟨rfl,by rw [show ((gk - 1:Nat):Int)=(gk:Int) - 1 by omega],by omega,by omega⟩
theorem ints_any (l:List Int) (A:Option Addr) (c:Nat) (w:World) (hl:SlAt [] w A l) (hm:l.length<=1000000):Calls Tryz.prog 43 #[.slice A l.length c] w (BytesP (En.ints l) w):=by
 obtain ⟨i0,hi,hz0,hz1,hz2⟩:=zq infoU8
 obtain ⟨n,hn⟩:=aX l.length
 rw [hn]
 rw [hn] at hm
 have T0:=aI ((held0 w [] (λ_ h=>by cases h)).add (keeps_sl A l) hl)
 have HN:=aI hn
 have CI:=aI (int_any (n:Int) w (by unfold inI;omega))
 have HZ:=aI (show En.int (n:Int)=accI l 0 by rw [accI_zero,hn])
 have HEND:=aI (show accI l n=En.ints l by rw [<-hn];exact accI_all l)
 clear hl hn
 go_enter Tryz.func43,Tryz.ntmps43
 go_wp2_with (go_at_call 17;(with_reducible refine CI.out.mono ?_);rintro e w1 ⟨v,rfl,hown,hb⟩;obtain ⟨M1,h1,_⟩:=T0.out.take hb hown;have T:=aI h1;clear h1 hown hb)
 rw [HZ.out] at T
 go_loopg [3,11] n (λr v i wr=>∃(k:Nat) (M:List Nat),k+r=n/\i=.int .i64 k/\HRow w [] M [] [λM W=>SlAt M W A l] 5 1 v (accI l k).length (byteVals (accI l k)) wr)
 case atStart=>exact ⟨0,_,by omega,rfl,T.out⟩
 case round =>
  obtain ⟨k,M,hk,rfl,hH⟩:=hrel
  obtain ⟨wo,rfl⟩:=aY wr
  replace T:=aI hH
  clear hH
  by_cases hlt:k < n
  .have hkl:k < l.length:=by rw [HN.out];exact hlt
   have k0:(0:Int)<=(k:Int):=aa _
   have k1:(k:Int) < (n:Int):=by omega
   obtain ⟨b,o,rfl,_,c0,hx⟩:=int_at (T.out.h.fact (.head _)) k hkl
   have HSN:=aI (accI_snoc l k hkl)
   have hle:=accI_le l k
   obtain ⟨x,hxx⟩:=aX (l[k])
   rw [hxx] at c0 hx HSN
   have CX:=aI (int_any x wo hx)
   have hxl:=En.int_le x
   obtain ⟨na,hna⟩:=aX ((accI l k).length)
   obtain ⟨nb,hnb⟩:=aX ((En.int x).length)
   rw [hna] at hle T
   rw [hnb] at hxl
   have HNL:=aI (show na+nb=(accI l (k+1)).length by rw [<-HSN.out,aK,hna,hnb])
   unfold BytesP at CX
   rw [hnb] at CX
   clear hna hnb hxx hx
   go_wp2_with (first | (go_at_call 17;(with_reducible refine CX.out.mono ?_);rintro e w1 ⟨v,rfl,hown,hb⟩;obtain ⟨Ab,cb,rfl⟩:=zP hown;replace T:=aI (T.out.below hb);have HR:=aI (reads_own hown);clear hown hb) | (at_builtin;refine wpList_append_row (by rfl) _ _ 35 (by rfl) 5 i0 _ 1 1 Tryz.underlying35 hi hz0 hz1 hz2 rfl (by decide) T.out (by rfl) _ _ nb _ (byteVals (En.int x)) (by rfl) HR.out (byteVals_one _) (by unfold maxLen;omega) (by omega) ?_;intro v' w' M' h' _;rw [<-byteVals_append,HSN.out,HNL.out] at h';replace T:=aI h';clear h' HR))
   go_roundg (gk - 1)
   case measure=>omega
   case rel=>exact ⟨k+1,_,by omega,by go_num,T.out⟩
  .have hkn:k=n:=by omega
   subst hkn
   rw [HEND.out] at T
   go_wp2_with fail
   go_ret
   exact ⟨_,rfl,T.out.own,T.out.h.bl⟩
def IsBytes (l:List UInt8) (v:Value) (w:World):Prop:=∃base,w.ownsRow base 5 1 v l.length (byteVals l)
theorem isBytes_kept (l:List UInt8):Kept (IsBytes l):=λ_ _ _ ⟨base,h⟩ hb=>⟨base,owns_below h hb⟩
end
end Go.Proofs.YtobcnhmhgoccnaaGreatDoor
