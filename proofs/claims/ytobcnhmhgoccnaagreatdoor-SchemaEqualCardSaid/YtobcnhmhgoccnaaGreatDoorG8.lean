/- Parts of the proof, joined: SxPlain, M5, M6. -/
import Derived.Test.YtobcnhmhgoccnaaGreatDoorG1
set_option maxRecDepth 100000
set_option maxHeartbeats 4000000
set_option linter.unusedVariables false
set_option linter.unusedSimpArgs false
set_option linter.unusedSectionVars false
namespace Go.Proofs.YtobcnhmhgoccnaaGreatDoor
open Go Go.RowKit
section
namespace Sx
def letterB (c:UInt8):Bool:=decide (97<=c.toNat) && decide (c.toNat<=122)
def alnumB (c:UInt8):Bool:=letterB c || Dc.isDig c
def nameB (s:List UInt8):Bool:=decide (1<=s.length) && decide (s.length<=12) && letterB (s.headD 0) && s.all alnumB
def nm (s:ByteArray):Bool:=nameB s.data.toList
def em (s:ByteArray):Bool:=decide (s.size=0)
def within (n a b:Int):Bool:=decide (a<=n) && decide (n<=b)
def span (lo hi a b:Int):Bool:=decide (a<=lo) && (decide (lo<=hi) && decide (hi<=b))
def most:Int:=1048576
def pickB (ws:List ByteArray) (ns:List Int):Bool:=ns.all (fun n=>within n 0 most) && (within ws.length 1 12 && (decide (ws.length=ns.length) && (decide (0 < ns.sum) && ws.all nm)))
def noW (f:Fld):Bool:=decide ((Sc.words f).length=0) && decide ((Sc.wts f).length=0)
def fldB (f:Fld):Bool:=nm (Sc.nm f) &&
 (if Sc.kd f=0 then em (Sc.of_ f) && (em (Sc.up f) && (decide (Sc.hi f=0) && (noW f && within (Sc.lo f) (-most) most)))
 else if Sc.kd f=1 then em (Sc.up f) && (noW f && (nm (Sc.of_ f) && span (Sc.lo f) (Sc.hi f) 0 65536))
 else if Sc.kd f=2 then em (Sc.of_ f) && (em (Sc.up f) && (noW f && span (Sc.lo f) (Sc.hi f) (-most) most))
 else if Sc.kd f=3 then em (Sc.of_ f) && (em (Sc.up f) && (decide (Sc.lo f=0) && (decide (Sc.hi f=0) && pickB (Sc.words f) (Sc.wts f))))
 else if Sc.kd f=4 then em (Sc.up f) && (noW f && ((em (Sc.of_ f) || nm (Sc.of_ f)) && span (Sc.lo f) (Sc.hi f) (-most) most))
 else if Sc.kd f=5 then em (Sc.up f) && (noW f && (nm (Sc.of_ f) && span (Sc.lo f) (Sc.hi f) 0 32))
 else if Sc.kd f=6 then em (Sc.up f) && (noW f && (decide (Sc.lo f=0) && (decide (Sc.hi f=0) && nm (Sc.of_ f))))
 else if Sc.kd f=7 then noW f && (nm (Sc.of_ f) && (nm (Sc.up f) && span (Sc.lo f) (Sc.hi f) 0 most))
 else if Sc.kd f=8 then noW f && (decide (Sc.lo f=0) && (decide (Sc.hi f=0) && (nm (Sc.of_ f) && nm (Sc.up f))))
 else false)
def kndB (k:Knd):Bool:=nm k.1 && (span k.2.1 k.2.2.1 0 65536 && (decide ((Sc.flds k).length<=10) && (Sc.flds k).all fldB))
def lifB (x:Lif):Bool:=nm x.1 && (within x.2.1.length 1 12 && (x.2.1.all nm && (decide (x.2.2.length<=32) && x.2.2.all fun m=>within m.1 0 ((x.2.1.length:Int) - 1) && within m.2 0 ((x.2.1.length:Int) - 1))))
def rulB (r:Rul):Bool:=nm r.1 && (nm r.2.1 && ((em r.2.2.1 || nm r.2.2.1) && ((em r.2.2.2.1 || nm r.2.2.2.1) && (!(em r.2.2.1 && em r.2.2.2.1) && within r.2.2.2.2 (-most) most))))
def okB (x:Sch):Bool:=within x.1 0 most && (decide ((Sc.kinds x).length<=6) && (decide (x.2.2.1.length<=6) && (decide (x.2.2.2.length<=16) && ((Sc.kinds x).all kndB && (x.2.2.1.all lifB && x.2.2.2.all rulB)))))
abbrev Txt:=List UInt8
def wordsL:List Txt:=[[107,101,121],[114,101,102],[110,117,109],[112,105,99,107],[100,97,121],[115,116,101,112],[115,117,109],[115,104,97,114,101],[99,111,112,121]]
def sSchema:Txt:=[115,99,104,101,109,97]
def sKind:Txt:=[107,105,110,100]
def sLife:Txt:=[108,105,102,101]
def sMove:Txt:=[109,111,118,101]
def sRule:Txt:=[114,117,108,101]
def bs (s:ByteArray):Txt:=s.data.toList
def num (n:Int):Txt:=Lib.itoa n
def orNone (s:ByteArray):Txt:=if em s=true then [45] else bs s
def lineT:List Txt->Txt
 | []=>[10]
 | [t]=>t++[10]
 | t::u::l=>t++32::lineT (u::l)
def picksT:List ByteArray->List Int->List Txt
 | w::ws,n::ns=>bs w::num n::picksT ws ns
 | _,_=>[]
def fldT (f:Fld):List Txt :=
 if Sc.kd f=0 then [wordsL.getD 0 [],bs (Sc.nm f),num (Sc.lo f)]
 else if Sc.kd f=2 then [wordsL.getD 2 [],bs (Sc.nm f),num (Sc.lo f),num (Sc.hi f)]
 else if Sc.kd f=3 then wordsL.getD 3 []::bs (Sc.nm f)::num (Sc.words f).length::picksT (Sc.words f) (Sc.wts f)
 else if Sc.kd f=6 then [wordsL.getD 6 [],bs (Sc.nm f),bs (Sc.of_ f)]
 else if Sc.kd f=7 then [wordsL.getD 7 [],bs (Sc.nm f),bs (Sc.up f),bs (Sc.of_ f),num (Sc.lo f),num (Sc.hi f)]
 else if Sc.kd f=8 then [wordsL.getD 8 [],bs (Sc.nm f),bs (Sc.up f),bs (Sc.of_ f)]
 else [wordsL.getD (Sc.kd f).toNat [],bs (Sc.nm f),orNone (Sc.of_ f),num (Sc.lo f),num (Sc.hi f)]
def kndL (k:Knd):List (List Txt):=[sKind,bs k.1,num k.2.1,num k.2.2.1]::(Sc.flds k).map fldT
def lifL (x:Lif):List (List Txt):=(sLife::bs x.1::num x.2.1.length::x.2.1.map bs)::x.2.2.map fun m=>[sMove,num m.1,num m.2]
def rulL (r:Rul):List Txt:=[sRule,bs r.1,bs r.2.1,orNone r.2.2.1,orNone r.2.2.2.1,num r.2.2.2.2]
def linesL (x:Sch):List (List Txt):=[sSchema,num x.1]::((Sc.kinds x).flatMap kndL++(x.2.2.1.flatMap lifL++x.2.2.2.map rulL))
def source (x:Sch):Txt:=(linesL x).flatMap lineT
def valid (x:Sch):Int:=if okB x=true then (if 8192 < (source x).length then 4 else 0) else 1
def print (x:Sch):Txt:=if valid x=0 then source x else []
abbrev Tok:=Txt × Nat
def toks (s:Txt):List Tok:=(Vm.scan s (s.length+1) 0).1.map fun t=>(Vm.piece s t.1 t.2,t.1)
def stopAt (s:Txt):Nat:=(Vm.scan s (s.length+1) 0).2
inductive Res (α:Type) where
 | ok (a:α) (l:List Tok)
 | bad (l:List Tok)
def Res.bind {α β:Type}:Res α->(α->List Tok->Res β)->Res β
 | .ok a l,f=>f a l
 | .bad l,_=>.bad l
def next (right:Txt->Bool):List Tok->Res Txt
 | []=>.bad []
 | t::l=>if right t.1=true then .ok t.1 l else .bad (t::l)
def neg (w:Txt):Bool:=w.head? == some 45
def digs (w:Txt):Txt:=if neg w=true then w.tail else w
def numB (w:Txt):Bool:=decide (1<=(digs w).length) && (decide ((digs w).length<=9) && (digs w).all Dc.isDig)
def numV (w:Txt):Int:=if neg w=true then -(Dc.decV (digs w):Int) else (Dc.decV (digs w):Int)
def need (w:Txt) (l:List Tok):Res Unit:=(next (fun t=>t == w) l).bind fun _ l=>.ok () l
def number (l:List Tok):Res Int:=(next numB l).bind fun t l=>.ok (numV t) l
def count (l:List Tok):Res Nat:=(next (fun t=>numB t && within (numV t) 1 12) l).bind fun t l=>.ok (numV t).toNat l
def name (l:List Tok):Res Txt:=next nameB l
def names (l:List Tok):Res Txt:=(next (fun t=>nameB t || t == [45]) l).bind fun t l=>.ok (if t == [45] then [] else t) l
def ofT (t:Txt):ByteArray:=⟨t.toArray⟩
def many {α:Type} (begins:Txt->Bool) (read:List Tok->Res α):Nat->List α->List Tok->Res (List α)
 | 0,acc,l=>.ok acc l
 | fuel+1,acc,l=>match l with
  | []=>.ok acc []
  | t::r=>if begins t.1=true then (read (t::r)).bind fun a l=>many begins read fuel (acc++[a]) l else .ok acc (t::r)
def picks:Nat->List ByteArray->List Int->List Tok->Res (List ByteArray × List Int)
 | 0,ws,ns,l=>.ok (ws,ns) l
 | n+1,ws,ns,l=>(name l).bind fun w l=>(number l).bind fun v l=>picks n (ws++[ofT w]) (ns++[v]) l
def states:Nat->List ByteArray->List Tok->Res (List ByteArray)
 | 0,ws,l=>.ok ws l
 | n+1,ws,l=>(name l).bind fun w l=>states n (ws++[ofT w]) l
def wordOf (t:Txt):Option Nat:=wordsL.findIdx? (· == t)
def isWord (t:Txt):Bool:=(wordOf t).isSome
def field1 (k:Nat) (nm:ByteArray) (l:List Tok):Res Fld :=
 if k=0 then (number l).bind fun lo l=>.ok (nm,ofT [],ofT [],0,lo,0,[],[]) l
 else if k=3 then (count l).bind fun n l=>(picks n [] [] l).bind fun p l=>.ok (nm,ofT [],ofT [],3,0,0,p.1,p.2) l
 else if k=6 then (name l).bind fun o l=>.ok (nm,ofT o,ofT [],6,0,0,[],[]) l
 else if k=8 then (name l).bind fun u l=>(name l).bind fun o l=>.ok (nm,ofT o,ofT u,8,0,0,[],[]) l
 else if k=7 then (name l).bind fun u l=>(name l).bind fun o l=>(number l).bind fun lo l=>(number l).bind fun hi l=>.ok (nm,ofT o,ofT u,7,lo,hi,[],[]) l
 else if k=2 then (number l).bind fun lo l=>(number l).bind fun hi l=>.ok (nm,ofT [],ofT [],2,lo,hi,[],[]) l
 else ((if k=4 then names l else name l)).bind fun o l=>(number l).bind fun lo l=>(number l).bind fun hi l=>.ok (nm,ofT o,ofT [],(k:Int),lo,hi,[],[]) l
def field:List Tok->Res Fld
 | []=>.bad []
 | t::l=>match wordOf t.1 with
  | none=>.bad (t::l)
  | some k=>(name l).bind fun nm l=>field1 k (ofT nm) l
def kind (l:List Tok):Res Knd :=
 (need sKind l).bind fun _ l=>(name l).bind fun nm l=>(number l).bind fun lo l=>(number l).bind fun hi l=>(many isWord field l.length [] l).bind fun fs l=>.ok (ofT nm,lo,hi,fs) l
def move (l:List Tok):Res (Int × Int):=(need sMove l).bind fun _ l=>(number l).bind fun a l=>(number l).bind fun b l=>.ok (a,b) l
def life (l:List Tok):Res Lif :=
 (need sLife l).bind fun _ l=>(name l).bind fun nm l=>(count l).bind fun n l=>(states n [] l).bind fun ss l=>(many (fun t=>t == sMove) move l.length [] l).bind fun ms l=>.ok (ofT nm,ss,ms) l
def rule (l:List Tok):Res Rul :=
 (need sRule l).bind fun _ l=>(name l).bind fun nm l=>(name l).bind fun k l=>(names l).bind fun a l=>(names l).bind fun b l=>(number l).bind fun n l=>.ok (ofT nm,ofT k,ofT a,ofT b,n) l
def schema (l:List Tok):Res Sch :=
 (need sSchema l).bind fun _ l=>(number l).bind fun v l=>(many (fun t=>t == sKind) kind l.length [] l).bind fun ks l=>(many (fun t=>t == sLife) life l.length [] l).bind fun ls l=>(many (fun t=>t == sRule) rule l.length [] l).bind fun rs l=>.ok (v,ks,ls,rs) l
def noSch:Sch:=(0,[],[],[])
def parse (s:Txt):Sch × Int × Int :=
 if 8192 < s.length then (noSch,8192,4) else
 match schema (toks s) with
 | .bad []=>(noSch,(stopAt s:Int),2)
 | .bad (t::_)=>(noSch,(t.2:Int),2)
 | .ok x []=>if stopAt s < s.length then (noSch,(stopAt s:Int),2) else if valid x=0 then (x,0,0) else (noSch,0,4)
 | .ok _ (t::_)=>(noSch,(t.2:Int),2)
end Sx
end
section
theorem infoU8:(Tryz.prog.info? 5).map (fun i=>(i.zero,i.size,i.bytes))=some (some (.int .u8 0),1,1):=by kernel_rfl
def BytesP (l:List UInt8) (w:World) (e:Ending) (w':World):Prop:=∃ v,e=.returned v/\w'.ownsRow w.heap.size 5 1 v l.length (byteVals l)/\Below w.heap.size w w'
theorem byte_one (b:UInt8):∀ u∈[Value.int .u8 b.toNat],u.oneCell'=true:=by intro u hu;rw [List.mem_singleton] at hu;subst hu;rfl
theorem acc_len (l:List Int) (k:Nat):((l.take k).map En.int).flatten.length<=9*k:=by
 induction l generalizing k with
 | nil=>simp
 | cons a l ih =>
  cases k with
  | zero=>simp
  | succ k =>
   simp only [List.take_succ_cons,List.map_cons,List.flatten_cons,aK]
   have:=ih k;have:=En.int_le a;omega
def accI (l:List Int) (k:Nat):List UInt8:=En.int l.length++((l.take k).map En.int).flatten
theorem accI_le (l:List Int) (k:Nat):(accI l k).length<=9*(k+1):=by
 unfold accI;rw [aK];have:=acc_len l k;have:=En.int_le l.length;omega
theorem accI_snoc (l:List Int) (k:Nat) (h:k < l.length):accI l k++En.int l[k]=accI l (k+1):=by
 unfold accI;rw [take_snoc' l k h,List.map_append,List.flatten_append,List.append_assoc];simp
theorem accI_all (l:List Int):accI l l.length=En.ints l:=by unfold accI En.ints;rw [List.take_length]
theorem accI_zero (l:List Int):accI l 0=En.int l.length:=by unfold accI;simp
theorem reads_own {w:World} {base:Nat} {e:TypeId} {size n c:Nat} {A:Option Addr} {xs:List Value} (h:w.ownsRow base e size (.slice A n c) n xs):Reads w w.heap.size size A n xs:=Reads.of_own h
theorem xor255F:∀ x:Fin 256,bits .xor .u8 ((x.val:Nat):Int) 255=255 - (x.val:Int):=by decide +kernel
theorem xor0F:∀ x:Fin 256,bits .xor .u8 ((x.val:Nat):Int) 0=(x.val:Int):=by decide +kernel
theorem xor255 (x:Nat) (h:x < 256):bits .xor .u8 (x:Int) 255=255 - (x:Int):=xor255F ⟨x,h⟩
theorem xor0 (x:Nat) (h:x < 256):bits .xor .u8 (x:Int) 0=(x:Int):=xor0F ⟨x,h⟩
theorem xorMax (U:Nat) (h:U < 18446744073709551616):bits .xor .u64 IntKind.u64.max (U:Int)=18446744073709551615 - (U:Int):=by
 unfold bits
 have h1:BitVec.ofInt 64 18446744073709551615=BitVec.allOnes 64:=by decide
 show IntKind.u64.wrap ((BitVec.ofInt 64 IntKind.u64.max ^^^ BitVec.ofInt 64 (U:Int)).toNat:Int)=_
 rw [show IntKind.u64.max=18446744073709551615 from rfl,h1,BitVec.allOnes_xor,BitVec.toNat_not,BitVec.toNat_ofInt]
 simp only [IntKind.wrap,IntKind.signed,IntKind.bits]
 simp
 omega
theorem shr_is (m i:Nat):(m:Int) / 2 ^ (8*i)=((m / 256 ^ i:Nat):Int):=by
 have e:(2:Nat) ^ (8*i)=256 ^ i:=by rw [Nat.pow_mul]
 rw [<-e,Int.natCast_ediv,Int.natCast_pow];rfl
theorem int_any (n:Int) (w:World) (hn:inI n):Calls Tryz.prog 17 #[.int .i64 n] w (BytesP (En.int n) w):=by
 obtain ⟨i0,hi,hz0,hz1,hz2⟩:=info_parts infoU8
 obtain ⟨m,hm⟩:=aX (En.mag n)
 have hm63:=En.mag_lt hn
 rw [hm] at hm63
 obtain ⟨k,hk⟩:=aX (En.nd m)
 have hk8:=En.nd_le m
 rw [hk] at hk8
 have HAT:=aI (fun j=>En.nd_at (j:=j) hm63)
 have hn':=hn
 unfold inI at hn'
 by_cases h0:n < 0
 ·have hneg:(m:Int)=-1 - n:=by rw [<-hm];unfold En.mag;rw [if_pos h0];omega
  have d0:decide (n < 0)=true:=ac h0
  obtain ⟨U,hU⟩:∃ U:Nat,(U:Int)=18446744073709551616+n:=⟨(18446744073709551616+n).toNat,by omega⟩
  have wU:IntKind.u64.wrap n=(U:Int):=by simp only [IntKind.wrap,IntKind.signed,IntKind.bits];simp;omega
  have wX:bits BinOp.xor IntKind.u64 IntKind.u64.max (U:Int)=(m:Int):=by rw [xorMax _ (by omega)];omega
  clear hU hneg
  have HM:=aI hm
  have HK:=aI hk
  clear hm hk
  go_enter Tryz.func17,Tryz.ntmps17
  go_wp2_with fail
  go_step3
  go_wp2_with fail
  go_step3
  go_wp2_with fail
  go_loopg [5] 8 (fun r i wr=>wr=w/\i=.int .i64 r/\k<=r/\r<=8)
  case atStart=>exact ⟨rfl,rfl,hk8,ag _⟩
  case round =>
   obtain ⟨rfl,rfl,hkr,hr8⟩:=hrel
   obtain ⟨w,rfl⟩:=aY wr
   have hat:=HAT.out (gk - 1)
   rw [HK.out] at hat
   have hsh:=shr_is m (gk - 1)
   obtain ⟨q,hq⟩:=aX (m / 256 ^ (gk - 1))
   rw [hq] at hat hsh
   clear hq
   by_cases hz:gk=0
   ·subst hz
    have hk0:k=0:=by omega
    subst hk0
    clear hat hsh
    have t1:decide ((0:Int) < ((0:Nat):Int))=false:=rfl
    have hk8':0<=8:=by first | omega | exact hk8
    obtain ⟨b0,hb0⟩:=aX (En.head n)
    have HIN:=aI (show En.int n=b0::En.tl n 0 by unfold En.int;rw [hb0,HM.out,HK.out])
    have wh:bits .xor .u8 (128+((0:Nat):Int)) 255=(b0.toNat:Int):=by
     rw [<-hb0];unfold En.head;rw [if_pos h0,HM.out,HK.out,show (128+((0:Nat):Int))=((128+0:Nat):Int) by omega,xor255 _ (by omega)]
     simp <;> omega
    clear hb0
    rw [show (128+((0:Nat):Int))=128 from rfl] at wh
    have T:=aI (HRow.lit w 5 (.int .u8 b0.toNat))
    go_wp2_with fail

    go_loopg [6,7] 0 (fun r v i wr=>∃ M:List Nat,r<=0/\i=.int .i64 ((r:Int) - 1)/\HRow w [] M [] [] 5 1 v (1+(0 - r)) (byteVals (b0::(En.tl n 0).take (0 - r))) wr)
    case atStart=>exact ⟨_,ag _,rfl,by have:=T.out;rw [Nat.sub_self];exact this⟩
    case round =>
     obtain ⟨M,hr,rfl,hH⟩:=hrel
     obtain ⟨wo,rfl⟩:=aY wr
     replace T:=aI hH
     clear hH
     by_cases hg:gk=0
     ·subst hg
      have e1:((0:Nat):Int) - 1=-1:=rfl
      rw [e1]
      clear e1
      go_wp2_with fail
      try rw [Exit.noGoto_ret]
      go_ret
      have h:=T.out.own
      rw [Nat.sub_zero,List.take_of_length_le (Nat.le_of_eq (En.tl_length _ _)),<-HIN.out] at h
      exact ⟨_,rfl,by rw [HIN.out,List.length_cons,En.tl_length,Nat.add_comm,<-HIN.out];exact h,T.out.h.bl⟩
     ·exact absurd (Nat.le_zero.1 hr) hg
   ·have t1:decide ((0:Int) < (gk:Int))=true:=ac (by omega)
    have t5:decide (0 < gk)=true:=ac (by omega)
    have t3:(1:Int)<=(gk:Int):=by omega
    have t4:(gk:Int)<=8:=by omega
    by_cases hkk:k=gk
    ·subst hkk
     have q0:0 < q:=hat.1 (by omega)
     have t2:decide (0 < q)=true:=ac q0
     clear hat
     have hk8':k<=8:=by first | omega | exact hk8
     obtain ⟨b0,hb0⟩:=aX (En.head n)
     have HIN:=aI (show En.int n=b0::En.tl n k by unfold En.int;rw [hb0,HM.out,HK.out])
     have wh:bits .xor .u8 (128+((k:Nat):Int)) 255=(b0.toNat:Int):=by
      rw [<-hb0];unfold En.head;rw [if_pos h0,HM.out,HK.out,show (128+((k:Nat):Int))=((128+k:Nat):Int) by omega,xor255 _ (by omega)]
      simp <;> omega
     clear hb0
     have T:=aI (HRow.lit w 5 (.int .u8 b0.toNat))
     go_wp2_with fail
     try rw [hsh]
     go_loopg [6,7] k (fun r v i wr=>∃ M:List Nat,r<=k/\i=.int .i64 ((r:Int) - 1)/\HRow w [] M [] [] 5 1 v (1+(k - r)) (byteVals (b0::(En.tl n k).take (k - r))) wr)
     case atStart=>exact ⟨_,ag _,rfl,by have:=T.out;rw [Nat.sub_self];exact this⟩
     case round =>
      obtain ⟨M,hr,rfl,hH⟩:=hrel
      obtain ⟨wo,rfl⟩:=aY wr
      replace T:=aI hH
      clear hH
      by_cases hg:gk=0
      ·subst hg
       have e1:((0:Nat):Int) - 1=-1:=rfl
       rw [e1]
       clear e1
       go_wp2_with fail
       try rw [Exit.noGoto_ret]
       go_ret
       have h:=T.out.own
       rw [Nat.sub_zero,List.take_of_length_le (Nat.le_of_eq (En.tl_length _ _)),<-HIN.out] at h
       exact ⟨_,rfl,by rw [HIN.out,List.length_cons,En.tl_length,Nat.add_comm,<-HIN.out];exact h,T.out.h.bl⟩
      ·obtain ⟨i,rfl⟩:∃ i,gk=i+1:=⟨gk - 1,by omega⟩
       have e1:((i+1:Nat):Int) - 1=(i:Int):=by omega
       rw [e1]
       clear e1
       have k0:(0:Int)<=(i:Int):=aa _
       have k1:(i:Int) < 8:=by omega
       obtain ⟨b,hb⟩:=aX (En.flip n (En.dg m i))
       have HSN:=aI (show (En.tl n k).take (k - (i+1))++[b]=(En.tl n k).take (k - i) by rw [En.tl_snoc _ _ _ (show i < k by omega),HM.out,hb])
       have hd:=En.dg_lt m i
       have wx:bits .xor .u8 ((En.dg m i:Nat):Int) 255=(b.toNat:Int):=by
        rw [xor255 _ hd,<-hb];unfold En.flip;rw [if_pos h0];simp;omega
       obtain ⟨x,hxx⟩:=aX (En.dg m i)
       have hsh:=shr_is m i
       obtain ⟨q,hq⟩:=aX (m / 256 ^ i)
       have hdx:q % 256=x:=by rw [<-hq,<-hxx];rfl
       have hqm:q<=m:=by rw [<-hq];exact Nat.div_le_self _ _
       rw [hq] at hsh
       rw [hxx] at wx hd
       have wb:IntKind.u8.wrap (q:Int)=(x:Int):=by rw [<-hdx];simp only [IntKind.wrap,IntKind.signed,IntKind.bits];simp
       clear hb hxx hq hdx
       go_wp2_with (at_builtin;refine wpList_append_row (by rfl) _ _ 35 (by rfl) 5 i0 _ 1 1 Tryz.underlying35 hi hz0 hz1 hz2 rfl (by decide) (T.out.below (aP _ _)) (by rfl) _ _ 1 1 [.int .u8 b.toNat] (by rfl) (reads_blk (Blk.new _ _ _) rfl) (byte_one b) (by unfold maxLen;omega) (by omega) ?_;intro v' w' M' h' _;rw [byteVals_snoc] at h';replace T:=aI h';clear h')
       rw [List.cons_append,HSN.out] at T
       go_roundg i
       case measure=>omega
       case rel=>exact ⟨_,by omega,rfl,by have:=T.out;rw [show 1+(k - (i+1))+1=1+(k - i) by omega] at this;exact this⟩
    ·have q0:q=0:=by have:=hat.2;omega
     subst q0
     clear hat
     go_wp2_with fail
     go_roundg (gk - 1)
     case measure=>omega
     case rel=>exact ⟨rfl,by rw [show ((gk - 1:Nat):Int)=(gk:Int) - 1 by omega],by omega,by omega⟩
 ·have hneg:(m:Int)=n:=by rw [<-hm];unfold En.mag;rw [if_neg h0];omega
  obtain rfl:=hneg
  have HM:=aI hm
  have HK:=aI hk
  clear hm hk
  go_enter Tryz.func17,Tryz.ntmps17
  go_wp2_with fail
  go_step3
  go_wp2_with fail
  go_step3
  go_wp2_with fail
  go_loopg [5] 8 (fun r i wr=>wr=w/\i=.int .i64 r/\k<=r/\r<=8)
  case atStart=>exact ⟨rfl,rfl,hk8,ag _⟩
  case round =>
   obtain ⟨rfl,rfl,hkr,hr8⟩:=hrel
   obtain ⟨w,rfl⟩:=aY wr
   have hat:=HAT.out (gk - 1)
   rw [HK.out] at hat
   have hsh:=shr_is m (gk - 1)
   obtain ⟨q,hq⟩:=aX (m / 256 ^ (gk - 1))
   rw [hq] at hat hsh
   clear hq
   by_cases hz:gk=0
   ·subst hz
    have hk0:k=0:=by omega
    subst hk0
    clear hat hsh
    have t1:decide ((0:Int) < ((0:Nat):Int))=false:=rfl
    have hk8':0<=8:=by first | omega | exact hk8
    obtain ⟨b0,hb0⟩:=aX (En.head (m:Int))
    have HIN:=aI (show En.int (m:Int)=b0::En.tl (m:Int) 0 by unfold En.int;rw [hb0,HM.out,HK.out])
    have wh:bits .xor .u8 (128+((0:Nat):Int)) 0=(b0.toNat:Int):=by
     rw [<-hb0];unfold En.head;rw [if_neg (by omega),HM.out,HK.out,show (128+((0:Nat):Int))=((128+0:Nat):Int) by omega,xor0 _ (by omega)]
     simp <;> omega
    clear hb0
    rw [show (128+((0:Nat):Int))=128 from rfl] at wh
    have T:=aI (HRow.lit w 5 (.int .u8 b0.toNat))
    go_wp2_with fail

    go_loopg [6,7] 0 (fun r v i wr=>∃ M:List Nat,r<=0/\i=.int .i64 ((r:Int) - 1)/\HRow w [] M [] [] 5 1 v (1+(0 - r)) (byteVals (b0::(En.tl (m:Int) 0).take (0 - r))) wr)
    case atStart=>exact ⟨_,ag _,rfl,by have:=T.out;rw [Nat.sub_self];exact this⟩
    case round =>
     obtain ⟨M,hr,rfl,hH⟩:=hrel
     obtain ⟨wo,rfl⟩:=aY wr
     replace T:=aI hH
     clear hH
     by_cases hg:gk=0
     ·subst hg
      have e1:((0:Nat):Int) - 1=-1:=rfl
      rw [e1]
      clear e1
      go_wp2_with fail
      try rw [Exit.noGoto_ret]
      go_ret
      have h:=T.out.own
      rw [Nat.sub_zero,List.take_of_length_le (Nat.le_of_eq (En.tl_length _ _)),<-HIN.out] at h
      exact ⟨_,rfl,by rw [HIN.out,List.length_cons,En.tl_length,Nat.add_comm,<-HIN.out];exact h,T.out.h.bl⟩
     ·exact absurd (Nat.le_zero.1 hr) hg
   ·have t1:decide ((0:Int) < (gk:Int))=true:=ac (by omega)
    have t5:decide (0 < gk)=true:=ac (by omega)
    have t3:(1:Int)<=(gk:Int):=by omega
    have t4:(gk:Int)<=8:=by omega
    by_cases hkk:k=gk
    ·subst hkk
     have q0:0 < q:=hat.1 (by omega)
     have t2:decide (0 < q)=true:=ac q0
     clear hat
     have hk8':k<=8:=by first | omega | exact hk8
     obtain ⟨b0,hb0⟩:=aX (En.head (m:Int))
     have HIN:=aI (show En.int (m:Int)=b0::En.tl (m:Int) k by unfold En.int;rw [hb0,HM.out,HK.out])
     have wh:bits .xor .u8 (128+((k:Nat):Int)) 0=(b0.toNat:Int):=by
      rw [<-hb0];unfold En.head;rw [if_neg (by omega),HM.out,HK.out,show (128+((k:Nat):Int))=((128+k:Nat):Int) by omega,xor0 _ (by omega)]
      simp <;> omega
     clear hb0
     have T:=aI (HRow.lit w 5 (.int .u8 b0.toNat))
     go_wp2_with fail
     try rw [hsh]
     go_loopg [6,7] k (fun r v i wr=>∃ M:List Nat,r<=k/\i=.int .i64 ((r:Int) - 1)/\HRow w [] M [] [] 5 1 v (1+(k - r)) (byteVals (b0::(En.tl (m:Int) k).take (k - r))) wr)
     case atStart=>exact ⟨_,ag _,rfl,by have:=T.out;rw [Nat.sub_self];exact this⟩
     case round =>
      obtain ⟨M,hr,rfl,hH⟩:=hrel
      obtain ⟨wo,rfl⟩:=aY wr
      replace T:=aI hH
      clear hH
      by_cases hg:gk=0
      ·subst hg
       have e1:((0:Nat):Int) - 1=-1:=rfl
       rw [e1]
       clear e1
       go_wp2_with fail
       try rw [Exit.noGoto_ret]
       go_ret
       have h:=T.out.own
       rw [Nat.sub_zero,List.take_of_length_le (Nat.le_of_eq (En.tl_length _ _)),<-HIN.out] at h
       exact ⟨_,rfl,by rw [HIN.out,List.length_cons,En.tl_length,Nat.add_comm,<-HIN.out];exact h,T.out.h.bl⟩
      ·obtain ⟨i,rfl⟩:∃ i,gk=i+1:=⟨gk - 1,by omega⟩
       have e1:((i+1:Nat):Int) - 1=(i:Int):=by omega
       rw [e1]
       clear e1
       have k0:(0:Int)<=(i:Int):=aa _
       have k1:(i:Int) < 8:=by omega
       obtain ⟨b,hb⟩:=aX (En.flip (m:Int) (En.dg m i))
       have HSN:=aI (show (En.tl (m:Int) k).take (k - (i+1))++[b]=(En.tl (m:Int) k).take (k - i) by rw [En.tl_snoc _ _ _ (show i < k by omega),HM.out,hb])
       have hd:=En.dg_lt m i
       have wx:bits .xor .u8 ((En.dg m i:Nat):Int) 0=(b.toNat:Int):=by
        rw [xor0 _ hd,<-hb];unfold En.flip;rw [if_neg (by omega)];simp;omega
       obtain ⟨x,hxx⟩:=aX (En.dg m i)
       have hsh:=shr_is m i
       obtain ⟨q,hq⟩:=aX (m / 256 ^ i)
       have hdx:q % 256=x:=by rw [<-hq,<-hxx];rfl
       have hqm:q<=m:=by rw [<-hq];exact Nat.div_le_self _ _
       rw [hq] at hsh
       rw [hxx] at wx hd
       have wb:IntKind.u8.wrap (q:Int)=(x:Int):=by rw [<-hdx];simp only [IntKind.wrap,IntKind.signed,IntKind.bits];simp
       clear hb hxx hq hdx
       go_wp2_with (at_builtin;refine wpList_append_row (by rfl) _ _ 35 (by rfl) 5 i0 _ 1 1 Tryz.underlying35 hi hz0 hz1 hz2 rfl (by decide) (T.out.below (aP _ _)) (by rfl) _ _ 1 1 [.int .u8 b.toNat] (by rfl) (reads_blk (Blk.new _ _ _) rfl) (byte_one b) (by unfold maxLen;omega) (by omega) ?_;intro v' w' M' h' _;rw [byteVals_snoc] at h';replace T:=aI h';clear h')
       rw [List.cons_append,HSN.out] at T
       go_roundg i
       case measure=>omega
       case rel=>exact ⟨_,by omega,rfl,by have:=T.out;rw [show 1+(k - (i+1))+1=1+(k - i) by omega] at this;exact this⟩
    ·have q0:q=0:=by have:=hat.2;omega
     subst q0
     clear hat
     go_wp2_with fail
     go_roundg (gk - 1)
     case measure=>omega
     case rel=>exact ⟨rfl,by rw [show ((gk - 1:Nat):Int)=(gk:Int) - 1 by omega],by omega,by omega⟩
theorem ints_any (l:List Int) (A:Option Addr) (c:Nat) (w:World) (hl:SlAt [] w A l) (hm:l.length<=1000000):Calls Tryz.prog 43 #[.slice A l.length c] w (BytesP (En.ints l) w):=by
 obtain ⟨i0,hi,hz0,hz1,hz2⟩:=info_parts infoU8
 obtain ⟨n,hn⟩:=aX l.length
 rw [hn]
 rw [hn] at hm
 have T0:=aI ((held0 w [] (fun _ h=>by cases h)).add (keeps_sl A l) hl)
 have HN:=aI hn
 have CI:=aI (int_any (n:Int) w (by unfold inI;omega))
 have HZ:=aI (show En.int (n:Int)=accI l 0 by rw [accI_zero,hn])
 have HEND:=aI (show accI l n=En.ints l by rw [<-hn];exact accI_all l)
 clear hl hn
 go_enter Tryz.func43,Tryz.ntmps43
 go_wp2_with (go_at_call 17;(with_reducible refine (CI.out).mono ?_);rintro e w1 ⟨v,rfl,hown,hb⟩;obtain ⟨M1,h1,_⟩:=T0.out.take hb hown;have T:=aI h1;clear h1 hown hb)
 rw [HZ.out] at T
 go_loopg [3,11] n (fun r v i wr=>∃ (k:Nat) (M:List Nat),k+r=n/\i=.int .i64 k/\HRow w [] M [] [fun M W=>SlAt M W A l] 5 1 v (accI l k).length (byteVals (accI l k)) wr)
 case atStart=>exact ⟨0,_,by omega,rfl,T.out⟩
 case round =>
  obtain ⟨k,M,hk,rfl,hH⟩:=hrel
  obtain ⟨wo,rfl⟩:=aY wr
  replace T:=aI hH
  clear hH
  by_cases hlt:k < n
  ·have hkl:k < l.length:=by rw [HN.out];exact hlt
   have k0:(0:Int)<=(k:Int):=aa _
   have k1:(k:Int) < (n:Int):=by omega
   obtain ⟨b,o,rfl,_,c0,hx⟩:=int_at (T.out.h.fact (.head _)) k hkl
   have HSN:=aI (accI_snoc l k hkl)
   have hle:=accI_le l k
   obtain ⟨x,hxx⟩:=aX (l[k])
   rw [hxx] at c0 hx HSN
   have CX:=aI (int_any x wo hx)
   have hxl:=En.int_le x
   obtain ⟨na,hna⟩:=aX ((accI l k).length)
   obtain ⟨nb,hnb⟩:=aX ((En.int x).length)
   rw [hna] at hle T
   rw [hnb] at hxl
   have HNL:=aI (show na+nb=(accI l (k+1)).length by rw [<-HSN.out,aK,hna,hnb])
   unfold BytesP at CX
   rw [hnb] at CX
   clear hna hnb hxx hx
   go_wp2_with (first | (go_at_call 17;(with_reducible refine (CX.out).mono ?_);rintro e w1 ⟨v,rfl,hown,hb⟩;obtain ⟨Ab,cb,rfl⟩:=own_form hown;replace T:=aI (T.out.below hb);have HR:=aI (reads_own hown);clear hown hb) | (at_builtin;refine wpList_append_row (by rfl) _ _ 35 (by rfl) 5 i0 _ 1 1 Tryz.underlying35 hi hz0 hz1 hz2 rfl (by decide) T.out (by rfl) _ _ nb _ (byteVals (En.int x)) (by rfl) HR.out (byteVals_one _) (by unfold maxLen;omega) (by omega) ?_;intro v' w' M' h' _;rw [<-byteVals_append,HSN.out,HNL.out] at h';replace T:=aI h';clear h' HR))
   go_roundg (gk - 1)
   case measure=>omega
   case rel=>exact ⟨k+1,_,by omega,by go_num,T.out⟩
  ·have hkn:k=n:=by omega
   subst hkn
   rw [HEND.out] at T
   go_wp2_with fail
   go_ret
   exact ⟨_,rfl,T.out.own,T.out.h.bl⟩
def IsBytes (l:List UInt8) (v:Value) (w:World):Prop:=∃ base,w.ownsRow base 5 1 v l.length (byteVals l)
theorem isBytes_kept (l:List UInt8):Kept (IsBytes l):=fun _ _ _ ⟨base,h⟩ hb=>⟨base,owns_below h hb⟩
end
end Go.Proofs.YtobcnhmhgoccnaaGreatDoor
