/- Parts of the proof, joined: SxL0, M2, M4, M5, Shelf, Bld, M7, W22, SxL1, M8. -/
import Derived.Test.YtmplaikgbeeikaaGreatDoorK1
import Derived.Deep.Cut
import Derived.Deep.MidRow
import Derived.Lib.EndianMore
import Derived.Outline
import Derived.Deep.LoopGhost
import Derived.Laws.StructEq
import Derived.Shelf.Strings.Builder1
import Derived.Shelf.Strings.Trim
import Derived.Shelf.Strings.SlTrimAscii
import Derived.Shelf.Small.Utf8
import Derived.Shelf.Small.Strs
import Derived.Shelf.Strings.BuilderF
import Derived.Shelf.Strings.BuilderK
import Derived.Shelf.Strconv.Atoi
import Derived.Shelf.Strconv.Itoa0
import Derived.Shelf.Strconv.Itoa1
import Derived.Shelf.LaysM
import Derived.Shelf.Strconv.Itoa2
import Derived.Shelf.Strconv.Itoa3
import Derived.Shelf.Strconv.AtoiErrFast
import Derived.Shelf.Strconv.ParseIntEmpty
import Derived.Shelf.Strconv.AtoiFail
import Derived.Shelf.Strconv.Clone
import Derived.Shelf.Strconv.SyntaxError
import Derived.Shelf.LaysC
import Derived.Shelf.Strconv.ToError
import Derived.Shelf.Strconv.Lower
import Derived.Shelf.Strconv.ParseUint10
import Derived.Shelf.Strconv.ParseUint10Empty
import Derived.Shelf.Strconv.ParseUint10Any
import Derived.Shelf.Strconv.ParseInt10
import Derived.Shelf.Strconv.AtoiLong
import Derived.Shelf.Strconv.AtoiInnerAll
import Derived.Shelf.Strconv.RangeError
import Derived.Shelf.Strconv.ToErrorRange
import Derived.Shelf.Strconv.AtoiAll
import Derived.Shelf.Strconv.ErrVarAll
import Derived.Shelf.Strconv.ParseUintEmpty
import Derived.Shelf.Strconv.ParseUint10b64
import Derived.Shelf.Strconv.ParseUint10b32
import Derived.Shelf.Strconv.ParseUint10b16
import Derived.Shelf.Strconv.ParseUint10b8
import Derived.Shelf.Strconv.ParseUint10At
import Derived.Shelf.Strings.Search1
import Derived.Shelf.Strings.Prefix
import Derived.Shelf.Unicode.Decode
import Derived.Shelf.Strings.Runes
import Derived.Shelf.Strings.AsciiSet
import Derived.Shelf.Unicode.DecodeSlow
import Derived.Shelf.Unicode.DecodeAny
import Derived.Shelf.Unicode.DecodeLast
import Derived.Shelf.Strings.BuilderCap
import Derived.Shelf.Slices.Turned
import Derived.Shelf.Slices.Equal
import Derived.Shelf.Slices.Empties2
import Derived.Test.YtmplaikgbeeikaaGreatDoorProg
import Derived.Lib.Builder
import Derived.Lib.AppendStr
import Derived.Lib.UnsafeStr
import Derived.Laws.Externs
import Derived.WalkMore
import Derived.Lib.QuietBelow
import Derived.Lib.Strings
import Derived.Shelf.GgClosure.StringsIndexFunc
import Derived.Laws.RangeString
import Derived.Lib.AtoiAll
set_option linter.unusedVariables false
set_option linter.unusedSimpArgs false
set_option linter.unusedSectionVars false
namespace Go.Proofs.YtmplaikgbeeikaaGreatDoor
open Go Go.RowKit
namespace Sx
inductive Av where
 | n (z:Int)
 | s (b:ByteArray)
def Av.t:Av→Txt
 | .n z=>num z
 | .s b=>bs b
def Av.ok:Av→Prop
 | .n z=>z.natAbs < 10000000000
 | .s b=>b.size≤100
def lineP (w:Txt) (l:List Av):Txt:=w++l.flatMap fun a=>32::a.t
theorem lineP_nil (w:Txt):lineP w []=w:=by simp [lineP]
theorem lineP_snoc (w:Txt) (l:List Av) (a:Av):lineP w l++[32]++a.t=lineP w (l++[a]):=by simp [lineP]
theorem lineT_cons (t:Txt):∀ l:List Txt,lineT (t::l)=t++(l.flatMap fun u=>32::u)++[10]
 | []=>by simp [lineT]
 | u::l=>by
  have h:=lineT_cons u l
  show t++32::lineT (u::l)=_
  rw [h]
  simp
theorem lineP_end (w:Txt) (l:List Av):lineP w l++[10]=lineT (w::l.map Av.t):=by
 rw [lineT_cons]
 unfold lineP
 rw [List.flatMap_map]
theorem Av.len {a:Av} (h:a.ok):a.t.length≤100:=by
 cases a with
 | n z=>exact Nat.le_trans (Dc.itoa_len z h) (by decide)
 | s b=>exact h
theorem lineP_le (w:Txt):∀ {l:List Av},(∀ a∈l,a.ok)→(lineP w l).length≤w.length+101*l.length
 | [],_=>by simp [lineP]
 | a::l,h=>by
  have h1:=lineP_le w (l:=l) fun x hx=>h x (.tail _ hx)
  have h2:=Av.len (h a (.head _))
  unfold lineP at h1 ⊢
  simp only [List.flatMap_cons,aK,List.length_cons] at h1 ⊢
  omega
end Sx
instance:Mem Sx.Av where
 sz:=1
 rep _ _ a vs:=match a with
  | .n z=>vs=[.iface 3 (.int .i64 z)]∧inI z
  | .s b=>vs=[.iface 9 (.string b)]∧b.size≤9223372036854775807
 len {_ _ a _} h:=by cases a <;> (rw [h.1];rfl)
 keep {_ _ _ a _} h _:=by cases a <;> exact h
 sub {_ _ _ a _} h _:=by cases a <;> exact h
 one {_ _ a _} h:=by cases a <;> (rw [h.1];intro u hu;rw [List.mem_singleton] at hu;subst hu;rfl)
end Go.Proofs.YtmplaikgbeeikaaGreatDoor
namespace Go.Proofs.YtmplaikgbeeikaaGreatDoor
open Go Go.RowKit
theorem addr_inj {b o b' o':Nat} (h:(some ⟨b,o,none⟩:Option Addr)=some ⟨b',o',none⟩):b=b'∧o=o':=by
 injection h with h;injection h with h1 h2;exact ⟨h1,h2⟩
theorem atCell_of {w:World} {g i:Nat} {u:Value} (h:w.cell? ⟨g,i,none⟩=some u):AtCell u (.pointer (some ⟨g,i,none⟩)) w:=⟨_,rfl,h⟩
theorem getD_in {α:Type} {l:List α} {k:Nat} {d:α} (h:k < l.length):l.getD k d=l[k]:=by rw [List.getD_eq_getElem?_getD,List.getElem?_eq_getElem h];rfl
theorem cell_box1 (w:World) (t:TypeId) (u:Value):(w.alloc (.cells #[u] t)).cell? ⟨w.heap.size,0,none⟩=some u:=(Blk.new w t #[u]).cell 0
theorem take_snoc' {α:Type} (l:List α) (k:Nat) (h:k < l.length):l.take (k+1)=l.take k++[l[k]]:=List.take_succ_eq_append_getElem h
theorem byte_at {G:List Nat} {w:World} {A:Option Addr} {l:List UInt8} (h:SlAt G w A l) (k:Nat) (hk:k < l.length):∃ b o,A=some ⟨b,o,none⟩∧b∉G∧w.cell? ⟨b,o+k,none⟩=some (.int .u8 l[k].toNat):=by
 obtain ⟨b,o,us,hA,hg,hr,hc⟩:=h.get k hk
 refine ⟨b,o,hA,hg,?_⟩
 have:=hc 0 _ (by rw [show us=[_] from hr];rfl)
 rw [show k*Mem.sz UInt8+0=k from Nat.mul_one k] at this
 exact this
theorem eq_prefix {α:Type} {a b:List α} {k n:Nat} (ha:a.length=n) (hb:b.length=n) (hk:n≤k) (h:∀ j (h1:j < a.length) (h2:j < b.length),j < k→a[j]=b[j]):a=b :=
 List.ext_getElem (by omega) fun j h1 h2=>h j h1 h2 (by omega)
theorem dec_of_len {α:Type} [DecidableEq α] {a b:List α} (h:a.length≠b.length):decide (a=b)=false:=decide_eq_false fun e=>h (by rw [e])
theorem dec_of_get {α:Type} [DecidableEq α] {a b:List α} {k:Nat} (h1:k < a.length) (h2:k < b.length) (h:a[k]≠b[k]):decide (a=b)=false:=decide_eq_false fun e=>h (by subst e;rfl)
set_option maxRecDepth 100000 in
set_option maxHeartbeats 2000000 in
theorem same_any (a b:List UInt8) (A B:Option Addr) (c d:Nat) (w:World) (ha:SlAt [] w A a) (hb:SlAt [] w B b) (hm:a.length≤9223372036854775807) (hm':b.length≤9223372036854775807) :
  Calls Tryz.prog 48 #[.slice A a.length c,.slice B b.length d] w fun e w'=>e=.returned (.bool (decide (a=b)))∧Below w.heap.size w w':=by
 obtain ⟨n,hn⟩:∃ n,a.length=n:=⟨_,rfl⟩
 obtain ⟨m,hm2⟩:∃ n,b.length=n:=⟨_,rfl⟩
 rw [hn,hm2]
 rw [hn] at hm
 rw [hm2] at hm'
 by_cases he:n=m
 ·subst he
  have HA:=aI ha;have HB:=aI hb;have HN:=aI hn;have HM:=aI hm2
  obtain ⟨r,hr⟩:∃ r,decide (a=b)=r:=⟨_,rfl⟩
  rw [hr]
  have HR:=aI hr
  clear ha hb hn hm2 hr
  go_enter Tryz.func48,Tryz.ntmps48
  go_wp2_with fail
  go_loopg [5] n (fun r i wr=>∃ k:Nat,k+r=n∧i=.int .i64 k∧Below w.heap.size w wr∧∀ j (h1:j < a.length) (h2:j < b.length),j < k→a[j]=b[j])
  case atStart=>exact ⟨0,by omega,rfl,Below.refl _ _,fun _ _ _ h=>by omega⟩
  case round =>
   obtain ⟨k,hk,rfl,hbl,hall⟩:=hrel
   have HL:=aI hbl;have HE:=aI hall
   clear hbl hall
   obtain ⟨wo,rfl⟩:∃ wo:World,wo=wr:=⟨_,rfl⟩
   by_cases hlt:k < n
   ·have hka:k < a.length:=by rw [HN.out];exact hlt
    have hkb:k < b.length:=by rw [HM.out];exact hlt
    have k0:(0:Int)≤(k:Int):=Int.natCast_nonneg _
    have k1:(k:Int) < (n:Int):=by omega
    obtain ⟨b1,o1,rfl,_,c1⟩:=byte_at (HA.out.keep (Chg.of_below HL.out)) k hka
    obtain ⟨b2,o2,rfl,_,c2⟩:=byte_at (HB.out.keep (Chg.of_below HL.out)) k hkb
    by_cases hx:a[k]=b[k]
    ·have HX:=aI hx
     rw [← hx] at c2
     clear hx
     generalize a[k].toNat=x at c1 c2
     have t1:((x:Int) != (x:Int))=false:=by simp
     go_wp2_with fail
     go_quiet (fail)
     go_wp2_with fail
     go_roundg (gk - 1)
     case measure=>omega
     case rel =>
      refine ⟨k+1,by omega,by go_num,?_,fun j h1 h2 hj=>?_⟩
      ·first | exact HL.out.drewN _ | exact HL.out.drew | exact ⟨HL.out.os,HL.out.tape,HL.out.output,HL.out.size,HL.out.block⟩
      ·rcases Nat.lt_or_ge j k with h' | h'
       ·exact HE.out j h1 h2 h'
       ·obtain rfl:j=k:=by omega
        exact HX.out
    ·have HF:=aI (HR.out.symm.trans (dec_of_get hka hkb hx))
     have t1:(((a[k].toNat:Nat):Int) != ((b[k].toNat:Nat):Int))=true:=by
      rw [bne_iff_ne];intro h;exact hx (UInt8.toNat_inj.1 (by omega))
     generalize a[k].toNat=x at *
     generalize b[k].toNat=y at *
     clear hx
     go_wp2_with fail
     go_quiet (fail)
     go_wp2_with fail
     go_ret
     exact ⟨ret_bool HF.out.symm,by first | exact HL.out.drewN _ | exact HL.out.drew | exact ⟨HL.out.os,HL.out.tape,HL.out.output,HL.out.size,HL.out.block⟩⟩
   ·have hkn:k=n:=by omega
    subst hkn
    have HF:=aI (HR.out.symm.trans (decide_eq_true (eq_prefix HN.out HM.out (Nat.le_refl _) HE.out)))
    go_wp2_with fail
    go_ret
    exact ⟨ret_bool HF.out.symm,HL.out⟩
 ·have HR:=aI (dec_of_len (a:=a) (b:=b) (by omega))
  have t1:((n:Int) != (m:Int))=true:=by rw [bne_iff_ne];omega
  have t2:(n != m)=true:=by rw [bne_iff_ne];omega
  clear ha hb hn hm2
  go_enter Tryz.func48,Tryz.ntmps48
  go_wp2_with fail
  go_ret
  exact ⟨ret_bool HR.out.symm,Below.refl _ _⟩
set_option maxHeartbeats 400000 in
theorem around_any (n m:Int) (w:World) (h1:-9223372036854775808≤n) (h2:n≤9223372036854775807) :
  Calls Tryz.prog 17 #[.int .i64 n,.int .i64 m] w fun e w'=>e=.returned (.int .i64 (around n m))∧w=w':=by
 by_cases h0:n < 0
 ·by_cases hm:m < 1
  ·go_enter Tryz.func17,Tryz.ntmps17
   go_wp2
   go_ret
   exact ⟨ret_int (around_lo (by omega)).symm,rfl⟩
  ·go_enter Tryz.func17,Tryz.ntmps17
   go_wp2
   go_ret
   exact ⟨ret_int (around_neg (by omega) (by omega)).symm,rfl⟩
 ·by_cases hm:m < 1
  ·go_enter Tryz.func17,Tryz.ntmps17
   go_wp2
   go_ret
   exact ⟨ret_int (around_lo (by omega)).symm,rfl⟩
  ·go_enter Tryz.func17,Tryz.ntmps17
   go_wp2
   go_ret
   exact ⟨ret_int (around_pos (by omega) (by omega)).symm,rfl⟩
def shortB (m:Nat) (s:ByteArray):ByteArray:=if m < s.size then s.extract 0 m else s
set_option maxHeartbeats 1000000 in
theorem short_any (m:Nat) (hm:m≤1000) (s:ByteArray) (w:World) (_hs:s.size≤9223372036854775807) :
  Calls Tryz.prog 12 #[.string s,.int .i64 m] w fun e w'=>e=.returned (.string (shortB m s))∧w=w':=by
 by_cases h:m < s.size
 ·have HV:Hid (shortB m s=s.extract 0 m):=by unfold Hid shortB;rw [if_pos h]
  go_enter Tryz.func12,Tryz.ntmps12
  go_wp2_with fail
  go_ret
  exact ⟨ret_str HV.out.symm,rfl⟩
 ·have HV:Hid (shortB m s=s):=by unfold Hid shortB;rw [if_neg h]
  go_enter Tryz.func12,Tryz.ntmps12
  go_wp2_with fail
  go_ret
  exact ⟨ret_str HV.out.symm,rfl⟩
theorem infoU8:(Tryz.prog.info? 5).map (fun i=>(i.zero,i.size,i.bytes))=some (some (.int .u8 0),1,1):=by kernel_rfl
def BytesP (l:List UInt8) (w:World) (e:Ending) (w':World):Prop:=∃ v,e=.returned v∧w'.ownsRow w.heap.size 5 1 v l.length (byteVals l)∧Below w.heap.size w w'
theorem byte_one (b:UInt8):∀ u∈[Value.int .u8 b.toNat],u.oneCell'=true:=by intro u hu;rw [List.mem_singleton] at hu;subst hu;rfl
def lows (m k:Nat):List UInt8:=(List.range k).map fun i=>UInt8.ofNat (En.dg m i)
theorem lows_snoc (m k:Nat):lows m k++[UInt8.ofNat (En.dg m k)]=lows m (k+1):=by simp [lows,List.range_succ]
theorem lows_length (m k:Nat):(lows m k).length=k:=by simp [lows]
theorem wrapU8 {q:Nat}:IntKind.u8.wrap ((q:Int) % 256)=((UInt8.ofNat (q % 256)).toNat:Int):=by
 have:(UInt8.ofNat (q % 256)).toNat=q % 256:=by simp
 rw [this];simp only [IntKind.wrap,IntKind.signed,IntKind.bits];simp
set_option maxRecDepth 100000 in
set_option maxHeartbeats 4000000 in
theorem rInt_any (n:Int) (w:World) (hn:inI n):Calls Tryz.prog 99 #[.int .i64 n] w (BytesP (En.int n) w):=by
 obtain ⟨i0,hi,hz0,hz1,hz2⟩:=info_parts infoU8
 obtain ⟨m,hm⟩:∃ m,En.mag n=m:=⟨_,rfl⟩
 have hm63:=En.mag_lt hn
 rw [hm] at hm63
 obtain ⟨k,hk⟩:∃ k,En.nd m=k:=⟨_,rfl⟩
 have hk8:=En.nd_le m
 rw [hk] at hk8
 have HAT:=aI (fun j=>En.nd_at (j:=j) hm63)
 have HK:=aI hk
 have HM:=aI hm
 have T:=aI (HRow.start (e:=5) (size:=1) (held0 w [] (fun _ h=>by cases h)))
 have hn':=hn
 unfold inI at hn'
 by_cases h0:n < 0
 ·have hneg:(m:Int)=-1 - n:=by rw [← hm];unfold En.mag;rw [if_pos h0];omega
  have d0:decide (n < 0)=true:=decide_eq_true h0
  have d1:decide (0≤n)=false:=decide_eq_false (by omega)
  have w0:IntKind.i64.wrap (-1 - n)=(m:Int):=by rw [← hneg];exact wrapI (by unfold inI;omega)
  have hhead:En.head n=UInt8.ofNat (127 - k):=by unfold En.head;rw [if_pos h0,hm,hk]
  obtain ⟨b0,hb0⟩:∃ b,En.head n=b:=⟨_,rfl⟩
  have hint:En.int n=b0::En.tl n k:=by unfold En.int;rw [hb0,hm,hk]
  have HIN:=aI hint
  have wh:IntKind.u8.wrap (127 - (k:Int))=(b0.toNat:Int):=by
   rw [← hb0,hhead]
   have:(UInt8.ofNat (127 - k)).toNat=127 - k:=by simp;omega
   rw [this];simp only [IntKind.wrap,IntKind.signed,IntKind.bits];simp;omega
  clear hm hk hneg hhead hb0 hint
  go_enter Tryz.func99,Tryz.ntmps99
  go_wp2_with fail
  go_loopg [3,4] k (fun r a v wr=>∃ (j:Nat) (M:List Nat),j+r=k∧a=.int .i64 ((m / 256 ^ j:Nat):Int)∧HRow w [] M [] [] 5 1 v j (byteVals (lows m j)) wr)
  case atStart=>exact ⟨0,_,by omega,by simp,T.out⟩
  case round =>
   obtain ⟨j,M,hj,rfl,hH⟩:=hrel
   obtain ⟨wo,rfl⟩:∃ wo:World,wo=wr:=⟨_,rfl⟩
   replace T:=aI hH
   clear hH
   have hat:=HAT.out j
   rw [HK.out] at hat
   obtain ⟨q,hq⟩:∃ q,m / 256 ^ j=q:=⟨_,rfl⟩
   rw [hq] at hat ⊢
   have hqm:q≤m:=by rw [← hq];exact Nat.div_le_self _ _
   by_cases hlt:j < k
   ·have q0:0 < q:=hat.1 hlt
    have q1:decide ((0:Int) < (q:Int))=true:=decide_eq_true (by omega)
    obtain ⟨b,hb⟩:∃ b,UInt8.ofNat (q % 256)=b:=⟨_,rfl⟩
    have wb:IntKind.u8.wrap ((q:Int) % 256)=(b.toNat:Int):=by rw [← hb];exact wrapU8
    have HSN:=aI (show lows m j++[b]=lows m (j+1) by rw [← lows_snoc,← hb,← hq];rfl)
    obtain ⟨q',hq'⟩:∃ q',q / 256=q':=⟨_,rfl⟩
    have HQ:=aI (show m / 256 ^ (j+1)=q' by rw [Nat.pow_succ,← Nat.div_div_eq_div_mul,hq,hq'])
    have wq:(q:Int) / 256=(q':Int):=by rw [← hq'];rfl
    clear hat hb hq hq'
    go_wp2_with (at_builtin;refine wpList_append_row (by rfl) _ _ 73 (by rfl) 5 i0 _ 1 1 Tryz.underlying73 hi hz0 hz1 hz2 rfl (by decide) (T.out.below ((Below.refl _ _).alloc (Nat.le_refl _) _)) (by rfl) _ _ 1 1 [.int .u8 b.toNat] (by rfl) (reads_blk (Blk.new _ _ _) rfl) (byte_one b) (by unfold maxLen;omega) (by omega) ?_;intro v' w' M' h' _;rw [byteVals_snoc] at h';replace T:=aI h';clear h')
    rw [HSN.out] at T
    go_roundg (gk - 1)
    case measure=>omega
    case rel=>exact ⟨j+1,_,by omega,by rw [HQ.out],T.out⟩
   ·have q0:q=0:=by have:=hat.2;omega
    subst q0
    have hjk:j=k:=by omega
    subst hjk
    clear hat hq
    obtain ⟨A,c,rfl,hlc,hcm,hF⟩:=T.out.freeze (l:=lows m j) rfl (lows_length m j).symm (flat_bytes _) (fun _ h=>by cases h)
    rw [lows_length] at hlc ⊢
    replace T:=aI (HRow.start (e:=5) (size:=1) hF)
    clear hF
    go_wp2_with (at_builtin;refine wpList_append_row (by rfl) _ _ 73 (by rfl) 5 i0 _ 1 1 Tryz.underlying73 hi hz0 hz1 hz2 rfl (by decide) (T.out.below ((Below.refl _ _).alloc (Nat.le_refl _) _)) (by rfl) _ _ 1 1 [.int .u8 b0.toNat] (by rfl) (reads_blk (Blk.new _ _ _) rfl) (byte_one b0) (by unfold maxLen;omega) (by omega) ?_;intro v' w' M' h' _;replace T:=aI h';clear h')
    go_loopg [6,7] j (fun r v i wr=>∃ M:List Nat,r≤j∧i=.int .i64 ((r:Int) - 1)∧HRow w [] M [] [fun M W=>SlAt M W A (lows m j)] 5 1 v (1+(j - r)) (byteVals (b0::(En.tl n j).take (j - r))) wr)
    case atStart=>exact ⟨_,Nat.le_refl _,rfl,by have:=T.out;rw [Nat.sub_self];exact this⟩
    case round =>
     obtain ⟨M,hr,rfl,hH⟩:=hrel
     obtain ⟨wo,rfl⟩:∃ wo:World,wo=wr:=⟨_,rfl⟩
     replace T:=aI hH
     clear hH
     by_cases hg:gk=0
     ·subst hg
      have e1:((0:Nat):Int) - 1=-1:=rfl
      rw [e1]
      clear e1
      go_wp2_with fail
      go_ret
      have h:=T.out.own
      rw [Nat.sub_zero,List.take_of_length_le (Nat.le_of_eq (En.tl_length _ _)),← HIN.out] at h
      exact ⟨_,rfl,by rw [HIN.out,List.length_cons,En.tl_length,Nat.add_comm,← HIN.out];exact h,T.out.h.bl⟩
     ·obtain ⟨i,rfl⟩:∃ i,gk=i+1:=⟨gk - 1,by omega⟩
      have e1:((i+1:Nat):Int) - 1=(i:Int):=by omega
      rw [e1]
      clear e1
      have k0:(0:Int)≤(i:Int):=Int.natCast_nonneg _
      have k1:(i:Int) < (j:Int):=by omega
      have hil:i < (lows m j).length:=by rw [lows_length];omega
      obtain ⟨bb,oo,rfl,_,c1⟩:=byte_at (T.out.h.fact (.head _)) i hil
      have hx:((lows m j)[i]).toNat=En.dg m i:=by have:=En.dg_lt m i;simp [lows];omega
      rw [hx] at c1
      have hd:=En.dg_lt m i
      obtain ⟨b,hb⟩:∃ b,En.flip n (En.dg m i)=b:=⟨_,rfl⟩
      have hbn:(b.toNat:Int)=255 - (En.dg m i:Int):=by rw [← hb];unfold En.flip;rw [if_pos h0];simp;omega
      have HSN:=aI (show (En.tl n j).take (j - (i+1))++[b]=(En.tl n j).take (j - i) by rw [En.tl_snoc _ _ _ (show i < j by omega),HM.out,hb])
      obtain ⟨x,hxx⟩:∃ x,En.dg m i=x:=⟨_,rfl⟩
      rw [hxx] at c1 hd hbn
      have wb:IntKind.u8.wrap (255 - (x:Int))=(b.toNat:Int):=by rw [hbn];simp only [IntKind.wrap,IntKind.signed,IntKind.bits];simp;omega
      clear hx hil hb hbn hxx
      go_wp2_with (at_builtin;refine wpList_append_row (by rfl) _ _ 73 (by rfl) 5 i0 _ 1 1 Tryz.underlying73 hi hz0 hz1 hz2 rfl (by decide) (T.out.below ((Below.refl _ _).alloc (Nat.le_refl _) _)) (by rfl) _ _ 1 1 [.int .u8 b.toNat] (by rfl) (reads_blk (Blk.new _ _ _) rfl) (byte_one b) (by unfold maxLen;omega) (by omega) ?_;intro v' w' M' h' _;rw [byteVals_snoc] at h';replace T:=aI h';clear h')
      rw [List.cons_append,HSN.out] at T
      go_roundg i
      case measure=>omega
      case rel=>exact ⟨_,by omega,rfl,by have:=T.out;rw [show 1+(j - (i+1))+1=1+(j - i) by omega] at this;exact this⟩
 ·have hneg:(m:Int)=n:=by rw [← hm];unfold En.mag;rw [if_neg h0];omega
  have d0:decide (n < 0)=false:=decide_eq_false h0
  have d1:decide (0≤n)=true:=decide_eq_true (by omega)
  obtain rfl:=hneg
  have hhead:En.head (m:Int)=UInt8.ofNat (128+k):=by unfold En.head;rw [if_neg h0,hm,hk]
  obtain ⟨b0,hb0⟩:∃ b,En.head (m:Int)=b:=⟨_,rfl⟩
  have hint:En.int (m:Int)=b0::En.tl (m:Int) k:=by unfold En.int;rw [hb0,hm,hk]
  have HIN:=aI hint
  have wh:IntKind.u8.wrap (128+(k:Int))=(b0.toNat:Int):=by
   rw [← hb0,hhead]
   have:(UInt8.ofNat (128+k)).toNat=128+k:=by simp;omega
   rw [this];simp only [IntKind.wrap,IntKind.signed,IntKind.bits];simp;omega
  clear hm hk hhead hb0 hint
  go_enter Tryz.func99,Tryz.ntmps99
  go_wp2_with fail
  go_loopg [3,4] k (fun r a v wr=>∃ (j:Nat) (M:List Nat),j+r=k∧a=.int .i64 ((m / 256 ^ j:Nat):Int)∧HRow w [] M [] [] 5 1 v j (byteVals (lows m j)) wr)
  case atStart=>exact ⟨0,_,by omega,by simp,T.out⟩
  case round =>
   obtain ⟨j,M,hj,rfl,hH⟩:=hrel
   obtain ⟨wo,rfl⟩:∃ wo:World,wo=wr:=⟨_,rfl⟩
   replace T:=aI hH
   clear hH
   have hat:=HAT.out j
   rw [HK.out] at hat
   obtain ⟨q,hq⟩:∃ q,m / 256 ^ j=q:=⟨_,rfl⟩
   rw [hq] at hat ⊢
   have hqm:q≤m:=by rw [← hq];exact Nat.div_le_self _ _
   by_cases hlt:j < k
   ·have q0:0 < q:=hat.1 hlt
    have q1:decide ((0:Int) < (q:Int))=true:=decide_eq_true (by omega)
    obtain ⟨b,hb⟩:∃ b,UInt8.ofNat (q % 256)=b:=⟨_,rfl⟩
    have wb:IntKind.u8.wrap ((q:Int) % 256)=(b.toNat:Int):=by rw [← hb];exact wrapU8
    have HSN:=aI (show lows m j++[b]=lows m (j+1) by rw [← lows_snoc,← hb,← hq];rfl)
    obtain ⟨q',hq'⟩:∃ q',q / 256=q':=⟨_,rfl⟩
    have HQ:=aI (show m / 256 ^ (j+1)=q' by rw [Nat.pow_succ,← Nat.div_div_eq_div_mul,hq,hq'])
    have wq:(q:Int) / 256=(q':Int):=by rw [← hq'];rfl
    clear hat hb hq hq'
    go_wp2_with (at_builtin;refine wpList_append_row (by rfl) _ _ 73 (by rfl) 5 i0 _ 1 1 Tryz.underlying73 hi hz0 hz1 hz2 rfl (by decide) (T.out.below ((Below.refl _ _).alloc (Nat.le_refl _) _)) (by rfl) _ _ 1 1 [.int .u8 b.toNat] (by rfl) (reads_blk (Blk.new _ _ _) rfl) (byte_one b) (by unfold maxLen;omega) (by omega) ?_;intro v' w' M' h' _;rw [byteVals_snoc] at h';replace T:=aI h';clear h')
    rw [HSN.out] at T
    go_roundg (gk - 1)
    case measure=>omega
    case rel=>exact ⟨j+1,_,by omega,by rw [HQ.out],T.out⟩
   ·have q0:q=0:=by have:=hat.2;omega
    subst q0
    have hjk:j=k:=by omega
    subst hjk
    clear hat hq
    obtain ⟨A,c,rfl,hlc,hcm,hF⟩:=T.out.freeze (l:=lows m j) rfl (lows_length m j).symm (flat_bytes _) (fun _ h=>by cases h)
    rw [lows_length] at hlc ⊢
    replace T:=aI (HRow.start (e:=5) (size:=1) hF)
    clear hF
    go_wp2_with (at_builtin;refine wpList_append_row (by rfl) _ _ 73 (by rfl) 5 i0 _ 1 1 Tryz.underlying73 hi hz0 hz1 hz2 rfl (by decide) (T.out.below ((Below.refl _ _).alloc (Nat.le_refl _) _)) (by rfl) _ _ 1 1 [.int .u8 b0.toNat] (by rfl) (reads_blk (Blk.new _ _ _) rfl) (byte_one b0) (by unfold maxLen;omega) (by omega) ?_;intro v' w' M' h' _;replace T:=aI h';clear h')
    go_loopg [6,7] j (fun r v i wr=>∃ M:List Nat,r≤j∧i=.int .i64 ((r:Int) - 1)∧HRow w [] M [] [fun M W=>SlAt M W A (lows m j)] 5 1 v (1+(j - r)) (byteVals (b0::(En.tl (m:Int) j).take (j - r))) wr)
    case atStart=>exact ⟨_,Nat.le_refl _,rfl,by have:=T.out;rw [Nat.sub_self];exact this⟩
    case round =>
     obtain ⟨M,hr,rfl,hH⟩:=hrel
     obtain ⟨wo,rfl⟩:∃ wo:World,wo=wr:=⟨_,rfl⟩
     replace T:=aI hH
     clear hH
     by_cases hg:gk=0
     ·subst hg
      have e1:((0:Nat):Int) - 1=-1:=rfl
      rw [e1]
      clear e1
      go_wp2_with fail
      go_ret
      have h:=T.out.own
      rw [Nat.sub_zero,List.take_of_length_le (Nat.le_of_eq (En.tl_length _ _)),← HIN.out] at h
      exact ⟨_,rfl,by rw [HIN.out,List.length_cons,En.tl_length,Nat.add_comm,← HIN.out];exact h,T.out.h.bl⟩
     ·obtain ⟨i,rfl⟩:∃ i,gk=i+1:=⟨gk - 1,by omega⟩
      have e1:((i+1:Nat):Int) - 1=(i:Int):=by omega
      rw [e1]
      clear e1
      have k0:(0:Int)≤(i:Int):=Int.natCast_nonneg _
      have k1:(i:Int) < (j:Int):=by omega
      have hil:i < (lows m j).length:=by rw [lows_length];omega
      obtain ⟨bb,oo,rfl,_,c1⟩:=byte_at (T.out.h.fact (.head _)) i hil
      have hx:((lows m j)[i]).toNat=En.dg m i:=by have:=En.dg_lt m i;simp [lows];omega
      rw [hx] at c1
      have hd:=En.dg_lt m i
      obtain ⟨b,hb⟩:∃ b,En.flip (m:Int) (En.dg m i)=b:=⟨_,rfl⟩
      have hbn:(b.toNat:Int)=(En.dg m i:Int):=by rw [← hb];unfold En.flip;rw [if_neg (by omega)];simp;omega
      have HSN:=aI (show (En.tl (m:Int) j).take (j - (i+1))++[b]=(En.tl (m:Int) j).take (j - i) by rw [En.tl_snoc _ _ _ (show i < j by omega),HM.out,hb])
      obtain ⟨x,hxx⟩:∃ x,En.dg m i=x:=⟨_,rfl⟩
      rw [hxx] at c1 hd hbn
      have wb:(x:Int)=(b.toNat:Int):=by exact hbn.symm
      clear hx hil hb hbn hxx
      rw [wb] at c1
      clear wb hd
      go_wp2_with (at_builtin;refine wpList_append_row (by rfl) _ _ 73 (by rfl) 5 i0 _ 1 1 Tryz.underlying73 hi hz0 hz1 hz2 rfl (by decide) (T.out.below ((Below.refl _ _).alloc (Nat.le_refl _) _)) (by rfl) _ _ 1 1 [.int .u8 b.toNat] (by rfl) (reads_blk (Blk.new _ _ _) rfl) (byte_one b) (by unfold maxLen;omega) (by omega) ?_;intro v' w' M' h' _;rw [byteVals_snoc] at h';replace T:=aI h';clear h')
      rw [List.cons_append,HSN.out] at T
      go_roundg i
      case measure=>omega
      case rel=>exact ⟨_,by omega,rfl,by have:=T.out;rw [show 1+(j - (i+1))+1=1+(j - i) by omega] at this;exact this⟩
theorem acc_len (l:List Int) (k:Nat):((l.take k).map En.int).flatten.length≤9*k:=by
 induction l generalizing k with
 | nil=>simp
 | cons a l ih =>
  cases k with
  | zero=>simp
  | succ k =>
   simp only [List.take_succ_cons,List.map_cons,List.flatten_cons,aK]
   have:=ih k;have:=En.int_le a;omega
def accI (l:List Int) (k:Nat):List UInt8:=En.int l.length++((l.take k).map En.int).flatten
theorem accI_le (l:List Int) (k:Nat):(accI l k).length≤9*(k+1):=by
 unfold accI;rw [aK];have:=acc_len l k;have:=En.int_le l.length;omega
theorem accI_snoc (l:List Int) (k:Nat) (h:k < l.length):accI l k++En.int l[k]=accI l (k+1):=by
 unfold accI;rw [take_snoc' l k h,List.map_append,List.flatten_append,List.append_assoc];simp
theorem accI_all (l:List Int):accI l l.length=En.ints l:=by unfold accI En.ints;rw [List.take_length]
theorem accI_zero (l:List Int):accI l 0=En.int l.length:=by unfold accI;simp
theorem reads_own {w:World} {base:Nat} {e:TypeId} {size n c:Nat} {A:Option Addr} {xs:List Value} (h:w.ownsRow base e size (.slice A n c) n xs):Reads w w.heap.size size A n xs:=Reads.of_own h
set_option maxRecDepth 100000 in
set_option maxHeartbeats 4000000 in
theorem rInts_any (l:List Int) (A:Option Addr) (c:Nat) (w:World) (hl:SlAt [] w A l) (hm:l.length≤1000000):Calls Tryz.prog 101 #[.slice A l.length c] w (BytesP (En.ints l) w):=by
 obtain ⟨i0,hi,hz0,hz1,hz2⟩:=info_parts infoU8
 obtain ⟨n,hn⟩:∃ n,l.length=n:=⟨_,rfl⟩
 rw [hn]
 rw [hn] at hm
 have T0:=aI ((held0 w [] (fun _ h=>by cases h)).add (keeps_sl A l) hl)
 have HN:=aI hn
 have CI:=aI (rInt_any (n:Int) w (by unfold inI;omega))
 have HZ:=aI (show En.int (n:Int)=accI l 0 by rw [accI_zero,hn])
 have HEND:=aI (show accI l n=En.ints l by rw [← hn];exact accI_all l)
 clear hl hn
 go_enter Tryz.func101,Tryz.ntmps101
 go_wp2_with (go_at_call 99;((with_reducible refine (CI.out).mono ?_));rintro e w1 ⟨v,rfl,hown,hb⟩;obtain ⟨M1,h1,_⟩:=T0.out.take hb hown;have T:=aI h1;clear h1 hown hb)
 rw [HZ.out] at T
 go_loopg [3,4] n (fun r v i wr=>∃ (k:Nat) (M:List Nat),k+r=n∧i=.int .i64 k∧HRow w [] M [] [fun M W=>SlAt M W A l] 5 1 v (accI l k).length (byteVals (accI l k)) wr)
 case atStart=>exact ⟨0,_,by omega,rfl,T.out⟩
 case round =>
  obtain ⟨k,M,hk,rfl,hH⟩:=hrel
  obtain ⟨wo,rfl⟩:∃ wo:World,wo=wr:=⟨_,rfl⟩
  replace T:=aI hH
  clear hH
  by_cases hlt:k < n
  ·have hkl:k < l.length:=by rw [HN.out];exact hlt
   have k0:(0:Int)≤(k:Int):=Int.natCast_nonneg _
   have k1:(k:Int) < (n:Int):=by omega
   obtain ⟨b,o,rfl,_,c0,hx⟩:=int_at (T.out.h.fact (.head _)) k hkl
   have HSN:=aI (accI_snoc l k hkl)
   have hle:=accI_le l k
   obtain ⟨x,hxx⟩:∃ x,l[k]=x:=⟨_,rfl⟩
   rw [hxx] at c0 hx HSN
   have CX:=aI (rInt_any x wo hx)
   have hxl:=En.int_le x
   obtain ⟨na,hna⟩:∃ n,(accI l k).length=n:=⟨_,rfl⟩
   obtain ⟨nb,hnb⟩:∃ n,(En.int x).length=n:=⟨_,rfl⟩
   rw [hna] at hle T
   rw [hnb] at hxl
   have HNL:=aI (show na+nb=(accI l (k+1)).length by rw [← HSN.out,aK,hna,hnb])
   unfold BytesP at CX
   rw [hnb] at CX
   clear hna hnb hxx hx
   go_wp2_with (first | (go_at_call 99;((with_reducible refine (CX.out).mono ?_));rintro e w1 ⟨v,rfl,hown,hb⟩;obtain ⟨Ab,cb,rfl⟩:=own_form hown;replace T:=aI (T.out.below hb);have HR:=aI (reads_own hown);clear hown hb) | (at_builtin;refine wpList_append_row (by rfl) _ _ 73 (by rfl) 5 i0 _ 1 1 Tryz.underlying73 hi hz0 hz1 hz2 rfl (by decide) T.out (by rfl) _ _ nb _ (byteVals (En.int x)) (by rfl) HR.out (byteVals_one _) (by unfold maxLen;omega) (by omega) ?_;intro v' w' M' h' _;rw [← byteVals_append,HSN.out,HNL.out] at h';replace T:=aI h';clear h' HR))
   go_roundg (gk - 1)
   case measure=>omega
   case rel=>exact ⟨k+1,_,by omega,by go_num,T.out⟩
  ·have hkn:k=n:=by omega
   subst hkn
   rw [HEND.out] at T
   go_wp2_with fail
   go_ret
   exact ⟨_,rfl,T.out.own,T.out.h.bl⟩
end Go.Proofs.YtmplaikgbeeikaaGreatDoor
namespace Go.Proofs
open Go.Shelf
def Tryz.lays169_ren:Go.Shelf.Ren:=⟨fun | 169=>107 | n=>n,fun | 70=>139 | 9=>9 | 0=>0 | 72=>141 | 37=>73 | 127=>157 | 3=>3 | 5=>5 | n=>n,fun | n=>n⟩
theorem Tryz.lays169:Go.Proofs.Lays.n169 Tryz.prog Tryz.lays169_ren:={
 mixed:=by kernel_rfl
 f169:=Tryz.func107.trans (congrArg some (by kernel_rfl))
 t0:=Tryz.underlying0
 a0:=Tryz.isAgg0
 z0:=Tryz.sizeOf0
 v0:=Tryz.zeroValue0
 t3:=Tryz.underlying3
 a3:=Tryz.isAgg3
 z3:=Tryz.sizeOf3
 v3:=Tryz.zeroValue3
 t9:=Tryz.underlying9
 a9:=Tryz.isAgg9
 z9:=Tryz.sizeOf9
 v9:=Tryz.zeroValue9
 t37:=Tryz.underlying73
 a37:=Tryz.isAgg73
 z37:=Tryz.sizeOf73
 v37:=Tryz.zeroValue73
 t70:=Tryz.underlying139
 a70:=Tryz.isAgg139
 z70:=Tryz.sizeOf139
 v70:=Tryz.zeroValue139
 t72:=Tryz.underlying141
 a72:=Tryz.isAgg141
 z72:=Tryz.sizeOf141
 v72:=Tryz.zeroValue141
 t127:=Tryz.underlying157
 a127:=Tryz.isAgg157
 z127:=Tryz.sizeOf157
 v127:=Tryz.zeroValue157 }
theorem Tryz.Builder_Extra_169:Builder.Extra Tryz.prog Tryz.lays169_ren:={
 sizeBuilder:=by kernel_rfl
 liesBuilder:=by kernel_rfl
 t5:=Tryz.underlying5
 a5:=Tryz.isAgg5
 z5:=Tryz.sizeOf5
 v5:=Tryz.zeroValue5
 infoByte:=by kernel_rfl
 cellsByte:=by kernel_rfl
 sizeByte:=by kernel_rfl
 neB5:=by decide }
open Go.RowKit in
theorem Tryz.Builder_String_any (B b:Nat) (l:List UInt8) (w:World) (h:Lib.IsBuilder 141 5 B b (Lib.byteCells l) w) (hBw:B≤w.heap.size) :
  Calls Tryz.prog 107 #[.pointer (some ⟨b,0,none⟩)] w fun e w'=>e=.returned (.string ⟨l.toArray⟩)∧Below B w w':=Any.Builder_String_any Tryz.lays169 Tryz.Builder_Extra_169 B b l w h hBw
def Tryz.lays160_ren:Go.Shelf.Ren:=⟨fun | 160=>125 | 232=>158 | 231=>157 | 227=>159 | 234=>161 | 233=>160 | 236=>163 | 235=>162 | 228=>176 | 271=>179 | 151=>178 | 197=>177 | 120=>185 | 152=>184 | 260=>183 | 137=>190 | 119=>191 | 224=>192 | 225=>193 | 217=>199 | 266=>202 | n=>n,fun | 9=>9 | 4=>4 | 3=>3 | 5=>5 | 117=>173 | 116=>172 | 0=>0 | 124=>176 | 21=>21 | 105=>191 | 46=>186 | 119=>205 | 139=>208 | 138=>207 | n=>n,fun | 3=>3 | 4=>4 | n=>n⟩
theorem Tryz.lays160:Go.Proofs.Lays.n160 Tryz.prog Tryz.lays160_ren:={
 mixed:=by kernel_rfl
 f119:=Tryz.func191.trans (congrArg some (by kernel_rfl))
 f120:=Tryz.func185.trans (congrArg some (by kernel_rfl))
 f137:=Tryz.func190.trans (congrArg some (by kernel_rfl))
 f151:=Tryz.func178.trans (congrArg some (by kernel_rfl))
 f152:=Tryz.func184.trans (congrArg some (by kernel_rfl))
 f160:=Tryz.func125.trans (congrArg some (by kernel_rfl))
 f197:=Tryz.func177.trans (congrArg some (by kernel_rfl))
 f217:=Tryz.func199.trans (congrArg some (by kernel_rfl))
 f224:=Tryz.func192.trans (congrArg some (by kernel_rfl))
 f225:=Tryz.func193.trans (congrArg some (by kernel_rfl))
 f227:=Tryz.func159.trans (congrArg some (by kernel_rfl))
 f228:=Tryz.func176.trans (congrArg some (by kernel_rfl))
 f231:=Tryz.func157.trans (congrArg some (by kernel_rfl))
 f232:=Tryz.func158.trans (congrArg some (by kernel_rfl))
 f233:=Tryz.func160.trans (congrArg some (by kernel_rfl))
 f234:=Tryz.func161.trans (congrArg some (by kernel_rfl))
 f235:=Tryz.func162.trans (congrArg some (by kernel_rfl))
 f236:=Tryz.func163.trans (congrArg some (by kernel_rfl))
 f260:=Tryz.func183.trans (congrArg some (by kernel_rfl))
 f266:=Tryz.func202.trans (congrArg some (by kernel_rfl))
 f271:=Tryz.func179.trans (congrArg some (by kernel_rfl))
 t0:=Tryz.underlying0
 a0:=Tryz.isAgg0
 z0:=Tryz.sizeOf0
 v0:=Tryz.zeroValue0
 t3:=Tryz.underlying3
 a3:=Tryz.isAgg3
 z3:=Tryz.sizeOf3
 v3:=Tryz.zeroValue3
 t4:=Tryz.underlying4
 a4:=Tryz.isAgg4
 z4:=Tryz.sizeOf4
 v4:=Tryz.zeroValue4
 t5:=Tryz.underlying5
 a5:=Tryz.isAgg5
 z5:=Tryz.sizeOf5
 v5:=Tryz.zeroValue5
 t9:=Tryz.underlying9
 a9:=Tryz.isAgg9
 z9:=Tryz.sizeOf9
 v9:=Tryz.zeroValue9
 t21:=Tryz.underlying21
 a21:=Tryz.isAgg21
 z21:=Tryz.sizeOf21
 v21:=Tryz.zeroValue21
 t46:=Tryz.underlying186
 a46:=Tryz.isAgg186
 z46:=Tryz.sizeOf186
 v46:=Tryz.zeroValue186
 t105:=Tryz.underlying191
 a105:=Tryz.isAgg191
 z105:=Tryz.sizeOf191
 v105:=Tryz.zeroValue191
 t116:=Tryz.underlying172
 a116:=Tryz.isAgg172
 z116:=Tryz.sizeOf172
 t117:=Tryz.underlying173
 a117:=Tryz.isAgg173
 z117:=Tryz.sizeOf173
 v117:=Tryz.zeroValue173
 t119:=Tryz.underlying205
 a119:=Tryz.isAgg205
 z119:=Tryz.sizeOf205
 t124:=Tryz.underlying176
 a124:=Tryz.isAgg176
 z124:=Tryz.sizeOf176
 v124:=Tryz.zeroValue176
 t138:=Tryz.underlying207
 a138:=Tryz.isAgg207
 z138:=Tryz.sizeOf207
 v138:=Tryz.zeroValue207
 t139:=Tryz.underlying208
 a139:=Tryz.isAgg208
 z139:=Tryz.sizeOf208
 v139:=Tryz.zeroValue208
 g3:=by kernel_rfl
 g4:=by kernel_rfl }
def Tryz.laysM171_ren:Go.Shelf.Ren:=⟨fun | 171=>134 | 243=>167 | 246=>180 | 283=>186 | 284=>187 | 285=>188 | 286=>189 | 129=>195 | 317=>194 | 318=>196 | 319=>197 | 320=>198 | 337=>200 | 338=>201 | n=>n,fun | 3=>3 | 9=>9 | 2=>2 | 4=>4 | 171=>200 | 0=>0 | 53=>183 | 37=>73 | 5=>5 | 173=>203 | 212=>213 | 51=>214 | 20=>20 | 213=>215 | 46=>186 | 232=>219 | 233=>220 | n=>n,fun | 17=>5 | 18=>7 | 19=>8 | n=>n⟩
theorem Tryz.laysM171:Go.Proofs.LaysM.n171 Tryz.prog Tryz.laysM171_ren:={
 mixed:=by kernel_rfl
 f129:=Tryz.func195.trans (congrArg some (by kernel_rfl))
 f171:=Tryz.func134.trans (congrArg some (by kernel_rfl))
 f243:=Tryz.func167.trans (congrArg some (by kernel_rfl))
 f246:=Tryz.func180.trans (congrArg some (by kernel_rfl))
 f283:=Tryz.func186.trans (congrArg some (by kernel_rfl))
 f284:=Tryz.func187.trans (congrArg some (by kernel_rfl))
 f285:=Tryz.func188.trans (congrArg some (by kernel_rfl))
 f286:=Tryz.func189.trans (congrArg some (by kernel_rfl))
 f317:=Tryz.func194.trans (congrArg some (by kernel_rfl))
 f318:=Tryz.func196.trans (congrArg some (by kernel_rfl))
 f319:=Tryz.func197.trans (congrArg some (by kernel_rfl))
 f320:=Tryz.func198.trans (congrArg some (by kernel_rfl))
 f337:=Tryz.func200.trans (congrArg some (by kernel_rfl))
 f338:=Tryz.func201.trans (congrArg some (by kernel_rfl))
 t0:=Tryz.underlying0
 a0:=Tryz.isAgg0
 z0:=Tryz.sizeOf0
 v0:=Tryz.zeroValue0
 t2:=Tryz.underlying2
 a2:=Tryz.isAgg2
 z2:=Tryz.sizeOf2
 v2:=Tryz.zeroValue2
 t3:=Tryz.underlying3
 a3:=Tryz.isAgg3
 z3:=Tryz.sizeOf3
 v3:=Tryz.zeroValue3
 t4:=Tryz.underlying4
 a4:=Tryz.isAgg4
 z4:=Tryz.sizeOf4
 v4:=Tryz.zeroValue4
 t5:=Tryz.underlying5
 a5:=Tryz.isAgg5
 z5:=Tryz.sizeOf5
 v5:=Tryz.zeroValue5
 t9:=Tryz.underlying9
 a9:=Tryz.isAgg9
 z9:=Tryz.sizeOf9
 v9:=Tryz.zeroValue9
 t20:=Tryz.underlying20
 a20:=Tryz.isAgg20
 z20:=Tryz.sizeOf20
 v20:=Tryz.zeroValue20
 t37:=Tryz.underlying73
 a37:=Tryz.isAgg73
 z37:=Tryz.sizeOf73
 v37:=Tryz.zeroValue73
 t46:=Tryz.underlying186
 a46:=Tryz.isAgg186
 z46:=Tryz.sizeOf186
 v46:=Tryz.zeroValue186
 t51:=Tryz.underlying214
 a51:=Tryz.isAgg214
 z51:=Tryz.sizeOf214
 v51:=Tryz.zeroValue214
 t53:=Tryz.underlying183
 a53:=Tryz.isAgg183
 z53:=Tryz.sizeOf183
 v53:=Tryz.zeroValue183
 t171:=Tryz.underlying200
 a171:=Tryz.isAgg200
 z171:=Tryz.sizeOf200
 v171:=Tryz.zeroValue200
 t173:=Tryz.underlying203
 a173:=Tryz.isAgg203
 z173:=Tryz.sizeOf203
 v173:=Tryz.zeroValue203
 t212:=Tryz.underlying213
 a212:=Tryz.isAgg213
 z212:=Tryz.sizeOf213
 v212:=Tryz.zeroValue213
 t213:=Tryz.underlying215
 a213:=Tryz.isAgg215
 z213:=Tryz.sizeOf215
 t232:=Tryz.underlying219
 a232:=Tryz.isAgg219
 z232:=Tryz.sizeOf219
 v232:=Tryz.zeroValue219
 t233:=Tryz.underlying220
 a233:=Tryz.isAgg220
 z233:=Tryz.sizeOf220
 v233:=Tryz.zeroValue220
 g17:=by kernel_rfl
 g18:=by kernel_rfl
 g19:=by kernel_rfl
 i0:=by kernel_rfl
 i2:=by kernel_rfl
 i3:=by kernel_rfl
 i4:=by kernel_rfl
 i5:=by kernel_rfl
 i9:=by kernel_rfl
 i20:=by kernel_rfl
 i37:=by kernel_rfl
 i46:=by kernel_rfl
 i51:=by kernel_rfl
 i53:=by kernel_rfl
 i171:=by kernel_rfl
 i173:=by kernel_rfl
 i212:=by kernel_rfl
 i232:=by kernel_rfl
 i233:=by kernel_rfl
 m17:=by kernel_rfl
 m18:=by kernel_rfl
 m19:=by kernel_rfl }
open Go.RowKit Go.Sort Go.Lib in
theorem Tryz.strconv_Itoa (n : Int) (h0 : -9223372036854775808 ≤ n) (h1 : n ≤ 9223372036854775807) (w : World) (htab : Lib.TabIs Tryz.prog w "internal/strconv.uint64pow10" .u64 Lib.pow10Tab) :
  Calls Tryz.prog 134 #[.int .i64 n] w fun e w'=>e=.returned (.string ⟨(Lib.itoa n).toArray⟩)∧∃ k os,w'=grow (w.drewN k) os:=Any.strconv_Itoa Tryz.laysM171 n h0 h1 w htab
def Tryz.laysC172_ren:Go.Shelf.Ren:=⟨fun | 172=>76 | 244=>122 | 245=>123 | 247=>151 | 279=>152 | 280=>153 | 281=>154 | 282=>155 | 287=>172 | 316=>173 | 171=>134 | 205=>174 | 321=>181 | 322=>182 | 243=>167 | 246=>180 | 283=>186 | 284=>187 | 285=>188 | 286=>189 | 129=>195 | 317=>194 | 318=>196 | 319=>197 | 320=>198 | 337=>200 | 338=>201 | n=>n,fun | 9=>9 | 3=>3 | 75=>124 | 76=>125 | 4=>4 | 5=>5 | 167=>164 | 37=>73 | 0=>0 | 85=>165 | 2=>2 | 168=>167 | 53=>183 | 175=>184 | 46=>186 | 210=>188 | 127=>157 | 145=>198 | 143=>196 | 21=>21 | 171=>200 | 173=>203 | 212=>213 | 51=>214 | 20=>20 | 213=>215 | 232=>219 | 233=>220 | 80=>95 | n=>n,fun | 15=>1 | 16=>2 | 17=>5 | 18=>7 | 19=>8 | n=>n⟩
theorem Tryz.laysC172:Go.Proofs.LaysC.n172 Tryz.prog Tryz.laysC172_ren:={
 mixed:=by kernel_rfl
 f129:=Tryz.func195.trans (congrArg some (by kernel_rfl))
 f171:=Tryz.func134.trans (congrArg some (by kernel_rfl))
 f172:=Tryz.func76.trans (congrArg some (by kernel_rfl))
 f205:=Tryz.func174.trans (congrArg some (by kernel_rfl))
 f243:=Tryz.func167.trans (congrArg some (by kernel_rfl))
 f244:=Tryz.func122.trans (congrArg some (by kernel_rfl))
 f245:=Tryz.func123.trans (congrArg some (by kernel_rfl))
 f246:=Tryz.func180.trans (congrArg some (by kernel_rfl))
 f247:=Tryz.func151.trans (congrArg some (by kernel_rfl))
 f279:=Tryz.func152.trans (congrArg some (by kernel_rfl))
 f280:=Tryz.func153.trans (congrArg some (by kernel_rfl))
 f281:=Tryz.func154.trans (congrArg some (by kernel_rfl))
 f282:=Tryz.func155.trans (congrArg some (by kernel_rfl))
 f283:=Tryz.func186.trans (congrArg some (by kernel_rfl))
 f284:=Tryz.func187.trans (congrArg some (by kernel_rfl))
 f285:=Tryz.func188.trans (congrArg some (by kernel_rfl))
 f286:=Tryz.func189.trans (congrArg some (by kernel_rfl))
 f287:=Tryz.func172.trans (congrArg some (by kernel_rfl))
 f316:=Tryz.func173.trans (congrArg some (by kernel_rfl))
 f317:=Tryz.func194.trans (congrArg some (by kernel_rfl))
 f318:=Tryz.func196.trans (congrArg some (by kernel_rfl))
 f319:=Tryz.func197.trans (congrArg some (by kernel_rfl))
 f320:=Tryz.func198.trans (congrArg some (by kernel_rfl))
 f321:=Tryz.func181.trans (congrArg some (by kernel_rfl))
 f322:=Tryz.func182.trans (congrArg some (by kernel_rfl))
 f337:=Tryz.func200.trans (congrArg some (by kernel_rfl))
 f338:=Tryz.func201.trans (congrArg some (by kernel_rfl))
 t0:=Tryz.underlying0
 a0:=Tryz.isAgg0
 z0:=Tryz.sizeOf0
 v0:=Tryz.zeroValue0
 t2:=Tryz.underlying2
 a2:=Tryz.isAgg2
 z2:=Tryz.sizeOf2
 v2:=Tryz.zeroValue2
 t3:=Tryz.underlying3
 a3:=Tryz.isAgg3
 z3:=Tryz.sizeOf3
 v3:=Tryz.zeroValue3
 t4:=Tryz.underlying4
 a4:=Tryz.isAgg4
 z4:=Tryz.sizeOf4
 v4:=Tryz.zeroValue4
 t5:=Tryz.underlying5
 a5:=Tryz.isAgg5
 z5:=Tryz.sizeOf5
 v5:=Tryz.zeroValue5
 t9:=Tryz.underlying9
 a9:=Tryz.isAgg9
 z9:=Tryz.sizeOf9
 v9:=Tryz.zeroValue9
 t20:=Tryz.underlying20
 a20:=Tryz.isAgg20
 z20:=Tryz.sizeOf20
 v20:=Tryz.zeroValue20
 t21:=Tryz.underlying21
 a21:=Tryz.isAgg21
 z21:=Tryz.sizeOf21
 v21:=Tryz.zeroValue21
 t37:=Tryz.underlying73
 a37:=Tryz.isAgg73
 z37:=Tryz.sizeOf73
 v37:=Tryz.zeroValue73
 t46:=Tryz.underlying186
 a46:=Tryz.isAgg186
 z46:=Tryz.sizeOf186
 v46:=Tryz.zeroValue186
 t51:=Tryz.underlying214
 a51:=Tryz.isAgg214
 z51:=Tryz.sizeOf214
 v51:=Tryz.zeroValue214
 t53:=Tryz.underlying183
 a53:=Tryz.isAgg183
 z53:=Tryz.sizeOf183
 v53:=Tryz.zeroValue183
 t75:=Tryz.underlying124
 a75:=Tryz.isAgg124
 z75:=Tryz.sizeOf124
 v75:=Tryz.zeroValue124
 t76:=Tryz.underlying125
 a76:=Tryz.isAgg125
 z76:=Tryz.sizeOf125
 v76:=Tryz.zeroValue125
 t85:=Tryz.underlying165
 a85:=Tryz.isAgg165
 z85:=Tryz.sizeOf165
 v85:=Tryz.zeroValue165
 t127:=Tryz.underlying157
 a127:=Tryz.isAgg157
 z127:=Tryz.sizeOf157
 v127:=Tryz.zeroValue157
 t143:=Tryz.underlying196
 a143:=Tryz.isAgg196
 z143:=Tryz.sizeOf196
 v143:=Tryz.zeroValue196
 t145:=Tryz.underlying198
 a145:=Tryz.isAgg198
 z145:=Tryz.sizeOf198
 v145:=Tryz.zeroValue198
 t167:=Tryz.underlying164
 a167:=Tryz.isAgg164
 z167:=Tryz.sizeOf164
 v167:=Tryz.zeroValue164
 t168:=Tryz.underlying167
 a168:=Tryz.isAgg167
 z168:=Tryz.sizeOf167
 v168:=Tryz.zeroValue167
 t171:=Tryz.underlying200
 a171:=Tryz.isAgg200
 z171:=Tryz.sizeOf200
 v171:=Tryz.zeroValue200
 t173:=Tryz.underlying203
 a173:=Tryz.isAgg203
 z173:=Tryz.sizeOf203
 v173:=Tryz.zeroValue203
 t175:=Tryz.underlying184
 a175:=Tryz.isAgg184
 z175:=Tryz.sizeOf184
 v175:=Tryz.zeroValue184
 t210:=Tryz.underlying188
 a210:=Tryz.isAgg188
 z210:=Tryz.sizeOf188
 v210:=Tryz.zeroValue188
 t212:=Tryz.underlying213
 a212:=Tryz.isAgg213
 z212:=Tryz.sizeOf213
 v212:=Tryz.zeroValue213
 t213:=Tryz.underlying215
 a213:=Tryz.isAgg215
 z213:=Tryz.sizeOf215
 t232:=Tryz.underlying219
 a232:=Tryz.isAgg219
 z232:=Tryz.sizeOf219
 v232:=Tryz.zeroValue219
 t233:=Tryz.underlying220
 a233:=Tryz.isAgg220
 z233:=Tryz.sizeOf220
 v233:=Tryz.zeroValue220
 g15:=by kernel_rfl
 g16:=by kernel_rfl
 g17:=by kernel_rfl
 g18:=by kernel_rfl
 g19:=by kernel_rfl
 t80:=Tryz.underlying95
 a80:=Tryz.isAgg95
 z80:=Tryz.sizeOf95
 v80:=Tryz.zeroValue95
 i0:=by kernel_rfl
 i2:=by kernel_rfl
 i3:=by kernel_rfl
 i4:=by kernel_rfl
 i5:=by kernel_rfl
 i9:=by kernel_rfl
 i20:=by kernel_rfl
 i21:=by kernel_rfl
 i37:=by kernel_rfl
 i46:=by kernel_rfl
 i51:=by kernel_rfl
 i53:=by kernel_rfl
 i75:=by kernel_rfl
 i76:=by kernel_rfl
 i80:=by kernel_rfl
 i85:=by kernel_rfl
 i127:=by kernel_rfl
 i143:=by kernel_rfl
 i145:=by kernel_rfl
 i167:=by kernel_rfl
 i168:=by kernel_rfl
 i171:=by kernel_rfl
 i173:=by kernel_rfl
 i175:=by kernel_rfl
 i210:=by kernel_rfl
 i212:=by kernel_rfl
 i232:=by kernel_rfl
 i233:=by kernel_rfl
 m15:=by kernel_rfl
 m16:=by kernel_rfl
 m17:=by kernel_rfl
 m18:=by kernel_rfl
 m19:=by kernel_rfl
 c0:=by kernel_rfl
 c2:=by kernel_rfl
 c3:=by kernel_rfl
 c4:=by kernel_rfl
 c5:=by kernel_rfl
 c9:=by kernel_rfl
 c20:=by kernel_rfl
 c21:=by kernel_rfl
 c37:=by kernel_rfl
 c46:=by kernel_rfl
 c51:=by kernel_rfl
 c53:=by kernel_rfl
 c75:=by kernel_rfl
 c76:=by kernel_rfl
 c80:=by kernel_rfl
 c85:=by kernel_rfl
 c127:=by kernel_rfl
 c143:=by kernel_rfl
 c145:=by kernel_rfl
 c167:=by kernel_rfl
 c168:=by kernel_rfl
 c171:=by kernel_rfl
 c173:=by kernel_rfl
 c175:=by kernel_rfl
 c210:=by kernel_rfl
 c212:=by kernel_rfl
 c213:=by kernel_rfl
 c232:=by kernel_rfl
 c233:=by kernel_rfl }
open Go.RowKit in
theorem Tryz.strconv_Atoi_ok (s:ByteArray) (hmax:s.size≤9223372036854775806) (v:Int) (h:Lib.atoiAll s.data.toList=.ok v) (w:World) :
  Calls Tryz.prog 76 #[.string s] w fun e w'=>e=.returned (.tuple #[.int .i64 v,.nilIface])∧(w'=w∨∃ t,w'=Lib.bytesWorld w 5 t):=Any.strconv_Atoi_ok Tryz.laysC172 s hmax v h w
open Go.RowKit in
theorem Tryz.strconv_Atoi_syntax_var (s : ByteArray) (hlim : s.size ≤ 281474976710656) (h : Lib.atoiAll s.data.toList = .«syntax») (tp : TypeId) (p : Value) (w : World) (hvar : w.var? Tryz.prog "strconv.ErrSyntax" = some #[.iface tp p]) :
  Calls Tryz.prog 76 #[.string s] w fun e w'=>∃ N,e=.returned (.tuple #[.int .i64 0,.iface 167 (.pointer (some ⟨N,0,none⟩))])∧w.heap.size≤N∧w'.heap[N]?=some (.cells #[.string ⟨#[65,116,111,105]⟩,.string s,.iface tp p] 188 (0,0))∧Below w.heap.size w w':=Any.strconv_Atoi_syntax_var Tryz.laysC172 s hlim h tp p w hvar
open Go.RowKit in
theorem Tryz.strconv_Atoi_range_var (s : ByteArray) (hlim : s.size ≤ 281474976710656) (h : Lib.atoiAll s.data.toList = .range) (tp : TypeId) (p : Value) (w : World) (hvar : w.var? Tryz.prog "strconv.ErrRange" = some #[.iface tp p]) :
  Calls Tryz.prog 76 #[.string s] w fun e w'=>∃ N,e=.returned (.tuple #[.int .i64 (Lib.atoiSat s.data.toList),.iface 167 (.pointer (some ⟨N,0,none⟩))])∧w.heap.size≤N∧w'.heap[N]?=some (.cells #[.string ⟨#[65,116,111,105]⟩,.string s,.iface tp p] 188 (0,0))∧Below w.heap.size w w':=Any.strconv_Atoi_range_var Tryz.laysC172 s hlim h tp p w hvar
def Tryz.lays101_ren:Go.Shelf.Ren:=⟨fun | 101=>124 | 208=>156 | 206=>175 | n=>n,fun | 9=>9 | 4=>4 | 3=>3 | n=>n,fun | n=>n⟩
theorem Tryz.lays101:Go.Proofs.Lays.n101 Tryz.prog Tryz.lays101_ren:={
 mixed:=by kernel_rfl
 f101:=Tryz.func124.trans (congrArg some (by kernel_rfl))
 f206:=Tryz.func175.trans (congrArg some (by kernel_rfl))
 f208:=Tryz.func156.trans (congrArg some (by kernel_rfl))
 t3:=Tryz.underlying3
 a3:=Tryz.isAgg3
 z3:=Tryz.sizeOf3
 v3:=Tryz.zeroValue3
 t4:=Tryz.underlying4
 a4:=Tryz.isAgg4
 z4:=Tryz.sizeOf4
 v4:=Tryz.zeroValue4
 t9:=Tryz.underlying9
 a9:=Tryz.isAgg9
 z9:=Tryz.sizeOf9
 v9:=Tryz.zeroValue9 }
open Go.RowKit Go.Lib in
theorem Tryz.strings_TrimPrefix (s p:ByteArray) (w:World) :
  Calls Tryz.prog 124 #[.string s,.string p] w fun e w'=>e=.returned (.string ⟨(Lib.trimPrefix s.data.toList p.data.toList).toArray⟩)∧w'=w:=Any.strings_TrimPrefix Tryz.lays101 s p w
def Tryz.lays109_ren:Go.Shelf.Ren:=⟨fun | 109=>126 | n=>n,fun | 31=>33 | 9=>9 | 3=>3 | 0=>0 | 4=>4 | n=>n,fun | n=>n⟩
theorem Tryz.lays109:Go.Proofs.Lays.n109 Tryz.prog Tryz.lays109_ren:={
 mixed:=by kernel_rfl
 f109:=Tryz.func126.trans (congrArg some (by kernel_rfl))
 t0:=Tryz.underlying0
 a0:=Tryz.isAgg0
 z0:=Tryz.sizeOf0
 v0:=Tryz.zeroValue0
 t3:=Tryz.underlying3
 a3:=Tryz.isAgg3
 z3:=Tryz.sizeOf3
 v3:=Tryz.zeroValue3
 t4:=Tryz.underlying4
 a4:=Tryz.isAgg4
 z4:=Tryz.sizeOf4
 v4:=Tryz.zeroValue4
 t9:=Tryz.underlying9
 a9:=Tryz.isAgg9
 z9:=Tryz.sizeOf9
 v9:=Tryz.zeroValue9
 t31:=Tryz.underlying33
 a31:=Tryz.isAgg33
 z31:=Tryz.sizeOf33
 v31:=Tryz.zeroValue33 }
open Go.Lib in
theorem Tryz.slices_Index_string (b off n c:Nat) (zs:List ByteArray) (x:ByteArray) (w:World) (hz:n≤zs.length) (hbig:n≤9223372036854775807) (hc:∀ j,j < zs.length→w.cell? ⟨b,off+j,none⟩=some (.string (zs.getD j ByteArray.empty))) :
  Calls Tryz.prog 126 #[.slice (some ⟨b,off,none⟩) n c,.string x] w fun e w'=>e=.returned (.int .i64 (Lib.idxOfS (zs.take n) x))∧w'=w:=Any.slices_Index_string Tryz.lays109 b off n c zs x w hz hbig hc
def Tryz.lays110_ren:Go.Shelf.Ren:=⟨fun | 110=>82 | 109=>126 | n=>n,fun | 31=>33 | 9=>9 | 4=>4 | 3=>3 | 0=>0 | n=>n,fun | n=>n⟩
theorem Tryz.lays110:Go.Proofs.Lays.n110 Tryz.prog Tryz.lays110_ren:={
 mixed:=by kernel_rfl
 f109:=Tryz.func126.trans (congrArg some (by kernel_rfl))
 f110:=Tryz.func82.trans (congrArg some (by kernel_rfl))
 t0:=Tryz.underlying0
 a0:=Tryz.isAgg0
 z0:=Tryz.sizeOf0
 v0:=Tryz.zeroValue0
 t3:=Tryz.underlying3
 a3:=Tryz.isAgg3
 z3:=Tryz.sizeOf3
 v3:=Tryz.zeroValue3
 t4:=Tryz.underlying4
 a4:=Tryz.isAgg4
 z4:=Tryz.sizeOf4
 v4:=Tryz.zeroValue4
 t9:=Tryz.underlying9
 a9:=Tryz.isAgg9
 z9:=Tryz.sizeOf9
 v9:=Tryz.zeroValue9
 t31:=Tryz.underlying33
 a31:=Tryz.isAgg33
 z31:=Tryz.sizeOf33
 v31:=Tryz.zeroValue33 }
open Go.Lib in
theorem Tryz.slices_Contains_string (b off n c:Nat) (zs:List ByteArray) (x:ByteArray) (w:World) (hz:n≤zs.length) (hbig:n≤9223372036854775807) (hc:∀ j,j < zs.length→w.cell? ⟨b,off+j,none⟩=some (.string (zs.getD j ByteArray.empty))) :
  Calls Tryz.prog 82 #[.slice (some ⟨b,off,none⟩) n c,.string x] w fun e w'=>e=.returned (.bool (Lib.containsS (zs.take n) x))∧w'=w:=Any.slices_Contains_string Tryz.lays110 b off n c zs x w hz hbig hc
def Tryz.lays111_ren:Go.Shelf.Ren:=⟨fun | 111=>121 | n=>n,fun | 28=>22 | 3=>3 | 4=>4 | 0=>0 | n=>n,fun | n=>n⟩
theorem Tryz.lays111:Go.Proofs.Lays.n111 Tryz.prog Tryz.lays111_ren:={
 mixed:=by kernel_rfl
 f111:=Tryz.func121.trans (congrArg some (by kernel_rfl))
 t0:=Tryz.underlying0
 a0:=Tryz.isAgg0
 z0:=Tryz.sizeOf0
 v0:=Tryz.zeroValue0
 t3:=Tryz.underlying3
 a3:=Tryz.isAgg3
 z3:=Tryz.sizeOf3
 v3:=Tryz.zeroValue3
 t4:=Tryz.underlying4
 a4:=Tryz.isAgg4
 z4:=Tryz.sizeOf4
 v4:=Tryz.zeroValue4
 t28:=Tryz.underlying22
 a28:=Tryz.isAgg22
 z28:=Tryz.sizeOf22
 v28:=Tryz.zeroValue22 }
open Go.RowKit Go.Lib in
theorem Tryz.slices_Equal_int (b1 o1 n c b2 o2 m d:Nat) (xs ys:List Int) (w:World) (hx:n≤xs.length) (hy:m≤ys.length) (hbig:n≤9223372036854775807) (hbig2:m≤9223372036854775807) (hc1:∀ j,j < xs.length→w.cell? ⟨b1,o1+j,none⟩=some (.int .i64 (xs.getD j 0))) (hc2:∀ j,j < ys.length→w.cell? ⟨b2,o2+j,none⟩=some (.int .i64 (ys.getD j 0))) :
  Calls Tryz.prog 121 #[.slice (some ⟨b1,o1,none⟩) n c,.slice (some ⟨b2,o2,none⟩) m d] w fun e w'=>e=.returned (.bool (xs.take n == ys.take m))∧∃ q,w'=w.drewN q:=Any.slices_Equal_int Tryz.lays111 b1 o1 n c b2 o2 m d xs ys w hx hy hbig hbig2 hc1 hc2
open Go.RowKit Go.Lib in
theorem Tryz.slices_Equal_int_empty (a1 a2:Option Addr) (c m d:Nat) (w:World) (hbig2:m≤9223372036854775807) :
  Calls Tryz.prog 121 #[.slice a1 0 c,.slice a2 m d] w fun e w'=>e=.returned (.bool (decide (m=0)))∧w'=w:=Any.slices_Equal_int_empty Tryz.lays111 a1 a2 c m d w hbig2
def Tryz.lays193_ren:Go.Shelf.Ren:=⟨fun | 193=>65 | n=>n,fun | 31=>33 | 9=>9 | 4=>4 | 3=>3 | 0=>0 | n=>n,fun | n=>n⟩
theorem Tryz.lays193:Go.Proofs.Lays.n193 Tryz.prog Tryz.lays193_ren:={
 mixed:=by kernel_rfl
 f193:=Tryz.func65.trans (congrArg some (by kernel_rfl))
 t0:=Tryz.underlying0
 a0:=Tryz.isAgg0
 z0:=Tryz.sizeOf0
 v0:=Tryz.zeroValue0
 t3:=Tryz.underlying3
 a3:=Tryz.isAgg3
 z3:=Tryz.sizeOf3
 v3:=Tryz.zeroValue3
 t4:=Tryz.underlying4
 a4:=Tryz.isAgg4
 z4:=Tryz.sizeOf4
 v4:=Tryz.zeroValue4
 t9:=Tryz.underlying9
 a9:=Tryz.isAgg9
 z9:=Tryz.sizeOf9
 v9:=Tryz.zeroValue9
 t31:=Tryz.underlying33
 a31:=Tryz.isAgg33
 z31:=Tryz.sizeOf33
 v31:=Tryz.zeroValue33 }
open Go.RowKit Go.Lib in
theorem Tryz.slices_Equal_string (b1 o1 n c b2 o2 m d:Nat) (xs ys:List ByteArray) (w:World) (hx:n≤xs.length) (hy:m≤ys.length) (hbig:n≤9223372036854775807) (hbig2:m≤9223372036854775807) (hc1:∀ j,j < xs.length→w.cell? ⟨b1,o1+j,none⟩=some (.string (xs.getD j ByteArray.empty))) (hc2:∀ j,j < ys.length→w.cell? ⟨b2,o2+j,none⟩=some (.string (ys.getD j ByteArray.empty))) :
  Calls Tryz.prog 65 #[.slice (some ⟨b1,o1,none⟩) n c,.slice (some ⟨b2,o2,none⟩) m d] w fun e w'=>e=.returned (.bool (decide (xs.take n=ys.take m)))∧∃ q,w'=w.drewN q:=Any.slices_Equal_string Tryz.lays193 b1 o1 n c b2 o2 m d xs ys w hx hy hbig hbig2 hc1 hc2
open Go.RowKit Go.Lib in
theorem Tryz.slices_Equal_string_empty (a1 a2:Option Addr) (c m d:Nat) (w:World) (hbig2:m≤9223372036854775807) :
  Calls Tryz.prog 65 #[.slice a1 0 c,.slice a2 m d] w fun e w'=>e=.returned (.bool (decide (m=0)))∧w'=w:=Any.slices_Equal_string_empty Tryz.lays193 a1 a2 c m d w hbig2
open Go.RowKit Go.Lib in
theorem Tryz.slices_Equal_int_lens (a1 a2:Option Addr) (n c m d:Nat) (w:World) (hnm:n≠m) :
  Calls Tryz.prog 121 #[.slice a1 n c,.slice a2 m d] w fun e w'=>e=.returned (.bool false)∧w'=w:=Any.slices_Equal_int_lens Tryz.lays111 a1 a2 n c m d w hnm
open Go.RowKit Go.Lib in
theorem Tryz.slices_Equal_string_lens (a1 a2:Option Addr) (n c m d:Nat) (w:World) (hnm:n≠m) :
  Calls Tryz.prog 65 #[.slice a1 n c,.slice a2 m d] w fun e w'=>e=.returned (.bool false)∧w'=w:=Any.slices_Equal_string_lens Tryz.lays193 a1 a2 n c m d w hnm
end Go.Proofs
namespace Go.Proofs.YtmplaikgbeeikaaGreatDoor
open Go Go.RowKit
theorem append_string_at {P:Program} (w:World) (base:Nat) (t u ty e:TypeId) (i:TypeInfo) (ht:P.underlying t=some (.slice e)) (hu:P.underlying u=some .string) (hi:P.info? e=some i) (hz:i.zero=some (.int .u8 0)) (hsize:i.size=1) (hby:i.bytes=1)
  (v:Value) (n:Nat) (xs:List Value) (hown:w.ownsRow base e 1 v n xs) (s:ByteArray) (h47:n+s.size≤140737488355328) (v':Value) (w':World) (hrun:(Builtin.append_ #[t,u] ty #[v,.string s]).run P w=.ok v' w'):v'.ownBlock=v.ownBlock∨v'.ownBlock=some w.heap.size:=by
 rcases hown.2 with ⟨rfl,rfl⟩ | ⟨g,cap,cur,rfl,hbg,hg,hnc,hcm,hcs,htk⟩
 ·by_cases hs:s.size=0
  ·have hf:=Lib.run_firstCells_string (P:=P) w 1 s
   rw [hs] at hf
   have h2:(Builtin.append_ #[t,u] ty #[.slice none 0 0,.string s]).run P w=.ok (.slice none 0 0) w:=by
    simp [Builtin.append_,run_underlying ht,run_underlying hu,sizeOf,typeInfo,hi,hsize,Builtin.lenOf,hs,hf]
   rw [h2] at hrun
   injection hrun with h3 h4
   left;rw [← h3]
  ·have h2:=run_append_nil_string (P:=P) w t u ty e i (.int .u8 0) ht hu hi hz s (by omega) (by omega) (by rw [hby];omega)
   rw [h2] at hrun
   injection hrun with h3 h4
   right;rw [← h3];rfl
 ·by_cases hroom:n+s.size≤cap
  ·have h2:=Lib.run_append_room_string (P:=P) w t u ty e i ht hu hi hsize g n cap cur hg s hroom (by omega)
   rw [h2] at hrun
   injection hrun with h3 h4
   left;rw [← h3];rfl
  ·have hx:xs.length=n:=by have:=hown.1;omega
   have h2:=Lib.run_append_grow_string (P:=P) w t u ty e i (.int .u8 0) ht hu hi hz ⟨g,0,none⟩ n cap xs (by rw [hsize];omega) (hown.cells (g:=g) rfl) s (by omega) (by omega) (by rw [hby];exact growslice_fits (by omega) (by omega))
   rw [h2] at hrun
   injection hrun with h3 h4
   right;rw [← h3];rfl
theorem wpList_append_str {P:Program} {ops:Array Oper} {rest:List Oper} {o:Oper} {a:Act} {Q:Exit→Act→World→Prop} (hgd:o.guard=none) (sl x:Operand) (t u:TypeId)
  (ho:o.op=.call { callee:=.builtin .append,args:=#[sl,x],argTypes:=#[t,u] }) (e:TypeId) (i:TypeInfo) (ht:P.underlying t=some (.slice e)) (hu:P.underlying u=some .string) (hi:P.info? e=some i) (hz:i.zero=some (.int .u8 0)) (hsize:i.size=1) (hby:i.bytes=1)
  {w W:World} {G M:List Nat} {bx:List Box} {L:List (List Nat→World→Prop)} {v:Value} {n:Nat} {xs:List Value} (H:HRow w G M bx L e 1 v n xs W) (hs:a.eval sl=v) (s:ByteArray) (hx:a.eval x=.string s) (h47:n+s.size≤140737488355328)
  (h:∀ v' W' M',HRow w G M' bx L e 1 v' (n+s.size) (xs++Lib.strCells s) W'→(∀ g∈M,g∈M')→wpList P ops Q rest (a.put o.dst v') W'):wpList P ops Q (o::rest) a W:=by
 obtain ⟨v',W',hr,h2,h3,_⟩:=Lib.run_append_own_string (P:=P) W w.heap.size t u o.type e i ht hu hi hz hsize hby v n xs H.own s (by unfold maxLen;omega) h47 H.h.bl.size
 have h4:=append_string_at (P:=P) W w.heap.size t u o.type e i ht hu hi hz hsize hby v n xs H.own s h47 v' W' hr
 obtain ⟨M',k1,k2,k3⟩:=H.h.grown H.ok h3 h4 h2
 refine wpList_plain hgd fun K hK=>?_
 unfold Oper.wp execOp
 simp only [ho,resolve,invoke,builtin,Sem.run_bind,Sem.run_pure,Result.andThen_ok,List.map_toArray,List.map_cons,List.map_nil,hs,hx,hr]
 exact hK _ _ (h v' W' M' ⟨k1,k2,h2⟩ k3)
structure Bld (w:World) (G M:List Nat) (bx:List Box) (L:List (List Nat→World→Prop)) (b:Nat) (l:List UInt8) (W:World):Prop where
 it:∃ p v,(p=.pointer none∨p=.pointer (some ⟨b,0,none⟩))∧HRow w G M ((b,141,#[p,v])::bx) L 5 1 v l.length (byteVals l) W
theorem infoBld:(Tryz.prog.info? 141).map (·.size)=some 2:=by kernel_rfl
theorem liesBld:liesAt Tryz.prog Tryz.prog.depth 141 (2 / Tryz.prog.cellsOf 141) 0 141 1=true:=by kernel_rfl
set_option maxHeartbeats 1000000 in
set_option maxRecDepth 100000 in
theorem copyCheck_fresh (b:Nat) (v:Value) (w:World) (hb:Blk w b 141 #[.pointer none,v]):Calls Tryz.prog 132 #[.pointer (some ⟨b,0,none⟩)] w fun e w'=>e=.returned (.tuple #[])∧w'=w.setCell ⟨b,0,none⟩ (.pointer (some ⟨b,0,none⟩)):=by
 obtain ⟨j,hj,hjs⟩:=Option.map_eq_some_iff.1 infoBld
 have h0:w.cell? ⟨b,0,none⟩=some (.pointer none):=hb.cell 0
 have hsh:w.shape? b=some (141,2):=by unfold World.shape?;rw [show w.heap[b]?=_ from hb];rfl
 have hfz:=hb.frozen 0
 have HL:=aI liesBld
 clear hb
 go_enter Tryz.func132,Tryz.ntmps132
 go_wp2
 rw [Lib.run_to_unsafe w ⟨b,0,none⟩ Tryz.underlying139 Tryz.underlying177 hj (by rw [hjs];decide) hsh (Nat.zero_lt_succ 1)]
 simp only [Result.andThen]
 rw [Oper.upon_value]
 go_wp2
 rw [run_callFunc_extern Tryz.func166 (by kernel_rfl) (by kernel_rfl) (by kernel_rfl) (e:=Extern.AbiNoEscape.same) (by kernel_rfl)]
 rw [Lib.run_noEscape]
 simp only [Result.andThen]
 rw [Oper.upon_value]
 go_wp2
 rw [Lib.run_from_unsafe w ⟨b,0,none⟩ Tryz.underlying177 Tryz.underlying139 hj hsh HL.out]
 simp only [Result.andThen]
 rw [Oper.upon_value]
 go_wp2
 go_end0
 exact ⟨rfl,rfl⟩
set_option maxHeartbeats 1000000 in
set_option maxRecDepth 100000 in
theorem copyCheck_used (b:Nat) (v:Value) (w:World) (hb:Blk w b 141 #[.pointer (some ⟨b,0,none⟩),v]):Calls Tryz.prog 132 #[.pointer (some ⟨b,0,none⟩)] w fun e w'=>e=.returned (.tuple #[])∧w'=w:=by
 obtain ⟨j,hj,_⟩:=Option.map_eq_some_iff.1 infoBld
 have h0:w.cell? ⟨b,0,none⟩=some (.pointer (some ⟨b,0,none⟩)):=hb.cell 0
 clear hb
 go_enter Tryz.func132,Tryz.ntmps132
 go_wp2
 rw [Lib.run_neq_ptr_same w _ Tryz.underlying139 hj]
 go_wp2
 go_end0
 exact ⟨rfl,rfl⟩
theorem copyCheck_any {w W:World} {G M:List Nat} {bx:List Box} {L:List (List Nat→World→Prop)} {b:Nat} {l:List UInt8} (H:Bld w G M bx L b l W):Calls Tryz.prog 132 #[.pointer (some ⟨b,0,none⟩)] W fun e W'=>e=.returned (.tuple #[]) ∧
  ∃ v,HRow w G M ((b,141,#[.pointer (some ⟨b,0,none⟩),v])::bx) L 5 1 v l.length (byteVals l) W':=by
 obtain ⟨p,v,hp,h⟩:=H.it
 rcases hp with rfl | rfl
 ·refine (copyCheck_fresh b v W (h.h.box (.head _))).mono ?_
  rintro e W' ⟨rfl,rfl⟩
  exact ⟨rfl,v,h.set_ (bx1:=[]) 0 _⟩
 ·refine (copyCheck_used b v W (h.h.box (.head _))).mono ?_
  rintro e W' ⟨rfl,rfl⟩
  exact ⟨rfl,v,h⟩
def BldP (w:World) (G M:List Nat) (bx:List Box) (L:List (List Nat→World→Prop)) (b:Nat) (l:List UInt8) (r:Value) (e:Ending) (W:World):Prop:=e=.returned r∧∃ M',Bld w G M' bx L b l W∧∀ g∈M,g∈M'
theorem strCells_is (s:ByteArray):Lib.strCells s=byteVals s.data.toList:=rfl
theorem bcells {w:World} {g:Nat} {t:TypeId} {a b:Value} (h:Blk w g t #[a,b]):w.cell? ⟨g,0,none⟩=some a∧w.cell? ⟨g,1,none⟩=some b∧w.frozen? ⟨g,0,none⟩=false∧w.frozen? ⟨g,1,none⟩=false:=⟨h.cell 0,h.cell 1,h.frozen 0,h.frozen 1⟩
set_option maxHeartbeats 2000000 in
set_option maxRecDepth 100000 in
theorem writeString_any {w W:World} {G M:List Nat} {bx:List Box} {L:List (List Nat→World→Prop)} {b:Nat} {l:List UInt8} (s:ByteArray) (H:Bld w G M bx L b l W) (h47:l.length+s.size≤140737488355328) :
  Calls Tryz.prog 103 #[.pointer (some ⟨b,0,none⟩),.string s] W (BldP w G M bx L b (l++s.data.toList) (.tuple #[.int .i64 s.size,.nilIface])):=by
 obtain ⟨i0,hi,hz0,hz1,hz2⟩:=info_parts infoU8
 have HII:=aI (show _∧_∧_∧_ from ⟨hi,hz0,hz1,hz2⟩)
 have CC:=aI (copyCheck_any H)
 have HL:=aI (show l.length+s.size=(l++s.data.toList).length by simp)
 have HB:=aI (show byteVals l++Lib.strCells s=byteVals (l++s.data.toList) by rw [strCells_is,← byteVals_append])
 obtain ⟨n,hn⟩:∃ n,l.length=n:=⟨_,rfl⟩
 rw [hn] at CC HL h47
 generalize l++s.data.toList=l' at *
 clear H hi hz0 hz1 hz2 hn
 go_enter Tryz.func103,Tryz.ntmps103
 go_wp2_with (first | (go_at_call 132;((with_reducible refine (CC.out).mono ?_));rintro e w1 ⟨rfl,v,hr⟩;have T:=aI hr;obtain ⟨c0,c1,f0,f1⟩:=bcells (T.out.h.box (.head _));clear hr) | (at_builtin;obtain ⟨hi,hz0,hz1,hz2⟩:=HII.out;refine wpList_append_str (by rfl) _ _ 73 9 (by rfl) 5 i0 Tryz.underlying73 Tryz.underlying9 hi hz0 hz1 hz2 T.out (by rfl) s (by rfl) h47 ?_;intro v' w' M' h' hM;obtain ⟨A',c',rfl⟩:=own_form h'.own;rw [HB.out,HL.out] at h';replace T:=aI h';clear h' hi hz0 hz1 hz2 c0 c1 f0 f1;obtain ⟨c0,c1,f0,f1⟩:=bcells (T.out.h.box (.head _));have HM:=aI hM;clear hM))
 go_ret2
 rw [HL.out]
 exact ⟨rfl,_,⟨⟨_,_,.inr rfl,T.out.set_ (bx1:=[]) 1 _⟩⟩,HM.out⟩
set_option maxHeartbeats 2000000 in
set_option maxRecDepth 100000 in
theorem writeByte_any {w W:World} {G M:List Nat} {bx:List Box} {L:List (List Nat→World→Prop)} {b:Nat} {l:List UInt8} (c:UInt8) (H:Bld w G M bx L b l W) (h47:l.length+1≤140737488355328) :
  Calls Tryz.prog 133 #[.pointer (some ⟨b,0,none⟩),.int .u8 c.toNat] W (BldP w G M bx L b (l++[c]) .nilIface):=by
 obtain ⟨i0,hi,hz0,hz1,hz2⟩:=info_parts infoU8
 have HII:=aI (show _∧_∧_∧_ from ⟨hi,hz0,hz1,hz2⟩)
 have CC:=aI (copyCheck_any H)
 have HL:=aI (show l.length+1=(l++[c]).length by simp)
 have HB:=aI (byteVals_snoc l c)
 obtain ⟨n,hn⟩:∃ n,l.length=n:=⟨_,rfl⟩
 rw [hn] at CC HL h47
 generalize l++[c]=l' at *
 clear H hi hz0 hz1 hz2 hn
 go_enter Tryz.func133,Tryz.ntmps133
 go_wp2_with (first | (go_at_call 132;((with_reducible refine (CC.out).mono ?_));rintro e w1 ⟨rfl,v,hr⟩;have T:=aI hr;obtain ⟨c0,c1,f0,f1⟩:=bcells (T.out.h.box (.head _));clear hr) | (at_builtin;obtain ⟨hi,hz0,hz1,hz2⟩:=HII.out;refine wpList_append_row (by rfl) _ _ 73 (by rfl) 5 i0 _ 1 1 Tryz.underlying73 hi hz0 hz1 hz2 rfl (by decide) (T.out.below ((Below.refl _ _).alloc (Nat.le_refl _) _)) (by rfl) _ _ 1 1 [.int .u8 c.toNat] (by rfl) (reads_blk (Blk.new _ _ _) rfl) (byte_one c) (by unfold maxLen;omega) (by omega) ?_;intro v' w' M' h' hM;obtain ⟨A',c',rfl⟩:=own_form h'.own;rw [HB.out,HL.out] at h';replace T:=aI h';clear h' hi hz0 hz1 hz2 c0 c1 f0 f1;obtain ⟨c0,c1,f0,f1⟩:=bcells (T.out.h.box (.head _));have HM:=aI hM;clear hM))
 go_ret
 rw [HL.out]
 exact ⟨rfl,_,⟨⟨_,_,.inr rfl,T.out.set_ (bx1:=[]) 1 _⟩⟩,HM.out⟩
theorem bldString_any {w W:World} {G M:List Nat} {bx:List Box} {L:List (List Nat→World→Prop)} {b:Nat} {l:List UInt8} (H:Bld w G M bx L b l W) :
  Calls Tryz.prog 107 #[.pointer (some ⟨b,0,none⟩)] W fun e W'=>e=.returned (.string ⟨l.toArray⟩)∧Below w.heap.size W W':=by
 obtain ⟨p,v,hp,h⟩:=H.it
 have hb:=h.h.bs _ (.head _)
 have hAt:Lib.BuilderAt 141 5 w.heap.size b p (byteVals l) W:=⟨hb.2.1,v,hb.2.2,by rw [byteVals_length];exact h.own,fun he=>(h.ok b he).2.2 _ (.head _) rfl⟩
 exact Tryz.Builder_String_any w.heap.size b l W (by rcases hp with rfl | rfl <;> first | exact .inl hAt | exact .inr hAt) h.h.bl.size
theorem Bld.new {w W:World} {G M:List Nat} {bx:List Box} {L:List (List Nat→World→Prop)} (h:Held w G M bx L W):Bld w G (W.heap.size::M) bx L W.heap.size [] (W.alloc (.cells #[.pointer none,.slice none 0 0] 141)) :=
 ⟨⟨_,_,.inl rfl,HRow.start (h.new _ _ rfl)⟩⟩
section
variable {w W W':World} {G M:List Nat} {bx:List Box} {L:List (List Nat→World→Prop)} {b:Nat} {l:List UInt8}
theorem Held.perm {bx':List Box} (h:Held w G M bx L W) (hp:bx.Perm bx'):Held w G M bx' L W:=⟨h.bl,h.mb,h.gm,fun x hx=>h.bs x (hp.mem_iff.2 hx),(hp.map _).nodup_iff.1 h.nd,h.all⟩
theorem HRow.perm {bx':List Box} {e:TypeId} {size n:Nat} {v:Value} {xs:List Value} (h:HRow w G M bx L e size v n xs W) (hp:bx.Perm bx'):HRow w G M bx' L e size v n xs W:=⟨h.h.perm hp,h.ok.sub fun _x hx=>hp.mem_iff.2 hx,h.own⟩
theorem Held.adopt {g:Nat} {t:TypeId} {cs:Array Value} (h:Held w G M bx L W) (hb:Below W.heap.size W W') (hg:W.heap.size≤g) (hB:Blk W' g t cs):Held w G (g::M) ((g,t,cs)::bx) L W':=by
 have h':=h.below hb
 refine ⟨h'.bl,fun k hk=>?_,fun k hk=>.tail _ (h.gm k hk),fun x hx=>?_,?_,fun P hP=>⟨(h.all P hP).1,?_⟩⟩
 ·rcases aL hk with rfl | hk
  ·exact hB.lt
  ·exact h'.mb k hk
 ·rcases aL hx with rfl | hx
  ·exact ⟨.head _,Nat.le_trans h.bl.size hg,hB⟩
  ·exact ⟨.tail _ (h'.bs x hx).1,(h'.bs x hx).2⟩
 ·rw [List.map_cons,List.nodup_cons]
  refine ⟨fun hm=>?_,h.nd⟩
  obtain ⟨x,hx,he⟩:=List.mem_map.1 hm
  have:=(h.bs x hx).2.2.lt
  simp only at he
  omega
 ·refine (h.all P hP).1.1 _ _ _ ((h.all P hP).1.2 M _ _ (h.all P hP).2 fun k hk=>?_) (Chg.of_below hb)
  rcases aL hk with rfl | hk
  ·exact .inr hg
  ·exact .inl hk
theorem HRow.adopt {g:Nat} {t:TypeId} {cs:Array Value} {e:TypeId} {size n:Nat} {v:Value} {xs:List Value} (h:HRow w G M bx L e size v n xs W) (hb:Below W.heap.size W W') (hg:W.heap.size≤g) (hB:Blk W' g t cs):HRow w G (g::M) ((g,t,cs)::bx) L e size v n xs W':=by
 refine ⟨h.h.adopt hb hg hB,fun k hk=>⟨.tail _ (h.ok k hk).1,(h.ok k hk).2.1,fun x hx=>?_⟩,owns_below h.own hb⟩
 rcases aL hx with rfl | hx
 ·intro he
  rcases h.own.2 with ⟨rfl,_⟩ | ⟨g',cap,cur,rfl,_,hh,_⟩
  ·simp [Value.ownBlock] at hk
  ·simp only [Value.ownBlock,Option.some.injEq] at hk
   subst hk
   simp only at he
   rw [Array.getElem?_eq_none (by omega)] at hh;cases hh
 ·exact (h.ok k hk).2.2 x hx
theorem Bld.below (h:Bld w G M bx L b l W) (hb:Below W.heap.size W W'):Bld w G M bx L b l W':=by
 obtain ⟨p,v,hp,h⟩:=h.it
 exact ⟨⟨p,v,hp,h.below hb⟩⟩
theorem Bld.adopt {g:Nat} {t:TypeId} {cs:Array Value} (h:Bld w G M bx L b l W) (hb:Below W.heap.size W W') (hg:W.heap.size≤g) (hB:Blk W' g t cs):Bld w G (g::M) ((g,t,cs)::bx) L b l W':=by
 obtain ⟨p,v,hp,h⟩:=h.it
 exact ⟨⟨p,v,hp,(h.adopt hb hg hB).perm (.swap _ _ _)⟩⟩
theorem Bld.newBox (h:Bld w G M bx L b l W) (cs:Array Value) (t:TypeId) {N:Nat} (hN:W.heap.size=N):Bld w G (N::M) ((N,t,cs)::bx) L b l (W.alloc (.cells cs t)) :=
 h.adopt ((Below.refl _ _).alloc (Nat.le_refl _) _) (Nat.le_of_eq hN) (by subst hN;exact Blk.new _ _ _)
theorem Bld.box {x:Box} (h:Bld w G M bx L b l W) (hx:x∈bx):Blk W x.1 x.2.1 x.2.2:=by
 obtain ⟨p,v,hp,h⟩:=h.it
 exact h.h.box (.tail _ hx)
theorem Bld.fact {P:List Nat→World→Prop} (h:Bld w G M bx L b l W) (hP:P∈L):P M W:=by
 obtain ⟨p,v,hp,h⟩:=h.it
 exact h.h.fact hP
theorem Bld.bl (h:Bld w G M bx L b l W):Below w.heap.size w W:=by
 obtain ⟨p,v,hp,h⟩:=h.it
 exact h.h.bl
theorem Bld.rest {x:Box} (h:Bld w G M (x::bx) L b l W):Bld w G M bx L b l W:=by
 obtain ⟨p,v,hp,h⟩:=h.it
 exact ⟨⟨p,v,hp,(h.perm (.swap x _ _)).rest rfl⟩⟩
end
end Go.Proofs.YtmplaikgbeeikaaGreatDoor
namespace Go.Proofs.YtmplaikgbeeikaaGreatDoor
open Go Go.RowKit
theorem digit_byte (q:Nat):((UInt8.ofNat (48+q % 10)).toNat:Int)=48 + ↑q % 10:=by
 rw [UInt8.toNat_ofNat'];omega
def SlB (b:UInt8) (v:Value) (w:World):Prop:=w.ownsRow 0 5 1 v 1 (byteVals [b])
theorem slB_kept (b:UInt8):Kept (SlB b):=fun _ _ _ h hb=>own_below h hb
theorem itoa_nat (u:Nat):Lib.itoa (u:Int)=Lib.decDigits u:=by unfold Lib.itoa;rw [if_neg (by omega)];simp
theorem itoa_neg (u:Nat) (h:0 < u):Lib.itoa (-(u:Int))=45::Lib.decDigits u:=by unfold Lib.itoa;rw [if_pos (by omega)];simp
theorem gPow : Tryz.prog.globalNamed "internal/strconv.uint64pow10" = some 5 := by kernel_rfl
structure TEnv (w:World):Prop where
 tab : Lib.TabIs Tryz.prog w "internal/strconv.uint64pow10" .u64 Lib.pow10Tab
 sz:5 < w.heap.size
theorem TEnv.below {w w':World} {B:Nat} (h:TEnv w) (hb:Below B w w') (hB:5 < B):TEnv w':=by
 refine ⟨?_,by have:=hb.size;have:=h.sz;omega⟩
 have h1:=h.tab
 unfold Lib.TabIs at h1 ⊢
 exact var?_below hb gPow hB h1
theorem below_grow (w:World) (k:Nat) (os:Array Obj):Below w.heap.size w (Go.Sort.grow (w.drewN k) os) :=
 (regrown_of_below (w:=w) (Below.refl _ _)).elim fun _ _=>⟨rfl,rfl,rfl,by simp [Go.Sort.grow,World.drewN],fun i hi=>by simp [Go.Sort.grow,World.drewN,Array.getElem?_append,hi]⟩
theorem itoa_any (n:Int) (w:World) (h:inI n) (ht:TEnv w) :
  Calls Tryz.prog 134 #[.int .i64 n] w fun e w'=>e=.returned (.string ⟨(Lib.itoa n).toArray⟩)∧Below w.heap.size w w' :=
 (Tryz.strconv_Itoa n h.1 h.2 w ht.tab).mono fun e w' ⟨he,k,os,hw⟩=>⟨he,by rw [hw];exact below_grow w k os⟩
theorem strLen (s:ByteArray):s.data.toList.length=s.size:=by simp
theorem av_at {G:List Nat} {w:World} {A:Option Addr} {l:List Sx.Av} (h:SlAt G w A l) (k:Nat) (hk:k < l.length):∃ b o v,A=some ⟨b,o,none⟩∧b∉G∧w.cell? ⟨b,o+k,none⟩=some v∧Mem.rep G w l[k] [v]:=by
 obtain ⟨b,o,us,hA,hg,hr,hc⟩:=h.get k hk
 have hlen:=Mem.len hr
 obtain ⟨v,rfl⟩:∃ v,us=[v]:=by
  cases us with
  | nil=>cases hlen
  | cons v us=>cases us with
   | nil=>exact ⟨v,rfl⟩
   | cons _ _=>cases hlen
 refine ⟨b,o,v,hA,hg,?_,hr⟩
 have:=hc 0 _ rfl
 rw [show k*Mem.sz Sx.Av+0=k from Nat.mul_one k] at this
 exact this
theorem ta_nn (z:Int) (x:TypeId) (w:World):(Instr.typeAssert (.iface 3 (.int .i64 z)) x 3 true).run Tryz.prog w=.ok (.tuple #[.int .i64 z,.bool true]) w:=by kernel_rfl
theorem ta_sn (b:ByteArray) (x:TypeId) (w:World):(Instr.typeAssert (.iface 9 (.string b)) x 3 true).run Tryz.prog w=.ok (.tuple #[.int .i64 0,.bool false]) w:=by kernel_rfl
theorem ta_ss (b:ByteArray) (x:TypeId) (w:World):(Instr.typeAssert (.iface 9 (.string b)) x 9 true).run Tryz.prog w=.ok (.tuple #[.string b,.bool true]) w:=by kernel_rfl
set_option maxRecDepth 100000 in
set_option maxHeartbeats 4000000 in
theorem line_any (ws:ByteArray) (l:List Sx.Av) (A:Option Addr) (c:Nat) (w:World) (hl:SlAt [] w A l) (hok:∀ a∈l,a.ok) (hm:l.length≤1000000) (hws:ws.size≤1000) (he:TEnv w) :
  Calls Tryz.prog 104 #[.string ws,.slice A l.length c] w fun e w'=>e=.returned (.string ⟨(Sx.lineT (Sx.bs ws::l.map Sx.Av.t)).toArray⟩)∧Below w.heap.size w w':=by
 rw [← Sx.lineP_end]
 obtain ⟨n,hn⟩:∃ n,l.length=n:=⟨_,rfl⟩
 have HENV:=aI he
 have HN:=aI hn;have HO:=aI hok
 have HW:=aI (show (Sx.bs ws).length≤1000 by rw [show (Sx.bs ws).length=ws.size from strLen ws];exact hws)
 have T0:=aI ((held0 w [] (fun _ h=>by cases h)).add (keeps_sl A l) hl)
 rw [hn] at hm ⊢
 clear hl hn hok he
 go_enter Tryz.func104,Tryz.ntmps104
 go_upto_region 2 with fail
 have T:=aI (Bld.new T0.out)
 obtain ⟨Nb,hNb⟩:∃ N,w.heap.size=N:=⟨_,rfl⟩
 rw [hNb] at T ⊢
 clear hNb T0
 go_wp2_with (go_at_call 103;((with_reducible refine (writeString_any ws T.out (by simp;omega)).mono ?_));rintro e w8 ⟨rfl,M8,hT8,_⟩;replace T:=aI hT8;clear hT8)
 rw [List.nil_append] at T
 go_loopg [14] n (fun r i wr=>∃ (k:Nat) (M:List Nat),k+r=n∧i=.int .i64 k∧Bld w [] M [] [fun M W=>SlAt M W A l] Nb (Sx.lineP (Sx.bs ws) (l.take k)) wr)
 case atStart=>exact ⟨0,_,by omega,rfl,by rw [List.take_zero,Sx.lineP_nil];exact T.out⟩
 case round =>
  obtain ⟨k,M,hk,rfl,hb⟩:=hrel
  obtain ⟨wo,rfl⟩:∃ wo:World,wo=wr:=⟨_,rfl⟩
  replace T:=aI hb
  clear hb
  have HLP:=aI (show (Sx.lineP (Sx.bs ws) (l.take k)).length≤1000+101*k by
   have h1:=Sx.lineP_le (Sx.bs ws) (l:=l.take k) fun a ha=>HO.out a (List.mem_of_mem_take ha)
   have h2:=HW.out
   rw [List.length_take] at h1
   have:min k l.length≤k:=Nat.min_le_left _ _
   omega)
  by_cases hlt:k < n
  ·have hkp:k < l.length:=by rw [HN.out];exact hlt
   have k0:(0:Int)≤(k:Int):=Int.natCast_nonneg _
   have k1:(k:Int) < (n:Int):=by omega
   obtain ⟨b,o,v,rfl,_,c0,hr⟩:=av_at (T.out.fact (.head _)) k hkp
   have HS:=aI (show Sx.lineP (Sx.bs ws) (l.take k)++[32]++(l[k]).t=Sx.lineP (Sx.bs ws) (l.take (k+1)) by rw [take_snoc' l k hkp];exact Sx.lineP_snoc _ _ _)
   have ha:=HO.out _ (List.getElem_mem hkp)
   generalize l[k]=a at hr ha HS
   obtain ⟨acc,hacc⟩:∃ s,Sx.lineP (Sx.bs ws) (l.take k)=s:=⟨_,rfl⟩
   rw [hacc] at HLP HS T
   have hal:acc.length≤1000+101*k:=HLP.out
   clear hacc HLP
   have CB:=aI (show Calls Tryz.prog 133 #[.pointer (some ⟨Nb,0,none⟩),.int .u8 32] _ _ from writeByte_any 32 T.out (by omega))
   cases a with
   | n z =>
    obtain ⟨hv,hz⟩:=hr
    injection hv with hv _
    subst hv
    have CD:=aI (fun W (hb:Below w.heap.size w W)=>itoa_any z W hz (HENV.out.below hb HENV.out.sz))
    have hil:=Dc.itoa_len z ha
    obtain ⟨d,hd⟩:∃ d:ByteArray,(⟨(Lib.itoa z).toArray⟩:ByteArray)=d:=⟨_,rfl⟩
    rw [hd] at CD
    have hds:d.size≤11:=by rw [← hd];exact hil
    have HD:=aI (show d.data.toList=(Sx.Av.n z).t by rw [← hd];rfl)
    have tn:=ta_nn z
    clear ha hz hil hd
    go_wp2_with (first | (go_at_call 133;((with_reducible refine (CB.out).mono ?_));rintro e w8 ⟨rfl,M8,hT8,_⟩;replace T:=aI hT8;clear hT8 c0) | (go_at_call 134;((with_reducible refine (CD.out _ T.out.bl).mono ?_));rintro e w7 ⟨rfl,hb7⟩;replace T:=aI (T.out.below hb7);clear hb7) | (go_at_call 103;((with_reducible refine (writeString_any d T.out (by rw [aK,List.length_singleton];omega)).mono ?_));rintro e w9 ⟨rfl,M9,hT9,_⟩;replace T:=aI hT9;clear hT9))
    rw [HD.out,HS.out] at T
    go_roundg (gk - 1)
    case measure=>omega
    case rel=>exact ⟨k+1,_,by omega,by go_num,T.out⟩
   | s d =>
    obtain ⟨hv,hz⟩:=hr
    injection hv with hv _
    subst hv
    have hds:d.size≤100:=ha
    have HD:=aI (show d.data.toList=(Sx.Av.s d).t from rfl)
    have tn:=ta_sn d
    have ts:=ta_ss d
    clear ha hz
    go_wp2_with (first | (go_at_call 133;((with_reducible refine (CB.out).mono ?_));rintro e w8 ⟨rfl,M8,hT8,_⟩;replace T:=aI hT8;clear hT8 c0) | (go_at_call 103;((with_reducible refine (writeString_any d T.out (by rw [aK,List.length_singleton];omega)).mono ?_));rintro e w9 ⟨rfl,M9,hT9,_⟩;replace T:=aI hT9;clear hT9))
    rw [HD.out,HS.out] at T
    go_roundg (gk - 1)
    case measure=>omega
    case rel=>exact ⟨k+1,_,by omega,by go_num,T.out⟩
  ·have k1:¬ (k:Int) < (n:Int):=by omega
   rw [List.take_of_length_le (by rw [HN.out];omega)] at T
   rw [List.take_of_length_le (by rw [HN.out];omega)] at HLP
   have hsz:(Sx.lineP (Sx.bs ws) l).length≤1000+101*k:=HLP.out
   have CS:=aI (bldString_any T.out)
   obtain ⟨d,hd⟩:∃ d:ByteArray,(⟨(Sx.lineP (Sx.bs ws) l).toArray⟩:ByteArray)=d:=⟨_,rfl⟩
   rw [hd] at CS
   have hds:d.size+(⟨#[10]⟩:ByteArray).size≤9223372036854775807:=by
    rw [← hd];show (Sx.lineP (Sx.bs ws) l).toArray.size+1≤_
    rw [List.size_toArray];omega
   have HD:=aI hd
   clear hd hsz
   go_wp2_with (go_at_call 107;((with_reducible refine (CS.out).mono ?_));rintro e w8 ⟨rfl,hb8⟩;have HB:=aI (T.out.bl.trans hb8);clear hb8)
   go_ret
   exact ⟨by rw [← HD.out,str_eq (a:=_++_) rfl];simp,HB.out⟩
namespace Vm
theorem tw_is (p:UInt8→Bool) (l:List UInt8):∀ (n a e:Nat),e - a=n→a≤e→e≤l.length→(∀ j (hj:j < l.length),a≤j→j < e→p l[j]=true)→(e=l.length∨∃ h:e < l.length,p l[e]=false)→((l.drop a).takeWhile p).length=e - a
 | 0,a,e,hn,hae,he,_,hs=>by
  obtain rfl:a=e:=by omega
  rcases hs with rfl | ⟨h,hp⟩
  ·simp
  ·rw [List.drop_eq_getElem_cons h,List.takeWhile_cons,hp];simp
 | n+1,a,e,hn,hae,he,hall,hs=>by
  have ha:a < l.length:=by omega
  rw [List.drop_eq_getElem_cons ha,List.takeWhile_cons,hall a ha (Nat.le_refl _) (by omega),if_pos rfl,List.length_cons,tw_is p l n (a+1) e (by omega) (by omega) he (fun j hj h1 h2=>hall j hj (by omega) h2) hs]
  omega
theorem skipN_is {l:List UInt8} {a e:Nat} (hae:a≤e) (he:e≤l.length) (h:∀ j (hj:j < l.length),a≤j→j < e→isBlank l[j]=true) (hs:e=l.length∨∃ h:e < l.length,isBlank l[e]=false):skipN l a=e:=by
 unfold skipN;rw [tw_is isBlank l _ a e rfl hae he h hs];omega
theorem wordAt_is {l:List UInt8} {a e:Nat} (hae:a≤e) (he:e≤l.length) (h:∀ j (hj:j < l.length),a≤j→j < e→isTok l[j]=true) (hs:e=l.length∨∃ h:e < l.length,isTok l[e]=false):wordAt l a=(l.drop a).take (e - a):=by
 have h1:=tw_is isTok l _ a e rfl hae he h hs
 unfold wordAt
 rw [← take_takeWhile,h1]
theorem str_get (s:ByteArray) (k:Nat) (_h:k < s.size) (h':k < s.data.toList.length):s.data.toList[k]=s[k]:=by rw [Array.getElem_toList];rfl
theorem strLn (s:ByteArray):s.data.toList.length=s.size:=by simp
theorem blank_cases (c:UInt8):(isBlank c=true∧((c.toNat:Int) == 32)=true)∨(isBlank c=true∧((c.toNat:Int) == 32)=false∧((c.toNat:Int) == 10)=true)∨(isBlank c=false∧((c.toNat:Int) == 32)=false∧((c.toNat:Int) == 10)=false):=by
 have key:∀ n:UInt8,((c.toNat:Int) == (n.toNat:Int))=(c == n):=by
  intro n
  rw [Bool.eq_iff_iff,beq_iff_eq,beq_iff_eq]
  exact ⟨fun h=>UInt8.toNat_inj.1 (by omega),fun h=>by rw [h]⟩
 have k1:=key 32
 have k2:=key 10
 rw [show ((32:UInt8).toNat:Int)=32 from rfl] at k1
 rw [show ((10:UInt8).toNat:Int)=10 from rfl] at k2
 unfold isBlank
 rw [k1,k2]
 cases c == 32 <;> cases c == 10 <;> simp
end Vm
theorem w_drew (w:World) (n:Nat):Below w.heap.size w (w.drewN n):=⟨rfl,rfl,rfl,Nat.le_refl _,fun _ _=>rfl⟩
theorem parse_digs:∀ (l:List UInt8) (a:Nat),l.all Dc.isDig=true→(a+1)*10 ^ l.length≤1000000000000000000→Lib.parseUint10 a l=.ok (l.foldl (fun a c=>10*a+(c.toNat - 48)) a)
 | [],a,_,_=>rfl
 | c::l,a,h,hb=>by
  rw [List.all_cons,Bool.and_eq_true] at h
  have hc:=h.1
  simp only [Dc.isDig,Bool.and_eq_true,decide_eq_true_eq] at hc
  rw [List.length_cons,Nat.pow_succ] at hb
  have hp:1≤10 ^ l.length:=Nat.pow_pos (by omega)
  have hb2:(a+1)*10*10 ^ l.length≤1000000000000000000:=by rw [Nat.mul_assoc,Nat.mul_comm 10];exact hb
  have ha:(a+1)*10≤1000000000000000000:=Nat.le_trans (Nat.le_mul_of_pos_right _ hp) hb2
  unfold Lib.parseUint10
  rw [if_pos ⟨hc.1,hc.2⟩,if_neg (by omega),if_neg (by omega),List.foldl_cons,Nat.mul_comm a 10]
  refine parse_digs l _ h.2 (Nat.le_trans (Nat.mul_le_mul_right _ ?_) hb2)
  omega
theorem trim_is (w:List UInt8):Lib.trimPrefix w [45]=Vm.digs w:=by
 unfold Lib.trimPrefix Lib.hasPrefix Vm.digs Vm.neg
 cases w with
 | nil=>rfl
 | cons c r =>
  simp only [List.isPrefixOf,Bool.and_true,List.head?_cons]
  have e:((45:UInt8) == c)=(some c == some (45:UInt8)):=by rw [Bool.eq_iff_iff];simp;exact eq_comm
  rw [e]
  by_cases hc:(some c == some (45:UInt8))=true <;> simp [hc]
theorem below_atoi {w w':World} {e:TypeId} (h:w'=w∨∃ t,w'=Lib.bytesWorld w e t):Below w.heap.size w w':=by
 rcases h with rfl | ⟨t,rfl⟩
 ·exact Below.refl _ _
 ·exact Lib.below_freeze (((Below.refl _ _).drew).alloc (Nat.le_refl _) _) (p:=⟨w.heap.size,_,none⟩) (Nat.le_refl _) _
theorem strEq_true (s:ByteArray):(s.toList == s.toList)=true:=by simp
theorem strEq_false {s t:ByteArray} (h:s≠t):(s.toList == t.toList)=false:=by
 rw [beq_eq_false_iff_ne];intro e;apply h
 rw [ByteArray.toList_eq,ByteArray.toList_eq] at e
 obtain ⟨⟨a⟩⟩:=s;obtain ⟨⟨b⟩⟩:=t;simpa using e
end Go.Proofs.YtmplaikgbeeikaaGreatDoor
