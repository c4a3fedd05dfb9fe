/- Parts of the proof, joined: SxW1, SxW2, SxW3, SxW4, SxW5, SxW6, SxW7, SxW8, W28, W29, SxW9, SxV1. -/
import Derived.Test.YtmplaikgbeeikaaGreatDoorK1
import Derived.Test.YtmplaikgbeeikaaGreatDoorK2
import Derived.Laws.IdiomStrings
import Derived.Deep.LoopGhost
import Derived.Deep.CutBlock
import Derived.WalkLawsBesides
import Derived.Lib.QuietBelow
set_option linter.unusedVariables false
set_option linter.unusedSimpArgs false
set_option linter.unusedSectionVars false
namespace Go.Proofs.YtmplaikgbeeikaaGreatDoor
open Go Go.RowKit
theorem within_any (n a b:Int) (w:World):Calls Tryz.prog 52 #[.int .i64 n,.int .i64 a,.int .i64 b] w fun e w'=>e=.returned (.bool (Sx.within n a b))∧w=w':=by
 unfold Sx.within
 go_enter Tryz.func52,Tryz.ntmps52
 obtain ⟨b1,h1⟩:∃ c,decide (a≤n)=c:=⟨_,rfl⟩
 obtain ⟨b2,h2⟩:∃ c,decide (n≤b)=c:=⟨_,rfl⟩
 rw [h1,h2]
 cases b1 <;> cases b2 <;> (go_wp2;go_ret;exact ⟨rfl,rfl⟩)
theorem rWithin_any (n a b:Int) (w:World):Calls Tryz.prog 95 #[.int .i64 n,.int .i64 a,.int .i64 b] w fun e w'=>e=.returned (.bool (Sx.within n a b))∧w=w':=by
 unfold Sx.within
 go_enter Tryz.func95,Tryz.ntmps95
 obtain ⟨b1,h1⟩:∃ c,decide (a≤n)=c:=⟨_,rfl⟩
 obtain ⟨b2,h2⟩:∃ c,decide (n≤b)=c:=⟨_,rfl⟩
 rw [h1,h2]
 cases b1 <;> cases b2 <;> (go_wp2;go_ret;exact ⟨rfl,rfl⟩)
theorem span_any (lo hi a b:Int) (w:World):Calls Tryz.prog 111 #[.int .i64 lo,.int .i64 hi,.int .i64 a,.int .i64 b] w fun e w'=>e=.returned (.bool (Sx.span lo hi a b))∧w=w':=by
 unfold Sx.span
 go_enter Tryz.func111,Tryz.ntmps111
 obtain ⟨b1,h1⟩:∃ c,decide (a≤lo)=c:=⟨_,rfl⟩
 obtain ⟨b2,h2⟩:∃ c,decide (lo≤hi)=c:=⟨_,rfl⟩
 obtain ⟨b3,h3⟩:∃ c,decide (hi≤b)=c:=⟨_,rfl⟩
 rw [h1,h2,h3]
 cases b1 <;> cases b2 <;> cases b3 <;> (go_wp2;go_ret;exact ⟨rfl,rfl⟩)
theorem rSpan_any (lo hi a b:Int) (w:World):Calls Tryz.prog 129 #[.int .i64 lo,.int .i64 hi,.int .i64 a,.int .i64 b] w fun e w'=>e=.returned (.bool (Sx.span lo hi a b))∧w=w':=by
 unfold Sx.span
 go_enter Tryz.func129,Tryz.ntmps129
 obtain ⟨b1,h1⟩:∃ c,decide (a≤lo)=c:=⟨_,rfl⟩
 obtain ⟨b2,h2⟩:∃ c,decide (lo≤hi)=c:=⟨_,rfl⟩
 obtain ⟨b3,h3⟩:∃ c,decide (hi≤b)=c:=⟨_,rfl⟩
 rw [h1,h2,h3]
 cases b1 <;> cases b2 <;> cases b3 <;> (go_wp2;go_ret;exact ⟨rfl,rfl⟩)
theorem le_cast (a b:Nat):decide ((a:Int)≤(b:Int))=decide (a≤b):=by simp
theorem letter_any (c:UInt8) (w:World):Calls Tryz.prog 137 #[.int .u8 c.toNat] w fun e w'=>e=.returned (.bool (Sx.letterB c))∧w=w':=by
 unfold Sx.letterB
 go_enter Tryz.func137,Tryz.ntmps137
 obtain ⟨b1,h1⟩:∃ x,decide (97≤c.toNat)=x:=⟨_,rfl⟩
 obtain ⟨b2,h2⟩:∃ x,decide (c.toNat≤122)=x:=⟨_,rfl⟩
 rw [h1,h2]
 have h1':decide ((97:Int)≤(c.toNat:Int))=b1:=by rw [← h1];exact le_cast 97 _
 have h2':decide ((c.toNat:Int)≤(122:Int))=b2:=by rw [← h2];exact le_cast _ 122
 clear h1 h2
 cases b1 <;> cases b2 <;> (go_wp2;go_ret;exact ⟨rfl,rfl⟩)
theorem rLetter_any (c:UInt8) (w:World):Calls Tryz.prog 164 #[.int .u8 c.toNat] w fun e w'=>e=.returned (.bool (Sx.letterB c))∧w=w':=by
 unfold Sx.letterB
 go_enter Tryz.func164,Tryz.ntmps164
 obtain ⟨b1,h1⟩:∃ x,decide (97≤c.toNat)=x:=⟨_,rfl⟩
 obtain ⟨b2,h2⟩:∃ x,decide (c.toNat≤122)=x:=⟨_,rfl⟩
 rw [h1,h2]
 have h1':decide ((97:Int)≤(c.toNat:Int))=b1:=by rw [← h1];exact le_cast 97 _
 have h2':decide ((c.toNat:Int)≤(122:Int))=b2:=by rw [← h2];exact le_cast _ 122
 clear h1 h2
 cases b1 <;> cases b2 <;> (go_wp2;go_ret;exact ⟨rfl,rfl⟩)
theorem isDig_is (c:UInt8):Dc.isDig c=(decide (48≤c.toNat) && decide (c.toNat≤57)):=by unfold Dc.isDig;rfl
theorem digit_any (c:UInt8) (w:World):Calls Tryz.prog 140 #[.int .u8 c.toNat] w fun e w'=>e=.returned (.bool (Dc.isDig c))∧w=w':=by
 rw [isDig_is]
 go_enter Tryz.func140,Tryz.ntmps140
 obtain ⟨b1,h1⟩:∃ x,decide (48≤c.toNat)=x:=⟨_,rfl⟩
 obtain ⟨b2,h2⟩:∃ x,decide (c.toNat≤57)=x:=⟨_,rfl⟩
 rw [h1,h2]
 have h1':decide ((48:Int)≤(c.toNat:Int))=b1:=by rw [← h1];exact le_cast 48 _
 have h2':decide ((c.toNat:Int)≤(57:Int))=b2:=by rw [← h2];exact le_cast _ 57
 clear h1 h2
 cases b1 <;> cases b2 <;> (go_wp2;go_ret;exact ⟨rfl,rfl⟩)
theorem rDigit_any (c:UInt8) (w:World):Calls Tryz.prog 127 #[.int .u8 c.toNat] w fun e w'=>e=.returned (.bool (Dc.isDig c))∧w=w':=by
 rw [isDig_is]
 go_enter Tryz.func127,Tryz.ntmps127
 obtain ⟨b1,h1⟩:∃ x,decide (48≤c.toNat)=x:=⟨_,rfl⟩
 obtain ⟨b2,h2⟩:∃ x,decide (c.toNat≤57)=x:=⟨_,rfl⟩
 rw [h1,h2]
 have h1':decide ((48:Int)≤(c.toNat:Int))=b1:=by rw [← h1];exact le_cast 48 _
 have h2':decide ((c.toNat:Int)≤(57:Int))=b2:=by rw [← h2];exact le_cast _ 57
 clear h1 h2
 cases b1 <;> cases b2 <;> (go_wp2;go_ret;exact ⟨rfl,rfl⟩)
theorem name1_any (c:UInt8) (w:World):Calls Tryz.prog 139 #[.int .u8 c.toNat] w fun e w'=>e=.returned (.bool (!Sx.alnumB c))∧w=w':=by
 unfold Sx.alnumB
 have CL:=aI (letter_any c)
 have CD:=aI (digit_any c)
 generalize Sx.letterB c=b1 at *
 generalize Dc.isDig c=b2 at *
 generalize c.toNat=n at *
 go_enter Tryz.func139,Tryz.ntmps139
 cases b1 <;> cases b2 <;> (go_wp2_with (first | (go_at_call 137;((with_reducible refine (CL.out _).mono ?_));rintro e w2 ⟨rfl,rfl⟩) | (go_at_call 140;((with_reducible refine (CD.out _).mono ?_));rintro e w2 ⟨rfl,rfl⟩));go_ret;exact ⟨rfl,rfl⟩)
end Go.Proofs.YtmplaikgbeeikaaGreatDoor
namespace Go.Proofs.YtmplaikgbeeikaaGreatDoor
open Go Go.RowKit
def PredP (r:Bool) (W:World) (e:Ending) (W':World):Prop:=∃ i:Int,e=.returned (.int .i64 i)∧decide (0≤i)=r∧Below W.heap.size W W'
def BoolP (r:Bool) (W:World) (e:Ending) (W':World):Prop:=e=.returned (.bool r)∧Below W.heap.size W W'
theorem all_bad {α:Type} {b:α→Bool} {l:List α} {k:Nat} (hk:k < l.length) (h:b l[k]=false):l.all b=false:=by
 cases hb:l.all b with
 | false=>rfl
 | true=>rw [List.all_eq_true.1 hb _ (List.getElem_mem hk)] at h;cases h
theorem all_good {α:Type} {b:α→Bool} {l:List α} (h:∀ k (hk:k < l.length),b l[k]=true):l.all b=true :=
 List.all_eq_true.2 fun y hy=>by obtain ⟨k,hk,rfl⟩:=List.getElem_of_mem hy;exact h k hk
set_option maxRecDepth 100000 in
set_option maxHeartbeats 4000000 in
theorem idxB_any (l:List UInt8) (A:Option Addr) (c:Nat) (W:World) (hs:SlAt [] W A l) (hm:l.length≤9223372036854775807) :
  Calls Tryz.prog 168 #[.slice A l.length c,.func (.func 139) #[] #[]] W (PredP (!l.all Sx.alnumB) W):=by
 obtain ⟨n,hn⟩:∃ n,l.length=n:=⟨_,rfl⟩
 have HS:=aI hs
 have HN:=aI hn
 rw [hn]
 rw [hn] at hm
 have HV:=aI name1_any
 clear hs hn
 go_enter Tryz.func168,Tryz.ntmps168
 go_wp2_with fail
 go_loopg [8] n (fun r i wr=>∃ k:Nat,k+r=n∧i=.int .i64 k∧Below W.heap.size W wr∧∀ j (hj:j < l.length),j < k→Sx.alnumB l[j]=true)
 case atStart=>exact ⟨0,by omega,rfl,Below.refl _ _,fun _ _ h=>by omega⟩
 case round =>
  obtain ⟨k,hk,rfl,hb,hall⟩:=hrel
  obtain ⟨wo,rfl⟩:∃ wo:World,wo=wr:=⟨_,rfl⟩
  have HB:=aI hb
  have HA:=aI hall
  clear hb hall
  by_cases hlt:k < n
  ·have hkp:k < l.length:=by rw [HN.out];exact hlt
   have k0:(0:Int)≤(k:Int):=Int.natCast_nonneg _
   have k1:(k:Int) < (n:Int):=by omega
   obtain ⟨b,o,rfl,_,c0⟩:=byte_at (HS.out.keep (Chg.of_below HB.out)) k hkp
   have cv:=HV.out l[k]
   obtain ⟨bb,hbb⟩:∃ b,Sx.alnumB l[k]=b:=⟨_,rfl⟩
   rw [hbb] at cv
   have CV:=aI cv
   have HBB:=aI hbb
   generalize l[k].toNat=x0 at *
   clear cv hbb
   cases bb
   ·have HR:=aI (all_bad (b:=Sx.alnumB) hkp HBB.out)
    go_wp2_with (go_at_call 139;((with_reducible refine (CV.out _).mono ?_));rintro e w2 ⟨rfl,rfl⟩)
    go_ret
    exact ⟨_,rfl,by rw [HR.out];simp,HB.out⟩
   ·go_wp2_with (go_at_call 139;((with_reducible refine (CV.out _).mono ?_));rintro e w2 ⟨rfl,rfl⟩)
    go_roundg (gk - 1)
    case measure=>omega
    case rel =>
     refine ⟨k+1,by omega,by go_num,HB.out,fun q hq hlt=>?_⟩
     rcases Nat.lt_or_ge q k with h' | h'
     ·exact HA.out q hq h'
     ·obtain rfl:q=k:=by omega
      exact HBB.out
  ·have HR:=aI (all_good (b:=Sx.alnumB) fun q hq=>HA.out q hq (by rw [HN.out] at hq;omega))
   have k1:¬ (k:Int) < (n:Int):=by omega
   go_wp2_with fail
   go_ret
   exact ⟨_,rfl,by rw [HR.out];rfl,HB.out⟩
set_option maxHeartbeats 1000000 in
theorem conB_any (l:List UInt8) (A:Option Addr) (c:Nat) (W:World) (hs:SlAt [] W A l) (hm:l.length≤9223372036854775807) :
  Calls Tryz.prog 138 #[.slice A l.length c,.func (.func 139) #[] #[]] W (BoolP (!l.all Sx.alnumB) W):=by
 have CI:=aI (idxB_any l A c W hs hm)
 obtain ⟨n,hn⟩:∃ n,l.length=n:=⟨_,rfl⟩
 rw [hn] at CI ⊢
 clear hs hm hn
 generalize Value.func (.func 139) #[] #[]=F at *
 go_enter Tryz.func138,Tryz.ntmps138
 go_wp2_with (go_at_call 168;((with_reducible refine (CI.out).mono ?_));rintro e w2 ⟨r,rfl,hr,hb2⟩;have HB:=aI hb2;have HR:=aI hr;clear hb2 hr)
 go_ret
 exact ⟨by rw [← HR.out];rfl,HB.out⟩
theorem nm_is (s:ByteArray):Sx.nm s=((decide (1≤s.size) && decide (s.size≤12)) && (Sx.letterB (s.data.toList.headD 0) && s.data.toList.all Sx.alnumB)):=by
 unfold Sx.nm Sx.nameB
 rw [Vm.strLn]
 cases decide (1≤s.size) <;> cases decide (s.size≤12) <;> simp
theorem within_nat (n:Nat):Sx.within (n:Int) 1 12=(decide (1≤n) && decide (n≤12)):=by
 unfold Sx.within
 rw [show decide ((1:Int)≤(n:Int))=decide (1≤n) from le_cast 1 n,show decide ((n:Int)≤12)=decide (n≤12) from le_cast n 12]
set_option maxRecDepth 100000 in
set_option maxHeartbeats 4000000 in
theorem isName_any (s:ByteArray) (w:World) (hs:s.size≤9223372036854775807):Calls Tryz.prog 110 #[.string s] w (BoolP (Sx.nm s) w):=by
 rw [nm_is,← within_nat]
 have HW:=aI within_any
 have HL:=aI letter_any
 have HCon:=aI conB_any
 have HTS:=aI hs
 clear hs
 obtain ⟨bw,hbw⟩:∃ b,Sx.within (s.size:Int) 1 12=b:=⟨_,rfl⟩
 rw [hbw]
 have cw:=HW.out (s.size:Int) 1 12
 rw [hbw] at cw
 have CW:=aI cw
 clear cw
 cases bw
 ·clear hbw
  go_enter Tryz.func110,Tryz.ntmps110
  go_wp2_with (go_at_call 52;((with_reducible refine (CW.out _).mono ?_));rintro e w2 ⟨rfl,rfl⟩)
  go_ret
  exact ⟨rfl,Below.refl _ _⟩
 ·have h1:1≤s.size:=by
   rw [within_nat] at hbw
   have:=(Bool.and_eq_true_iff.1 hbw).1
   exact of_decide_eq_true this
  have hne:0 < s.data.toList.length:=by rw [Vm.strLn];exact h1
  have h0:s.data.toList.headD 0=(s[0]'h1):=by
   rw [← Vm.str_get s 0 h1 hne]
   rw [List.headD_eq_head?_getD,List.head?_eq_getElem?,List.getElem?_eq_getElem hne]
   rfl
  rw [h0]
  have cl:=HL.out (s[0]'h1)
  obtain ⟨bl,hbl⟩:∃ b,Sx.letterB (s[0]'h1)=b:=⟨_,rfl⟩
  rw [hbl] at cl ⊢
  have CL:=aI cl
  have h1':(0:Int) < (s.size:Int):=by omega
  clear cl hbl hbw h0 hne
  cases bl
  ·go_enter Tryz.func110,Tryz.ntmps110
   go_wp2_with (first | (go_at_call 52;((with_reducible refine (CW.out _).mono ?_));rintro e w2 ⟨rfl,rfl⟩) | (go_at_call 137;((with_reducible refine (CL.out _).mono ?_));rintro e w2 ⟨rfl,rfl⟩))
   go_ret
   exact ⟨rfl,Below.refl _ _⟩
  ·have hcv:=run_bytes_of_string (P:=Tryz.prog) w 9 73 5 s Tryz.underlying9 Tryz.underlying73 Tryz.underlying5
   obtain ⟨cap,hcap⟩:∃ c,grownCap w s.size 0 5=c:=⟨_,rfl⟩
   rw [hcap] at hcv
   obtain ⟨W4,hW4⟩:∃ X,(w.alloc (.cells (bytesRow s cap) 5 ((bytesRow s cap).size,(bytesRow s cap).size+1))).drew=X:=⟨_,rfl⟩
   have hB4:Below w.heap.size w W4:=by
    rw [← hW4]
    exact ((Below.refl w.heap.size w).alloc (Nat.le_refl _) _).trans ⟨rfl,rfl,rfl,Nat.le_refl _,fun _ _=>rfl⟩
   have hs4:SlAt [] W4 (some ⟨w.heap.size,0,none⟩) s.data.toList:=by
    refine SlAt.of_cells (flat_bytes _) (by rw [← hW4];show w.heap.size < (w.heap.push _).size;rw [Array.size_push];omega) (List.not_mem_nil) fun j u hu=>?_
    unfold byteVals at hu
    rw [List.getElem?_map] at hu
    obtain ⟨hj,hju⟩:∃ hj:j < s.data.size,u=.int .u8 (s.data[j].toNat:Int):=by
     rcases Nat.lt_or_ge j s.data.size with hj | hj
     ·refine ⟨hj,?_⟩
      rw [List.getElem?_eq_getElem (by simpa using hj)] at hu
      simpa using hu.symm
     ·rw [List.getElem?_eq_none (by simpa using hj)] at hu;cases hu
    rw [hju,← hW4]
    exact (cell_of_row _ w.heap.size j _ 5 _ (heap_alloc_new w _)).trans (bytesRow_at s cap j hj)
   have cc:=HCon.out s.data.toList (some ⟨w.heap.size,0,none⟩) cap W4 hs4 (by rw [Vm.strLn];exact HTS.out)
   rw [Vm.strLn] at cc
   obtain ⟨r,hr⟩:∃ r,s.data.toList.all Sx.alnumB=r:=⟨_,rfl⟩
   rw [hr] at cc ⊢
   clear hr
   have CC:=aI cc
   have HB4:=aI hB4
   have HW4:=aI hW4
   clear cc hs4 hB4 hW4 hcap
   go_enter Tryz.func110,Tryz.ntmps110
   go_wp2_with (first | (go_at_call 52;((with_reducible refine (CW.out _).mono ?_));rintro e w2 ⟨rfl,rfl⟩) | (go_at_call 137;((with_reducible refine (CL.out _).mono ?_));rintro e w2 ⟨rfl,rfl⟩) | (go_at_call 138;rw [HW4.out];((with_reducible refine (CC.out).mono ?_));rintro e w2 ⟨rfl,hb2⟩;have HB5:=aI (HB4.out.trans (hb2.mono HB4.out.size));clear hb2))
   go_ret
   exact ⟨by cases r <;> rfl,HB5.out⟩
def rtS:Value:=.func (.func 110) #[] #[]
def oneS (g:Nat):Value:=.func (.func 147) #[] #[.pointer (some ⟨g,0,none⟩)]
set_option maxRecDepth 100000 in
set_option maxHeartbeats 4000000 in
theorem oneS_any (x:ByteArray) (us:List Value) (g:Nat) (w:World) (hr:Mem.rep [] w x us) (hp:True) (hg:w.cell? ⟨g,0,none⟩=some rtS) :
  Calls Tryz.prog 147 #[us.headD .nilFunc,.pointer (some ⟨g,0,none⟩)] w (BoolP (!Sx.nm x) w):=by
 obtain ⟨rfl,hsz⟩:=hr
 have hr0:(True:Prop):=trivial
 show Calls Tryz.prog 147 #[.string x,.pointer (some ⟨g,0,none⟩)] w (BoolP (!Sx.nm x) w)
 have hB1:=Below.refl w.heap.size w
 have hg1:=hg
 have hr9:=hr0
 have HC:=aI (isName_any x w hsz)
 obtain ⟨r,hrr⟩:∃ r,Sx.nm x=r:=⟨_,rfl⟩
 rw [hrr] at HC ⊢
 have HB1:=aI hB1
 unfold rtS at hg1
 clear hrr hr0 hr9 hp hg hB1
 go_enter Tryz.func147,Tryz.ntmps147
 go_wp2_with (go_at_call 110;((with_reducible refine (HC.out).mono ?_));rintro e w2 ⟨rfl,hb2⟩;have HB:=aI (HB1.out.trans (hb2.mono HB1.out.size));clear hb2)
 go_ret
 exact ⟨by cases r <;> rfl,HB.out⟩
set_option maxRecDepth 100000 in
set_option maxHeartbeats 4000000 in
theorem idxS_any (l:List (ByteArray)) (A:Option Addr) (c g:Nat) (W:World) (hs:SlAt [] W A l) (hm:l.length≤9223372036854775807) (hp:∀ x∈l,True) (hg:W.cell? ⟨g,0,none⟩=some rtS) :
  Calls Tryz.prog 170 #[.slice A l.length c,oneS g] W (PredP (!l.all Sx.nm) W):=by
 obtain ⟨n,hn⟩:∃ n,l.length=n:=⟨_,rfl⟩
 have HS:=aI hs
 have HN:=aI hn
 have HP:=aI hp
 have HG:=aI hg
 rw [hn]
 rw [hn] at hm
 have HV:=aI oneS_any
 unfold oneS
 clear hs hn hp hg
 go_enter Tryz.func170,Tryz.ntmps170
 go_wp2_with fail
 go_loopg [8] n (fun r i wr=>∃ k:Nat,k+r=n∧i=.int .i64 k∧Below W.heap.size W wr∧∀ j (hj:j < l.length),j < k→Sx.nm l[j]=true)
 case atStart=>exact ⟨0,by omega,rfl,Below.refl _ _,fun _ _ h=>by omega⟩
 case round =>
  obtain ⟨k,hk,rfl,hb,hall⟩:=hrel
  obtain ⟨wo,rfl⟩:∃ wo:World,wo=wr:=⟨_,rfl⟩
  have HB:=aI hb
  have HA:=aI hall
  clear hb hall
  by_cases hlt:k < n
  ·have hkp:k < l.length:=by rw [HN.out];exact hlt
   have k0:(0:Int)≤(k:Int):=Int.natCast_nonneg _
   have k1:(k:Int) < (n:Int):=by omega
   obtain ⟨b,o,us,rfl,_,hr,hc⟩:=(HS.out.keep (Chg.of_below HB.out)).get k hkp
   have cv:=HV.out l[k] us g wo hr (HP.out _ (List.getElem_mem hkp)) ((HB.out.cell (World.block_lt_of_cell? _ _ HG.out)).trans HG.out)
   obtain ⟨x,hx⟩:∃ x,l[k]=x:=⟨_,rfl⟩
   rw [hx] at cv hr
   obtain ⟨rfl,hsz⟩:=hr
   have hr0:(True:Prop):=trivial
   change Calls Tryz.prog 147 #[.string x,.pointer (some ⟨g,0,none⟩)] wo _ at cv
   have c0:wo.cell? ⟨b,o+k,none⟩=some (.string x):=by have:=hc 0 _ rfl;rw [show k*Mem.sz (ByteArray)+0=k from Nat.mul_one k] at this;exact this
   obtain ⟨bb,hbb⟩:∃ b,Sx.nm x=b:=⟨_,rfl⟩
   rw [hbb] at cv
   have CV:=aI cv
   have HX:=aI hx
   have HBB:=aI hbb
   clear cv hbb hr0 hc hx
   cases bb
   ·have HR:=aI (all_bad (b:=Sx.nm) hkp (by rw [HX.out];exact HBB.out))
    go_wp2_with (go_at_call 147;((with_reducible refine (CV.out).mono ?_));rintro e w2 ⟨rfl,hb2⟩;replace HB:=aI (HB.out.trans (hb2.mono HB.out.size));clear hb2)
    go_ret
    exact ⟨_,rfl,by rw [HR.out];simp,HB.out⟩
   ·go_wp2_with (go_at_call 147;((with_reducible refine (CV.out).mono ?_));rintro e w2 ⟨rfl,hb2⟩;replace HB:=aI (HB.out.trans (hb2.mono HB.out.size));clear hb2)
    go_roundg (gk - 1)
    case measure=>omega
    case rel =>
     refine ⟨k+1,by omega,by go_num,HB.out,fun q hq hlt=>?_⟩
     rcases Nat.lt_or_ge q k with h' | h'
     ·exact HA.out q hq h'
     ·obtain rfl:q=k:=by omega
      rw [HX.out];exact HBB.out
  ·have HR:=aI (all_good (b:=Sx.nm) fun q hq=>HA.out q hq (by rw [HN.out] at hq;omega))
   have k1:¬ (k:Int) < (n:Int):=by omega
   go_wp2_with fail
   go_ret
   exact ⟨_,rfl,by rw [HR.out];rfl,HB.out⟩
set_option maxHeartbeats 1000000 in
theorem conS_any (l:List (ByteArray)) (A:Option Addr) (c g:Nat) (W:World) (hs:SlAt [] W A l) (hm:l.length≤9223372036854775807) (hp:∀ x∈l,True) (hg:W.cell? ⟨g,0,none⟩=some rtS) :
  Calls Tryz.prog 146 #[.slice A l.length c,oneS g] W (BoolP (!l.all Sx.nm) W):=by
 have CI:=aI (idxS_any l A c g W hs hm hp hg)
 obtain ⟨n,hn⟩:∃ n,l.length=n:=⟨_,rfl⟩
 rw [hn] at CI ⊢
 clear hs hm hn hp hg
 generalize oneS g=F at *
 go_enter Tryz.func146,Tryz.ntmps146
 go_wp2_with (go_at_call 170;((with_reducible refine (CI.out).mono ?_));rintro e w2 ⟨r,rfl,hr,hb2⟩;have HB:=aI hb2;have HR:=aI hr;clear hb2 hr)
 go_ret
 exact ⟨by rw [← HR.out];rfl,HB.out⟩
set_option maxHeartbeats 1000000 in
theorem allS_any (l:List (ByteArray)) (A:Option Addr) (c:Nat) (w:World) (hs:SlAt [] w A l) (hm:l.length≤9223372036854775807) (hp:∀ x∈l,True) :
  Calls Tryz.prog 116 #[.slice A l.length c,rtS] w (BoolP (l.all Sx.nm) w):=by
 have hB1:Below w.heap.size w (w.alloc (.cells #[rtS] 83)):=(Below.refl w.heap.size w).alloc (Nat.le_refl _) _
 have CC:=aI (conS_any l A c w.heap.size (w.alloc (.cells #[rtS] 83)) (hs.keep (Chg.of_below hB1)) hm hp (cell_box1 w _ _))
 obtain ⟨n,hn⟩:∃ n,l.length=n:=⟨_,rfl⟩
 rw [hn] at CC ⊢
 generalize l.all Sx.nm=r at *
 unfold rtS at CC hB1 ⊢
 unfold oneS at CC
 have HB1:=aI hB1
 clear hs hm hn hp hB1
 go_enter Tryz.func116,Tryz.ntmps116
 go_wp2_with (go_at_call 146;((with_reducible refine (CC.out).mono ?_));rintro e w2 ⟨rfl,hb2⟩;have HB:=aI (HB1.out.trans (hb2.mono HB1.out.size));clear hb2)
 go_ret
 exact ⟨by cases r <;> rfl,HB.out⟩
theorem sum_take (l:List Int) (k:Nat) (h:k < l.length):(l.take (k+1)).sum=(l.take k).sum+l[k]:=by
 rw [List.take_succ_eq_append_getElem h,List.sum_append];simp
theorem within_bd {n a b:Int} (h:Sx.within n a b=true):a≤n∧n≤b:=by
 unfold Sx.within at h
 have:=Bool.and_eq_true_iff.1 h
 exact ⟨of_decide_eq_true this.1,of_decide_eq_true this.2⟩
set_option maxRecDepth 100000 in
set_option maxHeartbeats 4000000 in
theorem isPick_any (ws:List ByteArray) (ns:List Int) (A B:Option Addr) (c d:Nat) (w:World) (hw:SlAt [] w A ws) (hn:SlAt [] w B ns) (hmw:ws.length≤9223372036854775807) (hmn:ns.length≤1000000) :
  Calls Tryz.prog 144 #[.slice A ws.length c,.slice B ns.length d] w (BoolP (Sx.pickB ws ns) w):=by
 have HW:=aI within_any
 obtain ⟨nw,hnw⟩:∃ n,ws.length=n:=⟨_,rfl⟩
 obtain ⟨nn,hnn⟩:∃ n,ns.length=n:=⟨_,rfl⟩
 have HNN:=aI hnn
 have HNW:=aI hnw
 have HS:=aI hn
 have CA:=aI (fun w' (hb:Below w.heap.size w w')=>allS_any ws A c w' (hw.keep (Chg.of_below hb)) hmw (fun _ _=>trivial))
 rw [hnw] at CA
 rw [hnw,hnn]
 rw [hnn] at hmn
 unfold rtS at CA
 clear hw hn hnn hnw hmw
 go_enter Tryz.func144,Tryz.ntmps144
 go_wp2_with fail
 go_loopg [5,10] nn (fun r s i wr=>∃ k:Nat,k+r=nn∧i=.int .i64 k∧s=.int .i64 ((ns.take k).sum)∧0≤(ns.take k).sum∧(ns.take k).sum≤1048576*k∧Below w.heap.size w wr∧∀ j (hj:j < ns.length),j < k→Sx.within ns[j] 0 Sx.most=true)
 case atStart=>exact ⟨0,by omega,rfl,rfl,by simp,by simp,Below.refl _ _,fun _ _ h=>by omega⟩
 case round =>
  obtain ⟨k,hk,rfl,rfl,hs0,hs1,hb,hall⟩:=hrel
  obtain ⟨wo,rfl⟩:∃ wo:World,wo=wr:=⟨_,rfl⟩
  have HB:=aI hb
  have HA:=aI hall
  clear hb hall
  obtain ⟨sm,hsm⟩:∃ s,(ns.take k).sum=s:=⟨_,rfl⟩
  rw [hsm] at hs0 hs1 ⊢
  by_cases hlt:k < nn
  ·have hkp:k < ns.length:=by rw [HNN.out];exact hlt
   have k0:(0:Int)≤(k:Int):=Int.natCast_nonneg _
   have k1:(k:Int) < (nn:Int):=by omega
   obtain ⟨b,o,rfl,_,c0,hin⟩:=int_at (HS.out.keep (Chg.of_below HB.out)) k hkp
   have HSM:=aI (sum_take ns k hkp)
   have cv:=HW.out ns[k] 0 1048576
   obtain ⟨bb,hbb⟩:∃ b,Sx.within ns[k] 0 1048576=b:=⟨_,rfl⟩
   rw [hbb] at cv
   have CV:=aI cv
   have HBB:=aI hbb
   have HSE:=aI hsm
   obtain ⟨x,hx⟩:∃ x,ns[k]=x:=⟨_,rfl⟩
   rw [hx] at c0 CV HSM hin
   have HX:=aI hx
   clear cv hbb hsm hx
   cases bb
   ·have HR:=aI (show ns.all (fun n=>Sx.within n 0 Sx.most)=false from all_bad hkp HBB.out)
    go_wp2_with (go_at_call 52;((with_reducible refine (CV.out _).mono ?_));rintro e w2 ⟨rfl,rfl⟩)
    go_ret
    exact ⟨by unfold Sx.pickB;rw [HR.out];rfl,HB.out⟩
   ·have hbd:=within_bd HBB.out
    rw [HX.out] at hbd
    go_wp2_with (go_at_call 52;((with_reducible refine (CV.out _).mono ?_));rintro e w2 ⟨rfl,rfl⟩)
    go_roundg (gk - 1)
    case measure=>omega
    case rel =>
     refine ⟨k+1,by omega,by go_num,?_,?_,?_,HB.out,fun q hq hlt=>?_⟩
     ·rw [HSM.out,HSE.out]
     ·rw [HSM.out,HSE.out];omega
     ·rw [HSM.out,HSE.out];omega
     ·rcases Nat.lt_or_ge q k with h' | h'
      ·exact HA.out q hq h'
      ·obtain rfl:q=k:=by omega
       exact HBB.out
  ·have k1:¬ (k:Int) < (nn:Int):=by omega
   have hR:=all_good (b:=fun n=>Sx.within n 0 Sx.most) (l:=ns) fun q hq=>HA.out q hq (by rw [HNN.out] at hq;omega)
   have hsum:ns.sum=sm:=by rw [← hsm,List.take_of_length_le (by rw [HNN.out];omega)]
   have hp:Sx.pickB ws ns=(Sx.within (nw:Int) 1 12 && (decide (nw=nn) && (decide (0 < sm) && ws.all Sx.nm))):=by
    unfold Sx.pickB
    rw [hR,hsum,HNN.out,HNW.out];rfl
   have cw:=HW.out (nw:Int) 1 12
   have ca:=CA.out wo HB.out
   obtain ⟨b1,h1⟩:∃ b,Sx.within (nw:Int) 1 12=b:=⟨_,rfl⟩
   obtain ⟨b2,h2⟩:∃ b,decide (nw=nn)=b:=⟨_,rfl⟩
   obtain ⟨b3,h3⟩:∃ b,decide (0 < sm)=b:=⟨_,rfl⟩
   obtain ⟨b4,h4⟩:∃ b,ws.all Sx.nm=b:=⟨_,rfl⟩
   rw [h1] at cw
   rw [h4] at ca
   rw [h1,h2,h3,h4] at hp
   have HPK:=aI hp
   have h2':((nw:Int) == (nn:Int))=b2:=by
    by_cases h:nw=nn
    ·rw [← h2,h];simp
    ·rw [← h2,decide_eq_false h];exact beq_eq_false_iff_ne.2 (by omega)
   have CW:=aI cw
   have CS:=aI ca
   clear cw ca hp hsum hR hsm h1 h4 hs0 hs1
   cases b1 <;> cases b2 <;> cases b3 <;> (go_wp2_with (first | (go_at_call 52;((with_reducible refine (CW.out _).mono ?_));rintro e w2 ⟨rfl,rfl⟩) | (go_at_call 116;((with_reducible refine (CS.out).mono ?_));rintro e w2 ⟨rfl,hb2⟩;replace HB:=aI (HB.out.trans (hb2.mono HB.out.size));clear hb2));go_ret;exact ⟨by rw [HPK.out];cases b4 <;> rfl,HB.out⟩)
theorem str_cells {w:World} {A:Option Addr} {l:List ByteArray} (h:SlAt [] w A l) (hl:0 < l.length):∃ b o,A=some ⟨b,o,none⟩∧∀ j,j < l.length→w.cell? ⟨b,o+j,none⟩=some (.string (l.getD j ByteArray.empty)):=by
 obtain ⟨b,o,hA,_,_,_⟩:=str_at h 0 hl
 refine ⟨b,o,hA,fun j hj=>?_⟩
 obtain ⟨b',o',hA',_,hc,_⟩:=str_at h j hj
 obtain ⟨rfl,rfl⟩:=addr_inj (hA.symm.trans hA')
 rw [hc,getD_in hj]
theorem int_cells {w:World} {A:Option Addr} {l:List Int} (h:SlAt [] w A l) (hl:0 < l.length):∃ b o,A=some ⟨b,o,none⟩∧∀ j,j < l.length→w.cell? ⟨b,o+j,none⟩=some (.int .i64 (l.getD j 0)):=by
 obtain ⟨b,o,hA,_,_,_⟩:=int_at h 0 hl
 refine ⟨b,o,hA,fun j hj=>?_⟩
 obtain ⟨b',o',hA',_,hc,_⟩:=int_at h j hj
 obtain ⟨rfl,rfl⟩:=addr_inj (hA.symm.trans hA')
 rw [hc,getD_in hj]
theorem eqS_any (xs ys:List ByteArray) (A B:Option Addr) (c d:Nat) (w:World) (ha:SlAt [] w A xs) (hb:SlAt [] w B ys) (hx:xs.length≤9223372036854775807) (hy:ys.length≤9223372036854775807) :
  Calls Tryz.prog 65 #[.slice A xs.length c,.slice B ys.length d] w (BoolP (decide (xs=ys)) w):=by
 by_cases hl:xs.length=ys.length
 ·by_cases h0:xs.length=0
  ·have e1:xs=[]:=List.length_eq_zero_iff.1 h0
   have e2:ys=[]:=List.length_eq_zero_iff.1 (by omega)
   subst e1 e2
   exact (Tryz.slices_Equal_string_empty A B c 0 d w (Nat.zero_le _)).mono fun e w' ⟨h1,h2⟩=>⟨by rw [h1];rfl,by rw [h2];exact Below.refl _ _⟩
  ·obtain ⟨b1,o1,rfl,c1⟩:=str_cells ha (by omega)
   obtain ⟨b2,o2,rfl,c2⟩:=str_cells hb (by omega)
   refine (Tryz.slices_Equal_string b1 o1 xs.length c b2 o2 ys.length d xs ys w (Nat.le_refl _) (Nat.le_refl _) hx hy c1 c2).mono fun e w' ⟨h1,q,h2⟩=>⟨?_,by rw [h2];exact w_drew w q⟩
   rw [h1,List.take_length,List.take_length]
 ·exact (Tryz.slices_Equal_string_lens A B xs.length c ys.length d w hl).mono fun e w' ⟨h1,h2⟩=>⟨by rw [h1,decide_eq_false (fun h=>hl (by rw [h]))],by rw [h2];exact Below.refl _ _⟩
theorem eqI_any (xs ys:List Int) (A B:Option Addr) (c d:Nat) (w:World) (ha:SlAt [] w A xs) (hb:SlAt [] w B ys) (hx:xs.length≤9223372036854775807) (hy:ys.length≤9223372036854775807) :
  Calls Tryz.prog 121 #[.slice A xs.length c,.slice B ys.length d] w (BoolP (decide (xs=ys)) w):=by
 by_cases hl:xs.length=ys.length
 ·by_cases h0:xs.length=0
  ·have e1:xs=[]:=List.length_eq_zero_iff.1 h0
   have e2:ys=[]:=List.length_eq_zero_iff.1 (by omega)
   subst e1 e2
   exact (Tryz.slices_Equal_int_empty A B c 0 d w (Nat.zero_le _)).mono fun e w' ⟨h1,h2⟩=>⟨by rw [h1];rfl,by rw [h2];exact Below.refl _ _⟩
  ·obtain ⟨b1,o1,rfl,c1⟩:=int_cells ha (by omega)
   obtain ⟨b2,o2,rfl,c2⟩:=int_cells hb (by omega)
   refine (Tryz.slices_Equal_int b1 o1 xs.length c b2 o2 ys.length d xs ys w (Nat.le_refl _) (Nat.le_refl _) hx hy c1 c2).mono fun e w' ⟨h1,q,h2⟩=>⟨?_,by rw [h2];exact w_drew w q⟩
   rw [h1,List.take_length,List.take_length]
   by_cases h:xs=ys
   ·rw [decide_eq_true h,h];simp
   ·rw [decide_eq_false h,beq_eq_false_iff_ne.2 h]
 ·exact (Tryz.slices_Equal_int_lens A B xs.length c ys.length d w hl).mono fun e w' ⟨h1,h2⟩=>⟨by rw [h1,decide_eq_false (fun h=>hl (by rw [h]))],by rw [h2];exact Below.refl _ _⟩
def Sx.sameF (a b:Fld):Bool:=decide (Sc.nm a=Sc.nm b) && (decide (Sc.of_ a=Sc.of_ b) && (decide (Sc.up a=Sc.up b) && (decide (Sc.kd a=Sc.kd b) && (decide (Sc.lo a=Sc.lo b) && (decide (Sc.hi a=Sc.hi b) && (decide (Sc.words a=Sc.words b) && (decide (Sc.wts a=Sc.wts b))))))))
theorem strEqB (s t:ByteArray):(s.toList == t.toList)=decide (s=t):=by
 by_cases h:s=t
 ·rw [decide_eq_true h,h];exact strEq_true t
 ·rw [decide_eq_false h];exact strEq_false h
theorem intEqB (a b:Int):(a == b)=decide (a=b):=by by_cases h:a=b <;> simp [h]
set_option maxRecDepth 100000 in
set_option maxHeartbeats 8000000 in
theorem sameField_any (a b:Fld) (us vs:List Value) (w:World) (ha:Mem.rep [] w a us) (hb:Mem.rep [] w b vs) :
  Calls Tryz.prog 62 #[.agg us.toArray,.agg vs.toArray] w (BoolP (Sx.sameF a b) w):=by
 obtain ⟨A,c,B,d,rfl,s1,s2,a4,a5,a6,a1,a2,a3,b1,b2,e1,e2⟩:=rep_fld ha
 obtain ⟨A',c',B',d',rfl,s1',s2',a4',a5',a6',a1',a2',a3',b1',b2',e1',e2'⟩:=rep_fld hb
 obtain ⟨W1,hW1⟩:∃ X,(w.alloc (.cells #[.string (Sc.nm a),.string (Sc.of_ a),.string (Sc.up a),.int .i64 (Sc.kd a),.int .i64 (Sc.lo a),.int .i64 (Sc.hi a),.slice A (Sc.words a).length c,.slice B (Sc.wts a).length d] 52))=X:=⟨_,rfl⟩
 obtain ⟨W2,hW2⟩:∃ X,(W1.alloc (.cells #[.string (Sc.nm b),.string (Sc.of_ b),.string (Sc.up b),.int .i64 (Sc.kd b),.int .i64 (Sc.lo b),.int .i64 (Sc.hi b),.slice A' (Sc.words b).length c',.slice B' (Sc.wts b).length d'] 52))=X:=⟨_,rfl⟩
 have hB1:Below w.heap.size w W1:=by rw [← hW1];exact (Below.refl w.heap.size w).alloc (Nat.le_refl _) _
 have hB2:Below w.heap.size w W2:=by rw [← hW2];exact hB1.alloc hB1.size _
 have CS:=aI (fun w' (hb:Below w.heap.size w w')=>eqS_any (Sc.words a) (Sc.words b) A A' c c' w' (s1.keep (Chg.of_below hb)) (s1'.keep (Chg.of_below hb)) (Nat.le_trans b1 b2) (Nat.le_trans b1' b2'))
 have CI:=aI (fun w' (hb:Below w.heap.size w w')=>eqI_any (Sc.wts a) (Sc.wts b) B B' d d' w' (s2.keep (Chg.of_below hb)) (s2'.keep (Chg.of_below hb)) (Nat.le_trans e1 e2) (Nat.le_trans e1' e2'))
 have hz1:W1.heap.size=w.heap.size+1:=by rw [← hW1];show (w.heap.push _).size=_;rw [Array.size_push]
 have hc7:W2.cell? ⟨w.heap.size,7,none⟩=some (.slice B (Sc.wts a).length d):=by
  have h1:W1.cell? ⟨w.heap.size,7,none⟩=some (.slice B (Sc.wts a).length d):=by rw [← hW1];exact (Blk.new w _ _).cell 7
  have h2:Below W1.heap.size W1 W2:=by rw [← hW2];exact (Below.refl W1.heap.size W1).alloc (Nat.le_refl _) _
  exact (h2.cell (World.block_lt_of_cell? _ _ h1)).trans h1
 have hd7:W2.cell? ⟨w.heap.size+1,7,none⟩=some (.slice B' (Sc.wts b).length d'):=by rw [← hz1,← hW2];exact (Blk.new W1 _ _).cell 7
 have HC7:=aI hc7
 have HD7:=aI hd7
 have HB:=aI hB2
 have HW1:=aI hW1
 have HW2:=aI hW2
 show Calls Tryz.prog 62 #[.agg #[.string (Sc.nm a),.string (Sc.of_ a),.string (Sc.up a),.int .i64 (Sc.kd a),.int .i64 (Sc.lo a),.int .i64 (Sc.hi a),.slice A (Sc.words a).length c,.slice B (Sc.wts a).length d],.agg #[.string (Sc.nm b),.string (Sc.of_ b),.string (Sc.up b),.int .i64 (Sc.kd b),.int .i64 (Sc.lo b),.int .i64 (Sc.hi b),.slice A' (Sc.words b).length c',.slice B' (Sc.wts b).length d']] w _
 clear ha hb s1 s2 s1' s2' hB1 hB2 hW1 hW2 hz1 hc7 hd7 a1 a2 a3 a4 a5 a6 a1' a2' a3' a4' a5' a6' b1 b2 b1' b2' e1 e2 e1' e2'
 obtain ⟨r0,h0⟩:∃ r,decide (Sc.nm a=Sc.nm b)=r:=⟨_,rfl⟩
 obtain ⟨r1,h1⟩:∃ r,decide (Sc.of_ a=Sc.of_ b)=r:=⟨_,rfl⟩
 obtain ⟨r2,h2⟩:∃ r,decide (Sc.up a=Sc.up b)=r:=⟨_,rfl⟩
 obtain ⟨r3,h3⟩:∃ r,decide (Sc.kd a=Sc.kd b)=r:=⟨_,rfl⟩
 obtain ⟨r4,h4⟩:∃ r,decide (Sc.lo a=Sc.lo b)=r:=⟨_,rfl⟩
 obtain ⟨r5,h5⟩:∃ r,decide (Sc.hi a=Sc.hi b)=r:=⟨_,rfl⟩
 obtain ⟨r6,h6⟩:∃ r,decide (Sc.words a=Sc.words b)=r:=⟨_,rfl⟩
 obtain ⟨r7,h7⟩:∃ r,decide (Sc.wts a=Sc.wts b)=r:=⟨_,rfl⟩
 have HF:=aI (show Sx.sameF a b=(r0 && (r1 && (r2 && (r3 && (r4 && (r5 && (r6 && (r7)))))))) by unfold Sx.sameF;rw [h0,h1,h2,h3,h4,h5,h6,h7])
 rw [h6] at CS
 rw [h7] at CI
 have q0:((Sc.nm a).toList == (Sc.nm b).toList)=r0:=by rw [← h0];exact strEqB _ _
 have q1:((Sc.of_ a).toList == (Sc.of_ b).toList)=r1:=by rw [← h1];exact strEqB _ _
 have q2:((Sc.up a).toList == (Sc.up b).toList)=r2:=by rw [← h2];exact strEqB _ _
 have q3:(Sc.kd a == Sc.kd b)=r3:=by rw [← h3];exact intEqB _ _
 have q4:(Sc.lo a == Sc.lo b)=r4:=by rw [← h4];exact intEqB _ _
 have q5:(Sc.hi a == Sc.hi b)=r5:=by rw [← h5];exact intEqB _ _
 clear h0 h1 h2 h3 h4 h5 h6 h7
 generalize Sx.sameF a b=sf at *
 generalize Sc.nm a=xnm at *
 generalize Sc.nm b=ynm at *
 generalize Sc.of_ a=xof at *
 generalize Sc.of_ b=yof at *
 generalize Sc.up a=xup at *
 generalize Sc.up b=yup at *
 generalize Sc.kd a=xkd at *
 generalize Sc.kd b=ykd at *
 generalize Sc.lo a=xlo at *
 generalize Sc.lo b=ylo at *
 generalize Sc.hi a=xhi at *
 generalize Sc.hi b=yhi at *
 generalize (Sc.words a).length=xwords at *
 generalize (Sc.words b).length=ywords at *
 generalize (Sc.wts a).length=xwts at *
 generalize (Sc.wts b).length=ywts at *
 go_enter Tryz.func62,Tryz.ntmps62
 cases r0
 ·go_wp2_with (first | (go_at_call 65;rw [HW1.out,HW2.out];((with_reducible refine (CS.out _ HB.out).mono ?_));rintro e w2 ⟨rfl,hb2⟩;have z7:=(hb2.cell (World.block_lt_of_cell? _ _ HC7.out)).trans HC7.out;have z8:=(hb2.cell (World.block_lt_of_cell? _ _ HD7.out)).trans HD7.out;replace HB:=aI (HB.out.trans (hb2.mono HB.out.size));clear hb2) | (go_at_call 121;((with_reducible refine (CI.out _ HB.out).mono ?_));rintro e w2 ⟨rfl,hb2⟩;replace HB:=aI (HB.out.trans (hb2.mono HB.out.size));clear hb2))
  go_ret
  exact ⟨by rw [HF.out];rfl,by first | exact HB.out | (rw [HW1.out,HW2.out];exact HB.out)⟩
 cases r1
 ·go_wp2_with (first | (go_at_call 65;rw [HW1.out,HW2.out];((with_reducible refine (CS.out _ HB.out).mono ?_));rintro e w2 ⟨rfl,hb2⟩;have z7:=(hb2.cell (World.block_lt_of_cell? _ _ HC7.out)).trans HC7.out;have z8:=(hb2.cell (World.block_lt_of_cell? _ _ HD7.out)).trans HD7.out;replace HB:=aI (HB.out.trans (hb2.mono HB.out.size));clear hb2) | (go_at_call 121;((with_reducible refine (CI.out _ HB.out).mono ?_));rintro e w2 ⟨rfl,hb2⟩;replace HB:=aI (HB.out.trans (hb2.mono HB.out.size));clear hb2))
  go_ret
  exact ⟨by rw [HF.out];rfl,by first | exact HB.out | (rw [HW1.out,HW2.out];exact HB.out)⟩
 cases r2
 ·go_wp2_with (first | (go_at_call 65;rw [HW1.out,HW2.out];((with_reducible refine (CS.out _ HB.out).mono ?_));rintro e w2 ⟨rfl,hb2⟩;have z7:=(hb2.cell (World.block_lt_of_cell? _ _ HC7.out)).trans HC7.out;have z8:=(hb2.cell (World.block_lt_of_cell? _ _ HD7.out)).trans HD7.out;replace HB:=aI (HB.out.trans (hb2.mono HB.out.size));clear hb2) | (go_at_call 121;((with_reducible refine (CI.out _ HB.out).mono ?_));rintro e w2 ⟨rfl,hb2⟩;replace HB:=aI (HB.out.trans (hb2.mono HB.out.size));clear hb2))
  go_ret
  exact ⟨by rw [HF.out];rfl,by first | exact HB.out | (rw [HW1.out,HW2.out];exact HB.out)⟩
 cases r3
 ·go_wp2_with (first | (go_at_call 65;rw [HW1.out,HW2.out];((with_reducible refine (CS.out _ HB.out).mono ?_));rintro e w2 ⟨rfl,hb2⟩;have z7:=(hb2.cell (World.block_lt_of_cell? _ _ HC7.out)).trans HC7.out;have z8:=(hb2.cell (World.block_lt_of_cell? _ _ HD7.out)).trans HD7.out;replace HB:=aI (HB.out.trans (hb2.mono HB.out.size));clear hb2) | (go_at_call 121;((with_reducible refine (CI.out _ HB.out).mono ?_));rintro e w2 ⟨rfl,hb2⟩;replace HB:=aI (HB.out.trans (hb2.mono HB.out.size));clear hb2))
  go_ret
  exact ⟨by rw [HF.out];rfl,by first | exact HB.out | (rw [HW1.out,HW2.out];exact HB.out)⟩
 cases r4
 ·go_wp2_with (first | (go_at_call 65;rw [HW1.out,HW2.out];((with_reducible refine (CS.out _ HB.out).mono ?_));rintro e w2 ⟨rfl,hb2⟩;have z7:=(hb2.cell (World.block_lt_of_cell? _ _ HC7.out)).trans HC7.out;have z8:=(hb2.cell (World.block_lt_of_cell? _ _ HD7.out)).trans HD7.out;replace HB:=aI (HB.out.trans (hb2.mono HB.out.size));clear hb2) | (go_at_call 121;((with_reducible refine (CI.out _ HB.out).mono ?_));rintro e w2 ⟨rfl,hb2⟩;replace HB:=aI (HB.out.trans (hb2.mono HB.out.size));clear hb2))
  go_ret
  exact ⟨by rw [HF.out];rfl,by first | exact HB.out | (rw [HW1.out,HW2.out];exact HB.out)⟩
 cases r5
 ·go_wp2_with (first | (go_at_call 65;rw [HW1.out,HW2.out];((with_reducible refine (CS.out _ HB.out).mono ?_));rintro e w2 ⟨rfl,hb2⟩;have z7:=(hb2.cell (World.block_lt_of_cell? _ _ HC7.out)).trans HC7.out;have z8:=(hb2.cell (World.block_lt_of_cell? _ _ HD7.out)).trans HD7.out;replace HB:=aI (HB.out.trans (hb2.mono HB.out.size));clear hb2) | (go_at_call 121;((with_reducible refine (CI.out _ HB.out).mono ?_));rintro e w2 ⟨rfl,hb2⟩;replace HB:=aI (HB.out.trans (hb2.mono HB.out.size));clear hb2))
  go_ret
  exact ⟨by rw [HF.out];rfl,by first | exact HB.out | (rw [HW1.out,HW2.out];exact HB.out)⟩
 cases r6
 ·go_wp2_with (first | (go_at_call 65;rw [HW1.out,HW2.out];((with_reducible refine (CS.out _ HB.out).mono ?_));rintro e w2 ⟨rfl,hb2⟩;have z7:=(hb2.cell (World.block_lt_of_cell? _ _ HC7.out)).trans HC7.out;have z8:=(hb2.cell (World.block_lt_of_cell? _ _ HD7.out)).trans HD7.out;replace HB:=aI (HB.out.trans (hb2.mono HB.out.size));clear hb2) | (go_at_call 121;((with_reducible refine (CI.out _ HB.out).mono ?_));rintro e w2 ⟨rfl,hb2⟩;replace HB:=aI (HB.out.trans (hb2.mono HB.out.size));clear hb2))
  go_ret
  exact ⟨by rw [HF.out];rfl,by first | exact HB.out | (rw [HW1.out,HW2.out];exact HB.out)⟩
 go_wp2_with (first | (go_at_call 65;rw [HW1.out,HW2.out];((with_reducible refine (CS.out _ HB.out).mono ?_));rintro e w2 ⟨rfl,hb2⟩;have z7:=(hb2.cell (World.block_lt_of_cell? _ _ HC7.out)).trans HC7.out;have z8:=(hb2.cell (World.block_lt_of_cell? _ _ HD7.out)).trans HD7.out;replace HB:=aI (HB.out.trans (hb2.mono HB.out.size));clear hb2) | (go_at_call 121;((with_reducible refine (CI.out _ HB.out).mono ?_));rintro e w2 ⟨rfl,hb2⟩;replace HB:=aI (HB.out.trans (hb2.mono HB.out.size));clear hb2))
 go_ret
 exact ⟨by rw [HF.out];cases r7 <;> rfl,HB.out⟩
def Sx.only (f:Fld):Fld :=
 if Sc.kd f=0 then (Sc.nm f,⟨#[]⟩,⟨#[]⟩,0,Sc.lo f,0,[],[])
 else if Sc.kd f=1∨Sc.kd f=4∨Sc.kd f=5 then (Sc.nm f,Sc.of_ f,⟨#[]⟩,Sc.kd f,Sc.lo f,Sc.hi f,[],[])
 else if Sc.kd f=2 then (Sc.nm f,⟨#[]⟩,⟨#[]⟩,2,Sc.lo f,Sc.hi f,[],[])
 else if Sc.kd f=3 then (Sc.nm f,⟨#[]⟩,⟨#[]⟩,3,0,0,Sc.words f,Sc.wts f)
 else if Sc.kd f=6 then (Sc.nm f,Sc.of_ f,⟨#[]⟩,6,0,0,[],[])
 else if Sc.kd f=7 then (Sc.nm f,Sc.of_ f,Sc.up f,7,Sc.lo f,Sc.hi f,[],[])
 else if Sc.kd f=8 then (Sc.nm f,Sc.of_ f,Sc.up f,8,0,0,[],[])
 else (Sc.nm f,⟨#[]⟩,⟨#[]⟩,Sc.kd f,0,0,[],[])
set_option maxRecDepth 100000 in
set_option maxHeartbeats 8000000 in
theorem only_0 (nm of_ up:ByteArray) (lo hi:Int) (A B:Option Addr) (a b c d:Nat) (w:World) :
  Calls Tryz.prog 143 #[.agg #[.string nm,.string of_,.string up,.int .i64 0,.int .i64 lo,.int .i64 hi,.slice A a c,.slice B b d]] w fun e w'=>e=.returned (.agg #[.string nm,.string ⟨#[]⟩,.string ⟨#[]⟩,.int .i64 0,.int .i64 lo,.int .i64 0,.slice none 0 0,.slice none 0 0])∧Below w.heap.size w w':=by
 go_enter Tryz.func143,Tryz.ntmps143
 go_upto_region 19 with fail
 go_wp2_with fail
 refine bodyPost_ret (v:=.agg #[.string nm,.string ⟨#[]⟩,.string ⟨#[]⟩,.int .i64 0,.int .i64 lo,.int .i64 0,.slice none 0 0,.slice none 0 0]) ?_ rfl ?_
 ·simp [results,Tryz.results143,go_sem]
 ·exact ⟨rfl,by go_grown⟩
set_option maxRecDepth 100000 in
set_option maxHeartbeats 8000000 in
theorem only_1 (nm of_ up:ByteArray) (lo hi:Int) (A B:Option Addr) (a b c d:Nat) (w:World) :
  Calls Tryz.prog 143 #[.agg #[.string nm,.string of_,.string up,.int .i64 1,.int .i64 lo,.int .i64 hi,.slice A a c,.slice B b d]] w fun e w'=>e=.returned (.agg #[.string nm,.string of_,.string ⟨#[]⟩,.int .i64 1,.int .i64 lo,.int .i64 hi,.slice none 0 0,.slice none 0 0])∧Below w.heap.size w w':=by
 go_enter Tryz.func143,Tryz.ntmps143
 go_upto_region 8 with fail
 go_region
 go_upto_region 19 with fail
 go_wp2_with fail
 refine bodyPost_ret (v:=.agg #[.string nm,.string of_,.string ⟨#[]⟩,.int .i64 1,.int .i64 lo,.int .i64 hi,.slice none 0 0,.slice none 0 0]) ?_ rfl ?_
 ·simp [results,Tryz.results143,go_sem]
 ·exact ⟨rfl,by go_grown⟩
set_option maxRecDepth 100000 in
set_option maxHeartbeats 8000000 in
theorem only_2 (nm of_ up:ByteArray) (lo hi:Int) (A B:Option Addr) (a b c d:Nat) (w:World) :
  Calls Tryz.prog 143 #[.agg #[.string nm,.string of_,.string up,.int .i64 2,.int .i64 lo,.int .i64 hi,.slice A a c,.slice B b d]] w fun e w'=>e=.returned (.agg #[.string nm,.string ⟨#[]⟩,.string ⟨#[]⟩,.int .i64 2,.int .i64 lo,.int .i64 hi,.slice none 0 0,.slice none 0 0])∧Below w.heap.size w w':=by
 go_enter Tryz.func143,Tryz.ntmps143
 go_upto_region 10 with fail
 go_region
 go_upto_region 19 with fail
 go_wp2_with fail
 refine bodyPost_ret (v:=.agg #[.string nm,.string ⟨#[]⟩,.string ⟨#[]⟩,.int .i64 2,.int .i64 lo,.int .i64 hi,.slice none 0 0,.slice none 0 0]) ?_ rfl ?_
 ·simp [results,Tryz.results143,go_sem]
 ·exact ⟨rfl,by go_grown⟩
set_option maxRecDepth 100000 in
set_option maxHeartbeats 8000000 in
theorem only_3 (nm of_ up:ByteArray) (lo hi:Int) (A B:Option Addr) (a b c d:Nat) (w:World) :
  Calls Tryz.prog 143 #[.agg #[.string nm,.string of_,.string up,.int .i64 3,.int .i64 lo,.int .i64 hi,.slice A a c,.slice B b d]] w fun e w'=>e=.returned (.agg #[.string nm,.string ⟨#[]⟩,.string ⟨#[]⟩,.int .i64 3,.int .i64 0,.int .i64 0,.slice A a c,.slice B b d])∧Below w.heap.size w w':=by
 go_enter Tryz.func143,Tryz.ntmps143
 go_upto_region 12 with fail
 go_region
 go_upto_region 19 with fail
 go_wp2_with fail
 refine bodyPost_ret (v:=.agg #[.string nm,.string ⟨#[]⟩,.string ⟨#[]⟩,.int .i64 3,.int .i64 0,.int .i64 0,.slice A a c,.slice B b d]) ?_ rfl ?_
 ·simp [results,Tryz.results143,go_sem]
 ·exact ⟨rfl,by go_grown⟩
set_option maxRecDepth 100000 in
set_option maxHeartbeats 8000000 in
theorem only_4 (nm of_ up:ByteArray) (lo hi:Int) (A B:Option Addr) (a b c d:Nat) (w:World) :
  Calls Tryz.prog 143 #[.agg #[.string nm,.string of_,.string up,.int .i64 4,.int .i64 lo,.int .i64 hi,.slice A a c,.slice B b d]] w fun e w'=>e=.returned (.agg #[.string nm,.string of_,.string ⟨#[]⟩,.int .i64 4,.int .i64 lo,.int .i64 hi,.slice none 0 0,.slice none 0 0])∧Below w.heap.size w w':=by
 go_enter Tryz.func143,Tryz.ntmps143
 go_upto_region 8 with fail
 go_region
 go_upto_region 19 with fail
 go_wp2_with fail
 refine bodyPost_ret (v:=.agg #[.string nm,.string of_,.string ⟨#[]⟩,.int .i64 4,.int .i64 lo,.int .i64 hi,.slice none 0 0,.slice none 0 0]) ?_ rfl ?_
 ·simp [results,Tryz.results143,go_sem]
 ·exact ⟨rfl,by go_grown⟩
set_option maxRecDepth 100000 in
set_option maxHeartbeats 8000000 in
theorem only_5 (nm of_ up:ByteArray) (lo hi:Int) (A B:Option Addr) (a b c d:Nat) (w:World) :
  Calls Tryz.prog 143 #[.agg #[.string nm,.string of_,.string up,.int .i64 5,.int .i64 lo,.int .i64 hi,.slice A a c,.slice B b d]] w fun e w'=>e=.returned (.agg #[.string nm,.string of_,.string ⟨#[]⟩,.int .i64 5,.int .i64 lo,.int .i64 hi,.slice none 0 0,.slice none 0 0])∧Below w.heap.size w w':=by
 go_enter Tryz.func143,Tryz.ntmps143
 go_upto_region 8 with fail
 go_region
 go_upto_region 19 with fail
 go_wp2_with fail
 refine bodyPost_ret (v:=.agg #[.string nm,.string of_,.string ⟨#[]⟩,.int .i64 5,.int .i64 lo,.int .i64 hi,.slice none 0 0,.slice none 0 0]) ?_ rfl ?_
 ·simp [results,Tryz.results143,go_sem]
 ·exact ⟨rfl,by go_grown⟩
set_option maxRecDepth 100000 in
set_option maxHeartbeats 8000000 in
theorem only_6 (nm of_ up:ByteArray) (lo hi:Int) (A B:Option Addr) (a b c d:Nat) (w:World) :
  Calls Tryz.prog 143 #[.agg #[.string nm,.string of_,.string up,.int .i64 6,.int .i64 lo,.int .i64 hi,.slice A a c,.slice B b d]] w fun e w'=>e=.returned (.agg #[.string nm,.string of_,.string ⟨#[]⟩,.int .i64 6,.int .i64 0,.int .i64 0,.slice none 0 0,.slice none 0 0])∧Below w.heap.size w w':=by
 go_enter Tryz.func143,Tryz.ntmps143
 go_upto_region 19 with fail
 go_wp2_with fail
 refine bodyPost_ret (v:=.agg #[.string nm,.string of_,.string ⟨#[]⟩,.int .i64 6,.int .i64 0,.int .i64 0,.slice none 0 0,.slice none 0 0]) ?_ rfl ?_
 ·simp [results,Tryz.results143,go_sem]
 ·exact ⟨rfl,by go_grown⟩
set_option maxRecDepth 100000 in
set_option maxHeartbeats 8000000 in
theorem only_7 (nm of_ up:ByteArray) (lo hi:Int) (A B:Option Addr) (a b c d:Nat) (w:World) :
  Calls Tryz.prog 143 #[.agg #[.string nm,.string of_,.string up,.int .i64 7,.int .i64 lo,.int .i64 hi,.slice A a c,.slice B b d]] w fun e w'=>e=.returned (.agg #[.string nm,.string of_,.string up,.int .i64 7,.int .i64 lo,.int .i64 hi,.slice none 0 0,.slice none 0 0])∧Below w.heap.size w w':=by
 go_enter Tryz.func143,Tryz.ntmps143
 go_upto_region 16 with fail
 go_region
 go_upto_region 19 with fail
 go_wp2_with fail
 refine bodyPost_ret (v:=.agg #[.string nm,.string of_,.string up,.int .i64 7,.int .i64 lo,.int .i64 hi,.slice none 0 0,.slice none 0 0]) ?_ rfl ?_
 ·simp [results,Tryz.results143,go_sem]
 ·exact ⟨rfl,by go_grown⟩
set_option maxRecDepth 100000 in
set_option maxHeartbeats 8000000 in
theorem only_8 (nm of_ up:ByteArray) (lo hi:Int) (A B:Option Addr) (a b c d:Nat) (w:World) :
  Calls Tryz.prog 143 #[.agg #[.string nm,.string of_,.string up,.int .i64 8,.int .i64 lo,.int .i64 hi,.slice A a c,.slice B b d]] w fun e w'=>e=.returned (.agg #[.string nm,.string of_,.string up,.int .i64 8,.int .i64 0,.int .i64 0,.slice none 0 0,.slice none 0 0])∧Below w.heap.size w w':=by
 go_enter Tryz.func143,Tryz.ntmps143
 go_upto_region 18 with fail
 go_region
 go_upto_region 19 with fail
 go_wp2_with fail
 refine bodyPost_ret (v:=.agg #[.string nm,.string of_,.string up,.int .i64 8,.int .i64 0,.int .i64 0,.slice none 0 0,.slice none 0 0]) ?_ rfl ?_
 ·simp [results,Tryz.results143,go_sem]
 ·exact ⟨rfl,by go_grown⟩
set_option maxRecDepth 100000 in
set_option maxHeartbeats 8000000 in
theorem only_9 (nm of_ up:ByteArray) (lo hi:Int) (A B:Option Addr) (a b c d:Nat) (kd:Int) (hk:∀ j:Nat,j < 9→kd≠(j:Int)) (w:World) :
  Calls Tryz.prog 143 #[.agg #[.string nm,.string of_,.string up,.int .i64 kd,.int .i64 lo,.int .i64 hi,.slice A a c,.slice B b d]] w fun e w'=>e=.returned (.agg #[.string nm,.string ⟨#[]⟩,.string ⟨#[]⟩,.int .i64 kd,.int .i64 0,.int .i64 0,.slice none 0 0,.slice none 0 0])∧Below w.heap.size w w':=by
 have k0:(kd == 0)=false:=beq_eq_false_iff_ne.2 (hk 0 (by omega))
 have k1:(kd == 1)=false:=beq_eq_false_iff_ne.2 (hk 1 (by omega))
 have k2:(kd == 2)=false:=beq_eq_false_iff_ne.2 (hk 2 (by omega))
 have k3:(kd == 3)=false:=beq_eq_false_iff_ne.2 (hk 3 (by omega))
 have k4:(kd == 4)=false:=beq_eq_false_iff_ne.2 (hk 4 (by omega))
 have k5:(kd == 5)=false:=beq_eq_false_iff_ne.2 (hk 5 (by omega))
 have k6:(kd == 6)=false:=beq_eq_false_iff_ne.2 (hk 6 (by omega))
 have k7:(kd == 7)=false:=beq_eq_false_iff_ne.2 (hk 7 (by omega))
 have k8:(kd == 8)=false:=beq_eq_false_iff_ne.2 (hk 8 (by omega))
 clear hk
 go_enter Tryz.func143,Tryz.ntmps143
 go_upto_region 19 with fail
 go_wp2_with fail
 refine bodyPost_ret (v:=.agg #[.string nm,.string ⟨#[]⟩,.string ⟨#[]⟩,.int .i64 kd,.int .i64 0,.int .i64 0,.slice none 0 0,.slice none 0 0]) ?_ rfl ?_
 ·simp [results,Tryz.results143,go_sem]
 ·exact ⟨rfl,by go_grown⟩
theorem fld_rep {G:List Nat} {w:World} {nm of_ up:ByteArray} {kd lo hi:Int} {ws:List ByteArray} {ns:List Int} {A B:Option Addr} {c d:Nat} (h1:nm.size≤9223372036854775807) (h2:of_.size≤9223372036854775807) (h3:up.size≤9223372036854775807) (h4:inI kd) (h5:inI lo) (h6:inI hi)
  (s1:SlAt G w A ws) (s2:SlAt G w B ns) (b1:ws.length≤c) (b2:c≤9223372036854775807) (e1:ns.length≤d) (e2:d≤9223372036854775807) :
  Mem.rep G w ((nm,of_,up,kd,lo,hi,ws,ns):Fld) [.string nm,.string of_,.string up,.int .i64 kd,.int .i64 lo,.int .i64 hi,.slice A ws.length c,.slice B ns.length d] :=
 ⟨[.string nm],_,rfl,⟨rfl,h1⟩,[.string of_],_,rfl,⟨rfl,h2⟩,[.string up],_,rfl,⟨rfl,h3⟩,[.int .i64 kd],_,rfl,⟨rfl,h4⟩,[.int .i64 lo],_,rfl,⟨rfl,h5⟩,[.int .i64 hi],_,rfl,⟨rfl,h6⟩,[.slice A ws.length c],_,rfl,⟨A,c,rfl,b1,b2,s1⟩,⟨B,d,rfl,e1,e2,s2⟩⟩
theorem empty_size:(⟨#[]⟩:ByteArray).size≤9223372036854775807:=by decide
theorem only_eq (nm of_ up:ByteArray) (kd lo hi:Int) (ws:List ByteArray) (ns:List Int):Sx.only (nm,of_,up,kd,lo,hi,ws,ns) =
  if kd=0 then (nm,⟨#[]⟩,⟨#[]⟩,0,lo,0,[],[])
  else if kd=1∨kd=4∨kd=5 then (nm,of_,⟨#[]⟩,kd,lo,hi,[],[])
  else if kd=2 then (nm,⟨#[]⟩,⟨#[]⟩,2,lo,hi,[],[])
  else if kd=3 then (nm,⟨#[]⟩,⟨#[]⟩,3,0,0,ws,ns)
  else if kd=6 then (nm,of_,⟨#[]⟩,6,0,0,[],[])
  else if kd=7 then (nm,of_,up,7,lo,hi,[],[])
  else if kd=8 then (nm,of_,up,8,0,0,[],[])
  else (nm,⟨#[]⟩,⟨#[]⟩,kd,0,0,[],[]):=rfl
abbrev Tk:=Nat × Nat
def tokI (p:Tk):Int × Int:=((p.1:Int),(p.2:Int))
def tokVals (l:List Tk):List Value:=l.flatMap fun p=>[.int .i64 (p.1:Int),.int .i64 (p.2:Int)]
theorem tokVals_snoc (l:List Tk) (p:Tk):tokVals l++[.int .i64 (p.1:Int),.int .i64 (p.2:Int)]=tokVals (l++[p]):=by simp [tokVals]
theorem tok_one (a b:Nat):∀ u∈[Value.int .i64 (a:Int),Value.int .i64 (b:Int)],u.oneCell'=true:=by
 intro u hu;simp only [List.mem_cons,List.not_mem_nil,or_false] at hu;rcases hu with rfl | rfl <;> rfl
theorem flat_toks {G:List Nat} {w:World} {n:Nat} (hn:n≤100000000):∀ {l:List Tk},(∀ p∈l,p.1≤p.2∧p.2≤n)→Flat G w (l.map tokI) (tokVals l)
 | [],_=>rfl
 | p::l,h=>⟨[.int .i64 (p.1:Int),.int .i64 (p.2:Int)],tokVals l,rfl,⟨[_],_,rfl,⟨rfl,by have:=h p (.head _);unfold inI tokI;simp only;omega⟩,⟨rfl,by have:=h p (.head _);unfold inI tokI;simp only;omega⟩⟩,flat_toks hn fun q hq=>h q (.tail _ hq)⟩
theorem infoTok:(Tryz.prog.info? 72).map (fun i=>(i.zero,i.size,i.bytes))=some (some (.agg #[.int .i64 0,.int .i64 0]),2,16):=by kernel_rfl
theorem tok_cases2 (c:UInt8):(Vm.isTok c=true∧decide (32 < (c.toNat:Int))=true∧decide ((c.toNat:Int) < 127)=true)∨(Vm.isTok c=false∧decide (32 < (c.toNat:Int))=false)∨(Vm.isTok c=false∧decide (32 < (c.toNat:Int))=true∧decide ((c.toNat:Int) < 127)=false):=by
 unfold Vm.isTok
 simp only [Bool.and_eq_true,Bool.and_eq_false_iff,decide_eq_true_eq,decide_eq_false_iff_not]
 omega
theorem scan_blank {l:List UInt8} {f i:Nat} (h:i < l.length) (hb:Vm.isBlank l[i]=true):Vm.scan l (f+1) i=Vm.scan l (f+1) (i+1):=by
 have e:Vm.skipN l i=Vm.skipN l (i+1):=by
  unfold Vm.skipN
  rw [List.drop_eq_getElem_cons h,List.takeWhile_cons,hb,if_pos rfl,List.length_cons];omega
 rw [Vm.scan_eq,Vm.scan_eq,e]
theorem scan_len {l:List UInt8} {f:Nat}:Vm.scan l (f+1) l.length=([],l.length):=by
 have e:Vm.skipN l l.length=l.length:=by unfold Vm.skipN;simp
 rw [Vm.scan_eq,e];unfold Vm.wordAt;simp
def ScanP (l:List UInt8) (w:World) (e:Ending) (w':World):Prop:=∃ A c,e=.returned (.tuple #[.slice A (Vm.scan l (l.length+1) 0).1.length c,.int .i64 ((Vm.scan l (l.length+1) 0).2:Nat)])∧SlAt [] w' A ((Vm.scan l (l.length+1) 0).1.map tokI)∧(Vm.scan l (l.length+1) 0).1.length≤l.length∧(∀ p∈(Vm.scan l (l.length+1) 0).1,p.1≤p.2∧p.2≤l.length)∧Below w.heap.size w w'
theorem scan_end {s:ByteArray} {w W:World} {M:List Nat} {v:Value} {toks:List Tk} {e n:Nat} (T:HRow w [] M [] [] 72 2 v toks.length (tokVals toks) W) (h:Vm.scan s.data.toList (n+1) 0=(toks,e)) (hn:s.size=n) (hbd:(∀ p∈toks,p.1≤p.2∧p.2≤n)) (hm:n≤100000000) (htl:toks.length≤n):ScanP s.data.toList w (.returned (.tuple #[v,.int .i64 (e:Int)])) W:=by
 obtain ⟨A,c,hv,_,_,hF⟩:=T.freeze (l:=toks.map tokI) rfl (by simp) (flat_toks hm hbd) (fun _ h=>by cases h)
 subst hv
 have hl:s.data.toList.length=n:=by rw [Vm.strLn,hn]
 unfold ScanP
 rw [hl,h]
 exact ⟨A,c,by rw [List.length_map],(hF.fact (.head _)).sub (fun _ h=>by cases h),htl,hbd,hF.bl⟩
set_option maxRecDepth 100000 in
set_option maxHeartbeats 4000000 in
theorem scan_any (s:ByteArray) (w:World) (hs:s.size≤100000000):Calls Tryz.prog 29 #[.string s] w (ScanP s.data.toList w):=by
 obtain ⟨i0,hi,hz0,hz1,hz2⟩:=info_parts infoTok
 have HII:=aI (show _∧_∧_∧_ from ⟨hi,hz0,hz1,hz2⟩)
 obtain ⟨n,hn⟩:∃ n,s.size=n:=⟨_,rfl⟩
 have hsn:s.size=n:=hn
 rw [hn] at hs
 have T:=aI (HRow.start (e:=72) (size:=2) (held0 w [] (fun _ h=>by cases h)))
 clear hi hz0 hz1 hz2
 go_enter Tryz.func29,Tryz.ntmps29
 go_wp2_with fail
 go_loopg [4,5] n (fun r v a wr=>∃ (i f:Nat) (toks:List Tk) (M:List Nat),i+r=n∧a=.int .i64 i∧i≤n∧n < i+f∧toks.length≤i∧(∀ p∈toks,p.1≤p.2∧p.2≤n)∧(toks++(Vm.scan s.data.toList f i).1,(Vm.scan s.data.toList f i).2)=Vm.scan s.data.toList (n+1) 0∧HRow w [] M [] [] 72 2 v toks.length (tokVals toks) wr)
 case atStart=>exact ⟨0,n+1,[],_,by omega,rfl,by omega,by omega,by simp,(fun _ h=>by cases h),by simp,T.out⟩
 case round =>
  obtain ⟨i,f,toks,M,hk,rfl,hin,hfu,htl,hbd,hsc,hH⟩:=hrel
  obtain ⟨wo,rfl⟩:∃ wo:World,wo=wr:=⟨_,rfl⟩
  obtain ⟨gq,rfl⟩:∃ g:Nat,g=gk:=⟨_,rfl⟩
  replace T:=aI hH
  have HBD:=aI hbd
  obtain ⟨f,rfl⟩:∃ f',f=f'+1:=⟨f - 1,by omega⟩
  have HSC:=aI hsc
  have HSE:=aI (Vm.scan_eq s.data.toList f i)
  clear hH hbd hsc
  by_cases hlt:i < n
  ·have hix:i < s.size:=by omega
   have k0:(0:Int)≤(i:Int):=Int.natCast_nonneg _
   have k1:(i:Int) < (n:Int):=by omega
   rcases Vm.blank_cases (s[i]'hix) with ⟨hb,t1⟩ | ⟨hb,t1,t2⟩ | ⟨hb,t1,t2⟩
   ·have HSC2:=aI (show (toks++(Vm.scan s.data.toList (f+1) (i+1)).1,(Vm.scan s.data.toList (f+1) (i+1)).2)=Vm.scan s.data.toList (n+1) 0 by rw [← HSC.out,scan_blank (f:=f) (i:=i) (by rw [Vm.strLn];exact hix) (by rw [Vm.str_get s i hix];exact hb)])
    clear hb
    go_wp2_with fail
    go_roundg (gq - 1)
    case measure=>omega
    case rel=>exact ⟨i+1,f+1,_,_,by omega,by go_num,by omega,by omega,by omega,HBD.out,HSC2.out,T.out⟩
   ·have HSC2:=aI (show (toks++(Vm.scan s.data.toList (f+1) (i+1)).1,(Vm.scan s.data.toList (f+1) (i+1)).2)=Vm.scan s.data.toList (n+1) 0 by rw [← HSC.out,scan_blank (f:=f) (i:=i) (by rw [Vm.strLn];exact hix) (by rw [Vm.str_get s i hix];exact hb)])
    clear hb
    go_wp2_with fail
    go_roundg (gq - 1)
    case measure=>omega
    case rel=>exact ⟨i+1,f+1,_,_,by omega,by go_num,by omega,by omega,by omega,HBD.out,HSC2.out,T.out⟩
   ·have HSK:=aI (Vm.skipN_is (l:=s.data.toList) (a:=i) (e:=i) (Nat.le_refl _) (by rw [Vm.strLn];omega) (fun j _ h1 h2=>by omega) (.inr ⟨by rw [Vm.strLn];exact hix,by rw [Vm.str_get s i hix];exact hb⟩))
    clear hb
    go_wp2_with fail
    go_loopg [6] (n - i) (fun r a wr2=>∃ e:Nat,e+r=n∧i≤e∧a=.int .i64 e∧wr2=wo∧∀ j (hj:j < s.data.toList.length),i≤j→j < e→Vm.isTok s.data.toList[j]=true)
    case atStart=>exact ⟨i,by omega,Nat.le_refl _,rfl,rfl,fun j _ h1 h2=>by omega⟩
    case round =>
     obtain ⟨e,hk2,hae,rfl,rfl,hall⟩:=hrel
     obtain ⟨wo,rfl⟩:∃ w0:World,w0=wr:=⟨_,rfl⟩
     have HB:=aI hall
     clear hall
     by_cases hlt2:e < n
     ·have hex:e < s.size:=by omega
      have k2:(0:Int)≤(e:Int):=Int.natCast_nonneg _
      have k3:(e:Int) < (n:Int):=by omega
      rcases tok_cases2 (s[e]'hex) with ⟨ht,q1,q2⟩ | ⟨ht,q1⟩ | ⟨ht,q1,q2⟩
      ·have HT:=aI ht
       clear ht
       go_wp2_with fail
       go_roundg (gk - 1)
       case measure=>omega
       case rel =>
        refine ⟨e+1,by omega,by omega,by go_num,rfl,fun j hj h1 h2=>?_⟩
        rcases Nat.lt_or_ge j e with h' | h'
        ·exact HB.out j hj h1 h'
        ·obtain rfl:j=e:=by omega
         rw [Vm.str_get s j hex];exact HT.out
      ·have HW:=aI (Vm.wordAt_is (l:=s.data.toList) hae (by rw [Vm.strLn];omega) HB.out (.inr ⟨by rw [Vm.strLn];exact hex,by rw [Vm.str_get s e hex];exact ht⟩))
       clear ht
       by_cases hei:e=i
       ·subst hei
        have t9:((e:Int) == (e:Int))=true:=by simp
        have t10:(e == e)=true:=by simp
        have HFIN:=aI (show Vm.scan s.data.toList (n+1) 0=(toks,e) by
         rw [← HSC.out,HSE.out,HSK.out,HW.out];simp)
        go_wp2_with fail
        go_ret2
        exact scan_end T.out HFIN.out hsn HBD.out hs (by omega)
       ·have t9:((e:Int) == (i:Int))=false:=by rw [beq_eq_false_iff_ne];omega
        have t10:(e == i)=false:=beq_eq_false_iff_ne.2 hei
        have hwl:(Vm.wordAt s.data.toList i).length=e - i:=by rw [HW.out,List.length_take,List.length_drop,Vm.strLn];omega
        have HSC2:=aI (show (toks++[(i,e)]++(Vm.scan s.data.toList f e).1,(Vm.scan s.data.toList f e).2)=Vm.scan s.data.toList (n+1) 0 by
         rw [← HSC.out,HSE.out,HSK.out,hwl,if_neg (fun h=>by rw [h] at hwl;simp at hwl;omega),show i+(e - i)=e by omega]
         simp)
        have HVS:=aI (tokVals_snoc toks (i,e))
        obtain ⟨na,hna⟩:∃ z,toks.length=z:=⟨_,rfl⟩
        have HNA:=aI (show (toks++[(i,e)]).length=na+1 by rw [aK,hna];rfl)
        rw [hna] at T htl
        have HBD2:=aI (show ∀ p∈toks++[(i,e)],p.1≤p.2∧p.2≤n from fun p hp=>by
         rcases List.mem_append.1 hp with h | h
         ·exact HBD.out p h
         ·rw [List.mem_singleton.1 h];exact ⟨by show i≤e;omega,by show e≤n;omega⟩)
        clear hwl hna
        go_wp2_with (at_builtin;obtain ⟨hi,hz0,hz1,hz2⟩:=HII.out;refine wpList_append_row (by rfl) _ _ 67 (by rfl) 72 i0 _ 2 16 Tryz.underlying67 hi hz0 hz1 hz2 rfl (by decide) (T.out.below ((Below.refl _ _).alloc (Nat.le_refl _) _)) (by rfl) _ _ 1 1 [.int .i64 (i:Int),.int .i64 (e:Int)] (by rfl) (reads_blk (Blk.new _ _ _) rfl) (tok_one i e) (by unfold maxLen;omega) (by omega) ?_;intro v5 w5 M5 h5 _;rw [HVS.out,← HNA.out] at h5;replace T:=aI h5;clear h5 hi hz0 hz1 hz2)
        go_roundg (gq - (e - i))
        case measure=>omega
        case rel=>exact ⟨e,f,_,_,by omega,by first | rfl | go_num,by omega,by omega,by rw [HNA.out];omega,HBD2.out,HSC2.out,T.out⟩
      ·have HW:=aI (Vm.wordAt_is (l:=s.data.toList) hae (by rw [Vm.strLn];omega) HB.out (.inr ⟨by rw [Vm.strLn];exact hex,by rw [Vm.str_get s e hex];exact ht⟩))
       clear ht
       by_cases hei:e=i
       ·subst hei
        have t9:((e:Int) == (e:Int))=true:=by simp
        have t10:(e == e)=true:=by simp
        have HFIN:=aI (show Vm.scan s.data.toList (n+1) 0=(toks,e) by
         rw [← HSC.out,HSE.out,HSK.out,HW.out];simp)
        go_wp2_with fail
        go_ret2
        exact scan_end T.out HFIN.out hsn HBD.out hs (by omega)
       ·have t9:((e:Int) == (i:Int))=false:=by rw [beq_eq_false_iff_ne];omega
        have t10:(e == i)=false:=beq_eq_false_iff_ne.2 hei
        have hwl:(Vm.wordAt s.data.toList i).length=e - i:=by rw [HW.out,List.length_take,List.length_drop,Vm.strLn];omega
        have HSC2:=aI (show (toks++[(i,e)]++(Vm.scan s.data.toList f e).1,(Vm.scan s.data.toList f e).2)=Vm.scan s.data.toList (n+1) 0 by
         rw [← HSC.out,HSE.out,HSK.out,hwl,if_neg (fun h=>by rw [h] at hwl;simp at hwl;omega),show i+(e - i)=e by omega]
         simp)
        have HVS:=aI (tokVals_snoc toks (i,e))
        obtain ⟨na,hna⟩:∃ z,toks.length=z:=⟨_,rfl⟩
        have HNA:=aI (show (toks++[(i,e)]).length=na+1 by rw [aK,hna];rfl)
        rw [hna] at T htl
        have HBD2:=aI (show ∀ p∈toks++[(i,e)],p.1≤p.2∧p.2≤n from fun p hp=>by
         rcases List.mem_append.1 hp with h | h
         ·exact HBD.out p h
         ·rw [List.mem_singleton.1 h];exact ⟨by show i≤e;omega,by show e≤n;omega⟩)
        clear hwl hna
        go_wp2_with (at_builtin;obtain ⟨hi,hz0,hz1,hz2⟩:=HII.out;refine wpList_append_row (by rfl) _ _ 67 (by rfl) 72 i0 _ 2 16 Tryz.underlying67 hi hz0 hz1 hz2 rfl (by decide) (T.out.below ((Below.refl _ _).alloc (Nat.le_refl _) _)) (by rfl) _ _ 1 1 [.int .i64 (i:Int),.int .i64 (e:Int)] (by rfl) (reads_blk (Blk.new _ _ _) rfl) (tok_one i e) (by unfold maxLen;omega) (by omega) ?_;intro v5 w5 M5 h5 _;rw [HVS.out,← HNA.out] at h5;replace T:=aI h5;clear h5 hi hz0 hz1 hz2)
        go_roundg (gq - (e - i))
        case measure=>omega
        case rel=>exact ⟨e,f,_,_,by omega,by first | rfl | go_num,by omega,by omega,by rw [HNA.out];omega,HBD2.out,HSC2.out,T.out⟩
     ·have hen:e=n:=by omega
      have HW:=aI (Vm.wordAt_is (l:=s.data.toList) hae (by rw [Vm.strLn];omega) HB.out (.inl (by rw [Vm.strLn];omega)))
      have hexn:¬ (e:Int) < (n:Int):=by omega
      have hen1:n≤e:=by omega
      clear hen
      by_cases hei:e=i
      ·exact absurd hei (by omega)
      ·have t9:((e:Int) == (i:Int))=false:=by rw [beq_eq_false_iff_ne];omega
       have t10:(e == i)=false:=beq_eq_false_iff_ne.2 hei
       have hwl:(Vm.wordAt s.data.toList i).length=e - i:=by rw [HW.out,List.length_take,List.length_drop,Vm.strLn];omega
       have HSC2:=aI (show (toks++[(i,e)]++(Vm.scan s.data.toList f e).1,(Vm.scan s.data.toList f e).2)=Vm.scan s.data.toList (n+1) 0 by
        rw [← HSC.out,HSE.out,HSK.out,hwl,if_neg (fun h=>by rw [h] at hwl;simp at hwl;omega),show i+(e - i)=e by omega]
        simp)
       have HVS:=aI (tokVals_snoc toks (i,e))
       obtain ⟨na,hna⟩:∃ z,toks.length=z:=⟨_,rfl⟩
       have HNA:=aI (show (toks++[(i,e)]).length=na+1 by rw [aK,hna];rfl)
       rw [hna] at T htl
       have HBD2:=aI (show ∀ p∈toks++[(i,e)],p.1≤p.2∧p.2≤n from fun p hp=>by
        rcases List.mem_append.1 hp with h | h
        ·exact HBD.out p h
        ·rw [List.mem_singleton.1 h];exact ⟨by show i≤e;omega,by show e≤n;omega⟩)
       clear hwl hna
       go_wp2_with (at_builtin;obtain ⟨hi,hz0,hz1,hz2⟩:=HII.out;refine wpList_append_row (by rfl) _ _ 67 (by rfl) 72 i0 _ 2 16 Tryz.underlying67 hi hz0 hz1 hz2 rfl (by decide) (T.out.below ((Below.refl _ _).alloc (Nat.le_refl _) _)) (by rfl) _ _ 1 1 [.int .i64 (i:Int),.int .i64 (e:Int)] (by rfl) (reads_blk (Blk.new _ _ _) rfl) (tok_one i e) (by unfold maxLen;omega) (by omega) ?_;intro v5 w5 M5 h5 _;rw [HVS.out,← HNA.out] at h5;replace T:=aI h5;clear h5 hi hz0 hz1 hz2)
       go_roundg (gq - (e - i))
       case measure=>omega
       case rel=>exact ⟨e,f,_,_,by omega,by first | rfl | go_num,by omega,by omega,by rw [HNA.out];omega,HBD2.out,HSC2.out,T.out⟩
  ·have hii:i=n:=by omega
   have HFIN:=aI (show Vm.scan s.data.toList (n+1) 0=(toks,n) by
    have h:s.data.toList.length=n:=by rw [Vm.strLn,hsn]
    rw [← HSC.out,hii,← h,scan_len];simp)
   subst hii
   go_wp2_with fail
   go_ret2
   exact scan_end T.out HFIN.out hsn HBD.out hs (by omega)
theorem tk_at {G:List Nat} {w:World} {A:Option Addr} {toks:List Tk} (h:SlAt G w A (toks.map tokI)) (k:Nat) (hk:k < toks.length):∃ b o,A=some ⟨b,o,none⟩∧b∉G∧w.cell? ⟨b,o+k*2,none⟩=some (.int .i64 (toks[k].1:Int))∧w.cell? ⟨b,o+k*2+1,none⟩=some (.int .i64 (toks[k].2:Int)):=by
 obtain ⟨b,o,us,hA,hg,⟨u1,t1,rfl,⟨rfl,_⟩,⟨rfl,_⟩⟩,hc⟩:=h.get k (by simpa using hk)
 refine ⟨b,o,hA,hg,?_,?_⟩
 ·have:=hc 0 _ rfl;rw [List.getElem_map] at this;exact this
 ·have:=hc 1 _ rfl;rw [List.getElem_map] at this;exact this
namespace Vm
theorem piece_ext (s:ByteArray) (a e:Nat):(s.extract a e).data.toList=piece s.data.toList a e:=by
 rw [Lib.extract_data];unfold piece;rw [List.drop_take]
end Vm
theorem byte_eq {a b:ByteArray} (h:a.data.toList=b.data.toList):a=b:=by rw [str_eq h,← str_eq rfl]
namespace Sx
def swB (f:Fld):Bool :=
 if Sc.kd f=0 then within (Sc.lo f) (-most) most
 else if Sc.kd f=1 then nm (Sc.of_ f) && span (Sc.lo f) (Sc.hi f) 0 65536
 else if Sc.kd f=2 then span (Sc.lo f) (Sc.hi f) (-most) most
 else if Sc.kd f=3 then pickB (Sc.words f) (Sc.wts f)
 else if Sc.kd f=4 then (em (Sc.of_ f) || nm (Sc.of_ f)) && span (Sc.lo f) (Sc.hi f) (-most) most
 else if Sc.kd f=5 then nm (Sc.of_ f) && span (Sc.lo f) (Sc.hi f) 0 32
 else if Sc.kd f=6 then nm (Sc.of_ f)
 else if Sc.kd f=7 then nm (Sc.of_ f) && (nm (Sc.up f) && span (Sc.lo f) (Sc.hi f) 0 most)
 else if Sc.kd f=8 then nm (Sc.of_ f) && nm (Sc.up f)
 else false
theorem em_is (s:ByteArray):em s=decide (s=⟨#[]⟩):=by
 unfold em
 by_cases h:s=⟨#[]⟩
 ·rw [decide_eq_true h,h];rfl
 ·rw [decide_eq_false h]
  refine decide_eq_false fun hz=>h ?_
  exact byte_eq (by
   have:s.data.toList.length=0:=by rw [Vm.strLn];exact hz
   rw [List.length_eq_zero_iff.1 this])
theorem noW_is (f:Fld):noW f=(decide (Sc.words f=[]) && decide (Sc.wts f=[])):=by
 unfold noW
 rw [show decide ((Sc.words f).length=0)=decide (Sc.words f=[]) from by simp,show decide ((Sc.wts f).length=0)=decide (Sc.wts f=[]) from by simp]
theorem fldB_is (f:Fld):fldB f=(nm (Sc.nm f) && (sameF f (only f) && swB f)):=by
 obtain ⟨n,of_,up,kd,lo,hi,ws,ns⟩:=f
 rw [only_eq]
 unfold fldB sameF swB
 rw [noW_is,em_is,em_is]
 simp only [Sc.nm,Sc.of_,Sc.up,Sc.kd,Sc.lo,Sc.hi,Sc.words,Sc.wts]
 by_cases k0:kd=0
 ·subst k0;apply Bool.eq_iff_iff.2;simp;grind
 ·by_cases k1:kd=1
  ·subst k1;apply Bool.eq_iff_iff.2;simp;grind
  ·by_cases k2:kd=2
   ·subst k2;apply Bool.eq_iff_iff.2;simp;grind
   ·by_cases k3:kd=3
    ·subst k3;apply Bool.eq_iff_iff.2;simp;grind
    ·by_cases k4:kd=4
     ·subst k4;apply Bool.eq_iff_iff.2;simp;grind
     ·by_cases k5:kd=5
      ·subst k5;apply Bool.eq_iff_iff.2;simp;grind
      ·by_cases k6:kd=6
       ·subst k6;apply Bool.eq_iff_iff.2;simp;grind
       ·by_cases k7:kd=7
        ·subst k7;apply Bool.eq_iff_iff.2;simp;grind
        ·by_cases k8:kd=8
         ·subst k8;apply Bool.eq_iff_iff.2;simp;grind
         ·simp [k0,k1,k2,k3,k4,k5,k6,k7,k8]
end Sx
set_option maxRecDepth 100000 in
set_option maxHeartbeats 8000000 in
theorem isField_no (f:Fld) (us:List Value) (w:World) (h:Mem.rep [] w f us) (hn:Sx.nm (Sc.nm f)=false):Calls Tryz.prog 113 #[.agg us.toArray] w (BoolP (Sx.fldB f) w):=by
 obtain ⟨A,c,B,d,rfl,s1,s2,a4,a5,a6,a1,a2,a3,b1,b2,e1,e2⟩:=rep_fld h
 have HF:=aI (show Sx.fldB f=false by rw [Sx.fldB_is,hn];rfl)
 have CN:=aI (fun w=>isName_any (Sc.nm f) w a1)
 rw [hn] at CN
 show Calls Tryz.prog 113 #[.agg #[.string (Sc.nm f),.string (Sc.of_ f),.string (Sc.up f),.int .i64 (Sc.kd f),.int .i64 (Sc.lo f),.int .i64 (Sc.hi f),.slice A (Sc.words f).length c,.slice B (Sc.wts f).length d]] w _
 obtain ⟨W1,hW1⟩:∃ X,w.alloc (.cells #[.string (Sc.nm f),.string (Sc.of_ f),.string (Sc.up f),.int .i64 (Sc.kd f),.int .i64 (Sc.lo f),.int .i64 (Sc.hi f),.slice A (Sc.words f).length c,.slice B (Sc.wts f).length d] 52)=X:=⟨_,rfl⟩
 have HB:=aI (show Below w.heap.size w W1 by rw [← hW1];exact (Below.refl w.heap.size w).alloc (Nat.le_refl _) _)
 have hb:Blk W1 w.heap.size 52 #[.string (Sc.nm f),.string (Sc.of_ f),.string (Sc.up f),.int .i64 (Sc.kd f),.int .i64 (Sc.lo f),.int .i64 (Sc.hi f),.slice A (Sc.words f).length c,.slice B (Sc.wts f).length d]:=by rw [← hW1];exact Blk.new w _ _
 have c0:=hb.cell 0
 simp at c0
 have HW1:=aI hW1
 clear h s1 s2 a1 a2 a3 a4 a5 a6 b1 b2 e1 e2 hn hb hW1
 go_enter Tryz.func113,Tryz.ntmps113
 go_wp2_with fail
 rw [HW1.out]
 have hcl:=fun d os=>cell_regrown c0 d os
 refine wp_region_quiet_below (by kernel_rfl) (by kernel_rfl) ?_
 repeat (quiet_step ((go_at_call 110;exact Calls.regrown_of (CN.out _))))
 refine wpQuiet_nil ?_
 intro _ hw'
 obtain ⟨⟨dq,osq⟩,rfl⟩:=hw'
 have hb4:=below_regrown W1 dq osq
 clear hcl
 generalize Sort.grow (redrawn W1 dq) osq=w4 at hb4 ⊢
 have HB4:=aI hb4
 clear hb4
 go_wp2_with fail
 go_ret
 exact ⟨by rw [HF.out];rfl,HB.out.trans (HB4.out.mono HB.out.size)⟩
end Go.Proofs.YtmplaikgbeeikaaGreatDoor
