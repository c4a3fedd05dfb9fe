/- Parts of the proof, joined: SxB0, SxB1, SxEnc. -/
import Derived.Test.YtmplaikgbeeikaaGreatDoorR2
import Derived.Test.YtmplaikgbeeikaaGreatDoorR14
import Derived.Test.YtmplaikgbeeikaaGreatDoorR15
import Derived.Test.YtmplaikgbeeikaaGreatDoorR16
import Derived.WalkLawsBesides
import Derived.WalkMore
set_option linter.unusedVariables false
set_option linter.unusedSimpArgs false
set_option linter.unusedSectionVars false
namespace Go.Proofs.YtmplaikgbeeikaaGreatDoor
open Go Go.RowKit
def GSchP (w:World) (e:Ending) (w':World):Prop:=∃ (x:Sch) (A:Option Addr) (c:Nat) (B:Option Addr) (d:Nat) (C:Option Addr) (f nk nl nr:Nat),e=.returned (.agg #[.int .i64 x.1,.slice A nk c,.slice B nl d,.slice C nr f])∧Sx.valid x=0∧Mem.rep [] w' x [.int .i64 x.1,.slice A nk c,.slice B nl d,.slice C nr f]∧Below w.heap.size w w'
theorem gsch_any (l:List Int) (A:Option Addr) (c:Nat) (w:World) (hs:SlAt [] w A l) (hc:l.length≤c) (hm:c≤9223372036854775807):Calls Tryz.prog 9 #[.slice A l.length c] w (GSchP w):=by
 refine (gschema_any l A c w hs hc hm).mono ?_
 rintro e w' ⟨x,v,rfl,hx,⟨us,rfl,hr⟩,hb⟩
 obtain ⟨A1,c1,A2,c2,A3,c3,rfl,_⟩:=rep_sch hr
 exact ⟨x,A1,c1,A2,c2,A3,c3,_,_,_,rfl,hx.valid,hr,hb⟩
end Go.Proofs.YtmplaikgbeeikaaGreatDoor
namespace Go.Proofs.YtmplaikgbeeikaaGreatDoor
open Go Go.RowKit
theorem pparse_open (s:ByteArray) (w:World) (hs:s.size≤9223372036854775807) (he:SEnv w) {x:Sch} {k e:Int} (hp:Sx.parse s.data.toList=(x,k,e)):Calls Tryz.prog 13 #[.string s] w fun e' w'=>∃ (A:Option Addr) (c:Nat) (B:Option Addr) (d:Nat) (C:Option Addr) (f nk nl nr:Nat),e'=.returned (.tuple #[.agg #[.int .i64 x.1,.slice A nk c,.slice B nl d,.slice C nr f],.int .i64 k,.int .i64 e])∧Mem.rep [] w' x [.int .i64 x.1,.slice A nk c,.slice B nl d,.slice C nr f]∧Below w.heap.size w w':=by
 refine (pparse_any s w hs he).mono ?_
 rintro e' w' ⟨us,h1,h2,h3⟩
 rw [hp] at h1 h2
 obtain ⟨A,c,B,d,C,f,rfl,_⟩:=rep_sch h2
 exact ⟨A,c,B,d,C,f,_,_,_,h1,h2,h3⟩
namespace Sx
def encB (s:ByteArray):Txt:=En.int s.size++bs s
def encS (l:List ByteArray):Txt:=En.int l.length++(l.map encB).flatten
def encF (f:Fld):Txt:=encS [Sc.nm f,Sc.of_ f,Sc.up f]++En.ints [Sc.kd f,Sc.lo f,Sc.hi f]++encS (Sc.words f)++En.ints (Sc.wts f)
def encK (k:Knd):Txt:=encB k.1++En.ints [k.2.1,k.2.2.1]++En.int (Sc.flds k).length++((Sc.flds k).map encF).flatten
def mvs (l:List (Int × Int)):List Int:=l.flatMap fun m=>[m.1,m.2]
def encL (x:Lif):Txt:=encB x.1++encS x.2.1++En.ints (mvs x.2.2)
def encR (r:Rul):Txt:=encS [r.1,r.2.1,r.2.2.1,r.2.2.2.1]++En.int r.2.2.2.2
def enc (x:Sch):Txt:=En.int x.1++En.int (Sc.kinds x).length++((Sc.kinds x).map encK).flatten++En.int x.2.2.1.length++(x.2.2.1.map encL).flatten++En.int x.2.2.2.length++(x.2.2.2.map encR).flatten
end Sx
end Go.Proofs.YtmplaikgbeeikaaGreatDoor
