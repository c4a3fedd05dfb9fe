/- Parts of the proof, joined: SxEnc. -/
import Derived.Test.YtmplaikgbeeikaaGreatDoorK1
import Derived.Test.YtmplaikgbeeikaaGreatDoorK2
import Derived.WalkMore
set_option linter.unusedVariables false
set_option linter.unusedSimpArgs false
set_option linter.unusedSectionVars false
namespace Go.Proofs.YtmplaikgbeeikaaGreatDoor
open Go Go.RowKit
namespace Sx
def encB (s:ByteArray):Txt:=En.int s.size++bs s
def encS (l:List ByteArray):Txt:=En.int l.length++(l.map encB).flatten
def encF (f:Fld):Txt:=encS [Sc.nm f,Sc.of_ f,Sc.up f]++En.ints [Sc.kd f,Sc.lo f,Sc.hi f]++encS (Sc.words f)++En.ints (Sc.wts f)
def encK (k:Knd):Txt:=encB k.1++En.ints [k.2.1,k.2.2.1]++En.int (Sc.flds k).length++((Sc.flds k).map encF).flatten
def mvs (l:List (Int × Int)):List Int:=l.flatMap fun m=>[m.1,m.2]
def encL (x:Lif):Txt:=encB x.1++encS x.2.1++En.ints (mvs x.2.2)
def encR (r:Rul):Txt:=encS [r.1,r.2.1,r.2.2.1,r.2.2.2.1]++En.int r.2.2.2.2
def enc (x:Sch):Txt:=En.int x.1++En.int (Sc.kinds x).length++((Sc.kinds x).map encK).flatten++En.int x.2.2.1.length++(x.2.2.1.map encL).flatten++En.int x.2.2.2.length++(x.2.2.2.map encR).flatten
end Sx
end Go.Proofs.YtmplaikgbeeikaaGreatDoor
