/- Parts of the proof, joined: SxB4, SxRp, SxB5, SxMet. -/
import Derived.Test.YtmplaikgbeeikaaGreatDoorK2
import Derived.Test.YtmplaikgbeeikaaGreatDoorK4
import Derived.Test.YtmplaikgbeeikaaGreatDoorK17
import Derived.Test.YtmplaikgbeeikaaGreatDoorK24
import Derived.Test.YtmplaikgbeeikaaGreatDoorK26
import Derived.Test.YtmplaikgbeeikaaGreatDoorK27
import Derived.Test.YtmplaikgbeeikaaGreatDoorCards
import Derived.Test.YtmplaikgbeeikaaGreatDoorTie
import Derived.Laws.BytesArg
import Derived.Carry
import Derived.ChangeSlices
import Derived.Lib.SmallJoins
import Derived.WalkKit
import Derived.ProofKit
import Derived.OpenShut
import Derived.LaidMore
import Derived.Lay
import Derived.LaidOnce
import Derived.Stop.LaidErr
import Derived.Deep.DeepHandedRow
import Derived.Deep.DeepWitnessRowRef
import Derived.Lib.LaidTab
import Derived.Below
import Derived.ChangeSame
set_option linter.unusedVariables false
set_option linter.unusedSimpArgs false
set_option linter.unusedSectionVars false
namespace Go.Proofs.YtmplaikgbeeikaaGreatDoor
open Go Go.RowKit
theorem rparse_open (s:ByteArray) (w:World) (hs:s.size≤9223372036854775807) {x:Sch} {k e:Int} (hp:Sx.parse s.data.toList=(x,k,e)):Calls Tryz.prog 14 #[.string s] w fun e' w'=>∃ (A:Option Addr) (c:Nat) (B:Option Addr) (d:Nat) (C:Option Addr) (f nk nl nr:Nat),e'=.returned (.tuple #[.agg #[.int .i64 x.1,.slice A nk c,.slice B nl d,.slice C nr f],.int .i64 k,.int .i64 e])∧Mem.rep [] w' x [.int .i64 x.1,.slice A nk c,.slice B nl d,.slice C nr f]∧Below w.heap.size w w':=by
 refine (rparse9_any s w hs).mono ?_
 rintro e' w' ⟨us,h1,h2,h3⟩
 rw [hp] at h1 h2
 obtain ⟨A,c,B,d,C,f,rfl,_⟩:=rep_sch h2
 exact ⟨A,c,B,d,C,f,_,_,_,h1,h2,h3⟩
theorem flat_strsC {G:List Nat} {w:World}:∀ {l:List ByteArray},(∀ t∈l,t.size≤9223372036854775807)→Flat G w l (l.map Value.string)
 | [],_=>rfl
 | t::l,h=>⟨[.string t],l.map Value.string,rfl,⟨rfl,h t (.head _)⟩,flat_strsC fun s hs=>h s (.tail _ hs)⟩
end Go.Proofs.YtmplaikgbeeikaaGreatDoor
namespace Go.Proofs.YtmplaikgbeeikaaGreatDoor
open Go Go.RowKit
set_option maxRecDepth 100000 in
set_option maxHeartbeats 8000000 in
theorem repeated_any (s:ByteArray) (n:Int) (w:World) (hs:s.size≤1000) (hn0:-9223372036854775808≤n) (hn:n≤9000):Calls Tryz.prog 18 #[.string s,.int .i64 n] w (StrP 9000000 w):=by
 obtain ⟨i0,hi,hz0,hz1,hz2⟩:=info_parts infoU8
 have T:=aI (HRow.start (e:=5) (size:=1) (held0 w [] (fun _ h=>by cases h)))
 have HCV:=aI (conv_bytes s)
 have hl:s.data.toList.length=s.size:=by rw [Vm.strLn]
 have HLN:=aI hl
 obtain ⟨m,hm⟩:∃ m,n.toNat=m:=⟨_,rfl⟩
 clear hl
 unfold StrP
 go_enter Tryz.func18,Tryz.ntmps18
 go_wp2_with fail
 go_loopg [5,6] m (fun r v i wr=>∃ (k:Nat) (M:List Nat) (acc:List UInt8),k+r=m∧i=.int .i64 k∧acc.length≤1000*k∧HRow w [] M [] [] 5 1 v acc.length (byteVals acc) wr)
 case atStart=>exact ⟨0,_,[],by omega,rfl,by simp,T.out⟩
 case round =>
  obtain ⟨k,M,acc,hk,rfl,hal,hH⟩:=hrel
  obtain ⟨wo,rfl⟩:∃ wo:World,wo=wr:=⟨_,rfl⟩
  replace T:=aI hH
  clear hH
  by_cases hlt:(k:Int) < n
  ·obtain ⟨W4,cp,hcv,hb4,hrd⟩:=HCV.out wo
   replace T:=aI (T.out.below hb4)
   have HR:=aI hrd
   have HEQ:=aI (show acc.length+s.size=(acc++s.data.toList).length by rw [aK,HLN.out])
   clear hb4 hrd
   go_wp2_with (at_builtin;refine wpList_append_row (by rfl) _ _ 73 (by rfl) 5 i0 _ 1 1 Tryz.underlying73 hi hz0 hz1 hz2 rfl (by decide) T.out (by rfl) _ _ s.size _ (byteVals s.data.toList) (by rfl) HR.out (byteVals_one _) (by unfold maxLen;omega) (by omega) ?_;intro v5 w5 M5 h5 _;rw [← byteVals_append,HEQ.out] at h5;replace T:=aI h5;clear h5)
   go_roundg (gk - 1)
   case measure=>omega
   case rel=>exact ⟨k+1,_,acc++s.data.toList,by omega,by go_num,by rw [← HEQ.out];omega,T.out⟩
  ·obtain ⟨A,c,hv,hc1,hc2,hF⟩:=T.out.freeze (l:=acc) rfl rfl (flat_bytes acc) (fun _ h=>by cases h)
   subst hv
   have hle:acc.length≤9000000:=by omega
   have hcv:∃ t:ByteArray,(convert 73 9 (.slice A acc.length c)).run Tryz.prog wo=.ok (.string t) wo∧t.size=acc.length:=by
    rcases A with _ | ⟨b,o,f⟩
    ·rcases hF.fact (.head _) with h | ⟨b,o,h,_⟩
     ·subst h
      exact ⟨⟨#[]⟩,run_convert_bytes_nil (P:=Tryz.prog) (w:=wo) 73 5 Tryz.underlying73 Tryz.underlying5 _ c 9 Tryz.underlying9,rfl⟩
     ·cases h
    ·refine ⟨⟨acc.toArray⟩,run_convert_bytes_back wo 73 9 5 _ c acc Tryz.underlying73 Tryz.underlying5 Tryz.underlying9 (fun j hj=>?_),List.size_toArray⟩
     obtain ⟨b',o',h1,_,h2⟩:=byte_at (hF.fact (.head _)) j hj
     injection h1 with h1
     rw [h1,Addr.add_lit];exact h2
   obtain ⟨t,hcv,hts⟩:=hcv
   have HB:=aI hF.bl
   have HTS:=aI hts
   clear hF hts
   go_wp2_with fail
   go_ret
   exact ⟨t,rfl,by rw [HTS.out];exact hle,HB.out⟩
def limNums:Array Value:=#[.string ⟨#[49,48,52,56,53,55,54]⟩,.string ⟨#[49,48,52,56,53,55,55]⟩,.string ⟨#[45,49,48,52,56,53,55,54]⟩,.string ⟨#[45,49,48,52,56,53,55,55]⟩,.string ⟨#[54,53,53,51,54]⟩,.string ⟨#[54,53,53,51,55]⟩,.string ⟨#[51,50]⟩,.string ⟨#[51,51]⟩,.string ⟨#[45,48]⟩,.string ⟨#[48,48,55]⟩]
theorem limNums_at (z:Nat) (h:z < 10):∃ u:ByteArray,limNums[z]?=some (.string u)∧u.size≤8:=by
 match z,h with
 | 0,_ | 1,_ | 2,_ | 3,_ | 4,_ | 5,_ | 6,_ | 7,_ | 8,_ | 9,_=>exact ⟨_,rfl,by decide⟩
 | n+10,h=>exact absurd h (by omega)
set_option maxRecDepth 100000 in
set_option maxHeartbeats 16000000 in
theorem law_limits (n_ k_:Int) (tail:ByteArray) (w:World) (he:SEnv w) (h1:inI n_) (h2:inI k_) (h4:tail.size≤9223372036854775807) :
  Calls Tryz.prog 4 #[.int .i64 n_,.int .i64 k_,.string tail] w fun e w'=>e=.returned (.bool true)∧Below w.heap.size w w':=by
 have CA:=aI (fun W=>around_any n_ 15 W h1.1 h1.2)
 have CB:=aI (fun W=>around_any k_ 14 W h2.1 h2.2)
 have CD:=aI (fun W=>around_any n_ 10 W h1.1 h1.2)
 have b15:=around_bd n_ 15 (by omega)
 have b14:=around_bd k_ 14 (by omega)
 have b10:=around_bd n_ 10 (by omega)
 obtain ⟨r15,hr15⟩:∃ z,around n_ 15=z:=⟨_,rfl⟩
 obtain ⟨r14,hr14⟩:∃ z,around k_ 14=z:=⟨_,rfl⟩
 obtain ⟨z,hz⟩:∃ z:Nat,around n_ 10=z:=⟨(around n_ 10).toNat,by omega⟩
 rw [hr15] at CA b15
 rw [hr14] at CB b14
 rw [hz] at CD b10
 obtain ⟨num,hu,hu10⟩:=limNums_at z (by omega)
 have HU:=aI hu10
 have HUW:=aI hu
 have CSH:=aI (fun W=>(show Calls Tryz.prog 12 #[.string tail,.int .i64 20] W _ from short_any 20 (by omega) tail W h4))
 have hfew:=short_le 20 tail
 obtain ⟨few,hfe⟩:∃ z,shortB 20 tail=z:=⟨_,rfl⟩
 rw [hfe] at hfew CSH
 have CL:=aI (fun (W:World) (hb:Below w.heap.size w W)=>lives_any W (he.to hb))
 have CP:=aI (fun (s:ByteArray) (x:Sch) (k e:Int) (W:World) (hb:Below w.heap.size w W) (hs:s.size≤9223372036854775807) (hp:Sx.parse s.data.toList=(x,k,e))=>pparse_open s W hs (he.to hb) hp)
 have CRP:=aI (fun (s:ByteArray) (x:Sch) (k e:Int) (W:World) (hs:s.size≤9223372036854775807) (hp:Sx.parse s.data.toList=(x,k,e))=>rparse_open s W hs hp)
 have CSM:=aI (fun (x:Sch) (us vs:List Value) (W:World) (h:Mem.rep [] W x us) (k:Mem.rep [] W x vs) (OB:Sx.OB x)=>rsame_any x us vs W h k OB)
 have CRE:=aI (fun (s:ByteArray) (n:Int) (W:World) (hs:s.size≤1000) (hn:0≤n∧n≤9000)=>repeated_any s n W hs (by omega) hn.2)
 unfold StrP at CRE
 have HB:=aI (Below.refl w.heap.size w)
 obtain ⟨b15a,b15b⟩:=b15
 obtain ⟨b14a,b14b⟩:=b14
 have z1:(z:Int) < 10:=b10.2
 have z0:(0:Int)≤(z:Int):=by omega
 clear he h1 h2 h4 hfe hr15 hr14 hz hu hu10 b10
 go_enter Tryz.func4,Tryz.ntmps4
 go_upto_region 3 with (first | (go_at_call 17;((with_reducible refine (CA.out _).mono ?_));rintro e w2 ⟨rfl,rfl⟩) | (go_at_call 17;((with_reducible refine (CB.out _).mono ?_));rintro e w2 ⟨rfl,rfl⟩))
 have q:=(Blk.new w 9 limNums).cell z
 rw [HUW.out] at q
 unfold limNums at q
 go_upto_region 4 with (go_at_call 17;((with_reducible refine (CD.out _).mono ?_));rintro e w2 ⟨rfl,rfl⟩)
 have HB2:=aI (HB.out.alloc HB.out.size (.cells limNums 9))
 unfold limNums at HB2
 clear q HB
 generalize hW:w.alloc _=w2 at HB2 ⊢
 clear hW
 have nu:num.size≤8:=HU.out
 go_upto_region 6 with (first | (go_at_call 18;((with_reducible refine (CRE.out ⟨#[32]⟩ _ _ (by decide) (by omega)).mono ?_));rintro e w3 ⟨t0,rfl,ht0,hb⟩;replace HB2:=aI (HB2.out.trans (hb.mono HB2.out.size));clear hb) | (go_at_call 18;((with_reducible refine (CRE.out ⟨#[32,107,105,110,100,32,97,32,48,32,49]⟩ _ _ (by decide) (by omega)).mono ?_));rintro e w4 ⟨t1,rfl,ht1,hb⟩;replace HB2:=aI (HB2.out.trans (hb.mono HB2.out.size));clear hb) | (go_at_call 18;((with_reducible refine (CRE.out ⟨#[107,101,121,32,107,32,49,32]⟩ _ _ (by decide) (by omega)).mono ?_));rintro e w5 ⟨t2,rfl,ht2,hb⟩;replace HB2:=aI (HB2.out.trans (hb.mono HB2.out.size));clear hb) | (go_at_call 18;((with_reducible refine (CRE.out ⟨#[32,109,111,118,101,32,48,32,48]⟩ _ _ (by decide) (by omega)).mono ?_));rintro e w6 ⟨t3,rfl,ht3,hb⟩;replace HB2:=aI (HB2.out.trans (hb.mono HB2.out.size));clear hb) | (go_at_call 18;((with_reducible refine (CRE.out ⟨#[32,114,117,108,101,32,114,32,97,32,120,32,45,32,49]⟩ _ _ (by decide) (by omega)).mono ?_));rintro e w7 ⟨t4,rfl,ht4,hb⟩;replace HB2:=aI (HB2.out.trans (hb.mono HB2.out.size));clear hb) | (go_at_call 18;((with_reducible refine (CRE.out _ _ _ (by decide) (by omega)).mono ?_));rintro e w8 ⟨t5,rfl,ht5,hb⟩;replace HB2:=aI (HB2.out.trans (hb.mono HB2.out.size));clear hb) | (go_at_call 12;((with_reducible refine (CSH.out _).mono ?_));rintro e w9 ⟨rfl,rfl⟩))
 have HTS:=aI (show ∀ q9∈[((⟨#[115,99,104,101,109,97,32,49]⟩:ByteArray)++t0),((⟨#[115,99,104,101,109,97,32]⟩:ByteArray)++num),((⟨#[115,99,104,101,109,97,32,49]⟩:ByteArray)++t1),((⟨#[115,99,104,101,109,97,32,49,32,107,105,110,100,32,97,32,48,32,57,32]⟩:ByteArray)++t2),((⟨#[115,99,104,101,109,97,32,49,32,107,105,110,100,32,97,32,48,32,57,32]⟩:ByteArray)++(⟨#[110,117,109,32,110,32]⟩:ByteArray)++num++(⟨#[32,49,48,52,56,53,55,54]⟩:ByteArray)),((⟨#[115,99,104,101,109,97,32,49,32,107,105,110,100,32,97,32,48,32,57,32]⟩:ByteArray)++(⟨#[100,97,121,32,100,32,45,32]⟩:ByteArray)++num++(⟨#[32,55,48,48,48,48]⟩:ByteArray)),((⟨#[115,99,104,101,109,97,32,49,32,107,105,110,100,32,97,32,48,32,57,32]⟩:ByteArray)++(⟨#[114,101,102,32,114,32,97,32,48,32]⟩:ByteArray)++num),((⟨#[115,99,104,101,109,97,32,49,32,107,105,110,100,32,97,32,48,32,57,32]⟩:ByteArray)++(⟨#[115,116,101,112,32,115,32,108,32,48,32]⟩:ByteArray)++num),((⟨#[115,99,104,101,109,97,32,49,32,107,105,110,100,32,97,32,48,32,57,32]⟩:ByteArray)++(⟨#[115,104,97,114,101,32,115,32,117,32,111,32,48,32]⟩:ByteArray)++num),((⟨#[115,99,104,101,109,97,32,49,32,107,105,110,100,32,97,32,48,32,57,32]⟩:ByteArray)++(⟨#[112,105,99,107,32,112,32,49,32,119,32]⟩:ByteArray)++num),((⟨#[115,99,104,101,109,97,32,49,32,107,105,110,100,32,97,32,48,32,57,32]⟩:ByteArray)++(⟨#[112,105,99,107,32,112,32]⟩:ByteArray)++num++(⟨#[32,119,32,49]⟩:ByteArray)),((⟨#[115,99,104,101,109,97,32,49,32,107,105,110,100,32,97,32,48,32,57,32]⟩:ByteArray)++(⟨#[108,105,102,101,32,108,32,49,32,115]⟩:ByteArray)++t3),((⟨#[115,99,104,101,109,97,32,49,32,107,105,110,100,32,97,32,48,32,57,32]⟩:ByteArray)++(⟨#[108,105,102,101,32,108,32,50,32,115,32,116,32,109,111,118,101,32,48,32]⟩:ByteArray)++num),((⟨#[115,99,104,101,109,97,32,49]⟩:ByteArray)++t4),((⟨#[115,99,104,101,109,97,32,49,32,107,105,110,100,32,97,32,48,32,57,32]⟩:ByteArray)++(⟨#[114,117,108,101,32,114,32,97,32,45,32,45,32,49]⟩:ByteArray)),((⟨#[115,99,104,101,109,97,32,49,32]⟩:ByteArray)++t5),((⟨#[115,99,104,101,109,97,32,49,32,107,105,110,100,32,97,32,48,32,57,32]⟩:ByteArray)++few)],q9.size≤9223372036854775807 from fun q9 ht=>by
  simp only [List.mem_cons,List.not_mem_nil,or_false] at ht
  rcases ht with rfl | rfl | rfl | rfl | rfl | rfl | rfl | rfl | rfl | rfl | rfl | rfl | rfl | rfl | rfl | rfl | rfl <;> (simp only [ByteArray.size_append,show (⟨#[115,99,104,101,109,97,32,49]⟩:ByteArray).size=8 from rfl,show (⟨#[115,99,104,101,109,97,32]⟩:ByteArray).size=7 from rfl,show (⟨#[115,99,104,101,109,97,32,49,32,107,105,110,100,32,97,32,48,32,57,32]⟩:ByteArray).size=20 from rfl,show (⟨#[110,117,109,32,110,32]⟩:ByteArray).size=6 from rfl,show (⟨#[32,49,48,52,56,53,55,54]⟩:ByteArray).size=8 from rfl,show (⟨#[100,97,121,32,100,32,45,32]⟩:ByteArray).size=8 from rfl,show (⟨#[32,55,48,48,48,48]⟩:ByteArray).size=6 from rfl,show (⟨#[114,101,102,32,114,32,97,32,48,32]⟩:ByteArray).size=10 from rfl,show (⟨#[115,116,101,112,32,115,32,108,32,48,32]⟩:ByteArray).size=11 from rfl,show (⟨#[115,104,97,114,101,32,115,32,117,32,111,32,48,32]⟩:ByteArray).size=14 from rfl,show (⟨#[112,105,99,107,32,112,32,49,32,119,32]⟩:ByteArray).size=11 from rfl,show (⟨#[112,105,99,107,32,112,32]⟩:ByteArray).size=7 from rfl,show (⟨#[32,119,32,49]⟩:ByteArray).size=4 from rfl,show (⟨#[108,105,102,101,32,108,32,49,32,115]⟩:ByteArray).size=10 from rfl,show (⟨#[108,105,102,101,32,108,32,50,32,115,32,116,32,109,111,118,101,32,48,32]⟩:ByteArray).size=20 from rfl,show (⟨#[114,117,108,101,32,114,32,97,32,45,32,45,32,49]⟩:ByteArray).size=14 from rfl,show (⟨#[115,99,104,101,109,97,32,49,32]⟩:ByteArray).size=9 from rfl];omega))
 have HSL:=aI (show SlAt [] (w8.alloc (.cells #[.string ((⟨#[115,99,104,101,109,97,32,49]⟩:ByteArray)++t0),.string ((⟨#[115,99,104,101,109,97,32]⟩:ByteArray)++num),.string ((⟨#[115,99,104,101,109,97,32,49]⟩:ByteArray)++t1),.string ((⟨#[115,99,104,101,109,97,32,49,32,107,105,110,100,32,97,32,48,32,57,32]⟩:ByteArray)++t2),.string ((⟨#[115,99,104,101,109,97,32,49,32,107,105,110,100,32,97,32,48,32,57,32]⟩:ByteArray)++(⟨#[110,117,109,32,110,32]⟩:ByteArray)++num++(⟨#[32,49,48,52,56,53,55,54]⟩:ByteArray)),.string ((⟨#[115,99,104,101,109,97,32,49,32,107,105,110,100,32,97,32,48,32,57,32]⟩:ByteArray)++(⟨#[100,97,121,32,100,32,45,32]⟩:ByteArray)++num++(⟨#[32,55,48,48,48,48]⟩:ByteArray)),.string ((⟨#[115,99,104,101,109,97,32,49,32,107,105,110,100,32,97,32,48,32,57,32]⟩:ByteArray)++(⟨#[114,101,102,32,114,32,97,32,48,32]⟩:ByteArray)++num),.string ((⟨#[115,99,104,101,109,97,32,49,32,107,105,110,100,32,97,32,48,32,57,32]⟩:ByteArray)++(⟨#[115,116,101,112,32,115,32,108,32,48,32]⟩:ByteArray)++num),.string ((⟨#[115,99,104,101,109,97,32,49,32,107,105,110,100,32,97,32,48,32,57,32]⟩:ByteArray)++(⟨#[115,104,97,114,101,32,115,32,117,32,111,32,48,32]⟩:ByteArray)++num),.string ((⟨#[115,99,104,101,109,97,32,49,32,107,105,110,100,32,97,32,48,32,57,32]⟩:ByteArray)++(⟨#[112,105,99,107,32,112,32,49,32,119,32]⟩:ByteArray)++num),.string ((⟨#[115,99,104,101,109,97,32,49,32,107,105,110,100,32,97,32,48,32,57,32]⟩:ByteArray)++(⟨#[112,105,99,107,32,112,32]⟩:ByteArray)++num++(⟨#[32,119,32,49]⟩:ByteArray)),.string ((⟨#[115,99,104,101,109,97,32,49,32,107,105,110,100,32,97,32,48,32,57,32]⟩:ByteArray)++(⟨#[108,105,102,101,32,108,32,49,32,115]⟩:ByteArray)++t3),.string ((⟨#[115,99,104,101,109,97,32,49,32,107,105,110,100,32,97,32,48,32,57,32]⟩:ByteArray)++(⟨#[108,105,102,101,32,108,32,50,32,115,32,116,32,109,111,118,101,32,48,32]⟩:ByteArray)++num),.string ((⟨#[115,99,104,101,109,97,32,49]⟩:ByteArray)++t4),.string ((⟨#[115,99,104,101,109,97,32,49,32,107,105,110,100,32,97,32,48,32,57,32]⟩:ByteArray)++(⟨#[114,117,108,101,32,114,32,97,32,45,32,45,32,49]⟩:ByteArray)),.string ((⟨#[115,99,104,101,109,97,32,49,32]⟩:ByteArray)++t5),.string ((⟨#[115,99,104,101,109,97,32,49,32,107,105,110,100,32,97,32,48,32,57,32]⟩:ByteArray)++few)] 9)) (some ⟨w8.heap.size,0,none⟩) [((⟨#[115,99,104,101,109,97,32,49]⟩:ByteArray)++t0),((⟨#[115,99,104,101,109,97,32]⟩:ByteArray)++num),((⟨#[115,99,104,101,109,97,32,49]⟩:ByteArray)++t1),((⟨#[115,99,104,101,109,97,32,49,32,107,105,110,100,32,97,32,48,32,57,32]⟩:ByteArray)++t2),((⟨#[115,99,104,101,109,97,32,49,32,107,105,110,100,32,97,32,48,32,57,32]⟩:ByteArray)++(⟨#[110,117,109,32,110,32]⟩:ByteArray)++num++(⟨#[32,49,48,52,56,53,55,54]⟩:ByteArray)),((⟨#[115,99,104,101,109,97,32,49,32,107,105,110,100,32,97,32,48,32,57,32]⟩:ByteArray)++(⟨#[100,97,121,32,100,32,45,32]⟩:ByteArray)++num++(⟨#[32,55,48,48,48,48]⟩:ByteArray)),((⟨#[115,99,104,101,109,97,32,49,32,107,105,110,100,32,97,32,48,32,57,32]⟩:ByteArray)++(⟨#[114,101,102,32,114,32,97,32,48,32]⟩:ByteArray)++num),((⟨#[115,99,104,101,109,97,32,49,32,107,105,110,100,32,97,32,48,32,57,32]⟩:ByteArray)++(⟨#[115,116,101,112,32,115,32,108,32,48,32]⟩:ByteArray)++num),((⟨#[115,99,104,101,109,97,32,49,32,107,105,110,100,32,97,32,48,32,57,32]⟩:ByteArray)++(⟨#[115,104,97,114,101,32,115,32,117,32,111,32,48,32]⟩:ByteArray)++num),((⟨#[115,99,104,101,109,97,32,49,32,107,105,110,100,32,97,32,48,32,57,32]⟩:ByteArray)++(⟨#[112,105,99,107,32,112,32,49,32,119,32]⟩:ByteArray)++num),((⟨#[115,99,104,101,109,97,32,49,32,107,105,110,100,32,97,32,48,32,57,32]⟩:ByteArray)++(⟨#[112,105,99,107,32,112,32]⟩:ByteArray)++num++(⟨#[32,119,32,49]⟩:ByteArray)),((⟨#[115,99,104,101,109,97,32,49,32,107,105,110,100,32,97,32,48,32,57,32]⟩:ByteArray)++(⟨#[108,105,102,101,32,108,32,49,32,115]⟩:ByteArray)++t3),((⟨#[115,99,104,101,109,97,32,49,32,107,105,110,100,32,97,32,48,32,57,32]⟩:ByteArray)++(⟨#[108,105,102,101,32,108,32,50,32,115,32,116,32,109,111,118,101,32,48,32]⟩:ByteArray)++num),((⟨#[115,99,104,101,109,97,32,49]⟩:ByteArray)++t4),((⟨#[115,99,104,101,109,97,32,49,32,107,105,110,100,32,97,32,48,32,57,32]⟩:ByteArray)++(⟨#[114,117,108,101,32,114,32,97,32,45,32,45,32,49]⟩:ByteArray)),((⟨#[115,99,104,101,109,97,32,49,32]⟩:ByteArray)++t5),((⟨#[115,99,104,101,109,97,32,49,32,107,105,110,100,32,97,32,48,32,57,32]⟩:ByteArray)++few)] from SlAt.of_blk (flat_strsC (l:=[((⟨#[115,99,104,101,109,97,32,49]⟩:ByteArray)++t0),((⟨#[115,99,104,101,109,97,32]⟩:ByteArray)++num),((⟨#[115,99,104,101,109,97,32,49]⟩:ByteArray)++t1),((⟨#[115,99,104,101,109,97,32,49,32,107,105,110,100,32,97,32,48,32,57,32]⟩:ByteArray)++t2),((⟨#[115,99,104,101,109,97,32,49,32,107,105,110,100,32,97,32,48,32,57,32]⟩:ByteArray)++(⟨#[110,117,109,32,110,32]⟩:ByteArray)++num++(⟨#[32,49,48,52,56,53,55,54]⟩:ByteArray)),((⟨#[115,99,104,101,109,97,32,49,32,107,105,110,100,32,97,32,48,32,57,32]⟩:ByteArray)++(⟨#[100,97,121,32,100,32,45,32]⟩:ByteArray)++num++(⟨#[32,55,48,48,48,48]⟩:ByteArray)),((⟨#[115,99,104,101,109,97,32,49,32,107,105,110,100,32,97,32,48,32,57,32]⟩:ByteArray)++(⟨#[114,101,102,32,114,32,97,32,48,32]⟩:ByteArray)++num),((⟨#[115,99,104,101,109,97,32,49,32,107,105,110,100,32,97,32,48,32,57,32]⟩:ByteArray)++(⟨#[115,116,101,112,32,115,32,108,32,48,32]⟩:ByteArray)++num),((⟨#[115,99,104,101,109,97,32,49,32,107,105,110,100,32,97,32,48,32,57,32]⟩:ByteArray)++(⟨#[115,104,97,114,101,32,115,32,117,32,111,32,48,32]⟩:ByteArray)++num),((⟨#[115,99,104,101,109,97,32,49,32,107,105,110,100,32,97,32,48,32,57,32]⟩:ByteArray)++(⟨#[112,105,99,107,32,112,32,49,32,119,32]⟩:ByteArray)++num),((⟨#[115,99,104,101,109,97,32,49,32,107,105,110,100,32,97,32,48,32,57,32]⟩:ByteArray)++(⟨#[112,105,99,107,32,112,32]⟩:ByteArray)++num++(⟨#[32,119,32,49]⟩:ByteArray)),((⟨#[115,99,104,101,109,97,32,49,32,107,105,110,100,32,97,32,48,32,57,32]⟩:ByteArray)++(⟨#[108,105,102,101,32,108,32,49,32,115]⟩:ByteArray)++t3),((⟨#[115,99,104,101,109,97,32,49,32,107,105,110,100,32,97,32,48,32,57,32]⟩:ByteArray)++(⟨#[108,105,102,101,32,108,32,50,32,115,32,116,32,109,111,118,101,32,48,32]⟩:ByteArray)++num),((⟨#[115,99,104,101,109,97,32,49]⟩:ByteArray)++t4),((⟨#[115,99,104,101,109,97,32,49,32,107,105,110,100,32,97,32,48,32,57,32]⟩:ByteArray)++(⟨#[114,117,108,101,32,114,32,97,32,45,32,45,32,49]⟩:ByteArray)),((⟨#[115,99,104,101,109,97,32,49,32]⟩:ByteArray)++t5),((⟨#[115,99,104,101,109,97,32,49,32,107,105,110,100,32,97,32,48,32,57,32]⟩:ByteArray)++few)]) HTS.out) (Blk.new _ _ _) (by simp))
 replace HB2:=aI (HB2.out.alloc HB2.out.size (.cells #[.string ((⟨#[115,99,104,101,109,97,32,49]⟩:ByteArray)++t0),.string ((⟨#[115,99,104,101,109,97,32]⟩:ByteArray)++num),.string ((⟨#[115,99,104,101,109,97,32,49]⟩:ByteArray)++t1),.string ((⟨#[115,99,104,101,109,97,32,49,32,107,105,110,100,32,97,32,48,32,57,32]⟩:ByteArray)++t2),.string ((⟨#[115,99,104,101,109,97,32,49,32,107,105,110,100,32,97,32,48,32,57,32]⟩:ByteArray)++(⟨#[110,117,109,32,110,32]⟩:ByteArray)++num++(⟨#[32,49,48,52,56,53,55,54]⟩:ByteArray)),.string ((⟨#[115,99,104,101,109,97,32,49,32,107,105,110,100,32,97,32,48,32,57,32]⟩:ByteArray)++(⟨#[100,97,121,32,100,32,45,32]⟩:ByteArray)++num++(⟨#[32,55,48,48,48,48]⟩:ByteArray)),.string ((⟨#[115,99,104,101,109,97,32,49,32,107,105,110,100,32,97,32,48,32,57,32]⟩:ByteArray)++(⟨#[114,101,102,32,114,32,97,32,48,32]⟩:ByteArray)++num),.string ((⟨#[115,99,104,101,109,97,32,49,32,107,105,110,100,32,97,32,48,32,57,32]⟩:ByteArray)++(⟨#[115,116,101,112,32,115,32,108,32,48,32]⟩:ByteArray)++num),.string ((⟨#[115,99,104,101,109,97,32,49,32,107,105,110,100,32,97,32,48,32,57,32]⟩:ByteArray)++(⟨#[115,104,97,114,101,32,115,32,117,32,111,32,48,32]⟩:ByteArray)++num),.string ((⟨#[115,99,104,101,109,97,32,49,32,107,105,110,100,32,97,32,48,32,57,32]⟩:ByteArray)++(⟨#[112,105,99,107,32,112,32,49,32,119,32]⟩:ByteArray)++num),.string ((⟨#[115,99,104,101,109,97,32,49,32,107,105,110,100,32,97,32,48,32,57,32]⟩:ByteArray)++(⟨#[112,105,99,107,32,112,32]⟩:ByteArray)++num++(⟨#[32,119,32,49]⟩:ByteArray)),.string ((⟨#[115,99,104,101,109,97,32,49,32,107,105,110,100,32,97,32,48,32,57,32]⟩:ByteArray)++(⟨#[108,105,102,101,32,108,32,49,32,115]⟩:ByteArray)++t3),.string ((⟨#[115,99,104,101,109,97,32,49,32,107,105,110,100,32,97,32,48,32,57,32]⟩:ByteArray)++(⟨#[108,105,102,101,32,108,32,50,32,115,32,116,32,109,111,118,101,32,48,32]⟩:ByteArray)++num),.string ((⟨#[115,99,104,101,109,97,32,49]⟩:ByteArray)++t4),.string ((⟨#[115,99,104,101,109,97,32,49,32,107,105,110,100,32,97,32,48,32,57,32]⟩:ByteArray)++(⟨#[114,117,108,101,32,114,32,97,32,45,32,45,32,49]⟩:ByteArray)),.string ((⟨#[115,99,104,101,109,97,32,49,32]⟩:ByteArray)++t5),.string ((⟨#[115,99,104,101,109,97,32,49,32,107,105,110,100,32,97,32,48,32,57,32]⟩:ByteArray)++few)] 9))
 generalize w8.alloc (.cells #[.string ((⟨#[115,99,104,101,109,97,32,49]⟩:ByteArray)++t0),.string ((⟨#[115,99,104,101,109,97,32]⟩:ByteArray)++num),.string ((⟨#[115,99,104,101,109,97,32,49]⟩:ByteArray)++t1),.string ((⟨#[115,99,104,101,109,97,32,49,32,107,105,110,100,32,97,32,48,32,57,32]⟩:ByteArray)++t2),.string ((⟨#[115,99,104,101,109,97,32,49,32,107,105,110,100,32,97,32,48,32,57,32]⟩:ByteArray)++(⟨#[110,117,109,32,110,32]⟩:ByteArray)++num++(⟨#[32,49,48,52,56,53,55,54]⟩:ByteArray)),.string ((⟨#[115,99,104,101,109,97,32,49,32,107,105,110,100,32,97,32,48,32,57,32]⟩:ByteArray)++(⟨#[100,97,121,32,100,32,45,32]⟩:ByteArray)++num++(⟨#[32,55,48,48,48,48]⟩:ByteArray)),.string ((⟨#[115,99,104,101,109,97,32,49,32,107,105,110,100,32,97,32,48,32,57,32]⟩:ByteArray)++(⟨#[114,101,102,32,114,32,97,32,48,32]⟩:ByteArray)++num),.string ((⟨#[115,99,104,101,109,97,32,49,32,107,105,110,100,32,97,32,48,32,57,32]⟩:ByteArray)++(⟨#[115,116,101,112,32,115,32,108,32,48,32]⟩:ByteArray)++num),.string ((⟨#[115,99,104,101,109,97,32,49,32,107,105,110,100,32,97,32,48,32,57,32]⟩:ByteArray)++(⟨#[115,104,97,114,101,32,115,32,117,32,111,32,48,32]⟩:ByteArray)++num),.string ((⟨#[115,99,104,101,109,97,32,49,32,107,105,110,100,32,97,32,48,32,57,32]⟩:ByteArray)++(⟨#[112,105,99,107,32,112,32,49,32,119,32]⟩:ByteArray)++num),.string ((⟨#[115,99,104,101,109,97,32,49,32,107,105,110,100,32,97,32,48,32,57,32]⟩:ByteArray)++(⟨#[112,105,99,107,32,112,32]⟩:ByteArray)++num++(⟨#[32,119,32,49]⟩:ByteArray)),.string ((⟨#[115,99,104,101,109,97,32,49,32,107,105,110,100,32,97,32,48,32,57,32]⟩:ByteArray)++(⟨#[108,105,102,101,32,108,32,49,32,115]⟩:ByteArray)++t3),.string ((⟨#[115,99,104,101,109,97,32,49,32,107,105,110,100,32,97,32,48,32,57,32]⟩:ByteArray)++(⟨#[108,105,102,101,32,108,32,50,32,115,32,116,32,109,111,118,101,32,48,32]⟩:ByteArray)++num),.string ((⟨#[115,99,104,101,109,97,32,49]⟩:ByteArray)++t4),.string ((⟨#[115,99,104,101,109,97,32,49,32,107,105,110,100,32,97,32,48,32,57,32]⟩:ByteArray)++(⟨#[114,117,108,101,32,114,32,97,32,45,32,45,32,49]⟩:ByteArray)),.string ((⟨#[115,99,104,101,109,97,32,49,32]⟩:ByteArray)++t5),.string ((⟨#[115,99,104,101,109,97,32,49,32,107,105,110,100,32,97,32,48,32,57,32]⟩:ByteArray)++few)] 9)=w9 at *
 obtain ⟨Nt,hNt⟩:∃ n,w8.heap.size=n:=⟨_,rfl⟩
 rw [hNt] at HSL
 (try rw [hNt])
 obtain ⟨ts,hts⟩:∃ l:List ByteArray,[((⟨#[115,99,104,101,109,97,32,49]⟩:ByteArray)++t0),((⟨#[115,99,104,101,109,97,32]⟩:ByteArray)++num),((⟨#[115,99,104,101,109,97,32,49]⟩:ByteArray)++t1),((⟨#[115,99,104,101,109,97,32,49,32,107,105,110,100,32,97,32,48,32,57,32]⟩:ByteArray)++t2),((⟨#[115,99,104,101,109,97,32,49,32,107,105,110,100,32,97,32,48,32,57,32]⟩:ByteArray)++(⟨#[110,117,109,32,110,32]⟩:ByteArray)++num++(⟨#[32,49,48,52,56,53,55,54]⟩:ByteArray)),((⟨#[115,99,104,101,109,97,32,49,32,107,105,110,100,32,97,32,48,32,57,32]⟩:ByteArray)++(⟨#[100,97,121,32,100,32,45,32]⟩:ByteArray)++num++(⟨#[32,55,48,48,48,48]⟩:ByteArray)),((⟨#[115,99,104,101,109,97,32,49,32,107,105,110,100,32,97,32,48,32,57,32]⟩:ByteArray)++(⟨#[114,101,102,32,114,32,97,32,48,32]⟩:ByteArray)++num),((⟨#[115,99,104,101,109,97,32,49,32,107,105,110,100,32,97,32,48,32,57,32]⟩:ByteArray)++(⟨#[115,116,101,112,32,115,32,108,32,48,32]⟩:ByteArray)++num),((⟨#[115,99,104,101,109,97,32,49,32,107,105,110,100,32,97,32,48,32,57,32]⟩:ByteArray)++(⟨#[115,104,97,114,101,32,115,32,117,32,111,32,48,32]⟩:ByteArray)++num),((⟨#[115,99,104,101,109,97,32,49,32,107,105,110,100,32,97,32,48,32,57,32]⟩:ByteArray)++(⟨#[112,105,99,107,32,112,32,49,32,119,32]⟩:ByteArray)++num),((⟨#[115,99,104,101,109,97,32,49,32,107,105,110,100,32,97,32,48,32,57,32]⟩:ByteArray)++(⟨#[112,105,99,107,32,112,32]⟩:ByteArray)++num++(⟨#[32,119,32,49]⟩:ByteArray)),((⟨#[115,99,104,101,109,97,32,49,32,107,105,110,100,32,97,32,48,32,57,32]⟩:ByteArray)++(⟨#[108,105,102,101,32,108,32,49,32,115]⟩:ByteArray)++t3),((⟨#[115,99,104,101,109,97,32,49,32,107,105,110,100,32,97,32,48,32,57,32]⟩:ByteArray)++(⟨#[108,105,102,101,32,108,32,50,32,115,32,116,32,109,111,118,101,32,48,32]⟩:ByteArray)++num),((⟨#[115,99,104,101,109,97,32,49]⟩:ByteArray)++t4),((⟨#[115,99,104,101,109,97,32,49,32,107,105,110,100,32,97,32,48,32,57,32]⟩:ByteArray)++(⟨#[114,117,108,101,32,114,32,97,32,45,32,45,32,49]⟩:ByteArray)),((⟨#[115,99,104,101,109,97,32,49,32]⟩:ByteArray)++t5),((⟨#[115,99,104,101,109,97,32,49,32,107,105,110,100,32,97,32,48,32,57,32]⟩:ByteArray)++few)]=l:=⟨_,rfl⟩
 have HTL:=aI (show ts.length=17 by rw [← hts];rfl)
 rw [hts] at HSL HTS
 clear hts hNt ht0 ht1 ht2 ht3 ht4 ht5 nu hfew CSH CRE
 go_wp2_with fail
 go_loopg [12] 17 (fun r i wr=>∃ j:Nat,j+r=17∧i=.int .i64 j∧Below w9.heap.size w9 wr)
 case atStart=>exact ⟨0,by omega,rfl,Below.refl _ _⟩
 case round =>
  obtain ⟨j,hj,rfl,hT⟩:=hrel
  obtain ⟨wo,rfl⟩:∃ wo:World,wo=wr:=⟨_,rfl⟩
  have HW:=aI hT
  clear hT
  have HBO:=aI (HB2.out.trans (HW.out.mono HB2.out.size))
  by_cases hlt:j < 17
  ·have hjp:j < ts.length:=by rw [HTL.out];exact hlt
   have j0:(0:Int)≤(j:Int):=Int.natCast_nonneg _
   have j1:(j:Int) < 17:=by omega
   obtain ⟨b,o,hA,_,d0,_⟩:=str_at (HSL.out.keep (Chg.of_below HW.out)) j hjp
   injection hA with hA
   injection hA with hA1 hA2 _
   subst hA1 hA2
   have hsz:=HTS.out _ (List.getElem_mem hjp)
   obtain ⟨t,ht⟩:∃ t,ts[j]=t:=⟨_,rfl⟩
   rw [ht] at d0 hsz
   rw [Nat.zero_add] at d0
   have HD:=aI (fun (W:World) (hb:Below wo.heap.size wo W)=>(hb.cell (World.block_lt_of_cell? _ _ d0)).trans d0)
   clear ht
   obtain ⟨y,k,e,hpr⟩:∃ y k e,Sx.parse t.data.toList=(y,k,e):=⟨_,_,_,rfl⟩
   have CP1:=aI (CP.out t y k e wo HBO.out hsz hpr)
   have CP2:=aI (fun W=>CRP.out t y k e W hsz hpr)
   have OB:=aI (Sx.parse_ob hpr)
   have q1:(k != k)=false:=by simp
   have q2:(e != e)=false:=by simp
   clear hpr hsz
   go_upto_region 10 with (go_at_call 13;((with_reducible refine (CP1.out).mono ?_));rintro e' w6 ⟨A2,c2,B2,d2,C2,g2,nk2,nl2,nr2,rfl,hr,hb⟩;have HX:=aI hb;have HR:=aI hr;clear hb hr)
   have HB1:=aI ((Below.refl w6.heap.size w6).alloc (Nat.le_refl _) (.cells #[.int .i64 y.1,.slice A2 nk2 c2,.slice B2 nl2 d2,.slice C2 nr2 g2] 28))
   have KA:=aI (Blk.new w6 28 #[.int .i64 y.1,.slice A2 nk2 c2,.slice B2 nl2 d2,.slice C2 nr2 g2])
   replace HR:=aI (Mem.keep HR.out (Chg.of_below HB1.out))
   replace HX:=aI (HX.out.trans (HB1.out.mono HX.out.size))
   clear HB1
   obtain ⟨N1,hN1⟩:∃ n,w6.heap.size=n:=⟨_,rfl⟩
   generalize w6.alloc (.cells #[.int .i64 y.1,.slice A2 nk2 c2,.slice B2 nl2 d2,.slice C2 nr2 g2] 28)=w7 at *
   rw [hN1] at KA
   (try rw [hN1])
   clear hN1
   replace d0:=HD.out _ HX.out
   go_upto_region 11 with (go_at_call 14;((with_reducible refine (CP2.out _).mono ?_));rintro e' w8 ⟨A3,c3,B3,d3,C3,g3,nk3,nl3,nr3,rfl,hr,hb⟩;have HY:=aI hb;have HR2:=aI hr;clear hb hr d0)
   have HB1:=aI ((Below.refl w8.heap.size w8).alloc (Nat.le_refl _) (.cells #[.int .i64 y.1,.slice A3 nk3 c3,.slice B3 nl3 d3,.slice C3 nr3 g3] 28))
   have KB:=aI (Blk.new w8 28 #[.int .i64 y.1,.slice A3 nk3 c3,.slice B3 nl3 d3,.slice C3 nr3 g3])
   replace HR2:=aI (Mem.keep HR2.out (Chg.of_below HB1.out))
   replace HY:=aI (HY.out.trans (HB1.out.mono HY.out.size))
   clear HB1
   obtain ⟨N2,hN2⟩:∃ n,w8.heap.size=n:=⟨_,rfl⟩
   generalize w8.alloc (.cells #[.int .i64 y.1,.slice A3 nk3 c3,.slice B3 nl3 d3,.slice C3 nr3 g3] 28)=w9 at *
   rw [hN2] at KB
   (try rw [hN2])
   clear hN2
   replace KA:=aI (KA.out.below HY.out KA.out.lt)
   have CSM1:=aI (CSM.out y _ _ w9 (Mem.keep HR.out (Chg.of_below HY.out)) HR2.out OB.out)
   replace HW:=aI (HW.out.trans ((HX.out.trans (HY.out.mono HX.out.size)).mono HW.out.size))
   have ka:=KA.out;have z0:=ka.cell 0;have z1:=ka.cell 1;have z2:=ka.cell 2;have z3:=ka.cell 3;simp at z0 z1 z2 z3;clear ka
   have ka:=KB.out;have y0:=ka.cell 0;have y1:=ka.cell 1;have y2:=ka.cell 2;have y3:=ka.cell 3;simp at y0 y1 y2 y3;clear ka
   go_wp2_with (go_at_call 15;((with_reducible refine (CSM1.out).mono ?_));rintro e w10 ⟨rfl,hb⟩;replace HW:=aI (HW.out.trans (hb.mono HW.out.size));clear hb)
   go_roundg (gk - 1)
   case measure=>omega
   case rel=>exact ⟨j+1,by omega,by go_num,HW.out⟩
  ·have j1:¬ (j:Int) < 17:=by omega
   have CLE:=aI (CL.out wo HBO.out)
   go_wp2_with (go_at_call 16;((with_reducible refine (CLE.out).mono ?_));rintro e w6 ⟨rfl,hb⟩;replace HBO:=aI (HBO.out.trans (hb.mono HBO.out.size));clear hb)
   go_ret
   exact ⟨rfl,HBO.out⟩
open Go Go.ChangeShapes Go.WideShapes Go.ChangeAt Go.RowKit
theorem own:ownKnob Tryz.prog.godebug=none:=by kernel_rfl
theorem gPowS : Tryz.prog.globalNamed "internal/strconv.uint64pow10" = some 5 := by kernel_rfl
theorem gB64S : Tryz.prog.globalNamed "math/bits.deBruijn64tab" = some 8 := by kernel_rfl
theorem gWordsS : Tryz.prog.globalNamed "diorama/schema.words" = some 0 := by kernel_rfl
theorem tPow:(Tryz.prog.globals[5]?).map (·.type)=some 213:=by kernel_rfl
theorem tWords:(Tryz.prog.globals[0]?).map (·.type)=some 129:=by kernel_rfl
theorem tSyn:(Tryz.prog.globals[1]?).map (·.type)=some 124:=by kernel_rfl
theorem tRng:(Tryz.prog.globals[2]?).map (·.type)=some 124:=by kernel_rfl
theorem rowErr (u : TypeId) (h : Tryz.prog.typeName? 3 u = some "*errors.errorString") : u = 196 :=
 typeName_ptr_named (nm := "errors.errorString") (by rw [show ("*" ++ "errors.errorString" : String) = "*errors.errorString" from by decide]; kernel_rfl) (by kernel_rfl) (by decide) u (by rw [show ("*" ++ "errors.errorString" : String) = "*errors.errorString" from by decide]; exact h)
abbrev laidAll:List (String × DataW Unit):=Rows.schemaBeginningsRow.laid
theorem cells_of_strs {H:Type} {enc:TypeId × Value→H} {P:Program} {w:World} {base:Nat} {sp:Nat→Bool} {held:Bool} {fuel:Nat} {t e:TypeId} {n:Nat} {cs:List Value} {zs:List (List UInt8)} {p:List MemPlace}
  (ht:P.underlying t=some (.array n e)) (he:P.underlying e=some .string) (hce:P.cellsOf e=1) (hct:P.cellsOf t=n)
  (h:DataW.trod enc P w base sp held fuel t cs=some (.agg (zs.map fun z=>.lit (.string z)),p)):cs=zs.map fun z=>Value.string (Sx.ofT z):=by
 cases fuel with
 | zero=>simp [DataW.trod] at h
 | succ fuel =>
  simp only [DataW.trod,ht,hce,hct,Nat.mul_one] at h
  split at h
  ·rename_i hl
   obtain ⟨xs,hm,hx⟩:=Option.map_eq_some_iff.1 h
   have hxs:xs.map (·.1)=zs.map fun z=>(DataW.lit (.string z):DataW H):=by
    have:=congrArg Prod.fst hx
    simpa using this
   have hxl:xs.length=n:=by simpa using Lib.mapM_length hm
   have hzl:zs.length=n:=by
    have:=congrArg List.length hxs
    simp at this
    omega
   apply List.ext_getElem?
   intro i
   by_cases hi:i < n
   ·obtain ⟨b,hb,hf⟩:=Lib.mapM_at hm i i (by simp [hi])
    obtain ⟨z,hc,rfl,_⟩:=DataW.trod_string he hf
    have h1:cs[i]?=some (.string z):=by
     have:=congrArg (·[0]?) hc
     simpa [List.getElem?_take,List.getElem?_drop] using this
    have h2:(xs.map (·.1))[i]?=some (DataW.lit (.string z.data.toList):DataW H):=by simp [hb]
    rw [hxs] at h2
    simp only [List.getElem?_map,Option.map_eq_some_iff,DataW.lit.injEq,Lit.string.injEq] at h2
    obtain ⟨z',hz',h3⟩:=h2
    rw [h1,List.getElem?_map,hz']
    have:Sx.ofT z'=z:=by rw [h3];unfold Sx.ofT;simp
    rw [← this];rfl
   ·rw [List.getElem?_eq_none (by omega),List.getElem?_eq_none (by simp;omega)]
  ·cases h
theorem size_of_var {P:Program} {w:World} {n:String} {g:Nat} {cs:Array Value} (hg:P.globalNamed n=some g) (h:w.var? P n=some cs):g < w.heap.size:=by
 unfold World.var? at h
 rw [hg] at h
 rcases Nat.lt_or_ge g w.heap.size with h' | h'
 ·exact h'
 ·simp [Array.getElem?_eq_none h'] at h
theorem senv_of_laid {W:World} (hL:laidMetH Tryz.prog laidAll W):SEnv W:=by
 have h:laidMet Tryz.prog laidAll W:=hL
 have h2:=h.tail
 have h3:=h2.tail
 have h4:=h3.tail
 have h5:=h4.tail
 have h6:=h5.tail
 have h7:=h6.tail
 obtain ⟨a1,s1,hv1,_⟩:=laid_sentinel h5 gRng tRng Tryz.underlying124 rowErr Tryz.underlying196 Tryz.underlying198 rfl rfl Tryz.underlying9 (by kernel_rfl) (by kernel_rfl)
 obtain ⟨a0,s0,hv0,_⟩:=laid_sentinel h6 gSyn tSyn Tryz.underlying124 rowErr Tryz.underlying196 Tryz.underlying198 rfl rfl Tryz.underlying9 (by kernel_rfl) (by kernel_rfl)
 have hT : Lib.TabIs Tryz.prog W "internal/strconv.uint64pow10" .u64 Lib.pow10Tab := Lib.tabIs_of_head gPowS tPow Tryz.underlying213 Tryz.underlying183 (by kernel_rfl) (by kernel_rfl) h3
 have hp:5 < W.heap.size:=by
  unfold Lib.TabIs at hT
  exact size_of_var gPowS hT
 obtain ⟨_,⟨g4,t4,cs,_,_,_,hg4,ht4,hv4,hd,_⟩,_⟩:=h7
 obtain rfl:=Option.some.inj (gWordsS.symm.trans hg4)
 obtain rfl:=Option.some.inj (tWords.symm.trans ht4)
 have hcs:=cells_of_strs (zs:=Sx.wordsL) Tryz.underlying129 Tryz.underlying9 (by kernel_rfl) (by kernel_rfl) hd
 have hs:=size_of_var gSyn hv0
 have hr:=size_of_var gRng hv1
 have hw:=size_of_var gWordsS hv4
 refine ⟨⟨hT,hp⟩,⟨_,_,hv0⟩,⟨_,_,hv1⟩,fun k hk=>?_,?_⟩
 ·rw [World.var?_cell gWordsS hv4 k,← Array.getElem?_toList,hcs]
  rw [List.getElem?_map,List.getElem?_eq_getElem (show k < Sx.wordsL.length from hk)]
  unfold wdS
  rw [List.getD_eq_getElem?_getD,List.getElem?_eq_getElem (show k < Sx.wordsL.length from hk)]
  rfl
 ·obtain ⟨_,⟨g5,_,_,_,_,_,hg5,_,hv5,_⟩,_⟩:=h2
  obtain rfl:=Option.some.inj (gB64S.symm.trans hg5)
  exact Nat.lt_of_le_of_lt (by decide) (size_of_var gB64S hv5)
theorem laid_met (os:Os) (args:Array Value):laidMet Tryz.prog laidAll ((World.laidAll Tryz.prog os laidAll).forCall (fun _ _=>0) ⟨#[],args,[]⟩).memory :=
 laidMet_laidAll args (by kernel_rfl) (by kernel_rfl)
section
variable {H:Type} {enc:TypeId × Value→H} {P:Program}
theorem post_low {f:Func} {s:ChangeSpec} {apart fresh handsOn again:Bool} {W W':World} {args:Array Value} {v:Value} {ds gs:List (DataW H)} {before:List MemPlace}
  (hW:DataW.Whole enc P f.params.toList s.vars apart W args.toList ds gs before) (hb:Below W.heap.size W W')
  (hres:∀ (b:Nat) (sp:Nat→Bool) (hd:Bool),DataW.TrodAll enc P W' b sp hd f.resultTypes.toList (v.resultList f.resultTypes.size) (s.fn H (ds++gs)).results [])
  (hargs:∀ sp:Nat→Bool,(∀ p∈before,sp p.block=true)→DataW.TrodAll enc P W' 0 sp true f.params.toList args.toList (s.fn H (ds++gs)).args before)
  (hvars:∀ sp:Nat→Bool,DataW.TrodVars enc P W' sp s.vars (s.fn H (ds++gs)).vars [])
  (hok:∀ (j:Nat) (t:TypeId) (r:Value),f.resultTypes[j]?=some t→(v.resultList f.resultTypes.size)[j]?=some r→Value.okWide P W' .any 0 t r) :
  s.post enc P f apart fresh handsOn again W args v W':=by
 have hold:∀ p∈before,(fun b=>decide (b < W.heap.size)) p.block=true:=fun p hp=>decide_eq_true (hW.lt p hp)
 have hz2:=hW
 obtain ⟨_,_,_,_,_,hz,hn⟩:=hz2
 have hwhole:DataW.TrodAll enc P W' 0 (fun _=>true) true f.params.toList args.toList (s.fn H (ds++gs)).args before:=hargs _ (fun _ _=>rfl)
 refine ⟨ds,gs,before,[],before,[],hW,hres _ _ _,hargs _ hold,hvars _,World.keptBut_mono (fun p hp=>⟨hp,.inr (.inl hp)⟩) (hb.frame (·∈before)),fun _=>?_⟩
 refine ⟨hok,_,_,([]++before)++[],⟨[]++before,[],trodAll_append hwhole (hres _ _ _),hvars _,rfl,?_,?_⟩,?_⟩
 ·intro b off hp
  have hin:MemPlace.cell b off∈before:=by simpa using hp
  rw [hb.frozen (hW.lt _ hin)]
  exact hz b off hin
 ·intro ha
  have:=hn ha
  simpa using this
 ·intro p hp _
  simpa using hp
end
theorem laidOut:laidOutB Tryz.prog=true:=by kernel_rfl
section
variable {H:Type} {enc:TypeId × Value→H} {P:Program}
theorem trodAll_stays (hl:laidOutB P=true) {W W':World} {sp:Nat→Bool}:∀ (ts:List TypeId) (vs:List Value) (ds:List (DataW H)) (ps:List MemPlace),
  (ts.all fun t=>P.readableRec t && decide (t < P.types.size))=true→DataW.TrodAll enc P W 0 (fun _=>true) true ts vs ds ps→(∀ p∈ps,W.sameAt W' p)→(∀ p∈ps,sp p.block=true)→DataW.TrodAll enc P W' 0 sp true ts vs ds ps
 | [],vs,ds,ps,_,h,_,_=>by
  match vs,ds,h with
  | [],[],h=>exact h
 | t::ts,vs,ds,ps,ht,h,hs,hp=>by
  obtain ⟨v,vs',d,ds',p,q,rfl,rfl,rfl,h1,h2⟩:=trodAll_cons h
  simp only [List.all_cons,Bool.and_eq_true,decide_eq_true_eq] at ht
  exact trodAll_cons_mk (WideElems.Trod_stays hl ht.1.1 ht.1.2 h1 (fun x hx=>hs x (List.mem_append_left _ hx)) (fun x hx=>hp x (List.mem_append_left _ hx)))
   (trodAll_stays hl ts vs' ds' q ht.2 h2 (fun x hx=>hs x (List.mem_append_right _ hx)) (fun x hx=>hp x (List.mem_append_right _ hx)))
theorem post_law {f:Func} {s:ChangeSpec} {apart fresh handsOn again:Bool} {W W':World} {args:Array Value} {ds:List (DataW H)} {before:List MemPlace} {tb:TypeId}
  (hl:laidOutB P=true) (hts:(f.params.toList.all fun t=>P.readableRec t && decide (t < P.types.size))=true) (hr:f.resultTypes=#[tb]) (htb:P.underlying tb=some .bool)
  (hW:DataW.Whole enc P f.params.toList s.vars apart W args.toList ds [] before) (hb:Below W.heap.size W W') (hv:s.vars=[])
  (hs:s.fn H ds={ results:=[.lit (.bool true)],args:=ds }):s.post enc P f apart fresh handsOn again W args (.bool true) W':=by
 have hW0:=hW
 obtain ⟨p,q,hA,hV,hpq,hz,hn⟩:=hW
 have hq:q=[]:=by rw [hv] at hV;exact (trodVars_none hV).2
 have hA':DataW.TrodAll enc P W 0 (fun _=>true) true f.params.toList args.toList ds before:=by
  have e:before=p:=by rw [hpq,hq,List.append_nil]
  rw [e];exact hA
 refine post_low hW0 hb ?_ ?_ ?_ (ok_one hr rfl (okWide_bool_mk htb _))
 ·intro b sp hd
  rw [List.append_nil,hs]
  show DataW.TrodAll enc P W' b sp hd f.resultTypes.toList ((Value.bool true).resultList f.resultTypes.size) [.lit (.bool true)] []
  rw [hr]
  exact trodAll_cons_mk (shut_bool htb _) trodAll_mk0
 ·intro sp hsp
  rw [List.append_nil,hs]
  exact trodAll_stays hl _ _ _ _ hts hA' (fun x hx=>hb.same (hW0.lt x hx)) hsp
 ·intro sp
  rw [List.append_nil,hs,hv]
  rfl
end
theorem inI_of_wf {x:Int} (h:(Lit.int .i64 x).wf=true):inI x:=by
 have h2:-9223372036854775808≤x∧x≤9223372036854775807:=by
  simp [Lit.wf,IntKind.min,IntKind.max,IntKind.signed,IntKind.bits] at h
  omega
 exact h2
section
variable {H:Type} {enc:TypeId × Value→H} {P:Program} {W:World} {t e:TypeId} {v:Value} {d:DataW H} {ps:List MemPlace} {b0:Nat}
theorem arg_int (ht:P.underlying t=some (.int .i64)) (hv:Value.okWide P W .any b0 t v) (h:DataW.Trod enc P W 0 (fun _=>true) true t v d ps):∃ a,v=.int .i64 a∧inI a:=by
 obtain ⟨a,rfl,_,_,hw⟩:=open_int ht hv h
 exact ⟨a,rfl,inI_of_wf hw⟩
theorem arg_str (ht:P.underlying t=some .string) (hv:Value.okWide P W .any b0 t v) (h:DataW.Trod enc P W 0 (fun _=>true) true t v d ps):∃ s:ByteArray,v=.string s∧s.size≤9223372036854775807:=by
 obtain ⟨s,rfl,_,_,hs⟩:=ChangeMaps.open_string ht hv h
 exact ⟨s,rfl,hs⟩
end
end Go.Proofs.YtmplaikgbeeikaaGreatDoor
