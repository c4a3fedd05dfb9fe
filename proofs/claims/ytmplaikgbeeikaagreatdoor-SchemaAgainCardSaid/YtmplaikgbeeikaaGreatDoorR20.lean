/- Parts of the proof, joined: SxSf, SxSo0, SxSo1. -/
import Derived.Test.YtmplaikgbeeikaaGreatDoorR7
import Derived.Test.YtmplaikgbeeikaaGreatDoorR11
import Derived.Test.YtmplaikgbeeikaaGreatDoorR14
import Derived.Test.YtmplaikgbeeikaaGreatDoorR16
import Derived.Test.YtmplaikgbeeikaaGreatDoorR19
import Derived.Deep.OwnRows
set_option linter.unusedVariables false
set_option linter.unusedSimpArgs false
set_option linter.unusedSectionVars false
namespace Go.Proofs.YtmplaikgbeeikaaGreatDoor
open Go Go.RowKit
theorem infoStrS:(Tryz.prog.info? 9).map (fun i=>(i.zero,i.size,i.bytes))=some (some (.string ⟨#[]⟩),1,16):=by kernel_rfl
def spN:Array Value:=#[.string ⟨#[]⟩,.string ⟨#[105,100]⟩,.string ⟨#[111,102]⟩,.string ⟨#[111,116,104,101,114]⟩,.string ⟨#[85,112,112,101,114]⟩,.string ⟨#[49,97]⟩,.string ⟨#[116,104,105,114,116,101,101,110,98,121,116,101,115]⟩,.string ⟨#[97,45,98]⟩]
theorem spN_at (z:Nat) (h:z < 8):∃ u:ByteArray,spN[z]?=some (.string u)∧u.size≤16:=by
 match z,h with
 | 0,_ | 1,_ | 2,_ | 3,_ | 4,_ | 5,_ | 6,_ | 7,_=>exact ⟨_,rfl,by decide⟩
 | n+8,h=>exact absurd h (by omega)
def spO:Array Value:=#[.string ⟨#[]⟩,.string ⟨#[105,100]⟩,.string ⟨#[111,102]⟩,.string ⟨#[112,101,114,115,111,110]⟩,.string ⟨#[111,114,100,101,114]⟩,.string ⟨#[108,105,102,101]⟩,.string ⟨#[116,111,116,97,108]⟩,.string ⟨#[98,111,114,110]⟩,.string ⟨#[115,105,122,101]⟩]
theorem spO_at (z:Nat) (h:z < 9):∃ u:ByteArray,spO[z]?=some (.string u)∧u.size≤16:=by
 match z,h with
 | 0,_ | 1,_ | 2,_ | 3,_ | 4,_ | 5,_ | 6,_ | 7,_ | 8,_=>exact ⟨_,rfl,by decide⟩
 | n+9,h=>exact absurd h (by omega)
def spU:Array Value:=#[.string ⟨#[]⟩,.string ⟨#[111,102]⟩,.string ⟨#[98,121]⟩,.string ⟨#[105,100]⟩,.string ⟨#[63]⟩]
theorem spU_at (z:Nat) (h:z < 5):∃ u:ByteArray,spU[z]?=some (.string u)∧u.size≤16:=by
 match z,h with
 | 0,_ | 1,_ | 2,_ | 3,_ | 4,_=>exact ⟨_,rfl,by decide⟩
 | n+5,h=>exact absurd h (by omega)
def spM:Array Value:=#[.string ⟨#[109,111,114,101]⟩,.string ⟨#[114,101,100]⟩,.string ⟨#[]⟩]
theorem spM_at (z:Nat) (h:z < 3):∃ u:ByteArray,spM[z]?=some (.string u)∧u.size≤16:=by
 match z,h with
 | 0,_ | 1,_ | 2,_=>exact ⟨_,rfl,by decide⟩
 | n+3,h=>exact absurd h (by omega)
def spL (a:Int):Array Value:=#[.int .i64 (a - 1),.int .i64 0,.int .i64 5,.int .i64 (-1048576),.int .i64 (-1048577),.int .i64 33]
theorem spL_at (a:Int) (ha:-2000000≤a∧a≤2000000) (z:Nat) (h:z < 6):∃ n:Int,(spL a)[z]?=some (.int .i64 n)∧-3000000≤n∧n≤3000000:=by
 match z,h with
 | 0,_ | 1,_ | 2,_ | 3,_ | 4,_ | 5,_=>exact ⟨_,rfl,by omega,by omega⟩
 | n+6,h=>exact absurd h (by omega)
def spH (a:Int):Array Value:=#[.int .i64 (a+1),.int .i64 0,.int .i64 32,.int .i64 33,.int .i64 65536,.int .i64 65537,.int .i64 1048576,.int .i64 1048577]
theorem spH_at (a:Int) (ha:-2000000≤a∧a≤2000000) (z:Nat) (h:z < 8):∃ n:Int,(spH a)[z]?=some (.int .i64 n)∧-3000000≤n∧n≤3000000:=by
 match z,h with
 | 0,_ | 1,_ | 2,_ | 3,_ | 4,_ | 5,_ | 6,_ | 7,_=>exact ⟨_,rfl,by omega,by omega⟩
 | n+8,h=>exact absurd h (by omega)
def spW:Array Value:=#[.int .i64 1,.int .i64 0,.int .i64 (-1),.int .i64 1048576,.int .i64 1048577]
theorem spW_at (z:Nat) (h:z < 5):∃ n:Int,spW[z]?=some (.int .i64 n)∧(-3000000≤n∧n≤3000000):=by
 match z,h with
 | 0,_ | 1,_ | 2,_ | 3,_ | 4,_=>exact ⟨_,rfl,by omega,by omega⟩
 | n+5,h=>exact absurd h (by omega)
theorem sf_rep {M:List Nat} {nm of_ up:ByteArray} {kd lo hi:Int} {ws:List ByteArray} {ns:List Int} {A B:Option Addr} {nw nv c d:Nat} {W:World} (h1:nm.size≤1000) (h2:of_.size≤1000) (h3:up.size≤1000) (h4:inI kd) (h5:inI lo) (h6:inI hi) (e1:ws.length=nw) (e2:ns.length=nv) (k1:nw≤c) (k2:c≤9223372036854775807) (k3:nv≤d) (k4:d≤9223372036854775807) (h7:SlAt M W A ws) (h8:SlAt M W B ns) :
  Mem.rep M W ((nm,of_,up,kd,lo,hi,ws,ns):Fld) [.string nm,.string of_,.string up,.int .i64 kd,.int .i64 lo,.int .i64 hi,.slice A nw c,.slice B nv d]:=by
 subst e1 e2
 exact fld_mk (by omega) (by omega) (by omega) h4 h5 h6 ⟨A,c,rfl,k1,k2,h7⟩ ⟨B,d,rfl,k3,k4,h8⟩
def SFldP (G:List Nat) (w:World) (e:Ending) (w':World):Prop:=∃ (f:Fld) (us:List Value),e=.returned (.agg us.toArray)∧Mem.rep G w' f us∧(Sc.wts f).length≤100∧Below w.heap.size w w'
def SFC (G:List Nat) (w:World) (N1:Nat) (w':World):Prop:=∃ (f:Fld) (nm of_ up:ByteArray) (kd lo hi:Int) (A:Option Addr) (nw c:Nat) (B:Option Addr) (nv d:Nat),Blk w' N1 52 #[.string nm,.string of_,.string up,.int .i64 kd,.int .i64 lo,.int .i64 hi,.slice A nw c,.slice B nv d]∧Mem.rep G w' f [.string nm,.string of_,.string up,.int .i64 kd,.int .i64 lo,.int .i64 hi,.slice A nw c,.slice B nv d]∧(Sc.wts f).length≤100∧Below w.heap.size w w'
theorem sfc_mk {w W:World} {G M:List Nat} {N0 N1:Nat} {L:List (List Nat→World→Prop)} {rs:List Rw} {nm of_ up:ByteArray} {kd lo hi:Int} {f:Fld} {A B:Option Addr} {nw nv c d:Nat}
  (T:HR w G M [(N0,52,#[.string nm,.string of_,.string up,.int .i64 kd,.int .i64 lo,.int .i64 hi,.slice A nw c,.slice B nv d]),(N1,52,#[.string ⟨#[]⟩,.string ⟨#[]⟩,.string ⟨#[]⟩,.int .i64 0,.int .i64 0,.int .i64 0,.slice none 0 0,.slice none 0 0])] rs L W) (hr:Mem.rep M W f [.string nm,.string of_,.string up,.int .i64 kd,.int .i64 lo,.int .i64 hi,.slice A nw c,.slice B nv d]) (hl:(Sc.wts f).length≤100):SFC G w N1 ((((((((W.setCell ⟨N1,0,none⟩ (.string nm)).setCell ⟨N1,1,none⟩ (.string of_)).setCell ⟨N1,2,none⟩ (.string up)).setCell ⟨N1,3,none⟩ (.int .i64 kd)).setCell ⟨N1,4,none⟩ (.int .i64 lo)).setCell ⟨N1,5,none⟩ (.int .i64 hi)).setCell ⟨N1,6,none⟩ (.slice A nw c)).setCell ⟨N1,7,none⟩ (.slice B nv d)):=by
 have H9:=(((((((((T.add (keeps_rep f [.string nm,.string of_,.string up,.int .i64 kd,.int .i64 lo,.int .i64 hi,.slice A nw c,.slice B nv d]) hr).bswap.set0 0 (.string nm)).set0 1 (.string of_)).set0 2 (.string up)).set0 3 (.int .i64 kd)).set0 4 (.int .i64 lo)).set0 5 (.int .i64 hi)).set0 6 (.slice A nw c)).set0 7 (.slice B nv d))
 have hB:=H9.box (.head _)
 simp only [aB,aF,aG] at hB
 exact ⟨f,nm,of_,up,kd,lo,hi,A,nw,c,B,nv,d,hB,Mem.sub (H9.fact (.head _)) (fun g hg=>.inl (H9.h.gm g hg)),hl,H9.h.bl⟩
set_option maxRecDepth 100000 in
set_option maxHeartbeats 16000000 in
theorem sfield_any (f:Fld) (us:List Value) (G:List Nat) (w:World) (hG:∀ g∈G,g < w.heap.size) (h:Mem.rep G w f us) (fq1:(Sc.nm f).size≤12) (fq2:(Sc.of_ f).size≤12) (fq3:(Sc.up f).size≤12) (fq4:-1048576≤Sc.lo f∧Sc.lo f≤1048576) (fq5:-1048576≤Sc.hi f∧Sc.hi f≤1048576) (fq6:(Sc.words f).length≤12) (fq7:(Sc.wts f).length=(Sc.words f).length) (fq8:∃ k:Nat,k≤8∧Sc.kd f=k) (how by_:Int) (h1:inI how) (h2:inI by_):Calls Tryz.prog 50 #[.agg us.toArray,.int .i64 how,.int .i64 by_] w (SFldP G w):=by
 obtain ⟨nm,of_,up,kd,lo,hi,ws,ns⟩:=f
 obtain ⟨A,c,B,d,rfl,s1,s2,i1,i2,i3,n1,n2,n3,b1,b2,b3,b4⟩:=rep_fld h
 obtain ⟨kk,hk1,hk2⟩:=fq8
 change nm.size≤12 at fq1;change of_.size≤12 at fq2;change up.size≤12 at fq3
 change SlAt G w A ws at s1;change SlAt G w B ns at s2
 change kd=_ at hk2
 obtain ⟨nw,hnw⟩:∃ n,ws.length=n:=⟨_,rfl⟩
 change -1048576≤lo∧lo≤1048576 at fq4;change -1048576≤hi∧hi≤1048576 at fq5
 change ws.length≤12 at fq6;change ns.length=ws.length at fq7
 change ws.length≤c at b1;change ns.length≤d at b3
 rw [hnw] at fq6 fq7 b1
 have hnv:=fq7
 rw [hnv] at b3
 have HNW:=aI hnw;have HNV:=aI hnv
 have hkd:0≤kd∧kd≤100:=by have:=hk1;omega
 have hh:=around_bd how 8 (by omega)
 obtain ⟨z,hz⟩:∃ z,around how 8=z:=⟨_,rfl⟩
 have CH:=aI (fun W=>around_any how 8 W h1.1 h1.2)
 rw [hz] at CH hh
 have CB:=aI (fun (k:Int) W=>around_any by_ k W h2.1 h2.2)
 have CB3:=aI (fun (k:Int) W=>around_any (by_.tdiv 3) k W (tdiv_in by_ 3 h2.1 h2.2 (by omega)).1 (tdiv_in by_ 3 h2.1 h2.2 (by omega)).2)
 have HT3:=aI (show wrap64 (by_.tdiv 3)=by_.tdiv 3 from by have:=tdiv_in by_ 3 h2.1 h2.2 (by omega);unfold wrap64;omega)
 have HBD:=aI (fun (n:Int) k (hk:1≤k)=>around_bd n k hk)
 have HG:=aI hG
 have T:=aI ((((HR.start (((held0 w G hG).add (keeps_sl B ns) s2).add (keeps_sl A ws) s1)).new #[.string nm,.string of_,.string up,.int .i64 kd,.int .i64 lo,.int .i64 hi,.slice A nw c,.slice B nw d] 52 rfl).new #[.string ⟨#[]⟩,.string ⟨#[]⟩,.string ⟨#[]⟩,.int .i64 0,.int .i64 0,.int .i64 0,.slice none 0 0,.slice none 0 0] 52 rfl).bswap)
 have HB1:=aI b1;have HB3:=aI b3
 show Calls Tryz.prog 50 #[.agg #[.string nm,.string of_,.string up,.int .i64 kd,.int .i64 lo,.int .i64 hi,.slice A ws.length c,.slice B ns.length d],.int .i64 how,.int .i64 by_] w _
 rw [hnw,hnv]
 clear h hG s1 s2 i1 i2 i3 n1 n2 n3 b1 b3 hnw hnv fq7 h1 h2 hz hk1 hk2
 go_enter Tryz.func50,Tryz.ntmps50
 go_upto_region 1 with fail
 have hN1:(w.alloc (.cells #[.string nm,.string of_,.string up,.int .i64 kd,.int .i64 lo,.int .i64 hi,.slice A nw c,.slice B nw d] 52)).heap.size=w.heap.size+1:=by simp
 rw [hN1] at T
 clear hN1
 generalize (w.alloc (.cells #[.string nm,.string of_,.string up,.int .i64 kd,.int .i64 lo,.int .i64 hi,.slice A nw c,.slice B nw d] 52)).alloc (.cells #[.string ⟨#[]⟩,.string ⟨#[]⟩,.string ⟨#[]⟩,.int .i64 0,.int .i64 0,.int .i64 0,.slice none 0 0,.slice none 0 0] 52)=W2 at T ⊢
 generalize w.heap.size+1=N1 at T ⊢
 generalize w.heap.size=N0 at T ⊢
 rcases (show z=0∨z=1∨z=2∨z=3∨z=4∨z=5∨z=6∨z=7 by omega) with rfl | rfl | rfl | rfl | rfl | rfl | rfl | rfl
 ·have hr:=HBD.out by_ 11 (by omega)
  have CR:=aI (CB.out 11)
  obtain ⟨r,hre⟩:∃ r,around by_ 11=r:=⟨_,rfl⟩
  rw [hre] at CR hr
  clear hre
  have q:=T.out.box (.head _);have z0:=q.cell 0;have z1:=q.cell 1;have z2:=q.cell 2;have z3:=q.cell 3;have z4:=q.cell 4;have z5:=q.cell 5;have z6:=q.cell 6;have z7:=q.cell 7;have f0:=q.frozen 0;have f1:=q.frozen 1;have f2:=q.frozen 2;have f3:=q.frozen 3;have f4:=q.frozen 4;have f5:=q.frozen 5;have f6:=q.frozen 6;have f7:=q.frozen 7;simp at z0 z1 z2 z3 z4 z5 z6 z7;clear q
  go_upto_region 18 with (first | (go_at_call 17;((with_reducible refine (CH.out _).mono ?_));rintro e wq ⟨rfl,rfl⟩) | (go_at_call 17;((with_reducible refine (CR.out _).mono ?_));rintro e wq ⟨rfl,rfl⟩))
  clear z0 z1 z2 z3 z4 z5 z6 z7 f0 f1 f2 f3 f4 f5 f6 f7
  have T2:=aI (show HR w G (N1::N0::G) [(N0,52,#[.string nm,.string of_,.string up,.int .i64 (r - 1),.int .i64 lo,.int .i64 hi,.slice A nw c,.slice B nw d]),(N1,52,#[.string ⟨#[]⟩,.string ⟨#[]⟩,.string ⟨#[]⟩,.int .i64 0,.int .i64 0,.int .i64 0,.slice none 0 0,.slice none 0 0])] [] [fun M W=>SlAt M W A ws,fun M W=>SlAt M W B ns] (W2.setCell ⟨N0,3,none⟩ (.int .i64 (r - 1))) from T.out.set0 3 _)
  clear T
  generalize W2.setCell ⟨N0,3,none⟩ (.int .i64 (r - 1))=W3 at T2 ⊢
  have q:=T2.out.box (.head _);have q0:=q.cell 0;have q1:=q.cell 1;have q2:=q.cell 2;have q3:=q.cell 3;have q4:=q.cell 4;have q5:=q.cell 5;have q6:=q.cell 6;have q7:=q.cell 7;simp at q0 q1 q2 q3 q4 q5 q6 q7;clear q
  have p:=T2.out.box (.tail _ (.head _));have f0:=p.frozen 0;have f1:=p.frozen 1;have f2:=p.frozen 2;have f3:=p.frozen 3;have f4:=p.frozen 4;have f5:=p.frozen 5;have f6:=p.frozen 6;have f7:=p.frozen 7;have p0:=p.cell 0;have p1:=p.cell 1;have p2:=p.cell 2;have p3:=p.cell 3;have p4:=p.cell 4;have p5:=p.cell 5;have p6:=p.cell 6;have p7:=p.cell 7;simp at p0 p1 p2 p3 p4 p5 p6 p7;clear p
  go_cut [] from 7 (fun w'=>SFC G w N1 w')
  case first =>
   go_wp2_with fail
   go_meet
   case rel=>exact sfc_mk T2.out (sf_rep (by omega) (by omega) (by omega) (by unfold inI;omega) (by unfold inI;omega) (by unfold inI;omega) HNW.out HNV.out HB1.out b2 HB3.out b4 (T2.out.fact (.head _)) (T2.out.fact (.tail _ (.head _)))) (by show ns.length≤100;rw [HNV.out];omega)
  case rest =>
   obtain ⟨f9,nm9,of9,up9,kd9,lo9,hi9,A9,nw9,c9,B9,nv9,d9,q,hr9,hl9,hb9⟩:=hcut
   clear q0 q1 q2 q3 q4 q5 q6 q7
   have q0:=q.cell 0;have q1:=q.cell 1;have q2:=q.cell 2;have q3:=q.cell 3;have q4:=q.cell 4;have q5:=q.cell 5;have q6:=q.cell 6;have q7:=q.cell 7;simp at q0 q1 q2 q3 q4 q5 q6 q7;clear q
   rename_i hK
   apply hK
   refine wp_ret ?_
   (try simp only [Exit.inBlock,Exit.then])
   refine bodyPost_ret (v:=.agg #[.string nm9,.string of9,.string up9,.int .i64 kd9,.int .i64 lo9,.int .i64 hi9,.slice A9 nw9 c9,.slice B9 nv9 d9]) ?_ rfl ?_
   ·simp [results,Tryz.results50,go_sem,q0,q1,q2,q3,q4,q5,q6,q7]
    try rfl
   ·exact ⟨f9,_,rfl,hr9,hl9,hb9⟩
 ·have hr:=HBD.out by_ 8 (by omega)
  have CR:=aI (CB.out 8)
  obtain ⟨r,hre⟩:∃ r,around by_ 8=r:=⟨_,rfl⟩
  rw [hre] at CR hr
  clear hre
  obtain ⟨rn,rfl⟩:∃ n:Nat,r=n:=⟨r.toNat,by omega⟩
  obtain ⟨u,hu,hu16⟩:=spN_at rn (by omega)
  have hr0:(0:Int)≤(rn:Int):=by omega
  have hr1:(rn:Int) < 8:=hr.2
  have qx:=(Blk.new W2 9 spN).cell rn
  rw [hu] at qx
  unfold spN at qx
  clear hu
  have T3:=aI (T.out.below ((Below.refl _ _).alloc (Nat.le_refl _) (.cells #[.string ⟨#[]⟩,.string ⟨#[105,100]⟩,.string ⟨#[111,102]⟩,.string ⟨#[111,116,104,101,114]⟩,.string ⟨#[85,112,112,101,114]⟩,.string ⟨#[49,97]⟩,.string ⟨#[116,104,105,114,116,101,101,110,98,121,116,101,115]⟩,.string ⟨#[97,45,98]⟩] 9)))
  clear T hr
  go_upto_region 18 with (first | (go_at_call 17;((with_reducible refine (CH.out _).mono ?_));rintro e wq ⟨rfl,rfl⟩) | (go_at_call 17;((with_reducible refine (CR.out _).mono ?_));rintro e wq ⟨rfl,rfl⟩;generalize W2.alloc (.cells #[.string ⟨#[]⟩,.string ⟨#[105,100]⟩,.string ⟨#[111,102]⟩,.string ⟨#[111,116,104,101,114]⟩,.string ⟨#[85,112,112,101,114]⟩,.string ⟨#[49,97]⟩,.string ⟨#[116,104,105,114,116,101,101,110,98,121,116,101,115]⟩,.string ⟨#[97,45,98]⟩] 9)=W3 at T3 qx ⊢;have q:=T3.out.box (.head _);have z0:=q.cell 0;have z1:=q.cell 1;have z2:=q.cell 2;have z3:=q.cell 3;have z4:=q.cell 4;have z5:=q.cell 5;have z6:=q.cell 6;have z7:=q.cell 7;have f0:=q.frozen 0;have f1:=q.frozen 1;have f2:=q.frozen 2;have f3:=q.frozen 3;have f4:=q.frozen 4;have f5:=q.frozen 5;have f6:=q.frozen 6;have f7:=q.frozen 7;simp at z0 z1 z2 z3 z4 z5 z6 z7;clear q))
  clear z0 z1 z2 z3 z4 z5 z6 z7 f0 f1 f2 f3 f4 f5 f6 f7
  have T2:=aI (show HR w G (N1::N0::G) [(N0,52,#[.string u,.string of_,.string up,.int .i64 kd,.int .i64 lo,.int .i64 hi,.slice A nw c,.slice B nw d]),(N1,52,#[.string ⟨#[]⟩,.string ⟨#[]⟩,.string ⟨#[]⟩,.int .i64 0,.int .i64 0,.int .i64 0,.slice none 0 0,.slice none 0 0])] [] [fun M W=>SlAt M W A ws,fun M W=>SlAt M W B ns] (W3.setCell ⟨N0,0,none⟩ (.string u)) from T3.out.set0 0 _)
  clear T3 qx
  generalize W3.setCell ⟨N0,0,none⟩ (.string u)=W4 at T2 ⊢
  have q:=T2.out.box (.head _);have q0:=q.cell 0;have q1:=q.cell 1;have q2:=q.cell 2;have q3:=q.cell 3;have q4:=q.cell 4;have q5:=q.cell 5;have q6:=q.cell 6;have q7:=q.cell 7;simp at q0 q1 q2 q3 q4 q5 q6 q7;clear q
  have p:=T2.out.box (.tail _ (.head _));have f0:=p.frozen 0;have f1:=p.frozen 1;have f2:=p.frozen 2;have f3:=p.frozen 3;have f4:=p.frozen 4;have f5:=p.frozen 5;have f6:=p.frozen 6;have f7:=p.frozen 7;have p0:=p.cell 0;have p1:=p.cell 1;have p2:=p.cell 2;have p3:=p.cell 3;have p4:=p.cell 4;have p5:=p.cell 5;have p6:=p.cell 6;have p7:=p.cell 7;simp at p0 p1 p2 p3 p4 p5 p6 p7;clear p
  go_cut [] from 7 (fun w'=>SFC G w N1 w')
  case first =>
   go_wp2_with fail
   go_meet
   case rel=>exact sfc_mk T2.out (sf_rep (by omega) (by omega) (by omega) (by unfold inI;omega) (by unfold inI;omega) (by unfold inI;omega) HNW.out HNV.out HB1.out b2 HB3.out b4 (T2.out.fact (.head _)) (T2.out.fact (.tail _ (.head _)))) (by show ns.length≤100;rw [HNV.out];omega)
  case rest =>
   obtain ⟨f9,nm9,of9,up9,kd9,lo9,hi9,A9,nw9,c9,B9,nv9,d9,q,hr9,hl9,hb9⟩:=hcut
   clear q0 q1 q2 q3 q4 q5 q6 q7
   have q0:=q.cell 0;have q1:=q.cell 1;have q2:=q.cell 2;have q3:=q.cell 3;have q4:=q.cell 4;have q5:=q.cell 5;have q6:=q.cell 6;have q7:=q.cell 7;simp at q0 q1 q2 q3 q4 q5 q6 q7;clear q
   rename_i hK
   apply hK
   refine wp_ret ?_
   (try simp only [Exit.inBlock,Exit.then])
   refine bodyPost_ret (v:=.agg #[.string nm9,.string of9,.string up9,.int .i64 kd9,.int .i64 lo9,.int .i64 hi9,.slice A9 nw9 c9,.slice B9 nv9 d9]) ?_ rfl ?_
   ·simp [results,Tryz.results50,go_sem,q0,q1,q2,q3,q4,q5,q6,q7]
    try rfl
   ·exact ⟨f9,_,rfl,hr9,hl9,hb9⟩
 ·have hr:=HBD.out by_ 9 (by omega)
  have CR:=aI (CB.out 9)
  obtain ⟨r,hre⟩:∃ r,around by_ 9=r:=⟨_,rfl⟩
  rw [hre] at CR hr
  clear hre
  obtain ⟨rn,rfl⟩:∃ n:Nat,r=n:=⟨r.toNat,by omega⟩
  obtain ⟨u,hu,hu16⟩:=spO_at rn (by omega)
  have hr0:(0:Int)≤(rn:Int):=by omega
  have hr1:(rn:Int) < 9:=hr.2
  have qx:=(Blk.new W2 9 spO).cell rn
  rw [hu] at qx
  unfold spO at qx
  clear hu
  have T3:=aI (T.out.below ((Below.refl _ _).alloc (Nat.le_refl _) (.cells #[.string ⟨#[]⟩,.string ⟨#[105,100]⟩,.string ⟨#[111,102]⟩,.string ⟨#[112,101,114,115,111,110]⟩,.string ⟨#[111,114,100,101,114]⟩,.string ⟨#[108,105,102,101]⟩,.string ⟨#[116,111,116,97,108]⟩,.string ⟨#[98,111,114,110]⟩,.string ⟨#[115,105,122,101]⟩] 9)))
  clear T hr
  go_upto_region 18 with (first | (go_at_call 17;((with_reducible refine (CH.out _).mono ?_));rintro e wq ⟨rfl,rfl⟩) | (go_at_call 17;((with_reducible refine (CR.out _).mono ?_));rintro e wq ⟨rfl,rfl⟩;generalize W2.alloc (.cells #[.string ⟨#[]⟩,.string ⟨#[105,100]⟩,.string ⟨#[111,102]⟩,.string ⟨#[112,101,114,115,111,110]⟩,.string ⟨#[111,114,100,101,114]⟩,.string ⟨#[108,105,102,101]⟩,.string ⟨#[116,111,116,97,108]⟩,.string ⟨#[98,111,114,110]⟩,.string ⟨#[115,105,122,101]⟩] 9)=W3 at T3 qx ⊢;have q:=T3.out.box (.head _);have z0:=q.cell 0;have z1:=q.cell 1;have z2:=q.cell 2;have z3:=q.cell 3;have z4:=q.cell 4;have z5:=q.cell 5;have z6:=q.cell 6;have z7:=q.cell 7;have f0:=q.frozen 0;have f1:=q.frozen 1;have f2:=q.frozen 2;have f3:=q.frozen 3;have f4:=q.frozen 4;have f5:=q.frozen 5;have f6:=q.frozen 6;have f7:=q.frozen 7;simp at z0 z1 z2 z3 z4 z5 z6 z7;clear q))
  clear z0 z1 z2 z3 z4 z5 z6 z7 f0 f1 f2 f3 f4 f5 f6 f7
  have T2:=aI (show HR w G (N1::N0::G) [(N0,52,#[.string nm,.string u,.string up,.int .i64 kd,.int .i64 lo,.int .i64 hi,.slice A nw c,.slice B nw d]),(N1,52,#[.string ⟨#[]⟩,.string ⟨#[]⟩,.string ⟨#[]⟩,.int .i64 0,.int .i64 0,.int .i64 0,.slice none 0 0,.slice none 0 0])] [] [fun M W=>SlAt M W A ws,fun M W=>SlAt M W B ns] (W3.setCell ⟨N0,1,none⟩ (.string u)) from T3.out.set0 1 _)
  clear T3 qx
  generalize W3.setCell ⟨N0,1,none⟩ (.string u)=W4 at T2 ⊢
  have q:=T2.out.box (.head _);have q0:=q.cell 0;have q1:=q.cell 1;have q2:=q.cell 2;have q3:=q.cell 3;have q4:=q.cell 4;have q5:=q.cell 5;have q6:=q.cell 6;have q7:=q.cell 7;simp at q0 q1 q2 q3 q4 q5 q6 q7;clear q
  have p:=T2.out.box (.tail _ (.head _));have f0:=p.frozen 0;have f1:=p.frozen 1;have f2:=p.frozen 2;have f3:=p.frozen 3;have f4:=p.frozen 4;have f5:=p.frozen 5;have f6:=p.frozen 6;have f7:=p.frozen 7;have p0:=p.cell 0;have p1:=p.cell 1;have p2:=p.cell 2;have p3:=p.cell 3;have p4:=p.cell 4;have p5:=p.cell 5;have p6:=p.cell 6;have p7:=p.cell 7;simp at p0 p1 p2 p3 p4 p5 p6 p7;clear p
  go_cut [] from 7 (fun w'=>SFC G w N1 w')
  case first =>
   go_wp2_with fail
   go_meet
   case rel=>exact sfc_mk T2.out (sf_rep (by omega) (by omega) (by omega) (by unfold inI;omega) (by unfold inI;omega) (by unfold inI;omega) HNW.out HNV.out HB1.out b2 HB3.out b4 (T2.out.fact (.head _)) (T2.out.fact (.tail _ (.head _)))) (by show ns.length≤100;rw [HNV.out];omega)
  case rest =>
   obtain ⟨f9,nm9,of9,up9,kd9,lo9,hi9,A9,nw9,c9,B9,nv9,d9,q,hr9,hl9,hb9⟩:=hcut
   clear q0 q1 q2 q3 q4 q5 q6 q7
   have q0:=q.cell 0;have q1:=q.cell 1;have q2:=q.cell 2;have q3:=q.cell 3;have q4:=q.cell 4;have q5:=q.cell 5;have q6:=q.cell 6;have q7:=q.cell 7;simp at q0 q1 q2 q3 q4 q5 q6 q7;clear q
   rename_i hK
   apply hK
   refine wp_ret ?_
   (try simp only [Exit.inBlock,Exit.then])
   refine bodyPost_ret (v:=.agg #[.string nm9,.string of9,.string up9,.int .i64 kd9,.int .i64 lo9,.int .i64 hi9,.slice A9 nw9 c9,.slice B9 nv9 d9]) ?_ rfl ?_
   ·simp [results,Tryz.results50,go_sem,q0,q1,q2,q3,q4,q5,q6,q7]
    try rfl
   ·exact ⟨f9,_,rfl,hr9,hl9,hb9⟩
 ·have hr:=HBD.out by_ 5 (by omega)
  have CR:=aI (CB.out 5)
  obtain ⟨r,hre⟩:∃ r,around by_ 5=r:=⟨_,rfl⟩
  rw [hre] at CR hr
  clear hre
  obtain ⟨rn,rfl⟩:∃ n:Nat,r=n:=⟨r.toNat,by omega⟩
  obtain ⟨u,hu,hu16⟩:=spU_at rn (by omega)
  have hr0:(0:Int)≤(rn:Int):=by omega
  have hr1:(rn:Int) < 5:=hr.2
  have qx:=(Blk.new W2 9 spU).cell rn
  rw [hu] at qx
  unfold spU at qx
  clear hu
  have T3:=aI (T.out.below ((Below.refl _ _).alloc (Nat.le_refl _) (.cells #[.string ⟨#[]⟩,.string ⟨#[111,102]⟩,.string ⟨#[98,121]⟩,.string ⟨#[105,100]⟩,.string ⟨#[63]⟩] 9)))
  clear T hr
  go_upto_region 18 with (first | (go_at_call 17;((with_reducible refine (CH.out _).mono ?_));rintro e wq ⟨rfl,rfl⟩) | (go_at_call 17;((with_reducible refine (CR.out _).mono ?_));rintro e wq ⟨rfl,rfl⟩;generalize W2.alloc (.cells #[.string ⟨#[]⟩,.string ⟨#[111,102]⟩,.string ⟨#[98,121]⟩,.string ⟨#[105,100]⟩,.string ⟨#[63]⟩] 9)=W3 at T3 qx ⊢;have q:=T3.out.box (.head _);have z0:=q.cell 0;have z1:=q.cell 1;have z2:=q.cell 2;have z3:=q.cell 3;have z4:=q.cell 4;have z5:=q.cell 5;have z6:=q.cell 6;have z7:=q.cell 7;have f0:=q.frozen 0;have f1:=q.frozen 1;have f2:=q.frozen 2;have f3:=q.frozen 3;have f4:=q.frozen 4;have f5:=q.frozen 5;have f6:=q.frozen 6;have f7:=q.frozen 7;simp at z0 z1 z2 z3 z4 z5 z6 z7;clear q))
  clear z0 z1 z2 z3 z4 z5 z6 z7 f0 f1 f2 f3 f4 f5 f6 f7
  have T2:=aI (show HR w G (N1::N0::G) [(N0,52,#[.string nm,.string of_,.string u,.int .i64 kd,.int .i64 lo,.int .i64 hi,.slice A nw c,.slice B nw d]),(N1,52,#[.string ⟨#[]⟩,.string ⟨#[]⟩,.string ⟨#[]⟩,.int .i64 0,.int .i64 0,.int .i64 0,.slice none 0 0,.slice none 0 0])] [] [fun M W=>SlAt M W A ws,fun M W=>SlAt M W B ns] (W3.setCell ⟨N0,2,none⟩ (.string u)) from T3.out.set0 2 _)
  clear T3 qx
  generalize W3.setCell ⟨N0,2,none⟩ (.string u)=W4 at T2 ⊢
  have q:=T2.out.box (.head _);have q0:=q.cell 0;have q1:=q.cell 1;have q2:=q.cell 2;have q3:=q.cell 3;have q4:=q.cell 4;have q5:=q.cell 5;have q6:=q.cell 6;have q7:=q.cell 7;simp at q0 q1 q2 q3 q4 q5 q6 q7;clear q
  have p:=T2.out.box (.tail _ (.head _));have f0:=p.frozen 0;have f1:=p.frozen 1;have f2:=p.frozen 2;have f3:=p.frozen 3;have f4:=p.frozen 4;have f5:=p.frozen 5;have f6:=p.frozen 6;have f7:=p.frozen 7;have p0:=p.cell 0;have p1:=p.cell 1;have p2:=p.cell 2;have p3:=p.cell 3;have p4:=p.cell 4;have p5:=p.cell 5;have p6:=p.cell 6;have p7:=p.cell 7;simp at p0 p1 p2 p3 p4 p5 p6 p7;clear p
  go_cut [] from 7 (fun w'=>SFC G w N1 w')
  case first =>
   go_wp2_with fail
   go_meet
   case rel=>exact sfc_mk T2.out (sf_rep (by omega) (by omega) (by omega) (by unfold inI;omega) (by unfold inI;omega) (by unfold inI;omega) HNW.out HNV.out HB1.out b2 HB3.out b4 (T2.out.fact (.head _)) (T2.out.fact (.tail _ (.head _)))) (by show ns.length≤100;rw [HNV.out];omega)
  case rest =>
   obtain ⟨f9,nm9,of9,up9,kd9,lo9,hi9,A9,nw9,c9,B9,nv9,d9,q,hr9,hl9,hb9⟩:=hcut
   clear q0 q1 q2 q3 q4 q5 q6 q7
   have q0:=q.cell 0;have q1:=q.cell 1;have q2:=q.cell 2;have q3:=q.cell 3;have q4:=q.cell 4;have q5:=q.cell 5;have q6:=q.cell 6;have q7:=q.cell 7;simp at q0 q1 q2 q3 q4 q5 q6 q7;clear q
   rename_i hK
   apply hK
   refine wp_ret ?_
   (try simp only [Exit.inBlock,Exit.then])
   refine bodyPost_ret (v:=.agg #[.string nm9,.string of9,.string up9,.int .i64 kd9,.int .i64 lo9,.int .i64 hi9,.slice A9 nw9 c9,.slice B9 nv9 d9]) ?_ rfl ?_
   ·simp [results,Tryz.results50,go_sem,q0,q1,q2,q3,q4,q5,q6,q7]
    try rfl
   ·exact ⟨f9,_,rfl,hr9,hl9,hb9⟩
 ·have hr:=HBD.out by_ 6 (by omega)
  have CR:=aI (CB.out 6)
  obtain ⟨r,hre⟩:∃ r,around by_ 6=r:=⟨_,rfl⟩
  rw [hre] at CR hr
  clear hre
  obtain ⟨rn,rfl⟩:∃ n:Nat,r=n:=⟨r.toNat,by omega⟩
  obtain ⟨u,hu,hu1,hu2⟩:=spL_at lo (by omega) rn (by omega)
  have hr0:(0:Int)≤(rn:Int):=by omega
  have hr1:(rn:Int) < 6:=hr.2
  have HU:=aI hu
  clear hu hr
  go_upto_region 12 with (first | (go_at_call 17;((with_reducible refine (CH.out _).mono ?_));rintro e wq ⟨rfl,rfl⟩))
  apply wp_region_typed (C:=fun w'=>HR w G (N1::N0::G) [(N0,52,#[.string nm,.string of_,.string up,.int .i64 kd,.int .i64 lo,.int .i64 hi,.slice A nw c,.slice B nw d]),(N1,52,#[.string ⟨#[]⟩,.string ⟨#[]⟩,.string ⟨#[]⟩,.int .i64 0,.int .i64 0,.int .i64 0,.slice none 0 0,.slice none 0 0])] [] [fun M W=>SlAt M W A ws,fun M W=>SlAt M W B ns] w') (n:=94) (m:=9) (l1:=[_,_,_,_,_,_,_,_,_]) (l2:=[_])
  ·rfl
  ·rfl
  ·kernel_rfl
  ·rfl
  ·kernel_rfl
  ·exact T.out.drew
  ·exact fun u u' h hb=>(by first | exact h.below hb | exact h.trans (hb.mono h.size))
  (apply wpT_exact;· (intro w' hC hf;unfold Gives;clear hf hC;go_wp2_with (fail);apply postT_val rfl (Below.refl _ _);simp only [valAt,aA,aE,aC,aD,aH];exact rfl));(try simp only [Act.put,aB,aF,aG])
  (apply wpT_exact;· (intro w' hC hf;unfold Gives;have q:=hC.box (.head _);have z4:=q.cell 4;(simp at z4);clear q;clear hf hC;go_wp2_with (fail);apply postT_val rfl (Below.refl _ _);simp only [valAt,aA,aE,aC,aD,aH];exact rfl));(try simp only [Act.put,aB,aF,aG])
  (apply wpT_exact;· (intro w' hC hf;unfold Gives;clear hf hC;go_wp2_with (fail);apply postT_val rfl (Below.refl _ _);simp only [valAt,aA,aE,aC,aD,aH];exact rfl));(try simp only [Act.put,aB,aF,aG])
  apply wpT_typed (slBlk_kept 6 3 #[.int .i64 (lo - 1),.int .i64 0,.int .i64 5,.int .i64 (-1048576),.int .i64 (-1048577),.int .i64 33])
  ·intro w' hC hf;unfold Gives;clear hf hC;go_wp2_with fail;apply postT_mk rfl (by go_grown);simp only [valAt,aA,aE,aC,aD,aH];exact ⟨_,rfl,Blk.new _ _ _⟩
  intro vsl;(try simp only [Act.put,aB,aF,aG])
  (apply wpT_exact;· (intro w' hC hf;unfold Gives;clear hf hC;go_wp2_with (fail);apply postT_val rfl (Below.refl _ _);simp only [valAt,aA,aE,aC,aD,aH];exact rfl));(try simp only [Act.put,aB,aF,aG])
  (apply wpT_exact;· (intro w' hC hf;unfold Gives;clear hf hC;go_wp2_with ((go_at_call 17;((with_reducible refine (CR.out _).mono ?_));rintro e wq ⟨rfl,rfl⟩));apply postT_val rfl (Below.refl _ _);simp only [valAt,aA,aE,aC,aD,aH];exact rfl));(try simp only [Act.put,aB,aF,aG])
  apply wpT_typed (atCell_kept (.int .i64 u))
  ·intro w' hC hf;unfold Gives;obtain ⟨N,rfl,hB⟩:=hf.1 rfl
   have qx:w'.cell? ⟨N,rn,none⟩=some (.int .i64 u):=(hB.cell rn).trans HU.out
   clear hf hC hB;go_wp2_with fail
   refine postT_mk rfl (Below.refl _ _) ?_;simp only [valAt,aA,aE,aC,aD,aH];exact ⟨⟨N,rn,none⟩,by first | rfl | simp [Addr.add],qx⟩
  intro vp;(try simp only [Act.put,aB,aF,aG])
  (apply wpT_exact;· (intro w' hC hf;unfold Gives;obtain ⟨pa,rfl,hpa⟩:=hf.1 rfl;clear hf hC;go_wp2_with (fail);apply postT_val rfl (Below.refl _ _);simp only [valAt,aA,aE,aC,aD,aH];exact rfl));(try simp only [Act.put,aB,aF,aG])
  (apply wpT_exact;· (intro w' hC hf;unfold Gives;clear hf hC;go_wp2_with (fail);apply postT_val rfl (Below.refl _ _);simp only [valAt,aA,aE,aC,aD,aH];exact rfl));(try simp only [Act.put,aB,aF,aG])
  apply wpT_done
  intro w4 hC hall
  have T3:=aI hC
  clear T hC hall
  have q:=T3.out.box (.head _);have z0:=q.cell 0;have z1:=q.cell 1;have z2:=q.cell 2;have z3:=q.cell 3;have z4:=q.cell 4;have z5:=q.cell 5;have z6:=q.cell 6;have z7:=q.cell 7;have f0:=q.frozen 0;have f1:=q.frozen 1;have f2:=q.frozen 2;have f3:=q.frozen 3;have f4:=q.frozen 4;have f5:=q.frozen 5;have f6:=q.frozen 6;have f7:=q.frozen 7;simp at z0 z1 z2 z3 z4 z5 z6 z7;clear q
  go_upto_region 18 with fail
  clear z0 z1 z2 z3 z4 z5 z6 z7 f0 f1 f2 f3 f4 f5 f6 f7
  have T2:=aI (show HR w G (N1::N0::G) [(N0,52,#[.string nm,.string of_,.string up,.int .i64 kd,.int .i64 u,.int .i64 hi,.slice A nw c,.slice B nw d]),(N1,52,#[.string ⟨#[]⟩,.string ⟨#[]⟩,.string ⟨#[]⟩,.int .i64 0,.int .i64 0,.int .i64 0,.slice none 0 0,.slice none 0 0])] [] [fun M W=>SlAt M W A ws,fun M W=>SlAt M W B ns] (w4.setCell ⟨N0,4,none⟩ (.int .i64 u)) from T3.out.set0 4 _)
  clear T3
  generalize w4.setCell ⟨N0,4,none⟩ (.int .i64 u)=W3 at T2 ⊢
  have q:=T2.out.box (.head _);have q0:=q.cell 0;have q1:=q.cell 1;have q2:=q.cell 2;have q3:=q.cell 3;have q4:=q.cell 4;have q5:=q.cell 5;have q6:=q.cell 6;have q7:=q.cell 7;simp at q0 q1 q2 q3 q4 q5 q6 q7;clear q
  have p:=T2.out.box (.tail _ (.head _));have f0:=p.frozen 0;have f1:=p.frozen 1;have f2:=p.frozen 2;have f3:=p.frozen 3;have f4:=p.frozen 4;have f5:=p.frozen 5;have f6:=p.frozen 6;have f7:=p.frozen 7;have p0:=p.cell 0;have p1:=p.cell 1;have p2:=p.cell 2;have p3:=p.cell 3;have p4:=p.cell 4;have p5:=p.cell 5;have p6:=p.cell 6;have p7:=p.cell 7;simp at p0 p1 p2 p3 p4 p5 p6 p7;clear p
  go_cut [] from 7 (fun w'=>SFC G w N1 w')
  case first =>
   go_wp2_with fail
   go_meet
   case rel=>exact sfc_mk T2.out (sf_rep (by omega) (by omega) (by omega) (by unfold inI;omega) (by unfold inI;omega) (by unfold inI;omega) HNW.out HNV.out HB1.out b2 HB3.out b4 (T2.out.fact (.head _)) (T2.out.fact (.tail _ (.head _)))) (by show ns.length≤100;rw [HNV.out];omega)
  case rest =>
   obtain ⟨f9,nm9,of9,up9,kd9,lo9,hi9,A9,nw9,c9,B9,nv9,d9,q,hr9,hl9,hb9⟩:=hcut
   clear q0 q1 q2 q3 q4 q5 q6 q7
   have q0:=q.cell 0;have q1:=q.cell 1;have q2:=q.cell 2;have q3:=q.cell 3;have q4:=q.cell 4;have q5:=q.cell 5;have q6:=q.cell 6;have q7:=q.cell 7;simp at q0 q1 q2 q3 q4 q5 q6 q7;clear q
   rename_i hK
   apply hK
   refine wp_ret ?_
   (try simp only [Exit.inBlock,Exit.then])
   refine bodyPost_ret (v:=.agg #[.string nm9,.string of9,.string up9,.int .i64 kd9,.int .i64 lo9,.int .i64 hi9,.slice A9 nw9 c9,.slice B9 nv9 d9]) ?_ rfl ?_
   ·simp [results,Tryz.results50,go_sem,q0,q1,q2,q3,q4,q5,q6,q7]
    try rfl
   ·exact ⟨f9,_,rfl,hr9,hl9,hb9⟩
 ·have hr:=HBD.out by_ 8 (by omega)
  have CR:=aI (CB.out 8)
  obtain ⟨r,hre⟩:∃ r,around by_ 8=r:=⟨_,rfl⟩
  rw [hre] at CR hr
  clear hre
  obtain ⟨rn,rfl⟩:∃ n:Nat,r=n:=⟨r.toNat,by omega⟩
  obtain ⟨u,hu,hu1,hu2⟩:=spH_at hi (by omega) rn (by omega)
  have hr0:(0:Int)≤(rn:Int):=by omega
  have hr1:(rn:Int) < 8:=hr.2
  have HU:=aI hu
  clear hu hr
  go_upto_region 14 with (first | (go_at_call 17;((with_reducible refine (CH.out _).mono ?_));rintro e wq ⟨rfl,rfl⟩))
  apply wp_region_typed (C:=fun w'=>HR w G (N1::N0::G) [(N0,52,#[.string nm,.string of_,.string up,.int .i64 kd,.int .i64 lo,.int .i64 hi,.slice A nw c,.slice B nw d]),(N1,52,#[.string ⟨#[]⟩,.string ⟨#[]⟩,.string ⟨#[]⟩,.int .i64 0,.int .i64 0,.int .i64 0,.slice none 0 0,.slice none 0 0])] [] [fun M W=>SlAt M W A ws,fun M W=>SlAt M W B ns] w') (n:=94) (m:=9) (l1:=[_,_,_,_,_,_,_,_,_]) (l2:=[_])
  ·rfl
  ·rfl
  ·kernel_rfl
  ·rfl
  ·kernel_rfl
  ·exact T.out.drew
  ·exact fun u u' h hb=>(by first | exact h.below hb | exact h.trans (hb.mono h.size))
  (apply wpT_exact;· (intro w' hC hf;unfold Gives;clear hf hC;go_wp2_with (fail);apply postT_val rfl (Below.refl _ _);simp only [valAt,aA,aE,aC,aD,aH];exact rfl));(try simp only [Act.put,aB,aF,aG])
  (apply wpT_exact;· (intro w' hC hf;unfold Gives;have q:=hC.box (.head _);have z5:=q.cell 5;(simp at z5);clear q;clear hf hC;go_wp2_with (fail);apply postT_val rfl (Below.refl _ _);simp only [valAt,aA,aE,aC,aD,aH];exact rfl));(try simp only [Act.put,aB,aF,aG])
  (apply wpT_exact;· (intro w' hC hf;unfold Gives;clear hf hC;go_wp2_with (fail);apply postT_val rfl (Below.refl _ _);simp only [valAt,aA,aE,aC,aD,aH];exact rfl));(try simp only [Act.put,aB,aF,aG])
  apply wpT_typed (slBlk_kept 8 3 #[.int .i64 (hi+1),.int .i64 0,.int .i64 32,.int .i64 33,.int .i64 65536,.int .i64 65537,.int .i64 1048576,.int .i64 1048577])
  ·intro w' hC hf;unfold Gives;clear hf hC;go_wp2_with fail;apply postT_mk rfl (by go_grown);simp only [valAt,aA,aE,aC,aD,aH];exact ⟨_,rfl,Blk.new _ _ _⟩
  intro vsl;(try simp only [Act.put,aB,aF,aG])
  (apply wpT_exact;· (intro w' hC hf;unfold Gives;clear hf hC;go_wp2_with (fail);apply postT_val rfl (Below.refl _ _);simp only [valAt,aA,aE,aC,aD,aH];exact rfl));(try simp only [Act.put,aB,aF,aG])
  (apply wpT_exact;· (intro w' hC hf;unfold Gives;clear hf hC;go_wp2_with ((go_at_call 17;((with_reducible refine (CR.out _).mono ?_));rintro e wq ⟨rfl,rfl⟩));apply postT_val rfl (Below.refl _ _);simp only [valAt,aA,aE,aC,aD,aH];exact rfl));(try simp only [Act.put,aB,aF,aG])
  apply wpT_typed (atCell_kept (.int .i64 u))
  ·intro w' hC hf;unfold Gives;obtain ⟨N,rfl,hB⟩:=hf.1 rfl
   have qx:w'.cell? ⟨N,rn,none⟩=some (.int .i64 u):=(hB.cell rn).trans HU.out
   clear hf hC hB;go_wp2_with fail
   refine postT_mk rfl (Below.refl _ _) ?_;simp only [valAt,aA,aE,aC,aD,aH];exact ⟨⟨N,rn,none⟩,by first | rfl | simp [Addr.add],qx⟩
  intro vp;(try simp only [Act.put,aB,aF,aG])
  (apply wpT_exact;· (intro w' hC hf;unfold Gives;obtain ⟨pa,rfl,hpa⟩:=hf.1 rfl;clear hf hC;go_wp2_with (fail);apply postT_val rfl (Below.refl _ _);simp only [valAt,aA,aE,aC,aD,aH];exact rfl));(try simp only [Act.put,aB,aF,aG])
  (apply wpT_exact;· (intro w' hC hf;unfold Gives;clear hf hC;go_wp2_with (fail);apply postT_val rfl (Below.refl _ _);simp only [valAt,aA,aE,aC,aD,aH];exact rfl));(try simp only [Act.put,aB,aF,aG])
  apply wpT_done
  intro w4 hC hall
  have T3:=aI hC
  clear T hC hall
  have q:=T3.out.box (.head _);have z0:=q.cell 0;have z1:=q.cell 1;have z2:=q.cell 2;have z3:=q.cell 3;have z4:=q.cell 4;have z5:=q.cell 5;have z6:=q.cell 6;have z7:=q.cell 7;have f0:=q.frozen 0;have f1:=q.frozen 1;have f2:=q.frozen 2;have f3:=q.frozen 3;have f4:=q.frozen 4;have f5:=q.frozen 5;have f6:=q.frozen 6;have f7:=q.frozen 7;simp at z0 z1 z2 z3 z4 z5 z6 z7;clear q
  go_upto_region 18 with fail
  clear z0 z1 z2 z3 z4 z5 z6 z7 f0 f1 f2 f3 f4 f5 f6 f7
  have T2:=aI (show HR w G (N1::N0::G) [(N0,52,#[.string nm,.string of_,.string up,.int .i64 kd,.int .i64 lo,.int .i64 u,.slice A nw c,.slice B nw d]),(N1,52,#[.string ⟨#[]⟩,.string ⟨#[]⟩,.string ⟨#[]⟩,.int .i64 0,.int .i64 0,.int .i64 0,.slice none 0 0,.slice none 0 0])] [] [fun M W=>SlAt M W A ws,fun M W=>SlAt M W B ns] (w4.setCell ⟨N0,5,none⟩ (.int .i64 u)) from T3.out.set0 5 _)
  clear T3
  generalize w4.setCell ⟨N0,5,none⟩ (.int .i64 u)=W3 at T2 ⊢
  have q:=T2.out.box (.head _);have q0:=q.cell 0;have q1:=q.cell 1;have q2:=q.cell 2;have q3:=q.cell 3;have q4:=q.cell 4;have q5:=q.cell 5;have q6:=q.cell 6;have q7:=q.cell 7;simp at q0 q1 q2 q3 q4 q5 q6 q7;clear q
  have p:=T2.out.box (.tail _ (.head _));have f0:=p.frozen 0;have f1:=p.frozen 1;have f2:=p.frozen 2;have f3:=p.frozen 3;have f4:=p.frozen 4;have f5:=p.frozen 5;have f6:=p.frozen 6;have f7:=p.frozen 7;have p0:=p.cell 0;have p1:=p.cell 1;have p2:=p.cell 2;have p3:=p.cell 3;have p4:=p.cell 4;have p5:=p.cell 5;have p6:=p.cell 6;have p7:=p.cell 7;simp at p0 p1 p2 p3 p4 p5 p6 p7;clear p
  go_cut [] from 7 (fun w'=>SFC G w N1 w')
  case first =>
   go_wp2_with fail
   go_meet
   case rel=>exact sfc_mk T2.out (sf_rep (by omega) (by omega) (by omega) (by unfold inI;omega) (by unfold inI;omega) (by unfold inI;omega) HNW.out HNV.out HB1.out b2 HB3.out b4 (T2.out.fact (.head _)) (T2.out.fact (.tail _ (.head _)))) (by show ns.length≤100;rw [HNV.out];omega)
  case rest =>
   obtain ⟨f9,nm9,of9,up9,kd9,lo9,hi9,A9,nw9,c9,B9,nv9,d9,q,hr9,hl9,hb9⟩:=hcut
   clear q0 q1 q2 q3 q4 q5 q6 q7
   have q0:=q.cell 0;have q1:=q.cell 1;have q2:=q.cell 2;have q3:=q.cell 3;have q4:=q.cell 4;have q5:=q.cell 5;have q6:=q.cell 6;have q7:=q.cell 7;simp at q0 q1 q2 q3 q4 q5 q6 q7;clear q
   rename_i hK
   apply hK
   refine wp_ret ?_
   (try simp only [Exit.inBlock,Exit.then])
   refine bodyPost_ret (v:=.agg #[.string nm9,.string of9,.string up9,.int .i64 kd9,.int .i64 lo9,.int .i64 hi9,.slice A9 nw9 c9,.slice B9 nv9 d9]) ?_ rfl ?_
   ·simp [results,Tryz.results50,go_sem,q0,q1,q2,q3,q4,q5,q6,q7]
    try rfl
   ·exact ⟨f9,_,rfl,hr9,hl9,hb9⟩
 ·have hq:=HBD.out by_ 3 (by omega)
  have CR1:=aI (CB.out 3)
  obtain ⟨r1,hre⟩:∃ r1,around by_ 3=r1:=⟨_,rfl⟩
  rw [hre] at CR1 hq
  clear hre
  have hp:=HBD.out (by_.tdiv 3) 5 (by omega)
  have CR2:=aI (CB3.out 5)
  obtain ⟨r2,hre⟩:∃ r2,around (by_.tdiv 3) 5=r2:=⟨_,rfl⟩
  rw [hre] at CR2 hp
  clear hre
  have e3:wrap64 (by_.tdiv 3)=by_.tdiv 3:=HT3.out
  obtain ⟨b3,hb3⟩:∃ z,by_.tdiv 3=z:=⟨_,rfl⟩
  have e4:wrap64 (by_.tdiv 3)=b3:=e3.trans hb3
  rw [hb3] at CR2
  clear e3 hb3
  obtain ⟨rn6,hrn6⟩:∃ n:Nat,r1=n:=⟨r1.toNat,by omega⟩
  rw [hrn6] at CR1 hq
  obtain ⟨u6,hu,hub6⟩:=spM_at rn6 (by omega)
  have hr0:(0:Int)≤(rn6:Int):=by omega
  have hr1:(rn6:Int) < 3:=by omega
  have HU:=aI hu
  clear hu hrn6 hq
  obtain ⟨i0,hj,hz0,hz1,hz2⟩:=info_parts infoStrS
  obtain ⟨M3,h3,-⟩:=T.out.take ((Below.refl _ _).alloc (Nat.le_refl _) (.cells #[] 9)) (World.ownsRow_lit (base:=W2.heap.size) (size:=1) (e:=9) W2 #[] 0 (Nat.le_refl _) (by decide) rfl)
  obtain ⟨xs6,hrd,hfl⟩:=(h3.fact (.head _)).reads
  rw [HNW.out] at hrd
  have T3:=aI (h3.add (keeps_flat _ xs6) hfl)
  have HRD:=aI hrd;have HON:=aI hfl.one
  clear h3 hrd hfl T
  have q:=T3.out.box (.head _);have z6:=q.cell 6;(simp at z6);clear q
  go_upto_region 17 with (first | (go_at_call 17;((with_reducible refine (CR1.out _).mono ?_));rintro e wq ⟨rfl,rfl⟩;have qx:=(Blk.new W46 9 spM).cell rn6;rw [HU.out] at qx;unfold spM at qx;replace T3:=aI (T3.out.below ((Below.refl _ _).alloc (Nat.le_refl _) (.cells #[.string ⟨#[109,111,114,101]⟩,.string ⟨#[114,101,100]⟩,.string ⟨#[]⟩] 9)));generalize W46.alloc (.cells #[.string ⟨#[109,111,114,101]⟩,.string ⟨#[114,101,100]⟩,.string ⟨#[]⟩] 9)=W56 at T3 qx ⊢) | (at_builtin;refine wpList_append_rows (by rfl) _ _ 33 (by rfl) 9 i0 _ 1 16 Tryz.underlying33 hj hz0 hz1 hz2 rfl (by decide) T3.out (by rfl) _ _ nw c xs6 (by rfl) HRD.out HON.out (by unfold maxLen;omega) (by omega) ?_;intro v4 W46 M4 h4 _;simp only [Nat.zero_add,List.nil_append] at h4;clear z6;replace T3:=aI h4;clear h4 HRD HON;obtain ⟨A4,c4,rfl⟩:=T3.out.form (.head _)) | (at_builtin;refine wpList_append_rows (by rfl) _ _ 33 (by rfl) 9 i0 _ 1 16 Tryz.underlying33 hj hz0 hz1 hz2 rfl (by decide) (T3.out.below ((Below.refl _ _).alloc (Nat.le_refl _) _)) (by rfl) _ _ 1 1 [.string u6] (by rfl) (reads_blk (Blk.new _ _ _) rfl) (by intro v hv;rw [List.mem_singleton] at hv;subst hv;rfl) (by unfold maxLen;omega) (by omega) ?_;intro v6 W66 M6 h6 _;replace T3:=aI h6;clear h6;obtain ⟨A66,c66,rfl⟩:=T3.out.form (.head _);have q:=T3.out.box (.head _);have z6:=q.cell 6;have f6:=q.frozen 6;(simp at z6);clear q) | (go_at_call 17;((with_reducible refine (CH.out _).mono ?_));rintro e wq ⟨rfl,rfl⟩))
  have T4:=aI (T3.out.set0 6 (.slice A66 (nw+1) c66))
  clear T3 z6 f6 qx hj hz0 hz1 hz2 HU
  generalize W66.setCell ⟨N0,6,none⟩ (.slice A66 (nw+1) c66)=W76 at T4 ⊢
  obtain ⟨A8,c8,M86,he,hk16,hk26,T8,-,-⟩:=T4.out.freeze (l:=ws++[u6]) rfl (by rw [aK,HNW.out];simp) ((T4.out.fact (.head _)).append (Flat.single ⟨rfl,by omega⟩)) HG.out
  injection he with e1 e2 e3
  subst e1 e3
  have HLN6:=aI e2.symm
  rw [e2.symm] at hk16
  clear T4 e2
  (simp only [aB,aF,aG] at T8)
  obtain ⟨n6,hn6⟩:∃ n,nw+1=n:=⟨_,rfl⟩
  have hnb6:n6≤13:=by omega
  rw [hn6] at HLN6 hk16 T8 ⊢
  have T96:=aI T8
  clear T8 hn6
  obtain ⟨rn7,hrn7⟩:∃ n:Nat,r2=n:=⟨r2.toNat,by omega⟩
  rw [hrn7] at CR2 hp
  obtain ⟨u7,hu,hub7⟩:=spW_at rn7 (by omega)
  have hr0:(0:Int)≤(rn7:Int):=by omega
  have hr1:(rn7:Int) < 5:=by omega
  have HU:=aI hu
  clear hu hrn7 hp
  obtain ⟨i0,hj,hz0,hz1,hz2⟩:=info_parts infoI1
  obtain ⟨M3,h3,-⟩:=T96.out.take ((Below.refl _ _).alloc (Nat.le_refl _) (.cells #[] 3)) (World.ownsRow_lit (base:=W76.heap.size) (size:=1) (e:=3) W76 #[] 0 (Nat.le_refl _) (by decide) rfl)
  obtain ⟨xs7,hrd,hfl⟩:=(h3.fact (.tail _ (.tail _ (.tail _ (.head _))))).reads
  rw [HNV.out] at hrd
  have T3:=aI (h3.add (keeps_flat _ xs7) hfl)
  have HRD:=aI hrd;have HON:=aI hfl.one
  clear h3 hrd hfl T96
  have q:=T3.out.box (.head _);have z7:=q.cell 7;(simp at z7);clear q
  go_upto_region 18 with (first | (go_at_call 17;((with_reducible refine (CR2.out _).mono ?_));rintro e wq ⟨rfl,rfl⟩;have qx:=(Blk.new W47 3 spW).cell rn7;rw [HU.out] at qx;unfold spW at qx;replace T3:=aI (T3.out.below ((Below.refl _ _).alloc (Nat.le_refl _) (.cells #[.int .i64 1,.int .i64 0,.int .i64 (-1),.int .i64 1048576,.int .i64 1048577] 3)));generalize W47.alloc (.cells #[.int .i64 1,.int .i64 0,.int .i64 (-1),.int .i64 1048576,.int .i64 1048577] 3)=W57 at T3 qx ⊢) | (at_builtin;refine wpList_append_rows (by rfl) _ _ 22 (by rfl) 3 i0 _ 1 8 Tryz.underlying22 hj hz0 hz1 hz2 rfl (by decide) T3.out (by rfl) _ _ nw d xs7 (by rfl) HRD.out HON.out (by unfold maxLen;omega) (by omega) ?_;intro v4 W47 M4 h4 _;simp only [Nat.zero_add,List.nil_append] at h4;clear z7;replace T3:=aI h4;clear h4 HRD HON;obtain ⟨A4,c4,rfl⟩:=T3.out.form (.head _)) | (at_builtin;refine wpList_append_rows (by rfl) _ _ 22 (by rfl) 3 i0 _ 1 8 Tryz.underlying22 hj hz0 hz1 hz2 rfl (by decide) (T3.out.below ((Below.refl _ _).alloc (Nat.le_refl _) _)) (by rfl) _ _ 1 1 [.int .i64 u7] (by rfl) (reads_blk (Blk.new _ _ _) rfl) (by intro v hv;rw [List.mem_singleton] at hv;subst hv;rfl) (by unfold maxLen;omega) (by omega) ?_;intro v6 W67 M6 h6 _;replace T3:=aI h6;clear h6;obtain ⟨A67,c67,rfl⟩:=T3.out.form (.head _);have q:=T3.out.box (.head _);have z7:=q.cell 7;have f7:=q.frozen 7;(simp at z7);clear q))
  have T4:=aI (T3.out.set0 7 (.slice A67 (nw+1) c67))
  clear T3 z7 f7 qx hj hz0 hz1 hz2 HU
  generalize W67.setCell ⟨N0,7,none⟩ (.slice A67 (nw+1) c67)=W77 at T4 ⊢
  obtain ⟨A8,c8,M87,he,hk17,hk27,T8,-,-⟩:=T4.out.freeze (l:=ns++[u7]) rfl (by rw [aK,HNV.out];simp) ((T4.out.fact (.head _)).append (Flat.single ⟨rfl,by unfold inI;omega⟩)) HG.out
  injection he with e1 e2 e3
  subst e1 e3
  have HLN7:=aI e2.symm
  rw [e2.symm] at hk17
  clear T4 e2
  (simp only [aB,aF,aG] at T8)
  obtain ⟨n7,hn7⟩:∃ n,nw+1=n:=⟨_,rfl⟩
  have hnb7:n7≤13:=by omega
  rw [hn7] at HLN7 hk17 T8 ⊢
  have T97:=aI T8
  clear T8 hn7
  clear e4
  have T2:=T97
  clear T97
  have q:=T2.out.box (.head _);have q0:=q.cell 0;have q1:=q.cell 1;have q2:=q.cell 2;have q3:=q.cell 3;have q4:=q.cell 4;have q5:=q.cell 5;have q6:=q.cell 6;have q7:=q.cell 7;simp at q0 q1 q2 q3 q4 q5 q6 q7;clear q
  have p:=T2.out.box (.tail _ (.head _));have f0:=p.frozen 0;have f1:=p.frozen 1;have f2:=p.frozen 2;have f3:=p.frozen 3;have f4:=p.frozen 4;have f5:=p.frozen 5;have f6:=p.frozen 6;have f7:=p.frozen 7;have p0:=p.cell 0;have p1:=p.cell 1;have p2:=p.cell 2;have p3:=p.cell 3;have p4:=p.cell 4;have p5:=p.cell 5;have p6:=p.cell 6;have p7:=p.cell 7;simp at p0 p1 p2 p3 p4 p5 p6 p7;clear p
  go_cut [] from 7 (fun w'=>SFC G w N1 w')
  case first =>
   go_wp2_with fail
   go_meet
   case rel=>exact sfc_mk T2.out (sf_rep (by omega) (by omega) (by omega) (by unfold inI;omega) (by unfold inI;omega) (by unfold inI;omega) HLN6.out HLN7.out hk16 hk26 hk17 hk27 (T2.out.fact (.tail _ (.tail _ (.head _)))) (T2.out.fact (.head _))) (by show (ns++[u7]).length≤100;rw [HLN7.out];omega)
  case rest =>
   obtain ⟨f9,nm9,of9,up9,kd9,lo9,hi9,A9,nw9,c9,B9,nv9,d9,q,hr9,hl9,hb9⟩:=hcut
   clear q0 q1 q2 q3 q4 q5 q6 q7
   have q0:=q.cell 0;have q1:=q.cell 1;have q2:=q.cell 2;have q3:=q.cell 3;have q4:=q.cell 4;have q5:=q.cell 5;have q6:=q.cell 6;have q7:=q.cell 7;simp at q0 q1 q2 q3 q4 q5 q6 q7;clear q
   rename_i hK
   apply hK
   refine wp_ret ?_
   (try simp only [Exit.inBlock,Exit.then])
   refine bodyPost_ret (v:=.agg #[.string nm9,.string of9,.string up9,.int .i64 kd9,.int .i64 lo9,.int .i64 hi9,.slice A9 nw9 c9,.slice B9 nv9 d9]) ?_ rfl ?_
   ·simp [results,Tryz.results50,go_sem,q0,q1,q2,q3,q4,q5,q6,q7]
    try rfl
   ·exact ⟨f9,_,rfl,hr9,hl9,hb9⟩
 ·have hmk:=fun W=>run_make_row' (P:=Tryz.prog) 22 3 (.int .i64 0) 8 Tryz.underlying22 infoI1 rfl .i64 .i64 nw (by omega) (by omega) W
  have T3:=aI (T.out.made (madeCells #[.int .i64 0] nw) 3 rfl)
  have q:=T.out.box (.head _);have z6:=q.cell 6;(simp at z6);clear q
  have q:=T3.out.box (.head _);have y7:=q.cell 7;have f7:=q.frozen 7;(simp only [aE,aC,aD] at y7);clear q
  clear T
  go_upto_region 18 with (first | (go_at_call 17;((with_reducible refine (CH.out _).mono ?_));rintro e wq ⟨rfl,rfl⟩))
  clear z6 y7 f7 hmk
  generalize W2.alloc (.cells (madeCells #[.int .i64 0] nw) 3)=W3 at T3 ⊢
  generalize W2.heap.size=NL at T3 ⊢
  have T2:=aI (show HR w G (N1::N0::G) [(N0,52,#[.string nm,.string of_,.string up,.int .i64 kd,.int .i64 lo,.int .i64 hi,.slice A nw c,.slice (some ⟨NL,0,none⟩) nw nw]),(N1,52,#[.string ⟨#[]⟩,.string ⟨#[]⟩,.string ⟨#[]⟩,.int .i64 0,.int .i64 0,.int .i64 0,.slice none 0 0,.slice none 0 0])] [] ((fun M W=>NL∉M∧Blk W NL 3 (madeCells #[.int .i64 0] nw))::[fun M W=>SlAt M W A ws,fun M W=>SlAt M W B ns]) (W3.setCell ⟨N0,7,none⟩ (.slice (some ⟨NL,0,none⟩) nw nw)) from T3.out.set0 7 _)
  clear T3
  generalize W3.setCell ⟨N0,7,none⟩ (.slice (some ⟨NL,0,none⟩) nw nw)=W4 at T2 ⊢
  have HSN:=aI (show SlAt (N1::N0::G) W4 (some ⟨NL,0,none⟩) (List.replicate nw (0:Int)) from SlAt.of_blk (xs:=intVals (List.replicate nw 0)) (flat_intsB (fun z hz=>by rw [(List.mem_replicate.1 hz).2];unfold inI;omega)) (by
   have:=(T2.out.fact (.head _)).2
   rwa [show madeCells #[.int .i64 0] nw=(intVals (List.replicate nw 0)).toArray from by rw [← Array.toArray_toList (xs:=madeCells #[.int .i64 0] nw),toList_madeCells_one];unfold intVals;rw [List.map_replicate]] at this) (T2.out.fact (.head _)).1)
  have q:=T2.out.box (.head _);have q0:=q.cell 0;have q1:=q.cell 1;have q2:=q.cell 2;have q3:=q.cell 3;have q4:=q.cell 4;have q5:=q.cell 5;have q6:=q.cell 6;have q7:=q.cell 7;simp at q0 q1 q2 q3 q4 q5 q6 q7;clear q
  have p:=T2.out.box (.tail _ (.head _));have f0:=p.frozen 0;have f1:=p.frozen 1;have f2:=p.frozen 2;have f3:=p.frozen 3;have f4:=p.frozen 4;have f5:=p.frozen 5;have f6:=p.frozen 6;have f7:=p.frozen 7;have p0:=p.cell 0;have p1:=p.cell 1;have p2:=p.cell 2;have p3:=p.cell 3;have p4:=p.cell 4;have p5:=p.cell 5;have p6:=p.cell 6;have p7:=p.cell 7;simp at p0 p1 p2 p3 p4 p5 p6 p7;clear p
  go_cut [] from 7 (fun w'=>SFC G w N1 w')
  case first =>
   go_wp2_with fail
   go_meet
   case rel=>exact sfc_mk T2.out (sf_rep (by omega) (by omega) (by omega) (by unfold inI;omega) (by unfold inI;omega) (by unfold inI;omega) HNW.out List.length_replicate HB1.out b2 (Nat.le_refl _) (by omega) (T2.out.fact (.tail _ (.head _))) HSN.out) (by show (List.replicate nw (0:Int)).length≤100;rw [List.length_replicate];omega)
  case rest =>
   obtain ⟨f9,nm9,of9,up9,kd9,lo9,hi9,A9,nw9,c9,B9,nv9,d9,q,hr9,hl9,hb9⟩:=hcut
   clear q0 q1 q2 q3 q4 q5 q6 q7
   have q0:=q.cell 0;have q1:=q.cell 1;have q2:=q.cell 2;have q3:=q.cell 3;have q4:=q.cell 4;have q5:=q.cell 5;have q6:=q.cell 6;have q7:=q.cell 7;simp at q0 q1 q2 q3 q4 q5 q6 q7;clear q
   rename_i hK
   apply hK
   refine wp_ret ?_
   (try simp only [Exit.inBlock,Exit.then])
   refine bodyPost_ret (v:=.agg #[.string nm9,.string of9,.string up9,.int .i64 kd9,.int .i64 lo9,.int .i64 hi9,.slice A9 nw9 c9,.slice B9 nv9 d9]) ?_ rfl ?_
   ·simp [results,Tryz.results50,go_sem,q0,q1,q2,q3,q4,q5,q6,q7]
    try rfl
   ·exact ⟨f9,_,rfl,hr9,hl9,hb9⟩
end Go.Proofs.YtmplaikgbeeikaaGreatDoor
namespace Go.Proofs.YtmplaikgbeeikaaGreatDoor
open Go Go.RowKit
theorem around_nn (n m:Int):0≤around n m:=by
 by_cases h:1≤m
 ·exact (around_bd n m h).1
 ·rw [around_lo (by omega)];exact Int.le_refl _
def SpP (w:World) (e:Ending) (w':World):Prop:=∃ (y:Sch) (us:List Value),e=.returned (.agg us.toArray)∧Mem.rep [] w' y us∧Sx.Sz y∧Below w.heap.size w w'
def soV (a:Int):Array Value:=#[.int .i64 (a+1),.int .i64 (-1),.int .i64 1048576,.int .i64 1048577]
theorem soV_at (a:Int) (ha:-2000000≤a∧a≤2000000) (z:Nat) (h:z < 4):∃ n:Int,(soV a)[z]?=some (.int .i64 n)∧-3000000≤n∧n≤3000000:=by
 match z,h with
 | 0,_ | 1,_ | 2,_ | 3,_=>exact ⟨_,rfl,by omega,by omega⟩
 | n+4,h=>exact absurd h (by omega)
def soN:Array Value:=#[.string ⟨#[112,101,114,115,111,110]⟩,.string ⟨#[]⟩,.string ⟨#[111,116,104,101,114]⟩,.string ⟨#[97,32,98]⟩]
theorem soN_at (z:Nat) (h:z < 4):∃ u:ByteArray,soN[z]?=some (.string u)∧u.size≤16:=by
 match z,h with
 | 0,_ | 1,_ | 2,_ | 3,_=>exact ⟨_,rfl,by decide⟩
 | n+4,h=>exact absurd h (by omega)
def soLo:Array Value:=#[.int .i64 0,.int .i64 5,.int .i64 (-1),.int .i64 65537]
theorem soLo_at (z:Nat) (h:z < 4):∃ n:Int,soLo[z]?=some (.int .i64 n)∧-3000000≤n∧n≤3000000:=by
 match z,h with
 | 0,_ | 1,_ | 2,_ | 3,_=>exact ⟨_,rfl,by omega,by omega⟩
 | n+4,h=>exact absurd h (by omega)
def soHi:Array Value:=#[.int .i64 0,.int .i64 5,.int .i64 65536,.int .i64 65537]
theorem soHi_at (z:Nat) (h:z < 4):∃ n:Int,soHi[z]?=some (.int .i64 n)∧-3000000≤n∧n≤3000000:=by
 match z,h with
 | 0,_ | 1,_ | 2,_ | 3,_=>exact ⟨_,rfl,by omega,by omega⟩
 | n+4,h=>exact absurd h (by omega)
def soKd:Array Value:=#[.string ⟨#[112,101,114,115,111,110]⟩,.string ⟨#[111,114,100,101,114]⟩,.string ⟨#[110,111,110,101]⟩,.string ⟨#[]⟩]
theorem soKd_at (z:Nat) (h:z < 4):∃ u:ByteArray,soKd[z]?=some (.string u)∧u.size≤16:=by
 match z,h with
 | 0,_ | 1,_ | 2,_ | 3,_=>exact ⟨_,rfl,by decide⟩
 | n+4,h=>exact absurd h (by omega)
def soA:Array Value:=#[.string ⟨#[115,105,122,101]⟩,.string ⟨#[108,111,119]⟩,.string ⟨#[]⟩,.string ⟨#[105,100]⟩,.string ⟨#[98,111,114,110]⟩]
theorem soA_at (z:Nat) (h:z < 5):∃ u:ByteArray,soA[z]?=some (.string u)∧u.size≤16:=by
 match z,h with
 | 0,_ | 1,_ | 2,_ | 3,_ | 4,_=>exact ⟨_,rfl,by decide⟩
 | n+5,h=>exact absurd h (by omega)
def soB:Array Value:=#[.string ⟨#[104,105,103,104]⟩,.string ⟨#[]⟩,.string ⟨#[115,105,122,101]⟩,.string ⟨#[108,101,102,116]⟩,.string ⟨#[116,97,103]⟩]
theorem soB_at (z:Nat) (h:z < 5):∃ u:ByteArray,soB[z]?=some (.string u)∧u.size≤16:=by
 match z,h with
 | 0,_ | 1,_ | 2,_ | 3,_ | 4,_=>exact ⟨_,rfl,by decide⟩
 | n+5,h=>exact absurd h (by omega)
def soS:Array Value:=#[.string ⟨#[109,111,114,101]⟩,.string ⟨#[110,101,119]⟩,.string ⟨#[63]⟩]
theorem soS_at (z:Nat) (h:z < 3):∃ u:ByteArray,soS[z]?=some (.string u)∧u.size≤16:=by
 match z,h with
 | 0,_ | 1,_ | 2,_=>exact ⟨_,rfl,by decide⟩
 | n+3,h=>exact absurd h (by omega)
section
variable {α:Type} [Mem α] {G:List Nat} {w:World}
theorem Flat.setAt:∀ {l:List α} {xs:List Value},Flat G w l xs→∀ i (hi:i < l.length) (j:Nat) (_:j < Mem.sz α) {a':α} {u:Value} (_:∀ us,Mem.rep G w l[i] us→Mem.rep G w a' (us.set j u)),Flat G w (l.set i a') (xs.set (i*Mem.sz α+j) u)
 | [],_,_,i,hi,_,_,_,_,_=>by simp at hi
 | a::l,xs,h,i,hi,j,hj,a',u,ha=>by
  obtain ⟨us,ts,rfl,h1,h2⟩:=h
  have hl:=Mem.len h1
  cases i with
  | zero =>
   rw [Nat.zero_mul,Nat.zero_add,List.set_append_left _ _ (by omega)]
   exact ⟨us.set j u,ts,rfl,ha us h1,h2⟩
  | succ i =>
   have e:(i+1)*Mem.sz α+j - Mem.sz α=i*Mem.sz α+j:=by rw [Nat.add_mul];omega
   rw [List.set_append_right _ _ (by rw [hl,Nat.add_mul];omega),hl,e]
   exact ⟨us,ts.set (i*Mem.sz α+j) u,rfl,h1,Flat.setAt h2 i (by simpa using hi) j hj ha⟩
end
def SPC (w:World) (N1:Nat) (w':World):Prop:=∃ (y:Sch) (v:Int) (A:Option Addr) (nk c:Nat) (B:Option Addr) (nl d:Nat) (C:Option Addr) (nr e:Nat),Blk w' N1 28 #[.int .i64 v,.slice A nk c,.slice B nl d,.slice C nr e]∧Mem.rep [] w' y [.int .i64 v,.slice A nk c,.slice B nl d,.slice C nr e]∧Sx.Sz y∧Below w.heap.size w w'
section
variable {w W:World} {M:List Nat} {N0 N1:Nat} {L:List (List Nat→World→Prop)} {rs:List Rw} {v:Int} {A B C:Option Addr} {nk c nl d nr e:Nat}
theorem spc_mk {y:Sch} (T:HR w [] M [(N0,28,#[.int .i64 v,.slice A nk c,.slice B nl d,.slice C nr e]),(N1,28,#[.int .i64 0,.slice none 0 0,.slice none 0 0,.slice none 0 0])] rs L W) (hr:Mem.rep M W y [.int .i64 v,.slice A nk c,.slice B nl d,.slice C nr e]) (hz:Sx.Sz y):SPC w N1 ((((W.setCell ⟨N1,0,none⟩ (.int .i64 v)).setCell ⟨N1,1,none⟩ (.slice A nk c)).setCell ⟨N1,2,none⟩ (.slice B nl d)).setCell ⟨N1,3,none⟩ (.slice C nr e)):=by
 have H9:=(((((T.add (keeps_rep y [.int .i64 v,.slice A nk c,.slice B nl d,.slice C nr e]) hr).bswap.set0 0 (.int .i64 v)).set0 1 (.slice A nk c)).set0 2 (.slice B nl d)).set0 3 (.slice C nr e))
 have hB:=H9.box (.head _)
 simp only [aB,aF,aG] at hB
 exact ⟨y,v,A,nk,c,B,nl,d,C,nr,e,hB,Mem.sub (H9.fact (.head _)) (fun _ h=>by cases h),hz,H9.h.bl⟩
theorem spo_end {ks:List Knd} {ls:List Lif} {rs:List Rul} {xsK xsL xsR:List Value} (T:HR w [] M [(N0,28,#[.int .i64 v,.slice A nk c,.slice B nl d,.slice C nr e]),(N1,28,#[.int .i64 0,.slice none 0 0,.slice none 0 0,.slice none 0 0])] [⟨58,5,.slice C nr e,nr,xsR⟩,⟨55,3,.slice B nl d,nl,xsL⟩,⟨49,4,.slice A nk c,nk,xsK⟩] L W)
  (fR:Flat M W rs xsR) (fL:Flat M W ls xsL) (fK:Flat M W ks xsK) (eR:rs.length=nr) (eL:ls.length=nl) (eK:ks.length=nk) (hv:inI v) (hz:Sx.Sz ((v,ks,ls,rs):Sch)):SPC w N1 ((((W.setCell ⟨N1,0,none⟩ (.int .i64 v)).setCell ⟨N1,1,none⟩ (.slice A nk c)).setCell ⟨N1,2,none⟩ (.slice B nl d)).setCell ⟨N1,3,none⟩ (.slice C nr e)):=by
 subst eR eL eK
 obtain ⟨C',e',M1,h1,h2,h3,T1,s1,_⟩:=T.freeze (l:=rs) rfl rfl fR (fun _ h=>by cases h)
 obtain ⟨B',d',M2,k1,k2,k3,T2,s2,_⟩:=T1.freeze (l:=ls) rfl rfl (fL.sub fun g hg=>.inl (s1 g hg)) (fun _ h=>by cases h)
 obtain ⟨A',c',M3,j1,j2,j3,T3,s3,_⟩:=T2.freeze (l:=ks) rfl rfl (fK.sub fun g hg=>.inl (s1 g (s2 g hg))) (fun _ h=>by cases h)
 injection h1 with h1 _ h1'
 injection k1 with k1 _ k1'
 injection j1 with j1 _ j1'
 subst h1 h1' k1 k1' j1 j1'
 exact spc_mk (y:=(v,ks,ls,rs)) T3 ⟨[_],_,rfl,⟨rfl,hv⟩,[_],_,rfl,⟨_,_,rfl,j2,j3,T3.fact (.head _)⟩,[_],_,rfl,⟨_,_,rfl,k2,k3,T3.fact (.tail _ (.head _))⟩,⟨_,_,rfl,h2,h3,T3.fact (.tail _ (.tail _ (.head _)))⟩⟩ hz
end
theorem Sx.OB.sz {x:Sch} (hb:Sx.OB x):Sx.Sz x:=by
 refine ⟨fun k hk=>⟨by have:=(hb.k k hk).n;omega,fun f hf=>?_⟩,fun l hl=>?_,fun r hr=>?_⟩
 ·have h1:=Sx.fldB_bd ((hb.k k hk).f f hf)
  have:=h1.ns;have:=h1.ws;omega
 ·have h1:=hb.l l hl
  have:=h1.n;have:=h1.m;omega
 ·have h1:=hb.r r hr
  have:=h1.a;have:=h1.b;omega
section
variable {G:List Nat} {w:World} {k:Knd} {us:List Value}
theorem knd_set0 {u:ByteArray} (hu:u.size≤16) (h:Mem.rep G w k us):Mem.rep G w ((u,k.2.1,k.2.2.1,k.2.2.2):Knd) (us.set 0 (.string u)):=by
 obtain ⟨u1,t1,rfl,⟨rfl,a1⟩,u2,t2,rfl,⟨rfl,a2⟩,u3,t3,rfl,⟨rfl,a3⟩,r4⟩:=h
 exact ⟨[_],_,rfl,⟨rfl,by show u.size≤9223372036854775807;omega⟩,[_],_,rfl,⟨rfl,a2⟩,[_],_,rfl,⟨rfl,a3⟩,r4⟩
theorem knd_set1 {u:Int} (hu:inI u) (h:Mem.rep G w k us):Mem.rep G w ((k.1,u,k.2.2.1,k.2.2.2):Knd) (us.set 1 (.int .i64 u)):=by
 obtain ⟨u1,t1,rfl,⟨rfl,a1⟩,u2,t2,rfl,⟨rfl,a2⟩,u3,t3,rfl,⟨rfl,a3⟩,r4⟩:=h
 exact ⟨[_],_,rfl,⟨rfl,a1⟩,[_],_,rfl,⟨rfl,hu⟩,[_],_,rfl,⟨rfl,a3⟩,r4⟩
theorem knd_set2 {u:Int} (hu:inI u) (h:Mem.rep G w k us):Mem.rep G w ((k.1,k.2.1,u,k.2.2.2):Knd) (us.set 2 (.int .i64 u)):=by
 obtain ⟨u1,t1,rfl,⟨rfl,a1⟩,u2,t2,rfl,⟨rfl,a2⟩,u3,t3,rfl,⟨rfl,a3⟩,r4⟩:=h
 exact ⟨[_],_,rfl,⟨rfl,a1⟩,[_],_,rfl,⟨rfl,a2⟩,[_],_,rfl,⟨rfl,hu⟩,r4⟩
theorem knd_set3 {fs:List Fld} {A:Option Addr} {n c:Nat} (hn:fs.length=n) (h1:n≤c) (h2:c≤9223372036854775807) (hs:SlAt G w A fs) (h:Mem.rep G w k us):Mem.rep G w ((k.1,k.2.1,k.2.2.1,fs):Knd) (us.set 3 (.slice A n c)):=by
 subst hn
 obtain ⟨u1,t1,rfl,⟨rfl,a1⟩,u2,t2,rfl,⟨rfl,a2⟩,u3,t3,rfl,⟨rfl,a3⟩,B,d,rfl,_⟩:=h
 exact ⟨[_],_,rfl,⟨rfl,a1⟩,[_],_,rfl,⟨rfl,a2⟩,[_],_,rfl,⟨rfl,a3⟩,A,c,rfl,h1,h2,hs⟩
variable {l:Lif}
theorem lif_set1 {ss:List ByteArray} {A:Option Addr} {n c:Nat} (hn:ss.length=n) (h1:n≤c) (h2:c≤9223372036854775807) (hs:SlAt G w A ss) (h:Mem.rep G w l us):Mem.rep G w ((l.1,ss,l.2.2):Lif) (us.set 1 (.slice A n c)):=by
 subst hn
 obtain ⟨u1,t1,rfl,⟨rfl,a1⟩,u2,t2,rfl,⟨B,d,rfl,_⟩,r3⟩:=h
 exact ⟨[_],_,rfl,⟨rfl,a1⟩,[_],_,rfl,⟨A,c,rfl,h1,h2,hs⟩,r3⟩
theorem lif_set2 {ms:List (Int × Int)} {A:Option Addr} {n c:Nat} (hn:ms.length=n) (h1:n≤c) (h2:c≤9223372036854775807) (hs:SlAt G w A ms) (h:Mem.rep G w l us):Mem.rep G w ((l.1,l.2.1,ms):Lif) (us.set 2 (.slice A n c)):=by
 subst hn
 obtain ⟨u1,t1,rfl,⟨rfl,a1⟩,u2,t2,rfl,⟨B,d,rfl,b⟩,B2,d2,rfl,_⟩:=h
 exact ⟨[_],_,rfl,⟨rfl,a1⟩,[_],_,rfl,⟨B,d,rfl,b⟩,A,c,rfl,h1,h2,hs⟩
end
theorem Sx.Sz.same {v:Int} {x:Sch} (_:x.1=v) (h:Sx.Sz x):Sx.Sz ((v,Sc.kinds x,x.2.2.1,x.2.2.2):Sch):=⟨h.k,h.l,h.r⟩
theorem Sx.Sz.setK {v:Int} {x:Sch} {i:Nat} {k:Knd} (h:Sx.Sz x) (hk:(Sc.flds k).length≤1000000∧∀ f∈Sc.flds k,(Sc.wts f).length≤1000000):Sx.Sz ((v,(Sc.kinds x).set i k,x.2.2.1,x.2.2.2):Sch) :=
 ⟨fun k' hk'=>by
  rcases List.mem_or_eq_of_mem_set hk' with h1 | h1
  ·exact h.k k' h1
  ·rw [h1];exact hk,h.l,h.r⟩
theorem Sx.Sz.setL {v:Int} {x:Sch} {i:Nat} {l:Lif} (h:Sx.Sz x) (hl:l.2.1.length≤1000000∧l.2.2.length≤1000000):Sx.Sz ((v,Sc.kinds x,x.2.2.1.set i l,x.2.2.2):Sch) :=
 ⟨h.k,fun k' hk'=>by
  rcases List.mem_or_eq_of_mem_set hk' with h1 | h1
  ·exact h.l k' h1
  ·rw [h1];exact hl,h.r⟩
theorem Sx.Sz.addR {v:Int} {x:Sch} {r:Rul} (h:Sx.Sz x) (hr:r.2.2.1.size+r.2.2.2.1.size≤9223372036854775807):Sx.Sz ((v,Sc.kinds x,x.2.2.1,x.2.2.2++[r]):Sch) :=
 ⟨h.k,h.l,fun k' hk'=>by
  rcases List.mem_append.1 hk' with h1 | h1
  ·exact h.r k' h1
  ·rw [List.mem_singleton.1 h1];exact hr⟩
def setL:List Value→Nat→List Value→List Value
 | xs,_,[]=>xs
 | xs,o,u::us=>setL (xs.set o u) (o+1) us
theorem setL_mid:∀ (us' us p ts:List Value),us.length=us'.length→setL (p++(us++ts)) p.length us'=p++(us'++ts)
 | [],us,p,ts,h=>by rw [List.length_eq_zero_iff.1 h];rfl
 | u::us',us,p,ts,h=>by
  cases us with
  | nil=>simp at h
  | cons v us =>
   have e:(p++(v::us++ts)).set p.length u=(p++[u])++(us++ts):=by simp
   have h1:=setL_mid us' us (p++[u]) ts (by simpa using h)
   rw [aK] at h1
   show setL ((p++(v::us++ts)).set p.length u) (p.length+1) us'=_
   rw [e,show p.length+1=p.length + [u].length from rfl,h1]
   simp
theorem setL_behind:∀ (us' us ts:List Value) (o:Nat),setL (us++ts) (us.length+o) us'=us++setL ts o us'
 | [],_,_,_=>rfl
 | u::us',us,ts,o=>by
  show setL ((us++ts).set (us.length+o) u) (us.length+o+1) us'=us++setL (ts.set o u) (o+1) us'
  rw [List.set_append_right _ _ (by omega),show us.length+o - us.length=o by omega,Nat.add_assoc,setL_behind us' us (ts.set o u) (o+1)]
theorem Flat.put {α:Type} [Mem α] {G:List Nat} {w:World}:∀ {l:List α} {xs:List Value},Flat G w l xs→∀ i (_:i < l.length) {a':α} {us':List Value},Mem.rep G w a' us'→Flat G w (l.set i a') (setL xs (i*Mem.sz α) us')
 | [],_,_,i,hi,_,_,_=>by simp at hi
 | a::l,xs,h,i,hi,a',us',hr=>by
  obtain ⟨us,ts,rfl,h1,h2⟩:=h
  have hl:=Mem.len h1
  cases i with
  | zero =>
   rw [Nat.zero_mul]
   have:=setL_mid us' us [] ts (by rw [hl,Mem.len hr])
   simp only [List.nil_append,List.length_nil] at this
   rw [this]
   exact ⟨us',ts,rfl,hr,h2⟩
  | succ i =>
   rw [show (i+1)*Mem.sz α=us.length+i*Mem.sz α by rw [hl,Nat.add_mul];omega,setL_behind]
   exact ⟨us,_,rfl,h1,Flat.put h2 i (by simpa using hi) hr⟩
theorem sfield_open (f:Fld) (us:List Value) (G:List Nat) (w:World) (hG:∀ g∈G,g < w.heap.size) (h:Mem.rep G w f us) (hb:Sx.FB f) (how by_:Int) (h1:inI how) (h2:inI by_):Calls Tryz.prog 50 #[.agg us.toArray,.int .i64 how,.int .i64 by_] w fun e w'=>∃ (f':Fld) (nm of_ up:ByteArray) (kd lo hi:Int) (A:Option Addr) (nw c:Nat) (B:Option Addr) (nv d:Nat),e=.returned (.agg #[.string nm,.string of_,.string up,.int .i64 kd,.int .i64 lo,.int .i64 hi,.slice A nw c,.slice B nv d])∧Mem.rep G w' f' [.string nm,.string of_,.string up,.int .i64 kd,.int .i64 lo,.int .i64 hi,.slice A nw c,.slice B nv d]∧(Sc.wts f').length≤100∧Below w.heap.size w w':=by
 refine (sfield_any f us G w hG h hb.nm hb.of_ hb.up hb.lo hb.hi hb.ws hb.ns hb.kd how by_ h1 h2).mono ?_
 rintro e w' ⟨f',us',rfl,hr,hl,hb'⟩
 obtain ⟨A,c,B,d,rfl,_⟩:=rep_fld hr
 exact ⟨f',_,_,_,_,_,_,_,_,_,_,_,_,rfl,hr,hl,hb'⟩
theorem some_of {w:World} {base n c:Nat} {e:TypeId} {size:Nat} {A:Option Addr} {xs:List Value} {g0 g1:Nat} (h:w.ownsRow base e size (.slice A n c) n xs) (hob:(Value.slice A n c).ownBlock=some g0∨(Value.slice A n c).ownBlock=some g1):∃ g,A=some ⟨g,0,none⟩:=by
 rcases h.2 with ⟨h1,_⟩ | ⟨g,cap,cur,h1,_⟩
 ·injection h1 with h1
  subst h1
  simp [Value.ownBlock] at hob
 ·injection h1 with h1
  exact ⟨g,h1⟩
section
variable {g:Nat} {te:TypeId} {n8:Nat} {us:List Value} {w W W':World} {G M:List Nat} {bx:List Box} {L:List (List Nat→World→Prop)}
theorem HRow.rowE5 {size n c:Nat} {xs:List Value} (T:HRow w G M bx L te size (.slice (some ⟨g,0,none⟩) n c) n xs W) (hc:EG g te (n*size) us W W'):∃ cur,Blk W' g te cur∧n≤c∧c≤maxLen∧cur.size=c*size∧cur.toList.take (n*size)=xs:=by
 have hl:xs.length=n*size:=T.own.1
 rcases T.own.2 with ⟨h0,_⟩ | ⟨g',cap,cur,e1,e2,e3,e4,e5,e6,e7⟩
 ·cases h0
 ·injection e1 with k1 k2 k3
  injection k1 with k1
  injection k1 with k1
  subst k1 k3
  have hk:=@rowE_kept g te (n*size) us W.heap.size size n xs (fun j u h1 h2=>by have:=(List.getElem?_eq_some_iff.1 h2).1;omega) _ W W' ⟨g,c,cur,rfl,.inl rfl,e3,e4,e5,e6,e7⟩ hc
  obtain ⟨g2,cap2,cur2,f1,f2,f3,f4,f5,f6,f7⟩:=hk
  injection f1 with k1 k2 k3
  injection k1 with k1
  injection k1 with k1
  subst k1 k3
  exact ⟨cur2,f3,f4,f5,f6,f7⟩
theorem HR.row {e:TypeId} {size n:Nat} {v:Value} {xs:List Value} (h:HR w G M bx [⟨e,size,v,n,xs⟩] L W):HRow w G M bx L e size v n xs W:=⟨h.h,h.ok _ (.head _),h.own _ (.head _)⟩
theorem HRow.hr {e:TypeId} {size n:Nat} {v:Value} {xs:List Value} (h:HRow w G M bx L e size v n xs W):HR w G M bx [⟨e,size,v,n,xs⟩] L W :=
 ⟨h.h,fun r hr=>by rw [List.mem_singleton.1 hr];exact h.ok,fun r hr=>by rw [List.mem_singleton.1 hr];exact h.own,List.pairwise_singleton _ _⟩
theorem ptrN_keptE {B0:Nat} {j:Nat} {u:Value} (hg:g < B0):@RG.Kept (earlyGrow g te n8 us) (fun v w=>∃ N,v=.pointer (some ⟨N,j,none⟩)∧B0≤N∧w.cell? ⟨N,j,none⟩=some u):=by
 rintro v w w' ⟨N,h1,h2,h3⟩ hr
 have hr:EG g te n8 us w w':=hr
 exact ⟨N,h1,h2,hr.chg.cell (by simp;omega) h3⟩
end
structure NR (B0:Nat) (te:TypeId) (n8:Nat) (us:List Value) (W W':World):Prop where
 os:W'.os=W.os
 tape:W'.tape=W.tape
 output:W'.output=W.output
 size:W.heap.size≤W'.heap.size
 old:∀ k,k < W.heap.size→W'.heap[k]?=W.heap[k]?∨(B0≤k∧∃ cur cur',Blk W k te cur∧Blk W' k te cur'∧Late n8 us cur cur')
section
variable {B0:Nat} {te:TypeId} {n8:Nat} {us:List Value} {W W' W'':World}
theorem NR.refl (B0:Nat) (te:TypeId) (n8:Nat) (us:List Value) (W:World):NR B0 te n8 us W W:=⟨rfl,rfl,rfl,Nat.le_refl _,fun _ _=>.inl rfl⟩
theorem NR.trans (h:NR B0 te n8 us W W') (k:NR B0 te n8 us W' W''):NR B0 te n8 us W W'':=by
 refine ⟨k.os.trans h.os,k.tape.trans h.tape,k.output.trans h.output,Nat.le_trans h.size k.size,fun i hi=>?_⟩
 rcases k.old i (Nat.lt_of_lt_of_le hi h.size) with e | ⟨e1,c1,c2,e2,e3,e4⟩
 ·rcases h.old i hi with f | ⟨f1,d1,d2,f2,f3,f4⟩
  ·exact .inl (e.trans f)
  ·exact .inr ⟨f1,d1,d2,f2,e.trans f3,f4⟩
 ·rcases h.old i hi with f | ⟨f1,d1,d2,f2,f3,f4⟩
  ·exact .inr ⟨e1,c1,c2,f.symm.trans e2,e3,e4⟩
  ·have e:d2=c1:=by
    have:=f3.symm.trans e2
    injection this with this
    injection this
   subst e
   exact .inr ⟨f1,d1,c2,f2,e3,f4.trans e4⟩
theorem NR.below (h:Below W.heap.size W W'):NR B0 te n8 us W W':=⟨h.os,h.tape,h.output,h.size,fun k hk=>.inl (h.block k hk)⟩
@[reducible] def nrGrow (B0:Nat) (te:TypeId) (n8:Nat) (us:List Value):Grow:=⟨NR B0 te n8 us,NR.refl B0 te n8 us,NR.trans,NR.below⟩
theorem NR.bel (h:NR B0 te n8 us W W') (hB:W.heap.size≤B0):Below W.heap.size W W':=⟨h.os,h.tape,h.output,h.size,fun k hk=>by
 rcases h.old k hk with e | ⟨e,_⟩
 ·exact e
 ·omega⟩
theorem rowN_keptN {size n:Nat} {xs:List Value} (hx:∀ j u,n8≤j→xs[j]?=some u→us[j - n8]?=some u):@RG.Kept (nrGrow B0 te n8 us) (RowN B0 te size n xs):=by
 rintro v w w' ⟨g,cap,cur,h1,h2,h3,h4,h5,h6,h7⟩ hr
 have hr:NR B0 te n8 us w w':=hr
 rcases hr.old g h3.lt with e | ⟨_,c1,c2,e2,e3,e4⟩
 ·exact ⟨g,cap,cur,h1,h2,e.trans h3,h4,h5,h6,h7⟩
 ·have:=h3.symm.trans e2
  injection this with this
  injection this with h8
  subst h8
  refine ⟨g,cap,c2,h1,h2,e3,h4,h5,e4.1.trans h6,?_⟩
  rw [← h7]
  refine List.ext_getElem? fun j=>?_
  rw [List.getElem?_take,List.getElem?_take]
  split
  ·rename_i hj
   rw [Array.getElem?_toList,Array.getElem?_toList]
   rcases e4.2 j with e | ⟨e,u,f1,f2⟩
   ·exact e
   ·have hlt:j < cur.size:=by have:=(Array.getElem?_eq_some_iff.1 f2).1;have:=e4.1;omega
    have hxj:xs[j]?=some cur[j]:=by
     rw [← h7,List.getElem?_take,if_pos hj,Array.getElem?_toList];simp [hlt]
    have:=hx j _ e hxj
    rw [f1] at this
    injection this with this
    rw [f2,this];simp [hlt]
  ·rfl
theorem NR.cell (h:NR B0 te n8 us W W') {N j:Nat} {u:Value} (hc:W.cell? ⟨N,j,none⟩=some u) (hx:∀ u',n8≤j→us[j - n8]?=some u'→u'=u):W'.cell? ⟨N,j,none⟩=some u:=by
 have hlt:=World.block_lt_of_cell? _ _ hc
 rcases h.old N hlt with e | ⟨_,c1,c2,e2,e3,e4⟩
 ·exact (World.cell?_of_block e).trans hc
 ·have hc:W.cell? ⟨N,j,none⟩=some u:=hc
  rw [e2.cell] at hc
  rw [e3.cell]
  rcases e4.2 j with e | ⟨e,u',f1,f2⟩
  ·exact e.trans hc
  ·rw [f2,hx u' e f1]
theorem sliN_kept {k:Nat} {f:Nat→Option Value} (hx:∀ j u u',f j=some u→n8≤j→us[j - n8]?=some u'→u'=u):@RG.Kept (nrGrow B0 te n8 us) (fun v w=>∃ N,v=.slice (some ⟨N,0,none⟩) k k∧B0≤N∧∀ j u,f j=some u→w.cell? ⟨N,j,none⟩=some u):=by
 rintro v w w' ⟨N,h1,h2,h3⟩ hr
 have hr:NR B0 te n8 us w w':=hr
 exact ⟨N,h1,h2,fun j u hu=>hr.cell (h3 j u hu) (fun u'=>hx j u u' hu)⟩
theorem ptrN_keptN {j:Nat} {u:Value} (hx:∀ u',n8≤j→us[j - n8]?=some u'→u'=u):@RG.Kept (nrGrow B0 te n8 us) (fun v w=>∃ N,v=.pointer (some ⟨N,j,none⟩)∧w.cell? ⟨N,j,none⟩=some u):=by
 rintro v w w' ⟨N,h1,h3⟩ hr
 have hr:NR B0 te n8 us w w':=hr
 exact ⟨N,h1,hr.cell h3 hx⟩
variable {P:Program}
theorem wpList_append_lateN {ops:Array Oper} {rest:List Oper} {o:Oper} {a:Act} {Q:Exit→Act→World→Prop} {w:World} (hgd:o.guard=none) (s x:Operand) (tt:TypeId)
  (ho:o.op=.call { callee:=.builtin .append,args:=#[s,x],argTypes:=#[tt,tt] })
  (i:TypeInfo) (z:Value) (size bytes:Nat) (ht:P.underlying tt=some (.slice te)) (hi:P.info? te=some i) (hz:i.zero=some z)
  (hsize:i.size=size) (hby:i.bytes=bytes) (hzs:z.cells.size=size) (hsz:0 < size)
  {v:Value} {n:Nat} {xs:List Value} (H:RowN B0 te size n xs v w) (hs:a.eval s=v) (hxs:xs.length=n*size)
  {B:Nat} {ad:Addr} {m c:Nat} (hx:a.eval x=.slice (some ad) m c) (hr:Reads w B size (some ad) m us) (hm0:0 < m) (h1:∀ u∈us,u.oneCell'=true)
  (hn8:n8=n*size) (hB:B0≤w.heap.size)
  (h63:n+m≤maxLen) (hbytes:(n+m)*bytes≤140737488355328)
  (h:∀ v' w',RowN B0 te size (n+m) (xs++us) v' w'→NR B0 te n8 us w w'→wpList P ops Q rest (a.put o.dst v') w'):wpList P ops Q (o::rest) a w:=by
 subst hn8
 obtain ⟨g,cap,cur,rfl,h2,h3,_h4,h5,h6,h7⟩:=H
 obtain ⟨hm,hcs⟩:=hr
 obtain ⟨ad',had,_,hlit⟩:=hcs hm0
 obtain rfl:=Option.some.inj had
 have hcell:∀ j u,xs[j]?=some u→w.cell? ⟨g,0+j,none⟩=some u:=fun j u hu=>by
  rw [Nat.zero_add,h3.cell]
  have hj:=(List.getElem?_eq_some_iff.1 hu).1
  rw [← h7,List.getElem?_take,if_pos (by omega),Array.getElem?_toList] at hu
  exact hu
 refine wpList_append_arg w hgd s x tt ho te i z size bytes ht hi hz hsize hby hzs hsz g 0 n cap xs hs hxs hcell ad m c us hx hm hlit h1 (fun hr j hj=>?_) h63 hbytes (fun hr=>?_) (fun hr v' w' k1 k2=>?_)
 ·rw [h3.cell,h3.frozen]
  refine ⟨?_,rfl⟩
  have:(n+m)*size≤cap*size:=Nat.mul_le_mul_right _ hr
  rw [Nat.add_mul] at this
  have hlt:0+n*size+j < cur.size:=by omega
  simp
  omega
 ·have hsp:(n+m)*size≤cap*size:=Nat.mul_le_mul_right _ hr
  rw [Nat.add_mul] at hsp
  obtain ⟨cs',b1,b2,b3,b4⟩:=blk_setCells us (0+n*size) w cur h3
  obtain ⟨z1,z2⟩:=setCells_sizes g us (0+n*size) w
  rw [Nat.zero_add] at b1 b3 b4 z1 z2 ⊢
  refine h _ _ ⟨g,cap,cs',rfl,h2,b1,hr,h5,b2.trans h6,?_⟩ ⟨World.os_setCells ..,z2,World.output_setCells ..,by rw [z1];exact Nat.le_refl _,fun k hk=>?_⟩
  ·refine List.ext_getElem? fun j=>?_
   rw [List.getElem?_take]
   by_cases hj:j < (n+m)*size
   ·rw [if_pos hj,Array.getElem?_toList]
    rw [Nat.add_mul] at hj
    by_cases hjn:j < n*size
    ·rw [b3 j (.inl hjn),List.getElem?_append_left (by omega),← h7,List.getElem?_take,if_pos hjn,Array.getElem?_toList]
    ·rw [List.getElem?_append_right (by omega),hxs]
     have:=b4 (j - n*size) (by omega) (by omega)
     rw [show n*size+(j - n*size)=j by omega] at this
     exact this
   ·rw [if_neg hj,List.getElem?_eq_none]
    rw [aK,hxs,hm,← Nat.add_mul];omega
  ·by_cases hkg:k=g
   ·subst hkg
    refine .inr ⟨h2,cur,cs',h3,b1,b2,fun j=>?_⟩
    by_cases hjn:j < n*size
    ·exact .inl (b3 j (.inl hjn))
    ·by_cases hjm:j < n*size+us.length
     ·by_cases hjc:j < cur.size
      ·right
       have:=b4 (j - n*size) (by omega) (by omega)
       rw [show n*size+(j - n*size)=j by omega] at this
       refine ⟨by omega,us[j - n*size]'(by omega),List.getElem?_eq_getElem (by omega),?_⟩
       rw [this,List.getElem?_eq_getElem (by omega)]
      ·left
       rw [Array.getElem?_eq_none (by omega),Array.getElem?_eq_none (by omega)]
     ·exact .inl (b3 j (.inr (by omega)))
   ·exact .inl (World.heap_setCells_other w g _ us hk hkg)
 ·have hbl:Below w.heap.size w w':=⟨k2.os,k2.tape,k2.output,k2.size,fun k hk=>k2.block k hk (by simp)⟩
  rcases k1.2 with ⟨h0,_⟩ | ⟨g',cap',cur',e1,e2,e3,e4,e5,e6,e7⟩
  ·omega
  ·exact h v' w' ⟨g',cap',cur',e1,Nat.le_trans hB e2,e3,e4,e5,e6,e7⟩ (NR.below hbl)
theorem wpList_append_fresh {ops:Array Oper} {rest:List Oper} {o:Oper} {a:Act} {Q:Exit→Act→World→Prop} {w:World} (hgd:o.guard=none) (s x:Operand) (tt:TypeId)
  (ho:o.op=.call { callee:=.builtin .append,args:=#[s,x],argTypes:=#[tt,tt] })
  (i:TypeInfo) (z:Value) (size bytes:Nat) (ht:P.underlying tt=some (.slice te)) (hi:P.info? te=some i) (hz:i.zero=some z)
  (hsize:i.size=size) (hby:i.bytes=bytes) (hzs:z.cells.size=size) (hsz:0 < size)
  {v:Value} (H:RowN B0 te size 0 [] v w) (hv:∃ g,v=.slice (some ⟨g,0,none⟩) 0 0) (hs:a.eval s=v)
  {B:Nat} {A:Option Addr} {m c:Nat} {xs:List Value} (hx:a.eval x=.slice A m c) (hr:Reads w B size A m xs) (h1:∀ u∈xs,u.oneCell'=true)
  (hB:B0≤w.heap.size) (h63:m≤maxLen) (hbytes:m*bytes≤140737488355328)
  (h:∀ v' w',RowN B0 te size m xs v' w'→Below w.heap.size w w'→wpList P ops Q rest (a.put o.dst v') w'):wpList P ops Q (o::rest) a w:=by
 obtain ⟨g,rfl⟩:=hv
 have H0:=H
 obtain ⟨g',cap,cur,e1,h2,h3,_,_,h6,_⟩:=H
 injection e1 with k1 _ k3
 injection k1 with k1
 injection k1 with k1
 subst k1 k3
 have hcs:cur.size=0:=by omega
 obtain ⟨hm,hcl⟩:=hr
 have e0:m=0→xs=[]:=fun e=>List.eq_nil_of_length_eq_zero (by rw [hm,e];omega)
 rcases A with _ | ad
 ·have m0:m=0:=by
   rcases Nat.eq_zero_or_pos m with h0 | h0
   ·exact h0
   ·obtain ⟨ad,h,_⟩:=hcl h0
    cases h
  subst m0
  obtain rfl:=e0 rfl
  have hrun:=run_append_of_nil (P:=P) w 0 tt o.type te i size ht hi _ 0 [] (RowN.owns H0 (by simp) |> fun q=>owns_mono q (Nat.zero_le _)) c
  refine wpList_plain hgd fun _ hK=>?_
  unfold Oper.wp execOp
  simp only [ho,resolve,invoke,builtin,Sem.run_bind,Sem.run_pure,Result.andThen_ok,List.map_toArray,List.map_cons,List.map_nil,hs,hx,hrun]
  exact hK _ _ (h _ _ H0 (Below.refl _ _))
 ·have hlit:∀ j u,xs[j]?=some u→w.cell? (ad.add j)=some u:=fun j u hu=>by
   rcases Nat.eq_zero_or_pos m with h0 | h0
   ·rw [e0 h0] at hu;simp at hu
   ·obtain ⟨ad',had,_,hc⟩:=hcl h0
    obtain rfl:=Option.some.inj had
    exact hc j u hu
  refine wpList_append_arg w hgd s x tt ho te i z size bytes ht hi hz hsize hby hzs hsz g 0 0 0 [] hs (by simp) (fun j u hu=>by simp at hu) ad m c xs hx hm hlit h1 (fun hr j hj=>?_) (by omega) (by rw [Nat.zero_add];exact hbytes) (fun hr=>?_) (fun hr v' w' k1 k2=>?_)
  ·have m0:m=0:=by omega
   rw [e0 m0] at hj;simp at hj
  ·have m0:m=0:=by omega
   subst m0
   obtain rfl:=e0 rfl
   exact h _ _ H0 (Below.refl _ _)
  ·have hbl:Below w.heap.size w w':=⟨k2.os,k2.tape,k2.output,k2.size,fun k hk=>k2.block k hk (by simp)⟩
   simp only [Nat.zero_add,List.nil_append] at k1
   rcases k1.2 with ⟨h0,h00⟩ | ⟨g',cap',cur',e1,e2,e3,e4,e5,e6,e7⟩
   ·omega
   ·exact h v' w' ⟨g',cap',cur',e1,Nat.le_trans hB e2,e3,e4,e5,e6,e7⟩ hbl
end
section
variable {w w' W W':World} {G M:List Nat} {bx:List Box} {rs:List Rw} {r:Rw} {L:List (List Nat→World→Prop)}
variable {P:Program}
theorem wpList_append_rowsB {ops:Array Oper} {rest:List Oper} {o:Oper} {a:Act} {Q:Exit→Act→World→Prop} (hgd:o.guard=none) (s x:Operand) (t:TypeId)
  (ho:o.op=.call { callee:=.builtin .append,args:=#[s,x],argTypes:=#[t,t] })
  (e:TypeId) (i:TypeInfo) (z:Value) (size bytes:Nat) (ht:P.underlying t=some (.slice e)) (hi:P.info? e=some i) (hz:i.zero=some z)
  (hsize:i.size=size) (hby:i.bytes=bytes) (hzs:z.cells.size=size) (hsz:0 < size)
  {v:Value} {n:Nat} {xs:List Value} (H:HR w G M bx (⟨e,size,v,n,xs⟩::rs) L W) (hs:a.eval s=v)
  (B:Nat) (A:Option Addr) (m c:Nat) (news:List Value) (hx:a.eval x=.slice A m c) (hr:Reads W B size A m news) (h1:∀ u∈news,u.oneCell'=true)
  (h63:n+m≤maxLen) (hbytes:(n+m)*bytes≤140737488355328)
  (h:∀ v' W' M',HR w G M' bx (⟨e,size,v',n+m,xs++news⟩::rs) L W'→(v'.ownBlock=v.ownBlock∨v'.ownBlock=some W.heap.size)→wpList P ops Q rest (a.put o.dst v') W'):wpList P ops Q (o::rest) a W :=
 wpList_append_any W hgd s x t ho w.heap.size e i z size bytes ht hi hz hsize hby hzs hsz v n xs hs (H.own _ (.head _)) B A m c news hx hr h1 h63 hbytes H.h.bl.size fun v' W' h2 h3 h4=>by
  have hok:=H.ok _ (.head _)
  have hap:=List.pairwise_cons.1 H.apart
  obtain ⟨M',k1,k2,k3⟩:=H.h.grown hok h3 h4 h2
  refine h v' W' M' ⟨k1,fun r hr=>?_,fun r hr=>?_,List.pairwise_cons.2 ⟨fun s hs g hg1 hg2=>?_,hap.2⟩⟩ h4
  ·rcases aL hr with rfl | hr
   ·exact k2
   ·exact (H.ok r (.tail _ hr)).mono k3
  ·rcases aL hr with rfl | hr
   ·exact h2
   ·refine World.ownsRow.kept (H.own r (.tail _ hr)) h3 ?_
    cases he:r.v.ownBlock with
    | none=>exact .inl rfl
    | some g=>exact .inr fun e=>hap.1 r hr g e.symm he
  ·rcases h4 with he | he
   ·exact hap.1 s hs g (he ▸ hg1) hg2
   ·have k1:=(World.ownsRow.lt (H.own s (.tail _ hs)) g hg2).2
    rw [he] at hg1
    injection hg1 with hg1
    omega
end
theorem sch_rep {M:List Nat} {W:World} {v:Int} {ks:List Knd} {ls:List Lif} {rs:List Rul} {A B C:Option Addr} {nk c nl d nr e:Nat} (hv:inI v) (e1:ks.length=nk) (e2:ls.length=nl) (e3:rs.length=nr) (k1:nk≤c) (k2:c≤9223372036854775807) (k3:nl≤d) (k4:d≤9223372036854775807) (k5:nr≤e) (k6:e≤9223372036854775807) (s1:SlAt M W A ks) (s2:SlAt M W B ls) (s3:SlAt M W C rs):Mem.rep M W ((v,ks,ls,rs):Sch) [.int .i64 v,.slice A nk c,.slice B nl d,.slice C nr e]:=by
 subst e1 e2 e3
 exact ⟨[_],_,rfl,⟨rfl,hv⟩,[_],_,rfl,⟨A,c,rfl,k1,k2,s1⟩,[_],_,rfl,⟨B,d,rfl,k3,k4,s2⟩,⟨C,e,rfl,k5,k6,s3⟩⟩
theorem rul_rep {M:List Nat} {W:World} {a b c d:ByteArray} {n:Int} (h1:a.size≤1000) (h2:b.size≤1000) (h3:c.size≤1000) (h4:d.size≤1000) (h5:inI n):Mem.rep M W ((a,b,c,d,n):Rul) [.string a,.string b,.string c,.string d,.int .i64 n] :=
 ⟨[_],_,rfl,⟨rfl,by show a.size≤_;omega⟩,[_],_,rfl,⟨rfl,by show b.size≤_;omega⟩,[_],_,rfl,⟨rfl,by show c.size≤_;omega⟩,[_],_,rfl,⟨rfl,by show d.size≤_;omega⟩,⟨rfl,h5⟩⟩
def ruleV (a b c:ByteArray) (n:Int):List Value:=[.string ⟨#[102,117,114,116,104,101,114]⟩,.string a,.string b,.string c,.int .i64 n]
theorem ruleV_one (a b c:ByteArray) (n:Int):∀ u∈ruleV a b c n,u.oneCell'=true:=by
 intro u hu
 simp only [ruleV,List.mem_cons,List.not_mem_nil,or_false] at hu
 rcases hu with rfl | rfl | rfl | rfl | rfl <;> rfl
theorem nilN_kept {B0:Nat} {te:TypeId} {n8:Nat} {us:List Value}:@RG.Kept (nrGrow B0 te n8 us) (fun v w=>∃ N,v=.slice (some ⟨N,0,none⟩) 0 0∧B0≤N∧Blk w N te #[]):=by
 rintro v w w' ⟨N,h1,h2,h3⟩ hr
 have hr:NR B0 te n8 us w w':=hr
 rcases hr.old N h3.lt with e | ⟨_,c1,c2,e2,e3,e4⟩
 ·exact ⟨N,h1,h2,e.trans h3⟩
 ·have:=h3.symm.trans e2
  injection this with this
  injection this with h8
  subst h8
  have h0:c2=#[]:=Array.eq_empty_of_size_eq_zero (by have:=e4.1;simpa using this)
  subst h0
  exact ⟨N,h1,h2,e3⟩
theorem nilN_row {B0:Nat} {te:TypeId} {size N:Nat} {w:World} (h2:B0≤N) (h3:Blk w N te #[]):RowN B0 te size 0 [] (.slice (some ⟨N,0,none⟩) 0 0) w:=⟨N,0,#[],rfl,h2,h3,Nat.le_refl _,Nat.zero_le _,by simp,by simp⟩
theorem reads_sli {w:World} {N size m:Nat} {us:List Value} (hl:us.length=m*size) (hm:0 < us.length) (h:∀ j u,us[j]?=some u→w.cell? ⟨N,j,none⟩=some u):Reads w w.heap.size size (some ⟨N,0,none⟩) m us:=by
 refine ⟨hl,fun _=>⟨_,rfl,?_,fun j u hu=>by rw [Addr.add_lit,Nat.zero_add];exact h j u hu⟩⟩
 exact World.block_lt_of_cell? _ _ (h 0 us[0] (List.getElem?_eq_getElem hm))
def mvV (a b:Int):List Value:=[.int .i64 a,.int .i64 b]
theorem mvV_one (a b:Int):∀ u∈mvV a b,u.oneCell'=true:=by
 intro u hu
 simp only [mvV,List.mem_cons,List.not_mem_nil,or_false] at hu
 rcases hu with rfl | rfl <;> rfl
theorem one_one (u:ByteArray):∀ v∈[Value.string u],v.oneCell'=true:=by
 intro v hv
 rw [List.mem_singleton.1 hv];rfl
theorem one_at {u v:Value} {j:Nat} (h:[u][j]?=some v):v=u:=by
 rcases j with _ | j
 ·exact (Option.some.inj h).symm
 ·simp at h
def pickF (rn:Nat) (u:Value) (j:Nat):Option Value:=if j=rn then some u else none
theorem pickF_some {rn j:Nat} {u v:Value} (h:pickF rn u j=some v):j=rn∧v=u:=by
 unfold pickF at h
 split at h
 ·exact ⟨by assumption,(Option.some.inj h).symm⟩
 ·cases h
theorem self_late {us:List Value} {n size:Nat} (hl:us.length=size):∀ j u u',us[j]?=some u→n*size≤j→us[j - n*size]?=some u'→u'=u:=by
 intro j u u' h1 h2 h3
 rcases Nat.eq_zero_or_pos n with h0 | h0
 ·subst h0
  rw [Nat.zero_mul,Nat.sub_zero,h1] at h3
  exact (Option.some.inj h3).symm
 ·have:=(List.getElem?_eq_some_iff.1 h1).1
  have:1*size≤n*size:=Nat.mul_le_mul_right _ h0
  omega
theorem pick_late {rn n8:Nat} {u:Value}:∀ j v v',pickF rn u j=some v→n8≤j→[u][j - n8]?=some v'→v'=v:=by
 intro j v v' h1 _ h3
 rw [one_at h3,(pickF_some h1).2]
theorem one_late {n8 j:Nat} {u:Value}:∀ u',n8≤j→[u][j - n8]?=some u'→u'=u:=fun _ _ h=>one_at h
end Go.Proofs.YtmplaikgbeeikaaGreatDoor
